/- Walks of single functions. No conditions. -/
import Derived.Test.YtomehhepbeiinaaGreatDoorQPrsA
import Derived.Test.YtomehhepbeiinaaGreatDoorQWords
set_option maxRecDepth 100000
set_option maxHeartbeats 4000000
set_option linter.all false
namespace Go.Proofs.YtomehhepbeiinaaGreatDoor
open Tryz
open Go.RowKit Go.Shelf
attribute [local go_sem] Oper.semAt_some Ek IB
theorem AHd(b s w):Calls prog 338 #[.string s,.string ⟨#[b]⟩] w λe c=>e=.returned (.int .i64 (Lib.indexByte s.data.toList b))/\w=c:=by
 have d:=Lib.hid (ByteArray.toList_eq s);cases f:([b]==s.toList)with
 |true=>
  have a:Lib.indexByte s.data.toList b=0:=by rw[<-d.out,<-eq_of_beq f];simp[Lib.indexByte]
  rw[a]
  go_enter func338,ntmps338
  go_wp2
  go_ret
  exact⟨rfl,rfl⟩
 |false=>
  go_enter func338,ntmps338
  go_wp2_with (go_at_call 370;refine(AHb _ _ _).mono ?_;rintro e c ⟨rfl,rfl⟩)
  go_ret
  exact⟨rfl,rfl⟩
theorem ABV(b s w):Calls prog 337 #[.string s,.string ⟨#[b]⟩] w λe a=>e=.returned (.int .i64 (Lib.indexByte s.data.toList b))/\w=a:=by
 go_enter func337,ntmps337
 go_wp2_with (go_at_call 338;refine(AHd _ _ _).mono ?_;rintro e a ⟨rfl,rfl⟩)
 go_ret
 exact⟨rfl,rfl⟩
theorem AGf(l k):(str l).extract 0 k=str (l.take k):=by apply VM;simp[str]
theorem extract_from(l k):(str l).extract k l.length=str (l.drop k):=by apply VM;simp[str];exact Lo sP
end Go.Proofs.YtomehhepbeiinaaGreatDoor
