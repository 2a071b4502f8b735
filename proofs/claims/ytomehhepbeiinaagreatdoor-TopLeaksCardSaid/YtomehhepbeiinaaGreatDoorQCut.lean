/- Walks of single functions. No conditions. -/
import Derived.Test.YtomehhepbeiinaaGreatDoorQIdxB
import Derived.Test.YtomehhepbeiinaaGreatDoorQOr
import Derived.Deep.QuietTactic
import Derived.BigQuiet
import Derived.IntWalk
set_option maxRecDepth 100000
set_option maxHeartbeats 4000000
set_option linter.all false
namespace Go.Proofs.YtomehhepbeiinaaGreatDoor
open Tryz
open Go.RowKit Go.Shelf
attribute [local go_sem] Ek IB
theorem ANz(w n):Below w.heap.size w (w.drewN n):=⟨rfl,rfl,rfl,AZ _,λ_ _=>rfl⟩
def DY(b:AH)(t:AA AH):AA AH×AA AH×Bool:=
 if 0<=Lib.indexByte t b then(t.take (Lib.indexByte t b).toNat,t.drop ((Lib.indexByte t b).toNat+1),true)else(t,[],false)
theorem APS(b:UInt8)(t:List UInt8)(n:t.length<=maxLen)(w:World):Calls prog 265 #[.string (str t),.string ⟨#[b]⟩] w λe l=>e=.returned (.tuple #[.string (str (DY b t).1),.string (str (DY b t).2.1),.bool (DY b t).2.2])/\Below w.heap.size w l:=by
 unfold maxLen at n;have HX:=Lib.hid (λW=>AHd b (str t) W);rw[H6]at HX;have d:=Lib.indexByte_ge t b;have c:=Lz.AJh b t;have f:=Lib.hid (show DY b t=if 0<=Lib.indexByte t b then(t.take (Lib.indexByte t b).toNat,t.drop ((Lib.indexByte t b).toNat+1),true)else(t,[],false)from rfl);revert f;generalize DY b t=r;generalize Lib.indexByte t b=ix at HX d c⊢;intro f;by_cases a:0<=ix
 .obtain⟨k,rfl⟩:∃k:Nat,ix=k:=⟨ix.toNat,oG⟩;obtain⟨v,-⟩:=c k rfl;have h:=AGf t k;have g:=extract_from t (k+1);have j:=Lib.hid h;have i:=Lib.hid g;rw[if_pos a,Int.toNat_natCast]at f;clear c d h g a;rw[f.out];have mixed:=mixedOrders;have x:IntKind.i64.wrap ((k:Int)+1)=(k:Int)+1:=IntWalk.i64_in _ oG;have o:(0:Int)<=(k:Int):=oG;have p:(k:Int)<=t.length:=oG;have q:(0:Int)<=(k:Int)+1:=oG;have s:(k:Int)+1<=t.length:=oG;have u:((k:Int)+1).toNat=k+1:=oG
  go_enter func265,ntmps265
  go_wp2_with (go_at_call 338;refine(HX.out _).mono ?_;rintro e l ⟨rfl,rfl⟩)
  go_quiet (fail)
  go_wp2
  rw[j.out,i.out];refine bodyPost_ret (v:=.tuple #[.string (str (t.take k)),.string (str (t.drop (k+1))),.bool true]) ?_ rfl ⟨rfl,ANz w _⟩;simp[results,f265,go_sem]
 .have m:ix<0:=oG;rw[if_neg a]at f;clear c d a;rw[f.out]
  go_enter func265,ntmps265
  go_wp2_with (go_at_call 338;refine(HX.out _).mono ?_;rintro e l ⟨rfl,rfl⟩)
  refine bodyPost_ret (v:=.tuple #[.string (str t),.string ⟨#[]⟩,.bool false]) ?_ rfl ⟨rfl,Below.refl _ _⟩;simp[results,f265,go_sem]
theorem APT(b t)(c:t.length<=maxLen)(w):Calls prog 185 #[.string (str t),.string ⟨#[b]⟩] w λe d=>e=.returned (.tuple #[.string (str (DY b t).1),.string (str (DY b t).2.1),.bool (DY b t).2.2])/\Below w.heap.size w d:=by
 have HX:=Lib.hid (λW=>APS b t c W);generalize DY b t=r at HX⊢;let⟨x,y,b⟩:=r
 go_enter func185,ntmps185
 go_wp2_with (go_at_call 265;refine(HX.out _).mono ?_;rintro e f ⟨rfl,a⟩)
 refine bodyPost_ret (v:=.tuple #[.string (str x),.string (str y),.bool b]) ?_ rfl ⟨rfl,a⟩;simp[results,f185,go_sem]
end Go.Proofs.YtomehhepbeiinaaGreatDoor
