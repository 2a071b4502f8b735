/- Walks of single functions. No conditions. -/
import Derived.Test.YtomehhepbeiinaaGreatDoorQBut
import Derived.Test.YtomehhepbeiinaaGreatDoorQIdxB
set_option maxRecDepth 100000
set_option maxHeartbeats 4000000
set_option linter.all false
namespace Go.Proofs.YtomehhepbeiinaaGreatDoor
open Tryz
open Go.RowKit Go.Shelf
attribute [local go_sem] Oper.semAt_some Ek IB
theorem AXY(n)(k:1<=n)(B w)(f:B+1<w.heap.size)(c:Boxed w B 9 (.string (str [97])))(d:Boxed w (B+1) 9 (.string ⟨#[38]⟩)):
 SeqStopsK Fence.wide n prog 363 #[.pointer (some ⟨B+1,0,none⟩),.pointer (some ⟨B,0,none⟩),.pointer (some ⟨B+2,0,none⟩)] (λ_:Unit=>#[Value.string (str [97])]) (λ_ _=>True) (· =[()]) (λ_=>True) 1 w:=λl J i W hW _ _ h h0=>by
 have q0:=(Ly c hW oG).cell;have q1:=(Ly d hW f).cell;have HX:=Lib.hid (λW=>ABV 38 (str [97]) W);rw[H6,show Lib.indexByte [97] 38= -1 from rfl]at HX;refine callsIn_of_wp func363 rfl A0 ?_ rfl;simp only[ntmps363,Hn,EW,I8,Nat.reduceAdd,Nat.reduceSub,KA,KB,KJ,KE,Fo,Fj]
 gi_wp2
 gi_loopw [7,8] (λ_ _ wr=>wr=W) (λ_ _ _=>0)
 case atStart=>rfl
 case round=>
  subst hrel;let⟨fn,tmps,assign,body,m,g⟩:=h [] () _ h0 dC
  gi_wp2_with (refine⟨A0,?_⟩;gi_at_call 337;refine(Kq (HX.out _)).mono ?_;rintro e o ⟨rfl,rfl⟩)
  refine g.mono ?_;rintro e j (⟨rfl,b,_⟩|⟨rfl,a⟩)
  all_goals gi_wp2
  all_goals go_end0
  exact⟨⟨_,rfl⟩,.inl ⟨_,rfl,b⟩⟩;exact⟨⟨_,rfl⟩,.inr ⟨_,A0,a⟩⟩
theorem AXa(s w):
 Calls prog 323 #[.string s,.string ⟨#[38]⟩,.int .i64 0] w λe a=>e=.returned (.func (.func 363) #[] #[.pointer (some ⟨w.heap.size+1,0,none⟩),.pointer (some ⟨w.heap.size,0,none⟩),.pointer (some ⟨w.heap.size+2,0,none⟩)])/\a=((w.alloc (.cells #[.string s] 9)).alloc (.cells #[.string ⟨#[38]⟩] 9)).alloc (.cells #[.int .i64 0] 3):=by
 go_enter func323,ntmps323
 go_wp2
 go_ret
 exact⟨rfl,rfl⟩
theorem AXZ(s w):
 Calls prog 248 #[.string s,.string ⟨#[38]⟩] w λe a=>e=.returned (.func (.func 363) #[] #[.pointer (some ⟨w.heap.size+1,0,none⟩),.pointer (some ⟨w.heap.size,0,none⟩),.pointer (some ⟨w.heap.size+2,0,none⟩)])/\a=((w.alloc (.cells #[.string s] 9)).alloc (.cells #[.string ⟨#[38]⟩] 9)).alloc (.cells #[.int .i64 0] 3):=by
 go_enter func248,ntmps248
 go_wp2_with (go_at_call 323;refine(AXa s _).mono ?_;rintro e a ⟨rfl,rfl⟩)
 go_ret
 exact⟨rfl,rfl⟩
end Go.Proofs.YtomehhepbeiinaaGreatDoor
