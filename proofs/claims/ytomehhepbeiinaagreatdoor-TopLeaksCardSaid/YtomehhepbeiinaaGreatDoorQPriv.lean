/- Walks of single functions. No conditions. -/
import Derived.Test.YtomehhepbeiinaaGreatDoorQOr
import Derived.Test.YtomehhepbeiinaaGreatDoorQOrd
set_option maxRecDepth 100000
set_option maxHeartbeats 4000000
set_option linter.all false
namespace Go.Proofs.YtomehhepbeiinaaGreatDoor
open Tryz
open Go.RowKit Go.Shelf
open Lz (Iz Ge Xe ACH)
theorem AW8(k:Nat)(h:k<6):IntKind.u8.wrap (2^k)=((UInt8.ofNat (2^k)).toNat:Int):=by
 match k,h with
 |0,_=>rfl
 |1,_=>rfl
 |2,_=>rfl
 |3,_=>rfl
 |4,_=>rfl
 |5,_=>rfl
theorem AJM(x:Int)(p)(t:x=p.toNat)(w):
 Calls prog 76 #[.int .u8 x] w λe q=>e=.returned (.string (str (Ge p)))/\Below w.heap.size w q:=by
 subst t;let⟨i0,hi,m,n,o⟩:=info_parts QX
 go_enter func76,ntmps76
 go_wp2_with fail
 go_loopw [3,4,5,6] (λv _ _ i wr=>∃k:Nat,k<=6/\i=.int .i64 k/\wr.ownsRow w.heap.size 5 1 v (Iz p k).length ((Iz p k).map GN)/\Below w.heap.size w wr) (λ_ _ _ i _=>6-(intOf i).toNat)
 case atStart=>exact⟨0,oG,rfl,World.ownsRow_nil _ _ _ _,Below.refl _ _⟩
 case round=>
  obtain⟨k,hk,rfl,a,g⟩:=hrel;by_cases h:k<6
  .have s:=AW8 k h;have r:=Xe p k;have l:=g.size;cases hs:Lz.sub (UInt8.ofNat (2^k)) p with
   |true=>
    have b:Iz p (k+1)=Iz p k++[UInt8.ofNat (2^k)]:=by rw[Iz,AW hs]
    have c:=Lib.hid b;have HS:=Lib.hid hs
    go_wp2_with (first|(go_at_call 82;refine(Wu _ _ (UInt8.ofNat (2^k)) p rfl rfl _).mono ?_;rintro e q ⟨rfl,rfl⟩;rw[HS.out])|(at_builtin;refine wpList_append_own _ rfl _ _ 23 rfl w.heap.size 5 i0 (.int .u8 0) 1 1 underlying23 hi m n o rfl dC _ _ _ rfl (a.alloc _) ⟨wr.heap.size,0,none⟩ 1 1 [.int .u8 ((UInt8.ofNat (2^k)).toNat:Int)] rfl rfl (cell_one_new _ _ _) (by simp[Value.oneCell']) lO oG sO ?_;intro v' w1 f d _))
    go_roundw
    case rel=>exact⟨k+1,oG,by go_num,by rw[c.out,Bc,EL];exact f,(g.alloc l _).grown d sO (λj e=>(a.lt j e).1)⟩
    case measure=>simp[intOf];omega
   |false=>
    have b:Iz p (k+1)=Iz p k:=by rw[Iz,hs];rfl
    have c:=Lib.hid b;have HS:=Lib.hid hs
    go_wp2_with (go_at_call 82;refine(Wu _ _ (UInt8.ofNat (2^k)) p rfl rfl _).mono ?_;rintro e q ⟨rfl,rfl⟩;rw[HS.out])
    go_roundw
    case rel=>exact⟨k+1,oG,by go_num,by rw[c.out];exact a,g⟩
    case measure=>simp[intOf];omega
  .obtain rfl:k=6:=oG;have b:=Uu (P:=prog) a underlying23 underlying5 underlying40
   go_wp2
   go_ret
   exact⟨rfl,g⟩
end Go.Proofs.YtomehhepbeiinaaGreatDoor
