/- Walks of single functions. No conditions. -/
import Derived.Test.YtomehhepbeiinaaGreatDoorQHolds
import Derived.Test.YtomehhepbeiinaaGreatDoorQTab
set_option maxRecDepth 100000
set_option maxHeartbeats 4000000
set_option linter.all false
namespace Go.Proofs.YtomehhepbeiinaaGreatDoor
open Tryz
open Go.RowKit Go.Shelf
attribute [local go_sem] Ek
def M2(l:AA AH)(k:Nat):Nat:=Lz.LZ (λx=>Lz.holds l (UInt8.ofNat x)) k
theorem ARH(l k)(h:k<=64):M2 l k<Gr:=OP (Lz.ALC _ k) (Nat.pow_le_pow_right dC h)
theorem ARI(l):M2 (Lz.norm l) 64=Lz.table l:=rfl
theorem AYr(k:Nat):((2:Int)^k)=((2^k:Nat):Int):=(Int.natCast_pow 2 k).symm
theorem ALD(s)(p:s.size<=1000000)(w):
 Calls prog 111 #[.string s] w λe u=>e=.returned (.int .u64 (Lz.table s.data.toList))/\Below w.heap.size w u:=by
 have r:=Ud s.data.toList
 go_enter func111,ntmps111
 go_wp2_with fail
 refine(NB s p _).mono ?_;rintro e x ⟨rfl,l⟩;have m:=Lib.hid (ARI s.data.toList);generalize Lz.norm s.data.toList=n at r m⊢
 go_wp2_with fail
 go_loopw [3,4,7] (λt _ i v=>∃k:Nat,k<=64/\i=.int .u8 k/\t=.int .u64 (M2 n k)/\Below w.heap.size w v) (λ_ _ i _=>64-(intOf i).toNat)
 case atStart=>exact⟨0,oG,rfl,rfl,l⟩
 case round=>
  obtain⟨k,o,rfl,rfl,c⟩:=hrel;by_cases f:k<64
  .have q:=AW7 k f;have g:=AN6 (M2 n k) (2^k) (ARH n k o) (AD3 dC f);have j:=Lib.hid g
   go_wp2_with fail
   refine(ARQ _ (by rw[Ek];omega) _ (UInt8.ofNat k) (by rw[Lz.Qx oG]) _).mono ?_;rintro e y ⟨rfl,d⟩;rw[H6];cases h:Lz.holds n (UInt8.ofNat k)with
   |true=>
    have a:M2 n (k+1)=M2 n k|||2^k:=by unfold M2;rw[Lz.LZ,AW h]
    have b:=Lib.hid a
    go_wp2
    go_roundw
    case rel=>exact⟨k+1,oG,by go_num,by rw[AYr,j.out,b.out],c.trans (d.mono c.size)⟩
    case measure=>simp[intOf];omega
   |false=>
    have a:M2 n (k+1)=M2 n k:=by unfold M2;rw[Lz.LZ,h];rfl
    have b:=Lib.hid a
    go_wp2
    go_roundw
    case rel=>exact⟨k+1,oG,by go_num,by rw[b.out],c.trans (d.mono c.size)⟩
    case measure=>simp[intOf];omega
  .obtain rfl:k=64:=oG
   go_wp2
   go_ret
   exact⟨by rw[<-m.out];rfl,c⟩
theorem Rx(a b:Bp)(h:a.size<=1000000)(i:b.size<=1000000)(w:AI):
 Calls prog 57 #[.string a,.string b] w λe j=>e=.returned (.bool (Lz.H5 a.data.toList b.data.toList))/\Below w.heap.size w j:=by
 have f:=ARm a.data.toList b.data.toList;have g:=Lib.hid f;clear f
 go_enter func57,ntmps57
 go_wp2_with fail
 refine(ALD a h _).mono ?_;rintro e k ⟨rfl,c⟩
 go_wp2_with fail
 refine(ALD b i _).mono ?_;rintro e l ⟨rfl,d⟩
 go_wp2
 go_ret
 exact⟨Qr g.out,c.trans (d.mono c.size)⟩
end Go.Proofs.YtomehhepbeiinaaGreatDoor
