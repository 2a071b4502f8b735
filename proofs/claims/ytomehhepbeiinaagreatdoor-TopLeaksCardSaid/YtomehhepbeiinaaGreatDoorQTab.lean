/- Walks of single functions. No conditions. -/
import Derived.Test.YtomehhepbeiinaaGreatDoorQBase
import Derived.Laws.Bits64
set_option maxRecDepth 100000
set_option maxHeartbeats 4000000
set_option linter.all false
namespace Lz
def LZ(b:Nat->Bool):Nat->Nat
 |0=>0
 |k+1=>if b k then LZ b k|||2^k else LZ b k
def ALC(b k):LZ b k<2^k:=by
 induction k with
 |zero=>simp[LZ]
 |succ k c=>
  have a:2^k<2^(k+1):=AD3 dC oG;unfold LZ;split;exact Nat.or_lt_two_pow oG a;omega
def AX4(b k i):(LZ b k).testBit i=(decide (i<k)&&b i):=by
 induction k with
 |zero=>simp[LZ]
 |succ k d=>
  unfold LZ;split;rename_i c;rw[Nat.testBit_or,d,Nat.testBit_two_pow];by_cases h:k=i;subst h;simp[c];simp[h];by_cases a:i<k;simp[a,Nat.lt_succ_of_lt a];have: ¬i<k+1:=oG;simp[a,this];rename_i c;rw[d];by_cases h:k=i;subst h;simp at c;simp[c];by_cases a:i<k;simp[a,Nat.lt_succ_of_lt a];have: ¬i<k+1:=oG;simp[a,this]
def table(f:AA AH):Nat:=LZ (λx=>sat f (UInt8.ofNat x)) 64
def YF(f i):(table f).testBit i=(decide (i<64)&&sat f (UInt8.ofNat i)):=AX4 _ _ _
def ARl(f g):H5 f g↔∀i,i<64->(table f).testBit i->(table g).testBit i:=by unfold H5;rw[Df];constructor;intro h i c;rw[YF,YF];have:=h i (NV.2 c);simp[c]at this⊢;intro d;rcases this with b|b;rw[d]at b;cases b;exact b;intro h i c;have a:=NV.1 c;have:=h i a;rw[YF,YF]at this;simp[a]at this;cases d:sat f (UInt8.ofNat i);rfl;simp[this d]
end Lz
namespace Go.Proofs.YtomehhepbeiinaaGreatDoor
open Go.RowKit
def Gr:Nat:=2^64
def ofInt_u64(a:Nat)(b:a<Gr):(BitVec.ofInt 64 (a:Int)).toNat=a:=by rw[BitVec.ofInt_natCast,BitVec.toNat_ofNat];exact Nat.mod_eq_of_lt b
def ADb(a:Nat)(b:a<Gr):IntKind.u64.wrap (a:Int)=(a:Int):=by rw[IntKind.wrap_u64];have:a<18446744073709551616:=b;omega
def AN6(a b:Nat)(c:a<Gr)(d:b<Gr):bits .or .u64 (a:Int) (b:Int)=((a|||b:Nat):Int):=by have e:a|||b<Gr:=Nat.or_lt_two_pow (n:=64) c d;show IntKind.u64.wrap ((BitVec.ofInt 64 (a:Int)|||BitVec.ofInt 64 (b:Int)).toNat:Int)=_;rw[BitVec.toNat_or,ofInt_u64 a c,ofInt_u64 b d,ADb _ e]
def AN4(a b:Nat)(c:a<Gr)(d:b<Gr):bits .andNot .u64 (a:Int) (b:Int)=((a&&&(Gr-1-b):Nat):Int):=by have e:a&&&(Gr-1-b)<Gr:=Nat.lt_of_le_of_lt Nat.and_le_left c;show IntKind.u64.wrap ((BitVec.ofInt 64 (a:Int)&&& ~~~BitVec.ofInt 64 (b:Int)).toNat:Int)=_;rw[BitVec.toNat_and,BitVec.toNat_not,ofInt_u64 a c,ofInt_u64 b d];exact ADb _ e
def AW7(k:Nat)(h:k<64):IntKind.u64.wrap (2^k)=((2^k:Nat):Int):=by have a:(2:Nat)^k<Gr:=Nat.pow_lt_pow_right dC h;have:=ADb (2^k) a;rw[<-this];congr 1
def YG(f):Lz.table f<Gr:=Lz.ALC _ 64
def ARm(f g):(bits .andNot .u64 (Lz.table f:Int) (Lz.table g:Int)==0)=Lz.H5 f g:=by
 rw[AN4 _ _ (YG f) (YG g),If,Gm,Lz.ARl];constructor;intro h i a c;have b:Lz.table f&&&(Gr-1-Lz.table g)=0:=oG;have:(Lz.table f&&&(Gr-1-Lz.table g)).testBit i=false:=by rw[b];simp
 rw[Nat.testBit_and,c,Sz,show Gr-1-Lz.table g=2^64-(Lz.table g+1)from by unfold Gr;omega,AMp (YG g)]at this;simpa[a]using this;intro h;have b:Lz.table f&&&(Gr-1-Lz.table g)=0:=by apply Nat.eq_of_testBit_eq;intro i;rw[Nat.testBit_and,show Gr-1-Lz.table g=2^64-(Lz.table g+1)from by unfold Gr;omega,AMp (YG g),Nat.zero_testBit];by_cases a:i<64;have:=h i a;cases c:(Lz.table f).testBit i;rfl;rw[this c];simp;simp[a]
 rw[b];rfl
end Go.Proofs.YtomehhepbeiinaaGreatDoor
