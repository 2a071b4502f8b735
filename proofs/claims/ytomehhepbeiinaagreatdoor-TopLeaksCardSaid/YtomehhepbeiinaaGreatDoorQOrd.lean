/- Walks of single functions. No conditions. -/
import Derived.Test.YtomehhepbeiinaaGreatDoorQMath
set_option maxRecDepth 100000
set_option maxHeartbeats 4000000
set_option linter.all false
namespace Lz
def Iz(p:AH):Nat->AA AH
 |0=>[]
 |k+1=>if sub (UInt8.ofNat (2^k)) p then Iz p k++[UInt8.ofNat (2^k)]else Iz p k
def Ge(p:AH):AA AH:=Iz p 6
def Xe(p k):(Iz p k).length<=k:=by
 induction k with
 |zero=>simp[Iz]
 |succ k a=>
  unfold Iz;split;rw[Bc];simp;omega;omega
def ACH(p):(Ge p).length<=6:=Xe p 6
abbrev AV:=AA AH×AA AH
def Ap(a:AV):AV:=(norm a.1,norm a.2)
def jn(a b:AV):AV:=(and a.1 b.1,or a.2 b.2)
def mt(a b:AV):AV:=(or a.1 b.1,and a.2 b.2)
def fl(a b:AV):Bool:=H5 b.1 a.1&&H5 a.2 b.2
def fb(a b:AV)(p:AH):Bool:=H5 (and b.1 (Ge p)) a.1&&H5 (and a.2 (Ge p)) b.2
def Uq(a:AV):Prop:=Ap a=a
def low:AV:=([],[0])
def high:AV:=([0],[])
def le(a b:AV):Prop:=(∀x,sat b.1 x->sat a.1 x)/\(∀x,sat a.2 x->sat b.2 x)
def Hz{a b}:fl a b↔le a b:=by unfold fl le;rw[Bt,AHZ,AHZ]
def le_refl(a):le a a:=⟨λ_ h=>h,λ_ h=>h⟩
def le_trans{a b c}(h:le a b)(k:le b c):le a c:=⟨λx d=>h.1 x (k.1 x d),λx d=>k.2 x (h.2 x d)⟩
def X1{a}:Uq a↔right a.1/\right a.2:=by unfold Uq Ap right;constructor;intro h;rw[VX]at h;exact h;intro h;rw[VX];exact h
def AWS(a):Uq (Ap a):=X1.2 ⟨Us _,Us _⟩
def AKG(a b):Uq (jn a b):=X1.2 ⟨ACd _ _,AKJ _ _⟩
def AWR(a b):Uq (mt a b):=X1.2 ⟨AKJ _ _,ACd _ _⟩
def AUj{a b}:le (Ap a) b↔le a b:=by unfold le Ap;simp[Uv]
def AS1{a b}:le a (Ap b)↔le a b:=by unfold le Ap;simp[Uv]
def AHk{a b c}:le (jn a b) c↔le a c/\le b c:=by unfold le jn;simp[sat_and,AWu,Bt,Ig];constructor;rintro⟨e,f⟩;exact⟨⟨λx d=>(e x d).1,λx d=>f x (.inl d)⟩,⟨λx d=>(e x d).2,λx d=>f x (.inr d)⟩⟩;rintro⟨⟨e,f⟩,⟨g,h⟩⟩;exact⟨λx d=>⟨e x d,g x d⟩,λx d=>d.elim (f x) (h x)⟩
def ASz(a b):le a (jn a b):=(AHk.1 (le_refl _)).1
def ABk(a):le a high:=⟨λx h=>(by rw[show high.1=[0]from rfl,AWt]at h;cases h),λx _=>AKh x⟩
structure St where
 cur:AV
 Al:AV
def EB(s:St)(l:AV):St×Int:=if fl (jn s.cur l) s.Al then(⟨jn s.cur l,s.Al⟩,0)else(s,-4)
def Cu(s:St)(l:AV):Int:=if fl s.cur l then(if fl l s.Al then 0 else-4)else-3
def P6(s:St)(l:AV):St×Int:=if fl s.cur l&&fl l s.Al then(⟨Ap l,s.Al⟩,0)else(s,Cu s l)
def Iw(s:St)(l:AV):St×Int:=if fl l s.Al then(if fl s.cur l then(⟨s.cur,Ap l⟩,0)else(s,-3))else(s,-4)
def Gs(s:St)(l:AV)(p:AH):St×Int×Bool:=if fb s.cur l p then(if fl l s.Al then(⟨Ap l,s.Al⟩,0,!fl s.cur l)else(s,-4,false))else(s,-3,false)
def Gv(s:St)(l:AV)(p:AH):St×Int×Bool:=if fb l s.Al p then(if fl s.cur l then(⟨s.cur,Ap l⟩,0,!fl l s.Al)else(s,-3,false))else(s,-4,false)
def begun(s:St):St:=⟨Ap s.cur,jn s.cur s.Al⟩
def Ov(a):fl a a:=Hz.2 (le_refl a)
end Lz
