/- Part 4 of the proof of TopErased. No conditions. -/
import Derived.Test.YtomehhepbeiinaaGreatDoorZ03
set_option maxRecDepth 100000
set_option maxHeartbeats 4000000
set_option linter.all false
open List renaming length->lN
open Option renaming some->sM,none->nO
open Bool renaming true->tT,false->fF
open Go.Value renaming string->vS,bool->vB
open Go.IntKind renaming i64->iK
namespace Lz
variable{m:AT}{M:UInt8->Prop}{AC thr':List AL}{A:AL}{k:Call}{s r:Az}
structure VE(m:AT)(AC thr':AA AL)(s r:Az):Prop where
 th:∀id,Cr m thr' id=Cr m AC id
 st:Ca m s r
def VE.refl(AC s):VE m AC AC s s:=⟨λ_=>rfl,Ca.refl _⟩
def VE.trans{a b c x y z}(h:VE m a b x y)(k:VE m b c y z):VE m a c x z:=⟨λd=>(k.th d).trans<|h.th d,h.st.trans k.st⟩
def T5{t}(h:fl (EF t 0) m=fF):C4 t m=nO:=by have e:CF t m=0:=AED (Bm _) (λj a=>absurd a<|Xx _) λ_=>h;rw[C4];simp only[e];rw[AY oG,Ac trivial]
def FI.AJq(h:FI m M AC A k)(a:fl A.g.Ad m=fF):C4 k.t m=C4 A m:=by refine WO h.id (Ag _) ?_ (by rw[h.EI,FN]) (by rw[Cx];rwa[Ik]) (h.hid a) λs b=>h.cut s<|Fg b;have:=Dt List.length h.EI;rw[Cu]at this;omega
def ADW(h:Inv m AC s k)(hc:k.t.AI=[]->∀o,Am s k.t.id=some o->o.kind=6->fl o.l m=false)(v)(ex:Bool):Inv m AC s (E7 k v ex):=by
 rw[E7];dsimp only;split;exact⟨h.B0,h.BU,h.out,h.BY⟩
 .rename_i a;have c:k.t.AI=[]:=by have a: ¬((if 0<k.t.AI.length then 2 else if ex then 4 else 3)≠3/\(if 0<k.t.AI.length then 2 else if ex then 4 else 3)≠4):=a;by_cases h0:0<k.t.AI.length;rw[if_pos h0]at a;exact absurd (show(2≠3/\2≠4) by decide) a;exact List.length_eq_zero_iff.1 oG
  have hk:=hc c;refine⟨?_,h.BU,h.out,h.BY⟩;show Ca m s (match Am k.s (Fq k.t v ex).id with|some o=>if o.kind=6 then Cn k.s (Fq k.t v ex).id {o with v:=v,ex:=ex,done:=true}else k.s|none=>k.s);split
  .rename_i o f;split
   .rename_i d;have b:fl o.l m=false:=by
     cases e:fl o.l m with
     |false=>rfl
     |true=>
      have:=hk o (h.B0.symm.some_ f e) d;rw[e]at this;cases this
    exact h.B0.trans λq=>(Xe (o:={o with v:=v,ex:=ex,done:=true}) b q).symm
   exact h.B0
  exact h.B0
def AFC(h:Inv m AC s k)(d:k.t.AI=[]->∀o,Am s k.t.id=sM o->o.kind=6->fl o.l m=fF)(c)(b:Int)(a:Nat):Inv m AC s (EH k c b a):=by rw[EH];split;exact ADW (k:={k with t:={k.t with c:=by assumption}}) ⟨h.B0,h.BU,h.out,h.BY⟩ d _ _;exact⟨h.B0,h.BU,h.out,h.BY⟩
def cell_of(h:KI m M AC s){t:AL}(f:t∈AC)(c:fl t.g.Ad m=fF){u:AL}(hid:u.id=t.id)(d:u.AI=t.AI):u.AI=[]->∀o,Am s u.id=sM o->o.kind=6->fl o.l m=fF:=λe o a b=>by rw[hid]at a;refine Yg h f ?_ a b;rw[d]at e;rw[EF];rwa[e]
def KM(k:Call)(r:CR):Prop:=r.2≠nO->∃g,r.1=k.Bp g
def KM.none{k a}:KM k (a,nO):=λh=>(h rfl).elim
def KM.Cq(x):KM k (k,x):=λ_=>⟨k.t.g,rfl⟩
def KM.g(g x):KM k (k.Bp g,x):=λ_=>⟨g,rfl⟩
def AI9{l f}(a:∀g,KM k<|f<|k.Bp g):KM k (G1 k l f):=by rw[G1];split;exact .Cq _;exact a _
def AI8{l f}(a:∀g,KM k<|f<|k.Bp g):KM k (Ga k l f):=by rw[Ga];split;exact .Cq _;exact a _
def Y4{o}:KM k (Fv k o):=by rw[Fv];split;exact .Cq _;split;exact .Cq _;exact .none
def Y5{x f}(a:∀g o,KM k<|f (k.Bp g) o):KM k (Ff k x f):=by refine AI9 λg=> ?_;split;exact .none;exact a _ _
def AJA{g o}:KM k (Ej (k.Bp g) o):=by rw[Ej];split;exact .g _ _;exact .none
def AHZ{im AD o AR l}:KM k (CO im AD o AR l k):=by rw[CO];dsimp only;split;exact .none;exact .none;split;exact .Cq _;exact AI9 λ_=>.none;split;exact .Cq _;split;exact .Cq _;exact .none;split;exact .Cq _;exact Y4;split;exact .Cq _;exact Y5 λ_ _=>AJA;split;exact .Cq _;exact Y4;split;exact .Cq _;exact Y5 λ_ _=>.none;split;exact .Cq _;split;exact .Cq _;split<;>exact .none;split;exact .Cq _;exact Y4;split;exact .Cq _;refine AI8 λg=> ?_;split;exact .none;split<;>exact .none;split;exact .Cq _;refine AI8 λg=> ?_;split;exact .none;split<;>exact .none;split;exact .Cq _;split;exact .Cq _;split;exact .Cq _;split;exact .Cq _;exact .none;split;exact .Cq _;refine Y5 λ_ _=> ?_;split;exact AJA;exact .none;split;exact .Cq _;split;exact .none;exact .Cq _;split;exact .Cq _;split;exact .Cq _;exact .none;split;exact .Cq _;split;exact .Cq _;exact .none;split;exact .Cq _;split;exact .Cq _;exact .none;split;exact .Cq _;exact Y4;split;exact .Cq _;refine Y5 λg _=> ?_;split;exact .none;exact .g _ _;exact .none
def ASg{im AD}(h:KI m M AC s){t}(n:Af AC t.id=sM t)(b:fl t.g.Ad m=fF):Inv m AC s (C6 im t s AD):=by
 have a:=D2 n;have l:Inv m AC s ⟨s,t,A8⟩:=Inv.Mq rfl rfl;rw[C6];split;exact l;dsimp only;cases u:(Es im t.c (CV t).1 (CV t).2).2 with
 |Iu=>exact Inv.Mq rfl rfl
 |ended v=>exact ADW (k:=⟨s,{t with c:=(Es im t.c (CV t).1 (CV t).2).1},A8⟩) (Inv.Mq rfl rfl) (cell_of h a b rfl rfl) _ _
 |failed v=>exact ADW (k:=⟨s,{t with c:=(Es im t.c (CV t).1 (CV t).2).1},A8⟩) (Inv.Mq rfl rfl) (cell_of h a b rfl rfl) _ _
 |asked o=>
  show Inv m AC s<|Gt im AD (CV t).2 o ⟨s,t,A8⟩;rw[Gt];dsimp only;have d:=AQV (im:=im) (AD:=AD) (o:=o) (AR:=(t.c.top.getD Al).AR) (l:=Ct t.c<|BP o.code) (k:=⟨s,{t with c:=D4 (FR t.c<|BP o.code) λf=>{f with pc:=f.pc+1}},A8⟩) h.qok rfl b;have j:=AHZ (im:=im) (AD:=AD) (o:=o) (AR:=(t.c.top.getD Al).AR) (l:=Ct t.c<|BP o.code) (k:=⟨s,{t with c:=D4 (FR t.c<|BP o.code) λf=>{f with pc:=f.pc+1}},A8⟩);generalize CO im AD o _ _ _=q at d j;obtain⟨p,_|i⟩:=q;exact d;obtain⟨g,e⟩:=j sP;have e:p=_:=e;refine AFC d (cell_of h a b ?_ ?_) _ _ _;rw[e];rfl;rw[e];rfl
def Sy{t n}(b:n<=lN t.AI)(a:Cx t m n=fF)(c:∀x∈t.AI.take n,x.Cg<=lN t.c.stack)(l):C4 (DX t l) m=C4 t m:=
 WO rfl b b rfl a (by rw[Cx,EF]at a⊢;exact a) λx d=>AST (c x d) l
def Vh{P t}(h:TI m P M t):∀x∈t.AI,x.Cg<=lN t.c.stack:=λx a=>(h.at_ x a).ht
def AJY{l u}(b:Af l u.id=nO)(a:fl u.g.Ad m=fF)(c:u.AI=[])(id):Cr m (CC l u) id=Cr m l id:=by unfold Cr;rw[Mp];split;rename_i e;rw[e,b];show C4 u m=nO;refine T5 ?_;unfold EF;rw[c];exact a;rfl
def AMk(h:KI m M AC s)(G:KQ s){t}(a:Af AC t.id=sM t)(u:t.Aw=1){o}(E:Am s t.on=sM o)(I:o.kind=6)(j:fl t.g.Ad m=fF):
 C4 (Dv t s o.v o.ex).t m=C4 t m/\Ca m s (Dv t s o.v o.ex).s/\((Dv t s o.v o.ex).e.done->t.AI=[]):=by
 have H:∀n g,Am s n=sM g->∀w∈g.var.q,w.id≠t.id:=λn g p w c e=>by let⟨J,b,_,F,_⟩:=(h.Dn n g p).2 w c;rw[e,a]at b;cases b;rw[F,p]at E;cases E;rw[G n o p oG]at c;cases c
 have c:∀l,C4 (DX t l) m=C4 t m:=λl=>Sy (Ag _) (by rw[Cx];rwa[Ik]) (λx D=>Vh (h.of a) x<|Fg D) l;rw[Dv];split;exact⟨c _,Ca.refl _,λq=>by cases q⟩;have b:=h.wake a u H nA;rw[Gi]at b;simp[a]at b;have y:Af (A1 AC<|DX t []) (DX t []).id=sM (DX t []):=RD a rfl;have f:=b.YS y rfl;refine⟨((f.raise f rfl λx D=>(ADa (h.of a) x D).2).AJq j).trans<|c _,(AFC (AC:=AC) (k:=⟨s,DX t [],A8⟩) (Inv.Mq rfl rfl) (cell_of h (D2 a) j rfl rfl) _ _ _).B0,λq=> ?_⟩;rw[EH]at q;split at q;rw[E7]at q;dsimp only at q;split at q;cases q;rename_i d;by_cases f:0<lN t.AI;exfalso;apply d;show(if 0<lN t.AI then 2 else if tT then 4 else 3)≠3/\(if 0<lN t.AI then 2 else if tT then 4 else 3)≠4;rw[Ac f];decide;exact ABe.1 oG;cases q
def V3:∀(n:Nat) {k:Ap} (w:Nm),KK m M k->(∀o,Am k.Ah w=sM o->o.kind=6->fl o.l m=fF)->VE m k.AC (GD n k w).AC k.Ah (GD n k w).Ah
 |0,_,_,_,_=>.refl _ _
 |n+1,k,w,h,hid=>by
  rw[GD];refine(NC (P:=λa:Ap=>KK m M a/\VE m k.AC a.AC k.Ah a.Ah) (λa x B=> ?_) _ ⟨h,.refl _ _⟩).2;let⟨b,i⟩:=B;split;exact⟨b,i⟩;rename_i t v;split;exact⟨b,i⟩;rename_i j;simp[Jk,Ka]at j;split;exact⟨b,i⟩;rename_i o H;split;exact⟨b,i⟩;rename_i u;simp[Jk,Ka]at u;have c:=E2 v;have f:Am a.Ah t.on=sM o:=by rwa[j.2]
  have l:fl o.l m=fF:=by
   cases e:fl o.l m with
   |false=>rfl
   |true=>
    have:=hid o (i.st.symm.some_ H e) u.1;rw[e]at this;cases this
  have G:fl t.g.Ad m=fF:=by
   cases e:fl t.g.Ad m with
   |false=>rfl
   |true=>
    let⟨O,F,J⟩:=b.ki.H8 t (D2 v) j.1 e;rw[f]at F;cases F;rw[J]at l;cases l
  have g:Af a.AC t.id=sM t:=by rwa[c]
  have D:=Q9 b.ki b.kq g j.1 f u.1;let⟨L,I,N⟩:=AMk b.ki b.kq g j.1 f u.1 G;have d:KK m M {a with Ah:=(Dv t a.Ah o.v o.ex).s,AC:=A1 a.AC (Dv t a.Ah o.v o.ex).t}:=⟨D.1,D.2.1⟩;have p:VE m k.AC (A1 a.AC (Dv t a.Ah o.v o.ex).t) k.Ah (Dv t a.Ah o.v o.ex).s:=i.trans ⟨λq=>U4 g D.2.2 L q,I⟩;dsimp only;split;rename_i z;refine⟨Yw n x d,p.trans<|V3 n x d λo2 C y=> ?_⟩;cases e:fl o2.l m with
  |false=>rfl
  |true=>
   have:=Yg b.ki (D2 v) (by rw[EF];rwa[N z]) (by rw[c];exact I.symm.some_ C e) y;rw[e]at this;cases this
  exact⟨d,p⟩
def ND(k:Call)(r:CR):Prop:=r.1.e.done=k.e.done
def ALU{l f}(a:∀g,ND k<|f<|k.Bp g):ND k (G1 k l f):=by rw[G1];split;exact rfl;exact a _
def ALT{l f}(a:∀g,ND k<|f<|k.Bp g):ND k (Ga k l f):=by rw[Ga];split;exact rfl;exact a _
def Z7{o}:ND k (Fv k o):=by rw[Fv];split;exact rfl;split<;>exact rfl
def Z8{x f}(a:∀g o,ND k<|f (k.Bp g) o):ND k (Ff k x f):=by refine ALU λg=> ?_;split;exact rfl;exact a _ _
def ALV{g o}:ND k (Ej (k.Bp g) o):=by rw[Ej];split<;>exact rfl
def ALW{a b l x}(h:a.e.done=k.e.done):ND k (EO a b l,x):=by rw[EO];split<;>exact h
def AQY{c b o a l}:ND k (CO c b o a l k):=by rw[CO];dsimp only;split;exact rfl;exact rfl;split;exact rfl;exact ALU λ_=>rfl;split;exact rfl;split<;>exact rfl;split;exact rfl;exact Z7;split;exact rfl;exact Z8 λ_ _=>ALV;split;exact rfl;exact Z7;split;exact rfl;exact Z8 λ_ _=>rfl;split;exact rfl;split;exact rfl;split<;>exact rfl;split;exact rfl;exact Z7;split;exact rfl;refine ALT λg=> ?_;split;exact rfl;split;exact rfl;exact ALW rfl;split;exact rfl;refine ALT λg=> ?_;split;exact rfl;split;exact rfl;exact ALW rfl;split;exact rfl;split;exact rfl;split;exact rfl;split<;>exact rfl;split;exact rfl;refine Z8 λ_ _=> ?_;split;exact ALV;exact rfl;split;exact rfl;split<;>exact rfl;split;exact rfl;split<;>exact rfl;split;exact rfl;split;exact rfl;show(if _ then _ else k.e).done=k.e.done;split<;>exact rfl;split;exact rfl;split;exact rfl;show(if _ then _ else k.e).done=k.e.done;split<;>exact rfl;split;exact rfl;exact Z7;split;exact rfl;refine Z8 λg _=> ?_;split<;>exact rfl;exact rfl
def AQX{im AD o AR l k}(h:k.e.done=fF):(CO im AD o AR l k).1.e.done=fF:=AQY.trans h
def ADT(k v)(b:Bool)(d:k.e.done=fF)(h:(E7 k v b).e.done):(E7 k v b).t.AI=[]:=by rw[E7]at h⊢;dsimp only at h⊢;split at h;rw[d]at h;cases h;rename_i a;rw[AY a];show k.t.AI=[];by_cases c:0<lN k.t.AI;exfalso;apply a;show(if 0<lN k.t.AI then 2 else if b then 4 else 3)≠3/\(if 0<lN k.t.AI then 2 else if b then 4 else 3)≠4;rw[Ac c];decide;exact ABe.1 oG
def AaR(k c)(b:Int)(a:Nat)(d:k.e.done=fF)(h:(EH k c b a).e.done):(EH k c b a).t.AI=[]:=by rw[EH]at h⊢;split at h;exact ADT _ _ _ d h;rw[d]at h;cases h
def AC7{im t s AD}(h:(C6 im t s AD).e.done):(C6 im t s AD).t.AI=[]:=by rw[C6]at h⊢;split;rename_i q;rw[Ac q]at h;cases h;rename_i q;rw[AY q]at h;dsimp only at h⊢;split at h;cases h;exact ADT _ _ _ rfl h;exact ADT _ _ _ rfl h;rename_i o e;show(Gt im AD (CV t).2 o ⟨s,t,A8⟩).t.AI=[];have h:(Gt im AD (CV t).2 o ⟨s,t,A8⟩).e.done:=h;rw[Gt]at h⊢;dsimp only at h⊢;have a:=AQX (im:=im) (AD:=AD) (o:=o) (AR:=(t.c.top.getD Al).AR) (l:=Ct t.c<|BP o.code) (k:=⟨s,{t with c:=D4 (FR t.c<|BP o.code) λf=>{f with pc:=f.pc+1}},A8⟩) rfl;generalize CO im AD o _ _ _=r at h a⊢;obtain⟨d,_|b⟩:=r;have h:d.e.done:=h;have a:d.e.done=fF:=a;rw[a]at h;cases h;exact AaR _ _ _ _ a h
def Aa7{k}(P:IQ k.im)(hM:∀a b,M a->M (a&&&b))(h:KK m M k){J t}(l:Af k.AC J=sM t)(F:fl t.g.Ad m=fF)(S:∀x∈(C6 k.im t k.Ah k.AD).e.Bo,Hr m x.AR)
 (V:lN (C6 k.im t k.Ah k.AD).e.BY<=1) (C:lN (C6 k.im t k.Ah k.AD).e.BU<=1):
 VE m k.AC (runK k J).1.AC k.Ah (runK k J).1.Ah/\D9 (runK k J).1 m=D9 k m:=by
 have hid:=E2 l;subst hid;unfold runK;rw[l];dsimp only;split;exact⟨.refl _ _,rfl⟩;rename_i p;have p:t.Aw=0:=oG;have d:=Tl P hM (AD:=k.AD) h.ki l p S;have i:=ASg (im:=k.im) (AD:=k.AD) h.ki l F;have R:=AEF (im:=k.im) (t:=t) (AD:=k.AD) h.kq;have N:=AC7 (im:=k.im) (t:=t) (s:=k.Ah) (AD:=k.AD);have hnew:∀u∈(C6 k.im t k.Ah k.AD).e.BU,Af k.AC u.id=nO:=λu j=>by
  rcases (AC8 (AD:=k.AD) p λv hv=>((h.ki.of l).FL.st v hv).Cj) with L|⟨x,L,n⟩;rw[L]at j;cases j;rw[L]at j;rw[A9.1 j,n];cases e:Af k.AC (t.Bg++[t.A7])with
  |none=>rfl
  |some y=>
   exfalso;have g:=E2 e;exact h.ki.FQ t (D2 l) (t.Bg,t.A7) (by unfold Fu;rw[p];simp) t.A7 (Ag _) y.id (.inr ⟨y,D2 e,DT⟩) (by rw[g];exact Xt _)
 generalize C6 k.im t k.Ah k.AD=r at*;have Y:VE m k.AC (A1 k.AC r.t) k.Ah r.s:=⟨λq=>U4 l d.id (d.AJq F) q,i.B0⟩;have G:∀u∈r.e.BU,u.id≠t.id:=λu j e=>by have:=hnew u j;rw[e,l]at this;cases this
 have K:VE m k.AC (r.e.BU.foldl CC<|A1 k.AC r.t) k.Ah r.s:=by
  rcases Ii C with e|⟨u,e⟩;rw[e];exact Y;have j:u∈r.e.BU:=by rw[e];exact DT
  let⟨q1,q2⟩:=i.BU u j;rw[e];refine⟨λq=> ?_,Y.st⟩;show Cr m (CC (A1 k.AC r.t) u) q=_;rw[AJY (by rw[Sr<|by rw[d.id];exact G u j];exact hnew u j) q1 q2,Y.th]
 have v3:VE m k.AC (r.e.BY.foldl Gi<|r.e.BU.foldl CC<|A1 k.AC r.t) k.Ah r.s:=by
  rcases Ii V with e|⟨w,e⟩;rw[e];exact K;have W:w∈r.e.BY:=by rw[e];exact DT
  rw[e];refine⟨λq=> ?_,K.st⟩;show Cr m (Gi (r.e.BU.foldl CC<|A1 k.AC r.t) w) q=_;unfold Gi;split;rename_i y g;have H:=E2 g;have U:C4 (DX y w.2) m=C4 y m:=by
   by_cases I:w.1=t.id
   ·
    have X:y=r.t:=by
     have:Af (r.e.BU.foldl CC<|A1 k.AC r.t) w.1=sM r.t:=by
      have Z:Af (A1 k.AC r.t) w.1=sM r.t:=by rw[I,<-d.id];exact RD l d.id
      rcases Ii C with e|⟨u,e⟩;rw[e];exact Z;rw[e];show Af (CC (A1 k.AC r.t) u) w.1=sM r.t;rw[Mp,AY<|by rw[I];exact λq=>G u (by rw[e];exact DT) q.symm];exact Z
     rw[g]at this;exact FX this
    subst X;have hl:lN t.AI<=lN r.t.AI:=by have:=Dt List.length d.EI;rw[Cu]at this;omega
    refine Sy hl (d.hid F) (λx n=> ?_) _;rw[d.EI]at n;have F:=Vh (h.ki.of l) x n;have:=Dt (λc:Ay=>lN c.stack)<|d.cut x n;simp[Dp,Ee,Cu]at this;omega
   have z:(∃u∈r.e.BU,y=u)\/Af k.AC w.1=sM y:=by rcases Ii C with e|⟨u,e⟩;rw[e]at g;have g:Af (A1 k.AC r.t) w.1=sM y:=g;rw[Sr<|by rw[d.id];exact I]at g;exact .inr g;rw[e]at g;have g:Af (CC (A1 k.AC r.t) u) w.1=sM y:=g;rw[Mp]at g;split at g;cases g;exact .inl ⟨_,by rw[e];exact DT,rfl⟩;rw[Sr<|by rw[d.id];exact I]at g;exact .inr g
   rcases z with⟨u,j,e2⟩|z;subst e2;let⟨q1,q2⟩:=i.BU y j;exact Sy (n:=0) (Bm _) (by unfold Cx EF;rw[q2];exact q1) (λx n=>by simp at n) _;exact Sy (Ag _) (by unfold Cx;rw[Ik];exact i.BY w W y z) (λx n=>Vh (h.ki.of z) x<|Fg n) _
  rw[U4 (t:=y) (u:=DX y w.2) (by rw[H];exact g) rfl U,K.th];exact K.th q
 have Q:KK m M {k with Ah:=r.s,AC:=r.e.BY.foldl Gi<|r.e.BU.foldl CC<|A1 k.AC r.t,Bj:=k.Bj++r.e.out.map λx:AT×AW=>(⟨k.AD,t.id,x.1,x.2⟩:FU),B5:=k.B5++r.e.Bo.map λx:Gr=>(⟨k.AD,t.id,x⟩:Lk)}:=⟨d.ki,R⟩;have B:(k.Bj++r.e.out.map λx:AT×AW=>(⟨k.AD,t.id,x.1,x.2⟩:FU)).filter (λf=>fl f.l m)=k.Bj.filter λf=>fl f.l m:=by
  rw[VK];have:(r.e.out.map λx:AT×AW=>(⟨k.AD,t.id,x.1,x.2⟩:FU)).filter (λf=>fl f.l m)=[]:=by rw[AGT];intro f hf;let⟨x,n,e⟩:=BI.1 hf;subst e;have:=i.out x n;simp[this]
  rw[this,Hn]
 rw[Oz];split;rename_i hd;refine⟨v3.trans<|V3 _ _ Q λo T h6=> ?_,?_⟩;have D:=N hd;have D:t.AI=[]:=by have:=d.EI;rw[D]at this;simpa using this.symm
 cases e:fl o.l m with
 |false=>rfl
 |true=>
  have T:Am r.s t.id=sM o:=T;have:=Yg h.ki (D2 l) (by unfold EF;rw[D];exact F) (i.B0.symm.some_ T e) h6;rw[e]at this;cases this
 unfold D9;rw[(Kp _ _ _).2.1];exact B;exact⟨v3,B⟩
variable{A S:Nat}
def WN(AC:AA AL)(k:Call)(r:CR):Prop:=r.1.e.BY=k.e.BY\/∃w t,r.1.e.BY=k.e.BY++[w]/\Af AC w.1=sM t
def AOn{l f}(a:∀g,WN AC k<|f<|k.Bp g):WN AC k (G1 k l f):=by rw[G1];split;exact .inl rfl;exact a _
def AOm{l f}(a:∀g,WN AC k<|f<|k.Bp g):WN AC k (Ga k l f):=by rw[Ga];split;exact .inl rfl;exact a _
def ABH{o}:WN AC k (Fv k o):=by rw[Fv];split;exact .inl rfl;split<;>exact .inl rfl
def ABI{x f}(a:∀g o,WN AC k<|f (k.Bp g) o):WN AC k (Ff k x f):=by refine AOn λg=> ?_;split;exact .inl rfl;exact a _ _
def AOo{g o}:WN AC k (Ej (k.Bp g) o):=by rw[Ej];split<;>exact .inl rfl
def AOp{c a l x}(h:c.e.BY=k.e.BY)(hid:a=[]\/∃t,Af AC a=sM t):WN AC k (EO c a l,x):=by rw[EO];split;exact .inl h;rename_i b;rcases hid with q|⟨t,d⟩;exact(b q).elim;exact .inr ⟨(a,l),t,by show c.e.BY++_=_;rw[h],d⟩
def AQb{im AD o AR l}(f:∀n o,Am k.s n=sM o->∀w∈o.var.q,∃t,Af AC w.id=sM t):WN AC k (CO im AD o AR l k):=by
 rw[CO];dsimp only;split;exact .inl rfl;exact .inl rfl;split;exact .inl rfl;exact AOn λ_=>.inl rfl;split;exact .inl rfl;split<;>exact .inl rfl;split;exact .inl rfl;exact ABH;split;exact .inl rfl;exact ABI λ_ _=>AOo;split;exact .inl rfl;exact ABH;split;exact .inl rfl;exact ABI λ_ _=>.inl rfl;split;exact .inl rfl;split;exact .inl rfl;split<;>exact .inl rfl;split;exact .inl rfl;exact ABH;split;exact .inl rfl;refine AOm λg=> ?_;split;exact .inl rfl;rename_i b a;split;exact .inl rfl;refine AOp rfl ?_;rcases AFe (x:=b.var) (id:=k.t.id)with e|⟨w,d,e⟩;exact .inl e;let⟨t,c⟩:=f _ b (HV a).1 w d;exact .inr ⟨t,by rw[<-c,e];rfl⟩;split;exact .inl rfl;refine AOm λg=> ?_;split;exact .inl rfl;rename_i b a;split;exact .inl rfl;refine AOp rfl ?_;rcases AFB (x:=b.var) (id:=k.t.id) (v:=l.getD 1 AZ)with e|⟨w,d,e⟩;exact .inl e;let⟨t,c⟩:=f _ b (HV a).1 w d;exact .inr ⟨t,by rw[<-c,e];rfl⟩;split;exact .inl rfl;split;exact .inl rfl;split;exact .inl rfl;split<;>exact .inl rfl;split;exact .inl rfl;refine ABI λ_ _=> ?_;split;exact AOo;exact .inl rfl;split;exact .inl rfl;split<;>exact .inl rfl;split;exact .inl rfl;split<;>exact .inl rfl;split;exact .inl rfl;split;exact .inl rfl;left;show(if _ then _ else k.e).BY=k.e.BY;split<;>rfl;split;exact .inl rfl;split;exact .inl rfl;left;show(if _ then _ else k.e).BY=k.e.BY;split<;>rfl;split;exact .inl rfl;exact ABH;split;exact .inl rfl;refine ABI λg _=> ?_;split<;>exact .inl rfl;exact .inl rfl
def ASj{im t s AD}(i:∀n o,Am s n=sM o->∀w∈o.var.q,∃t,Af AC w.id=sM t):∀w∈(C6 im t s AD).e.BY,∃t',Af AC w.1=sM t':=by
 rw[C6];split;intro w a;cases a;dsimp only;split;intro w a;cases a;intro w a;rw[(MW _ _ _).2.2]at a;cases a;intro w a;rw[(MW _ _ _).2.2]at a;cases a;rename_i o p;show∀w∈(Gt im AD (CV t).2 o ⟨s,t,A8⟩).e.BY,∃t',Af AC w.1=sM t';rw[Gt];dsimp only;have h:=AQb (AC:=AC) (im:=im) (AD:=AD) (o:=o) (AR:=(t.c.top.getD Al).AR) (l:=Ct t.c<|BP o.code) (k:=⟨s,{t with c:=D4 (FR t.c<|BP o.code) λf=>{f with pc:=f.pc+1}},A8⟩) i;have g:∀e:Eff,(e.BY=A8.BY\/∃w t,e.BY=A8.BY++[w]/\Af AC w.1=sM t)->∀w∈e.BY,∃t',Af AC w.1=sM t':=λe d w a=>by
  rcases d with d|⟨m,t',d,j⟩;rw[d]at a;cases a;rw[d]at a;have:w=m:=by simpa[A8]using a
  exact⟨t',by rwa[this]⟩
 generalize CO im AD o _ _ _=r at h;obtain⟨l,_|b⟩:=r;exact g _ h;show∀w∈(EH l _ b _).e.BY,_;rw[(Q7 _ _ _ _).2.2];exact g _ h
def AOg:∀(l:AA<|Nm×AA AW)(AC:AA AL),(l.foldl Gi AC).map (·.id)=AC.map (·.id)
 |[],_=>rfl
 |w::l,AC=>by rw[Xq,AOg l];rw[Gi];split;rw[A1];rw[Gk];apply JD;intro x _;show(if x.id==_ then _ else x).id=x.id;split;rename_i e;exact(eq_of_beq e).symm;rfl;rfl
def Fb(k:Ap)(a:Nm)(r:Call):Ap:={k with Ah:=r.s,AC:=r.e.BY.foldl Gi<|r.e.BU.foldl CC<|A1 k.AC r.t,Bj:=k.Bj++r.e.out.map λx:AT×AW=>(⟨k.AD,a,x.1,x.2⟩:FU),B5:=k.B5++r.e.Bo.map λx:Gr=>(⟨k.AD,a,x⟩:Lk)}
def run_eq{k a t}(c:Af k.AC a=sM t)(b:t.Aw=0):runK k a=(if(C6 k.im t k.Ah k.AD).e.done then GD (lN (Fb k a<|C6 k.im t k.Ah k.AD).AC+1) (Fb k a<|C6 k.im t k.Ah k.AD) a else Fb k a<|C6 k.im t k.Ah k.AD,tT):=by rw[runK];rw[c];dsimp only;rw[AY oG,Oz];rfl
def AEf{k m M}(d:IQ k.im)(f:∀a b,M a->M (a&&&b))(h:KK m M k){t}(g:Af k.AC t.id=sM t)(e:t.Aw=0)(c:∀x∈(C6 k.im t k.Ah k.AD).e.Bo,Hr m x.AR):KK m M (Fb k t.id<|C6 k.im t k.Ah k.AD):=
 ⟨(Tl d f (AD:=k.AD) h.ki g e c).ki,AEF (im:=k.im) (t:=t) (AD:=k.AD) h.kq⟩
def AYU{k m M}(c:Ie k.im)(o:20<=A)(h:BK A S k.AC k.Ah)(l:KK m M k){t}(j:Af k.AC t.id=sM t)(d:t.Aw=0):
 BL (A+2) (S+1) (C6 k.im t k.Ah k.AD)/\BE (C6 k.im t k.Ah k.AD).e/\BK (A+4) (S+1) (Fb k t.id<|C6 k.im t k.Ah k.AD).AC (Fb k t.id<|C6 k.im t k.Ah k.AD).Ah:=by
 let⟨b,a⟩:=AC6 (im:=k.im) (AD:=k.AD) c (h.ts t<|D2 j) d h.os h.sl λv n=>((l.ki.of j).FL.st v n).Cj;refine⟨b,a,?_⟩;generalize C6 k.im t k.Ah k.AD=r at b a⊢;have g:BK (A+2) (S+1) (A1 k.AC r.t) r.s:=⟨((h.mono (B:=A+2) oG<|Ag _).put b.t).ts,b.o,by rw[Q6];have:=h.tl;omega,b.s⟩;have i:BK (A+3) (S+1) (r.e.BU.foldl CC<|A1 k.AC r.t) r.s:=by rcases Ii a.fk.1 with e|⟨u,e⟩;rw[e];exact g.mono oG<|Ag _;have:=a.fk.2 u (by rw[e];exact DT);rw[e];exact g.BU<|this.mono oG
 show BK (A+4) (S+1) (r.e.BY.foldl Gi<|r.e.BU.foldl CC<|A1 k.AC r.t) r.s;rcases Ii a.wk.1 with e|⟨u,e⟩;rw[e];exact i.mono oG<|Ag _;have:=a.wk.2 u (by rw[e];exact DT);rw[e];exact AOe i u this
def Px(b:A6)(a:Ev)(o:Op):Bool:=
 match Cf o.code with
 |1=>decide<|o.a<lN b.DN
 |2=>decide<|o.a<a.args+a.Ai
 |3=>decide<|o.a<lN a.code
 |4=>decide (o.a<lN b.Ax)&&((o.code !=38&&o.code !=40&&o.code !=45)||(b.Ax.getD o.a Al).args==1)
 |5=>decide<|o.a<=63
 |_=>tT
def MH(b:A6)(a:Nat->AU (Nat×Nat))(i:Nat)(o:Op)(d t:Nat):Prop:=
 CU b o<=d/\d-CU b o+D5 o.code<=31/\d<=31/\t<=15/\
 (
  if o.code=18\/o.code=19 then True
  else if o.code=15 then a o.a=sM (d,t)
  else if o.code=16 then a o.a=sM (d-1,t)/\a (i+1)=sM (d-1,t)
  else if o.code=20 then a (i+1)=sM (d,t+1)/\a o.a=sM (d+1,t)
  else if o.code=21 then 0<t/\a (i+1)=sM (d,t-1)
  else a (i+1)=sM (d-CU b o+D5 o.code,t))
instance (a:A6)(b:Nat->AU (Nat×Nat))(i:Nat)(o:Op)(d t:Nat):Decidable (MH a b i o d t):=by rw[MH];infer_instance
structure Ng(im:A6)(fn:Ev)(S:AA (Nat×Nat)):Prop where
 len:lN S=lN fn.code
 hd:S[0]? =sM (0,0)
 op:∀o∈fn.code,IY o/\Px im fn o
 at_:∀i o d t,fn.code[i]? =sM o->S[i]? =sM (d,t)->MH im (λj=>S[j]?) i o d t
def Fw(S:AA<|Nat×Nat)(a e:Nat)(j:Nat):AU (Nat×Nat):=if a<=j then(S++[(0,e)])[j-a]? else nO
structure Seg(im:A6)(off e:Nat)(C:AA Op)(S:AA (Nat×Nat)):Prop where
 len:lN S=lN C
 at_:∀i o d t,C[i]? =sM o->S[i]? =sM (d,t)->MH im (Fw S off e) (off+i) o d t
def MH.mono{f c e i j o d t}(h:MH f c i o d t)(a:∀s,c (i+1)=sM s->e (j+1)=sM s)(b:∀s,c o.a=sM s->e o.a=sM s):MH f e j o d t:=by rw[MH]at h⊢;refine⟨h.1,h.2.1,h.2.2.1,h.2.2.2.1,?_⟩;have h:=h.2.2.2.2;split at h;rename_i q;rw[Ac q];trivial;rename_i q1;rw[AY q1];split at h;rename_i q;rw[Ac q];exact b _ h;rename_i q2;rw[AY q2];split at h;rename_i q;rw[Ac q];exact⟨b _ h.1,a _ h.2⟩;rename_i q3;rw[AY q3];split at h;rename_i q;rw[Ac q];exact⟨a _ h.1,b _ h.2⟩;rename_i q4;rw[AY q4];split at h;rename_i q;rw[Ac q];exact⟨h.1,a _ h.2⟩;rename_i q5;rw[AY q5];exact a _ h
theorem Seg.nil(b a e):Seg b a e [] []:=⟨rfl,λi o d t h=>by simp at h⟩
def Seg.app{im off e a k c f}(h1:Seg im off 0 a c)(m:Seg im (off+lN a) e k f)(hd:f[0]? =sM (0,0)\/(f=[]/\e=0)):Seg im off e (a++k) (c++f) where
 len:=by rw[CK,CK,h1.len,m.len]
 at_ i o d t hi hs:=by
  have p:=h1.len;have g:∀j s,Fw c off 0 j=sM s->Fw (c++f) off e j=sM s:=λj s hj=>by
   rw[Fw]at hj⊢;split at hj;rename_i hle;rw[Ac hle];by_cases b:j-off<lN c;rw[Gj b]at hj;rwa[Eb,Gj b];by_cases he:j-off=lN c;rw[he,GA (Ag _),RU]at hj;cases hj;rw[he,Eb,GA (Ag _),RU];rcases hd with hd|⟨hd,n⟩;cases f with
   |nil=>cases hd
   |cons x l=>exact hd
   rw[hd,n];rfl;rw[Jh (by rw[CK];simp;omega)]at hj;cases hj;cases hj
  by_cases b:i<lN a;rw[Gj b]at hi;rw[Gj oG]at hs;exact(h1.at_ i o d t hi hs).mono (g _) (g _);rw[GA oG]at hi;rw[GA oG]at hs;have:=m.at_ (i-lN a) o d t hi (by rwa[<-p]);have h:∀j s,Fw f (off+lN a) e j=sM s->Fw (c++f) off e j=sM s:=λj s hj=>by rw[Fw]at hj⊢;split at hj;rename_i hle;rwa[Ac oG,Eb,GA oG,show j-off-lN c=j-(off+lN a) by omega];cases hj
  have e:off+lN a+(i-lN a)=off+i:=oG;rw[e]at this;exact this.mono (h _) (h _)
def Ng.of{im fn P E S T}(hC:fn.code=P++E)(h1:Seg im 0 0 P S)(g:∀i o d t,E[i]? =sM o->T[i]? =sM (d,t)->MH im (λj=>if lN P<=j then T[j-lN P]? else nO) (lN P+i) o d t)(hl:lN T=lN E)(hd:T[0]? =sM (0,0))(e:S[0]? =sM (0,0)\/S=[])
 (h:∀o∈fn.code,IY o/\Px im fn o):Ng im fn (S++T) where
 len:=by rw[hC,CK,CK,h1.len,hl]
 hd:=by
  rcases e with e|e;cases S with
  |nil=>cases e
  |cons x l=>exact e
  rwa[e]
 op:=h
 at_ i o d t hi hs:=by
  have f:=h1.len;rw[hC]at hi;by_cases c:i<lN P;rw[Gj c]at hi;rw[Gj oG]at hs;have a:∀j s,Fw S 0 0 j=sM s->(S++T)[j]? =sM s:=λj s hj=>by rw[Fw]at hj;rw[Ac<|Bm _,Nat.sub_zero]at hj;by_cases c:j<lN S;rw[Gj c]at hj⊢;exact hj;by_cases he:j=lN S;rw[he,GA<|Ag _,RU]at hj;cases hj;rwa[he,GA<|Ag _,RU];rw[Jh<|by rw[CK];simp;omega]at hj;cases hj
  have:=h1.at_ i o d t hi hs;rw[FE]at this;exact this.mono (a _)<|a _;rw[GA oG]at hi;rw[GA oG]at hs;have:=g (i-lN P) o d t hi (by rwa[<-f]);rw[show lN P+(i-lN P)=i by omega]at this;have b:∀j s,(if lN P<=j then T[j-lN P]? else nO)=sM s->(S++T)[j]? =sM s:=λj s hj=>by split at hj;rwa[GA oG,f];cases hj
  exact this.mono (b _)<|b _
def Q5(c:Nat):Bool:=decide (1<=c)&&decide (c<=47)&& !([15,16,18,19,20,21].contains c)
def Mi(o:Op):Nat:=if o.code=17 then 1 else BP o.code
def Oi(o:Op):Bool:=
 match Cf o.code with
 |0=>o.a==0
 |1=>decide<|o.a<16
 |2=>decide<|o.a<8
 |4=>decide<|o.a<3
 |5=>decide<|o.a<=63
 |_=>fF
def Fh:Nat->AA Op->Bool
 |d,[]=>d==0
 |d,[o]=>(o==⟨19,0⟩&&d==1)||(Q5 o.code&&Oi o&&decide (Mi o<=d)&&d-Mi o+D5 o.code==0&&decide (d<=9))
 |d,o::p::l=>Q5 o.code&&Oi o&&decide (Mi o<=d)&&decide (d<=9)&&decide (d-Mi o+D5 o.code<=9)&&Fh (d-Mi o+D5 o.code) (p::l)
def Hy(t:Nat):Nat->AA Op->AA (Nat×Nat)
 |_,[]=>[]
 |d,o::l=>(d,t)::Hy t (d-Mi o+D5 o.code) l
def IJ(t):∀(d:Nat)(l:AA Op),lN (Hy t d l)=lN l
 |_,[]=>rfl
 |d,o::l=>Dt Nat.succ<|IJ t _ l
structure Nh(im:A6):Prop where
 len:lN im.Ax=3
 args:∀i,i<3->(im.Ax.getD i Al).args=1
 cs:lN im.DN=16
def AML{b}(h:Nh b){o}(a:Oi o):CU b o=Mi o:=by
 rw[CU,Mi];by_cases e:o.code=17;rw[Ac e,Ac e,e];have:o.a<3:=by rw[Oi]at a;rw[e]at a;have a:decide (o.a<3):=a;simpa using a
 rw[h.args _ this];rfl;rw[AY e,AY e]
def AMJ{c}(h:Q5 c): ¬(c=18\/c=19)/\c≠15/\c≠16/\c≠20/\c≠21:=by rw[Q5]at h;simp at h;omega
def R2(l:AA Op):Bool:=(l.getLast?.getD Al).code==19
def Yt(t d){l}(h:l≠[]):(Hy t d l)[0]? =sM (d,t):=by
 cases l with
 |nil=>exact(h rfl).elim
 |cons o l=>rfl
def NH{h}(b:Nh h){t}(g:t<=15):∀(l:AA Op)(d a:Nat) {nx:Nat->AU (Nat×Nat)},Fh d l->(∀i s,(Hy t d l)[i]? =sM s->nx (a+i)=sM s)->(R2 l=fF->nx (a+lN l)=sM (0,t))->∀i o c f,l[i]? =sM o->(Hy t d l)[i]? =sM (c,f)->MH h nx (a+i) o c f
 |[],_,_,_,_,_,_,i,o,_,_,hi,_=>by simp at hi
 |[o],d,a,nx,hl,hn,he,i,o',c,f,hi,hs=>by
  cases i with
  |succ i=>simp at hi
  |zero=>
   cases hi;cases hs;rw[Fh]at hl;simp only[KG,CJ,GP,ER]at hl;rcases hl with⟨e,m⟩|⟨⟨⟨⟨k,p2⟩,p3⟩,p4⟩,p5⟩;subst e;subst m;exact⟨by show CU h ⟨19,0⟩<=1;exact Ag _,by show 1-1+0<=31;decide,dC,g,by rw[Ac<|Or.inr rfl];trivial⟩;let⟨q1,q2,q3,q4,q5⟩:=AMJ k;have hE:R2 [o]=fF:=by rw[R2];show(o.code==19)=fF;simp;omega
   rw[MH];rw[AML b p2,AY q1,AY q2,AY q3,AY q4,AY q5];refine⟨p3,oG,oG,g,?_⟩;rw[p4];exact he hE
 |o::p::l,d,a,nx,hl,hn,he,i,o',c,f,hi,hs=>by
  rw[Fh]at hl;simp only[CJ,ER]at hl;let⟨⟨⟨⟨⟨k,p2⟩,p3⟩,p4⟩,p5⟩,p6⟩:=hl;cases i with
  |zero=>
   cases hi;cases hs;let⟨q1,q2,q3,q4,q5⟩:=AMJ k;rw[MH];rw[AML b p2,AY q1,AY q2,AY q3,AY q4,AY q5];refine⟨p3,oG,oG,g,?_⟩;exact hn 1 _ rfl
  |succ i=>
   have:=NH b g (p::l) (d-Mi o+D5 o.code) (a+1) (nx:=nx) p6 (λj s n=>by
    have:=hn (j+1) s n;rwa[show a+1+j=a+(j+1) by omega]) (λhE=>by
    have:=he hE;rwa[show a+1+lN (p::l)=a+lN (o::p::l) by simp;omega]) i o' c f hi hs
   rw[show a+1+i=a+(i+1) by omega]at this;exact this
def Rc(a:Nat)(o:Op):Prop:=(Q5 o.code/\Oi o)\/o=⟨19,0⟩\/o=⟨21,0⟩\/((o.code=15\/o.code=16\/o.code=20)/\o.a<=a)
def Rc.mono{a b o}(h:Rc a o)(k:a<=b):Rc b o:=by rcases h with h|h|h|h;exact .inl h;exact .inr<|.inl h;exact .inr<|.inr<|.inl h;exact .inr<|.inr<|.inr ⟨h.1,Ch h.2 k⟩
def Wj(c):∀(l:AA Op)(d:Nat),Fh d l->∀o∈l,Rc c o
 |[],_,_,o,a=>by cases a
 |[o],d,hl,o',a=>by rw[A9.1 a];rw[Fh]at hl;simp[KG,CJ,GP,ER]at hl;rcases hl with⟨e,f⟩|⟨⟨⟨⟨b,p2⟩,p3⟩,p4⟩,p5⟩;exact .inr<|.inl e;exact .inl ⟨b,p2⟩
 |o::p::l,d,hl,o',a=>by rw[Fh]at hl;simp[CJ,ER]at hl;let⟨⟨⟨⟨⟨b,p2⟩,p3⟩,p4⟩,p5⟩,p6⟩:=hl;rcases Co.1 a with e|a;rw[e];exact .inl ⟨b,p2⟩;exact Wj c (p::l) _ p6 o' a
def Q1(S a e i):Fw S a e (a+i)=(S++[(0,e)])[i]? :=by rw[Fw];rw[Ac oG,show a+i-a=i by omega]
structure Part(im:A6)(off:Nat)(P:AA Op):Prop where
 Ot:∃S,Seg im off 0 P S/\S[0]? =sM (0,0)
 Aj:∀o∈P,Rc (off+lN P) o
 len:lN P<=10
def AZk{im}(a:Nh im){off D}(h:Fh 0 D)(b:D≠[])(hl:lN D<=6):Part im off D where
 Ot:=⟨Hy 0 0 D,⟨IJ _ _ _,NH a dC D 0 off h (λi s hi=>by rwa[Q1,Gj];exact(Ci.1 hi).1) λ_=>by rw[Q1,<-IJ 0 0 D,GA<|Ag _,RU];rfl⟩,Yt _ _ b⟩
 Aj:=Wj _ D 0 h
 len:=oG
def AZj{im}(c:Nh im){off D}(h:Fh 0 D)(b:D≠[])(hl:lN D<=6):Part im off ([⟨2,1⟩,⟨16,off+2+lN D⟩]++D) where
 Ot:=by
  have e:∀i,Fw ([(0,0),(1,0)]++Hy 0 0 D) off 0 (off+(2+i))=(Hy 0 0 D++[(0,0)])[i]? :=λi=>by rw[Q1,Eb,GA sP,show 2+i-lN [(0,0),(1,0)]=i by simp]
  have hend:Fw ([(0,0),(1,0)]++Hy 0 0 D) off 0 (off+(2+lN D))=sM (0,0):=by rw[e,<-IJ 0 0 D,GA<|Ag _,RU];rfl
  refine⟨[(0,0),(1,0)]++Hy 0 0 D,⟨by simp[IJ],λi o d t hi hs=> ?_⟩,rfl⟩
  match i with
  |0=>
   cases hi;cases hs;exact⟨by show 0<=0;decide,by show 0-0+1<=31;decide,dC,dC,by show Fw _ _ _ (off+1)=sM (0-0+1,0);rw[Q1];rfl⟩
  |1=>
   cases hi;cases hs;refine⟨by show 1<=1;decide,by show 1-1+0<=31;decide,dC,dC,?_⟩;show Fw _ _ _ (off+2+lN D)=sM (0,0)/\Fw _ _ _ (off+2)=sM (0,0);refine⟨by rwa[show off+2+lN D=off+(2+lN D) by omega],?_⟩;rw[e 0,Gj<|by rw[IJ];exact ABg.2 b];exact Yt _ _ b
  |i+2=>
   have:=NH c (t:=0) dC D 0 (off+2) (nx:=Fw ([(0,0),(1,0)]++Hy 0 0 D) off 0) h (λj s hj=>by rwa[show off+2+j=off+(2+j) by omega,e,Gj (Ci.1 hj).1]) (λ_=>by rwa[show off+2+lN D=off+(2+lN D) by omega]) i o d t hi hs
   rw[show off+2+i=off+(i+2) by omega]at this;exact this
 Aj:=λo a=>by rcases Bc.1 a with a|a;simp at a;rcases a with rfl|rfl;exact .inl ⟨rfl,rfl⟩;exact .inr<|.inr<|.inr ⟨.inr<|.inl rfl,by show off+2+lN D<=off+([(⟨2,1⟩:Op),⟨16,off+2+lN D⟩]++D).length;simp;omega⟩;exact Wj _ D 0 h o a
 len:=sO
def AZn{im}(g:Nh im){off D}(h:Fh 0 D)(f:D≠[])(hl:lN D<=6)(hE:R2 D=fF):Part im off ([⟨20,off+lN D+3⟩]++D++[⟨21,0⟩,⟨15,off+lN D+4⟩,⟨3,1⟩]) where
 Ot:=by
  have e:∀i,i<lN D->Fw ([(0,0)]++Hy 1 0 D++[(0,1),(0,0),(1,0)]) off 0 (off+(1+i))=(Hy 1 0 D)[i]? :=λi hi=>by rw[Q1,Eb,Eb,GA sP,Gj<|by rw[IJ];simp;omega];simp
  have a:∀i,Fw ([(0,0)]++Hy 1 0 D++[(0,1),(0,0),(1,0)]) off 0 (off+(1+lN D+i))=([(0,1),(0,0),(1,0),(0,0)]:AA<|Nat×Nat)[i]? :=λi=>by rw[Q1,Eb,Eb,GA sO,GA<|by rw[IJ];simp;omega,IJ];congr 1;simp;omega
  refine⟨[(0,0)]++Hy 1 0 D++[(0,1),(0,0),(1,0)],⟨by simp[IJ],λi o d t hi hs=> ?_⟩,rfl⟩;by_cases h0:i=0;subst h0;cases hi;cases hs;refine⟨by show 0<=0;decide,by show 0-0+0<=31;decide,dC,dC,?_⟩;show Fw _ _ _ (off+0+1)=sM (0,0+1)/\Fw _ _ _ (off+lN D+3)=sM (0+1,0);refine⟨?_,?_⟩;have:=e 0<|ABg.2 f;rw[show off+0+1=off+(1+0) by omega,this];exact Yt _ _ f;rw[show off+lN D+3=off+(1+lN D+2) by omega,a];rfl;by_cases k:i<1+lN D;rw[Eb,GA sO,Gj sO]at hi;rw[Eb,GA sO,Gj<|by rw[IJ];simp;omega]at hs;have:=NH g (t:=1) dC D 0 (off+1) (nx:=Fw ([(0,0)]++Hy 1 0 D++[(0,1),(0,0),(1,0)]) off 0) h (λj s hj=>by
   have c:=(Ci.1 hj).1;rw[IJ]at c;rwa[show off+1+j=off+(1+j) by omega,e j c]) (λ_=>by
   rw[show off+1+lN D=off+(1+lN D+0) by omega,a];rfl) (i-1) o d t hi hs
  rw[show off+1+(i-1)=off+i by omega]at this;exact this;obtain⟨j,rfl⟩:∃j,i=1+lN D+j:=⟨i-(1+lN D),oG⟩;rw[GA sO,show 1+lN D+j-([(⟨20,off+lN D+3⟩:Op)]++D).length=j by simp;omega]at hi;rw[GA<|by rw[CK,IJ];simp<;>omega,show 1+lN D+j-lN ([((0:Nat),(0:Nat))]++Hy 1 0 D)=j by rw[CK,IJ];simp<;>omega]at hs
  match j with
  |0=>
   cases hi;cases hs;refine⟨by show 0<=0;decide,by show 0-0+0<=31;decide,dC,dC,?_⟩;show 0<1/\Fw _ _ _ (off+(1+lN D+0)+1)=sM (0,1-1);refine⟨dC,?_⟩;rw[show off+(1+lN D+0)+1=off+(1+lN D+1) by omega,a];rfl
  |1=>
   cases hi;cases hs;refine⟨by show 0<=0;decide,by show 0-0+0<=31;decide,dC,dC,?_⟩;show Fw _ _ _ (off+lN D+4)=sM (0,0);rw[show off+lN D+4=off+(1+lN D+3) by omega,a];rfl
  |2=>
   cases hi;cases hs;refine⟨by show 1<=1;decide,by show 1-1+0<=31;decide,dC,dC,?_⟩;show Fw _ _ _ (off+(1+lN D+2)+1)=sM (1-1+0,0);rw[show off+(1+lN D+2)+1=off+(1+lN D+3) by omega,a];rfl
  |j+3=>simp at hi
 Aj:=λo b=>by rcases Bc.1 b with b|b;rcases Bc.1 b with b|b;rw[A9.1 b];exact .inr<|.inr<|.inr ⟨.inr<|.inr rfl,by show off+lN D+3<=off+_;simp;omega⟩;exact Wj _ D 0 h o b;simp at b;rcases b with rfl|rfl|rfl;exact .inr<|.inr<|.inl rfl;exact .inr<|.inr<|.inr ⟨.inl rfl,by show off+lN D+4<=off+_;simp;omega⟩;exact .inl ⟨rfl,rfl⟩
 len:=sO
def AZm{im}(g:Nh im){off D}(h:Fh 0 D)(f:D≠[])(hl:lN D<=6)(hE:R2 D):Part im off ([⟨20,off+lN D+1⟩]++D++[⟨3,1⟩]) where
 Ot:=by
  have c:∀i,i<lN D->Fw ([(0,0)]++Hy 1 0 D++[(1,0)]) off 0 (off+(1+i))=(Hy 1 0 D)[i]? :=λi hi=>by rw[Q1,Eb,Eb,GA sP,Gj<|by rw[IJ];simp;omega];simp
  have e:∀i,Fw ([(0,0)]++Hy 1 0 D++[(1,0)]) off 0 (off+(1+lN D+i))=([(1,0),(0,0)]:AA<|Nat×Nat)[i]? :=λi=>by rw[Q1,Eb,Eb,GA sO,GA<|by rw[IJ];simp;omega,IJ];congr 1;simp;omega
  refine⟨[(0,0)]++Hy 1 0 D++[(1,0)],⟨by simp[IJ],λi o d t hi hs=> ?_⟩,rfl⟩;by_cases h0:i=0;subst h0;cases hi;cases hs;refine⟨by show 0<=0;decide,by show 0-0+0<=31;decide,dC,dC,?_⟩;show Fw _ _ _ (off+0+1)=sM (0,0+1)/\Fw _ _ _ (off+lN D+1)=sM (0+1,0);refine⟨?_,?_⟩;have:=c 0<|ABg.2 f;rw[show off+0+1=off+(1+0) by omega,this];exact Yt _ _ f;rw[show off+lN D+1=off+(1+lN D+0) by omega,e];rfl;by_cases k:i<1+lN D;rw[Eb,GA sO,Gj sO]at hi;rw[Eb,GA sO,Gj<|by rw[IJ];simp;omega]at hs;have:=NH g (t:=1) dC D 0 (off+1) (nx:=Fw ([(0,0)]++Hy 1 0 D++[(1,0)]) off 0) h (λj s hj=>by have b:=(Ci.1 hj).1;rw[IJ]at b;rwa[show off+1+j=off+(1+j) by omega,c j b]) (λq=>by rw[hE]at q;cases q) (i-1) o d t hi hs
  rw[show off+1+(i-1)=off+i by omega]at this;exact this;obtain⟨j,rfl⟩:∃j,i=1+lN D+j:=⟨i-(1+lN D),oG⟩;rw[GA sO,show 1+lN D+j-([(⟨20,off+lN D+1⟩:Op)]++D).length=j by simp;omega]at hi;rw[GA<|by rw[CK,IJ];simp<;>omega,show 1+lN D+j-lN ([((0:Nat),(0:Nat))]++Hy 1 0 D)=j by rw[CK,IJ];simp<;>omega]at hs
  match j with
  |0=>
   cases hi;cases hs;refine⟨by show 1<=1;decide,by show 1-1+0<=31;decide,dC,dC,?_⟩;show Fw _ _ _ (off+(1+lN D+0)+1)=sM (1-1+0,0);rw[show off+(1+lN D+0)+1=off+(1+lN D+1) by omega,e];rfl
  |j+1=>simp at hi
 Aj:=λo a=>by rcases Bc.1 a with a|a;rcases Bc.1 a with a|a;rw[A9.1 a];exact .inr<|.inr<|.inr ⟨.inr<|.inr rfl,by show off+lN D+1<=off+_;simp;omega⟩;exact Wj _ D 0 h o a;rw[A9.1 a];exact .inl ⟨rfl,rfl⟩
 len:=sO
def Nr{c a d d' p l}(g:Q5 c)(j:Oi ⟨c,a⟩)(b:Mi ⟨c,a⟩<=d)(h:d<=9)(e:d-Mi ⟨c,a⟩+D5 c=d')(f:d'<=9)(i:Fh d' (p::l)):Fh d (⟨c,a⟩::p::l):=by rw[Fh];simp[CJ,ER];subst e;exact⟨⟨⟨⟨⟨g,j⟩,b⟩,h⟩,f⟩,i⟩
def AKo{c a d}(f:Q5 c)(h:Oi ⟨c,a⟩)(b:Mi ⟨c,a⟩<=d)(g:d<=9)(e:d-Mi ⟨c,a⟩+D5 c=0):Fh d [⟨c,a⟩]:=by rw[Fh];simp only[KG,CJ,ER,GP];exact .inr ⟨⟨⟨⟨f,h⟩,b⟩,e⟩,g⟩
def AAP{a}(h:a<16):Oi ⟨1,a⟩:=by show decide<|a<16;simpa using h
def AZJ{a}(h:a<8):Oi ⟨2,a⟩:=by show decide<|a<8;simpa using h
def ADi{a b c d n}(e:a<8)(f:b<8)(g:c<8)(h:d<8)(i)(j:n=[a,b,c,d].getD i 0):n<8:=by
 subst j
 match i with
 |0=>exact e
 |1=>exact f
 |2=>exact g
 |3=>exact h
 |i+4=>simp
def H6(m:Mk):m.next.2.code=m.code:=rfl
def AEj(n):n%2=0\/n%2=1:=oG
def V0(m:Mk){a}(r:a<3):∃D,(m.FZ a).code=m.code++D/\Fh 0 D/\D≠[]/\lN D<=6:=by
 have g:m.next.1%8<8:=JE _ dC;generalize i:m.next.1%8=any at g;have Bz:∀(v:Mk)(D:AA Op),v.code=m.code++D->Fh 0 D->D≠[]->lN D<=6->∃D,v.code=m.code++D/\Fh 0 D/\D≠[]/\lN D<=6:=λv D y o z A=>⟨D,y,o,z,A⟩;rw[Mk.FZ,Mk.AC2];dsimp only;rw[i];generalize m.next.2.next.1%32=k;have c:m.next.2.next.2.code=m.code:=rfl;generalize m.next.2.next.2=b at c;have w:∀(n:Nat)(p:Op)(l:AA Op)(d:Nat),d<=8->Fh (d+1) (p::l)->Fh d (⟨1,n%8⟩::p::l):=λn p l d s h=>Nr (d':=d+1) rfl (AAP oG) (Bm _) oG rfl oG h;have L8:∀(n:Nat)(p:Op)(l:AA Op)(d:Nat),d<=8->Fh (d+1) (p::l)->Fh d (⟨1,8+n%8⟩::p::l):=λn p l d s h=>Nr (d':=d+1) rfl (AAP oG) (Bm _) oG rfl oG h;have L4:∀(n:Nat)(p:Op)(l:AA Op)(d:Nat),d<=8->Fh (d+1) (p::l)->Fh d (⟨1,n%4⟩::p::l):=λn p l d s h=>Nr (d':=d+1) rfl (AAP oG) (Bm _) oG rfl oG h;have t:∀(n:Nat)(p:Op)(l:AA Op)(d:Nat),d<=8->Fh (d+1) (p::l)->Fh d (⟨1,4+n%4⟩::p::l):=λn p l d s h=>Nr (d':=d+1) rfl (AAP oG) (Bm _) oG rfl oG h;have f:∀(n:Nat)(p:Op)(l:AA Op)(d:Nat),n<8->d<=8->Fh (d+1) (p::l)->Fh d (⟨2,n⟩::p::l):=λn p l d u s h=>Nr (d':=d+1) rfl (AZJ u) (Bm _) oG rfl oG h;have S:∀n:Nat,n<8->Fh 1 [⟨3,n⟩]:=λn u=>AKo rfl (by show decide<|n<8;simpa using u) (Ag _) dC rfl;by_cases q:k=0;rw[Ac q];obtain⟨j,B,C⟩:∃j,(b.number.Dq any).next.1%7=j/\j<7:=⟨_,rfl,JE _ dC⟩;refine Bz _ [⟨1,b.next.1%8⟩,⟨2,any⟩,⟨7+(b.number.Dq any).next.1%7,0⟩,⟨3,1⟩] (by simp[Mk.BD,Mk.number,Mk.Dq,H6,c]) ?_ sP sP
 refine w _ _ _ _ dC<|f _ _ _ _ g dC ?_;rw[B];have:j=0\/j=1\/j=2\/j=3\/j=4\/j=5\/j=6:=oG;rcases this with rfl|rfl|rfl|rfl|rfl|rfl|rfl<;>rfl;rw[AY q];by_cases q:k=1;rw[Ac q];refine Bz _ [⟨25+b.next.1%2,0⟩,⟨1,8+(b.next.2.BD (25+b.next.1%2) 0).next.1%8⟩,⟨22+((b.next.2.BD (25+b.next.1%2) 0).mark).next.1%2,0⟩,⟨3,7⟩] (by simp[Mk.BD,Mk.mark,H6,c]) ?_ sP sP;generalize(b.next.2.BD (25+b.next.1%2) 0).next.1=E;generalize((b.next.2.BD (25+b.next.1%2) 0).mark).next.1=x;generalize b.next.1=F;have o:Fh 1 [⟨1,8+E%8⟩,⟨22+x%2,0⟩,⟨3,7⟩]:=by refine L8 _ _ _ _ dC ?_;rcases AEj x with e|e<;>rw[e]<;>rfl
 rcases AEj F with e|e<;>rw[e];exact Nr (d':=1) rfl rfl dC dC rfl dC o;exact Nr (d':=1) rfl rfl dC dC rfl dC o;rw[AY q];by_cases q:k=2;rw[Ac q];exact Bz _ [⟨1,8+b.next.1%8⟩,⟨27,0⟩] (by simp[Mk.BD,Mk.mark,H6,c]) (L8 _ _ _ _ dC rfl) sP sP;rw[AY q];by_cases q:k=3;rw[Ac q];exact Bz _ [⟨1,8+b.next.1%8⟩,⟨28,0⟩] (by simp[Mk.BD,Mk.mark,H6,c]) (L8 _ _ _ _ dC rfl) sP sP;rw[AY q];by_cases q:k<6;rw[Ac q];exact Bz _ [⟨2,any⟩,⟨1,8+(b.Dq any).next.1%8⟩,⟨29,0⟩,⟨3,2⟩] (by simp[Mk.BD,Mk.mark,Mk.Dq,H6,c]) (f _ _ _ _ g dC<|L8 _ _ _ _ dC rfl) sP sP;rw[AY q];by_cases q:k<9;rw[Ac q];exact Bz _ [⟨2,[0,2,2,any].getD (b.next.1%4) 0⟩,⟨30,0⟩,⟨3,1⟩] (by simp[Mk.BD,Mk.Dq,H6,c]) (f _ _ _ _ (ADi dC dC dC g _ rfl) dC rfl) sP sP;rw[AY q];by_cases q:k=9;rw[Ac q];exact Bz _ [⟨2,any⟩,⟨1,8+(b.Dq any).next.1%8⟩,⟨32,0⟩,⟨3,3⟩] (by simp[Mk.BD,Mk.mark,Mk.Dq,H6,c]) (f _ _ _ _ g dC<|L8 _ _ _ _ dC rfl) sP sP;rw[AY q];by_cases q:k=10;rw[Ac q];exact Bz _ [⟨2,3⟩,⟨33,0⟩,⟨3,1⟩] (by simp[Mk.BD,Mk.Dq,H6,c]) rfl sP sP;rw[AY q];by_cases q:k=11;rw[Ac q];exact Bz _ [⟨2,3⟩,⟨2,any⟩,⟨34,0⟩] (by simp[Mk.BD,Mk.Dq,H6,c]) (f _ _ _ _ dC dC<|f _ _ _ _ g dC rfl) sP sP;rw[AY q];by_cases q:k=12;rw[Ac q];exact Bz _ [⟨1,8+b.next.1%8⟩,⟨35,0⟩,⟨3,4⟩] (by simp[Mk.BD,Mk.mark,H6,c]) (L8 _ _ _ _ dC rfl) sP sP;rw[AY q];by_cases q:k=13;rw[Ac q];exact Bz _ [⟨2,4⟩,⟨36,0⟩,⟨3,1⟩] (by simp[Mk.BD,Mk.Dq,H6,c]) rfl sP sP;rw[AY q];by_cases q:k<16;rw[Ac q]
 exact Bz _ [⟨2,4⟩,⟨2,any⟩,⟨37,0⟩] (by simp[Mk.BD,Mk.Dq,H6,c]) (f _ _ _ _ dC dC<|f _ _ _ _ g dC rfl) sP sP;rw[AY q];by_cases q:k<18/\0<a;rw[Ac q];refine Bz _ [⟨2,[4,2,3,any].getD (b.next.1%4) 0⟩,⟨1,(b.next.2.Dq<|[4,2,3,any].getD (b.next.1%4) 0).next.1%4⟩,⟨1,8+(((b.next.2.Dq<|[4,2,3,any].getD (b.next.1%4) 0).next.2.BD 1<|(b.next.2.Dq<|[4,2,3,any].getD (b.next.1%4) 0).next.1%4).next.1%8)⟩,⟨38,a⟩,⟨3,5⟩] (by simp[Mk.BD,Mk.mark,Mk.Dq,H6,c]) ?_ sP sP;exact f _ _ _ _ (ADi dC dC dC g _ rfl) dC<|L4 _ _ _ _ dC<|L8 _ _ _ _ dC<|Nr (d':=1) rfl (by show decide<|a<3;simpa using r) (by show 3<=3;decide) dC rfl dC rfl;rw[AY q];by_cases q:k=18;rw[Ac q];exact Bz _ [⟨2,5⟩,⟨39,0⟩,⟨3,1⟩] (by simp[Mk.BD,Mk.Dq,H6,c]) rfl sP sP;rw[AY q];by_cases q:k<22/\0<a;rw[Ac q];refine Bz _ [⟨2,[2,0,3,4].getD (b.next.1%4) 0⟩,⟨1,_%4⟩,⟨1,4+_%4⟩,⟨1,8+_%8⟩,⟨40,a⟩,⟨3,2⟩] (by simp only[Mk.BD,Mk.mark,Mk.Dq,H6,c,Eb,F1,F2];rfl) ?_ sP sP;exact f _ _ _ _ (ADi dC dC dC dC _ rfl) dC<|L4 _ _ _ _ dC<|t _ _ _ _ dC<|L8 _ _ _ _ dC<|Nr (d':=1) rfl (by show decide<|a<3;simpa using r) (by show 4<=4;decide) dC rfl dC rfl;rw[AY q];by_cases q:k<25;rw[Ac q];exact Bz _ [⟨2,any⟩,⟨1,8+(b.Dq any).next.1%8⟩,⟨41,0⟩] (by simp[Mk.BD,Mk.mark,Mk.Dq,H6,c]) (f _ _ _ _ g dC<|L8 _ _ _ _ dC rfl) sP sP;rw[AY q];by_cases q:k=25;rw[Ac q];refine Bz _ [⟨1,8+b.next.1%8⟩,⟨42+b.mark.next.1%2,0⟩] (by simp[Mk.BD,Mk.mark,H6,c]) (L8 _ _ _ _ dC ?_) sP sP;rcases AEj b.mark.next.1 with e|e<;>rw[e]<;>rfl;rw[AY q];by_cases q:k=26/\0<a;rw[Ac q]
 exact Bz _ [⟨1,8+b.next.1%8⟩,⟨45,a⟩,⟨3,6⟩] (by simp[Mk.BD,Mk.mark,H6,c]) (L8 _ _ _ _ dC<|Nr (d':=1) rfl (by show decide<|a<3;simpa using r) (by show 1<=1;decide) dC rfl dC rfl) sP sP;rw[AY q];by_cases q:k=27;rw[Ac q];exact Bz _ [⟨2,any⟩,⟨2,6⟩,⟨46,0⟩,⟨3,1⟩] (by simp[Mk.BD,Mk.Dq,H6,c]) (f _ _ _ _ g dC rfl) sP sP;rw[AY q];by_cases q:k=28/\0<a;rw[Ac q];exact Bz _ [⟨2,any⟩,⟨17,a⟩,⟨3,1⟩] (by simp[Mk.BD,Mk.Dq,H6,c]) (f _ _ _ _ g dC<|Nr (d':=1) rfl (by show decide<|a<3;simpa using r) (by show 1<=1;decide) dC rfl dC rfl) sP sP;rw[AY q];by_cases q:k=29;rw[Ac q];exact Bz _ [⟨1,b.next.1%8⟩,⟨19,0⟩] (by simp[Mk.BD,Mk.number,H6,c]) (w _ _ _ _ dC rfl) sP sP;rw[AY q];by_cases q:k=30;rw[Ac q];refine Bz _ [⟨44,b.next.1%4⟩] (by simp[Mk.BD,H6,c]) (AKo rfl (by show decide<|_<=63;simp;omega) (Ag _) dC rfl) sP sP;rw[AY q];exact Bz _ [⟨47,0⟩,⟨3,1⟩] (by simp[Mk.BD,c]) rfl sP sP
def AFR(m:Mk)(C P:AA Op)(o a)(h:m.code=C++o::P):(m.KZ (lN C) a).code=C++ {o with a:=a}::P:=by show m.code.modify (lN C) _=_;rw[h,List.modify_eq_take_drop];simp
def AW2{C D:AA Op}(a:D≠[]):(C++D).getLast?=D.getLast?:=by
 rw[List.getLast?_append];cases h:D.getLast? with
 |none=>exact absurd (S8.1 h) a
 |some x=>rfl
def AZl{n}(d:Nh n)(m:Mk){a}(k:a<3):∃P,(m.part a).code=m.code++P/\Part n (lN m.code) P:=by
 rw[Mk.part];dsimp only;have l:m.next.2.code=m.code:=rfl;generalize m.next.2=b at l;rw[<-l];split;let⟨D,g,h,e,i⟩:=V0 (b.BD 20 0) k;have f:((b.BD 20 0).FZ a).code=b.code++⟨20,0⟩::D:=by rw[g];simp[Mk.BD]
 have c:((b.BD 20 0).FZ a).code.getLast?=D.getLast?:=by rw[g,AW2 e]
 split;rename_i hT;rw[c]at hT;refine⟨_,?_,AZm d h e i<|by rw[R2];simpa using hT⟩;show((((b.BD 20 0).FZ a).KZ (lN b.code)<|lN ((b.BD 20 0).FZ a).code).code++[⟨3,1⟩])=_;rw[AFR _ b.code D ⟨20,0⟩ _ f,f];simp;omega;rename_i hT;rw[c]at hT;refine⟨_,?_,AZn d h e i<|by rw[R2];simpa using hT⟩;have j:((((b.BD 20 0).FZ a).BD 21 0).BD 15<|lN (((b.BD 20 0).FZ a).BD 21 0).code+2).code=b.code++⟨20,0⟩::(D++[⟨21,0⟩,⟨15,lN b.code+lN D+4⟩]):=by show(((b.BD 20 0).FZ a).code++[(⟨21,0⟩:Op)])++[(⟨15,lN (((b.BD 20 0).FZ a).code++[(⟨21,0⟩:Op)])+2⟩:Op)]=_;rw[f];simp;omega
 show((((((b.BD 20 0).FZ a).BD 21 0).BD 15<|lN (((b.BD 20 0).FZ a).BD 21 0).code+2).KZ (lN b.code) _).code++[⟨3,1⟩])=_;rw[AFR _ b.code _ ⟨20,0⟩ _ j,j];simp;omega;split;let⟨D,g,h,e,i⟩:=V0 ((b.Dq 1).BD 16 0) k;refine⟨_,?_,AZj d h e i⟩;have f:(((b.Dq 1).BD 16 0).FZ a).code=(b.code++[⟨2,1⟩])++⟨16,0⟩::D:=by rw[g];simp[Mk.BD,Mk.Dq]
 have o:lN (b.code++[(⟨2,1⟩:Op)])=lN b.code+1:=sP;have j:=AFR _ (b.code++[⟨2,1⟩]) D ⟨16,0⟩ (lN (((b.Dq 1).BD 16 0).FZ a).code) f;rw[o]at j;rw[j,f];simp;omega;let⟨D,g,h,e,i⟩:=V0 b k;exact⟨D,g,AZk d h e i⟩
structure AGn(im:A6)(k:Nat)(C:AA Op):Prop where
 Ot:∃S,Seg im 0 0 C S/\(S[0]? =sM (0,0)\/S=[])
 Aj:∀o∈C,Rc (lN C) o
 len:lN C<=10*k
def AL7{f}(b:Nh f){CP}(j:CP<3):∀(n k:Nat)(m:Mk),AGn f k m.code->k<=12->AGn f 12 (Mk.Er CP n k m).code
 |0,k,m,h,hk=>⟨h.Ot,h.Aj,by have:=h.len;show lN m.code<=120;omega⟩
 |n+1,k,m,h,hk=>by
  rw[Mk.Er];split;rename_i q;refine AL7 b j n (k+1) _ ?_ oG;let⟨P,e,d⟩:=AZl b m j;rw[e];let⟨g,r,a⟩:=h.Ot;let⟨p,s,i⟩:=d.Ot;refine⟨⟨g++p,Seg.app r (by rwa[FE])<|.inl i,?_⟩,λo c=> ?_,?_⟩;rcases a with a|a;left;cases g with
  |nil=>cases a
  |cons x l=>exact a
  rw[a];exact .inl i;rw[CK];rcases Bc.1 c with c|c;exact(h.Aj o c).mono oG;exact d.Aj o c;rw[CK];have:=h.len;have:=d.len;omega;exact⟨h.Ot,h.Aj,by have:=h.len;omega⟩
def AZh{g}(a:Nh g){b d o}(h:Rc d o)(k:d<lN b.code)(l:b.args+b.Ai=8)(m:lN b.code<=60000):IY o/\Px g b o:=by
 rcases h with⟨c,p2⟩|e|e|⟨e,j⟩;have i:UX o.code:=by rw[Q5]at c;simp only[CJ,ER]at c;rw[UX];simp only[CJ,ER];exact c.1
 rw[Oi]at p2;rw[IY,Px];rw[i,a.len,a.cs];split at p2;rename_i q;rw[q];simpa using p2;rename_i q;rw[q];simp at p2⊢;omega;rename_i q;rw[q];simp at p2⊢;omega;rename_i q;rw[q];simp at p2;have:=a.args _ p2;simp only[this];simp;omega;rename_i q;rw[q];simp at p2⊢;omega;cases p2;subst e;exact⟨rfl,rfl⟩;subst e;exact⟨rfl,rfl⟩;have f:Cf o.code=3/\UX o.code:=by rcases e with e|e|e<;>rw[e]<;>exact⟨rfl,rfl⟩
 rw[IY,Px];rw[f.1,f.2];simp;omega
def AX6(l:AA<|AA AH)(i):∃a,a<8/\(H4 l i).code=(Mk.Er ((i+1)%3) 12 0 ⟨l.getD i [],0,[]⟩).code++[⟨2,a⟩,⟨18,0⟩]:=by refine⟨(Mk.Er ((i+1)%3) 12 0 ⟨l.getD i [],0,[]⟩).next.1%8,JE _ dC,?_⟩;rw[H4];simp[Mk.BD,H6]
def AEX(l):Nh (Io l):=⟨rfl,λi a=>by
 match i with
 |0=>rfl
 |1=>rfl
 |2=>rfl
 |i+3=>omega,rfl⟩
def AEZ(l i)(c:Nh<|Io l):∃S,Ng (Io l) (H4 l i) S/\lN (H4 l i).code<=122/\0<lN (H4 l i).code/\(H4 l i).args=1/\(H4 l i).Ai=7:=by
 let⟨a,k,e⟩:=AX6 l i;have f:=AL7 c (CP:=(i+1)%3) (JE _ dC) 12 0 ⟨l.getD i [],0,[]⟩ ⟨⟨[],Seg.nil _ _ _,.inr rfl⟩,nA,Bm _⟩ dC;generalize(Mk.Er ((i+1)%3) 12 0 ⟨l.getD i [],0,[]⟩).code=C at e f;let⟨S,m,n⟩:=f.Ot;have hlen:lN (H4 l i).code=lN C+2:=by rw[e];simp
 have p:=f.len;refine⟨S++[(0,0),(1,0)],Ng.of e m (λj o d t g h=> ?_) rfl rfl n λo b=> ?_,oG,oG,rfl,rfl⟩
 match j with
 |0=>
  cases g;cases h;refine⟨by show 0<=0;decide,by show 0-0+1<=31;decide,dC,dC,?_⟩;show(if lN C<=lN C+0+1 then([(0,0),(1,0)]:AA<|Nat×Nat)[lN C+0+1-lN C]? else nO)=sM (0-0+1,0);rw[Ac oG,show lN C+0+1-lN C=1 by omega];rfl
 |1=>
  cases g;cases h;exact⟨by show 1<=1;decide,by show 1-1+0<=31;decide,dC,dC,trivial⟩
 |j+2=>simp at g
 rw[e]at b;rcases Bc.1 b with b|b;exact AZh c (f.Aj o b) oG rfl oG;simp at b;rcases b with rfl|rfl;refine⟨?_,by show decide<|a<1+7;simpa using k⟩;show(tT&&decide (a<=65535));simp;omega;exact⟨rfl,rfl⟩
def SX:AA (AA<|Nat×Nat):=[[(0,0),(1,0),(2,0),(3,0),(4,0),(1,0),(0,0),(1,0),(0,0),(1,0),(0,0),(1,0),(0,0),(1,0),(2,0),(0,0),(1,0),(2,0),(1,0),(0,0)],
 [(0,0),(1,0),(1,0),(0,0),(1,0),(0,0),(1,0),(0,0),(1,0),(2,0),(1,0),(0,0)]]
def AL8:∀i,i<2->Ng EC (EC.Ax.getD i Al) (SX.getD i []):=by have:∀i,i<2->lN (SX.getD i [])=lN (EC.Ax.getD i Al).code/\(SX.getD i [])[0]? =sM (0,0)/\(∀o∈(EC.Ax.getD i Al).code,IY o/\Px EC (EC.Ax.getD i Al) o)/\∀j,j<lN (EC.Ax.getD i Al).code->MH EC (λj=>(SX.getD i [])[j]?) j ((EC.Ax.getD i Al).code.getD j Al) ((SX.getD i []).getD j (0,0)).1 ((SX.getD i []).getD j (0,0)).2:=dC;intro i h;let⟨c,e,f,g⟩:=this i h;refine⟨c,e,f,λj o d t b k=> ?_⟩;have:=g j<|(Ci.1 b).1;rw[show(EC.Ax.getD i Al).code.getD j Al=o by rw[DK,b];rfl,show(SX.getD i []).getD j (0,0)=(d,t) by rw[DK,k];rfl]at this;exact this
variable{s':Az}
inductive Tw(m:AT)(AC thr':AA AL)(t0:AL)(s s':Az)(r a:CR):Prop
 |eq (t:a.1.t=r.1.t) (e:a.1.e=r.1.e) (x:a.2=r.2) (st:Ca m r.1.s a.1.s) (w:∀w∈r.1.e.BY,Af AC w.1=Af thr' w.1)
 |hid (h:fl r.1.t.g.Ad m=fF) (h':fl a.1.t.g.Ad m=fF) (sc:r.1.t.AI=t0.AI) (b:a.1.t.AI=t0.AI) (c:fl t0.g.A5 m=fF) (i:Inv m AC s r.1) (d:Inv m thr' s' a.1)
theorem Tw.A8{f r a}(t:a.1.t=r.1.t)(e:r.1.e=A8)(c:a.1.e=A8)(x:a.2=r.2)(d:Ca m r.1.s a.1.s):Tw m AC thr' f s s' r a:=
 .eq t (c.trans e.symm) x d λw b=>by rw[e]at b;cases b
structure Rd(f:Call->Ob->CR):Prop where
 s:∀k o,(f k o).1.s=k.s
 e:∀k o,(f k o).1.e=k.e
 g:∀k o,(f k o).1.t.g=k.t.g
 sc:∀k o,(f k o).1.t.AI=k.t.AI
 t:∀(k:Call)(s':Az) o,(f ⟨s',k.t,k.e⟩ o).1.t=(f k o).1.t/\(f ⟨s',k.t,k.e⟩ o).2=(f k o).2
def Uf:Rd Ej where
 s:=λk o=>by unfold Ej;split<;>rfl
 e:=λk o=>by unfold Ej;split<;>rfl
 g:=λk o=>by unfold Ej;split<;>rfl
 sc:=λk o=>by unfold Ej;split<;>rfl
 t:=λk s' o=>by unfold Ej;split<;>exact⟨rfl,rfl⟩
def AaW:Rd λk o=>(k.push o.v,nO):=⟨λ_ _=>rfl,λ_ _=>rfl,λ_ _=>rfl,λ_ _=>rfl,λ_ _ _=>⟨rfl,rfl⟩⟩
def AaX(x:AW):Rd λk ob=>if ob.done then Ej k ob else(FG k x.name,nO) where
 s:=λk o=>by split;exact Uf.s k o;rfl
 e:=λk o=>by split;exact Uf.e k o;rfl
 g:=λk o=>by split;exact Uf.g k o;rfl
 sc:=λk o=>by split;exact Uf.sc k o;rfl
 t:=λk s' o=>by split;exact Uf.t k s' o;exact⟨rfl,rfl⟩
def AaY(im x):Rd λk ob=>match Gc k.t.c ob.fn (varsOf im ob.fn) [x] ob.AR with
 |some c=>({k with t:={k.t with c:=c}},nO)
 |none=>(k,sM (-6)) where
 s:=λk o=>by split<;>rfl
 e:=λk o=>by split<;>rfl
 g:=λk o=>by split<;>rfl
 sc:=λk o=>by split<;>rfl
 t:=λk s' o=>by dsimp only;cases Gc k.t.c o.fn (varsOf im o.fn) [x] o.AR<;>exact⟨rfl,rfl⟩
def Adk{g l}(c:fl l m=fF)(h:(Et g l).2=0):fl (Et g l).1.Ad m=fF/\fl g.A5 m=fF:=by unfold Et at*;split at h;rename_i b;rw[Ac b];have a:fl (jn g.Ad l) m=fF:=ZM c<|IV.2<|AW5 _ _;exact⟨a,ZM a b⟩;exact absurd h (by show¬((-4:Int)=0);decide)
def AA5{x f}(a:Rd f)(b:k.e=A8)(j:Ca m k.s s'):Tw m AC thr' k.t k.s s' (Ff k x f) (Ff ⟨s',k.t,k.e⟩ x f):=by
 unfold Ff G1;dsimp only;split;exact .A8 rfl b b rfl j;rename_i n;have n:(Et k.t.g x.l).2=0:=by simpa using n
 generalize A:(Et k.t.g x.l).1=g;by_cases l:fl x.l m;have e:EY (Call.Bp ⟨s',k.t,k.e⟩ g) x=EY (k.Bp g) x:=(j.AAy rfl rfl l).symm;rw[e];cases EY (k.Bp g) x with
 |none=>exact .A8 rfl b b rfl j
 |some o=>
  dsimp only;have c:=a.t (k.Bp g) s' o;refine .A8 c.1 ((a.e _ _).trans b) ((a.e _ _).trans b) c.2 ?_;rw[a.s,a.s];exact j
 have l:fl x.l m=fF:=by simpa using l
 let⟨c,z⟩:=Adk l n;rw[A]at c;have i:∀(q:Call)(p:AA AL),q.e=Lz.A8->q.t=k.t->fl (match EY (q.Bp g) x with|none=>((q.Bp g).push<|BH 0,nO)|some o=>f (q.Bp g) o:CR).1.t.g.Ad m=fF/\(match EY (q.Bp g) x with|none=>((q.Bp g).push<|BH 0,nO)|some o=>f (q.Bp g) o:CR).1.t.AI=k.t.AI/\Inv m p q.s (match EY (q.Bp g) x with|none=>((q.Bp g).push<|BH 0,nO)|some o=>f (q.Bp g) o:CR).1:=by
  intro q p d h;cases EY (q.Bp g) x with
  |none=>exact⟨c,by show q.t.AI=_;rw[h],Inv.Mq rfl d⟩
  |some o=>
   dsimp only;refine⟨by rw[a.g];exact c,by rw[a.sc];show q.t.AI=_;rw[h],Inv.Mq (a.s _ _)<|(a.e _ _).trans d⟩
 let⟨r,t,u⟩:=i k AC b rfl;let⟨v,w,y⟩:=i ⟨s',k.t,k.e⟩ thr' b rfl;exact .hid r v t w z u y
def AAp{n o}(c:Ca m s s')(a:Am s n=nO)(b:Am s' n=nO):Ca m (Cy s n o) (Cy s' n o):=by
 by_cases e:Ew s n o;exact c.add e (by simpa[Ew,a,b]using e);have d:Ew s' n o=fF:=by simpa[Ew,a,b]using e
 rwa[OF<|by simpa using e,OF d]
def AA4{o}(a:k.e=A8)(c:Ca m k.s s')(f:∀t n,GI k.t=sM (t,n)->Am k.s n=nO/\Am s' n=nO):Tw m AC thr' k.t k.s s' (Fv k o) (Fv ⟨s',k.t,k.e⟩ o):=by unfold Fv;dsimp only;split;exact .A8 rfl a a rfl c;split;exact .A8 rfl a a rfl c;rename_i t n b;let⟨d,e⟩:=f t n b;exact .A8 rfl a a rfl<|AAp c d e
def AAz{q x a}(h:EY q x=sM a)(c:fl x.l m=fF)(o)(b:o.l=a.l):Ca m q.s (Cn q.s x.name o):=λn=>(Xe (by rwa[b,(HV h).2.2]) n).symm
def AFQ{q x a}(e:Ca m q.s s')(h:EY q x=sM a)(f:fl x.l m)(o)(d:o.l=a.l):Ca m (Cn q.s x.name o) (Cn s' x.name o):=by let⟨b,g,c⟩:=HV h;exact e.set b (by rwa[c]) d.symm
def AdR{x y}(a:k.e=A8)(d:Ca m k.s s'):Tw m AC thr' k.t k.s s' (match EY k x with
 |some c=>({k with s:=Cn k.s x.name {c with v:=y}},nO)
 |none=>(k,nO)) (match EY ⟨s',k.t,k.e⟩ x with
 |some c=>({(⟨s',k.t,k.e⟩:Call)with s:=Cn s' x.name {c with v:=y}},nO)
 |none=>(⟨s',k.t,k.e⟩,nO)):=by
 by_cases b:fl x.l m;rw[<-d.AAy (k:=k) (k':=⟨s',k.t,k.e⟩) rfl rfl b];cases g:EY k x with
 |none=>exact .A8 rfl a a rfl d
 |some c=>exact .A8 rfl a a rfl<|AFQ d g b {c with v:=y} rfl
 have b:fl x.l m=fF:=by simpa using b
 cases g:EY k x with
 |none=>
  cases e:EY ⟨s',k.t,k.e⟩ x with
  |none=>exact .A8 rfl a a rfl d
  |some f=>exact .A8 rfl a a rfl<|d.trans<|AAz e b {f with v:=y} rfl
 |some c=>
  cases e:EY ⟨s',k.t,k.e⟩ x with
  |none=>exact .A8 rfl a a rfl<|(AAz g b {c with v:=y} rfl).symm.trans d
  |some f=>exact .A8 rfl a a rfl<|(AAz g b {c with v:=y} rfl).symm.trans<|d.trans<|AAz e b {f with v:=y} rfl
def AOr(h:LR AC s)(i:LR thr' s')(l:Ca m s s')(b:∀d y,Af AC d=sM y->fl y.g.Ad m->Af thr' d=sM y){n a}(g:Am s n=sM a)(f:fl a.l m){w}(j:w∈a.var.q):Af AC w.id=Af thr' w.id:=by let⟨t,c,e⟩:=h n a g w j;rw[c,b _ t c<|by rwa[e]]
def Ad5{q a l w}(h:w∈(EO q a l).e.BY)(c:q.e=A8):a≠[]/\w=(a,l):=by rw[EO]at h;split at h;rw[c]at h;cases h;rename_i b;have h:w∈q.e.BY++[(a,l)]:=h;rw[c]at h;exact⟨b,A9.1 h⟩
def U8(q a l):(EO q a l).t=q.t/\(EO q a l).s=q.s:=by rw[EO];split<;>exact⟨rfl,rfl⟩
def Ad2{q b}(h:b.e=q.e)(a l):(EO b a l).e=(EO q a l).e:=by unfold EO;split;exact h;show{b.e with BY:=b.e.BY++[(a,l)]}= {q.e with BY:=q.e.BY++[(a,l)]};rw[h]
def AOI{q q' g}(t:q'.t=q.t)(e:q'.e=q.e)(f:Ca m q.s q'.s)(c:q.e=A8)(a l)(d:a≠[]->Af AC a=Af thr' a):Tw m AC thr' g s s' (EO q a l,nO) (EO q' a l,nO):=by
 refine .eq ((U8 _ _ _).1.trans<|t.trans (U8 _ _ _).1.symm) (Ad2 e _ _) rfl (by show Ca m (EO _ _ _).s (EO _ _ _).s;rwa[(U8 _ _ _).2,(U8 _ _ _).2]) λw b=> ?_
 let⟨q1,q2⟩:=Ad5 b c;rw[q2];exact d q1
def Sp(x:AW)(k:Call):CR:=match EY k x with
 |none=>(FG k x.name,nO)
 |some a=>
  let r:=GN a.var k.t.id;let k:={k with s:=Cn k.s x.name {a with var:=r.1}}
  match r.2.1 with
  |none=>(FG k x.name,nO)
  |some v=>(EO (k.push v) r.2.2 [],nO)
def SZ(x y:AW)(k:Call):CR:=match EY k x with
 |none=>(FG k x.name,nO)
 |some a=>
  let r:=Gg a.var k.t.id y;let k:={k with s:=Cn k.s x.name {a with var:=r.1}}
  if !r.2.1 then(FG k x.name,nO)else(EO k r.2.2 [y],nO)
def ANv(x k):(Sp x k).1.t.g=k.t.g/\(Sp x k).1.t.AI=k.t.AI:=by rw[Sp];split;exact⟨rfl,rfl⟩;dsimp only;split;exact⟨rfl,rfl⟩;rw[(U8 _ _ _).1];exact⟨rfl,rfl⟩
def AMN(x y k):(SZ x y k).1.t.g=k.t.g/\(SZ x y k).1.t.AI=k.t.AI:=by rw[SZ];split;exact⟨rfl,rfl⟩;dsimp only;split;exact⟨rfl,rfl⟩;rw[(U8 _ _ _).1];exact⟨rfl,rfl⟩
def AdT{x}(b:k.e=A8)(d:Ca m k.s s')(o:LR AC k.s)(f:LR thr' s')(h:∀j y,Af AC j=sM y->fl y.g.Ad m->Af thr' j=sM y)(g:fl x.l m)(q):Tw m AC thr' q k.s s' (Sp x k) (Sp x ⟨s',k.t,k.e⟩):=by
 unfold Sp;rw[<-d.AAy (k:=k) (k':=⟨s',k.t,k.e⟩) rfl rfl g];cases i:EY k x with
 |none=>exact .A8 rfl b b rfl d
 |some a=>
  let⟨l,r,n⟩:=HV i;have c:=AFQ d i g {a with var:=(GN a.var k.t.id).1} rfl;dsimp only;cases t:(GN a.var k.t.id).2.1 with
  |none=>exact .A8 rfl b b rfl c
  |some v=>
   refine AOI (q:=Call.push {k with s:=Cn k.s x.name {a with var:=(GN a.var k.t.id).1}} v) (q':=Call.push ⟨Cn s' x.name {a with var:=(GN a.var k.t.id).1},k.t,k.e⟩ v) rfl rfl c b _ _ λq1=> ?_;rcases AFe (id:=k.t.id)with e|⟨u,p,e⟩;exact(q1 e).elim;rw[<-e];exact AOr o f d h l (by rw[n];exact g) p
def AdS{x y}(b:k.e=A8)(d:Ca m k.s s')(o:LR AC k.s)(f:LR thr' s')(h:∀j y,Af AC j=sM y->fl y.g.Ad m->Af thr' j=sM y)(g:fl x.l m)(q):Tw m AC thr' q k.s s' (SZ x y k) (SZ x y ⟨s',k.t,k.e⟩):=by
 unfold SZ;rw[<-d.AAy (k:=k) (k':=⟨s',k.t,k.e⟩) rfl rfl g];cases i:EY k x with
 |none=>exact .A8 rfl b b rfl d
 |some a=>
  let⟨l,r,n⟩:=HV i;have c:=AFQ d i g {a with var:=(Gg a.var k.t.id y).1} rfl;dsimp only;cases t:(Gg a.var k.t.id y).2.1 with
  |false=>exact .A8 rfl b b rfl c
  |true=>
   refine AOI (q:={k with s:=Cn k.s x.name {a with var:=(Gg a.var k.t.id y).1}}) (q':=⟨Cn s' x.name {a with var:=(Gg a.var k.t.id y).1},k.t,k.e⟩) rfl rfl c b _ _ λq1=> ?_;rcases AFB (x:=a.var)with e|⟨u,p,e⟩;exact(q1 e).elim;rw[<-e];exact AOr o f d h l (by rw[n];exact g) p
def AOG{x f}(c:k.e=A8)(n:Ca m k.s s')(g:LR AC k.s)(b:LR thr' s')(d:∀r y,Af AC r=sM y->fl y.g.Ad m->Af thr' r=sM y)(q:(∃y,f=SZ x y)\/f=Sp x):Tw m AC thr' k.t k.s s' (Ga k x.l f) (Ga ⟨s',k.t,k.e⟩ x.l f):=by
 unfold Ga;dsimp only;split;exact .A8 rfl c c rfl n;rename_i o;have o:Dh k.t.g x.l=0:=by simpa using o
 by_cases a:fl x.l m;rcases q with⟨y,rfl⟩|rfl;exact AdS (k:=k.Bp ⟨A4 x.l,k.t.g.A5⟩) c n g b d a k.t;exact AdT (k:=k.Bp ⟨A4 x.l,k.t.g.A5⟩) c n g b d a k.t;have a:fl x.l m=fF:=by simpa using a
 have p:=ZM a (S0 o).2;have e:fl (A4 x.l) m=fF:=by rw[LW];exact a
 rcases q with⟨y,rfl⟩|rfl;let⟨h,i⟩:=AMN x y<|k.Bp ⟨A4 x.l,k.t.g.A5⟩;let⟨j,l⟩:=AMN x y<|Call.Bp ⟨s',k.t,k.e⟩ ⟨A4 x.l,k.t.g.A5⟩;exact .hid (by rw[h];exact e) (by rw[j];exact e) i l p (AD5 (k:=k.Bp ⟨A4 x.l,k.t.g.A5⟩) g c a)<|AD5 (k:=Call.Bp ⟨s',k.t,k.e⟩ ⟨A4 x.l,k.t.g.A5⟩) b c a;let⟨h,i⟩:=ANv x<|k.Bp ⟨A4 x.l,k.t.g.A5⟩;let⟨j,l⟩:=ANv x<|Call.Bp ⟨s',k.t,k.e⟩ ⟨A4 x.l,k.t.g.A5⟩;exact .hid (by rw[h];exact e) (by rw[j];exact e) i l p (AD6 (k:=k.Bp ⟨A4 x.l,k.t.g.A5⟩) g c a)<|AD6 (k:=Call.Bp ⟨s',k.t,k.e⟩ ⟨A4 x.l,k.t.g.A5⟩) b c a
def AQa{im AD o AR l}(d:Ca m k.s s')(b:k.e=A8)(v:LR AC k.s)(p:LR thr' s')(q:∀z y,Af AC z=sM y->fl y.g.Ad m->Af thr' z=sM y)(j:∀t n,GI k.t=sM (t,n)->Am k.s n=nO/\Am s' n=nO):
 Tw m AC thr' k.t k.s s' (CO im AD o AR l k) (CO im AD o AR l ⟨s',k.t,k.e⟩):=by
 have c:∀(a:Call)(x:AU Int),a.s=k.s->a.e=A8->Tw m AC thr' k.t k.s s' (a,x) (⟨s',a.t,a.e⟩,x):=λa x i h=>.A8 rfl h h rfl (by show Ca m a.s s';rw[i];exact d);have g:∀(a:Call)(x:AU Int),a.s=k.s->a.e.BY=[]->Tw m AC thr' k.t k.s s' (a,x) (⟨s',a.t,a.e⟩,x):=λa x i h=>.eq rfl rfl rfl (by show Ca m a.s s';rw[i];exact d) λw f=>by rw[h]at f;cases f
 unfold CO;dsimp only;split;exact c _ _ rfl b;exact c _ _ rfl b;split;exact c _ _ rfl b;unfold G1;dsimp only;split;exact c _ _ rfl b;exact c (k.Bp _) nO rfl b;split;exact c _ _ rfl b;split;exact c _ _ rfl b;exact c (k.Bp _) nO rfl b;split;exact c _ _ rfl b;exact AA4 b d j;split;exact c _ _ rfl b;exact AA5 Uf b d;split;exact c _ _ rfl b;exact AA4 b d j;split;exact c _ _ rfl b;exact AA5 AaW b d;split;exact c _ _ rfl b;split;exact c _ _ rfl b;exact AdR b d;split;exact c _ _ rfl b;exact AA4 b d j;split;exact c _ _ rfl b;exact AOG b d v p q<|.inr rfl;split;exact c _ _ rfl b;exact AOG b d v p q<|.inl ⟨l.getD 1 AZ,rfl⟩;split;exact c _ _ rfl b;split;exact c _ _ rfl b;split;exact c _ _ rfl b;split;exact c _ _ rfl b;rename_i t n r;let⟨i,h⟩:=j t n r;refine .eq rfl rfl rfl (AAp d i h) λw f=> ?_;have f:w∈k.e.BY:=f;rw[b]at f;cases f;split;exact c _ _ rfl b;exact AA5 (AaX _) b d;split;exact c _ _ rfl b;split;rename_i u A;exact c {k with t:=u} nO rfl b;exact c _ _ rfl b;split;exact c _ _ rfl b;split;exact c _ _ rfl b;exact g {k with e:={k.e with out:=k.e.out++[((l.getD 1 AZ).l,l.getD 0 AZ)]}} nO rfl (by show k.e.BY=[];rw[b];rfl);split;exact c _ _ rfl b;split;exact c _ _ rfl b;refine g _ nO rfl ?_;show(if _ then _ else k.e).BY=[];split<;>(rw[b];rfl);split;exact c _ _ rfl b;split;exact c _ _ rfl b;refine g _ nO rfl ?_;show(if _ then _ else k.e).BY=[];split<;>(rw[b];rfl);split;exact c _ _ rfl b;exact AA4 b d j;split;exact c _ _ rfl b;exact AA5 (AaY im _) b d;exact c _ _ rfl b
variable{k':Call}{t:AL}
structure YJ(m:AT)(AC thr':AA AL)(k k':Call):Prop where
 t:k'.t=k.t
 e:k'.e=k.e
 st:Ca m k.s k'.s
 w:∀w∈k.e.BY,Af AC w.1=Af thr' w.1
inductive TwD(m:AT)(AC thr':AA AL)(t0:AL)(s s':Az)(k k':Call):Prop
 |eq (h:YJ m AC thr' k k')
 |hid (h:fl k.t.g.Ad m=fF) (h':fl k'.t.g.Ad m=fF) (sc:k.t.AI=t0.AI) (a:k'.t.AI=t0.AI) (c:fl t0.g.A5 m=fF) (i:Inv m AC s k) (b:Inv m thr' s' k')
def cellS(s:Az)(id:Nm)(v:AW)(ex:Bool):Az:=match Am s id with
 |some o=>if o.kind=6 then Cn s id {o with v:=v,ex:=ex,done:=tT}else s
 |none=>s
def Vv{id}(h:Je m s id=none)(v)(ex:Bool):Ca m s (cellS s id v ex):=by
 rw[cellS];cases a:Am s id with
 |none=>exact Ca.refl _
 |some o=>
  have hl:fl o.l m=false:=by
   cases e:fl o.l m with
   |false=>rfl
   |true=>rw[AOc a e]at h;cases h
  dsimp only;split
  .exact λq=>(Xe (o:={o with v:=v,ex:=ex,done:=true}) hl q).symm
  exact Ca.refl _
theorem AbX(a:Ca m s s')(c v)(b:Bool):Ca m (cellS s c v b) (cellS s' c v b):=by
 cases e:Je m s c with
 |none=>exact(Vv e v b).symm.trans<|a.trans<|Vv ((a c).symm.trans e) v b
 |some o=>
  let⟨d,f⟩:=U5.1 e;unfold cellS;rw[d,a.some_ d f];dsimp only;split;exact a.set d f rfl;exact a
theorem Y8(k)(v)(ex:Bool):(E7 k v ex).t=Fq k.t v ex/\((Fq k.t v ex).Aw=3\/(Fq k.t v ex).Aw=4->(E7 k v ex).s=cellS k.s k.t.id v ex/\(E7 k v ex).e= {k.e with done:=tT})/\(¬((Fq k.t v ex).Aw=3\/(Fq k.t v ex).Aw=4)->(E7 k v ex).s=k.s/\(E7 k v ex).e=k.e):=by
 rw[E7];dsimp only;split
 grind
 rename_i h;exact⟨rfl,λ_=>⟨rfl,rfl⟩,gR⟩
theorem AFt(ht:k'.t=k.t)(he:k'.e=k.e)(hs:Ca m k.s k'.s)(hw: ∀w∈k.e.BY,Af AC w.1=Af thr' w.1)(v)(ex:Bool):YJ m AC thr' (E7 k v ex) (E7 k' v ex):=by obtain⟨a1,a2,a3⟩:=Y8 k v ex;obtain⟨a,b2,b3⟩:=Y8 k' v ex;rw[ht]at a b2 b3;by_cases h:(Fq k.t v ex).Aw=3\/(Fq k.t v ex).Aw=4;obtain⟨a4,a5⟩:=a2 h;obtain⟨c,b⟩:=b2 h;exact .mk (a.trans a1.symm) (by rw[a5,b,he]) (by grind[AbX]) (by rwa[a5]);constructor<;>grind
theorem AOH(f:k'.t=k.t)(d:k'.e=k.e)(e:Ca m k.s k'.s)(g:∀w∈k.e.BY,Af AC w.1=Af thr' w.1)(c)(b:Int)(a:Nat):YJ m AC thr' (EH k c b a) (EH k' c b a):=by
 unfold EH;generalize FF c b a=r;let⟨u,o⟩:=r;cases o with
 |failed v=>grind[AFt]
 |Iu=>constructor<;>grind
 |ended v=>constructor<;>grind
 |asked o=>constructor<;>grind
def AaU(k:Call)(c)(code:Int)(AP:Nat):(EH k c code AP).t.AI=k.t.AI:=by rw[EH];split;rw[(Y8 _ _ _).1];rfl;rfl
theorem AIJ(h:KI m M AC s)(d:t∈AC)(f:fl t.g.A5 m=fF)(c:t.AI=[]){o}(b:Am s t.id=sM o)(a:o.kind=6):fl o.l m=fF:=by
 cases e:fl o.l m with
 |false=>rfl
 |true=>
  have:=h.Km t d o b a e
  grind[Hv,fl]
theorem ASi{im AD}(h:KI m M AC s)(O:KI m M thr' s')(I:Af AC t.id=sM t)(J:Af thr' t.id=sM t)(aa:t.Aw=0)(Q:Ca m s s')(L:∀R y,Af AC R=sM y->fl y.g.Ad m->Af thr' R=sM y):
 TwD m AC thr' t s s' (C6 im t s AD) (C6 im t s' AD):=by
 have hn:∀(d:AA AL)(s:Az),KI m M d s->Af d t.id=sM t->∀c u n,GI {t with c:=c}=sM (u,n)->Am s n=nO:=λd s h I c u n H=>by
  let⟨_,F,_⟩:=Mf H;have F:=Vw F;have F:n=t.Bg++[t.A7]:=F;cases e:Am s n with
  |none=>rfl
  |some o=>
   exfalso;refine h.FQ t (D2 I) (t.Bg,t.A7) (by grind[Fu]) t.A7 (Ag _) n (.inl ⟨o,e⟩) ?_
   grind
 unfold C6;rw[AY oG,AY oG];dsimp only;cases hr:(Es im t.c (CV t).1 (CV t).2).2 with
 |Iu=>exact .eq ⟨rfl,rfl,Q,λw hw=>(by cases hw)⟩
 |ended v=>exact .eq<|(by grind[Es,CV,A8,AFt])
 |failed v=>exact .eq<|(by grind[Es,CV,A8,AFt])
 |asked o=>
  show TwD m AC thr' t s s' (Gt im AD (CV t).2 o ⟨s,t,A8⟩)<|Gt im AD (CV t).2 o ⟨s',t,A8⟩;unfold Gt;dsimp only;have G:=AQa (m:=m) (AC:=AC) (thr':=thr') (im:=im) (AD:=AD) (o:=o) (AR:=(t.c.top.getD Al).AR) (l:=Ct t.c<|BP o.code) (k:=⟨s,{t with c:=D4 (FR t.c<|BP o.code) λf=>{f with pc:=f.pc+1}},A8⟩) (s':=s') Q rfl h.qok O.qok L<|gR;have N:=λs=>AHZ (im:=im) (AD:=AD) (o:=o) (AR:=(t.c.top.getD Al).AR) (l:=Ct t.c<|BP o.code) (k:=⟨s,{t with c:=D4 (FR t.c<|BP o.code) λf=>{f with pc:=f.pc+1}},A8⟩);have r:=N s;have z:=N s';dsimp only at G;generalize CO im AD o _ _ ⟨s,_,A8⟩=q at G r⊢;generalize CO im AD o _ _ ⟨s',_,A8⟩=S at G z⊢;cases G with
  |eq C D i E j=>
   let⟨b,x⟩:=q;let⟨ab,T⟩:=S;have i:T=x:=i;subst i;cases T with
   |none=>exact .eq ⟨C,D,E,j⟩
   |some a=>exact .eq<|AOH C D E j _ _ _
  |hid C D i E j U V=>
   have A:∀(d:AA AL)(B:Az)(q:CR),KI m M d B->Af d t.id=sM t->fl q.1.t.g.Ad m=fF->q.1.t.AI=t.AI->Inv m d B q.1->(KM ⟨B,{t with c:=D4 (FR t.c<|BP o.code) λf=>{f with pc:=f.pc+1}},A8⟩ q)->
    fl (match q with|(b,nO)=>b|(b,sM a)=>EH b t.c a (CV t).2:Call).t.g.Ad m=fF/\(match q with|(b,nO)=>b|(b,sM a)=>EH b t.c a (CV t).2:Call).t.AI=t.AI/\Inv m d B (match q with|(b,nO)=>b|(b,sM a)=>EH b t.c a (CV t).2:Call):=by
    intro d B q hk K h1 l P h4;obtain⟨b,_|a⟩:=q;exact⟨h1,l,P⟩;let⟨g,e⟩:=h4 sP;have e:b=_:=e;refine⟨by grind[AMY],(AaU _ _ _ _).trans l,AFC P (λe1 o1 p h6=> ?_) _ _ _⟩;have e2:b.t.id=t.id:=by rw[e];rfl
    have l:b.t.AI=t.AI:=l;rw[e2]at p;exact AIJ hk (D2 K) j (l.symm.trans e1) p h6
   let⟨W,X,Y⟩:=A AC s q h I C i U r;let⟨c1,c2,Z⟩:=A thr' s' S O J D E V z;exact .hid W c1 X c2 j Y Z
theorem AOb(b:VX t m)(a:fl t.g.Ad m)(c:Af AC t.id=sM t):Cr m AC t.id=sM t:=by grind[Cr,ZN]
theorem ADr{P u}(h:TI m P M u)(e:C4 u m=sM t)(a:fl t.g.Ad m):u=t:=by
 by_cases b:fl u.g.Ad m;rw[ZN h.mono b]at e
 grind
 have b:fl u.g.Ad m=fF:=by simpa using b
 exfalso;let⟨j,i,_,_,d,_⟩:=WQ e b;have c:CF u m-1<lN u.AI:=oG;have g:u.AI[CF u m-1]? =sM (u.AI.getD (CF u m-1) Al):=by rw[DK,BS c];rfl
 generalize u.AI.getD (CF u m-1) Al=x at g d;rw[d]at a;have a:fl x.l m:=a;have f:=h.A5 _ x g a;rw[show CF u m-1+1=CF u m by omega]at f;have l:=OQ (h.cap _ i) f
 grind[Cx,Qq]
theorem Ul(h:KI m M AC s)(f:KI m M thr' s')(i:∀a,Cr m thr' a=Cr m AC a):∀a y,Af AC a=sM y->fl y.g.Ad m->Af thr' a=sM y:=by
 intro a y c d;have g:Cr m AC a=sM y:=by have:=E2 c;subst this;exact AOb (h.of c).mono d c
 have b:=(i a).trans g;rw[Cr]at b;cases e:Af thr' a with
 |none=>grind
 |some u=>
  rw[e]at b;have b:C4 u m=sM y:=b;rw[ADr (f.of e) b d]
theorem Xd{u a y y' id}(b:∀q,Cr m thr' q=Cr m AC q)(f:Af AC u.id=sM y)(c:Af thr' a.id=sM y')(hid:a.id=u.id)(d:C4 a m=C4 u m):Cr m (A1 thr' a) id=Cr m (A1 AC u) id:=by
 unfold Cr;rw[N4,N4,hid];by_cases e:id=u.id
 grind
 rw[AY e,AY e];exact b id
theorem Adp{u}(a:∀q,Cr m thr' q=Cr m AC q)(id):Cr m (CC thr' u) id=Cr m (CC AC u) id:=by unfold Cr;rw[Mp,Mp];split;rfl;exact a id
theorem Adr{w}(a:∀q,Cr m thr' q=Cr m AC q)(hw:Af AC w.1=Af thr' w.1)(id):Cr m (Gi thr' w) id=Cr m (Gi AC w) id:=by
 unfold Gi;rw[<-hw];cases ht:Af AC w.1 with
 |none=>exact a id
 |some y=>
  have hid:=E2 ht;refine Xd a (y:=y) (y':=y) ?_ ?_ rfl rfl;show Af AC y.id=_;rw[hid];exact ht;show Af thr' y.id=_;grind
theorem ATy{r c}(n:Af AC t.id=sM t)(h:Af thr' t.id=sM t)(hid:r.t.id=t.id)(o:∀q,Cr m thr' q=Cr m AC q)(d:c.t=r.t)(f:c.e=r.e)(p:∀w∈r.e.BY,Af AC w.1=Af thr' w.1)(b:lN r.e.BY<=1)(a:lN r.e.BU<=1)(id):Cr m (Jt thr' c) id=Cr m (Jt AC r) id:=by
 unfold Jt;rw[d,f];have l:∀q,Cr m (A1 thr' r.t) q=Cr m (A1 AC r.t) q:=by grind[Xd]
 have j:(∀q,Cr m (r.e.BU.foldl CC<|A1 thr' r.t) q=Cr m (r.e.BU.foldl CC<|A1 AC r.t) q)/\∀q,Af AC q=Af thr' q->Af (r.e.BU.foldl CC<|A1 AC r.t) q=Af (r.e.BU.foldl CC<|A1 thr' r.t) q:=by
  have i:∀q,Af AC q=Af thr' q->Af (A1 AC r.t) q=Af (A1 thr' r.t) q:=λq g=>by rw[N4,N4,g]
  rcases Ii a with e|⟨u,e⟩
  grind
  grind[Adp,Mp]
 rcases Ii b with e|⟨w,e⟩
 grind
 grind[Adr]
theorem AJG{r}(h:KI m M AC s)(B:Af AC t.id=sM t)(b:FI m M AC t r)(g:Inv m AC s r)(p:r.t.AI=t.AI)(I:fl r.t.g.Ad m=fF)(hnew:∀u∈r.e.BU,Af AC u.id=nO)(v:lN r.e.BY<=1)(f:lN r.e.BU<=1)(q):
 Cr m (Jt AC r) q=Cr m (A1 AC r.t) q:=by
 have o:∀u∈r.e.BU,u.id≠t.id:=by grind
 have D:∀q,Cr m (r.e.BU.foldl CC<|A1 AC r.t) q=Cr m (A1 AC r.t) q:=by
  rcases Ii f with e|⟨u,e⟩
  grind
  have j:u∈r.e.BU:=by rw[e];exact DT
  let⟨q1,q2⟩:=g.BU u j;rw[e];intro q;show Cr m (CC (A1 AC r.t) u) q=_;rw[AJY (by rw[Sr<|by rw[b.id];exact o u j];exact hnew u j) q1 q2]
 unfold Jt;rcases Ii v with e|⟨w,e⟩;rw[e];exact D q;have z:w∈r.e.BY:=by rw[e];exact DT
 rw[e];show Cr m (Gi (r.e.BU.foldl CC<|A1 AC r.t) w) q=_;unfold Gi;split;rename_i y a;have C:=E2 a;have G:C4 (DX y w.2) m=C4 y m:=by
  by_cases n:w.1=t.id;have A:y=r.t:=by
   have:Af (r.e.BU.foldl CC<|A1 AC r.t) w.1=sM r.t:=by
    have F:Af (A1 AC r.t) w.1=sM r.t:=by rw[n,<-b.id];exact RD B b.id
    rcases Ii f with e|⟨u,e⟩;rw[e];exact F
    grind[Mp]
   rw[a]at this;exact FX this
  subst A;refine Sy (n:=lN r.t.AI) (Ag _) (by grind[Cx,Ik]) (λx l=> ?_) _;rw[FN,p]at l;have H:=Vh (h.of B) x l;have:=Dt (λc:Ay=>lN c.stack)<|b.cut x l
  grind[Dp,Ee]
  have d:(∃u∈r.e.BU,y=u)\/Af AC w.1=sM y:=by
   rcases Ii f with e|⟨u,e⟩;rw[e]at a;have a:Af (A1 AC r.t) w.1=sM y:=a;rw[Sr<|by rw[b.id];exact n]at a;exact .inr a;rw[e]at a;have a:Af (CC (A1 AC r.t) u) w.1=sM y:=a;rw[Mp]at a;split at a
   grind
   rw[Sr<|by rw[b.id];exact n]at a;exact .inr a
  rcases d with⟨u,j,E⟩|d;subst E;let⟨q1,q2⟩:=g.BU y j;simp_all[Cx,EF,Sy,Bm];exact Sy (Ag _) (by unfold Cx;rw[Ik];exact g.BY w z y d) (λx l=>Vh (h.of d) x<|Fg l) _
 grind[DX,U4]
 exact D q
theorem AU8{r e}(d:FI m M AC t r)(a:FI m M thr' t e)(c:r.t.AI=t.AI)(b:e.t.AI=t.AI)(j:fl r.t.g.Ad m=fF)(f:fl e.t.g.Ad m=fF):C4 e.t m=C4 r.t m:=by
 have h:Cx r.t m (lN t.AI)=fF:=by rw[Cx];rwa[<-c,Ik]
 have i:Cx e.t m (lN t.AI)=fF:=by rw[Cx];rwa[<-b,Ik]
 refine WO (a.id.trans d.id.symm) gR gR (by rw[c,b]) h i λx g=> ?_;rw[c,FN]at g;exact(a.cut x g).trans (d.cut x g).symm
variable{k k':Ap}{t':AL}
structure V2(m:AT)(k k':Ap):Prop where
 im:k'.im=k.im
 AD:k'.AD=k.AD
 th:∀id,Cr m k'.AC id=Cr m k.AC id
 st:Ca m k.Ah k'.Ah
 lg:D9 k' m=D9 k m
def V2.symm(h:V2 m k k'):V2 m k' k:=⟨h.im.symm,h.AD.symm,λa=>(h.th a).symm,h.st.symm,h.lg.symm⟩
def V2.left(h:V2 m k k'){j}(v:VE m k.AC j.AC k.Ah j.Ah)(b:j.im=k.im)(c:j.AD=k.AD)(d:D9 j m=D9 k m):V2 m j k':=
 ⟨h.im.trans b.symm,h.AD.trans c.symm,λa=>(h.th a).trans (v.th a).symm,v.st.symm.trans h.st,h.lg.trans d.symm⟩
def V2.right(h:V2 m k k'){j}(v:VE m k'.AC j.AC k'.Ah j.Ah)(a:j.im=k'.im)(b:j.AD=k'.AD)(c:D9 j m=D9 k' m):V2 m k j:=(h.symm.left v a b c).symm
theorem R8{p u:Type}{R:p->u->Prop}{f:p->Nm->p}{g:u->Nm->u}:∀(n:Nat)(l r:List Nm),lN l+lN r<=n->l.Pairwise (λa b=>Dz a b)->r.Pairwise (λa b=>Dz a b)->
 (∀x∈l,x∉r->∀a b,R a b->R (f a x) b)->(∀x∈r,x∉l->∀a b,R a b->R a (g b x))->(∀x∈l,x∈r->∀a b,R a b->R (f a x) (g b x))->∀a b,R a b->R (l.foldl f a) (r.foldl g b)
 |_,[],[],_,_,_,_,_,_,_,_,h=>h
 |n,x::l,[],hn,hl,hr,h1,h2,h3,a,b,h=>by
  cases n with
  |zero=>simp at hn
  |succ n=>
   exact R8 n l [] (by simp at hn⊢;omega) (List.pairwise_cons.1 hl).2 hr (λy i o=>h1 y (List.mem_cons_of_mem _ i) o) (λy i _=>by cases i) (λy _ i=>by cases i) _ _<|h1 x List.mem_cons_self (λq=>by cases q) a b h
 |n,[],y::r,hn,hl,hr,h1,h2,h3,a,b,h=>by
  cases n with
  |zero=>simp at hn
  |succ n=>
   exact R8 n [] r (by simp at hn⊢;omega) hl (List.pairwise_cons.1 hr).2 (λy i _=>by cases i) (λz d c=>h2 z (List.mem_cons_of_mem _ d) c) nA _ _<|h2 y List.mem_cons_self (λq=>by cases q) a b h
 |n,x::l,y::r,hn,hl,hr,h1,h2,h3,a,b,h=>by
  cases n with
  |zero=>simp at hn
  |succ n=>
   have A:=(List.pairwise_cons.1 hl).1;have B:=(List.pairwise_cons.1 hr).1;by_cases e:x=y;subst e;refine R8 n l r (by simp at hn⊢;omega) (List.pairwise_cons.1 hl).2 (List.pairwise_cons.1 hr).2 (λz d c=>h1 z (List.mem_cons_of_mem _ d) λq=> ?_) (λz d c=>h2 z (List.mem_cons_of_mem _ d) λq=> ?_) (gR) _ _<|h3 x List.mem_cons_self List.mem_cons_self a b h
   grind[Ma]
   grind[Ma]
   by_cases j:Dz x y;have v:x∉y::r:=by grind[UO,Ma]
   refine R8 n l (y::r) (by simp at hn⊢;omega) (List.pairwise_cons.1 hl).2 hr (λz d c=>h1 z (List.mem_cons_of_mem _ d) c) (λz d c=>h2 z d λq=> ?_) (λz d c=>h3 z (List.mem_cons_of_mem _ d) c) _ _<|h1 x List.mem_cons_self v a b h
   grind
   have w:Dz y x:=AEV e (by simpa using j);have i:y∉x::l:=by grind
   refine R8 n (x::l) r (by simp at hn⊢;omega) hl (List.pairwise_cons.1 hr).2 (λz d c=>h1 z d λq=> ?_) (λz d c=>h2 z (List.mem_cons_of_mem _ d) c) (λz d c=>h3 z d<|List.mem_cons_of_mem _ c) _ _<|h2 y List.mem_cons_self i a b h
   grind
def ZQ{l}(h:Fi l):(l.map (·.id)).Pairwise (λa b=>Dz a b):=Xs.2 h
def waits(l:AA AL):Nat:=l.countP λt=>t.Aw==1
theorem ABG{u}(a:u.Aw≠1):∀l:AA AL,waits (A1 l u)<=waits l
 |[]=>Ag _
 |x::l=>by
  have b:=ABG a l;unfold waits A1 at b⊢;rw[E4,ABW,ABW];have:(if((if(x.id==u.id)=tT then u else x).Aw==1)=tT then 1 else 0)<=(if(x.Aw==1)=tT then 1 else 0):=by by_cases e:(x.id==u.id);rw[Ac e,AY<|by simpa using a];exact Bm _;rw[AY e];exact Ag _
  omega
theorem Sx{u}(b:u.Aw≠1){t}(a:t.Aw=1):∀l:AA AL,Af l u.id=sM t->waits (A1 l u)<waits l
 |[],h=>by cases h
 |x::l,h=>by
  have d:=Sx b a l;have c:=ABG b l
  grind[Af,waits,A1]
def AOd(l):waits l<=lN l:=AO1
theorem Sd(t s v)(a:Bool):(Dv t s v a).t.Aw≠1:=by rw[Dv];split;show(0:Nat)≠1;decide;rw[EH];split;rw[(Y8 _ _ _).1];show(if 0<_ then 2 else if tT=tT then 4 else 3)≠1;split<;>decide;show(0:Nat)≠1;decide
def HA(n:Nat)(a:Nm)(k:Ap)(other:Nm):Ap:=
 match Af k.AC other with
  |none=>k
  |some t=>
   if t.Aw≠1\/t.on≠a then k
   else match Am k.Ah a with
    |none=>k
    |some o=>if o.kind≠6\/ !o.done then k
     else
      let r:=Dv t k.Ah o.v o.ex;let k:={k with Ah:=r.s,AC:=A1 k.AC r.t}
      if r.e.done then GD n k other else k
def Tn(n k a):GD (n+1) k a=(k.AC.map (·.id)).foldl (HA n a) k:=rfl
theorem AIq: ∀(n:Nat) (k:Ap) (id:Nm),(GD n k id).AC.map (·.id)=k.AC.map (·.id)/\waits (GD n k id).AC<=waits k.AC
 |0,_,_=>⟨rfl,Nat.le_refl _⟩
 |n+1,k,id=>by rw[Tn];refine NC (P:=λk':Ap=>k'.AC.map (·.id)=k.AC.map (·.id)/\waits k'.AC<=waits k.AC) (λk' x h=> ?_) _ ⟨rfl,Nat.le_refl _⟩;rw[HA];split;exact h;split;exact h;split;exact h;split;exact h;dsimp only;have h1:=ABG (Sd (by assumption) k'.Ah (Ob.v (by assumption)) (Ob.ex (by assumption))) k'.AC;split;have a:=AIq n {k' with Ah:=(Dv (by assumption) k'.Ah (Ob.v (by assumption)) (Ob.ex (by assumption))).s,AC:=A1 k'.AC (Dv (by assumption) k'.Ah (Ob.v (by assumption)) (Ob.ex (by assumption))).t} x;exact⟨a.1.trans ((ZR _ _).trans h.1),Nat.le_trans a.2 (Nat.le_trans h1 h.2)⟩;exact⟨(ZR _ _).trans h.1,Nat.le_trans h1 h.2⟩
theorem Yu(n k a x):(HA n a k x).AC.map (·.id)=k.AC.map (·.id)/\waits (HA n a k x).AC<=waits k.AC:=by
 rw[HA];split;simp;rename_i t c;split;simp;split;simp;rename_i o b;split;simp
 grind[ABG,Sd,AIq,ZR,Nat.le_trans]
theorem AIo(n k a x):(HA n a k x).B5=k.B5/\(HA n a k x).Bj=k.Bj/\(HA n a k x).AD=k.AD/\(HA n a k x).im=k.im:=by grind[HA,Kp]
theorem Yv(n)(h:KK m M k)(g x):KK m M (HA n g k x):=by
 rw[HA];split;exact h;rename_i t d;split;exact h;rename_i a;simp[Jk,Ka]at a;split;exact h;rename_i o f;split;exact h;rename_i b;simp[Jk,Ka]at b;have c:=Q9 h.ki h.kq (t:=t) (by rwa[E2 d]) a.1 (by rwa[a.2]) b.1;have e:KK m M {k with Ah:=(Dv t k.Ah o.v o.ex).s,AC:=A1 k.AC (Dv t k.Ah o.v o.ex).t}:=⟨c.1,c.2.1⟩
 grind[Yw]
def AIn(n)(h:KK m M k)(y x)(C:∀t,Af k.AC x=sM t->fl t.g.Ad m=fF):VE m k.AC (HA n y k x).AC k.Ah (HA n y k x).Ah:=by
 rw[HA];split;exact .refl _ _;rename_i t g;have w:=C t g;split;exact .refl _ _;rename_i f;simp[Jk,Ka]at f;split;exact .refl _ _;rename_i o B;split;exact .refl _ _;rename_i j;simp[Jk,Ka]at j;have a:=E2 g;have c:Am k.Ah t.on=sM o:=by rwa[f.2]
 have b:Af k.AC t.id=sM t:=by rwa[a]
 have u:=Q9 h.ki h.kq b f.1 c j.1;let⟨D,z,E⟩:=AMk h.ki h.kq b f.1 c j.1 w;have p:KK m M {k with Ah:=(Dv t k.Ah o.v o.ex).s,AC:=A1 k.AC (Dv t k.Ah o.v o.ex).t}:=⟨u.1,u.2.1⟩;have d:VE m k.AC (A1 k.AC (Dv t k.Ah o.v o.ex).t) k.Ah (Dv t k.Ah o.v o.ex).s:=⟨λq=>U4 b u.2.2 D q,z⟩;dsimp only;split;rename_i l;refine d.trans<|V3 n (k:={k with Ah:=(Dv t k.Ah o.v o.ex).s,AC:=A1 k.AC (Dv t k.Ah o.v o.ex).t}) x p λo2 r i=> ?_;cases e:fl o2.l m with
 |false=>rfl
 |true=>
  have:=Yg h.ki (D2 g) (by rw[EF];rwa[E l]) (by rw[a];exact z.symm.some_ r e) i;rw[e]at this;cases this
 exact d
def ALj(h:KI m M AC s){x}(b:Cr m AC x=nO):∀t,Af AC x=sM t->fl t.g.Ad m=fF:=by
 intro t a;cases e:fl t.g.Ad m with
 |false=>rfl
 |true=>
  have hid:=E2 a;subst hid;rw[AOb (h.of a).mono e a]at b;cases b
theorem ABE{x}(h:x∉AC.map (·.id)):Cr m AC x=nO:=by grind[Cr,Af]
def UL{a b}(h:a.Bj=b.Bj):D9 a m=D9 b m:=by unfold D9;rw[h]
theorem AIs:∀(n p:Nat) {k k':Ap} (g:Nm),KK m M k->KK m M k'->V2 m k k'->waits k.AC<n->waits k'.AC<p->V2 m (GD n k g) (GD p k' g)
 |0,_,_,_,_,_,_,_,h,_=>absurd h<|Xx _
 |_+1,0,_,_,_,_,_,_,_,h=>absurd h<|Xx _
 |n+1,p+1,k,k',g,h,h',hv,P,ac=>by
  rw[Tn,Tn];have u:∀a c x,KK m M a->V2 m a c->(∀t,Af a.AC x=sM t->fl t.g.Ad m=fF)->V2 m (HA n g a x) c:=λa c x i b I=>by obtain⟨_,T,U,V⟩:=AIo n a g x;exact b.left (AIn n i g x I) V U<|UL T
  have j:∀a c x,KK m M c->V2 m a c->(∀t,Af c.AC x=sM t->fl t.g.Ad m=fF)->V2 m a (HA p g c x):=λa c x i b I=>by obtain⟨_,T,U,V⟩:=AIo p c g x;exact b.right (AIn p i g x I) V U<|UL T
  refine(R8 (R:=λa c:Ap=>(KK m M a/\KK m M c/\V2 m a c)/\(waits a.AC<n+1/\waits c.AC<p+1)/\a.AC.map (·.id)=k.AC.map (·.id)/\c.AC.map (·.id)=k'.AC.map (·.id)) _ _ _ (Ag _) (ZQ h.ki.E0) (ZQ h'.ki.E0) ?_ ?_ ?_ k k' ⟨⟨h,h',hv⟩,⟨P,ac⟩,rfl,rfl⟩).1.2.2
  .rintro x I B a c ⟨⟨i,f,b⟩,⟨w1,w2⟩,J,K⟩;obtain⟨Q,j2⟩:=Yu n a g x;refine⟨⟨Yv n i g x,f,u a c x i b<|ALj i.ki ?_⟩,⟨oG,w2⟩,Q.trans J,K⟩;rw[<-b.th];exact ABE (by rw[K];exact B)
  .rintro x I B a c ⟨⟨i,f,b⟩,⟨w1,w2⟩,J,K⟩;obtain⟨Q,j2⟩:=Yu p c g x;refine⟨⟨i,Yv p f g x,j a c x f b<|ALj f.ki ?_⟩,⟨w1,oG⟩,J,Q.trans K⟩;rw[b.th];exact ABE (by rw[J];exact B)
  .rintro x I B a c ⟨⟨i,f,b⟩,⟨w1,w2⟩,J,K⟩;obtain⟨Q,j2⟩:=Yu n a g x;obtain⟨j3,j4⟩:=Yu p c g x;refine⟨⟨Yv n i g x,Yv p f g x,?_⟩,⟨oG,oG⟩,Q.trans J,j3.trans K⟩;have ab:=Ul f.ki i.ki λq=>(b.th q).symm;by_cases E:∃t,Af a.AC x=sM t/\fl t.g.Ad m
   .obtain⟨t,A,hc⟩:=E;have N:=(Ul i.ki f.ki b.th) x t A hc;have C:=E2 A;unfold HA;rw[A,N];dsimp only;by_cases d:t.Aw≠1\/t.on≠g
    .rw[Ac d,Ac d];exact b
    .rw[AY d,AY d];simp only[Jk,Ka]at d;obtain⟨o,S,Z⟩:=i.ki.H8 t (D2 A) d.1 hc;have G:=b.st.some_ S Z;rw[d.2]at S G;rw[S,G];dsimp only;by_cases F:o.kind≠6\/(!o.done)
     .rw[Ac F,Ac F];exact b
     .rw[AY F,AY F];simp only[Jk,Ka]at F;have H:Af a.AC t.id=sM t:=by rw[C];exact A
      have y:Af c.AC t.id=sM t:=by rw[C];exact N
      have L:=Q9 i.ki i.kq H d.1 (by rw[d.2];exact S) F.1;have v:=Q9 f.ki f.kq y d.1 (by rw[d.2];exact G) F.1;have l:YJ m a.AC c.AC (Dv t a.Ah o.v o.ex) (Dv t c.Ah o.v o.ex):=by
       unfold Dv;split
       .exact⟨rfl,rfl,b.st,nA⟩
       .exact AOH (k:=⟨a.Ah,DX t [],A8⟩) (k':=⟨c.Ah,DX t [],A8⟩) rfl rfl b.st nA _ _ _
      have hrs:=Sd t a.Ah o.v o.ex;have D:=Sd t c.Ah o.v o.ex;generalize Dv t a.Ah o.v o.ex=r at L l hrs⊢;generalize Dv t c.Ah o.v o.ex=R at v l D⊢;have X:KK m M {a with Ah:=r.s,AC:=A1 a.AC r.t}:=⟨L.1,L.2.1⟩;have Y:KK m M {c with Ah:=R.s,AC:=A1 c.AC R.t}:=⟨v.1,v.2.1⟩;have O:V2 m {a with Ah:=r.s,AC:=A1 a.AC r.t} {c with Ah:=R.s,AC:=A1 c.AC R.t}:=
       ⟨b.im,b.AD,λq=>Xd b.th (y:=t) (y':=t) (by rw[L.2.2];exact H) (by rw[v.2.2];exact y) (by rw[l.t])<|by rw[l.t],l.st,b.lg⟩
      rw[l.e];by_cases z:r.e.done
      .rw[Ac z,Ac z];have q1:=Sx hrs d.1 a.AC (by rw[L.2.2];exact H);have q2:=Sx D d.1 c.AC (by rw[v.2.2];exact y);exact AIs n p x X Y O (by show waits (A1 a.AC r.t)<n;omega) (by show waits (A1 c.AC R.t)<p;omega)
      .rw[AY z,AY z];exact O
   .have hh:∀t,Af a.AC x=sM t->fl t.g.Ad m=fF:=λt A=>by
     cases e:fl t.g.Ad m with
     |false=>rfl
     |true=>exact(E ⟨t,A,e⟩).elim
    have W:∀t,Af c.AC x=sM t->fl t.g.Ad m=fF:=λt A=>by
     cases e:fl t.g.Ad m with
     |false=>rfl
     |true=>
      have:=ab x t A e;rw[hh t this]at e;cases e
    exact j _ c x f (u a c x i b hh) W
def Zy(h:VX t m){i j}(a:i<=j)(c:j<=lN t.AI)(b:Cx t m i=fF):Cx t m j=fF:=by
 cases e:Cx t m j with
 |false=>rfl
 |true=>rw[h.out i j a c e]at b;cases b
def AUX(h:KI m M AC s)(j:Af AC t.id=sM t)(g:t.Aw=1)(c:fl t.g.Ad m=fF):Ca m s (Gy s t.on t.id):=by
 rw[Gy];cases f:Am s t.on with
 |none=>exact Ca.refl _
 |some o=>
  dsimp only;split;cases e:KV o.var t.id with
  |none=>exact Ca.refl _
  |some x=>
   obtain⟨i,w,d,l,rfl⟩:=AEK e;let⟨y,a,_,_,b⟩:=(h.Dn _ o f).2 w<|De d;rw[l,j]at a;cases a;exact λq=>(Xe (o:={o with var:=⟨o.var.full,o.var.v,o.var.q.eraseIdx i⟩}) (by show fl o.l m=fF;rwa[<-b]) q).symm
  exact Ca.refl _
def AUZ(h:KI m M AC s)(g:Af AC t.id=sM t)(e:t.Aw=1)(f:fl t.g.Ad m)(b:Ca m s s'):Ca m (Gy s t.on t.id) (Gy s' t.on t.id):=by
 let⟨o,c,a⟩:=h.H8 t (D2 g) e f;unfold Gy;rw[c,b.some_ c a];dsimp only;split;cases i:KV o.var t.id with
 |none=>exact b
 |some x=>exact b.set c a rfl
 exact b
def ANM{P}(h:TI m P M t){i}(d:i<lN t.AI)(a:Cx t m (i+1)=fF):fl t.AI[i].l m=fF:=by
 cases e:fl t.AI[i].l m with
 |false=>rfl
 |true=>
  rw[Cx]at a;rw[OQ (h.cap (i+1) oG)<|h.A5 i _ (BS d) e]at a;cases a
def AXJ{i}(a:i<lN t.AI){j}(b:j<=i):EF (GH t i) j=EF t j:=by have:=(AEM a).1 j b;rwa[AKi]
def Qd{i}(a:i<lN t.AI):t.AI.getD i Al=t.AI[i]:=by simp[DK,a]
def AXG{P}(h:TI m P M t){i}(f:i<lN t.AI):∀x∈t.AI.take i,Dp (GH t i).c x=Dp t.c x:=λx p=>by
 obtain⟨j,o,rfl⟩:=Kc p;rw[Cu]at o;have g:j<i:=oG;have c:t.AI[j]'oG∈t.AI:=DR _;have d:=Lx.1 h.nest j i oG f g;rw[VN];generalize t.AI[j]'oG=a at c d;have n:t.AI[i]∈t.AI:=DR f;have e:(GH t i).c=Df (Dp t.c t.AI[i]) (BZ 3 t.AI[i].name t.AI[i].l):=by rw[GH];dsimp only;rw[Qd f];rfl
 rw[e];generalize t.AI[i]=b at n d;rw[(No (ALt (h.at_ a c) (h.at_ b n) d.1 d.2.1 d.2.2) _).eq];simp[Dp,Ee,IA,Gn<|Ly d.1,Gn d.2.1,Gn d.2.2]
def NE(s:Az)(t:AL):Az:=if t.Aw=1 then Gy s t.on t.id else s
def AEL(k t i):I4 k t i= {k with Ah:=Cy (NE k.Ah t) (t.AI.getD i Al).name<|GF t i,AC:=A1 k.AC<|GH t i}:=rfl
def ADd(h:KI m M AC s)(b:Af AC t.id=sM t)(a:fl t.g.Ad m=fF):Ca m s (NE s t):=by rw[NE];split;exact AUX h b aS a;exact Ca.refl _
def AJU(h:KI m M AC s)(c:KQ s)(d:Af AC t.id=sM t){n}(b:Am s n=nO):Am (NE s t) n=nO:=by rw[NE];split;rename_i a;have:=(AJW h c d a).2.2.2 n;rw[b]at this;simpa using this;exact b
def AXH(h:KK m M k)(e:Af k.AC t.id=sM t){i}(b:i<lN t.AI)(d:Cx t m i=fF):VE m k.AC (I4 k t i).AC k.Ah (I4 k t i).Ah:=by
 have a:=h.ki.of e;have c:fl t.g.Ad m=fF:=by have:=Zy a.mono (Ly b) (Ag _) d;rw[Cx]at this;rwa [Ik]at this
 have g:fl (t.AI.getD i Al).l m=fF:=by rw[Qd b];exact ANM a b<|Zy a.mono (Cv i) oG d
 rw[AEL];refine⟨λq=> ?_,?_⟩;refine U4 (u:=GH t i) e rfl ?_ q;have f:(GH t i).AI=t.AI.take i:=rfl;refine WO (n:=i) rfl (Ly b) (by rw[f,Cu];omega) (by rw[f,IA,Xw]) d (by rw[Cx];rwa[AXJ b<|Ag _])<|AXG a b;exact(ADd h.ki e c).trans λq=>(ABF (by show fl (GF t i).l m=fF;exact g) q).symm
structure TQ(t t':AL)(i:Nat):Prop where
 id:t'.id=t.id
 l:i<lN t.AI
 l':i<lN t'.AI
 sc:t'.AI.take (i+1)=t.AI.take (i+1)
 cut:Dp t'.c t.AI[i]=Dp t.c t.AI[i]
def TQ.at_{i}(h:TQ t t' i):t'.AI.getD i Al=t.AI.getD i Al:=by have:=Dt (λl=>l[i]?) h.sc;simp[GO,Ac<|Xv i]at this;rw[DK,DK,this]
def TQ.leave{i}(h:TQ t t' i):GH t' i=GH t i:=by
 have b:t'.AI.take i=t.AI.take i:=by have:=Dt (List.take i) h.sc;simpa[IA]using this
 have c:Ee t'.c (t.AI.getD i Al).AG (t.AI.getD i Al).Cg (t.AI.getD i Al).AP=Ee t.c (t.AI.getD i Al).AG (t.AI.getD i Al).Cg (t.AI.getD i Al).AP:=by rw[Qd h.l];exact h.cut
 unfold GH;rw[h.at_,b];dsimp only;rw[c,h.id]
def AKj(h:KK m M k)(d:KK m M k')(f:V2 m k k')(e:Af k.AC t.id=sM t)(a:Af k'.AC t'.id=sM t'){i}(b:TQ t t' i)(j:Ca m (NE k.Ah t)<|NE k'.Ah t')(n:fl (t.AI.getD i Al).l m->GF t' i=GF t i):V2 m (I4 k t i) (I4 k' t' i):=by
 have o:=h.ki.of e;have l:=d.ki.of a;have g:=b.at_;have p:Am (NE k.Ah t) (t.AI.getD i Al).name=nO:=AJU h.ki h.kq e (by rw[Qd b.l];exact h.ki.Ja t (D2 e) _<|DR b.l);have r:Am (NE k'.Ah t') (t.AI.getD i Al).name=nO:=AJU d.ki d.kq a (by rw[<-g,Qd b.l'];exact d.ki.Ja t' (D2 a) _<|DR b.l');rw[AEL,AEL,g];refine⟨f.im,f.AD,λq=>Xd f.th (y:=t) (y':=t') e a b.id<|by rw[b.leave],?_,f.lg⟩;show Ca m (Cy (NE k.Ah t) (t.AI.getD i Al).name<|GF t i)<|Cy (NE k'.Ah t') (t.AI.getD i Al).name<|GF t' i;by_cases c:fl (t.AI.getD i Al).l m;rw[n c];exact AAp j p r;have c:fl (t.AI.getD i Al).l m=fF:=by simpa using c
 exact j.AHH (by exact c) (by show fl (t'.AI.getD i Al).l m=fF;rwa[g])
def AIx{b i}(h:IU t b=sM i)(g:t'.AI.take (i+1)=t.AI.take (i+1))(f:i<lN t'.AI):IU t' b=sM i:=by
 unfold IU at*;rw[Lv]at h⊢;let⟨n,d,e⟩:=h;have a:∀j (c:j<=i),t'.AI[j]'oG=t.AI[j]'oG:=λj c=>by have:=Dt (λl=>l[j]?) g;simp[GO,Ac<|show j<i+1 by omega]at this;rw[BS oG,BS oG]at this;exact FX this
 refine⟨f,by rwa[a i<|Ag _],λj c=> ?_⟩;rw[a j<|Ly c];exact e j c
def YQ(k x):(Fp k x).AC.map (·.id)=k.AC.map (·.id):=by rw[Fp];split;split;exact ZR _ _;rfl;rfl
def AHh(h:KK m M k)(x)(c:∀t,Af k.AC x=sM t->∀i,IU t k.AD=sM i->Cx t m i=fF):VE m k.AC (Fp k x).AC k.Ah (Fp k x).Ah:=by rw[Fp];split;rename_i t a;split;rename_i i b;exact AXH h (by rwa[E2 a]) (PK b)<|c t a i b;exact .refl _ _;exact .refl _ _
def WR{P}(h:TI m P M t)(a:C4 t m=nO):Cx t m 0=fF:=by
 cases e:Cx t m 0 with
 |false=>rfl
 |true=>
  exfalso;have b:CF t m≠0:=λq=>by have:=Qq t m oG;rw[q,e]at this;cases this
  rw[C4]at a;dsimp only at a;split at a;cases a;cases a
def AQu(h:KK m M k)(h':KK m M k')(W:V2 m k k'):V2 m (Fo k) (Fo k'):=by
 unfold Fo;have r:∀a d x,KK m M a->V2 m a d->(∀t,Af a.AC x=sM t->∀i,IU t a.AD=sM i->Cx t m i=fF)->V2 m (Fp a x) d:=λa d x j b F=>by let⟨J,Z,e3,_⟩:=YR a x;exact b.left (AHh j x F) J Z<|UL e3
 have p:∀a d x,KK m M d->V2 m a d->(∀t,Af d.AC x=sM t->∀i,IU t d.AD=sM i->Cx t m i=fF)->V2 m a (Fp d x):=λa d x j b F=>by let⟨J,Z,e3,_⟩:=YR d x;exact b.right (AHh j x F) J Z<|UL e3
 have o:∀a:Ap,KK m M a->∀x,Cr m a.AC x=nO->∀t,Af a.AC x=sM t->∀i,IU t a.AD=sM i->Cx t m i=fF:=λa j x F t z i g=>by unfold Cr at F;rw[z]at F;have A:=j.ki.G3 t<|D2 z;exact Zy A.mono (Bm _) (Ly<|PK g)<|WR A F
 refine(R8 (R:=λa d:Ap=>(KK m M a/\KK m M d/\V2 m a d)/\a.AC.map (·.id)=k.AC.map (·.id)/\d.AC.map (·.id)=k'.AC.map (·.id)) _ _ _ (Ag _) (ZQ h.ki.E0) (ZQ h'.ki.E0) ?_ ?_ ?_ {k with AD:=k.AD+1} {k' with AD:=k'.AD+1} ⟨⟨⟨h.ki,h.kq⟩,⟨h'.ki,h'.kq⟩,W.im,by rw[W.AD],W.th,W.st,W.lg⟩,rfl,rfl⟩).1.2.2;rintro x F G a d ⟨⟨j,f,b⟩,R,S⟩;refine⟨⟨Rk j x,f,r a d x j b<|o a j x ?_⟩,(YQ a x).trans R,S⟩;rw[<-b.th];exact ABE (by rw[S];exact G);rintro x F G a d ⟨⟨j,f,b⟩,R,S⟩;refine⟨⟨j,Rk f x,p a d x f b<|o d f x ?_⟩,R,(YQ d x).trans S⟩;rw[b.th];exact ABE (by rw[R];exact G);rintro x F G a d ⟨⟨j,f,b⟩,R,S⟩;refine⟨⟨Rk j x,Rk f x,?_⟩,(YQ a x).trans R,(YQ d x).trans S⟩;have ac:=Ul f.ki j.ki λq=>(b.th q).symm;cases z:Af a.AC x with
 |none=>
  have:(Af a.AC x).isSome:=XX.2 (by rw[R];exact F);rw[z]at this;cases this
 |some t=>
  cases n:Af d.AC x with
  |none=>
   have:(Af d.AC x).isSome:=XX.2 (by rw[S];exact G);rw[n]at this;cases this
  |some t'=>
   have hid:=E2 z;have C:=E2 n;have E:Af a.AC t.id=sM t:=by rw[hid];exact z
   have w:Af d.AC t'.id=sM t':=by rw[C];exact n
   have A:=j.ki.of E;have V:=f.ki.of w;by_cases K:fl t.g.Ad m;have e:=(Ul j.ki f.ki b.th) x t z K;rw[n]at e;cases e;unfold Fp;rw[z,n];dsimp only;rw[b.AD];cases T:IU t a.AD with
   |none=>exact b
   |some i=>
    have g:=PK T;refine AKj j f b E w ⟨rfl,g,g,rfl,rfl⟩ ?_ λ_=>rfl;unfold NE;split;rename_i ad;exact AUZ j.ki E ad K b.st;exact b.st
   have K:fl t.g.Ad m=fF:=by simpa using K
   have N:fl t'.g.Ad m=fF:=by
    cases e:fl t'.g.Ad m with
    |false=>rfl
    |true=>
     have:=ac x t' n e;rw[z]at this;cases this;rw[K]at e;cases e
   have H:C4 t' m=C4 t m:=by have:=b.th x;unfold Cr at this;rw[z,n]at this;exact this
   cases Y:C4 t m with
   |none=>
    rw[Y]at H;exact p _ d x f (r a d x j b λy I i g=>o a j x (by unfold Cr;rw[z];exact Y) y I i g)<|o d f x<|by unfold Cr;rw[n];exact H
   |some u=>
    rw[Y]at H;let⟨p1,p2,p3,p4,p5,p6,p7⟩:=WQ Y K;let⟨q1,q2,q3,q4,q5,q6,q7⟩:=WQ H N;have P:CF t' m=CF t m:=by have h1:=Dt List.length p3;have h2:=Dt List.length q3;rw[Cu]at h1 h2;omega
    have v:t'.AI.take (CF t m)=t.AI.take (CF t m):=by rw[<-p3,q3,P]
    have U:∀y:AL,TI m (DC m a.Ah) M y\/TI m (DC m d.Ah) M y->fl y.g.Ad m=fF->∀i,i<lN y.AI->CF y m<=i->Cx y m i=fF:=λy I aj i g hk=>by
     have hm:VX y m:=by rcases I with q|q<;>exact q.mono
     exact Zy hm hk (Ly g)<|Qq y m oG
    by_cases D:∃i,IU t a.AD=sM i/\i<CF t m;let⟨i,T,ah⟩:=D;have g:=PK T;have Q:t'.AI.take (i+1)=t.AI.take (i+1):=by have:=Dt (List.take<|i+1) v;rwa [IA,IA,Gn oG]at this
    have O:i<lN t'.AI:=oG;have aa:IU t' a.AD=sM i:=AIx T Q O;unfold Fp;rw[z,n];dsimp only;rw[b.AD,T,aa];have ag:t.AI.getD (CF t m-1) Al=t.AI[CF t m-1]'oG:=Qd oG;have X:t'.AI.getD (CF t' m-1) Al=t.AI[CF t m-1]'oG:=by rw[P];have:=Dt (λl=>l[CF t m-1]?) v;simp only[GO,Ac<|show CF t m-1<CF t m by omega]at this;rw[DK,this,BS oG];rfl
    have B:Dp t'.c (t.AI[CF t m-1]'oG)=Dp t.c (t.AI[CF t m-1]'oG):=by rw[ag]at p6;rw[X]at q6;rw[<-p6,<-q6]
    have L:Dp t'.c t.AI[i]=Dp t.c t.AI[i]:=by by_cases e:i=CF t m-1;subst e;exact B;have hn:=Lx.1 A.nest i (CF t m-1) g oG oG;have J:=Dt (λc=>Dp c t.AI[i]) B;simp only[Dp,Ee,IA,Gn<|Ly hn.1,Gn hn.2.1,Gn hn.2.2]at J;exact J
    refine AKj j f b E w ⟨by rw[hid,C],g,O,Q,L⟩ ((ADd j.ki E K).symm.trans<|b.st.trans<|ADd f.ki w N) λhl=> ?_;have ai:i+1<CF t m:=by
     rcases Jj (i+1) (CF t m)with q|q;exact q;exfalso;rw[Qd g]at hl;have:=ANM A g (by have e:i+1=CF t m:=oG;rw[e];exact Qq t m p2)
     rw[hl]at this;cases this
    have b1:IF t i=(BH (-7),tT):=by unfold IF;rw[Ac<|.inr oG]
    have b2:IF t' i=(BH (-7),tT):=by unfold IF;rw[Ac<|.inr oG]
    unfold GF;rw[b1,b2,(TQ.mk (t:=t) (t':=t') (i:=i) (by rw[hid,C]) g O Q L).at_];have ae:∀i,IU t a.AD=sM i->Cx t m i=fF:=λi g=>U t (.inl A) K i (PK g) (by rcases Jj i (CF t m)with q|q;exact(D ⟨i,g,q⟩).elim;exact q)
    have af:∀i,IU t' d.AD=sM i->Cx t' m i=fF:=λi g=>U t' (.inr V) N i (PK g) (by rcases Jj i (CF t' m)with q|q;exfalso;rw[b.AD]at g;rw[P]at q;refine D ⟨i,AIx g ?_ oG,q⟩;have:=Dt (List.take<|i+1) v;rw[IA,IA,Gn oG]at this;exact this.symm;exact q)
    refine p _ d x f (r a d x j b λy I i g=> ?_) λy I i g=> ?_;rw[z]at I;cases I;exact ae i g;rw[n]at I;cases I;exact af i g
def ANE{b}(c:Af k.AC b=sM t)(a:t.Aw=0):(runK k b).1.B5=k.B5++(C6 k.im t k.Ah k.AD).e.Bo.map λx:Gr=>(⟨k.AD,b,x⟩:Lk):=by rw[run_eq c a];dsimp only;split;rw[(Kp _ _ _).1];rfl;rfl
def XK{b}(c:Af k.AC b=sM t)(a:t.Aw=0)(h:∀x∈(runK k b).1.B5,Hr m x.e.AR):∀x∈(C6 k.im t k.Ah k.AD).e.Bo,Hr m x.AR:=λx d=>by rw[ANE c a]at h;exact h ⟨k.AD,b,x⟩<|HZ _<|BI.2 ⟨x,d,rfl⟩
def ADL(h:KK m M k)(d:Ie k.im/\∃A S,BK A S k.AC k.Ah)(c:Af k.AC t.id=sM t)(b:t.Aw=0):BE (C6 k.im t k.Ah k.AD).e:=by let⟨e,A,S,a⟩:=d;exact(AC6 (im:=k.im) (AD:=k.AD) e (a.ts t<|D2 c) b a.os a.sl λv f=>((h.ki.of c).FL.st v f).Cj).2
def ALa(h:KK m M k)(f:Af k.AC t.id=sM t)(a:t.Aw=0):∀u∈(C6 k.im t k.Ah k.AD).e.BU,Af k.AC u.id=nO:=λu b=>by
 rcases (AC8 (im:=k.im) (s:=k.Ah) (AD:=k.AD) a λv g=>((h.ki.of f).FL.st v g).Cj) with c|⟨x,c,i⟩;rw[c]at b;cases b;rw[c]at b;rw[A9.1 b,i];cases e:Af k.AC (t.Bg++[t.A7])with
 |none=>rfl
 |some y=>
  exfalso;have j:=E2 e;exact h.ki.FQ t (D2 f) (t.Bg,t.A7) (by rw[Fu];rw[a];simp) t.A7 (Ag _) y.id (.inr ⟨y,D2 e,DT⟩) (by rw[j];exact Xt _)
def AES(k a r):D9 (Fb k a r) m=D9 k m++(r.e.out.map λx:AT×AW=>(⟨k.AD,a,x.1,x.2⟩:FU)).filter (λf=>fl f.l m):=by unfold D9 Fb;rw[VK]
def AKw(k a){r}(h:∀x∈r.e.out,fl x.1 m=fF):D9 (Fb k a r) m=D9 k m:=by
 rw[AES];have:(r.e.out.map λx:AT×AW=>(⟨k.AD,a,x.1,x.2⟩:FU)).filter (λf=>fl f.l m)=[]:=by rw[AGT];intro f b;let⟨x,c,e⟩:=BI.1 b;subst e;have:=h x c;simp[this]
 rw[this,Hn]
def ALK(h:KK m M k)(i:Af k.AC t.id=sM t){r}(a:Inv m k.AC k.Ah r)(b:r.t.AI=t.AI)(d:fl t.g.A5 m=fF)(f:r.t.AI=[]):∀o,Am r.s t.id=sM o->o.kind=6->fl o.l m=fF:=λo g c=>by
 cases e:fl o.l m with
 |false=>rfl
 |true=>
  have:=AIJ h.ki (D2 i) d (b.symm.trans f) (a.B0.symm.some_ g e) c;rw[e]at this;cases this
def ANF(i:IQ k.im)(l:∀a b,M a->M (a&&&b))(h:KK m M k)(n:Ie k.im/\∃A S,BK A S k.AC k.Ah)(f)(o:∀t,Af k.AC f=sM t->fl t.g.Ad m=fF)(j:∀x∈(runK k f).1.B5,Hr m x.e.AR):
 VE m k.AC (runK k f).1.AC k.Ah (runK k f).1.Ah/\D9 (runK k f).1 m=D9 k m:=by
 cases d:Af k.AC f with
 |none=>
  have e:runK k f=(k,fF):=by rw[runK];rw[d]
  rw[e];exact⟨.refl _ _,rfl⟩
 |some t=>
  have hid:=E2 d;subst hid;by_cases c:t.Aw=0;have g:=ADL h n d c;exact Aa7 i l h d (o t d) (XK d c j) g.wk.1 g.fk.1;have e:runK k t.id=(k,fF):=by rw[runK];rw[d];dsimp only;rw[Ac c]
  rw[e];exact⟨.refl _ _,rfl⟩
def AbF(C:IQ k.im)(J:∀a b,M a->M (a&&&b))(h:KK m M k)(y:KK m M k')(hb:Ie k.im/\∃A S,BK A S k.AC k.Ah)(K:Ie k'.im/\∃A S,BK A S k'.AC k'.Ah)(l:V2 m k k')(i)
 (G:∀x∈(runK k i).1.B5,Hr m x.e.AR) (v:∀x∈(runK k' i).1.B5,Hr m x.e.AR):V2 m (runK k i).1 (runK k' i).1:=by
 have u:IQ k'.im:=by rwa[l.im]
 have L:=Ul h.ki y.ki l.th;have Y:=Ul y.ki h.ki λq=>(l.th q).symm;have f:∀(j:Ap)(i:Nm),(runK j i).1.AD=j.AD/\(runK j i).1.im=j.im:=λj i=>by rw[runK];split;exact⟨rfl,rfl⟩;dsimp only;split;exact⟨rfl,rfl⟩;rw[Oz];split;exact⟨(Kp _ _ _).2.2.1,(Kp _ _ _).2.2.2⟩;exact⟨rfl,rfl⟩
 by_cases F:∃t,Af k.AC i=sM t/\fl t.g.Ad m;let⟨t,g,hc⟩:=F;have d:=L i t g hc;have hid:=E2 g;subst hid;by_cases c:t.Aw=0;have B:=ADL h hb g c;have o:=ADL y K d c;have p:=Tl C J (AD:=k.AD) h.ki g c<|XK g c G;have n:=Tl u J (AD:=k'.AD) y.ki d c<|XK d c v;have hm:=AEf C J h g c<|XK g c G;have H:=AEf u J y d c<|XK d c v;have X:=ALa h g c;have E:=ALa y d c;have Z:=ASi (im:=k.im) (AD:=k.AD) h.ki y.ki g d c l.st L;have V:=AC7 (im:=k.im) (t:=t) (s:=k.Ah) (AD:=k.AD);have D:=AC7 (im:=k'.im) (t:=t) (s:=k'.Ah) (AD:=k'.AD);rw[run_eq g c,run_eq d c];dsimp only;rw[l.im,l.AD]at o n H E D⊢;generalize C6 k.im t k.Ah k.AD=r at*;generalize C6 k.im t k'.Ah k.AD=I at*;cases Z with
 |eq q=>
  have w:V2 m (Fb k t.id r) (Fb k' t.id I):=by refine⟨l.im,l.AD,λx=> ?_,q.st,?_⟩;exact ATy g d p.id l.th q.t q.e q.w B.wk.1 B.fk.1 x;rw[AES,AES,l.lg,q.e,l.AD]
  rw[q.e];by_cases z:r.e.done;rw[Ac z,Ac z];exact AIs _ _ t.id hm H w (Nat.lt_succ_of_le<|AOd _)<|Nat.lt_succ_of_le<|AOd _;rwa[AY z,AY z]
 |hid a1 a2 P Q a5 N O=>
  have w:V2 m (Fb k t.id r) (Fb k' t.id I):=by refine⟨l.im,l.AD,λx=> ?_,N.B0.symm.trans<|l.st.trans O.B0,?_⟩;show Cr m (Jt k'.AC I) x=Cr m (Jt k.AC r) x;rw[AJG y.ki d n O Q a2 E o.wk.1 o.fk.1 x,AJG h.ki g p N P a1 X B.wk.1 B.fk.1 x];exact Xd l.th (y:=t) (y':=t) (by rwa[p.id]) (by rwa[n.id]) (n.id.trans p.id.symm)<|AU8 p n P Q a1 a2;rw[AKw _ _ N.out,AKw _ _ O.out];exact l.lg
  have e1:V2 m (if r.e.done=tT then GD (lN (Fb k t.id r).AC+1) (Fb k t.id r) t.id else Fb k t.id r) (Fb k' t.id I):=by split;rename_i z;let⟨d1,R,T,U⟩:=Kp (lN (Fb k t.id r).AC+1) (Fb k t.id r) t.id;exact w.left (V3 _ t.id hm<|ALK h g N P a5<|V z) U T<|UL R;exact w
  by_cases z:I.e.done;rw[Ac z];let⟨d1,R,T,U⟩:=Kp (lN (Fb k' t.id I).AC+1) (Fb k' t.id I) t.id;exact e1.right (V3 _ t.id H<|ALK y d O Q a5<|D z) U T<|UL R;rwa[AY z]
 have e:runK k t.id=(k,fF):=by rw[runK];rw[g];dsimp only;rw[Ac c]
 have e':runK k' t.id=(k',fF):=by rw[runK];rw[d];dsimp only;rw[Ac c]
 rwa[e,e'];have hh:∀t,Af k.AC i=sM t->fl t.g.Ad m=fF:=λt g=>by
  cases e:fl t.g.Ad m with
  |false=>rfl
  |true=>exact(F ⟨t,g,e⟩).elim
 have W:∀t,Af k'.AC i=sM t->fl t.g.Ad m=fF:=λt g=>by
  cases e:fl t.g.Ad m with
  |false=>rfl
  |true=>
   have:=Y i t g e;rw[hh t this]at e;cases e
 let⟨v1,l1⟩:=ANF C J h hb i hh G;let⟨v2,l2⟩:=ANF u J y K i W v;exact(l.left v1 (f k i).2 (f k i).1 l1).right v2 (f k' i).2 (f k' i).1 l2
def Ft(m:AT)(l:AA AL):AA AL:=l.filterMap (C4 · m)
def ALH{l u}(h:u∈Ft m l):∃t∈l,C4 t m=sM u:=by let⟨t,a,b⟩:=AGa.1 h;exact⟨t,a,b⟩
def XS:∀ {l:AA AL},Fi l->Fi (Ft m l)
 |[],_=>List.Pairwise.nil
 |x::l,h=>by
  let⟨b,a⟩:=G4.1 h;rw[Ft];rw[AGR];cases c:C4 x m with
  |none=>exact XS a
  |some u=>
   refine G4.2 ⟨λy d=> ?_,XS a⟩;let⟨z,f,e⟩:=ALH d;rw[Qg c,Qg e];exact b z f
def AFk:∀ {l:AA AL},Fi l->∀a,Af (Ft m l) a=Cr m l a
 |[],_,_=>rfl
 |x::l,h,a=>by
  let⟨f,g⟩:=G4.1 h;have d:=AFk g a;unfold Ft Cr Af at d⊢;rw[AGR,KH];by_cases e:x.id=a;have b:(x.id==a):=by simpa using e
  rw[b];cases c:C4 x m with
  |none=>
   dsimp only;rw[d];have:l.find? (λx=>x.id==a)=nO:=by rw[ABa];intro y i q;have:=f y i;rw[e,eq_of_beq q,Ma]at this;cases this
   rw[this,Xz,c];rfl
  |some u=>
   dsimp only;rw[KH,show(u.id==a)=tT by rw[Qg c];exact b,Xz,c]
  have b:(x.id==a)=fF:=by simpa using e
  rw[b];cases c:C4 x m with
  |none=>exact d
  |some u=>
   dsimp only;rw[KH,show(u.id==a)=fF by rw[Qg c];exact b];exact d
def ZF{s}(h:(s.map (·.1)).Nodup){x}(a:x∈s):Am s x.1=sM x.2:=by
 induction s with
 |nil=>cases a
 |cons y s b=>
  rw[E4,GX]at h;rw[Am]at b⊢;rw[KH];rcases Co.1 a with e|e;subst e;simp;have:(y.1==x.1)=fF:=by rw[Nf];intro q;exact h.1 (by rw[q];exact BI.2 ⟨x,e,rfl⟩)
  rw[this];exact b h.2 e
def AEc{s n o}(h:Am s n=sM o):(n,o)∈s:=by rw[Am]at h;let⟨x,d,e⟩:=L9.1 h;have c:=ABb d;have f:=AO7 d;let⟨a,b⟩:=x;simp at c e;subst c;subst e;exact f
def AEu{s}(h:(s.map (·.1)).Nodup):((GU s m).map (·.1)).Nodup:=h.sublist<|(S7).map _
def AJd{s}(h:(s.map (·.1)).Nodup)(n):Am (GU s m) n=Je m s n:=by apply Option.ext;intro o;rw[U5];constructor;intro e;have a:=AEc e;rw[GU]at a;let⟨b,c⟩:=Ho.1 a;exact⟨ZF h b,c⟩;rintro⟨a,b⟩;exact ZF (AEu h) (x:=(n,o))<|Ho.2 ⟨AEc a,b⟩
def ALg{c:Type}[DecidableEq c]:∀ {l r:AA c},l.Nodup->(∀x∈l,x∈r)->lN l<=lN r
 |[],_,_,_=>Bm _
 |x::l,r,h,hs=>by let⟨d,f⟩:=GX.1 h;have a:=hs x DT;have:=ALg (l:=l) (r:=r.erase x) f λy b=>(Xr λe=>d<|by rwa[<-e]).2<|hs y<|DY _ b;rw[AO5 a]at this;have g:=VO a;rw[FM];omega
def AbH(h:(s.map (·.1)).Nodup)(i:(s'.map (·.1)).Nodup)(l:Ca m s s'):JZ (GU s m) (GU s' m):=by
 have g:∀ {a b:Az},(a.map (·.1)).Nodup->(b.map (·.1)).Nodup->Ca m a b->∀x∈GU a m,Am (GU b m) x.1=sM x.2:=λf j c x d=>by let⟨p,q⟩:=Ho.1 d;rw[AJd j,<-c,<-AJd f];exact ZF (AEu f) d
 have hlen:∀ {a b:Az},(a.map (·.1)).Nodup->(b.map (·.1)).Nodup->Ca m a b->lN (GU a m)<=lN (GU b m):=λ{a b} f j c=>by
  have:=ALg (l:=(GU a m).map (·.1)) (r:=(GU b m).map (·.1)) (AEu f) λn o=>by let⟨x,d,e⟩:=BI.1 o;have:=AEc<|g f j c x d;exact BI.2 ⟨_,this,e⟩
  simpa using this
 rw[JZ];rw[CJ,ER,EQ];refine⟨Nat.le_antisymm (hlen h i l)<|hlen i h l.symm,λx d=> ?_⟩;rw[g h i l x d];simp
def ANH(b:Fi k.AC)(c:Fi k'.AC)(h:(k.Ah.map (·.1)).Nodup)(i:(k'.Ah.map (·.1)).Nodup)(a:V2 m k k'):LA (Hh k m) (Hh k' m):=by
 have d:Ft m k'.AC=Ft m k.AC:=Abx (XS c) (XS b) λj=>by rw[AFk c,AFk b,a.th]
 have e:(Hh k' m).AC=(Hh k m).AC:=d;have f:(Hh k' m).Bj=(Hh k m).Bj:=a.lg;have g:JZ (Hh k m).Ah (Hh k' m).Ah:=AbH h i a.st;rw[LA];rw[e,f,g,show(Hh k' m).AD=(Hh k m).AD from a.AD,show(Hh k' m).B5=(Hh k m).B5 from rfl];simp
def AbI(h:KK m M k)(a:KK m M k')(b:V2 m k k'):LA (Hh k m) (Hh k' m):=ANH h.ki.E0 a.ki.E0 h.ki.B0 a.ki.B0 b
def Af1(h:KK m M k)(a:KK m M k')(b:V2 m k k'):(Hh k' m).AC=(Hh k m).AC:=show Ft m k'.AC=Ft m k.AC from Abx (XS a.ki.E0) (XS h.ki.E0) λc=>by rw[AFk a.ki.E0,AFk h.ki.E0,b.th]
def Aek{u}(h:C4 t m=sM u):(u=t/\(∀j,j<=lN t.AI->Cx t m j))\/∃n,0<n/\n<=lN t.AI/\(∀j,j<n->Cx t m j)/\Cx t m n=fF/\
 u= {t with AI:=t.AI.take n,c:=Dp t.c<|t.AI.getD (n-1) Al,g:=⟨(t.AI.getD (n-1) Al).l,(t.AI.getD (n-1) Al).l⟩,Bg:=(t.AI.getD (n-1) Al).name,A7:=0,Ao:=0,Aw:=2,on:=[],v:=BH 0,ex:=fF}:=by
 have l:=AKQ t m;have b:∀j,j<CF t m->Cx t m j:=λj a=>Ze t m a;have d:CF t m<=lN t.AI->Cx t m (CF t m)=fF:=Qq t m;rw[C4]at h;dsimp only at h;split at h;rename_i e;cases h;exact .inl ⟨rfl,λj a=>b j oG⟩;split at h;cases h;rename_i f i;cases h;exact .inr ⟨CF t m,oG,oG,b,d oG,rfl⟩
def Af7(f:(s.map (·.1)).Nodup){v}(h:DC m s v):DC m (GU s m) v:=⟨h.Cj,h.kind,λc a=>by let⟨o,d,e,b⟩:=h.BZ c a;exact⟨o,by rw[AJd f];exact AOc d<|by rwa[b],e,b⟩⟩
def AfN{c b}(hb:At c b):At (Dp c b) b where
 fr:=by have:=hb.fr;simp[Dp,Ee];omega
 bs:=λf a=>by simp[Dp,Ee]at a
 ht:=by have:=hb.ht;simp[Dp,Ee];omega
 tl:=by have:=hb.tl;simp[Dp,Ee];omega
 tr:=λt ht=>by simp[Dp,Ee]at ht
 tp:=λt ht=>hb.tp t (by simpa[Dp,Ee,IA]using ht)
def Af3{P}(h:TI m P M t)(B:∀n,P<|BH n){u}(J:C4 t m=sM u):TI m P M u:=by
 rcases Aek J with⟨rfl,_⟩|⟨n,L,N,l,y,rfl⟩;exact h;have o:n-1<lN t.AI:=oG;rw[Qd o];have f:t.AI[n-1]∈t.AI:=DR o;have g:=h.Cj.2 _ f;have v:∀x∈t.AI.take n,x=t.AI[n-1]\/(x∈t.AI/\x.AG<t.AI[n-1].AG/\x.Cg<=t.AI[n-1].Cg/\x.AP<=t.AI[n-1].AP):=λx d=>by obtain⟨j,i,rfl⟩:=Kc d;rw[Cu]at i;rw[VN];by_cases e:j=n-1;subst e;exact .inl rfl;exact .inr ⟨DR _,Lx.1 h.nest j (n-1) oG o oG⟩
 have p:∀x∈t.AI.take n,At (Dp t.c t.AI[n-1]) x:=λx d=>by rcases v x d with rfl|⟨C,D,E,F⟩;exact AfN<|h.at_ _ f;exact(ALt (h.at_ x C) (h.at_ _ f) D E F).at_
 refine{NO:= ?_,HM:=λq I=>h.HM q ?_,nest:=h.nest.sublist<|Xu _ _,Ux:=(by show 2<=4;decide),idle:=(λ_=>by show 0<lN (t.AI.take n);rw[Cu];omega),over:=(λq=>absurd q<|by show¬3<=2;decide),at_:=p,JW:=(λq=>absurd q<|by show¬2<2;decide),mono:=⟨λa b G r K=> ?_⟩,cap:=λj i=> ?_,A5:=λj x d z=> ?_,Cj:=⟨⟨g.1,g.1⟩,λx d=>h.Cj.2 x<|Fg d⟩,FL:=ASA h.FL λx d=>(h.at_ _ f).tp x d,val:=B 0};have e:=Dt (List.take<|n+1) h.NO;show(t.AI.take n).map (·.Bg)++[t.AI[n-1].name]=t.id::(t.AI.take n).map (·.name);have c:=Dt (List.take n) h.NO;rw[Ji sO]at c;rw[<-ABi]at c;rw[ABi,<-ABi,c];obtain⟨w,rfl⟩:∃w,n=w+1:=⟨n-1,oG⟩;rw[ABp];simp only[Nat.add_sub_cancel];rw[Kd<|show w<lN t.AI by omega,E3,ABi];rfl;rcases Co.1 I with e|e;rw[e];exact DT;let⟨x,d,A⟩:=BI.1 e;exact DY _<|BI.2 ⟨x,Fg d,A⟩;have r:b<=lN (t.AI.take n):=r;rw[Cu]at r;by_cases e:a<n;have c:=l a e;unfold Cx EF at c⊢;simp only[GO,Ac e];rw[BS<|show a<lN t.AI by omega]at c⊢;exact c;have c:a=b:=oG;rw[c];exact K;have i:j<=lN (t.AI.take n):=i;rw[Cu]at i;by_cases e:j<n;have c:=h.cap j oG;unfold EF Hv at c⊢;simp only[GO,Ac e];rw[BS<|show j<lN t.AI by omega]at c⊢;exact c;unfold EF Hv;simp only[GO,AY e];exact QZ _;have d:(t.AI.take n)[j]? =sM x:=d;rw[GO]at d;split at d;rename_i H;by_cases e:j+1<n;have c:=h.A5 j x d z;unfold Hv at c⊢;simp only[GO,Ac e];rw[BS<|show j+1<lN t.AI by omega]at c⊢;exact c;have c:j=n-1:=oG;subst c;rw[BS o]at d;cases d;unfold Hv;simp only[GO,AY e];exact z;cases d
def AfA{u}(c:C4 t m=sM u):(Ak u).Sublist (Ak t):=by rcases Aek c with⟨rfl,_⟩|⟨n,d,e,b,a,rfl⟩;exact List.Sublist.refl _;exact List.Sublist.cons_cons _<|(Xu n t.AI).map _
def Afk{u}(d:C4 t m=sM u):∀c∈Fu u,c∈Fu t:=by rcases Aek d with⟨rfl,_⟩|⟨n,g,i,b,a,rfl⟩;exact λ_ h=>h;intro c h;rw[Fu]at h;rw[Ac rfl,Hn]at h;let⟨x,f,e⟩:=BI.1 h;exact GC _<|BI.2 ⟨x,Fg f,e⟩
def Aew:∀l:AA AL,((Ft m l).flatMap Ak).Sublist (l.flatMap Ak)
 |[]=>List.Sublist.refl _
 |x::l=>by
  rw[Ft];rw[AGR,Kb];cases a:C4 x m with
  |none=>exact(Aew l).trans<|List.sublist_append_right _ _
  |some u=>
   dsimp only;rw[Kb];exact(AfA a).append<|Aew l
def AfZ(h:KK m M k):KK m M (Hh k m):=by
 have D:=AJd (m:=m) h.ki.B0;have a:∀ {n:Nm} {o:Ob},Am (GU k.Ah m) n=sM o->Am k.Ah n=sM o/\fl o.l m:=λ{n o} e=>by rw[D]at e;exact U5.1 e
 have z:∀v,DC m k.Ah v->DC m (GU k.Ah m) v:=λv Q=>Af7 h.ki.B0 Q;have l:∀q,MK (Ft m k.AC) (GU k.Ah m) q->MK k.AC k.Ah q:=λq p=>by rcases p with⟨o,b⟩|⟨u,d,p⟩;exact .inl ⟨o,(a b).1⟩;let⟨t,c,e⟩:=ALH d;exact .inr ⟨t,c,(AfA e).mem p⟩
 refine⟨{E0:=XS h.ki.E0,G3:=λu d=> ?_,Ep:=λn o b=>(h.ki.Ep n o (a b).1).up z,Jy:=h.ki.Jy.sublist (Aew _),FQ:=λu d J E j O q p=> ?_,Ja:=λu d x H=> ?_,Km:=λu d o b C P=> ?_,Dn:=λn o b=>⟨(h.ki.Dn n o (a b).1).1,λw R=> ?_⟩,H8:=λu d r N=> ?_,B0:=AEu h.ki.B0},λn o b=>h.kq n o (a b).1⟩;let⟨t,c,e⟩:=ALH d;exact(Af3 (h.ki.G3 t c) (λn=>H7 n) e).up z;let⟨t,c,e⟩:=ALH d;exact h.ki.FQ t c J (Afk e J E) j O q (l q p);let⟨t,c,e⟩:=ALH d;show Am (GU k.Ah m) x.name=nO;have F:x∈t.AI:=by rcases Aek e with⟨rfl,_⟩|⟨n,G,I,i,g,rfl⟩;exact H;exact List.mem_of_mem_take H
 rw[D];exact Af6 (h.ki.Ja t c x F);let⟨t,c,e⟩:=ALH d;have hid:=Qg e;rw[hid]at b;have f:=h.ki.Km t c o (a b).1 C P;rcases Aek e with⟨rfl,_⟩|⟨n,G,I,i,g,rfl⟩;exact f;unfold Hv at f⊢;simp[List.getElem?_take,if_pos G];rw[List.getElem?_eq_getElem (show 0<lN t.AI by omega)]at f⊢;exact f;let⟨f,A⟩:=a b;let⟨y,B,K,L,C⟩:=(h.ki.Dn n o f).2 w R;refine⟨y,?_,K,L,C⟩;show Af (Ft m k.AC) w.id=sM y;rw[AFk h.ki.E0];have hid:=E2 B;rw[<-hid]at B⊢;exact AOb (h.ki.of B).mono (by rw[C];exact A) B;let⟨t,c,e⟩:=ALH d;rcases Aek e with⟨rfl,_⟩|⟨n,G,I,i,g,rfl⟩;let⟨o,f,A⟩:=h.ki.H8 u c r N;exact⟨o,by show Am (GU k.Ah m) u.on=sM o;rw[D];exact AOc f A,A⟩;exact absurd r (by show¬(2:Nat)=1;decide)
def AfY{u}(l:C4 t m=sM u):C4 u m=sM u:=by
 rcases Aek l with⟨rfl,_⟩|⟨n,x,y,d,o,rfl⟩;exact l;have p:n-1<lN t.AI:=oG;rw[Qd p]at l⊢;have b:∀j,j<n->Cx {t with AI:=t.AI.take n,c:=Dp t.c t.AI[n-1],g:=⟨t.AI[n-1].l,t.AI[n-1].l⟩,Bg:=t.AI[n-1].name,A7:=0,Ao:=0,Aw:=2,on:=[],v:=BH 0,ex:=fF} m j:=λj i=>by have:=d j i;rw[Cx,EF]at this⊢;simp[GO,Ac i];rw[BS<|show j<lN t.AI by omega]at this⊢;exact this
 have a:Cx {t with AI:=t.AI.take n,c:=Dp t.c t.AI[n-1],g:=⟨t.AI[n-1].l,t.AI[n-1].l⟩,Bg:=t.AI[n-1].name,A7:=0,Ao:=0,Aw:=2,on:=[],v:=BH 0,ex:=fF} m n=fl t.AI[n-1].l m:=by rw[Cx,EF];simp[GO,AY<|Ae1 n]
 have hlen:lN (t.AI.take n)=n:=by rw[Cu];omega
 by_cases f:fl t.AI[n-1].l m
 have e:CF {t with AI:=t.AI.take n,c:=Dp t.c t.AI[n-1],g:=⟨t.AI[n-1].l,t.AI[n-1].l⟩,Bg:=t.AI[n-1].name,A7:=0,Ao:=0,Aw:=2,on:=[],v:=BH 0,ex:=fF} m=n+1:=AED (by show n+1<=lN (t.AI.take n)+1;omega) (λj i=>by
  by_cases q:j<n;exact b j q;have:j=n:=oG;rwa[this,a]) λq=>by
  have q:n+1<=lN (t.AI.take n):=q;omega
 rw[C4];dsimp only;rw[e,hlen,Ac rfl];have f:fl t.AI[n-1].l m=fF:=by simpa using f
 have e:CF {t with AI:=t.AI.take n,c:=Dp t.c t.AI[n-1],g:=⟨t.AI[n-1].l,t.AI[n-1].l⟩,Bg:=t.AI[n-1].name,A7:=0,Ao:=0,Aw:=2,on:=[],v:=BH 0,ex:=fF} m=n:=AED (by show n<=lN (t.AI.take n)+1;omega) b λ_=>by rwa[a]
 rw[C4];dsimp only;rw[e,hlen,AY oG,AY oG];have w:(t.AI.take n).getD (n-1) Al=t.AI[n-1]:=by rw[DK,GO,Ac oG,BS p];rfl
 rw[w,IA,Xw];have h:Ee (Dp t.c t.AI[n-1]) t.AI[n-1].AG t.AI[n-1].Cg t.AI[n-1].AP=Dp t.c t.AI[n-1]:=Afg t.AI[n-1] t.c;rw[h]
def Afb(h:KK m M k):V2 m k (Hh k m):=by
 refine⟨rfl,rfl,λa=> ?_,λn=> ?_,?_⟩;unfold Cr;show(Af (Ft m k.AC) a).bind (C4 · m)=_;rw[AFk h.ki.E0];unfold Cr;cases Af k.AC a with
 |none=>rfl
 |some t=>
  rw[Xz];cases b:C4 t m with
  |none=>rfl
  |some u=>exact AfY b
 show Je m k.Ah n=Je m (GU k.Ah m) n;unfold Je;rw[AJd h.ki.B0];unfold Je;cases Am k.Ah n with
 |none=>rfl
 |some o=>
  by_cases e:fl o.l m=tT<;>simp[Option.filter,e]
 show(D9 k m).filter _=D9 k m;unfold D9;rw[List.filter_filter];simp
def Jn(b:Gs):Ob:={Db with kind:=3,l:=b.l,v:=BH b.v}
def AbB(h:KK m M k)(f)(d:∀x∈k.B5,M x.e.AR):∀x∈(runK k f).1.B5,M x.e.AR:=by
 cases b:Af k.AC f with
 |none=>
  have e:runK k f=(k,fF):=by rw[runK];rw[b]
  rwa[e]
 |some t=>
  have hid:=E2 b;subst hid;by_cases a:t.Aw=0;rw[ANE b a];intro x c;rcases Bc.1 c with c|c;exact d x c;let⟨y,g,e⟩:=BI.1 c;subst e;exact AXh h b a y g;have e:runK k t.id=(k,fF):=by rw[runK];rw[b];dsimp only;rw[Ac a]
  rwa[e]
structure LQ(m:AT)(M:AH->Prop)(n:Nat)(k:Ap):Prop where
 kk:KK m M k
 bk:BK (24+4*n) (3+n*(25+4*n)) k.AC k.Ah
 bf:BF n k
 AD:k.AD=n
 im:IQ k.im
 ib:Ie k.im
 lk:∀x∈k.B5,M x.e.AR
def Ab8(n):3+n*(25+4*n)+(24+4*n)+1<=3+(n+1)*(25+4*(n+1)):=by
 rw[Gm n 1,RS,RS n 25<|4*(n+1),RS 4];have:n*(4*n+4*1)=n*(4*n)+n*4:=by rw[RS]
 rw[this];omega
def AbE(k a):(runK k a).1.AD=k.AD/\(runK k a).1.im=k.im:=by rw[runK];split;exact⟨rfl,rfl⟩;dsimp only;split;exact⟨rfl,rfl⟩;rw[Oz];split;exact⟨(Kp _ _ _).2.2.1,(Kp _ _ _).2.2.2⟩;exact⟨rfl,rfl⟩
def AJ3{n}(r:∀a b,M a->M (a&&&b))(h:LQ m M n k)(c)(g:∀x∈(F6 k c).1.B5,Hr m x.e.AR):LQ m M (n+1) (F6 k c).1:=by
 let⟨i,l,v,o⟩:=QQ k;let⟨p,q⟩:=Vj h.bk h.bf h.kk;have d:=Vk h.kk;let⟨u,j⟩:=AbE (Fo k) c;have e:Ie (Fo k).im:=by rw[i];exact h.ib
 have f:IQ (Fo k).im:=by rw[i];exact h.im
 let⟨c1,c2⟩:=ANA e oG p q d c;refine⟨AND f r d c g,c1.mono oG<|Ab8 n,c2,?_,?_,?_,?_⟩;show(runK (Fo k) c).1.AD=n+1;rw[u,l,h.AD];show IQ (runK (Fo k) c).1.im;rwa[j];show Ie (runK (Fo k) c).1.im;rwa[j];exact AbB d c (by rw[o];exact h.lk)
def AV9{n l}(i:∀a b,M a->M (a&&&b))(h:LQ m M n k)(c:LQ m M l k')(j:V2 m k k')(e)(f:∀x∈(F6 k e).1.B5,Hr m x.e.AR)(d:∀x∈(F6 k' e).1.B5,Hr m x.e.AR):V2 m (F6 k e).1 (F6 k' e).1:=by let⟨g,o,p,q⟩:=QQ k;let⟨c1,c2,r,u⟩:=QQ k';exact AbF (by rw[g];exact h.im) i (Vk h.kk) (Vk c.kk) ⟨by rw[g];exact h.ib,_,_,(Vj h.bk h.bf h.kk).1⟩ ⟨by rw[c1];exact c.ib,_,_,(Vj c.bk c.bf c.kk).1⟩ (AQu h.kk c.kk j) e f d
def Ae3(m):Hr m 0:=λa b c d=>by rw[AfV]at c;exact OQ c d
def Ae4{k:Ap}(h:∀x∈k.B5,x.e.AR=0):∀x∈k.B5,Hr m x.e.AR:=λx a=>by rw[h x a];exact Ae3 m
def zero_and(a b:AH)(h:a=0):a&&&b=0:=by subst h;simp
theorem Afq{n n':Nat}(h:LQ m (· =0) n k)(h':LQ m (· =0) n' k')(a:V2 m k k')(id:Nm):LQ m (· =0) (n+1) (F6 k id).1/\LQ m (· =0) (n'+1) (F6 k' id).1/\V2 m (F6 k id).1 (F6 k' id).1:=by
 have e: ∀(k:Ap) n,LQ m (· =0) n k->∀x∈(F6 k id).1.B5,Hr m x.e.AR:=λk n h=>Ae4 (AbB (M:=(· =0)) (Vk h.kk) id (by rw[(QQ k).2.2.2];exact h.lk))
 exact⟨AJ3 zero_and h id (e k n h),AJ3 zero_and h' id (e k' n' h'),AV9 zero_and h h' a id (e k n h) (e k' n' h')⟩
def ACc{c b}(a)(i:b.Ao<=999)(k:b.box<=999)(h:C7 b.n):BT 20 (D7 c b a):=by
 have f:wv (if 0<=b.box then BZ 3 [b.box.toNat] (c.BJ.getD b.box.toNat Al).l else BH b.n):=by split;exact ABL ⟨dC,dC⟩ (Ph oG) _;exact KF _ h
 obtain⟨u,d⟩:∃u,Gc ⟨[],[],[]⟩ b.fn (c.im.Ax.getD b.fn Al).Ai [if 0<=b.box then BZ 3 [b.box.toNat] (c.BJ.getD b.box.toNat Al).l else BH b.n] b.AR=sM u:=⟨_,rfl⟩;have e:D7 c b a=Jw a ⟨b.l,b.c⟩ u b.Ao:=by unfold D7;dsimp only;rw[d];rfl
 rw[e];exact AH7 a _ (Vi ACO d (λv j=>by rw[A9.1 j];exact f) sP) i
def ACV{A S s}(h:BK A S [] s)(i)(b:Gs)(a:C7 b.v):BK A (S+1) [] (Cy s [i] {Db with kind:=3,l:=b.l,v:=BH b.v}):=
 ⟨h.ts,Vn h.os<|Tc λ_=>KF _ a,h.tl,Ch (UG s _ _)<|O6 h.sl⟩
def AHo:BK 20 0 [] []:=⟨nA,(λn o h=>by cases h),Bm _,Bm _⟩
def AQy(c):BF 0 (EG c):=⟨Bm _,Bm _,nA,nA⟩
def AYm{c f g a d e}(h:QF c f g a d e)(l:C7 f.v/\C7 g.v)(j:∀b∈[a,d,e],b.Ao<=999/\b.box<=999/\C7 b.n):BK 24 3 (EG c).AC (EG c).Ah:=by rw[AAC h];have q:=λ(b:FO)(k:b∈[a,d,e])(i:Nat)=>ACc (c:=c) (b:=b) [i] (j b k).1 (j b k).2.1 (j b k).2.2;exact ((((ACV (ACV AHo 0 f l.1) 1 g l.2).BU<|q a sP 2).BU<|(q d sP 3).mono dC).BU<|(q e sP 4).mono dC).mono dC dC
def AYp{c d e t0 t1 t2 m M}(h:QF c d e t0 t1 t2)(h0:A4 d.l=d.l)(h1:A4 e.l=e.l)(hb:∀b∈[t0,t1,t2],(A4 b.l=b.l/\A4 b.c=b.c)/\fl b.l b.c/\M b.AR/\b.box<2/\b.Ao<=999/\C7 b.n)(i:C7 d.v/\C7 e.v)(g:IQ c.im)(f:Ie c.im):LQ m M 0 (EG c) where
 kk:=AYq h h0 h1 λb a=>⟨(hb b a).1,(hb b a).2.1,(hb b a).2.2.1,(hb b a).2.2.2.1⟩
 bk:=AYm h i λb a=>⟨(hb b a).2.2.2.2.1,by have:=(hb b a).2.2.2.1;omega,(hb b a).2.2.2.2.2⟩
 bf:=AQy c
 AD:=rfl
 im:=g
 ib:=f
 lk:=λx j=>by cases j
abbrev B6(m:AT)(n:Nat)(k:Ap):Prop:=LQ m (· =0) n k
def Afe{m n k}(h:B6 m n k)(a):B6 m (n+1) (F6 k a).1:=
 AJ3 zero_and h a (Ae4 (AbB (M:=(· =0)) (Vk h.kk) a<|by rw[(QQ k).2.2.2];exact h.lk))
def Aet{m}:∀(l:AA Nm) {n:Nat} {k:Ap},B6 m n k->B6 m (n+lN l) (Fe k l)
 |[],_,_,h=>h
 |id::l,n,k,h=>by have:=Aet l<|Afe h id;rwa[FM,show n+(lN l+1)=n+1+lN l by omega]
def AZz(k l):(Fe k l).im=k.im:=by
 induction l generalizing k with
 |nil=>rfl
 |cons a l b=>
  show(Fe (F6 k a).1 l).im=k.im;rw[b];show(runK (Fo k) a).1.im=k.im;rw[(AbE (Fo k) a).2,(QQ k).1]
def AYo{c a b d}(e:c.BJ=[a])(f:c.BM=[b,d]):EG c= {im:=c.im,AD:=0,AC:=CC (CC []<|D7 c b [1])<|D7 c d [2],Ah:=Cy [] [0] {Db with kind:=3,l:=a.l,v:=BH a.v},Bj:=[],B5:=[]}:=by rw[EG];rw[e,f];rfl
def ARO(v:Int):EG (EU v)= {im:=(EU v).im,AD:=0,AC:=CC (CC []<|D7 (EU v) ⟨0,FW,high,0,5,0,0⟩ [1])<|D7 (EU v) ⟨0,([1],[]),high,0,5,0,0⟩ [2],Ah:=Cy [] [0] {Db with kind:=3,l:=(⟨([1],[]),v⟩:Gs).l,v:=BH (⟨([1],[]),v⟩:Gs).v},Bj:=[],B5:=[]}:=AYo rfl rfl
def AZr:IQ EC:=⟨by decide+kernel,by decide+kernel,by decide+kernel⟩
def AZq:Ie EC where
 cs:=by
  intro v a;have:v=D1 FW\/v=D1 ([1],[])\/v=BH 2\/v=BH 9\/v=BH 1:=by simpa[EC]using a
  rcases this with rfl|rfl|rfl|rfl|rfl;exact S4 _;exact S4 _;exact KF _;exact KF _;exact KF _
 ar:=by decide+kernel
def AID(v:Int)(r:C7 v:=by decide):B6 high 0 (EG (EU v)):=by
 rw[ARO];let⟨p,c⟩:=ACa (m:=high) (M:=(· =0)) AKM (i:=0) dC rfl (b:=⟨([1],[]),v⟩) (show A4 ([1],[])=([1],[]) by decide+kernel);have d:=ACV AHo 0 ⟨([1],[]),v⟩ r;generalize Cy [] [0] {Db with kind:=3,l:=(⟨([1],[]),v⟩:Gs).l,v:=BH (⟨([1],[]),v⟩:Gs).v}=s at p c d;replace c:∀q,Am s q=if q=[0]then sM {Db with kind:=3,l:=([1],[]),v:=BH v}else nO:=λq=>by rw[c];rfl
 have n:∀q o,Am s q=sM o->lN q=1:=λq o a=>by rw[c]at a;split at a;rename_i e;rw[e];rfl;cases a
 have j:∀i,1<=i->Am s [i]=nO:=λi y=>by rw[c,if_neg sO]
 have k:∀b∈[(⟨0,FW,high,0,5,0,0⟩:FO),⟨0,([1],[]),high,0,5,0,0⟩],ABt high (· =0) (EU v) s b:=λb m=>by simp[List.mem_cons,List.not_mem_nil,_root_.or_false]at m;rcases m with rfl|rfl;exact⟨⟨by decide+kernel,by decide+kernel⟩,by decide+kernel,rfl,λ_=>⟨dC,by rw[c];exact⟨_,rfl,rfl,rfl⟩⟩⟩;exact⟨⟨by decide+kernel,by decide+kernel⟩,by decide+kernel,rfl,λ_=>⟨dC,by rw[c];exact⟨_,rfl,rfl,rfl⟩⟩⟩
 have u:=Vo p (k _ (List.mem_cons_self)) (i:=1) dC (j 1 dC) n nA;have w:=Vo u (k _ (List.mem_cons_of_mem _ List.mem_cons_self)) (i:=2) dC (j 2 dC) n (λt g=>by have e:t=D7 (EU v) ⟨0,FW,high,0,5,0,0⟩ [1]:=List.mem_singleton.1 g;rw[e];exact⟨1,rfl,dC,rfl,rfl⟩)
 have q1:=d.BU (ACc (c:=EU v) (b:=⟨0,FW,high,0,5,0,0⟩) [1] dC dC dC);have q2:=q1.BU ((ACc (c:=EU v) (b:=⟨0,([1],[]),high,0,5,0,0⟩) [2] dC dC dC).mono dC);exact⟨⟨w,λq o a _=>by have a:Am s q=sM o:=a;rw[c]at a;split at a;cases a;rfl;cases a⟩,q2.mono dC dC,⟨Nat.zero_le _,Nat.zero_le _,nA,nA⟩,rfl,AZr,AZq,nA⟩
variable{l:AT}{N:Nat}
def AfO{t u}(h:BT A t)(a:C4 t l=sM u):BT A u:=by rcases Aek a with⟨rfl,_⟩|⟨n,c,d,_,_,rfl⟩;exact h;exact⟨AQj h.c _ _ _,(λq=>absurd q<|by show¬(2:Nat)=1;decide),by show(t.AI.take n).length<=A;rw[Cu];have:=h.sc;omega,Bm _,(λx b=>h.sm x<|Fg b),Bm _,(λ_=>KF 0),(λq=>absurd q<|by show¬(2:Nat)=1;decide),λ_=>rfl⟩
def AfX(hs:(k.Ah.map (·.1)).Nodup)(h:BK A S k.AC k.Ah):BK A S (Hh k l).AC (Hh k l).Ah where
 ts t ht:=by let⟨x,b,e⟩:=ALH ht;exact AfO (h.ts x b) e
 os n o a:=by have a:Am (GU k.Ah l) n=sM o:=a;rw[AJd hs]at a;exact h.os n o (U5.1 a).1
 tl:=Ch (AO6 _ _) h.tl
 sl:=Ch (RQ _ _) h.sl
def AfW(h:BF N k):BF N (Hh k l):=
 ⟨Ch (RQ _ _) h.fl,Bm _,λf a=>h.fv f (Ho.1 a).1,nA⟩
def Aeo{n}(h:LQ m M n k):LQ m M n (Hh k m):=
 ⟨AfZ h.kk,AfX h.kk.ki.B0 h.bk,AfW h.bf,h.AD,h.im,h.ib,nA⟩
def Aee(k:Ap):Prop:=∀f∈k.Bj,f.AD<=k.AD
def Afs(h:Aee k)(g):Aee (runK k g).1:=by
 have b:∀(l:AA<|AT×AW)(i:Nm)(k':Ap),k'.Bj=k.Bj++l.map (λx:AT×AW=>(⟨k.AD,i,x.1,x.2⟩:FU))->k'.AD=k.AD->Aee k':=λl i k' c d f a=>by rw[c]at a;rw[d];rcases Bc.1 a with a|a;exact h f a;let⟨x,j,e⟩:=BI.1 a;rw[<-e];exact Ag _
 rw[runK];split;exact h;dsimp only;split;exact h;rw[Oz];split;exact b _ _ _ (Kp _ _ _).2.1 (Kp _ _ _).2.2.1;exact b _ _ _ rfl rfl
def Afr(h:Aee k)(b):Aee (F6 k b).1:=by let⟨e,c,d,g⟩:=QQ k;refine Afs (k:=Fo k) (λf a=> ?_) b;rw[d]at a;rw[c];exact LM<|h f a
def Aev(c):Aee (EG c):=λf h=>by cases h
def Afa(h:Aee k):Aee (Hh k l):=λf a=>h f (Ho.1 a).1
def ans:AHP:=by decide+kernel
def GL:AA Nm:=List.replicate 120 [1]
def KB(v:Int):Ap:=Fe (EG<|EU v) GL
def AQI:lN (D9 (KB 0) FW)=9/\(∃t,Af (KB 0).AC [1]=sM t/\t.Aw=3/\t.v.n=1)/\D9 (KB 0) FW=D9 (KB 100) FW/\(∃o,Am (KB 100).Ah [1,0]=sM o/\o.ex/\o.v=BH (-7))/\sameAt (KB 0) (KB 100) high=fF:=by have h:=ans;unfold AHP at h;dsimp only at h;rw[show List.replicate 120 [1]=GL from rfl,show Fe (EG<|EU 0) GL=KB 0 from rfl,show Fe (EG<|EU 100) GL=KB 100 from rfl]at h;generalize KB 0=a at h⊢;generalize KB 100=b at h⊢;simp[CJ,ER,Jf,GP]at h;let⟨⟨⟨⟨d,c⟩,e⟩,h4⟩,f⟩:=h;refine⟨d,?_,e,?_,f⟩;split at c;rename_i t i;simp[CJ,GP]at c;exact⟨t,i,c.1,c.2⟩;cases c;split at h4;rename_i o g;simp[CJ,GP]at h4;exact⟨o,g,h4.1,h4.2⟩;cases h4
variable{i:Nat}{h:Ap}
structure ER(m:AT)(i:Nat)(k h:Ap):Prop where
 a:B6 m i k
 b:B6 m i h
 v:V2 m k h
def ER.new(q:B6 m 0 k):ER m 0 (Hh k m) k:=⟨Aeo q,q,(Afb q.kk).symm⟩
def ER.Fe:∀(l:AA Nm) {i:Nat} {k h:Ap},ER m i k h->ER m (i+lN l) (Fe k l) (Fe h l)
 |[],_,_,_,q=>q
 |id::l,i,k,h,q=>by let⟨a,b,v⟩:=Afq q.a q.b q.v id;have:=ER.Fe l ⟨a,b,v⟩;rwa[FM,show i+(lN l+1)=i+1+lN l by omega]
def ER.same(q:ER m i k h):sameAt k h m:=AbI q.a.kk q.b.kk q.v
def ER.thq(q:ER m i k h):(Hh h m).AC=(Hh k m).AC:=Af1 q.a.kk q.b.kk q.v
def ER.Bo(q:ER m i k h):D9 h m=D9 k m:=q.v.lg
end Lz
namespace Go.Proofs.YtomehhepbeiinaaGreatDoor
open Tryz
section
open Go.AX
def zc:Nat->AF
 |1=>vS ⟨#[]⟩
 |2=>.slice nO 0 0
 |3=>.int iK 0
 |4=>.int .u8 0
 |5=>vB fF
 |6=>.map nO
 |7=>.pointer nO
 |8=>.nilFunc
 |_=>.nilIface
def zs:Nat->Nat->AA AF
 |0,_=>[]
 |k+1,n=>match Nat.beq n 0 with
  |true=>[]
  |false=>zc (n%10)::zs k (n/10)
def fo_(o:Nat):AA Nat->AA (Nat×Nat)
 |[]=>[]
 |x::l=>(o,x)::fo_ (o+x) l
def lS(t n:Nat)(l:AA Nat):Nat×Ty:=(t,⟨l.foldl (· + ·) 0,zs 40 n,.struct<|fo_ 0 l⟩)
def lA(t e:Nat):Nat×Ty:=(t,⟨1,[.slice nO 0 0],.slice e⟩)
def lO(t k:Nat):Nat×Ty:=(t,⟨1,[zc k],.other⟩)
def lM(t k e:Nat):Nat×Ty:=(t,⟨1,[.map nO],.map k e⟩)
def Bt:Lay:=[
 (3,⟨1,[.int iK 0],.int iK⟩),
 lS 53 51113313332222111111 [1,1,4,3,1,1,1,1,1,5,1],
 lS 42 11 [1,1],
 lS 51 11133 [1,1,1,2],
 lS 48 222 [1,1,1],
 lA 29 51,
 (9,⟨1,[vS ⟨#[]⟩],.string⟩),
 lA 100 3,
 lS 87 4321113355511133113 [1,2,5,1,1,7,1,1],
 lS 218 4233522223511133133322221111113722 [2,1,1,20,1,5,2,1,1],
 lS 44 1111 [2,2],
 lS 211 33 [1,1],
 (5,⟨1,[.int .u8 0],.int .u8⟩),
 lA 23 5,
 lS 32 22 [1,1],
 lA 38 9,
 lS 85 2111335 [1,5,1],
 lA 45 65,
 lS 282 35331113333323322222222 [2,3,3,2,1,1,1,8,1,1],
 lS 107 22726322 [2,1,1,1,1,1,1],
 lS 65 24333 [1,1,1,1,1],
 lO 4 5,
 lS 351 4441 [1,1,1,1],
 lA 30 195,
 lS 103 333411113 [1,2,2,1,1,1,1],
 lA 188 211,
 lS 36 2222 [2,1,1],
 lA 49 114,
 lS 114 33111113333111 [1,2,1,1,1,1,4,1,1,1],
 (40,⟨1,[vS ⟨#[]⟩],.string⟩),
 lS 195 233 [1,1,1],
 lA 46 118,
 lA 83 261,
 (2,⟨1,[.int iK 0],.int iK⟩),
 lS 289 53331 [1,1,1,1,1],
 lS 126 52222 [1,1,1,1,1],
 lO 27 7,
 lS 383 33 [1,1],
 lS 213 33111333 [1,5,2],
 lS 118 333 [1,1,1],
 lS 99 311 [2,1],
 lS 190 232 [1,1,1],
 lA 33 99,
 lO 280 7,
 lS 380 6623322 [2,3,1,1],
 lS 444 38 [1,1],
 lS 25 222 [1,1,1],
 lS 261 1113351 [1,1,5],
 lO 216 7,
 lA 34 103,
 lO 89 7,
 lS 178 66 [1,1],
 lS 200 112 [1,2],
 lA 56 63,
 lS 63 41111313 [1,1,6],
 lS 154 111331113 [1,1,2,5],
 lA 105 154,
 lS 334 33 [1,1],
 lS 131 17 [1,1],
 lS 61 411113 [1,2,2,1],
 lS 250 27 [1,1],
 (227,⟨1,[.int .u64 0],.int .u64⟩),
 (491,⟨1,[.int .u64 0],.int .u64⟩),
 (302,⟨1,[.int .u64 0],.int .u64⟩),
 (21,⟨1,[.int .i32 0],.int .i32⟩),
 lM 175 9 87,
 lS 322 22 [2],
 lM 104 9 53,
 lS 202 112 [3],
 (423,⟨1,[.int .u32 0],.int .u32⟩),
 lS 489 44 [1,1],
 lS 135 1113311 [2,5],
 lS 141 21 [1,1],
 lS 295 3 [1],
 lA 67 42,
 lM 332 3 383,
 lS 485 911 [1,1,1],
 lM 378 3 4,
 lA 461 444,
 lA 121 53,
 lA 122 135,
 lA 123 61,
 lA 124 141,
 lM 176 42 38,
 lO 248 7,
 (368,⟨6,List.replicate 6<|.int .u8 0,.array 6 5⟩),
 lO 252 9,
 lA 22 23,
 lA 247 38,
 lA 186 2,
 (163,⟨5,List.replicate 5<|vS ⟨#[]⟩,.array 5 9⟩),
 (422,⟨20,List.replicate 20<|.int .u64 0,.array 20 227⟩),
 (469,⟨32,List.replicate 32<|.int .u8 0,.array 32 5⟩),
 (490,⟨32,List.replicate 32<|.int .u8 0,.array 16 489⟩),
 (93,⟨1,[.int iK 0],.int iK⟩),
 (360,⟨24,List.replicate 24<|.int .u8 0,.array 24 5⟩),
 lO 371 7,
 lS 499 1 [1],
 lO 26 8,
 lO 1 8,
 lS 106 22726322 [2,1,1,1,1,1,1],
 lS 177 66 [1,1],
 lM 284 3 1,
 lO 298 8,
 lM 299 3 298,
 lM 323 9 328,
 lS 379 6623322 [2,3,1,1],
 lO 436 8,
 lM 438 3 436]
def Be:Ed prog Bt:=by rw[Ed];kernel_rfl
def mixed:prog.follows .mixedOrders:=kR
abbrev Ec:Type:=GW->AN->Prop
structure AtD(ds:AA Deferred)(F:Ba)(O:Func)(n:Nat)(I:AB)(w:AN)(ρ:Nat->Nat)(A:AA Nat)(R:Ec)(f:Bv):Prop where
 out:prog.funcs[F]? =sM O->GG (Kn prog F O n I w ρ A ds) R f
abbrev At:=AtD []
def rX(a:G8 prog)(n:Nat)(A:AA Nat)(f:Bv):=Pq prog Bt a n A 1000 f
def Rs(a:G8 prog)(n:Nat)(A:AA Nat)(f:Bv):Prop:=(rX a n A f).cl=(rX a n A f).ac
def VV(f:Bv)(n F:Nat)(c:AA<|Nat×Nat)(a:AA<|Nat×AK)(d:AA Nat)(b:AA SV)(I:AB):Prop:=ACj f n F c a d=sM (IN (BA c) b,a.map λe=>sM<|e.2.Bh<|BA c,I)
def FH(f:Bv)(n F:Nat)(c:AA<|Nat×Nat)(a:AA<|Nat×AK)(b:AA SV)(I:AB):Prop:=VV f n F c a (a.map (·.1)) b I
def OB(f:Bv)(n:Nat)(a:AA<|Nat×AK)(I:AB):Prop:=ACE f n a (a.map (·.1))=sM (a.map λb=>sM b.2,I)
structure Fn(F:Ba)(args:AA SV)(need:AA (Nat×AK))(I:AB)(b:zP)(a:AU (AA PanicEntry)):Prop where
 out:FC prog F args need I b a
 Gb:Enters prog F
structure VZ(a:zP)(need:AA (Nat×AK))(I:AB):Prop where
 out:∀key h,a key h->h.LD key (need.map (·.1))/\I.le h.J
structure Ends(A:AA Nat)(I:AB)(ρ:Nat->Nat)(key:Nat)(w:AN)(c:zP)(a:AU (AA PanicEntry))(e:GW)(b:AN):Prop where
 out:Rf prog I ρ key w A c a e b
def Vb{A I ρ a w c b}:Rf prog I ρ a w A c b=Ends A I ρ a w c b:=by funext e d;exact propext ⟨λh=>⟨h⟩,λh=>h.out⟩
structure VY(a:zP)(need:AA (Nat×AK))(I:AB):Prop where
 out:∀key h,a key h->h.LD key (need.map (·.1))/\I.Da h.J
def VZ.EA{d a I}(h:VZ d a I):VY d a I:=⟨λb x c=>⟨(h.out b x c).1,(h.out b x c).2.EA⟩⟩
def Ju{F O b a I i d}(n)(e:prog.funcs[F]? =sM O)(l:O.ntmps=n)(h:O.body.isSome)(g:(O.name== "runtime.NumGoroutine")=fF)
 (hE:V7 b a n) (j:∀ρ c w,100<=c->At F O n I w ρ (a.map (·.1)) (Ends (a.map (·.1)) I ρ c w i d) (init b a I<|MP O)):Fn F b a I i d:=
 ⟨FC.mk e h l hE λρ c w k=>by rw[Vb];exact(j ρ c w k).out e,JL e h g⟩
def Fn.to{F i j I o l k}(h:Fn F i j I o k)(m:∀g x,o g x->l g x):Fn F i j I l k:=
 ⟨λρ g w a b c d e=>(h.out ρ g w a b c d e).mono λ_ _ ⟨x,q,p,r⟩=>⟨x,q,⟨m g x p.1,p.2⟩,r⟩,h.Gb⟩
def go{ds F O n I w ρ A R}(d:prog.funcs[F]? =sM O)(b m){f}
 (a:(Pq prog Bt b n A m f).cl=(Pq prog Bt b n A m f).ac) (c:AtD ds F O n I w ρ A R (Pq prog Bt b n A m f).f):AtD ds F O n I w ρ A R f:=
 ⟨λhF=>AFM (c:=Kn prog F O n I w ρ A ds) hF mixed Be m a<|c.out hF⟩
def gg{ds F O n I w ρ A R}(b){f}
 (c:AtD ds F O n I w ρ A R (rX b n A f).f) (a:Rs b n A f:=by exact kR):AtD ds F O n I w ρ A R f:=
 ⟨λhF=>AFM (c:=Kn prog F O n I w ρ A ds) hF mixed Be 1000 a<|c.out hF⟩
def gG{ds F O n I w ρ A R f}
 (b:AtD ds F O n I w ρ A R (rX [] n A f).f) (a:Rs [] n A f:=by exact kR):AtD ds F O n I w ρ A R f:=
 gg [] b a
def fo{F O b a I g d}(i:prog.funcs[F]? =sM O)
 (j:∀ρ c w,100<=c->At F O O.ntmps I w ρ (a.map (·.1)) (Ends (a.map (·.1)) I ρ c w g d) (init b a I<|MP O)) (h:O.body.isSome:=by rfl) (e:(O.name== "runtime.NumGoroutine")=fF:=by rfl) (hE:V7 b a O.ntmps:=by kernel_rfl):Fn F b a I g d:=
 Ju O.ntmps i rfl h e hE j
def BW(r:SV)(I:AB):zP:=λ_ h=>h= {r:=r,J:=I}
def Ad9{r J c A}(g:r.A3=[]):Ab.LD {r:=r,J:=J} c A:=⟨(λk d=>by rw[show({r:=r,J:=J}:Ab).r.A3=[]from g]at d;cases d),nA,nA,Bm _,.nil⟩
def AOj{r I a}(c:r.A3=[]):VZ (BW r I) a I:=⟨λd h b=>by subst b;exact⟨Ad9 c,AB.le_refl _⟩⟩
def done{F O n I w ρ A a e f}(g:prog.funcs[F]? =sM O)(b:100<=a)(d){h}(hend:KY Bt O.results.toList A d a f=sM h)(c:e a h):At F O n I w ρ A (Ends A I ρ a w e nO) f:=
 ⟨λ_=>by rw[<-Vb];exact AMn Be g d hend b c⟩
def Bz{F O n I w ρ A a r f J}(c:prog.funcs[F]? =sM O)(b:100<=a)(hend:KY Bt O.results.toList A [] a f=sM {r:=r,J:=J}):At F O n I w ρ A (Ends A I ρ a w (BW r J) nO) f:=
 done c b [] hend rfl
def dn{F O n I w ρ A key d f}(c){h}(b:d key h)(hend:KY Bt O.results.toList A c key f=sM h:=by kernel_rfl)(a:100<=key:=by assumption):At F O n I w ρ A (Ends A I ρ key w d nO) f:=
 ⟨λhF=>by rw[<-Vb];exact AMn Be hF c hend a b⟩
def fi{F O n I w ρ A key r f J}(hend:KY Bt O.results.toList A [] key f=sM {r:=r,J:=J}:=by kernel_rfl)(a:100<=key:=by assumption):At F O n I w ρ A (Ends A I ρ key w (BW r J) nO) f:=
 dn [] rfl hend a
variable{ds:List Deferred}{F:FuncId}{O:Func}{n:Nat}{I:AB}{w:World}{ρ:Nat->Nat}{A:List Nat}{R:Ec}{f:Bv}
def ARU{args}{need}{I'}{g}{G}(h:Fn G args need I' g none)(th)(b)(hobs:VV f n G th need b args I')
 (c: ∀key h,g key h->∀kb∈h.AV,kb.1∈b) (hnext: ∀h,g (EL f) h->AtD ds F O n I w ρ A R (f.out (BA th) h)):AtD ds F O n I w ρ A R f:=
 ⟨λhF=>ACl (c:=Kn Tryz.prog F O n I w ρ A ds) h.out h.Gb th b hobs (λk x a _=>c k x a) (λ_ h d=>(hnext h d).out hF) λ_ e=>by cases e⟩
def A0{args}{need}{I'}{b}{G}(h:Fn G args need I' b none)(th:List (Nat×Nat))(hnext: ∀h,b (EL f) h->AtD ds F O n I w ρ A R (f.out (BA th) h))(hobs:FH f n G th need args I':=by exact kR):AtD ds F O n I w ρ A R f:=
 ⟨λhF=>ACl (c:=Kn Tryz.prog F O n I w ρ A ds) h.out h.Gb th _ hobs (λ_ _ _ w kb hk=>(w.u kb hk).1) (λ_ h a=>(hnext h a).out hF) (λ_ e=>by cases e)⟩
def IG{a b I' G r}(h:Fn G a b I' (BW r I') nO)(e)(hnext:AtD ds F O n I w ρ A R<|f.out (BA e) {r:=r,J:=I'})(hobs:VV f n G e b [] a I':=by exact kR):AtD ds F O n I w ρ A R f:=
 ARU h e [] hobs (λ_ h c g d=>by subst c;cases d) λh c=>by subst c;exact hnext
def call{a r I' G}(h:Fn G a [] I' (BW r I') nO)(hnext:AtD ds F O n I w ρ A R<|f.out (BA []) {r:=r,J:=I'})(hobs:FH f n G [] [] a I':=by exact kR):AtD ds F O n I w ρ A R f:=
 A0 h [] (hobs:=hobs) λh b=>by subst b;exact hnext
theorem B4(k a){vs e}(h:∀b J,a.le J->J.Ak=a.Ak->J b=sM (.cells vs.toArray e (0,0))->AtD ds F O n I w ρ A R (f.B4 k b J))(hobs:(SB f A k,f.σ.im)=(sM (vs,e),a):=by exact kR):AtD ds F O n I w ρ A R f:=
 ⟨λhF=>AUc (c:=Kn prog F O n I w ρ A ds) k (IC hobs).1 λb J c d g=>(h b J ((IC hobs).2▸c) ((IC hobs).2▸d) g).out hF⟩
def loop{ι:Type}(P:ι->Prop)(e:ι->Nat)(b:ι->Hd)(a:Nat)(d:AA<|Nat×Nat)(c:ι)(g:P c)
 (round:∀i,P i->(∀j,P j->e j<e i->∀T,AtD ds F O n I w ρ A R<|(b j).PF T (Pe f.todo) a)->∀T,AtD ds F O n I w ρ A R<|(b i).PF T (Pe f.todo) a) (hobs:PS f d (b c)=PT d (b c):=by exact kR) (hok:Qx A d (b c).Cd (b c).Cc a:=by exact kR):AtD ds F O n I w ρ A R f:=
 ⟨λhF=>AXk (c:=Kn prog F O n I w ρ A ds) P e b a d c g hobs hok λi h m T=>(round i h (λj k l T=>⟨λ_=>m j k l T⟩) T).out hF⟩
def AQe(e s b){a}(d:PS f e s=PT e s)(c:UM f.todo=a)(g:Qx A e s.Cd s.Cc b)(h:∀T,AtD ds F O n I w ρ A R<|s.PF T a b):AtD ds F O n I w ρ A R f:=
 ⟨λhF=>AQf (c:=Kn prog F O n I w ρ A ds) e s b d c g λT=>(h T).out hF⟩
def bk{ι:Type}{P:ι->Prop}{a:ι->Nat}{i:ι}{st:ι->Hd}{Bq:Nat}{todo:List Item}(again: ∀j,P j->a j<a i->∀T,AtD ds F O n I w ρ A R ((st j).PF T todo Bq))(th:List (Nat×Nat))(j:ι)(b:P j)(hm:a j<a i:=by(try dsimp only);omega)
 (hh:PS f th (st j)=PT th (st j)/\UM f.todo=todo/\Qx A th (st j).Cd (st j).Cc Bq=true:=by exact⟨kR,kR,kR⟩):AtD ds F O n I w ρ A R f:=AQe th (st j) Bq hh.1 hh.2.1 hh.2.2 λT=>again j b hm T
def act{need I' c}(a:HS prog (Mo f) f.σ.tm (EL f) need I' c nO)(hwf:∀h,c h->h.wf I' (EL f) need [])(hnext:∀h,c h->AtD ds F O n I w ρ A R (f.act h))
 (hobs:OB f n need I':=by exact kR):AtD ds F O n I w ρ A R f:=
 ⟨λhF=>AP5 (c:=Kn prog F O n I w ρ A ds) _ hobs a (λh e g d=>((hwf h e).u g d).1) hwf λh b=>(hnext h b).out hF⟩
structure Dk(I:AB)(size:Nat)(a:AU Au)(n:Nat)(xs:AA AF):Prop where
 len:lN xs=n*size
 one:∀v∈xs,v.oneCell'
 at_:n=0\/∃b off arr e fr,a=sM ⟨b,off,nO⟩/\I b=sM (.cells arr e fr)/\(arr.toList.drop off).take (n*size)=xs
def Dk.up{I J c n a xs}(h:Dk I c a n xs)(hle:I.le J):Dk J c a n xs:=
 ⟨h.len,h.one,h.at_.imp id λ⟨b,d,arr,e,f,g,i,j⟩=>⟨b,d,arr,e,f,g,hle b _ i,j⟩⟩
def Dk.reads{I d n c a xs}(h:Dk I d a n xs){need}:Reads I need (.v<|.slice a n c) d n xs:=by rcases h.at_ with f|⟨b,k,arr,e,l,g,i,j⟩;subst f;have:xs=[]:=Ib (by rw[h.len];simp);subst this;exact Ol;subst g;exact Aah i j h.len h.one
theorem Dk.nil{I b a}:Dk I b a 0 []:=⟨sP,nA,.inl rfl⟩
def Dk.Og{J a n b e xs AE}(h:J b=sM (.cells (xs++AE).toArray e (0,0)))(c:lN xs=n*a)(d:∀v∈xs,v.oneCell'):Dk J a (aP b) n xs:=
 ⟨c,d,.inr ⟨b,0,_,e,_,rfl,h,by simp[<-c]⟩⟩
def TS(I:AB)(b n:Nat)(d:AA AF):zP:=λ_ h=>∃a c J,h= {r:=.v<|.slice a n c,J:=J}/\I.le J/\n<=c/\c<=maxLen/\Dk J b a n d
def MV{t e a n c}(x y)(h:prog.underlying t=sM (.slice e)){I}:
 ∀w,EJ w I->∃b,((do eqGuard .eql t x y (.slice a n c) zS;binOp .eql t (.slice a n c) zS:Sem AF)).run prog w=.ok (AO id<|.v<|vB a.isNone) b/\Bl w b:=λw _=>
 ⟨w,by
   have d:(eqGuard .eql t x y (.slice a n c) zS).run prog w=.ok () w:=rfl;simp[Sem.run_bind,d,Result.andThen_ok];exact Lib.run_eql_slice_nil w t e a n c 0 0 h,Bl.refl w⟩
def QO{I j n m e u s a}(q:u=[]\/∃k p o,u=[(k,.gone)]/\a=[(k,.As p o)]):∀h,VU I j n m e u s h->h.wf I j a []:=by rintro h ⟨t,i,_,_,_,rfl⟩;refine{r:=λk f=> ?_,u:=λv c=> ?_,n:=λb g k f=> ?_,l:=by simp,le:=AB.Hj _,d:= ?_};right;simp[SV.A3,A9]at f;subst f;have:=Nv (key:=k) (nb:=[AK.As (s++i) e]) (j:=0);simp[IB]at this;rw[this];rfl;rcases q with rfl|⟨k,p,o,rfl,rfl⟩;cases c;simp at c;subst c;exact⟨sP,λb g=>by simp at g;subst g;rfl,nA⟩;simp at g;subst g;cases f;rcases q with rfl|⟨k,p,o,rfl,rfl⟩<;>simp
def ANY{ts t}{x y:Int}(z:Int)(h:max x y=z):∀w,EJ w I->∃a,(Builtin.max_ ts t #[.int iK x,.int iK y]).run prog w=.ok (AO id<|.v<|nV z) a/\Bl w a:=λw _=>
 ⟨w,by rw[run_max_int2];simp[AO];congr 2;split<;>omega,Bl.refl w⟩
def ANZ{ts t}{x y:Int}(z:Int)(h:min x y=z):∀w,EJ w I->∃a,(Builtin.min_ ts t #[.int iK x,.int iK y]).run prog w=.ok (AO id<|.v<|nV z) a/\Bl w a:=λw _=>
 ⟨w,by rw[run_min_int2];simp[AO];congr 2;split<;>omega,Bl.refl w⟩
def ANX{t e i a n c m}(g:prog.underlying t=sM (.slice e))(f:prog.info? e=sM i)(h:m<=c):∀w,EJ w I->∃d,(Instr.sliceAt t (.slice a n c) nO (sM<|iV m)<|sM<|iV m).run prog w=.ok (AO id<|.v<|.slice a m m) d/\Bl w d:=λw _=>
 ⟨w,by
   have b:(0:Int)<=(m:Int)/\(m:Int)<=(c:Int):=oG;simp[Instr.sliceAt,Instr.slice,run_underlying g,Instr.sliceBounds,run_sliceBound,b.1,b.2,sizeOf,typeInfo,f,Result.andThen,AO];cases a<;>simp[Addr.add],Bl.refl w⟩
def Us{t e i a n c m}(g:prog.underlying t=sM (.slice e))(f:prog.info? e=sM i)(h:m<=c):∀w,EJ w I->∃d,(Instr.sliceAt t (.slice a n c) nO (sM<|iV m) nO).run prog w=.ok (AO id<|.v<|.slice a m c) d/\Bl w d:=λw _=>
 ⟨w,by
   have b:(0:Int)<=(m:Int)/\(m:Int)<=(c:Int):=oG;simp[Instr.sliceAt,Instr.slice,run_underlying g,Instr.sliceBounds,run_sliceBound,b.1,b.2,sizeOf,typeInfo,f,Result.andThen,AO];cases a<;>simp[Addr.add],Bl.refl w⟩
def WH(a:AU Au)(l c b:Nat):AU Au:=if c=l then a else a.map (·.add (l*b))
def Abj{t e i a n c m}(g:prog.underlying t=sM (.slice e))(f:prog.info? e=sM i)(h:m<=n):∀w,EJ w I->∃d,(Instr.sliceAt t (.slice a n c) (sM<|iV m) nO nO).run prog w=.ok (AO id<|.v<|.slice (WH a m c i.size) (n-m)<|c-m) d/\Bl w d:=λw _=>
 ⟨w,by
   have b:(0:Int)<=(m:Int)/\(m:Int)<=(n:Int):=oG;simp[Instr.sliceAt,Instr.slice,run_underlying g,Instr.sliceBounds,run_sliceBound,b.1,b.2,sizeOf,typeInfo,f,Result.andThen,AO,WH],Bl.refl w⟩
theorem Dk.take{c n m a g}(h:Dk I c a n g)(f:m<=n):Dk I c a m (g.take<|m*c):=by refine⟨?_,λv o=>h.one v<|Fg o,?_⟩;rw[Cu,h.len];exact Gn<|TF c f;rcases h.at_ with p|⟨b,d,arr,e,i,j,k,l⟩;exact .inl oG;refine .inr ⟨b,d,arr,e,i,j,k,?_⟩;rw[<-l,IA,Gn<|TF c f]
def Dk.drop{d n m c a g}(h:Dk I d a n g)(p:m<=n)(s:n<=c):Dk I d (WH a m c d) (n-m) (g.drop<|m*d):=by refine⟨?_,λv q=>h.one v<|Mx q,?_⟩;rw[Lw,h.len,Xy];rcases Nat.eq_or_lt_of_le p with e|o;exact .inl oG;rcases h.at_ with r|⟨b,f,arr,e,i,j,k,l⟩;exact .inl oG;refine .inr ⟨b,f+m*d,arr,e,i,?_,k,?_⟩;rw[WH];rw[AY oG,j];simp[Addr.add];rw[<-l,AGQ,AGO,Xy]
def Va(I:AB)(c n:Nat)(e:BN)(f:AA AF):zP:=λd h=>∃a b,n<=a/\a<=maxLen/\lN b=(a-n)*c/\h= {r:=.s d 0 n a,nb:=[.As (f++b) e],J:=I}
section
def T9{e n}(h:(prog.info? e).map (·.size)=sM n):∃i,prog.info? e=sM i/\i.size=n:=by simpa[L9]using h
def U1:prog.underlying 49=sM (.slice 114):=kR
def WW:∃i,prog.info? 114=sM i/\i.size=14:=T9 kR
def AHV:Gq prog Bt 49 114 14:=⟨⟨_,rfl⟩,⟨_,_,rfl,rfl⟩,kR⟩
def NW:prog.underlying 29=sM (.slice 51):=kR
def Qm:∃i,prog.info? 51=sM i/\i.size=5:=T9 kR
def LU:Gq prog Bt 29 51 5:=⟨⟨_,rfl⟩,⟨_,_,rfl,rfl⟩,kR⟩
def Sv:prog.underlying 46=sM (.slice 118):=kR
def ZS:∃i,prog.info? 118=sM i/\i.size=3:=T9 kR
def ACJ:Gq prog Bt 46 118 3:=⟨⟨_,rfl⟩,⟨_,_,rfl,rfl⟩,kR⟩
def U0:prog.underlying 45=sM (.slice 65):=kR
def ZT:∃i,prog.info? 65=sM i/\i.size=5:=T9 kR
def AHU:Gq prog Bt 45 65 5:=⟨⟨_,rfl⟩,⟨_,_,rfl,rfl⟩,kR⟩
def AOP:prog.underlying 56=sM (.slice 63):=kR
def AHW:Gq prog Bt 56 63 8:=⟨⟨_,rfl⟩,⟨_,_,rfl,rfl⟩,kR⟩
def AON:prog.underlying 38=sM (.slice 9):=kR
def AVt:∃i,prog.info? 9=sM i/\i.size=1:=T9 kR
def Ve:Gq prog Bt 38 9 1:=⟨⟨_,rfl⟩,⟨_,_,rfl,rfl⟩,kR⟩
def AA9:prog.underlying 83=sM (.slice 261):=kR
def AVs:∃i,prog.info? 261=sM i/\i.size=7:=T9 kR
def Vf:Gq prog Bt 83 261 7:=⟨⟨_,rfl⟩,⟨_,_,rfl,rfl⟩,kR⟩
variable {F t e z:Nat} {O:Func}
abbrev el(_:prog.underlying t=sM (.slice e)):Nat:=e
def Ym(i:Tryz.prog.funcs[F]? =some O)(hF:(F=41/\t=49/\e=114/\O=Tryz.f41)\/(F=42/\t=29/\e=51/\O=Tryz.f42)\/(F=43/\t=46/\e=118/\O=Tryz.f43)\/(F=44/\t=45/\e=65/\O=Tryz.f44)\/(F=45/\t=56/\e=63/\O=Tryz.f45)\/(F=118/\t=38/\e=9/\O=Tryz.f118)\/(F=134/\t=83/\e=261/\O=Tryz.f134))(U:Tryz.prog.underlying t=some (.slice e))(A:Gq Tryz.prog Bt t e z)(I)(a)(n c)(xs)(hc:n<=16777216)(h:Dk I z a n xs):Fn F [.v (.slice a n c)] [] I (TS I z n xs) none:=by
 rcases hF with⟨rfl,rfl,rfl,rfl⟩|⟨rfl,rfl,rfl,rfl⟩|⟨rfl,rfl,rfl,rfl⟩|⟨rfl,rfl,rfl,rfl⟩|⟨rfl,rfl,rfl,rfl⟩|⟨rfl,rfl,rfl,rfl⟩|⟨rfl,rfl,rfl,rfl⟩<;>
 .refine fo i λρ key w d=> ?_;cases a with
  |none=>
   obtain rfl:n=0:=h.at_.elim id λ⟨b,off,arr,e,fr,h1,_⟩=>by cases h1
   obtain rfl:xs=[]:=List.eq_nil_of_length_eq_zero (by simpa using h.len);refine gg [(4,.op I _ (.v (.bool true)) (MV (a:=none) (n:=0) (c:=c) (.tmp 3) (.const (.slice none 0 0)) U))] ?_;exact dn [] ⟨none,0,I,rfl,AB.le_refl _,Nat.zero_le _,by rw[maxLen];omega,Dk.nil⟩
  |some ad=>
   refine gg [(4,.op I _ (.v (.bool false)) (MV (a:=some ad) (n:=n) (c:=c) (.tmp 3) (.const (.slice none 0 0)) U))]<|act (need:=[(124,.As [] (el U))]) (Kk Be (n:=0) (cap:=0) (vs:=[]) (CQ:=[]) (x:=.v (.slice (some ad) n c)) A kR sP sP sP sP (h.reads (c:=c)) (Nat.le_refl _) (by rw[maxLen];omega) oG) (QO (.inr ⟨_,_,_,rfl,rfl⟩)) ?_;rintro h' ⟨cap,AE,h1,f,j,rfl⟩;exact gG<|B4 140 I (vs:=xs++AE) (e:=el U) λb J hle _ g=>gG<|dn [] ⟨_,cap,J,sP,hle,oG,f,Dk.Og g h.len h.one⟩ (h:={r:=.v (.slice (some ⟨b,0,none⟩) (0+n) cap),J:=J})
def ARq:= @Ym 41 49 114 14 _ func41 (by simp) U1 AHV
def ACs:= @Ym 42 29 51 5 _ func42 (by simp) NW LU
def ARt:= @Ym 43 46 118 3 _ func43 (by simp) Sv ACJ
def Yk:= @Ym 134 83 261 7 _ func134 (by simp) AA9 Vf
def ARy(f:Tryz.prog.funcs[F]? =some O)(hF:(F=44/\t=45/\e=65/\O=Tryz.f44)\/(F=118/\t=38/\e=9/\O=Tryz.f118))(U:Tryz.prog.underlying t=some (.slice e))(A:Gq Tryz.prog Bt t e z)(I)(ad)(n c)(xs)(hc:n<=16777216)(h:Dk I z (some ad) n xs):Fn F [.v (.slice (some ad) n c)] [] I (Va I z n e xs) none:=by
 rcases hF with⟨rfl,rfl,rfl,rfl⟩|⟨rfl,rfl,rfl,rfl⟩<;>
 .refine fo f λρ key w a=>gg [(4,.op I _ (.v (.bool false)) (MV (a:=some ad) (n:=n) (c:=c) (.tmp 3) (.const (.slice none 0 0)) U))]<|act (need:=[(124,.As [] (el U))]) (Kk Be (n:=0) (cap:=0) (vs:=[]) (CQ:=[]) (x:=.v (.slice (some ad) n c)) A kR sP sP sP sP (h.reads (c:=c)) (Nat.le_refl _) (by rw[maxLen];omega) oG) (QO (.inr ⟨_,_,_,rfl,rfl⟩)) ?_;rintro h' ⟨cap,AE,h1,b,d,rfl⟩;refine gG ?_;exact dn [140] ⟨cap,AE,oG,b,by rw[d];simp,sP⟩ (h:={r:=.s (key+0) 0 (0+n) cap,nb:=[.As (xs++AE) (el U)],J:=I})
def Yl:= @ARy 44 45 65 5 _ func44 (by simp) U0 AHU
def ACq(f:prog.funcs[F]? =sM O)(hF:(F=114/\t=49/\e=114/\O=f114)\/(F=165/\t=29/\e=51/\O=f165)\/(F=288/\t=46/\e=118/\O=f288))(U:prog.underlying t=sM (.slice e))(N:∃i,prog.info? e=sM i/\i.size=z)(I a n c)(d:n<=c):Fn F [.v<|.slice a n c] [] I (BW (.v<|.slice a n n) I) nO:=by
 let⟨i,g,_⟩:=N;rcases hF with⟨rfl,rfl,rfl,rfl⟩|⟨rfl,rfl,rfl,rfl⟩|⟨rfl,rfl,rfl,rfl⟩<;>
 .exact fo f λj h w b=>gg [(8,.op I _ (.v<|.slice a n n)<|ANX (a:=a) (n:=n) U g d)]<|fi
def ACo:= @ACq 114 49 114 14 _ func114 (by simp) U1 WW
def ACp:= @ACq 165 29 51 5 _ func165 (by simp) NW Qm
def AIO:= @ACq 288 46 118 3 _ func288 (by simp) Sv ZS
def ACz(d:prog.funcs[F]? =sM O)(hF:(F=168/\t=45/\e=65/\O=f168)\/(F=169/\t=29/\e=51/\O=f169)\/(F=170/\t=46/\e=118/\O=f170))(U:prog.underlying t=sM (.slice e))(N:∃i,prog.info? e=sM i/\i.size=z)(I:AB)(a:AU Au)(n c m:Nat)(h:n<=c):Fn F [.v<|.slice a n c,.v<|iV m] [] I (BW (.v<|.slice a (min m n)<|min m n) I) nO:=by
 obtain⟨i,f,_⟩:=N;rcases hF with⟨rfl,rfl,rfl,rfl⟩|⟨rfl,rfl,rfl,rfl⟩|⟨rfl,rfl,rfl,rfl⟩<;>
 .refine fo d λj g w b=> ?_;exact gg [(6,.op I _ (.v<|iV m)<|ANY (ts:=#[3,3]) (t:=3) (x:=(m:Int)) (y:=0) (m:Int) oG),(9,.op I _ (.v<|.int iK ((min m n:Nat):Int))<|ANZ (ts:=#[3,3]) (t:=3) (x:=(m:Int)) (y:=(n:Int)) ((min m n:Nat):Int) oG),(13,.op I _ (.v<|.slice a (min m n)<|min m n)<|ANX (a:=a) (n:=n) (c:=c) (m:=min m n) U f oG)]<|fi
def Yr:= @ACz 168 45 65 5 _ func168 (by simp) U0 ZT
def Vz:= @ACz 169 29 51 5 _ func169 (by simp) NW Qm
def AIg:= @ACz 170 46 118 3 _ func170 (by simp) Sv ZS
end
def Dk.Wr{I a n f}(h:Dk I a nO n f):n=0:=h.at_.elim id λ⟨b,d,arr,e,g,c,_⟩=>by cases c
def M4{I a n c e d b}:∀h,VU I a n c e [] d h->h.wf I a b []:=QO<|.inl rfl
def AP6(I a)(n c:Nat)(o)(g:Int)(i:Int)(j k l)(p:n<=c)(C:n<=1000000)(h:Dk I 5 a n o):Fn 196 [.v<|.slice a n c,.g [.v<|nV g,.v<|nV i,.v<|vS j,.v<|vS k,.v<|vS l]] [] I (TS I 5 (n+1)<|o++[.int iK g,.int iK i,vS j,vS k,vS l]) nO:=by have y:min n n=n:=Xw n;refine Ju 12 func196 ntmps196 rfl rfl kR λD z w s=>gG<|call (Vz I a n c n p) ?_;rw[y];refine gG ?_;refine act (need:=[(156,.cells [.v<|nV g,.v<|nV i,.v<|vS j,.v<|vS k,.v<|vS l] 51)]) (MM Be (x:=.s 156 0 1 1) (CQ:=o) (news:=[.int iK g,.int iK i,vS j,vS k,vS l]) LU kR rfl (h.reads (c:=n)) (Ez (A9.2 rfl) rfl (by intro v m;simp at m;rcases m with rfl|rfl|rfl|rfl|rfl<;>rfl)) (Ag _) (Xv _) (λe=>by subst e;exact h.Wr) oG) M4 ?_;rintro A ⟨d,f,t,u,B,rfl⟩;refine gG<|B4 164 I (vs:=(o++[.int iK g,.int iK i,vS j,vS k,vS l])++f) (e:=51) λb J hle _ x=>gG<|dn [] ⟨_,d,J,rfl,hle,t,u,Dk.Og x (by simp[h.len,Gm]) ?_⟩ (h:={r:=.v<|.slice (aP b) (n+1) d,J:=J});intro v m;rcases Bc.1 m with q|q;exact h.one v q;simp at q;rcases q with rfl|rfl|rfl|rfl|rfl<;>rfl
def YM(I a)(n c:Nat)(s)(j:Int)(k:Int)(l:Int)(m:Int)(o)(g f:Nat)(t:n<=c)(E:n<=1000000)(h:Dk I 5 a n s):Fn 190 [.v<|.slice a n c,.g [.v<|nV j,.v<|nV k,.v<|nV l,.v<|.int .u8 m,.v<|.slice o g f]] [] I (TS I 5 (n+1)<|s++[.int iK j,.int iK k,.int iK l,.int .u8 m,.slice o g f]) nO:=by have A:min n n=n:=Xw n;refine Ju 12 func190 ntmps190 rfl rfl kR λF B w u=>gG<|call (Yr I a n c n t) ?_;rw[A];refine gG ?_;refine act (need:=[(156,.cells [.v<|nV j,.v<|nV k,.v<|nV l,.v<|.int .u8 m,.v<|.slice o g f] 65)]) (MM Be (x:=.s 156 0 1 1) (CQ:=s) (news:=[.int iK j,.int iK k,.int iK l,.int .u8 m,.slice o g f]) AHU kR rfl (h.reads (c:=n)) (Ez (A9.2 rfl) rfl (by intro v p;simp at p;rcases p with rfl|rfl|rfl|rfl|rfl<;>rfl)) (Ag _) (Xv _) (λe=>by subst e;exact h.Wr) oG) M4 ?_;rintro C ⟨d,i,x,y,D,rfl⟩;refine gG<|B4 164 I (vs:=(s++[.int iK j,.int iK k,.int iK l,.int .u8 m,.slice o g f])++i) (e:=65) λb J hle _ z=>gG<|dn [] ⟨_,d,J,rfl,hle,x,y,Dk.Og z (by simp[h.len,Gm]) ?_⟩ (h:={r:=.v<|.slice (aP b) (n+1) d,J:=J});intro v p;rcases Bc.1 p with q|q;exact h.one v q;simp at q;rcases q with rfl|rfl|rfl|rfl|rfl<;>rfl
def doneD(j:prog.funcs[F]? =sM O){a d}(b:100<=a)(i){h}(hend:KY Bt O.results.toList A i a f=sM h)(g:d a h)
 (e:∀(tmps:Ae AF)(c:AN)(v:AF),(results O tmps).run prog c=.ok v c->Rf prog I ρ a w A d nO (.returned v) c->Leaves prog O tmps (Rf prog I ρ a w A d nO) ds .returning c):AtD ds F O n I w ρ A (Ends A I ρ a w d nO) f:=
 ⟨λ_=>by rw[<-Vb];exact Aaq Be j i hend b g e⟩
def AJm:AA Item->AU (Ae Bw)
 | .code (.region _ Aj fF)::_=>sM Aj
 |_=>nO
def ASV(g:prog.funcs[F]? =sM O)(s a x y B)
 (d:f.rg.isNone) (b:((AJm f.todo).map λAj=>(Aj.size,(Aj[0]?).map λo=>(o.op,o.dst,o.guard),(Aj[1]?).map λo=>(o.op,o.dst,o.guard)))=sM (2,sM (.makeFunc (.func a) #[] #[.tmp x,.tmp y],sM s,nO),sM (.defer {callee:=.value<|.tmp s,args:=#[],argTypes:=B},nO,nO))) (z:Nat.blt s n)
 (h:∀u v:AF,AtD [{target:=.fn (.func a) #[u,v],args:=#[]}] F O n I w ρ A R ⟨f.σ.put (sM s)<|.fn (.func a) [] [f.σ.tm x,f.σ.tm y],f.todo.tail,nO,f.Bq⟩):At F O n I w ρ A R f:=by
 let⟨Aj,c,e⟩:=L9.1 b;simp only[QC]at e;let⟨l,m,p⟩:=e;let⟨C,q,q0⟩:=L9.1 m;let⟨o1,r,q1⟩:=L9.1 p;simp only[QC]at q0 q1;obtain⟨tag,k,i⟩:∃tag k,f.todo=.code (.region tag Aj fF)::k:=by unfold AJm at c;split at c;rename_i tag j k t;cases c;exact⟨tag,k,t⟩;cases c
 rw[i]at h;exact⟨λ_=>ASW (c:=ctx prog F O n I w ρ A) g rfl d i l q r q0.2.2 q1.2.2 q0.2.1 q1.2.1 z q0.1 q1.1 rfl rfl λu v=>(h u v).out g⟩
end
section
open Go.AX Go.RowKit
def AJe{w a}(h:Below w.heap.size w a):Bl w a:=⟨h.os,h.tape,h.output,h.size,h.block⟩
def MX{F f args av r v I}(s:prog.funcs[F]? =sM f)(a:f.body.isSome)(k:(f.name== "runtime.NumGoroutine")=fF)
 (q:∀d,(BB d args).toArray=av) (y:∀d,AO d r=v) (x:r.A3=[]) (h:∀w,EJ w I->Calls prog F av w λe n=>e=.returned v/\Below w.heap.size w n):Fn F args [] I (BW r I) nO:=by
 refine⟨FC.of (AOj x).EA.out λd z w m _ l _ _=> ?_,AX.JL s a k⟩;rw[q d];refine(h w l.1).mono ?_;rintro e n ⟨rfl,p⟩;have c:=AJe p;refine⟨{r:=r,J:=I},λ_=>0,rfl,⟨c.os,c.tape,c.output,c.size,λb a _ _=>c.block b a,nA,(λj b u=>by simp at u),(λi j t=>by simp at t),c.Eo l,λb o a=>.inl a,λb o a=>IM a⟩,?_⟩;simp[y]
def DW(a:Lz.AT):SV:=.g [.v<|vS<|AJ a.1,.v<|vS<|AJ a.2]
def Jv(s:Lz.St):SV:=.g [.v<|vS<|AJ s.Ad.1,.v<|vS<|AJ s.Ad.2,.v<|vS<|AJ s.A5.1,.v<|vS<|AJ s.A5.2]
def NB(I a b)(c:B9 a)(d:B9 b):Fn 15 [DW a,DW b] [] I (BW (.v<|vB<|Lz.fl a b) I) nO:=
 MX func15 kR kR (λ_=>rfl) (λ_=>rfl) rfl λw _=>AUN a b c d w
def UU(I a)(b:B9 a):Fn 189 [DW a] [] I (BW (DW<|Lz.A4 a) I) nO:=
 MX func189 kR kR (λ_=>rfl) (λ_=>rfl) rfl λw _=>AYu a b w
def AD8(I a b)(c:B9 a)(d:B9 b):Fn 36 [DW a,DW b] [] I (BW (DW<|Lz.jn a b) I) nO:=
 MX func36 kR kR (λ_=>rfl) (λ_=>rfl) rfl λw _=>AWI a b c d w
def AYN(I a b)(c:B9 a)(d:B9 b):Fn 292 [DW a,DW b] [] I (BW (DW<|Lz.mt a b) I) nO:=
 MX (func292) kR kR (λ_=>rfl) (λ_=>rfl) rfl λw _=>AYO a b c d w
def Zm(I a)(b:B9 a):Fn 136 [DW a] [] I (BW (.v<|vB<|Lz.A4 a==a) I) nO:=
 MX func136 kR kR (λ_=>rfl) (λ_=>rfl) rfl λw _=>Aax a _ b rfl w
end
section
open Go.AX Go.RowKit Lz
section
def Fn.same{F g need I r}(h:Fn F g need I (λ_ h=>h= {r:=r,AV:=need,J:=I}) nO)(v:SL need):Fn F g need I (BW r I) nO:=by
 refine⟨λρ x w u hN E z t=>(h.out ρ x w u hN E z t).mono ?_,h.Gb⟩;rintro e P ⟨N,q,⟨rfl,M,hle⟩,A,H⟩;have B:Ab.Bh {r:=r,AV:=need,J:=I} ρ x q=ρ:=by funext k;exact F7 (by rw[CX];split<;>rfl)
 refine⟨{r:=r,J:=I},q,⟨rfl,⟨M.r,nA,nA,Bm _,.nil⟩,hle⟩,⟨A.os,A.tape,A.output,A.size,λb y _ G=> ?_,nA,(λj b L=>by simp at L),(λi j K=>by simp at K),A.H2,A.fresh,A.IX⟩,H⟩;by_cases hex:∃d∈need,ρ d.1=b;obtain⟨d,a,rfl⟩:=hex;let⟨o,D⟩:=AK.UI (EQ.1 v d a) ρ;have C:=A.AV d a o (by rwa[B]);rw[B]at C;rw[C,hN d a o D];exact A.A2 b y (λd a e=>hex ⟨d,a,e⟩) G
variable{F:FuncId}{O:Func}{n:Nat}{I:AB}{w:World}{ρ:Nat->Nat}{A:List Nat}{R:Ec}{f:Bv}
def Mh(s:Lz.St):Prop:=B9 s.Ad/\B9 s.A5
variable{s:Lz.St}{l:AT}{p:UInt8}{c q i j:Nat}
def WK(s:Lz.St):AK:=.cells [.v<|vS<|AJ s.Ad.1,.v<|vS<|AJ s.Ad.2,.v<|vS<|AJ s.A5.1,.v<|vS<|AJ s.A5.2] 44
def Qs(l:AT):AK:=.cells [.v<|vS<|AJ l.1,.v<|vS<|AJ l.2] 42
def quF(c:Nat):Ba:=[386,387,358,360].getD c 0
def Ud(c:Nat)(s:Lz.St)(l:AT)(p:AH):Bool:=match c with|0=>fl l s.A5|1=>fl s.Ad l|2=>fb s.Ad l p|_=>fb l s.A5 p
def quN(c o:Nat)(s:Lz.St)(l:AT)(p:AH):AA (Nat×AK):=match c with
 |0=>[(o,Qs l),(o+1,WK s)]|1=>[(o,WK s),(o+1,Qs l)]
 |2=>[(o,WK s),(o+1,Qs l),(o+2,.cells [.v<|.int .u8 p.toNat] 5)]|_=>[(o,Qs l),(o+1,WK s),(o+2,.cells [.v<|.int .u8 p.toNat] 5)]
def quA(c o:Nat):AA SV:=((List.range<|if c<2 then 2 else 3).map λk=>.p (o+k) 0)
def Ue(c:Nat):Int:=if c=0\/c=3 then-4 else-3
def AaJ(o:c<4)(m:Mh s)(v:B9 l):Fn (quF c) (quA c 1) (quN c 1 s l p) I (BW (.v<|vB<|Ud c s l p) I) nO:=by
 have g:=λa b h k=>MX (I:=I) (r:=.v<|vB<|fb a b p) (args:=[DW a,DW b,.v<|.int .u8 p.toNat]) func359 kR kR (λ_=>rfl) (λ_=>rfl) rfl λw _=>ATp a b h k _ p rfl w;obtain rfl|rfl|rfl|rfl:c=0\/c=1\/c=2\/c=3:=oG;exact Fn.same (by refine fo func386 λρ e w d=>gG<|call (NB I l s.A5 v m.2)<|gG<|dn [] rfl) rfl
 exact Fn.same (by refine fo func387 λρ e w d=>gG<|call (NB I s.Ad l m.1 v)<|gG<|dn [] rfl) rfl
 exact Fn.same (by refine fo func358 λρ e w d=>gG<|call (g s.Ad l m.1 v)<|gG<|dn [] rfl) rfl
 exact Fn.same (by refine fo func360 λρ e w d=>gG<|call (g l s.A5 v m.2)<|gG<|dn [] rfl) rfl
def c1(q:Nat):Nat:=[0,0,1,2,3].getD q 0
def c2(q:Nat):Nat:=[0,1,0,0,1].getD q 0
def nQ(q:Nat):Nat:=if q=0 then 1 else 2
def item(c o:Nat):AA SV:=[.fn (.func<|quF c) []<|quA c o,.v<|.int iK<|Ue c]
def AEm(q:Nat)(s:Lz.St)(l:AT)(p:AH):AA (Nat×AK):=
 (1,.cells (item (c1 q) 2++if q=0 then[]else item (c2 q) 5) 444)::(quN (c1 q) 2 s l p++if q=0 then[]else quN (c2 q) 5 s l p)
def QY(q:Nat)(s:Lz.St)(l:AT)(p:AH):Int:=if Ud (c1 q) s l p then(if q=0 then 0 else if Ud (c2 q) s l p then 0 else Ue<|c2 q)else Ue<|c1 q
def ATv(I:AB)(q:Nat)(s:Lz.St)(l:AT)(p:AH)(i:Nat):Hd where
 Cd:=[(5,.s 1 0 (nQ q)<|nQ q),(6,.v<|iV<|nQ q),(7,.v<|iV i)]
 Cc:=AEm q s l p
 J:=I
def m5(h:q<5):q=0\/q=1\/q=2\/q=3\/q=4:=oG
def qj(j:Nat):Nat:=[0,1,1,2,2,3,3,4,4].getD j 0
def ij(j:Nat):Nat:=[0,0,1,0,1,0,1,0,1].getD j 0
def m9(h:j<9):j=0\/j=1\/j=2\/j=3\/j=4\/j=5\/j=6\/j=7\/j=8:=oG
def cj(j:Nat):Nat:=if ij j=0 then c1 (qj j)else c2<|qj j
def thj(j:Nat):AA (Nat×Nat):=[(1,if ij j=0 then 2 else 5),(2,if ij j=0 then 3 else 6),(3,4)]
def V9(b:q<5)(m:Mh s)(v:B9 l):Fn 350 [.s 1 0 (nQ q)<|nQ q] (AEm q s l p) I (BW (.v<|.int iK<|QY q s l p) I) nO:=Fn.same (by
 refine fo func350 (λρ t w k=> ?_) (hE:=by obtain rfl|rfl|rfl|rfl|rfl:=m5 b<;>exact kR);refine gG ?_ (by obtain rfl|rfl|rfl|rfl|rfl:=m5 b<;>exact kR);refine loop (λi=>i<=nQ q/\(0<i->Ud (c1 q) s l p)/\(1<i->Ud (c2 q) s l p)) (λi=>nQ q-i) (ATv I q s l p) 300 [] 0 ⟨Bm _,nofun,nofun⟩ (hobs:=by obtain rfl|rfl|rfl|rfl|rfl:=m5 b<;>exact kR) (hok:=by obtain rfl|rfl|rfl|rfl|rfl:=m5 b<;>exact kR) ?_;rintro i ⟨u,g,o⟩ again T;by_cases d:i<nQ q
 .obtain⟨j,a,rfl,rfl⟩:∃j,j<9/\q=qj j/\i=ij j:=by
   obtain rfl|rfl|rfl|rfl|rfl:=m5 b<;>obtain rfl|h0:i=0\/0<i:=oG;exact⟨0,by decide⟩;exact absurd (show i<1 from d) oG
   all_goals first|exact⟨1,by decide⟩|exact⟨3,by decide⟩|exact⟨5,by decide⟩|exact⟨7,by decide⟩|(obtain rfl:i=1:=by(have:i<2:=d;omega));first|exact⟨2,by decide⟩|exact⟨4,by decide⟩|exact⟨6,by decide⟩|exact⟨8,by decide⟩
  refine gG ?_ (by obtain rfl|rfl|rfl|rfl|rfl|rfl|rfl|rfl|rfl:=m9 a<;>exact kR);refine IG (AaJ (I:=I) (c:=cj j) (p:=p) (by obtain rfl|rfl|rfl|rfl|rfl|rfl|rfl|rfl|rfl:=m9 a<;>decide) m v) (thj j) (hobs:=by obtain rfl|rfl|rfl|rfl|rfl|rfl|rfl|rfl|rfl:=m9 a<;>exact kR) ?_;cases h:Ud (cj j) s l p with
  |true=>
   refine gG ?_ (by obtain rfl|rfl|rfl|rfl|rfl|rfl|rfl|rfl|rfl:=m9 a<;>exact kR);refine bk again [] _ ⟨d,λ_=> ?_,λ_=> ?_⟩ (hh:=by obtain rfl|rfl|rfl|rfl|rfl|rfl|rfl|rfl|rfl:=m9 a<;>exact⟨kR,kR,kR⟩);obtain rfl|rfl|rfl|rfl|rfl|rfl|rfl|rfl|rfl:=m9 a<;>first|exact h|exact g dC
   obtain rfl|rfl|rfl|rfl|rfl|rfl|rfl|rfl|rfl:=m9 a<;>first|exact h|contradiction
  |false=>
   refine gG ?_ (by obtain rfl|rfl|rfl|rfl|rfl|rfl|rfl|rfl|rfl:=m9 a<;>exact kR);refine dn [] (h:={r:=.v<|.int iK<|Ue<|cj j,AV:=AEm (qj j) s l p,J:=I}) ?_ (by obtain rfl|rfl|rfl|rfl|rfl|rfl|rfl|rfl|rfl:=m9 a<;>exact kR);have e:QY (qj j) s l p=Ue (cj j):=by obtain rfl|rfl|rfl|rfl|rfl|rfl|rfl|rfl|rfl:=m9 a<;>first|exact AY λq=>AGH (h.symm.trans q)|exact(Ac<|g dC).trans ((AY dC).trans<|AY λq=>AGH<|h.symm.trans q)
   rw[e]
 .obtain rfl:i=nQ q:=oG;have e:QY q s l p=0:=by
   obtain rfl|rfl|rfl|rfl|rfl:=m5 b;exact Ac<|g dC
   all_goals exact(Ac<|g dC).trans<|(AY dC).trans<|Ac<|o dC
  rw[e];refine gG ?_ (by obtain rfl|rfl|rfl|rfl|rfl:=m5 b<;>exact kR);exact dn [] rfl (by obtain rfl|rfl|rfl|rfl|rfl:=m5 b<;>exact kR)) (by obtain rfl|rfl|rfl|rfl|rfl:=m5 b<;>rfl)
def quK(c a:Nat):AA SV:=if c=0 then[.p (a+1) 0,.p (a+0) 0]else[.p (a+0) 0,.p (a+1) 0]
abbrev AG7(I:AB)(s:Lz.St)(l:AT)(c:Nat):zP:=λa h=>h= {r:=.g [.fn (.func<|quF c) []<|quK c a,.v<|.int iK<|Ue c],nb:=[WK s,Qs l],J:=I}
def Yi(I s l):Fn 351 [Jv s,DW l] [] I (AG7 I s l 0) nO:=fo func351 λρ b w a=>gG<|dn [100,108] rfl
def ACD(I s l):Fn 352 [Jv s,DW l] [] I (AG7 I s l 1) nO:=fo func352 λρ b w a=>gG<|dn [100,108] rfl
def Rp{a:AA SV}{e:AB}{G:Ba}{H:Nat->Ab}(h:Fn G a [] e (λd h=>h=H d) nO)(o:∀k,(H k).AV=[])(b:FH f n G [] [] a e)(hnext:At F O n I w ρ A R<|f.out (BA [])<|H<|EL f):At F O n I w ρ A R f:=
 A0 h [] (hobs:=b) λh g=>by subst g;exact hnext
variable (I:AB) (s:Lz.St) (l:AT) (p:UInt8) (m:Mh s) (v:B9 l)
include m v
theorem ANs:Fn 349 [Jv s,DW l] [] I (BW (.t [Jv (Et s l).1,.v<|.int iK (Et s l).2]) I) nO:=by
 have a:=V9 (I:=I) (q:=0) (s:=s) (l:=jn s.Ad l) (p:=0) dC m<|AZE _ _
 rw[show QY 0 s (jn s.Ad l) 0=if fl (jn s.Ad l) s.A5 then 0 else-4 from rfl]at a
 rw[Et]
 refine fo func349 λρ d w b=> ?_
 refine gG<|call (AD8 I s.Ad l m.1 v)<|gG<|Rp (Yi I s<|jn s.Ad l) (λ_=>rfl) kR<|gG<|IG a [(1,204),(2,197),(3,196)] ?_
 cases fl (jn s.Ad l) s.A5<;>exact gG fi
def Pz:Fn 305 [Jv s,DW l] [] I (BW (.v<|.int iK<|Dh s l) I) nO:=by have a:=V9 (I:=I) (q:=2) (s:=s) (l:=l) (p:=0) dC m v;rw[show QY 2 s l 0=Dh s l from rfl]at a;exact fo func305 λρ d w b=>gG<|Rp (ACD I s l) (λ_=>rfl) kR<|gG<|Rp (Yi I s l) (λ_=>rfl) kR<|gG<|IG a [(1,172),(2,140),(3,141),(5,165),(6,164)]<|gG fi
theorem AXl:Fn 298 [Jv s,DW l] [] I (BW (.t [Jv (KW s l).1,.v<|.int iK (KW s l).2]) I) nO:=by
 have a:=V9 (I:=I) (q:=1) (s:=s) (l:=l) (p:=0) dC m v;rw[show QY 1 s l 0=if fl l s.A5 then(if fl s.Ad l then 0 else-3)else-4 from rfl]at a;rw[KW];refine fo func298 λρ d w b=> ?_;refine gG<|Rp (Yi I s l) (λ_=>rfl) kR<|gG<|Rp (ACD I s l) (λ_=>rfl) kR<|gG<|IG a [(1,180),(2,149),(3,148),(5,172),(6,173)] ?_;cases fl l s.A5
 .exact gG fi
 cases fl s.Ad l
 .exact gG fi
 exact gG<|call (UU I l v)<|gG fi
def AHz:Fn 353 [Jv s,DW l] [] I (BW (.t [Jv (Rm s l).1,.v<|.int iK (Rm s l).2]) I) nO:=by have a:=Pz I s l m v;rw[Rm];rw[Dh]at a⊢;refine fo func353 λρ d w b=>gG<|call a ?_;cases fl s.Ad l;exact gG fi;cases fl l s.A5;exact gG fi;exact gG<|call (UU I l v)<|gG fi
theorem ASp:Fn 318 [Jv s,DW l,.v<|.int .u8 p.toNat] [] I (BW (.t [Jv (Ih s l p).1,.v<|.int iK (Ih s l p).2.1,.v<|vB (Ih s l p).2.2]) I) nO:=by
 have a:=V9 (I:=I) (q:=3) (s:=s) (l:=l) (p:=p) dC m v;rw[show QY 3 s l p=if fb s.Ad l p then(if fl l s.A5 then 0 else-4)else-3 from rfl]at a;rw[Ih];refine fo func318 λρ d w b=> ?_;refine gG<|Rp (Yi I s l) (λ_=>rfl) kR<|gG<|IG a [(1,212),(2,100),(3,108),(4,116),(5,205),(6,204)] ?_;cases fb s.Ad l p
 .exact gG fi
 cases fl l s.A5
 .exact gG fi
 exact gG<|call (UU I l v)<|gG<|call (NB I s.Ad l m.1 v)<|gG fi
theorem AXV:Fn 320 [Jv s,DW l,.v<|.int .u8 p.toNat] [] I (BW (.t [Jv (Il s l p).1,.v<|.int iK (Il s l p).2.1,.v<|vB (Il s l p).2.2]) I) nO:=by
 have a:=V9 (I:=I) (q:=4) (s:=s) (l:=l) (p:=p) dC m v;rw[show QY 4 s l p=if fb l s.A5 p then(if fl s.Ad l then 0 else-3)else-4 from rfl]at a;rw[Il];refine fo func320 λρ d w b=> ?_;refine gG<|Rp (ACD I s l) (λ_=>rfl) kR<|gG<|IG a [(1,212),(2,108),(3,100),(4,116),(5,204),(6,205)] ?_;cases fb l s.A5 p
 .exact gG fi
 cases fl s.Ad l
 .exact gG fi
 exact gG<|call (UU I l v)<|gG<|call (NB I l s.A5 v m.2)<|gG fi
end
end
section
open Go.AX Lz
def dec(n:Nat):AA AH:=
 if n<10 then[UInt8.ofNat<|48+n]else if n<100 then[UInt8.ofNat<|48+n/10,UInt8.ofNat<|48+n%10]
 else[UInt8.ofNat<|48+n/100,UInt8.ofNat<|48+n/10%10,UInt8.ofNat<|48+n%10]
def Dm:Nm->AA AH
 |[]=>[]
 |[n]=>dec n
 |n::l=>dec n++46::Dm l
def Aa(n:Nm):Ce:=AJ<|Dm n
abbrev sV(n:Nm):Value:=vS<|Aa n
def Rows{c:Type}(R:c->AA AF->Prop):AA c->AA AF->Prop
 |[],l=>l=[]
 |x::xs,l=>∃a b,l=a++b/\R x a/\Rows R xs b
def Rows.mono{d:Type}{R S}(h:∀x l,R x l->S x l):∀ {c:AA d} {l:AA AF},Rows R c l->Rows S c l
 |[],_,q=>q
 |x::c,l,⟨a,b,e,q1,q2⟩=>⟨a,b,e,h x a q1,Rows.mono h q2⟩
def Rows.append{g:Type}{R}:∀ {c d:AA g} {l m:AA AF},Rows R c l->Rows R d m->Rows R (c++d) (l++m)
 |[],_,_,_,h,k=>by cases h;exact k
 |x::c,d,l,m,⟨a,b,e,q1,q2⟩,k=>⟨a,b++m,by rw[e,Eb],q1,q2.append k⟩
def Rows.one{a:Type}{R:a->AA AF->Prop}{x:a}{l:AA AF}(h:R x l):Rows R [x] l:=⟨l,[],sP,h,rfl⟩
def Rows.len{g:Type}{R k}(d:∀x l,R x l->lN l=k):∀ {c:AA g} {l:AA AF},Rows R c l->lN l=lN c*k
 |[],_,h=>by cases h;simp
 |x::c,l,⟨a,b,e,q1,q2⟩=>by rw[e,CK,d x a q1,Rows.len d q2,FM,Gm];omega
theorem Rows.take{g:Type}{R k}(d:∀x l,R x l->lN l=k):∀ {c:AA g} {l:AA AF} (n:Nat),Rows R c l->Rows R (c.take n) (l.take<|n*k)
 |[],_,n,h=>by cases h;simp[Rows]
 |x::c,l,0,_=>by simp[Rows]
 |x::c,l,n+1,⟨a,b,e,q1,q2⟩=>by have:=d x a q1;refine⟨a,b.take<|n*k,?_,q1,q2.take d n⟩;rw[e,show(n+1)*k=lN a+n*k by rw[this,Gm];omega,AGb]
def Rows.drop{g:Type}{R k}(d:∀x l,R x l->lN l=k):∀ {c:AA g} {l:AA AF} (n:Nat),Rows R c l->Rows R (c.drop n) (l.drop<|n*k)
 |[],_,n,h=>by cases h;simp[Rows]
 |x::c,l,0,h=>by simpa using h
 |x::c,l,n+1,⟨a,b,e,q1,q2⟩=>by have:=d x a q1;rw[e,show(n+1)*k=lN a+n*k by rw[this,Gm];omega,S5];exact q2.drop d n
def Rows.get{d:Type}{R:d->AA AF->Prop}{k:Nat}(j:∀x l,R x l->lN l=k){c:AA d}{l:AA AF}(h:Rows R c l){i:Nat}{x:d}(o:c[i]? =sM x):R x ((l.drop<|i*k).take k):=by
 have g:=(h.drop j i);have:c.drop i=x::c.drop (i+1):=by obtain⟨m,rfl⟩:=Ci.1 o;exact Xp m
 rw[this]at g;obtain⟨a,b,e,q1,_⟩:=g;rwa[e,<-j x a q1,TC]
def Rows.flat{d:Type}{f}:∀ {c:AA d} {l:AA AF},Rows (λx l=>l=f x) c l↔l=c.flatMap f
 |[],l=>by simp[Rows]
 |x::c,l=>by simp[Rows,Kb];constructor;rintro⟨a,b,rfl,rfl,h⟩;rw[Rows.flat.1 h];intro h;exact⟨_,_,h,rfl,Rows.flat.2 rfl⟩
structure Av{b:Type}(I:AB)(R:b->AA AF->Prop)(size:Nat)(xs:AA b)(a:AU Au)(c:Nat)(cells:AA AF):Prop where
 sl:Dk I size a (lN xs) cells
 cap:lN xs<=c
 max:c<=maxLen
 CE:Rows R xs cells
def Av.up{e:Type}{I J:AB}{R S:e->AA AF->Prop}{b c:Nat}{d:AA e}{a:AU Au}{cells:AA AF}(h:Av I R b d a c cells)(hle:I.le J)(g:∀x l,R x l->S x l):Av J S b d a c cells:=
 ⟨h.sl.up hle,h.cap,h.max,h.CE.mono g⟩
def BG(v:AW):AA AF:=[.int iK v.kind,.int iK v.n,vS<|Aa v.name,vS<|AJ v.l.1,vS<|AJ v.l.2]
def Do(v:AW):SV:=.g [.v<|nV v.kind,.v<|nV v.n,.v<|sV v.name,.v<|vS<|AJ v.l.1,.v<|vS<|AJ v.l.2]
def F9(v:AW)(l:AA AF):Prop:=l=BG v
def Jd(v l)(h:F9 v l):lN l=5:=by rw[h];rfl
abbrev F3(I:AB)(d:AA AW)(a:AU Au)(c:Nat)(b:AA AF):Prop:=Av I F9 5 d a c b
def Ea(t:Fj):AA AF:=[.int iK t.AG,.int iK t.Cg,.int iK t.at_]
def Oy(t:Fj)(l:AA AF):Prop:=l=Ea t
def Uy(t l)(h:Oy t l):lN l=3:=by rw[h];rfl
def Gd(I:AB)(f:Cw)(l:AA AF):Prop:=∃b c a,l=[.int iK f.fn,.int iK f.pc,.int iK f.Cp,.int .u8 f.AR.toNat,.slice b (lN f.Ai) c]/\F3 I f.Ai b c a
def JN(I f l)(h:Gd I f l):lN l=5:=by obtain⟨_,_,_,rfl,_⟩:=h;rfl
def Nl{I J}(hle:I.le J)(f l)(h:Gd I f l):Gd J f l:=by let⟨b,c,a,e,q⟩:=h;exact⟨b,c,a,e,q.up hle λ_ _ h=>h⟩
structure DL where
 fa:AU Au
 fc:Nat
 fl:AA AF
 sa:AU Au
 sc:Nat
 sl:AA AF
 ta:AU Au
 tc:Nat
 tl:AA AF
structure C0(I:AB)(c:Ay)(p:DL):Prop where
 f:Av I (Gd I) 5 c.AG p.fa p.fc p.fl
 s:Av I F9 5 c.stack p.sa p.sc p.sl
 t:Av I Oy 3 c.AP p.ta p.tc p.tl
def Dx(c:Ay)(p:DL):AA SV:=[.v<|.slice p.fa (lN c.AG) p.fc,.v<|.slice p.sa (lN c.stack) p.sc,.v<|.slice p.ta (lN c.AP) p.tc]
def C0.up{I J c p}(h:C0 I c p)(hle:I.le J):C0 J c p:=
 ⟨h.f.up hle<|Nl hle,h.s.up hle λ_ _ h=>h,h.t.up hle λ_ _ h=>h⟩
def He{a:Type}(I:AB)(S:a->SV)(R:AB->a->Prop):zP:=λ_ h=>∃x J,h= {r:=S x,J:=J}/\I.le J/\R J x
variable{F:FuncId}{O:Func}{n:Nat}{I:AB}{w:World}{ρ:Nat->Nat}{A:List Nat}{R:Ec}{f:Bv}
def Cz{c:Type}{a:AA SV}{I':AB}{G:Ba}{S:c->SV}{Q:AB->c->Prop}(h:Fn G a [] I' (He I' S Q) nO)(hnext:∀x J,I'.le J->Q J x->At F O n I w ρ A R (f.out (BA []) {r:=S x,J:=J}))(b:FH f n G [] [] a I':=by exact kR):At F O n I w ρ A R f:=
 A0 h [] (hobs:=b) λh d=>by obtain⟨x,J,rfl,hle,q⟩:=d;exact hnext x J hle q
def KR{b I' G d m g}(h:Fn G b [] I' (TS I' d m g) nO)(hnext:∀a c J,I'.le J->m<=c->c<=maxLen->Dk J d a m g->At F O n I w ρ A R (f.out (BA []) {r:=.v<|.slice a m c,J:=J}))(e:FH f n G [] [] b I':=by exact kR):At F O n I w ρ A R f:=
 A0 h [] (hobs:=e) λh o=>by obtain⟨a,c,J,rfl,i,j,k,l⟩:=o;exact hnext a c J i j k l
abbrev AGp(I:AB)(c:Ay):zP:=He I (λq:DL=>.g<|Dx c q) λJ q=>C0 J c q
def C0.push{I c p}(h:C0 I c p)(v){a m}(e:Dk I 5 a (lN c.stack+1)<|p.sl++BG v)(b:lN c.stack+1<=m)(d:m<=maxLen):C0 I (Df c v) {p with sa:=a,sc:=m,sl:=p.sl++BG v}:=
 ⟨h.f,⟨by simpa[Df]using e,by simpa[Df]using b,d,h.s.CE.append<|Rows.one rfl⟩,h.t⟩
def AHG(I a n c d v)(b:n<=c)(e:n<=1000000)(h:Dk I 5 a n d):Fn 196 [.v<|.slice a n c,Do v] [] I (TS I 5 (n+1)<|d++BG v) nO:=
 AP6 I a n c d v.kind v.n (Aa v.name) (AJ v.l.1) (AJ v.l.2) b e h
def AE6(I c p v)(g:lN c.stack<=1000000)(h:C0 I c p):Fn 147 [.g<|Dx c p,Do v] [] I (AGp I<|Df c v) nO:=by refine Ju 11 func147 ntmps147 rfl rfl kR λj i w b=>gG<|KR (AHG I p.sa (lN c.stack) p.sc p.sl v h.s.cap g h.s.sl) λa m J hle d e f=>gG<|dn [] ⟨_,J,?_,hle,(h.up hle).push v f d e⟩ (h:={r:=.g [.v<|.slice p.fa (lN c.AG) p.fc,.v<|.slice a (lN c.stack+1) m,.v<|.slice p.ta (lN c.AP) p.tc],J:=J});simp[Dx,Df]
theorem Av.take{g:Type}{I R b c}{f:AA g}{a}{d:AA AF}(i:∀x l,R x l->lN l=b)(h:Av I R b f a c d)(m):Av I R b (f.take m) a (min m<|lN f) (d.take<|min m (lN f)*b):=by have e:lN (f.take m)=min m (lN f):=sP;refine⟨?_,by rw[e];exact Ag _,Ch (Nat.min_le_right _ _)<|Ch h.cap h.max,?_⟩;rw[e];exact h.sl.take<|Nat.min_le_right _ _;have:=h.CE.take i<|min m<|lN f;rwa [show f.take (min m<|lN f)=f.take m by rw[<-IA,FN]]at this
def C0.cut{I c p}(h:C0 I c p)(f s t):C0 I (Ee c f s t) ⟨p.fa,min f<|lN c.AG,p.fl.take<|min f (lN c.AG)*5,p.sa,min s<|lN c.stack,p.sl.take<|min s (lN c.stack)*5,p.ta,min t<|lN c.AP,p.tl.take<|min t (lN c.AP)*3⟩:=
 ⟨h.f.take (JN I) f,h.s.take Jd s,h.t.take Uy t⟩
def AIh(I c p)(f s t:Nat)(h:C0 I c p):Fn 115 [.g (Dx c p),.v (.int .i64 f),.v (.int .i64 s),.v (.int .i64 t)] [] I (AGp I (Ee c f s t)) none:=by refine Ju 22 Tryz.func115 Tryz.ntmps115 rfl rfl kR λρ key w a=>gG<|call (Yr I p.fa c.AG.length p.fc f h.f.cap)<|gG<|call (Vz I p.sa c.stack.length p.sc s h.s.cap)<|gG<|call (AIg I p.ta c.AP.length p.tc t h.t.cap)<|gG<|dn [] ⟨_,I,?_,AB.le_refl _,h.cut f s t⟩ (h:={r:=.g [.v (.slice p.fa (min f c.AG.length) (min f c.AG.length)),.v (.slice p.sa (min s c.stack.length) (min s c.stack.length)),.v (.slice p.ta (min t c.AP.length) (min t c.AP.length))],J:=I});simp[Dx,Ee]
def Dk.open_{I f n a i}(h:Dk I f a n i)(p:0<n):
 ∃b c arr e g,a=sM ⟨b,c,nO⟩/\I b=sM (.cells arr e g)/\∀j v,i[j]? =sM v->arr[c+j]? =sM v:=by
 rcases h.at_ with o|⟨b,c,arr,e,g,k,l,m⟩;omega;refine⟨b,c,arr,e,g,k,l,λj v d=> ?_⟩;rw[<-m,GO]at d;split at d;rw[Jg]at d;simpa using d;cases d
def Uo{t e b off n c k a i}(j:prog.underlying t=sM (.slice e))(f:prog.info? e=sM i)(h:i.size=a)(g:k<n):
 ∀w,EJ w I->∃d,(Instr.indexAt t (.slice (aO b off) n c)<|iV k).run prog w=.ok (AO id<|.v<|.pointer<|sM ⟨b,off+k*a,nO⟩) d/\Bl w d:=λw _=>
 ⟨w,by
   have:(0:Int)<=(k:Int)/\(k:Int)<(n:Int):=oG;simp[Instr.indexAt,asIntOf,run_underlying j,g,sizeOf,typeInfo,f,h,AO,Addr.add_mid,Result.andThen],Bl.refl w⟩
theorem IZ{t b o arr e g d v}(i:prog.underlying t=sM d)(l:d.isRow=fF)(h:I b=sM (.cells arr e g))(j:arr[o]? =sM v):
 ∀w,EJ w I->∃f,(Instr.loadAt t<|.pointer<|aO b o).run prog w=.ok (AO id<|.v v) f/\Bl w f:=λw k=>
 ⟨w,by
   have c:(isAgg t).run prog w=.ok fF w:=by simp[isAgg,Sem.run_bind,run_underlying i,Result.andThen_ok];cases d<;>simp_all[TypeDesc.isRow]
   have a:w.cell? ⟨b,o,nO⟩=sM v:=by simp[World.cell?,k b _ h,j]
   simp[Instr.loadAt,Instr.sureAddr,Sem.run_bind,Sem.run_pure,Result.andThen_ok,loadVar,c];simp[load,Sem.run,a,AO],Bl.refl w⟩
def Ur{t b o arr e g d i f}(a:AA AF)(u:f=a.map .v)(q:prog.underlying t=sM d)(m:d.isRow)(n:prog.info? t=sM i)(p:i.size=lN a)(k:I b=sM (.cells arr e g))(r:∀j v,a[j]? =sM v->arr[o+j]? =sM v):
 ∀w,EJ w I->∃c,(Instr.loadAt t<|.pointer<|aO b o).run prog w=.ok (AO id<|.g f) c/\Bl w c:=λw s=>
 ⟨w,by
   have l:w.rangeAt b o a:=λj v h=>by simp[World.cell?,s b _ k,r j v h]
   have:=run_loadVar_mid (P:=prog) w b o t a d l q m (by rw[n];simp[p]);simp[Instr.loadAt,Instr.sureAddr,Sem.run_bind,Sem.run_pure,Result.andThen_ok,this];rw[u];simp[AO,Gw],Bl.refl w⟩
def bT{p:Prop}[Decidable p](h:p):Value.bool (decide p)=vB tT:=by rw[G5 h]
def bF{p:Prop}[Decidable p](h: ¬p):Value.bool (decide p)=vB fF:=by rw[Gp h]
def AF9{n:Int}(h: -9223372036854775808<=n/\n<9223372036854775808):IntKind.i64.wrap n=n:=by simp[IntKind.wrap];have:IntKind.i64.bits=64:=rfl;have a:IntKind.i64.signed:=rfl;simp[this,a];omega
def iw{n m:Int}(e:n=m)(h: -9223372036854775808<=m/\m<9223372036854775808):Value.int iK (IntKind.i64.wrap n)=.int iK m:=by rw[e,AF9 h]
def Ek:prog.underlying 3=sM (.int iK):=kR
def ABA:prog.underlying 9=sM .string:=kR
def AOO:prog.underlying 4=sM .bool:=kR
def SD{a:Type}{l:AA a}{x}(h:l.getLast?=sM x):l[lN l-1]? =sM x:=by rwa [P8]at h
structure APF where
 p:DL
 a:AU Au
 c:Nat
 l:AA AF
abbrev APm(I:AB)(c:Ay)(n:Nat):zP:=He I (λq:APF=>.t [.g<|Dx (FR c n) q.p,.v<|.slice q.a n q.c,.v tV]) λJ q=>C0 J (FR c n) q.p/\F3 J (Ct c n) q.a q.c q.l
def N1{c n}(h:n<=lN c.stack):lN (Ct c n)=n:=by simp[Ct];omega
def Tx{I c p}(h:C0 I c p){f}(k:c.top=sM f):∃b d arr e o m n a,p.fa=sM ⟨b,d,nO⟩/\I b=sM (.cells arr e o)/\F3 I f.Ai m n a/\0<lN c.AG/\
 (∀j v,[Value.int iK f.fn,.int iK f.pc,.int iK f.Cp,.int .u8 f.AR.toNat,.slice m (lN f.Ai) n][j]? =sM v->arr[d+(lN c.AG-1)*5+j]? =sM v):=by
 have g:0<lN c.AG:=by
  cases e:c.AG with
  |nil=>rw[Ay.top]at k;rw[e]at k;cases k
  |cons x l=>simp
 let⟨b,d,arr,e,o,s,t,u⟩:=h.f.sl.open_ g;let⟨m,n,a,q,r⟩:=h.f.CE.get (JN I)<|SD k;refine⟨b,d,arr,e,o,m,n,a,s,t,r,g,λj v i=> ?_⟩;rw[<-q,GO]at i;split at i;rw[Jg]at i;rw[Nb];exact u _ v i;cases i
def AAU(I c p)(n:Nat)(f)(B:c.top=some f)(j:HQ c n)(T:c.stack.length<=1000000)(L:c.AG.length<=1000000)(h:C0 I c p):Fn 156 [.g<|Dx c p,.v<|.int .i64 (n:Int)] [] I (APm I c n) none:=by
 let⟨b,k,arr,e,R,X,Y,y,l,H,N,M,i⟩:=Tx h B;let⟨Q,z,fl,u,v,W,E,F,P⟩:=p;simp only at l;subst l;let⟨i65,q,s⟩:=ZT;let⟨i51,o,d⟩:=Qm;have K:MN c=f.Cp:=by rw[MN];rw[B]
 simp[HQ,Bool.and_eq_true,decide_eq_true_eq]at j;rw[K]at j;let⟨U,V⟩:=j;have D:n<=c.stack.length:=oG;have t:=h.s.cap;have x:c.stack.length-(c.stack.length-n)=n:=oG;refine Ju 61 Tryz.func156 Tryz.ntmps156 rfl rfl kR λZ O w C=>gg [(13,.eq _ _<|bT (p:=(c.AG.length:Int)>0) oG),(19,.eq _ _<|iw (n:=(c.AG.length:Int)-1) (m:=((c.AG.length-1:Nat):Int)) oG oG),
  (20,.op I _ _<|Uo (b:=b) (off:=k) (n:=c.AG.length) (c:=z) (k:=c.AG.length-1) U0 q s oG),
  (22,.op I _ _<|IZ Ek rfl H<|i 2 _ rfl),(27,.eq _ _<|bF (p:=(n:Int)<0) oG),(30,.eq _ _<|bF (p:=(f.Cp:Int)<0) oG),(35,.eq _ _<|bF (p:=(f.Cp:Int)>c.stack.length) oG),
  (40,.eq _ _<|iw (n:=(c.stack.length:Int)-f.Cp) (m:=((c.stack.length-f.Cp:Nat):Int)) oG oG),(42,.eq _ _<|bF (p:=((c.stack.length-f.Cp:Nat):Int)<n) oG),
  (49,.eq _ _<|iw (n:=(c.stack.length:Int)-n) (m:=((c.stack.length-n:Nat):Int)) oG oG),(50,.op I _ _<|Abj (a:=u) (n:=c.stack.length) (c:=v) (m:=c.stack.length-n) NW o oG)] ?_
 have g:=h.s.sl.drop (m:=c.stack.length-n) (c:=v) oG t;simp[x]at g;rw[<-d]at g;refine KR (ACs I (WH u (c.stack.length-n) v i51.size) (c.stack.length-(c.stack.length-n)) (v-(c.stack.length-n)) _ oG<|by rw[x,d];rw[d]at g;exact g) λa m J hle S G A=> ?_;refine gg [(56,.eq _ _<|iw (n:=(c.stack.length:Int)-n) (m:=((c.stack.length-n:Nat):Int)) oG oG)]<|call (Vz J u c.stack.length v (c.stack.length-n) t)<|gG ?_;refine dn [] ⟨⟨⟨some ⟨b,k,none⟩,z,fl,u,min (c.stack.length-n) c.stack.length,_,E,F,P⟩,a,m,_⟩,J,?_,hle,⟨(h.up hle).f,(h.up hle).s.take Jd<|c.stack.length-n,(h.up hle).t⟩,⟨?_,by rw[N1 D];show n<=m;omega,G,(h.up hle).s.CE.drop Jd _⟩⟩ (h:={r:=.t [.g [.v<|.slice (some ⟨b,k,none⟩) c.AG.length z,.v<|.slice u (min (c.stack.length-n) c.stack.length)<|min (c.stack.length-n) c.stack.length,.v<|.slice E c.AP.length F],.v<|.slice a (c.stack.length-(c.stack.length-n)) m,.v<|.bool true],J:=J});simp[Dx,FR,x];rw[N1 D];rw[x]at A;exact A
def U9(I)(n:Int):Fn 150 [.v<|nV n] [] I (BW (Do<|BH n) I) nO:=Ju 5 func150 ntmps150 rfl rfl kR λc b w a=>gG<|fi
def AFs(I)(b:Bool):Fn 282 [.v<|vB b] [] I (BW (Do<|NV b) I) nO:=by
 refine Ju 6 func282 ntmps282 rfl rfl kR λd c w a=> ?_;cases b with
 |true=>
  exact gG<|call (U9 I 1)<|gG<|fi
 |false=>
  exact gG<|call (U9 I 0)<|gG<|fi
structure CS where
 ia:AU Au
 iN:Nat
 ic:Nat
 ja:AU Au
 jn:Nat
 jc:Nat
 was:Ay
 wp:DL
 c:Ay
 p:DL
 oc:Nat
 oa:Nat
 ta:AU Au
 tn:Nat
 tc:Nat
 fr:Nat
 tr:Nat
 ok:Nat
 ov:AW
 xc:Nat
 xa:Nat
 wrong:Bool
 code:Int
def CS.row(m:CS)(a:SV):AA SV:=
 [.v<|.slice m.ia m.iN m.ic,.v<|.slice m.ja m.jn m.jc,.v<|.slice m.wp.fa (lN m.was.AG) m.wp.fc,.v<|.slice m.wp.sa (lN m.was.stack) m.wp.sc,.v<|.slice m.wp.ta (lN m.was.AP) m.wp.tc,
  a,.v<|.slice m.p.sa (lN m.c.stack) m.p.sc,.v<|.slice m.p.ta (lN m.c.AP) m.p.tc,.v<|nV m.oc,.v<|nV m.oa,.v<|.slice m.ta m.tn m.tc,.v<|nV m.fr,.v<|nV m.tr,
  .v<|nV m.ok,.v<|nV m.ov.kind,.v<|nV m.ov.n,.v<|sV m.ov.name,.v<|vS<|AJ m.ov.l.1,.v<|vS<|AJ m.ov.l.2,.v<|nV m.xc,.v<|nV m.xa,.v<|vB m.wrong,.v<|nV m.code]
def CS.B3(m:CS):AK:=.cells (m.row<|.v<|.slice m.p.fa (lN m.c.AG) m.p.fc) 282
def YE{a:Type}(I:AB)(S:a->CS)(R:AB->a->Prop):zP:=λ_ h=>∃x J,h= {r:=.t [],AV:=[(1,(S x).B3)],J:=J}/\I.le J/\R J x
def CS.HW(m:CS)(r:Ay ⊕ Int)(q:DL):CS:=match r with
 | .inl u=>{m with c:=u,p:=q}
 | .inr e=>{m with wrong:=tT,code:=e}
def X4(r:Ay ⊕ Int)(J:AB)(q:DL):Prop:=∀u,r=.inl u->C0 J u q
abbrev JG(I:AB)(m:CS)(r:Ay ⊕ Int):zP:=YE I (m.HW r)<|X4 r
def Rt{J u q}(h:C0 J u q):X4 (.inl u) J q:=λ_ e=>by cases e;exact h
def AS6{J}{e:Int}{q}:X4 (.inr e) J q:=λ_ h=>by cases h
def Nq(I m v)(b:lN m.c.stack<=1000000)(h:C0 I m.c m.p):Fn 277 [.p 1 0,Do v] [(1,m.B3)] I (JG I m<|.inl<|Df m.c v) nO:=fo func277 λe d w a=>gG<|Cz (AE6 I m.c m.p v b h) λq J hle c=>gG<|dn [] ⟨q,J,rfl,hle,Rt c⟩
def R4(I m)(e:Int):Fn 281 [.p 1 0,.v<|nV e] [(1,m.B3)] I (JG I m<|.inr e) nO:=fo func281 λc b w a=>gG<|dn [] ⟨m.p,I,rfl,AB.le_refl _,AS6⟩
abbrev JS:Nat×AK:=(2,.cells [.p 1 0] 280)
def AG3{a:Type}(I:AB)(S:a->CS)(R:AB->a->Prop):zP:=λ_ h=>∃x J,h= {r:=.t [],AV:=[(1,(S x).B3),JS],J:=J}/\I.le J/\R J x
abbrev M3(I:AB)(m:CS)(r:Ay ⊕ Int):zP:=AG3 I (m.HW r)<|X4 r
def IS{c:Type}{a:AA SV}{I':AB}{G:Ba}{m:AK}{S:c->CS}{Q:AB->c->Prop}(h:Fn G a [(1,m)] I' (YE I' S Q) nO)(hnext:∀x J,I'.le J->Q J x->At F O n I w ρ A R (f.out (BA []) {r:=.t [],AV:=[(1,(S x).B3)],J:=J}))(b:FH f n G [] [(1,m)] a I':=by exact kR):At F O n I w ρ A R f:=
 A0 h [] (hobs:=b) λh d=>by obtain⟨x,J,rfl,hle,q⟩:=d;exact hnext x J hle q
def Ye{d:Type}{a:AA SV}{c:AB}{G:Ba}{m:AK}{S:d->CS}{Q:AB->d->Prop}(k:Nat)(h:Fn G a [(1,m),JS] c (AG3 c S Q) nO)(b:FH f n G [(2,k)] [(1,m),JS] a c)(hnext:∀x J,c.le J->Q J x->At F O n I w ρ A R (f.out (BA [(2,k)]) {r:=.t [],AV:=[(1,(S x).B3),JS],J:=J})):At F O n I w ρ A R f:=
 A0 h [(2,k)] (hobs:=b) λh e=>by obtain⟨x,J,rfl,hle,q⟩:=e;exact hnext x J hle q
def Xc{I o a c g}(h:F3 I o a c g)(m:0<lN o):∃b d arr e l,a=sM ⟨b,d,nO⟩/\I b=sM (.cells arr e l)/\∀k v,o[k]? =sM v->∀j x,(BG v)[j]? =sM x->arr[d+k*5+j]? =sM x:=by let⟨b,d,arr,e,l,q,r,s⟩:=h.sl.open_ m;refine⟨b,d,arr,e,l,q,r,λk v t j x i=> ?_⟩;have p:=h.CE.get Jd t;rw[F9]at p;rw[<-p,GO]at i;split at i;rw[Jg]at i;rw[Nb];exact s _ x i;cases i
def neF{a b:Int}(h:a=b):Value.bool (a !=b)=vB fF:=by rw[h];simp
def neT{a b:Int}(h:a≠b):Value.bool (a !=b)=vB tT:=by simp[h]
def Y0{a b:Int}(h:a=b):Value.bool (a==b)=vB tT:=by rw[h];simp
def QW{a b:Int}(h:a≠b):Value.bool (a==b)=vB fF:=by simp[h]
abbrev CS.tk(m:CS)(b a n:Nat):CS:={m with ta:=sM ⟨b,a,nO⟩,tn:=n}
abbrev CS.ks(m:CS)(b a n:Nat):CS:={m with ia:=sM ⟨b,a,nO⟩,iN:=n}
def Sq{I}(m){d c}(q:F3 I d m.ta m.tc c)(p:m.tn=lN d)(h:0<lN d):
 ∃r:CS,∃b a arr e g,m=r.tk b a (lN d)/\I b=sM (.cells arr e g)/\∀k v,d[k]? =sM v->∀j x,(BG v)[j]? =sM x->arr[a+k*5+j]? =sM x:=by
 let⟨b,a,arr,e,g,i,l,o⟩:=Xc q h;exact⟨m,b,a,arr,e,g,by rw[CS.tk];rw[<-i,<-p],l,o⟩
def ASE{I}(m){d c}(q:F3 I d m.ia m.ic c)(p:m.iN=lN d)(h:0<lN d):
 ∃r:CS,∃b a arr e g,m=r.ks b a (lN d)/\I b=sM (.cells arr e g)/\∀k v,d[k]? =sM v->∀j x,(BG v)[j]? =sM x->arr[a+k*5+j]? =sM x:=by
 let⟨b,a,arr,e,g,i,l,o⟩:=Xc q h;exact⟨m,b,a,arr,e,g,by rw[CS.ks];rw[<-i,<-p],l,o⟩
abbrev CS.TW(m:CS)(b a:Nat):CS:={m with p:={m.p with fa:=sM ⟨b,a,nO⟩}}
def ADf(I)(m:CS)(h:C0 I m.c m.p){f}(r:m.c.top=sM f):∃b c arr e i d g a,m=m.TW b c/\I b=sM (.cells arr e i)/\F3 I f.Ai d g a/\0<lN m.c.AG/\
 (∀j v,[Value.int iK f.fn,.int iK f.pc,.int iK f.Cp,.int .u8 f.AR.toNat,.slice d (lN f.Ai) g][j]? =sM v->arr[c+(lN m.c.AG-1)*5+j]? =sM v):=by
 let⟨b,c,arr,e,i,d,g,a,k,l,o,p,q⟩:=Tx h r;exact⟨b,c,arr,e,i,d,g,a,by rw[CS.TW];rw[<-k],l,o,p,q⟩
def AGy(I:AB)(m:AK)(r:SV):zP:=λ_ h=>h= {r:=r,AV:=[(1,m)],J:=I}
def ACh{a I' G m r}(h:Fn G a [(1,m)] I' (AGy I' m r) nO)(c:m.live)(hnext:At F O n I w ρ A R<|f.out (BA []) {r:=r,J:=I'})(b:VV f n G [] [(1,m)] [] a I':=by exact kR):At F O n I w ρ A R f:=
 IG (Fn.same h<|by simp[SL,c]) [] hnext b
def AFq(I)(m:CS)(b a)(h:0<lN m.c.AG)(g:lN m.c.AG<=1000000):Fn 223 [.p 1 0] [(1,(m.TW b a).B3)] I (AGy I (m.TW b a).B3<|.v<|.pointer<|sM ⟨b,a+(lN m.c.AG-1)*5,nO⟩) nO:=by let⟨i65,c,d⟩:=ZT;exact fo func223 λρ i w e=>gg [(14,.eq _ _<|iw (n:=(lN m.c.AG:Int)-1) (m:=((lN m.c.AG-1:Nat):Int)) oG oG),(15,.op I _ _<|Uo (b:=b) (off:=a) (n:=lN m.c.AG) (c:=m.p.fc) (k:=lN m.c.AG-1) U0 c d oG)]<|dn [] rfl
def Sw:prog.underlying 5=sM (.int .u8):=kR
def ABK(n:Int):IntKind.i64.wrap n=wrap64 n:=by rw[IntKind.wrap,wrap64];have:IntKind.i64.bits=64:=rfl;have a:IntKind.i64.signed:=rfl;simp only[this,a,RL];split;rename_i h;simp at h;omega;rename_i h;simp at h;omega
def AZO:AK:=.Ey [.int iK 7,.int iK 8,.int iK 9,.int iK 10,.int iK 11,.int iK 12,.int iK 13] [.v<|.func (.func 377) #[] #[],.v<|.func (.func 378) #[] #[],.v<|.func (.func 379) #[] #[],.v<|.func (.func 380) #[] #[],.v<|.func (.func 381) #[] #[],.v<|.func (.func 382) #[] #[],.v<|.func (.func 384) #[] #[]]
def AGq(I:AB)(b:AK):zP:=λa h=>h= {r:=.m a,nb:=[b],J:=I}
def SS(I):Fn 345 [] [] I (AGq I AZO) nO:=fo func345 λc b w a=>gG<|dn [108] rfl
def ALn(I)(b:Bool):Fn 383 [.v<|vB b] [] I (BW (.v<|.int iK<|if b then 1 else 0) I) nO:=by refine fo func383 λd c w a=> ?_;cases b<;>(refine gG ?_;exact fi)
abbrev Qz(o:AU Int):SV:=.t [.v<|.int iK<|o.getD 0,.v<|vB o.isSome]
def AY1(I)(a b:Int):Fn 377 [.v<|nV a,.v<|nV b] [] I (BW (Qz<|HN 7 a b) I) nO:=fo func377 λe d w c=>gg [(8,.eq _ _<|Dt (Value.int iK)<|ABK<|a+b)]<|fi
def AY2(I)(a b:Int):Fn 378 [.v<|nV a,.v<|nV b] [] I (BW (Qz<|HN 8 a b) I) nO:=fo func378 λe d w c=>gg [(8,.eq _ _<|Dt (Value.int iK)<|ABK<|a-b)]<|fi
def AY3(I)(a b:Int):Fn 379 [.v<|nV a,.v<|nV b] [] I (BW (Qz<|HN 9 a b) I) nO:=fo func379 λe d w c=>gg [(8,.eq _ _<|Dt (Value.int iK)<|ABK<|a*b)]<|fi
def Abm{I}(x y)(a b:Int)(d:b≠0):∀w,EJ w I->∃c,((do eqGuard .quo 2 x y (nV a)<|nV b;binOp .quo 2 (nV a) (nV b):Sem AF)).run prog w=.ok (AO id<|.v<|.int iK<|wrap64<|a.tdiv b) c/\Bl w c:=λw _=>
 ⟨w,by simp[eqGuard_quo,binOp_quo,Op.intDiv,d,AO,ABK],Bl.refl w⟩
def Abn{I}(x y)(a b:Int)(d:b≠0):∀w,EJ w I->∃c,((do eqGuard .rem 2 x y (nV a)<|nV b;binOp .rem 2 (nV a) (nV b):Sem AF)).run prog w=.ok (AO id<|.v<|.int iK<|a.tmod b) c/\Bl w c:=λw _=>
 ⟨w,by simp[eqGuard_rem,binOp_rem,Op.intDiv,d,AO],Bl.refl w⟩
def AYx(I)(a b:Int):Fn 380 [.v<|nV a,.v<|nV b] [] I (BW (Qz<|HN 10 a b) I) nO:=by refine fo func380 λf e w c=> ?_;by_cases d:b=0;refine gg [(7,.eq _ _<|Y0 (b:=0) d)]<|Bz func380 c ?_;rw[show HN 10 a b=nO by simp[HN,d]];kernel_rfl;refine gg [(7,.eq _ _<|QW (b:=0) d),(10,.op I _ _<|Abm (.tmp 8) (.tmp 9) a b d)]<|Bz func380 c ?_;rw[show HN 10 a b=sM (wrap64<|a.tdiv b) by simp[HN,d]];kernel_rfl
def AYy(I)(a b:Int):Fn 381 [.v<|nV a,.v<|nV b] [] I (BW (Qz<|HN 11 a b) I) nO:=by refine fo func381 λf e w c=> ?_;by_cases d:b=0;refine gg [(7,.eq _ _<|Y0 (b:=0) d)]<|Bz func381 c ?_;rw[show HN 11 a b=nO by simp[HN,d]];kernel_rfl;refine gg [(7,.eq _ _<|QW (b:=0) d),(10,.op I _ _<|Abn (.tmp 8) (.tmp 9) a b d)]<|Bz func381 c ?_;rw[show HN 11 a b=sM (a.tmod b) by simp[HN,d]];kernel_rfl
def AYz(I)(a b:Int):Fn 382 [.v<|nV a,.v<|nV b] [] I (BW (Qz<|HN 12 a b) I) nO:=by refine fo func382 λe d w c=>gG<|call (ALn I<|a==b)<|gG<|Bz func382 c ?_;rw[show HN 12 a b=sM (if(a==b)=tT then 1 else 0) by simp[HN]];kernel_rfl
def AY0(I)(a b:Int):Fn 384 [.v<|nV a,.v<|nV b] [] I (BW (Qz<|HN 13 a b) I) nO:=by refine fo func384 λe d w c=>gG<|call (ALn I<|decide<|a<b)<|gG<|Bz func384 c ?_;rw[show HN 13 a b=sM (if(decide<|a<b)=tT then 1 else 0) by simp[HN]];kernel_rfl
def AY4(I)(c:Nat)(a b:Int)(i:7<=c)(j:c<=13):Fn 280 [.v<|nV c,.v<|nV a,.v<|nV b] [] I (BW (Qz<|HN c a b) I) nO:=by obtain rfl|rfl|rfl|rfl|rfl|rfl|rfl:c=7\/c=8\/c=9\/c=10\/c=11\/c=12\/c=13:=oG;refine fo func280 λg f w d=>gG<|A0 (SS I) [] λh e=> ?_;subst e;exact gG<|call (AY1 I a b)<|gG<|fi;refine fo func280 λg f w d=>gG<|A0 (SS I) [] λh e=> ?_;subst e;exact gG<|call (AY2 I a b)<|gG<|fi;refine fo func280 λg f w d=>gG<|A0 (SS I) [] λh e=> ?_;subst e;exact gG<|call (AY3 I a b)<|gG<|fi;refine fo func280 λg f w d=>gG<|A0 (SS I) [] λh e=> ?_;subst e;exact gG<|call (AYx I a b)<|gG<|fi;refine fo func280 λg f w d=>gG<|A0 (SS I) [] λh e=> ?_;subst e;exact gG<|call (AYy I a b)<|gG<|fi;refine fo func280 λg f w d=>gG<|A0 (SS I) [] λh e=> ?_;subst e;exact gG<|call (AYz I a b)<|gG<|fi;refine fo func280 λg f w d=>gG<|A0 (SS I) [] λh e=> ?_;subst e;exact gG<|call (AY0 I a b)<|gG<|fi
def Hl(s:Dc):AA AF:=[vS<|Aa s.name,vS<|AJ s.l.1,vS<|AJ s.l.2,.int iK s.RE,.int iK s.AG,.int iK s.Cg,.int iK s.AP,
 vS<|AJ s.g.Ad.1,vS<|AJ s.g.Ad.2,vS<|AJ s.g.A5.1,vS<|AJ s.g.A5.2,vS<|Aa s.Bg,.int iK s.A7,.int iK s.Ao]
def AFP(s:Dc):SV:=.g [.v<|sV s.name,.v<|vS<|AJ s.l.1,.v<|vS<|AJ s.l.2,.v<|nV s.RE,.v<|nV s.AG,.v<|nV s.Cg,.v<|nV s.AP,
 .v<|vS<|AJ s.g.Ad.1,.v<|vS<|AJ s.g.Ad.2,.v<|vS<|AJ s.g.A5.1,.v<|vS<|AJ s.g.A5.2,.v<|sV s.Bg,.v<|nV s.A7,.v<|nV s.Ao]
def Ll(s:Dc)(l:AA AF):Prop:=l=Hl s
def XO(s l)(h:Ll s l):lN l=14:=by rw[h];rfl
structure DV where
 p:DL
 ca:AU Au
 cc:Nat
 cl:AA AF
def Dr(t:AL)(a:DV):AA SV:=
 [.v<|sV t.id,.v<|sV t.Bg,.v<|vS<|AJ t.g.Ad.1,.v<|vS<|AJ t.g.Ad.2,.v<|vS<|AJ t.g.A5.1,.v<|vS<|AJ t.g.A5.2,
  .v<|.slice a.p.fa (lN t.c.AG) a.p.fc,.v<|.slice a.p.sa (lN t.c.stack) a.p.sc,.v<|.slice a.p.ta (lN t.c.AP) a.p.tc,.v<|.slice a.ca (lN t.AI) a.cc,.v<|nV t.A7,.v<|nV t.Ao,.v<|nV t.Aw,.v<|sV t.on,
  .v<|nV t.v.kind,.v<|nV t.v.n,.v<|sV t.v.name,.v<|vS<|AJ t.v.l.1,.v<|vS<|AJ t.v.l.2,.v<|vB t.ex]
structure DZ(I:AB)(t:AL)(a:DV):Prop where
 c:C0 I t.c a.p
 s:Av I Ll 14 t.AI a.ca a.cc a.cl
def DZ.up{I J t a}(h:DZ I t a)(hle:I.le J):DZ J t a:=⟨h.c.up hle,h.s.up hle λ_ _ h=>h⟩
abbrev QJ(I:AB)(t:AL):zP:=He I (λa:DV=>.g<|Dr t a) λJ a=>DZ J t a
def Av.empty{b:Type}{I R a}:Av I R a ([]:AA b) nO 0 []:=⟨Dk.nil,Ag _,by rw[maxLen];omega,rfl⟩
def AEp(I id g c p)(Ao:Nat)(h:C0 I c p):Fn 141 [.v (.string (Aa id)),Jv g,.g (Dx c p),.v (.int .i64 Ao)] [] I (QJ I (Jw id g c Ao)) none:=fo Tryz.func141 λρ key w a=>gG<|dn [] ⟨_,I,rfl,AB.le_refl _,⟨h,Av.empty⟩⟩ (h:={r:=.g (Dr (Jw id g c Ao) ⟨p,none,0,[]⟩),J:=I})
def NG(t:AL)(a:DV):AA SV:=[.v<|.slice a.ca (lN t.AI) a.cc,.v<|vS<|AJ t.g.Ad.1,.v<|vS<|AJ t.g.Ad.2]
def AE4(I t a):Fn 97 [.g<|Dr t a] [] I (BW (.g<|NG t a) I) nO:=fo func97 λd c w b=>gG<|fi
def AEQ(I t a)(d:lN t.AI<=1000000):Fn 113 [.g<|NG t a] [] I (BW (.v<|.int iK ((lN t.AI+1:Nat):Int)) I) nO:=fo func113 λe c w b=>gg [(6,.eq _ _<|iw (n:=(lN t.AI:Int)+1) (m:=((lN t.AI+1:Nat):Int)) oG oG)]<|fi
def AT2(I)(t)(a)(v)(ex:Bool)(h:DZ I t a):Fn 154 [.g (Dr t a),Do v,.v (.bool ex)] [] I (QJ I (Fq t v ex)) none:=by
 refine fo Tryz.func154 λρ key w b=> ?_;by_cases hs:0<t.AI.length;refine gg [(12,.eq _ _ (bT (p:=(t.AI.length:Int)>0) oG))]<|dn [] ⟨a,I,?_,AB.le_refl _,⟨h.c,h.s⟩⟩ (h:={r:=.g (Dr {t with Aw:=2,v:=v,ex:=ex,on:=[]} a),J:=I});simp[Fq,hs];cases ex with
 |true=>
  refine gg [(12,.eq _ _ (bF (p:=(t.AI.length:Int)>0) oG))]<|dn [] ⟨a,I,?_,AB.le_refl _,⟨h.c,h.s⟩⟩ (h:={r:=.g (Dr {t with Aw:=4,v:=v,ex:=true,on:=[]} a),J:=I});simp[Fq,hs]
 |false=>
  refine gg [(12,.eq _ _ (bF (p:=(t.AI.length:Int)>0) oG))]<|dn [] ⟨a,I,?_,AB.le_refl _,⟨h.c,h.s⟩⟩ (h:={r:=.g (Dr {t with Aw:=3,v:=v,ex:=false,on:=[]} a),J:=I});simp[Fq,hs]
def AeU:Dc:=⟨[],FW,0,0,0,0,⟨FW,FW⟩,[],0,0⟩
def Adc:prog.underlying 114=sM ((prog.underlying 114).getD Al):=kR
def Aaz:((prog.underlying 114).getD Al).isRow:=kR
def AbR{I m a c f}(h:Av I Ll 14 m a c f)(l:0<lN m):∃b d arr e i,a=sM ⟨b,d,nO⟩/\I b=sM (.cells arr e i)/\∀k v,m[k]? =sM v->∀j x,(Hl v)[j]? =sM x->arr[d+k*14+j]? =sM x:=by let⟨b,d,arr,e,i,o,p,q⟩:=h.sl.open_ l;refine⟨b,d,arr,e,i,o,p,λk v r j x g=> ?_⟩;have n:=h.CE.get XO r;rw[Ll]at n;rw[<-n,GO]at g;split at g;rw[Jg]at g;rw[Nb];exact q _ x g;cases g
def AVv(I t a)(d:lN t.AI=0):Fn 148 [.g<|NG t a] [] I (BW (.t [AFP AeU,.v fV]) I) nO:=fo func148 λe c w b=>gg [(7,.eq _ _<|Y0 (a:=(lN t.AI:Int)) (b:=0) oG)]<|fi
def AVw(I t a s)(h:Av I Ll 14 t.AI a.ca a.cc a.cl)(o:t.AI.getLast?=sM s)(y:lN t.AI<=1000000):Fn 148 [.g<|NG t a] [] I (BW (.t [AFP s,.v tV]) I) nO:=by have j:=SD o;have n:=(Ci.1 j).1;let⟨b,c,arr,e,x,d,m,q⟩:=AbR h oG;let⟨p,u,l,v⟩:=a;simp only at d;subst d;let⟨i,f,k⟩:=WW;exact fo func148 λz r w g=>gg [(7,.eq _ _<|QW (a:=(lN t.AI:Int)) (b:=0) oG),(14,.eq _ _<|iw (n:=(lN t.AI:Int)-1) (m:=((lN t.AI-1:Nat):Int)) oG oG),(15,.op I _ _<|Uo (b:=b) (off:=c) (n:=lN t.AI) (c:=l) (k:=lN t.AI-1) U1 f k n),(16,.op I _ (AFP s)<|Ur (Hl s) rfl Adc Aaz f k m<|q _ s j)]<|fi
def AXs(I x y z):∀a e (o:Bw),o.op=.field 202 (.tmp 8) 0->(∀p∈[(8,SV.g [.v x,.v y,.v z])],e p.1=p.2)->LS prog o e a [] I (.g [.v x,.v y,.v z]) nO:=by
 intro a e o h c;have m:=Ds c (s:=8) (x:=.g [.v x,.v y,.v z]) sP;intro t s w n _ _ _ _;refine⟨w,?_,Bl.refl w⟩;have f:=n (.tmp 8) xO;simp only[ev,m,AO,BB]at f;have j:prog.underlying 202=sM (.struct #[((prog.fieldsOf 202)[0]?).getD Al]):=kR;have g:(((prog.fieldsOf 202)[0]?).getD Al).type=200/\(((prog.fieldsOf 202)[0]?).getD Al).offset=0:=⟨kR,kR⟩;have k:prog.underlying 200=sM ((prog.underlying 200).getD Al):=kR;have l:((prog.underlying 200).getD Al).isRow:=kR;obtain⟨i,q,r⟩:∃i,prog.info? 200=sM i/\i.size=3:=by rw[show prog.info? 200=sM ((prog.info? 200).getD Al) by kernel_rfl];exact⟨_,rfl,kR⟩
 have b:(isAgg 200).run prog w=.ok tT w:=by simp only[isAgg,Sem.run_bind,run_underlying k,Result.andThen_ok];generalize(prog.underlying 200).getD Al=d at l;cases d<;>simp_all[TypeDesc.isRow]
 simp[execOp,h,Instr.field,f,run_underlying j,g.1,g.2,part,b,asAgg,sizeOf,typeInfo,q,r,Result.andThen,AO,BB]
def AJP(I t a)(h:Av I Ll 14 t.AI a.ca a.cc a.cl)(d:lN t.AI<=1000000):Fn 101 [.g<|Dr t a] [] I (BW (.t [.v<|.int iK (CV t).1,.v<|.int iK (CV t).2]) I) nO:=by
 refine fo func101 λi g w b=>gG<|call (AE4 I t a)<|gg [(9,.BZ (.field 202 (.tmp 8) 0) [(8,.g<|NG t a)] [] I (.g<|NG t a)<|AXs I _ _ _)] ?_;cases e:t.AI.getLast? with
 |none=>
  have f:lN t.AI=0:=by cases c:t.AI with|nil=>rfl|cons x l=>rw[c]at e;simp at e
  refine call (AVv I t a f)<|gG ?_;rw[show CV t=(0,0) by unfold CV;rw[e]];exact fi
 |some s=>
  refine call (AVw I t a s h e d)<|gG ?_;rw[show CV t=(s.AG,s.AP) by unfold CV;rw[e]];exact fi
def Gf:AA (AA AH):=["push","load","store","pop","dup","swap","add","sub","mul","div","rem","eq","lt","not","jump","if","call","ret","throw","try","end","join","meet","flows","cur","clr","raise","lower","box","open","labof","ref","get","set","var","take","put","fork","wait","scope","out","drop","lift","less","gate","enter","own"].map λs=>s.toUTF8.toList
def Oh(c:Nat):AA AF:=[vS<|AJ<|Gf.getD (c-1) [],.int .u8<|Cf c,.int .u8<|BP c,.int .u8<|D5 c]
structure EB(I:AB):Prop where
 at_:∃arr e fr,I 1=sM (.cells arr e fr)/\∀c,1<=c->c<=47->∀j x,(Oh c)[j]? =sM x->arr[(c-1)*4+j]? =sM x
def EB.up{I J}(h:EB I)(hle:I.le J):EB J:=by let⟨arr,e,a,b,c⟩:=h.at_;exact⟨arr,e,a,hle _ _ b,c⟩
def AD0(c:Nat):SV:=.g [.v<|vS<|AJ<|Gf.getD (c-1) [],.v<|.int iK<|Cf c,.v<|.int iK<|BP c,.v<|.int iK<|D5 c,.v<|vB<|Lf c]
def Su:prog.underlying 352=sM (.array 47 351):=kR
def AJ0:∃i,prog.info? 351=sM i/\i.size=4:=by rw[show prog.info? 351=sM ((prog.info? 351).getD Al) by kernel_rfl];exact⟨_,rfl,kR⟩
def AA7:prog.underlying 351=sM ((prog.underlying 351).getD Al):=kR
def AAe:((prog.underlying 351).getD Al).isRow:=kR
def Uq{I t e b off n k a i}(h:prog.underlying t=sM (.array n e))(d:prog.info? e=sM i)(g:i.size=a)(f:k<n):
 ∀w,EJ w I->∃c,(Instr.indexAt t (.pointer<|aO b off)<|iV k).run prog w=.ok (AO id<|.v<|.pointer<|sM ⟨b,off+k*a,nO⟩) c/\Bl w c:=λw _=>
 ⟨w,by
   have:(0:Int)<=(k:Int)/\(k:Int)<(n:Int):=oG;simp[Instr.indexAt,asIntOf,run_underlying h,f,sizeOf,typeInfo,d,g,AO,Addr.add_mid,Result.andThen,Instr.sureAddr],Bl.refl w⟩
def AAO(c)(a:1<=c)(b:c<=47):Cf c<=5/\BP c<=4/\D5 c<=2:=by have:∀c:Fin 48,Cf c<=5/\BP c<=4/\D5 c<=2:=dC;exact this ⟨c,oG⟩
def QN(I)(hT:EB I)(c:Nat)(h1:1<=c)(n:c<=47):Fn 155 [.v (.int .i64 c)] [] I (BW (.t [AD0 c,.v (.bool true)]) I) none:=by
 let⟨arr,e,fr,m,g⟩:=hT.at_;let⟨i,hi,a⟩:=AJ0;let⟨s1,s2,p⟩:=AAO c h1 n;have g:=g c h1 n;refine fo Tryz.func155 λρ key w o=> ?_;by_cases h:c=15;subst h;refine gg [(14,.op I _ _ (Uq (b:=1) (off:=0) (k:=14) Su hi a oG)),(15,.op I _ (.g ((Oh 15).map .v)) (Ur (Oh 15) rfl AA7 AAe hi a m (λj x f=>by have:=g j x f;simpa using this)))] ?_;exact fi;by_cases k:c=18;subst k;refine gg [(14,.op I _ _ (Uq (b:=1) (off:=0) (k:=17) Su hi a oG)),(15,.op I _ (.g ((Oh 18).map .v)) (Ur (Oh 18) rfl AA7 AAe hi a m (λj x f=>by have:=g j x f;simpa using this)))] ?_;exact fi;by_cases l:c=19;subst l;refine gg [(14,.op I _ _ (Uq (b:=1) (off:=0) (k:=18) Su hi a oG)),(15,.op I _ (.g ((Oh 19).map .v)) (Ur (Oh 19) rfl AA7 AAe hi a m (λj x f=>by have:=g j x f;simpa using this)))] ?_;exact fi;refine gg [(6,.eq _ _ (bF (p:=(c:Int)<1) oG)),(9,.eq _ _ (bF (p:=(c:Int)>47) oG)),(13,.eq _ _ (iw (n:=(c:Int)-1) (m:=((c-1:Nat):Int)) oG oG)),
  (14,.op I _ _ (Uq (b:=1) (off:=0) (k:=c-1) Su hi a oG)),(15,.op I _ (.g ((Oh c).map .v)) (Ur (o:=0+(c-1)*4) (Oh c) rfl AA7 AAe hi a m (λj x f=>by have:=g j x f;simpa using this))),
  (20,.eq _ _ (iw (n:=(Cf c:Int)) (m:=(Cf c:Int)) rfl oG)),(23,.eq _ _ (iw (n:=(BP c:Int)) (m:=(BP c:Int)) rfl oG)),(26,.eq _ _ (iw (n:=(D5 c:Int)) (m:=(D5 c:Int)) rfl oG)),
  (28,.eq _ _ (QW (a:=(c:Int)) (b:=15) oG)),(31,.eq _ _ (QW (a:=(c:Int)) (b:=18) oG)),(35,.eq _ _ (QW (a:=(c:Int)) (b:=19) oG))] ?_
 have d:Lf c=false:=by simp[Lf,h,k,l]
 have b:AD0 c=.g [.v (.string (AJ (Gf.getD (c-1) []))),.v (.int .i64 (Cf c)),.v (.int .i64 (BP c)),.v (.int .i64 (D5 c)),.v (.bool false)]:=by unfold AD0;rw[d]
 rw[b];exact fi
def Cs(o:Lz.Op):AA AF:=[.int iK o.code,.int iK o.a]
def Q2(o:Lz.Op)(l:AA AF):Prop:=l=Cs o
def AAM(o l)(h:Q2 o l):lN l=2:=by rw[h];rfl
def KU(I:AB)(f:Lz.Ev)(l:AA AF):Prop:=∃b c a,l=[.int iK f.args,.int iK f.Ai,.slice b (lN f.code) c]/\Av I Q2 2 f.code b c a
def WI(I f l)(h:KU I f l):lN l=3:=by obtain⟨_,_,_,rfl,_⟩:=h;rfl
def AJa{I J}(hle:I.le J)(f l)(h:KU I f l):KU J f l:=by let⟨b,c,a,e,q⟩:=h;exact⟨b,c,a,e,q.up hle λ_ _ h=>h⟩
structure Dw where
 ka:AU Au
 kc:Nat
 kl:AA AF
 ua:AU Au
 uc:Nat
 ul:AA AF
structure FJ(I:AB)(im:A6)(p:Dw):Prop where
 k:Av I F9 5 im.DN p.ka p.kc p.kl
 u:Av I (KU I) 3 im.Ax p.ua p.uc p.ul
def Fa(a:A6)(p:Dw):AA SV:=[.v<|.slice p.ka (lN a.DN) p.kc,.v<|.slice p.ua (lN a.Ax) p.uc]
def FJ.up{I J a p}(h:FJ I a p)(hle:I.le J):FJ J a p:=⟨h.k.up hle λ_ _ h=>h,h.u.up hle<|AJa hle⟩
def Po(o:Lz.Op):SV:=.g [.v<|nV o.code,.v<|nV o.a]
def AFx:prog.underlying 30=sM (.slice 195):=kR
def ADz:∃i,prog.info? 195=sM i/\i.size=3:=by rw[show prog.info? 195=sM ((prog.info? 195).getD Al) by kernel_rfl];exact⟨_,rfl,kR⟩
def OR{I p a}{c:Nat}{g}(h:Av I (KU I) 3 p a c g){k:Nat}{f}(q:p[k]? =sM f):∃b d arr e o l m n,a=sM ⟨b,d,nO⟩/\I b=sM (.cells arr e o)/\Av I Q2 2 f.code l m n/\k<lN p/\∀j x,[Value.int iK f.args,.int iK f.Ai,.slice l (lN f.code) m][j]? =sM x->arr[d+k*3+j]? =sM x:=by have w:=(List.getElem?_eq_some_iff.1 q).1;let⟨b,d,arr,e,o,t,u,v⟩:=h.sl.open_ oG;let⟨l,m,n,r,s⟩:=h.CE.get (WI I) q;refine⟨b,d,arr,e,o,l,m,n,t,u,s,w,λj x i=> ?_⟩;rw[<-r,List.getElem?_take]at i;split at i;rw[List.getElem?_drop]at i;rw[Nat.add_assoc];exact v _ x i;cases i
def Acm(I)(hT:EB I)(a p o)(g:FJ I a p)(c:1<=o.code)(d:o.code<=47)(e:o.code≠17):Fn 200 [.g<|Fa a p,Po o] [] I (BW (.v<|.int iK<|CU a o) I) nO:=by refine fo func200 λh f w b=>gG<|call (QN I hT o.code c d)<|gg [(15,.eq _ _<|QW (a:=(o.code:Int)) (b:=17) oG)] ?_;rw[show CU a o=BP o.code by unfold CU;rw[AY e]];exact fi
def Acn(I)(hT:EB I)(c p a f)(m:FJ I c p)(l:c.Ax[a]? =sM f)(y:f.args<=1000000):Fn 200 [.g<|Fa c p,Po ⟨17,a⟩] [] I (BW (.v<|nV f.args) I) nO:=by let⟨b,g,arr,e,x,t,u,v,h,k,_,n,o⟩:=OR m.u l;let⟨z,A,B,C,s,D⟩:=p;simp only at h;subst h;let⟨i,d,q⟩:=ADz;refine fo func200 λE r w j=>gG<|call (QN I hT 17 oG oG)<|gg [(22,.op I _ _<|Uo (b:=b) (off:=g) (n:=lN c.Ax) (c:=s) (k:=a) AFx d q n),(24,.op I _ _<|IZ Ek rfl k<|o 0 _ rfl),(25,.eq _ _<|iw (n:=((BP 17:Nat):Int)+f.args) (m:=(f.args:Int)) (by show((0:Nat):Int)+_=_;omega) oG)] ?_;exact fi
def VA(I)(n m:Nat):Fn 197 [.v (.int .i64 n),.v (.int .i64 m)] [] I (BW (.v (.bool (decide (n<m)))) I) none:=by refine fo Tryz.func197 λρ key w a=> ?_;have e:Value.bool (decide ((n:Int)<(m:Int)))=.bool (decide (n<m)):=sP;exact gg [(6,.eq _ _ (bT (p:=(n:Int)≥0) oG)),(10,.eq _ _ e)]<|fi
abbrev CS.Ak(m:CS)(a:Nat):AK:=.cells (m.row<|.s 2 0 (lN m.c.AG) a) 282
abbrev Pk(m:CS)(a:Nat)(b:AA AF):AA (Nat×AK):=[(1,m.Ak a),(2,.As b 65)]
def AG4(I:AB)(a:AA<|Nat×AK)(r:SV):zP:=λ_ h=>h= {r:=r,AV:=a,J:=I}
def AA2(I m a c)(e:0<lN m.c.AG)(d:lN m.c.AG<=1000000):Fn 223 [.p 1 0] (Pk m a c) I (AG4 I (Pk m a c)<|.p 2<|0+(lN m.c.AG-1)*5) nO:=by
 refine fo func223 λg f w b=>gg [(14,.eq _ _<|iw (n:=(lN m.c.AG:Int)-1) (m:=((lN m.c.AG-1:Nat):Int)) oG oG),
  (15,.BZ (.indexAddr 45 (.tmp 7)<|.tmp 14) [(7,.s 2 0 (lN m.c.AG) a),(14,.v<|.int iK<|Int.ofNat<|lN m.c.AG-1)] [] I (.p 2<|0+(lN m.c.AG-1)*5)<|I5 Be (L:=Bt) (t:=45) (a:=7) (b:=14) (k:=2) (off:=0) (n:=lN m.c.AG) (c:=a) (i:=lN m.c.AG-1) (e:=65) (ty:=⟨5,_,_⟩) rfl rfl oG)] ?_
 exact dn [] rfl
def AWL(I m)(a:Nat)(c)(o:0<lN m.c.AG)(f:lN m.c.AG<=1000000)(s:lN m.c.AG*5<=lN c):Fn 210 [.p 1 0] (Pk m a c) I (AG4 I (Pk m a<|BX c (0+(lN m.c.AG-1)*5+1) [.int iK m.oa])<|.t []) nO:=by refine fo func210 λy t w p=>gG<|IG (Fn.same (AA2 I m a c o f) rfl) []<|gG<|act (need:=[(2,.As c 65)]) (AJu (I:=I) Be (L:=Bt) (t:=3) (k:=2) (off:=0+(lN m.c.AG-1)*5+1) (ad:=.tmp 10) (x:=.tmp 8) (ty:=⟨1,_,_⟩) (vs:=c) (cs:=[.int iK m.oa]) (e:=65) kR kR kR rfl rfl sO (by intro v q;rw[A9.1 q];rfl)<|A9.2 rfl) ?_ ?_;intro h g;subst g;refine{r:= ?_,u:= ?_,n:= ?_,l:=by simp,le:=AB.Hj _,d:=by simp};intro k i;cases i;intro x j;rw[A9.1 j];refine⟨A9.2 rfl,?_,?_⟩;intro b e;rw[(IC<|A9.1 e).2];rfl;intro k i;cases i;intro b e;cases e;intro h g;subst g;exact gG<|dn [] rfl
end
end Go.Proofs.YtomehhepbeiinaaGreatDoor
