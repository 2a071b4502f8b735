/- Part 5 of the proof of TopHidden. No conditions. -/
import Derived.Test.YtomehhepbeiinaaGreatDoorZ04
set_option maxRecDepth 100000
set_option maxHeartbeats 4000000
set_option linter.all false
open Go renaming run_underlying->rU
open Go.Result renaming andThen_ok->aK,andThen->aT
open Go.Sem renaming run_bind->rB
open Nat renaming beq->bQ
open List renaming replicate->lP
open List renaming length->lN
open Option renaming some->sM,none->nO
open Bool renaming true->tT,false->fF
open Go.Value renaming string->vS,bool->vB
open Go.IntKind renaming i64->iK
namespace Lz
variable{m:AT}{M:UInt8->Prop}{AC thr':List AL}{A:AL}{k:Call}{s r:Az}
structure VE(m:AT)(AC thr':AA AL)(s r:Az):Prop where
 th:∀id,Cr m thr' id=Cr m AC id
 st:Ca m s r
theorem VE.refl(AC s):VE m AC AC s s:=⟨λ_=>rfl,Ca.refl _⟩
def VE.trans{a b c x y z}(h:VE m a b x y)(k:VE m b c y z):VE m a c x z:=⟨λd=>(k.th d).trans<|h.th d,h.st.trans k.st⟩
theorem T5{t}(h:fl (EF t 0) m=fF):C4 t m=nO:=by
 have e:CF t m=0:=AED (Bm _) (λj a=>absurd a<|Xx _) λ_=>h
 grind[C4]
theorem FI.AJq(h:FI m M AC A k)(a:fl A.g.Ad m=fF):C4 k.t m=C4 A m:=by
 refine WO h.id (Ag _) ?_ (by rw[h.EI,FN]) (by grind[Cx,Ik]) (h.hid a) λs b=>h.cut s<|Fg b;have:=Dt List.length h.EI
 grind
theorem ADW(h:Inv m AC s k)(hc:k.t.AI=[]->∀o,Am s k.t.id=some o->o.kind=6->fl o.l m=false)(v)(ex:Bool):Inv m AC s (E7 k v ex):=by
 rw[E7];dsimp only;split;exact⟨h.B0,h.BU,h.out,h.BY⟩
 .rename_i a;have c:k.t.AI=[]:=by have a: ¬((if 0<k.t.AI.length then 2 else if ex then 4 else 3)≠3/\(if 0<k.t.AI.length then 2 else if ex then 4 else 3)≠4):=a;by_cases h0:0<k.t.AI.length;rw[if_pos h0]at a;exact absurd (show(2≠3/\2≠4) by decide) a;exact List.length_eq_zero_iff.1 oG
  have hk:=hc c;refine⟨?_,h.BU,h.out,h.BY⟩;show Ca m s (match Am k.s (Fq k.t v ex).id with|some o=>if o.kind=6 then Cn k.s (Fq k.t v ex).id {o with v:=v,ex:=ex,done:=true}else k.s|none=>k.s);split
  .rename_i o f;split
   .rename_i d;have b:fl o.l m=false:=by
     cases e:fl o.l m with
     |false=>rfl
     |true=>
      have:=hk o (h.B0.symm.some_ f e) d
      grind
    exact h.B0.trans λq=>(Xe (o:={o with v:=v,ex:=ex,done:=true}) b q).symm
   exact h.B0
  exact h.B0
def AFC(h:Inv m AC s k)(d:k.t.AI=[]->∀o,Am s k.t.id=sM o->o.kind=6->fl o.l m=fF)(c)(b:Int)(a:Nat):Inv m AC s (EH k c b a):=by rw[EH];split;exact ADW (k:={k with t:={k.t with c:=by assumption}}) ⟨h.B0,h.BU,h.out,h.BY⟩ d _ _;exact⟨h.B0,h.BU,h.out,h.BY⟩
theorem cell_of(h:KI m M AC s){t:AL}(c:t∈AC)(a:fl t.g.Ad m=fF){u:AL}(hid:u.id=t.id)(b:u.AI=t.AI):u.AI=[]->∀o,Am s u.id=sM o->o.kind=6->fl o.l m=fF:=by grind[EF,Yg]
def KM(k:Call)(r:CR):Prop:=r.2≠nO->∃g,r.1=k.Bp g
def KM.none{k a}:KM k (a,nO):=λh=>(h rfl).elim
def KM.Cq(x):KM k (k,x):=λ_=>⟨k.t.g,rfl⟩
def KM.g(g x):KM k (k.Bp g,x):=λ_=>⟨g,rfl⟩
def AI9{l f}(a:∀g,KM k<|f<|k.Bp g):KM k (G1 k l f):=by rw[G1];split;exact .Cq _;exact a _
def AI8{l f}(a:∀g,KM k<|f<|k.Bp g):KM k (Ga k l f):=by rw[Ga];split;exact .Cq _;exact a _
def Y4{o}:KM k (Fv k o):=by rw[Fv];split;exact .Cq _;split;exact .Cq _;exact .none
theorem Y5{x f}(a:∀g o,KM k<|f (k.Bp g) o):KM k (Ff k x f):=by refine AI9 λg=> ?_;split;exact .none;exact a _ _
theorem AJA{g o}:KM k (Ej (k.Bp g) o):=by rw[Ej];split;exact .g _ _;exact .none
theorem AHZ{im AD o AR l}:KM k (CO im AD o AR l k):=by
 rw[CO];dsimp only;split;exact .none;exact .none;split;exact .Cq _;exact AI9 λ_=>.none;split;exact .Cq _;split;exact .Cq _;exact .none;split;exact .Cq _;exact Y4;split;exact .Cq _
 grind[Y5,AJA]
 split;exact .Cq _;exact Y4;split;exact .Cq _;exact Y5 λ_ _=>.none;split;exact .Cq _;split;exact .Cq _;split<;>exact .none;split;exact .Cq _;exact Y4;split;exact .Cq _;refine AI8 λg=> ?_;split;exact .none;split<;>exact .none;split;exact .Cq _;refine AI8 λg=> ?_;split;exact .none;split<;>exact .none;split;exact .Cq _;split;exact .Cq _;split;exact .Cq _;split;exact .Cq _;exact .none;split;exact .Cq _;refine Y5 λ_ _=> ?_;split;exact AJA;exact .none;split;exact .Cq _;split;exact .none;exact .Cq _;split;exact .Cq _;split;exact .Cq _;exact .none;split;exact .Cq _;split;exact .Cq _;exact .none;split;exact .Cq _;split;exact .Cq _;exact .none;split;exact .Cq _;exact Y4;split;exact .Cq _;refine Y5 λg _=> ?_;split;exact .none;exact .g _ _;exact .none
theorem ASg{im AD}(h:KI m M AC s){t}(n:Af AC t.id=sM t)(i:fl t.g.Ad m=fF):Inv m AC s (C6 im t s AD):=by
 have b:=D2 n;have l:Inv m AC s ⟨s,t,A8⟩:=Inv.Mq rfl rfl;rw[C6];split;exact l;dsimp only;cases u:(Es im t.c (CV t).1 (CV t).2).2 with
 |Iu=>exact Inv.Mq rfl rfl
 |ended v=>grind[ADW,Inv.Mq,cell_of]
 |failed v=>grind[ADW,Inv.Mq,cell_of]
 |asked o=>
  show Inv m AC s<|Gt im AD (CV t).2 o ⟨s,t,A8⟩;rw[Gt];dsimp only;have a:=AQV (m:=m) (AC:=AC) (im:=im) (AD:=AD) (o:=o) (AR:=(t.c.top.getD Al).AR) (l:=Ct t.c<|BP o.code) (k:=⟨s,{t with c:=D4 (FR t.c<|BP o.code) λf=>{f with pc:=f.pc+1}},A8⟩) h.qok rfl i;have j:=AHZ (im:=im) (AD:=AD) (o:=o) (AR:=(t.c.top.getD Al).AR) (l:=Ct t.c<|BP o.code) (k:=⟨s,{t with c:=D4 (FR t.c<|BP o.code) λf=>{f with pc:=f.pc+1}},A8⟩);generalize CO im AD o _ _ _=q at a j;obtain⟨p,_|d⟩:=q;exact a;obtain⟨g,e⟩:=j sP;have e:p=_:=e;refine AFC a (cell_of h b i ?_ ?_) _ _ _;rw[e];rfl;rw[e];rfl
def Sy{t n}(a:n<=lN t.AI)(c:Cx t m n=fF)(b:∀x∈t.AI.take n,x.Cg<=lN t.c.stack)(l):C4 (DX t l) m=C4 t m:=
 WO rfl a a rfl c aS λx d=>AST (b x d) l
def Vh{P t}(h:TI m P M t):∀x∈t.AI,x.Cg<=lN t.c.stack:=λx a=>(h.at_ x a).ht
theorem AJY{l u}(a:Af l u.id=nO)(b:fl u.g.Ad m=fF)(c:u.AI=[])(id):Cr m (CC l u) id=Cr m l id:=by
 unfold Cr;rw[Mp];split;rename_i e;rw[e,a];show C4 u m=nO
 grind[EF,T5]
 rfl
theorem AMk(h:KI m M AC s)(G:KQ s){t}(a:Af AC t.id=sM t)(p:t.Aw=1){o}(E:Am s t.on=sM o)(I:o.kind=6)(D:fl t.g.Ad m=fF):
 C4 (Dv t s o.v o.ex).t m=C4 t m/\Ca m s (Dv t s o.v o.ex).s/\((Dv t s o.v o.ex).e.done->t.AI=[]):=by
 have H:∀n g,Am s n=sM g->∀w∈g.var.q,w.id≠t.id:=λn g j w c e=>by let⟨J,b,_,F,_⟩:=(h.Dn n g j).2 w c;rw[e,a]at b;cases b;rw[F,j]at E;cases E;rw[G n o j oG]at c;cases c
 have c:∀l,C4 (DX t l) m=C4 t m:=λl=>Sy (Ag _) (by grind[Cx,Ik]) (λx C=>Vh (h.of a) x<|Fg C) l;rw[Dv];split;exact⟨c _,Ca.refl _,λq=>by cases q⟩;have b:=h.wake a p H nA;rw[Gi]at b;simp[a]at b;have u:Af (A1 AC<|DX t []) (DX t []).id=sM (DX t []):=RD a rfl;have f:=b.YS u rfl;refine⟨((f.raise f rfl λx C=>(ADa (h.of a) x C).2).AJq D).trans<|c _,(AFC (AC:=AC) (k:=⟨s,DX t [],A8⟩) (Inv.Mq rfl rfl) (cell_of h (D2 a) D rfl rfl) _ _ _).B0,λq=> ?_⟩;rw[EH]at q;split at q;rw[E7]at q;dsimp only at q;split at q;cases q;rename_i d;by_cases f:0<lN t.AI;exfalso;apply d;show(if 0<lN t.AI then 2 else if tT then 4 else 3)≠3/\(if 0<lN t.AI then 2 else if tT then 4 else 3)≠4;rw[Ac f];decide
 grind
 cases q
theorem V3:∀(n:Nat) {k:Ap} (v:Nm),KK m M k->(∀o,Am k.Ah v=sM o->o.kind=6->fl o.l m=fF)->VE m k.AC (GD n k v).AC k.Ah (GD n k v).Ah
 |0,_,_,_,_=>.refl _ _
 |n+1,k,v,h,hid=>by
  rw[GD];refine(NC (P:=λa:Ap=>KK m M a/\VE m k.AC a.AC k.Ah a.Ah) (λa x z=> ?_) _ ⟨h,.refl _ _⟩).2;let⟨b,g⟩:=z;split;exact⟨b,g⟩;rename_i t u;split;exact⟨b,g⟩;rename_i i;simp[Jk,Ka]at i;split;exact⟨b,g⟩;rename_i o D;split;exact⟨b,g⟩;rename_i p;simp[Jk,Ka]at p;have c:=E2 u;have j:Am a.Ah t.on=sM o:=by rwa[i.2]
  have H:fl o.l m=fF:=by
   cases e:fl o.l m with
   |false=>rfl
   |true=>
    have:=hid o (g.st.symm.some_ D e) p.1
    grind
  have G:fl t.g.Ad m=fF:=by
   cases e:fl t.g.Ad m with
   |false=>rfl
   |true=>
    let⟨N,K,L⟩:=b.ki.H8 t (D2 u) i.1 e
    grind
  have f:Af a.AC t.id=sM t:=by rwa[c]
  have C:=Q9 b.ki b.kq f i.1 j p.1;let⟨J,E,r3⟩:=AMk b.ki b.kq f i.1 j p.1 G;have d:KK m M {a with Ah:=(Dv t a.Ah o.v o.ex).s,AC:=A1 a.AC (Dv t a.Ah o.v o.ex).t}:=⟨C.1,C.2.1⟩;have l:VE m k.AC (A1 a.AC (Dv t a.Ah o.v o.ex).t) k.Ah (Dv t a.Ah o.v o.ex).s:=g.trans ⟨λq=>U4 f C.2.2 J q,E⟩;dsimp only;split;rename_i y;refine⟨Yw n x d,l.trans<|V3 n x d λo2 B w=> ?_⟩;have I:=r3 y;cases e:fl o2.l m with
  |false=>rfl
  |true=>
   have:=Yg b.ki (D2 u) (by grind[EF]) (by rw[c];exact E.symm.some_ B e) w
   grind
  exact⟨d,l⟩
def ND(k:Call)(r:CR):Prop:=r.1.e.done=k.e.done
def ALU{l f}(a:∀g,ND k<|f<|k.Bp g):ND k (G1 k l f):=by rw[G1];split;exact rfl;exact a _
def ALT{l f}(a:∀g,ND k<|f<|k.Bp g):ND k (Ga k l f):=by rw[Ga];split;exact rfl;exact a _
def Z7{o}:ND k (Fv k o):=by rw[Fv];split;exact rfl;split<;>exact rfl
theorem Z8{x f}(a:∀g o,ND k<|f (k.Bp g) o):ND k (Ff k x f):=by refine ALU λg=> ?_;split;exact rfl;exact a _ _
theorem ALV{g o}:ND k (Ej (k.Bp g) o):=by rw[Ej];split<;>exact rfl
def ALW{a b l x}(h:a.e.done=k.e.done):ND k (EO a b l,x):=by rw[EO];split<;>exact h
theorem AQY{c b o a l}:ND k (CO c b o a l k):=by
 rw[CO];dsimp only;split;exact rfl;exact rfl;split;exact rfl;exact ALU λ_=>rfl;split;exact rfl;split<;>exact rfl;split;exact rfl;exact Z7;split;exact rfl
 grind[Z8,ALV]
 split;exact rfl;exact Z7;split;exact rfl;exact Z8 λ_ _=>rfl;split;exact rfl;split;exact rfl;split<;>exact rfl;split;exact rfl;exact Z7;split;exact rfl;refine ALT λg=> ?_;split;exact rfl;split;exact rfl;exact ALW rfl;split;exact rfl;refine ALT λg=> ?_;split;exact rfl;split;exact rfl;exact ALW rfl;split;exact rfl;split;exact rfl;split;exact rfl;split<;>exact rfl;split;exact rfl;refine Z8 λ_ _=> ?_;split;exact ALV;exact rfl;split;exact rfl;split<;>exact rfl;split;exact rfl;split<;>exact rfl;split;exact rfl;split;exact rfl;show(if _ then _ else k.e).done=k.e.done;split<;>exact rfl;split;exact rfl;split;exact rfl;show(if _ then _ else k.e).done=k.e.done;split<;>exact rfl;split;exact rfl;exact Z7;split;exact rfl;refine Z8 λg _=> ?_;split<;>exact rfl;exact rfl
theorem AQX{c b o a l k}(h:k.e.done=fF):(CO c b o a l k).1.e.done=fF:=AQY.trans h
theorem ADT(k v)(b:Bool)(d:k.e.done=fF)(h:(E7 k v b).e.done):(E7 k v b).t.AI=[]:=by
 rw[E7]at h⊢;dsimp only at h⊢;split at h
 grind
 rename_i a;rw[AY a];show k.t.AI=[];by_cases c:0<lN k.t.AI;exfalso;apply a;show(if 0<lN k.t.AI then 2 else if b then 4 else 3)≠3/\(if 0<lN k.t.AI then 2 else if b then 4 else 3)≠4;rw[Ac c];decide
 grind
theorem AaR(k c)(b:Int)(a:Nat)(d:k.e.done=fF)(h:(EH k c b a).e.done):(EH k c b a).t.AI=[]:=by grind[EH,ADT]
theorem AC7{im t s AD}(h:(C6 im t s AD).e.done):(C6 im t s AD).t.AI=[]:=by
 rw[C6]at h⊢;split;rename_i q;rw[Ac q]at h;cases h;rename_i q;rw[AY q]at h
 grind[Gt,CV,A8,Ct,BP,D4,FR,CO,ADT,AQX,AaR]
theorem Aa7{k}(N:IQ k.im)(hM:∀a b,M a->M (a&&&b))(h:KK m M k){H t}(j:Af k.AC H=sM t)(G:fl t.g.Ad m=fF)(Q:∀x∈(C6 k.im t k.Ah k.AD).e.Bo,Hr m x.AR)
 (U:lN (C6 k.im t k.Ah k.AD).e.BY<=1) (z:lN (C6 k.im t k.Ah k.AD).e.BU<=1):
 VE m k.AC (runK k H).1.AC k.Ah (runK k H).1.Ah/\D9 (runK k H).1 m=D9 k m:=by
 have hid:=E2 j;subst hid;unfold runK;rw[j];dsimp only;split;exact⟨.refl _ _,rfl⟩;rename_i B;have B:t.Aw=0:=oG;have d:=Tl N hM (AD:=k.AD) h.ki j B Q;have i:=ASg (im:=k.im) (AD:=k.AD) h.ki j G;have P:=AEF (im:=k.im) (t:=t) (AD:=k.AD) h.kq;have K:=AC7 (im:=k.im) (t:=t) (s:=k.Ah) (AD:=k.AD);have hnew:∀u∈(C6 k.im t k.Ah k.AD).e.BU,Af k.AC u.id=nO:=λu p=>by
  rcases (AC8 (im:=k.im) (s:=k.Ah) (AD:=k.AD) B λv hv=>((h.ki.of j).FL.st v hv).Cj) with Y|⟨x,Y,l⟩
  grind
  rw[Y]at p;rw[A9.1 p,l];cases e:Af k.AC (t.Bg++[t.A7])with
  |none=>rfl
  |some y=>
   exfalso;have g:=E2 e;exact h.ki.FQ t (D2 j) (t.Bg,t.A7) (by grind[Fu]) t.A7 (Ag _) y.id (.inr ⟨y,D2 e,DT⟩) gR
 generalize C6 k.im t k.Ah k.AD=r at*;have X:VE m k.AC (A1 k.AC r.t) k.Ah r.s:=⟨λq=>U4 j d.id (d.AJq G) q,i.B0⟩;have R:∀u∈r.e.BU,u.id≠t.id:=by grind
 have I:VE m k.AC (r.e.BU.foldl CC<|A1 k.AC r.t) k.Ah r.s:=by
  rcases Ii z with e|⟨u,e⟩;rw[e];exact X;have p:u∈r.e.BU:=by rw[e];exact DT
  let⟨q1,q2⟩:=i.BU u p;rw[e];refine⟨λq=> ?_,X.st⟩;show Cr m (CC (A1 k.AC r.t) u) q=_;rw[AJY (by rw[Sr<|by rw[d.id];exact R u p];exact hnew u p) q1 q2,X.th]
 have Z:VE m k.AC (r.e.BY.foldl Gi<|r.e.BU.foldl CC<|A1 k.AC r.t) k.Ah r.s:=by
  rcases Ii U with e|⟨w,e⟩;rw[e];exact I;have V:w∈r.e.BY:=by rw[e];exact DT
  rw[e];refine⟨λq=> ?_,I.st⟩;show Cr m (Gi (r.e.BU.foldl CC<|A1 k.AC r.t) w) q=_;unfold Gi;split;rename_i y g;have F:=E2 g;have T:C4 (DX y w.2) m=C4 y m:=by
   by_cases J:w.1=t.id
   ·
    have W:y=r.t:=by
     have:Af (r.e.BU.foldl CC<|A1 k.AC r.t) w.1=sM r.t:=by
      have h1:Af (A1 k.AC r.t) w.1=sM r.t:=by rw[J,<-d.id];exact RD j d.id
      rcases Ii z with e|⟨u,e⟩;rw[e];exact h1
      grind[Mp]
     rw[g]at this;exact FX this
    subst W;have hl:lN t.AI<=lN r.t.AI:=by have:=Dt List.length d.EI;rw[Cu]at this;omega
    refine Sy hl (d.hid G) (λx l=> ?_) _;rw[d.EI]at l;have G:=Vh (h.ki.of j) x l;have:=Dt (λc:Ay=>lN c.stack)<|d.cut x l
    grind[Dp,Ee]
   have n:(∃u∈r.e.BU,y=u)\/Af k.AC w.1=sM y:=by
    rcases Ii z with e|⟨u,e⟩;rw[e]at g;have g:Af (A1 k.AC r.t) w.1=sM y:=g;rw[Sr<|by rw[d.id];exact J]at g;exact .inr g;rw[e]at g;have g:Af (CC (A1 k.AC r.t) u) w.1=sM y:=g;rw[Mp]at g;split at g
    grind
    rw[Sr<|by rw[d.id];exact J]at g;exact .inr g
   rcases n with⟨u,p,e2⟩|n;subst e2;let⟨q1,q2⟩:=i.BU y p;simp_all[Cx,EF,Sy,Bm];exact Sy (Ag _) (by unfold Cx;rw[Ik];exact i.BY w V y n) (λx l=>Vh (h.ki.of n) x<|Fg l) _
  rw[U4 (t:=y) (u:=DX y w.2) (by rw[F];exact g) rfl T,I.th];exact I.th q
 have O:KK m M {k with Ah:=r.s,AC:=r.e.BY.foldl Gi<|r.e.BU.foldl CC<|A1 k.AC r.t,Bj:=k.Bj++r.e.out.map λx:AT×AW=>(⟨k.AD,t.id,x.1,x.2⟩:FU),B5:=k.B5++r.e.Bo.map λx:Gr=>(⟨k.AD,t.id,x⟩:Lk)}:=⟨d.ki,P⟩;have D:(k.Bj++r.e.out.map λx:AT×AW=>(⟨k.AD,t.id,x.1,x.2⟩:FU)).filter (λf=>fl f.l m)=k.Bj.filter λf=>fl f.l m:=by
  rw[VK];have:(r.e.out.map λx:AT×AW=>(⟨k.AD,t.id,x.1,x.2⟩:FU)).filter (λf=>fl f.l m)=[]:=by rw[AGT];intro f hf;let⟨x,l,e⟩:=BI.1 hf;subst e;have:=i.out x l;simp[this]
  rw[this,Hn]
 rw[Oz];split;rename_i hd;refine⟨Z.trans<|V3 _ _ O λo S h6=> ?_,?_⟩;have E:=K hd;have E:t.AI=[]:=by have:=d.EI;rw[E]at this;simpa using this.symm
 cases e:fl o.l m with
 |false=>rfl
 |true=>
  have S:Am r.s t.id=sM o:=S;have:=Yg h.ki (D2 j) (by grind[EF]) (i.B0.symm.some_ S e) h6
  grind
 grind[D9,Kp]
 exact⟨Z,D⟩
variable{A S:Nat}
def WN(AC:AA AL)(k:Call)(r:CR):Prop:=r.1.e.BY=k.e.BY\/∃w t,r.1.e.BY=k.e.BY++[w]/\Af AC w.1=sM t
def AOn{l f}(a:∀g,WN AC k<|f<|k.Bp g):WN AC k (G1 k l f):=by rw[G1];split;exact .inl rfl;exact a _
def AOm{l f}(a:∀g,WN AC k<|f<|k.Bp g):WN AC k (Ga k l f):=by rw[Ga];split;exact .inl rfl;exact a _
def ABH{o}:WN AC k (Fv k o):=by rw[Fv];split;exact .inl rfl;split<;>exact .inl rfl
def ABI{x f}(a:∀g o,WN AC k<|f (k.Bp g) o):WN AC k (Ff k x f):=by refine AOn λg=> ?_;split;exact .inl rfl;exact a _ _
def AOo{g o}:WN AC k (Ej (k.Bp g) o):=by rw[Ej];split<;>exact .inl rfl
def AOp{c a l x}(h:c.e.BY=k.e.BY)(hid:a=[]\/∃t,Af AC a=sM t):WN AC k (EO c a l,x):=by rw[EO];split;exact .inl h;rename_i b;rcases hid with q|⟨t,d⟩;exact(b q).elim;exact .inr ⟨(a,l),t,by show c.e.BY++_=_;rw[h],d⟩
def AQb{im AD o AR l}(f:∀n o,Am k.s n=sM o->∀w∈o.var.q,∃t,Af AC w.id=sM t):WN AC k (CO im AD o AR l k):=by
 rw[CO];dsimp only;split;exact .inl rfl;exact .inl rfl;split;exact .inl rfl;exact AOn λ_=>.inl rfl;split;exact .inl rfl;split<;>exact .inl rfl;split;exact .inl rfl;exact ABH;split;exact .inl rfl;exact ABI λ_ _=>AOo;split;exact .inl rfl;exact ABH;split;exact .inl rfl;exact ABI λ_ _=>.inl rfl;split;exact .inl rfl;split;exact .inl rfl;split<;>exact .inl rfl;split;exact .inl rfl;exact ABH;split;exact .inl rfl;refine AOm λg=> ?_;split;exact .inl rfl;rename_i b a;split;exact .inl rfl;refine AOp rfl ?_;rcases AFe (x:=b.var) (id:=k.t.id)with e|⟨w,d,e⟩;exact .inl e;let⟨t,c⟩:=f _ b (HV a).1 w d;exact .inr ⟨t,by rw[<-c,e];rfl⟩;split;exact .inl rfl;refine AOm λg=> ?_;split;exact .inl rfl;rename_i b a;split;exact .inl rfl;refine AOp rfl ?_;rcases AFB (x:=b.var) (id:=k.t.id) (v:=l.getD 1 AZ)with e|⟨w,d,e⟩;exact .inl e;let⟨t,c⟩:=f _ b (HV a).1 w d;exact .inr ⟨t,by rw[<-c,e];rfl⟩;split;exact .inl rfl;split;exact .inl rfl;split;exact .inl rfl;split<;>exact .inl rfl;split;exact .inl rfl;refine ABI λ_ _=> ?_;split;exact AOo;exact .inl rfl;split;exact .inl rfl;split<;>exact .inl rfl;split;exact .inl rfl;split<;>exact .inl rfl;split;exact .inl rfl;split;exact .inl rfl;left;show(if _ then _ else k.e).BY=k.e.BY;split<;>rfl;split;exact .inl rfl;split;exact .inl rfl;left;show(if _ then _ else k.e).BY=k.e.BY;split<;>rfl;split;exact .inl rfl;exact ABH;split;exact .inl rfl;refine ABI λg _=> ?_;split<;>exact .inl rfl;exact .inl rfl
def ASj{im t s AD}(i:∀n o,Am s n=sM o->∀w∈o.var.q,∃t,Af AC w.id=sM t):∀w∈(C6 im t s AD).e.BY,∃t',Af AC w.1=sM t':=by
 rw[C6];split;intro w a;cases a;dsimp only;split;intro w a;cases a;intro w a;rw[(MW _ _ _).2.2]at a;cases a;intro w a;rw[(MW _ _ _).2.2]at a;cases a;rename_i o p;show∀w∈(Gt im AD (CV t).2 o ⟨s,t,A8⟩).e.BY,∃t',Af AC w.1=sM t';rw[Gt];dsimp only;have h:=AQb (AC:=AC) (im:=im) (AD:=AD) (o:=o) (AR:=(t.c.top.getD Al).AR) (l:=Ct t.c<|BP o.code) (k:=⟨s,{t with c:=D4 (FR t.c<|BP o.code) λf=>{f with pc:=f.pc+1}},A8⟩) i;have g:∀e:Eff,(e.BY=A8.BY\/∃w t,e.BY=A8.BY++[w]/\Af AC w.1=sM t)->∀w∈e.BY,∃t',Af AC w.1=sM t':=λe d w a=>by
  rcases d with d|⟨m,t',d,j⟩;rw[d]at a;cases a;rw[d]at a;have:w=m:=by simpa[A8]using a
  exact⟨t',by rwa[this]⟩
 generalize CO im AD o _ _ _=r at h;obtain⟨l,_|b⟩:=r;exact g _ h;show∀w∈(EH l _ b _).e.BY,_;rw[(Q7 _ _ _ _).2.2];exact g _ h
def AOg:∀(l:AA<|Nm×AA AW)(AC:AA AL),(l.foldl Gi AC).map (·.id)=AC.map (·.id)
 |[],_=>rfl
 |w::l,AC=>by rw[Xq,AOg l];rw[Gi];split;rw[A1];rw[Gk];apply JD;intro x _;show(if x.id==_ then _ else x).id=x.id;split;rename_i e;exact(eq_of_beq e).symm;rfl;rfl
def Fb(k:Ap)(a:Nm)(r:Call):Ap:={k with Ah:=r.s,AC:=r.e.BY.foldl Gi<|r.e.BU.foldl CC<|A1 k.AC r.t,Bj:=k.Bj++r.e.out.map λx:AT×AW=>(⟨k.AD,a,x.1,x.2⟩:FU),B5:=k.B5++r.e.Bo.map λx:Gr=>(⟨k.AD,a,x⟩:Lk)}
def run_eq{k a t}(c:Af k.AC a=sM t)(b:t.Aw=0):runK k a=(if(C6 k.im t k.Ah k.AD).e.done then GD (lN (Fb k a<|C6 k.im t k.Ah k.AD).AC+1) (Fb k a<|C6 k.im t k.Ah k.AD) a else Fb k a<|C6 k.im t k.Ah k.AD,tT):=by rw[runK];rw[c];dsimp only;rw[AY oG,Oz];rfl
def AEf{k m M}(d:IQ k.im)(f:∀a b,M a->M (a&&&b))(h:KK m M k){t}(g:Af k.AC t.id=sM t)(e:t.Aw=0)(c:∀x∈(C6 k.im t k.Ah k.AD).e.Bo,Hr m x.AR):KK m M (Fb k t.id<|C6 k.im t k.Ah k.AD):=
 ⟨(Tl d f (AD:=k.AD) h.ki g e c).ki,AEF (im:=k.im) (t:=t) (AD:=k.AD) h.kq⟩
def AYU{k m M}(c:Ie k.im)(o:20<=A)(h:BK A S k.AC k.Ah)(l:KK m M k){t}(j:Af k.AC t.id=sM t)(d:t.Aw=0):
 BL (A+2) (S+1) (C6 k.im t k.Ah k.AD)/\BE (C6 k.im t k.Ah k.AD).e/\BK (A+4) (S+1) (Fb k t.id<|C6 k.im t k.Ah k.AD).AC (Fb k t.id<|C6 k.im t k.Ah k.AD).Ah:=by
 let⟨b,a⟩:=AC6 (im:=k.im) (AD:=k.AD) c (h.ts t<|D2 j) d h.os h.sl λv n=>((l.ki.of j).FL.st v n).Cj;refine⟨b,a,?_⟩;generalize C6 k.im t k.Ah k.AD=r at b a⊢;have g:BK (A+2) (S+1) (A1 k.AC r.t) r.s:=⟨((h.mono (B:=A+2) oG<|Ag _).put b.t).ts,b.o,by rw[Q6];have:=h.tl;omega,b.s⟩;have i:BK (A+3) (S+1) (r.e.BU.foldl CC<|A1 k.AC r.t) r.s:=by rcases Ii a.fk.1 with e|⟨u,e⟩;rw[e];exact g.mono oG<|Ag _;have:=a.fk.2 u (by rw[e];exact DT);rw[e];exact g.BU<|this.mono oG
 show BK (A+4) (S+1) (r.e.BY.foldl Gi<|r.e.BU.foldl CC<|A1 k.AC r.t) r.s;rcases Ii a.wk.1 with e|⟨u,e⟩;rw[e];exact i.mono oG<|Ag _;have:=a.wk.2 u (by rw[e];exact DT);rw[e];exact AOe i u this
def Px(b:A6)(a:Ev)(o:Op):Bool:=
 match Cf o.code with
 |1=>decide<|o.a<lN b.DN
 |2=>decide<|o.a<a.args+a.Ai
 |3=>decide<|o.a<lN a.code
 |4=>decide (o.a<lN b.Ax)&&((o.code !=38&&o.code !=40&&o.code !=45)||(b.Ax.getD o.a Al).args==1)
 |5=>decide<|o.a<=63
 |_=>tT
def MH(b:A6)(a:Nat->AU (Nat×Nat))(i:Nat)(o:Op)(d t:Nat):Prop:=
 CU b o<=d/\d-CU b o+D5 o.code<=31/\d<=31/\t<=15/\
 (
  if o.code=18\/o.code=19 then True
  else if o.code=15 then a o.a=sM (d,t)
  else if o.code=16 then a o.a=sM (d-1,t)/\a (i+1)=sM (d-1,t)
  else if o.code=20 then a (i+1)=sM (d,t+1)/\a o.a=sM (d+1,t)
  else if o.code=21 then 0<t/\a (i+1)=sM (d,t-1)
  else a (i+1)=sM (d-CU b o+D5 o.code,t))
instance (a:A6)(b:Nat->AU (Nat×Nat))(i:Nat)(o:Op)(d t:Nat):Decidable (MH a b i o d t):=by rw[MH];infer_instance
structure Ng(im:A6)(fn:Ev)(S:AA (Nat×Nat)):Prop where
 len:lN S=lN fn.code
 hd:S[0]? =sM (0,0)
 op:∀o∈fn.code,IY o/\Px im fn o
 at_:∀i o d t,fn.code[i]? =sM o->S[i]? =sM (d,t)->MH im (λj=>S[j]?) i o d t
def Fw(S:AA<|Nat×Nat)(a e:Nat)(j:Nat):AU (Nat×Nat):=if a<=j then(S++[(0,e)])[j-a]? else nO
structure Seg(im:A6)(off e:Nat)(C:AA Op)(S:AA (Nat×Nat)):Prop where
 len:lN S=lN C
 at_:∀i o d t,C[i]? =sM o->S[i]? =sM (d,t)->MH im (Fw S off e) (off+i) o d t
theorem MH.mono{f c e i j o d t}(h:MH f c i o d t)(a:∀s,c (i+1)=sM s->e (j+1)=sM s)(b:∀s,c o.a=sM s->e o.a=sM s):MH f e j o d t:=by rw[MH]at h⊢;refine⟨h.1,h.2.1,h.2.2.1,h.2.2.2.1,?_⟩;have h:=h.2.2.2.2;split at h;rename_i q;rw[Ac q];trivial;rename_i q1;rw[AY q1];split at h;rename_i q;rw[Ac q];exact b _ h;rename_i q2;rw[AY q2];split at h;rename_i q;rw[Ac q];exact⟨b _ h.1,a _ h.2⟩;rename_i q3;rw[AY q3];split at h;rename_i q;rw[Ac q];exact⟨a _ h.1,b _ h.2⟩;rename_i q4;rw[AY q4];split at h;rename_i q;rw[Ac q];exact⟨h.1,a _ h.2⟩;rename_i q5;rw[AY q5];exact a _ h
theorem Seg.nil(b a e):Seg b a e [] []:=⟨rfl,λi o d t h=>by simp at h⟩
def Seg.app{im off e a k c f}(h1:Seg im off 0 a c)(m:Seg im (off+lN a) e k f)(hd:f[0]? =sM (0,0)\/(f=[]/\e=0)):Seg im off e (a++k) (c++f) where
 len:=by rw[CK,CK,h1.len,m.len]
 at_ i o d t hi hs:=by
  have p:=h1.len;have g:∀j s,Fw c off 0 j=sM s->Fw (c++f) off e j=sM s:=λj s hj=>by
   rw[Fw]at hj⊢;split at hj;rename_i hle;rw[Ac hle];by_cases b:j-off<lN c;rw[Gj b]at hj;rwa[Eb,Gj b];by_cases he:j-off=lN c;rw[he,GA (Ag _),RU]at hj;cases hj;rw[he,Eb,GA (Ag _),RU];rcases hd with hd|⟨hd,n⟩;cases f with
   |nil=>cases hd
   |cons x l=>exact hd
   rw[hd,n];rfl;rw[Jh (by rw[CK];simp;omega)]at hj;cases hj;cases hj
  by_cases b:i<lN a;rw[Gj b]at hi;rw[Gj oG]at hs;exact(h1.at_ i o d t hi hs).mono (g _) (g _);rw[GA oG]at hi;rw[GA oG]at hs;have:=m.at_ (i-lN a) o d t hi (by rwa[<-p]);have h:∀j s,Fw f (off+lN a) e j=sM s->Fw (c++f) off e j=sM s:=λj s hj=>by rw[Fw]at hj⊢;split at hj;rename_i hle;rwa[Ac oG,Eb,GA oG,show j-off-lN c=j-(off+lN a) by omega];cases hj
  have e:off+lN a+(i-lN a)=off+i:=oG;rw[e]at this;exact this.mono (h _) (h _)
def Ng.of{im fn P E S T}(hC:fn.code=P++E)(h1:Seg im 0 0 P S)(g:∀i o d t,E[i]? =sM o->T[i]? =sM (d,t)->MH im (λj=>if lN P<=j then T[j-lN P]? else nO) (lN P+i) o d t)(hl:lN T=lN E)(hd:T[0]? =sM (0,0))(e:S[0]? =sM (0,0)\/S=[])
 (h:∀o∈fn.code,IY o/\Px im fn o):Ng im fn (S++T) where
 len:=by rw[hC,CK,CK,h1.len,hl]
 hd:=by
  rcases e with e|e;cases S with
  |nil=>cases e
  |cons x l=>exact e
  rwa[e]
 op:=h
 at_ i o d t hi hs:=by
  have f:=h1.len;rw[hC]at hi;by_cases c:i<lN P;rw[Gj c]at hi;rw[Gj oG]at hs;have a:∀j s,Fw S 0 0 j=sM s->(S++T)[j]? =sM s:=λj s hj=>by rw[Fw]at hj;rw[Ac<|Bm _,Nat.sub_zero]at hj;by_cases c:j<lN S;rw[Gj c]at hj⊢;exact hj;by_cases he:j=lN S;rw[he,GA<|Ag _,RU]at hj;cases hj;rwa[he,GA<|Ag _,RU];rw[Jh<|by rw[CK];simp;omega]at hj;cases hj
  have:=h1.at_ i o d t hi hs;rw[FE]at this;exact this.mono (a _)<|a _;rw[GA oG]at hi;rw[GA oG]at hs;have:=g (i-lN P) o d t hi (by rwa[<-f]);rw[show lN P+(i-lN P)=i by omega]at this;have b:∀j s,(if lN P<=j then T[j-lN P]? else nO)=sM s->(S++T)[j]? =sM s:=λj s hj=>by split at hj;rwa[GA oG,f];cases hj
  exact this.mono (b _)<|b _
def Q5(c:Nat):Bool:=decide (1<=c)&&decide (c<=47)&& !([15,16,18,19,20,21].contains c)
def Mi(o:Op):Nat:=if o.code=17 then 1 else BP o.code
def Oi(o:Op):Bool:=
 match Cf o.code with
 |0=>o.a==0
 |1=>decide<|o.a<16
 |2=>decide<|o.a<8
 |4=>decide<|o.a<3
 |5=>decide<|o.a<=63
 |_=>fF
def Fh:Nat->AA Op->Bool
 |d,[]=>d==0
 |d,[o]=>(o==⟨19,0⟩&&d==1)||(Q5 o.code&&Oi o&&decide (Mi o<=d)&&d-Mi o+D5 o.code==0&&decide (d<=9))
 |d,o::p::l=>Q5 o.code&&Oi o&&decide (Mi o<=d)&&decide (d<=9)&&decide (d-Mi o+D5 o.code<=9)&&Fh (d-Mi o+D5 o.code) (p::l)
def Hy(t:Nat):Nat->AA Op->AA (Nat×Nat)
 |_,[]=>[]
 |d,o::l=>(d,t)::Hy t (d-Mi o+D5 o.code) l
theorem IJ(t):∀(d:Nat)(l:AA Op),lN (Hy t d l)=lN l
 |_,[]=>rfl
 |d,o::l=>Dt Nat.succ<|IJ t _ l
structure Nh(im:A6):Prop where
 len:lN im.Ax=3
 args:∀i,i<3->(im.Ax.getD i Al).args=1
 cs:lN im.DN=16
theorem AML{b}(h:Nh b){o}(a:Oi o):CU b o=Mi o:=by
 rw[CU,Mi];by_cases e:o.code=17;rw[Ac e,Ac e,e];have:o.a<3:=by rw[Oi]at a;rw[e]at a;have a:decide (o.a<3):=a;simpa using a
 rw[h.args _ this];rfl
 grind
theorem AMJ{c}(h:Q5 c): ¬(c=18\/c=19)/\c≠15/\c≠16/\c≠20/\c≠21:=by grind[Q5]
def R2(l:AA Op):Bool:=(l.getLast?.getD Al).code==19
theorem Yt(t d){l}(h:l≠[]):(Hy t d l)[0]? =sM (d,t):=by
 cases l with
 |nil=>exact(h rfl).elim
 |cons o l=>rfl
theorem NH{k}(c:Nh k){t}(g:t<=15):∀(l:AA Op)(d a:Nat) {nx:Nat->AU (Nat×Nat)},Fh d l->(∀i s,(Hy t d l)[i]? =sM s->nx (a+i)=sM s)->(R2 l=fF->nx (a+lN l)=sM (0,t))->∀i o b f,l[i]? =sM o->(Hy t d l)[i]? =sM (b,f)->MH k nx (a+i) o b f
 |[],_,_,_,_,_,_,i,o,_,_,hi,_=>by simp at hi
 |[o],d,a,nx,hl,hn,he,i,o',b,f,hi,hs=>by
  cases i with
  |succ i=>simp at hi
  |zero=>
   cases hi;cases hs;rw[Fh]at hl;simp[KG,CJ,GP,ER]at hl;rcases hl with⟨e,m⟩|⟨⟨⟨⟨h,p2⟩,p3⟩,p4⟩,p5⟩;subst e;subst m;exact⟨by constructor<;>grind,by show 1-1+0<=31;decide,dC,g,by simp⟩;let⟨q1,q2,q3,q4,q5⟩:=AMJ h;have hE:R2 [o]=fF:=by rw[R2];show(o.code==19)=fF;simp;omega
   rw[MH]
   grind[AML]
 |o::p::l,d,a,nx,hl,hn,he,i,o',b,f,hi,hs=>by
  rw[Fh]at hl;simp[CJ,ER]at hl;let⟨⟨⟨⟨⟨h,p2⟩,p3⟩,p4⟩,p5⟩,p6⟩:=hl;cases i with
  |zero=>
   cases hi;cases hs;let⟨q1,q2,q3,q4,q5⟩:=AMJ h;rw[MH];rw[AML c p2,AY q1,AY q2,AY q3,AY q4,AY q5];refine⟨p3,oG,oG,g,?_⟩;exact hn 1 _ rfl
  |succ i=>
   have:=NH c g (p::l) (d-Mi o+D5 o.code) (a+1) (nx:=nx) p6 (λj s n=>by
    have:=hn (j+1) s n
    grind) (λhE=>by
    have:=he hE
    grind) i o' b f hi hs
   grind
def Rc(a:Nat)(o:Op):Prop:=(Q5 o.code/\Oi o)\/o=⟨19,0⟩\/o=⟨21,0⟩\/((o.code=15\/o.code=16\/o.code=20)/\o.a<=a)
theorem Rc.mono{a b o}(h:Rc a o)(k:a<=b):Rc b o:=by rcases h with h|h|h|h;exact .inl h;exact .inr<|.inl h;exact .inr<|.inr<|.inl h;exact .inr<|.inr<|.inr ⟨h.1,Ch h.2 k⟩
theorem Wj(b):∀(l:AA Op)(d:Nat),Fh d l->∀o∈l,Rc b o
 |[],_,_,o,a=>by cases a
 |[o],d,hl,o',a=>by rw[A9.1 a];rw[Fh]at hl;simp[KG,CJ,GP,ER]at hl;rcases hl with⟨e,f⟩|⟨⟨⟨⟨c,p2⟩,p3⟩,p4⟩,p5⟩;exact .inr<|.inl e;exact .inl ⟨c,p2⟩
 |o::p::l,d,hl,o',a=>by rw[Fh]at hl;simp[CJ,ER]at hl;let⟨⟨⟨⟨⟨c,p2⟩,p3⟩,p4⟩,p5⟩,p6⟩:=hl;rcases Co.1 a with e|a;constructor<;>grind;exact Wj b (p::l) _ p6 o' a
theorem Q1(S a e i):Fw S a e (a+i)=(S++[(0,e)])[i]? :=by grind[Fw]
structure Part(im:A6)(off:Nat)(P:AA Op):Prop where
 Ot:∃S,Seg im off 0 P S/\S[0]? =sM (0,0)
 Aj:∀o∈P,Rc (off+lN P) o
 len:lN P<=10
theorem AZk{im}(a:Nh im){off D}(h:Fh 0 D)(b:D≠[])(hl:lN D<=6):Part im off D where
 Ot:=⟨Hy 0 0 D,⟨IJ _ _ _,NH a dC D 0 off h ((by grind[Q1]))<|(by simp_all[Q1,IJ,GA,Ag,RU])⟩,Yt _ _ b⟩
 Aj:=Wj _ D 0 h
 len:=oG
theorem AZj{im}(b:Nh im){off D}(h:Fh 0 D)(e:D≠[])(hl:lN D<=6):Part im off ([⟨2,1⟩,⟨16,off+2+lN D⟩]++D) where
 Ot:=by
  have c:∀i,Fw ([(0,0),(1,0)]++Hy 0 0 D) off 0 (off+(2+i))=(Hy 0 0 D++[(0,0)])[i]? :=λi=>by rw[Q1,List.append_assoc,List.getElem?_append_right sP,show 2+i-lN [(0,0),(1,0)]=i by simp]
  have hend:Fw ([(0,0),(1,0)]++Hy 0 0 D) off 0 (off+(2+lN D))=sM (0,0):=by rw[c,<-IJ 0 0 D,List.getElem?_append_right<|Nat.le_refl _,Nat.sub_self];rfl
  refine⟨[(0,0),(1,0)]++Hy 0 0 D,⟨by simp[IJ],λi o d t hi hs=> ?_⟩,rfl⟩
  match i with
  |0=>
   cases hi;cases hs;exact⟨by show 0<=0;decide,by show 0-0+1<=31;decide,dC,dC,by show Fw _ _ _ (off+1)=sM (0-0+1,0);rw[Q1];rfl⟩
  |1=>
   cases hi;cases hs;refine⟨by show 1<=1;decide,by show 1-1+0<=31;decide,dC,dC,?_⟩
   grind[Fw,List.getElem?_append_left,IJ,List.length_pos_iff,Yt]
  |i+2=>
   have:=NH b (t:=0) dC D 0 (off+2) (nx:=Fw ([(0,0),(1,0)]++Hy 0 0 D) off 0) h (gR) (gR) i o d t hi hs
   grind
 Aj:=λo a=>by
  rcases List.mem_append.1 a with a|a;simp at a;rcases a with rfl|rfl;exact .inl ⟨rfl,rfl⟩;exact .inr<|.inr<|.inr ⟨.inr<|.inl rfl,by show off+2+lN D<=off+([(⟨2,1⟩:Op),⟨16,off+2+lN D⟩]++D).length;simp;omega⟩
  grind[Wj]
 len:=sO
theorem AZn{im}(c:Nh im){off D}(h:Fh 0 D)(g:D≠[])(hl:lN D<=6)(hE:R2 D=fF):Part im off ([⟨20,off+lN D+3⟩]++D++[⟨21,0⟩,⟨15,off+lN D+4⟩,⟨3,1⟩]) where
 Ot:=by
  have f:∀i,i<lN D->Fw ([(0,0)]++Hy 1 0 D++[(0,1),(0,0),(1,0)]) off 0 (off+(1+i))=(Hy 1 0 D)[i]? :=λi hi=>by rw[Q1,List.append_assoc,List.append_assoc,List.getElem?_append_right sP,List.getElem?_append_left<|by rw[IJ];simp;omega];simp
  have a:∀i,Fw ([(0,0)]++Hy 1 0 D++[(0,1),(0,0),(1,0)]) off 0 (off+(1+lN D+i))=([(0,1),(0,0),(1,0),(0,0)]:List<|Nat×Nat)[i]? :=λi=>by rw[Q1,List.append_assoc,List.append_assoc,List.getElem?_append_right sO,List.getElem?_append_right<|by rw[IJ];simp;omega,IJ];congr 1;simp;omega
  refine⟨[(0,0)]++Hy 1 0 D++[(0,1),(0,0),(1,0)],⟨by simp[IJ],λi o d t hi hs=> ?_⟩,rfl⟩;by_cases h0:i=0;subst h0;cases hi;cases hs;refine⟨by show 0<=0;decide,by show 0-0+0<=31;decide,dC,dC,?_⟩;show Fw _ _ _ (off+0+1)=sM (0,0+1)/\Fw _ _ _ (off+lN D+3)=sM (0+1,0);refine⟨?_,?_⟩
  grind[List.length_pos_iff,Yt]
  rw[show off+lN D+3=off+(1+lN D+2) by omega,a];rfl;by_cases e:i<1+lN D;rw[List.append_assoc,List.getElem?_append_right sO,List.getElem?_append_left sO]at hi;rw[List.append_assoc,List.getElem?_append_right sO,List.getElem?_append_left<|by rw[IJ];simp;omega]at hs;have:=NH c (t:=1) dC D 0 (off+1) (nx:=Fw ([(0,0)]++Hy 1 0 D++[(0,1),(0,0),(1,0)]) off 0) h ((by grind[IJ])) (λ_=>by rw[show off+1+lN D=off+(1+lN D+0) by omega,a];rfl) (i-1) o d t hi hs
  grind
  obtain⟨j,rfl⟩:∃j,i=1+lN D+j:=⟨i-(1+lN D),oG⟩;rw[List.getElem?_append_right sO,show 1+lN D+j-([(⟨20,off+lN D+3⟩:Op)]++D).length=j by simp;omega]at hi;rw[List.getElem?_append_right<|by rw[List.length_append,IJ];simp<;>omega,show 1+lN D+j-lN ([((0:Nat),(0:Nat))]++Hy 1 0 D)=j by rw[List.length_append,IJ];simp<;>omega]at hs
  match j with
  |0=>
   cases hi;cases hs;refine⟨by show 0<=0;decide,by show 0-0+0<=31;decide,dC,dC,?_⟩;show 0<1/\Fw _ _ _ (off+(1+lN D+0)+1)=sM (0,1-1);refine⟨dC,?_⟩;rw[show off+(1+lN D+0)+1=off+(1+lN D+1) by omega,a];rfl
  |1=>
   cases hi;cases hs;refine⟨by show 0<=0;decide,by show 0-0+0<=31;decide,dC,dC,?_⟩;show Fw _ _ _ (off+lN D+4)=sM (0,0);rw[show off+lN D+4=off+(1+lN D+3) by omega,a];rfl
  |2=>
   cases hi;cases hs;refine⟨by show 1<=1;decide,by show 1-1+0<=31;decide,dC,dC,?_⟩;show Fw _ _ _ (off+(1+lN D+2)+1)=sM (1-1+0,0);rw[show off+(1+lN D+2)+1=off+(1+lN D+3) by omega,a];rfl
  |j+3=>simp at hi
 Aj:=λo b=>by
  rcases List.mem_append.1 b with b|b;rcases List.mem_append.1 b with b|b;rw[List.mem_singleton.1 b];exact .inr<|.inr<|.inr ⟨.inr<|.inr rfl,by show off+lN D+3<=off+_;simp;omega⟩
  grind[Wj]
  simp at b;rcases b with rfl|rfl|rfl;exact .inr<|.inr<|.inl rfl;exact .inr<|.inr<|.inr ⟨.inl rfl,by show off+lN D+4<=off+_;simp;omega⟩;exact .inl ⟨rfl,rfl⟩
 len:=sO
theorem AZm{im}(c:Nh im){off D}(h:Fh 0 D)(g:D≠[])(hl:lN D<=6)(hE:R2 D):Part im off ([⟨20,off+lN D+1⟩]++D++[⟨3,1⟩]) where
 Ot:=by
  have f:∀i,i<lN D->Fw ([(0,0)]++Hy 1 0 D++[(1,0)]) off 0 (off+(1+i))=(Hy 1 0 D)[i]? :=λi hi=>by rw[Q1,List.append_assoc,List.append_assoc,List.getElem?_append_right sP,List.getElem?_append_left<|by rw[IJ];simp;omega];simp
  have b:∀i,Fw ([(0,0)]++Hy 1 0 D++[(1,0)]) off 0 (off+(1+lN D+i))=([(1,0),(0,0)]:List<|Nat×Nat)[i]? :=λi=>by rw[Q1,List.append_assoc,List.append_assoc,List.getElem?_append_right sO,List.getElem?_append_right<|by rw[IJ];simp;omega,IJ];congr 1;simp;omega
  refine⟨[(0,0)]++Hy 1 0 D++[(1,0)],⟨by simp[IJ],λi o d t hi hs=> ?_⟩,rfl⟩;by_cases h0:i=0;subst h0;cases hi;cases hs;refine⟨by show 0<=0;decide,by show 0-0+0<=31;decide,dC,dC,?_⟩;show Fw _ _ _ (off+0+1)=sM (0,0+1)/\Fw _ _ _ (off+lN D+1)=sM (0+1,0);refine⟨?_,?_⟩
  grind[List.length_pos_iff,Yt]
  rw[show off+lN D+1=off+(1+lN D+0) by omega,b];rfl;by_cases e:i<1+lN D;rw[List.append_assoc,List.getElem?_append_right sO,List.getElem?_append_left sO]at hi;rw[List.append_assoc,List.getElem?_append_right sO,List.getElem?_append_left<|by rw[IJ];simp;omega]at hs;have:=NH c (t:=1) dC D 0 (off+1) (nx:=Fw ([(0,0)]++Hy 1 0 D++[(1,0)]) off 0) h ((by grind[IJ])) (λq=>by grind) (i-1) o d t hi hs
  grind
  obtain⟨j,rfl⟩:∃j,i=1+lN D+j:=⟨i-(1+lN D),oG⟩;rw[List.getElem?_append_right sO,show 1+lN D+j-([(⟨20,off+lN D+1⟩:Op)]++D).length=j by simp;omega]at hi;rw[List.getElem?_append_right<|by rw[List.length_append,IJ];simp<;>omega,show 1+lN D+j-lN ([((0:Nat),(0:Nat))]++Hy 1 0 D)=j by rw[List.length_append,IJ];simp<;>omega]at hs
  match j with
  |0=>
   cases hi;cases hs;refine⟨by show 1<=1;decide,by show 1-1+0<=31;decide,dC,dC,?_⟩;show Fw _ _ _ (off+(1+lN D+0)+1)=sM (1-1+0,0);rw[show off+(1+lN D+0)+1=off+(1+lN D+1) by omega,b];rfl
  |j+1=>simp at hi
 Aj:=λo a=>by
  rcases List.mem_append.1 a with a|a;rcases List.mem_append.1 a with a|a;rw[List.mem_singleton.1 a];exact .inr<|.inr<|.inr ⟨.inr<|.inr rfl,by show off+lN D+1<=off+_;simp;omega⟩
  grind[Wj]
  rw[List.mem_singleton.1 a];exact .inl ⟨rfl,rfl⟩
 len:=sO
theorem Nr{c a d d' p l}(g:Q5 c)(j:Oi ⟨c,a⟩)(b:Mi ⟨c,a⟩<=d)(h:d<=9)(e:d-Mi ⟨c,a⟩+D5 c=d')(f:d'<=9)(i:Fh d' (p::l)):Fh d (⟨c,a⟩::p::l):=by grind[Fh]
theorem AKo{c a d}(f:Q5 c)(h:Oi ⟨c,a⟩)(b:Mi ⟨c,a⟩<=d)(g:d<=9)(e:d-Mi ⟨c,a⟩+D5 c=0):Fh d [⟨c,a⟩]:=by grind[Fh]
theorem AAP{a}(h:a<16):Oi ⟨1,a⟩:=by show decide<|a<16;simpa using h
theorem AZJ{a}(h:a<8):Oi ⟨2,a⟩:=by show decide<|a<8;simpa using h
theorem ADi{a b c d n}(e:a<8)(f:b<8)(g:c<8)(h:d<8)(i)(j:n=[a,b,c,d].getD i 0):n<8:=by grind
theorem H6(m:Mk):m.next.2.code=m.code:=rfl
theorem AEj(n):n%2=0\/n%2=1:=oG
theorem V0(m:Mk){a}(i:a<3):∃D,(m.FZ a).code=m.code++D/\Fh 0 D/\D≠[]/\lN D<=6:=by
 have f:m.next.1%8<8:=JE _ dC;generalize g:m.next.1%8=any at f;have Bz:∀(t:Mk)(D:AA Op),t.code=m.code++D->Fh 0 D->D≠[]->lN D<=6->∃D,t.code=m.code++D/\Fh 0 D/\D≠[]/\lN D<=6:=λt D x v y z=>⟨D,x,v,y,z⟩;rw[Mk.FZ,Mk.AC2];dsimp only;rw[g];generalize m.next.2.next.1%32=k;have o:m.next.2.next.2.code=m.code:=rfl;generalize m.next.2.next.2=b at o;have u:∀(n:Nat)(p:Op)(l:AA Op)(d:Nat),d<=8->Fh (d+1) (p::l)->Fh d (⟨1,n%8⟩::p::l):=λn p l d r h=>Nr (d':=d+1) rfl (AAP oG) (Bm _) oG rfl oG h;have L8:∀(n:Nat)(p:Op)(l:AA Op)(d:Nat),d<=8->Fh (d+1) (p::l)->Fh d (⟨1,8+n%8⟩::p::l):=λn p l d r h=>Nr (d':=d+1) rfl (AAP oG) (Bm _) oG rfl oG h;have L4:∀(n:Nat)(p:Op)(l:AA Op)(d:Nat),d<=8->Fh (d+1) (p::l)->Fh d (⟨1,n%4⟩::p::l):=λn p l d r h=>Nr (d':=d+1) rfl (AAP oG) (Bm _) oG rfl oG h;have s:∀(n:Nat)(p:Op)(l:AA Op)(d:Nat),d<=8->Fh (d+1) (p::l)->Fh d (⟨1,4+n%4⟩::p::l):=λn p l d r h=>Nr (d':=d+1) rfl (AAP oG) (Bm _) oG rfl oG h;have c:∀(n:Nat)(p:Op)(l:AA Op)(d:Nat),n<8->d<=8->Fh (d+1) (p::l)->Fh d (⟨2,n⟩::p::l):=λn p l d C r h=>Nr (d':=d+1) rfl (AZJ C) (Bm _) oG rfl oG h;have S:∀n:Nat,n<8->Fh 1 [⟨3,n⟩]:=by trivial
 by_cases q:k=0;rw[Ac q];obtain⟨j,A,B⟩:∃j,(b.number.Dq any).next.1%7=j/\j<7:=⟨_,rfl,JE _ dC⟩;refine Bz _ [⟨1,b.next.1%8⟩,⟨2,any⟩,⟨7+(b.number.Dq any).next.1%7,0⟩,⟨3,1⟩] (by grind[Mk.BD,Mk.number,Mk.Dq,H6]) ?_ sP sP;refine u _ _ _ _ dC<|c _ _ _ _ f dC ?_;rw[A];have:j=0\/j=1\/j=2\/j=3\/j=4\/j=5\/j=6:=oG;rcases this with rfl|rfl|rfl|rfl|rfl|rfl|rfl<;>rfl;rw[AY q];by_cases q:k=1;rw[Ac q];refine Bz _ [⟨25+b.next.1%2,0⟩,⟨1,8+(b.next.2.BD (25+b.next.1%2) 0).next.1%8⟩,⟨22+((b.next.2.BD (25+b.next.1%2) 0).mark).next.1%2,0⟩,⟨3,7⟩] (by grind[Mk.BD,Mk.mark,H6]) ?_ sP sP;generalize(b.next.2.BD (25+b.next.1%2) 0).next.1=E;generalize((b.next.2.BD (25+b.next.1%2) 0).mark).next.1=w;generalize b.next.1=F;have v:Fh 1 [⟨1,8+E%8⟩,⟨22+w%2,0⟩,⟨3,7⟩]:=by refine L8 _ _ _ _ dC ?_;rcases AEj w with e|e<;>rw[e]<;>rfl
 rcases AEj F with e|e<;>rw[e];assumption;assumption;rw[AY q];by_cases q:k=2;rw[Ac q];exact Bz _ [⟨1,8+b.next.1%8⟩,⟨27,0⟩] (by grind[Mk.BD,Mk.mark,H6]) (L8 _ _ _ _ dC rfl) sP sP;rw[AY q];by_cases q:k=3;rw[Ac q];exact Bz _ [⟨1,8+b.next.1%8⟩,⟨28,0⟩] (by grind[Mk.BD,Mk.mark,H6]) (L8 _ _ _ _ dC rfl) sP sP;rw[AY q];by_cases q:k<6;rw[Ac q];exact Bz _ [⟨2,any⟩,⟨1,8+(b.Dq any).next.1%8⟩,⟨29,0⟩,⟨3,2⟩] (by grind[Mk.BD,Mk.mark,Mk.Dq,H6]) (c _ _ _ _ f dC<|L8 _ _ _ _ dC rfl) sP sP;rw[AY q];by_cases q:k<9;rw[Ac q];exact Bz _ [⟨2,[0,2,2,any].getD (b.next.1%4) 0⟩,⟨30,0⟩,⟨3,1⟩] (by grind[Mk.BD,Mk.Dq,H6]) (c _ _ _ _ (ADi dC dC dC f _ rfl) dC rfl) sP sP;rw[AY q];by_cases q:k=9;rw[Ac q];exact Bz _ [⟨2,any⟩,⟨1,8+(b.Dq any).next.1%8⟩,⟨32,0⟩,⟨3,3⟩] (by grind[Mk.BD,Mk.mark,Mk.Dq,H6]) (c _ _ _ _ f dC<|L8 _ _ _ _ dC rfl) sP sP;rw[AY q];by_cases q:k=10;rw[Ac q];exact Bz _ [⟨2,3⟩,⟨33,0⟩,⟨3,1⟩] (by grind[Mk.BD,Mk.Dq]) rfl sP sP;rw[AY q];by_cases q:k=11;rw[Ac q];exact Bz _ [⟨2,3⟩,⟨2,any⟩,⟨34,0⟩] (by grind[Mk.BD,Mk.Dq]) (c _ _ _ _ dC dC<|c _ _ _ _ f dC rfl) sP sP;rw[AY q];by_cases q:k=12;rw[Ac q];exact Bz _ [⟨1,8+b.next.1%8⟩,⟨35,0⟩,⟨3,4⟩] (by grind[Mk.BD,Mk.mark,H6]) (L8 _ _ _ _ dC rfl) sP sP;rw[AY q];by_cases q:k=13;rw[Ac q];exact Bz _ [⟨2,4⟩,⟨36,0⟩,⟨3,1⟩] (by grind[Mk.BD,Mk.Dq]) rfl sP sP;rw[AY q];by_cases q:k<16;rw[Ac q];exact Bz _ [⟨2,4⟩,⟨2,any⟩,⟨37,0⟩] (by grind[Mk.BD,Mk.Dq]) (c _ _ _ _ dC dC<|c _ _ _ _ f dC rfl) sP sP;rw[AY q];by_cases q:k<18/\0<a;rw[Ac q]
 refine Bz _ [⟨2,[4,2,3,any].getD (b.next.1%4) 0⟩,⟨1,(b.next.2.Dq<|[4,2,3,any].getD (b.next.1%4) 0).next.1%4⟩,⟨1,8+(((b.next.2.Dq<|[4,2,3,any].getD (b.next.1%4) 0).next.2.BD 1<|(b.next.2.Dq<|[4,2,3,any].getD (b.next.1%4) 0).next.1%4).next.1%8)⟩,⟨38,a⟩,⟨3,5⟩] (by grind[Mk.BD,Mk.mark,Mk.Dq,H6]) ?_ sP sP;exact c _ _ _ _ (ADi dC dC dC f _ rfl) dC<|L4 _ _ _ _ dC<|L8 _ _ _ _ dC<|Nr (d':=1) rfl (by show decide<|a<3;simpa using i) (by show 3<=3;decide) dC rfl dC rfl;rw[AY q];by_cases q:k=18;rw[Ac q];exact Bz _ [⟨2,5⟩,⟨39,0⟩,⟨3,1⟩] (by grind[Mk.BD,Mk.Dq]) rfl sP sP;rw[AY q];by_cases q:k<22/\0<a;rw[Ac q];refine Bz _ [⟨2,[2,0,3,4].getD (b.next.1%4) 0⟩,⟨1,_%4⟩,⟨1,4+_%4⟩,⟨1,8+_%8⟩,⟨40,a⟩,⟨3,2⟩] (by simp only[Mk.BD,Mk.mark,Mk.Dq,H6,o,Eb,F1,F2];rfl) ?_ sP sP;exact c _ _ _ _ (ADi dC dC dC dC _ rfl) dC<|L4 _ _ _ _ dC<|s _ _ _ _ dC<|L8 _ _ _ _ dC<|Nr (d':=1) rfl (by show decide<|a<3;simpa using i) (by show 4<=4;decide) dC rfl dC rfl;rw[AY q];by_cases q:k<25;rw[Ac q];exact Bz _ [⟨2,any⟩,⟨1,8+(b.Dq any).next.1%8⟩,⟨41,0⟩] (by grind[Mk.BD,Mk.mark,Mk.Dq,H6]) (c _ _ _ _ f dC<|L8 _ _ _ _ dC rfl) sP sP;rw[AY q];by_cases q:k=25;rw[Ac q];refine Bz _ [⟨1,8+b.next.1%8⟩,⟨42+b.mark.next.1%2,0⟩] (by grind[Mk.BD,Mk.mark,H6]) (L8 _ _ _ _ dC ?_) sP sP;rcases AEj b.mark.next.1 with e|e<;>rw[e]<;>rfl;rw[AY q];by_cases q:k=26/\0<a;rw[Ac q]
 exact Bz _ [⟨1,8+b.next.1%8⟩,⟨45,a⟩,⟨3,6⟩] (by grind[Mk.BD,Mk.mark,H6]) (L8 _ _ _ _ dC<|Nr (d':=1) rfl (by show decide<|a<3;simpa using i) (by show 1<=1;decide) dC rfl dC rfl) sP sP;rw[AY q];by_cases q:k=27;rw[Ac q];exact Bz _ [⟨2,any⟩,⟨2,6⟩,⟨46,0⟩,⟨3,1⟩] (by grind[Mk.BD,Mk.Dq]) (c _ _ _ _ f dC rfl) sP sP;rw[AY q];by_cases q:k=28/\0<a;rw[Ac q];exact Bz _ [⟨2,any⟩,⟨17,a⟩,⟨3,1⟩] (by grind[Mk.BD,Mk.Dq]) (c _ _ _ _ f dC<|Nr (d':=1) rfl (by show decide<|a<3;simpa using i) (by show 1<=1;decide) dC rfl dC rfl) sP sP;rw[AY q];by_cases q:k=29;rw[Ac q];exact Bz _ [⟨1,b.next.1%8⟩,⟨19,0⟩] (by grind[Mk.BD,Mk.number,H6]) (u _ _ _ _ dC rfl) sP sP;rw[AY q];by_cases q:k=30;rw[Ac q];refine Bz _ [⟨44,b.next.1%4⟩] (by simp[Mk.BD,H6,o]) (AKo rfl (by show decide<|_<=63;simp;omega) (Ag _) dC rfl) sP sP;rw[AY q];exact Bz _ [⟨47,0⟩,⟨3,1⟩] (by simp[Mk.BD,o]) rfl sP sP
theorem AFR(m:Mk)(C P:AA Op)(o a)(h:m.code=C++o::P):(m.KZ (lN C) a).code=C++ {o with a:=a}::P:=by show m.code.modify (lN C) _=_;ext;grind
theorem AW2{C D:List Op}(a:D≠[]):(C++D).getLast?=D.getLast?:=by grind[List.getLast?_eq_none_iff]
theorem AZl{n}(d:Nh n)(m:Mk){a}(k:a<3):∃P,(m.part a).code=m.code++P/\Part n (lN m.code) P:=by
 rw[Mk.part];dsimp only;have l:m.next.2.code=m.code:=rfl;generalize m.next.2=b at l;rw[<-l];split;let⟨D,g,h,e,i⟩:=V0 (b.BD 20 0) k;have f:((b.BD 20 0).FZ a).code=b.code++⟨20,0⟩::D:=by rw[g];simp[Mk.BD]
 have c:((b.BD 20 0).FZ a).code.getLast?=D.getLast?:=by rw[g,AW2 e]
 split;rename_i hT;rw[c]at hT;refine⟨_,?_,AZm d h e i<|by grind[R2]⟩;show((((b.BD 20 0).FZ a).KZ (lN b.code)<|lN ((b.BD 20 0).FZ a).code).code++[⟨3,1⟩])=_;rw[AFR _ b.code D ⟨20,0⟩ _ f,f];simp;omega;rename_i hT;rw[c]at hT;refine⟨_,?_,AZn d h e i<|by rw[R2];simpa using hT⟩;have j:((((b.BD 20 0).FZ a).BD 21 0).BD 15<|lN (((b.BD 20 0).FZ a).BD 21 0).code+2).code=b.code++⟨20,0⟩::(D++[⟨21,0⟩,⟨15,lN b.code+lN D+4⟩]):=by show(((b.BD 20 0).FZ a).code++[(⟨21,0⟩:Op)])++[(⟨15,lN (((b.BD 20 0).FZ a).code++[(⟨21,0⟩:Op)])+2⟩:Op)]=_;rw[f];simp;omega
 show((((((b.BD 20 0).FZ a).BD 21 0).BD 15<|lN (((b.BD 20 0).FZ a).BD 21 0).code+2).KZ (lN b.code) _).code++[⟨3,1⟩])=_;rw[AFR _ b.code _ ⟨20,0⟩ _ j,j];simp;omega;split;let⟨D,g,h,e,i⟩:=V0 ((b.Dq 1).BD 16 0) k;refine⟨_,?_,AZj d h e i⟩;have f:(((b.Dq 1).BD 16 0).FZ a).code=(b.code++[⟨2,1⟩])++⟨16,0⟩::D:=by rw[g];simp[Mk.BD,Mk.Dq]
 have o:lN (b.code++[(⟨2,1⟩:Op)])=lN b.code+1:=sP;have j:=AFR _ (b.code++[⟨2,1⟩]) D ⟨16,0⟩ (lN (((b.Dq 1).BD 16 0).FZ a).code) f;rw[o]at j;rw[j,f];simp;omega;let⟨D,g,h,e,i⟩:=V0 b k;exact⟨D,g,AZk d h e i⟩
structure AGn(im:A6)(k:Nat)(C:AA Op):Prop where
 Ot:∃S,Seg im 0 0 C S/\(S[0]? =sM (0,0)\/S=[])
 Aj:∀o∈C,Rc (lN C) o
 len:lN C<=10*k
theorem AL7{f}(b:Nh f){CP}(j:CP<3):∀(n k:Nat)(m:Mk),AGn f k m.code->k<=12->AGn f 12 (Mk.Er CP n k m).code
 |0,k,m,h,hk=>⟨h.Ot,h.Aj,by have:=h.len;show lN m.code<=120;omega⟩
 |n+1,k,m,h,hk=>by
  rw[Mk.Er];split;rename_i q;refine AL7 b j n (k+1) _ ?_ oG;let⟨P,e,d⟩:=AZl b m j;rw[e];let⟨g,r,a⟩:=h.Ot;let⟨p,s,i⟩:=d.Ot;refine⟨⟨g++p,Seg.app r (by rwa[FE])<|.inl i,?_⟩,λo c=> ?_,?_⟩;rcases a with a|a;left;cases g with
  |nil=>cases a
  |cons x l=>exact a
  rw[a];exact .inl i;rw[CK];rcases Bc.1 c with c|c;exact(h.Aj o c).mono oG;exact d.Aj o c;rw[CK];have:=h.len;have:=d.len;omega;exact⟨h.Ot,h.Aj,by have:=h.len;omega⟩
theorem AZh{g}(a:Nh g){b d o}(h:Rc d o)(k:d<lN b.code)(l:b.args+b.Ai=8)(m:lN b.code<=60000):IY o/\Px g b o:=by
 rcases h with⟨c,p2⟩|e|e|⟨e,j⟩;have i:UX o.code:=by rw[Q5]at c;simp only[CJ,ER]at c;rw[UX];simp only[CJ,ER];exact c.1
 rw[Oi]at p2;rw[IY,Px];rw[i,a.len,a.cs];split at p2;rename_i q;rw[q];simpa using p2;rename_i q;rw[q];simp at p2⊢;omega;rename_i q;rw[q];simp at p2⊢;omega;rename_i q;rw[q];simp at p2;have:=a.args _ p2;simp only[this];simp;omega;rename_i q;rw[q];simp at p2⊢;omega;cases p2;subst e;exact⟨rfl,rfl⟩;subst e;exact⟨rfl,rfl⟩;have f:Cf o.code=3/\UX o.code:=by rcases e with e|e|e<;>rw[e]<;>exact⟨rfl,rfl⟩
 rw[IY,Px];rw[f.1,f.2];simp;omega
theorem AX6(l:AA<|AA AH)(i):∃a,a<8/\(H4 l i).code=(Mk.Er ((i+1)%3) 12 0 ⟨l.getD i [],0,[]⟩).code++[⟨2,a⟩,⟨18,0⟩]:=by refine⟨(Mk.Er ((i+1)%3) 12 0 ⟨l.getD i [],0,[]⟩).next.1%8,JE _ dC,?_⟩;rw[H4];simp[Mk.BD,H6]
theorem AEX(l):Nh (Io l):=⟨rfl,λi a=>by
 match i with
 |0=>rfl
 |1=>rfl
 |2=>rfl
 |i+3=>omega,rfl⟩
theorem AEZ(l i)(c:Nh<|Io l):∃S,Ng (Io l) (H4 l i) S/\lN (H4 l i).code<=122/\0<lN (H4 l i).code/\(H4 l i).args=1/\(H4 l i).Ai=7:=by
 let⟨a,k,e⟩:=AX6 l i;have f:=AL7 c (CP:=(i+1)%3) (JE _ dC) 12 0 ⟨l.getD i [],0,[]⟩ ⟨⟨[],Seg.nil _ _ _,.inr rfl⟩,nA,Bm _⟩ dC;generalize(Mk.Er ((i+1)%3) 12 0 ⟨l.getD i [],0,[]⟩).code=C at e f;let⟨S,m,n⟩:=f.Ot;have hlen:lN (H4 l i).code=lN C+2:=by rw[e];simp
 have p:=f.len;refine⟨S++[(0,0),(1,0)],Ng.of e m (λj o d t g h=> ?_) rfl rfl n λo b=> ?_,oG,oG,rfl,rfl⟩
 match j with
 |0=>
  cases g;cases h;refine⟨by show 0<=0;decide,by show 0-0+1<=31;decide,dC,dC,?_⟩;show(if lN C<=lN C+0+1 then([(0,0),(1,0)]:AA<|Nat×Nat)[lN C+0+1-lN C]? else nO)=sM (0-0+1,0);rw[Ac oG,show lN C+0+1-lN C=1 by omega];rfl
 |1=>
  cases g;cases h;exact⟨by show 1<=1;decide,by show 1-1+0<=31;decide,dC,dC,trivial⟩
 |j+2=>simp at g
 rw[e]at b;rcases Bc.1 b with b|b;exact AZh c (f.Aj o b) oG rfl oG;simp at b;rcases b with rfl|rfl;refine⟨?_,by show decide<|a<1+7;simpa using k⟩;show(tT&&decide (a<=65535));simp;omega;exact⟨rfl,rfl⟩
def SX:AA (AA<|Nat×Nat):=[[(0,0),(1,0),(2,0),(3,0),(4,0),(1,0),(0,0),(1,0),(0,0),(1,0),(0,0),(1,0),(0,0),(1,0),(2,0),(0,0),(1,0),(2,0),(1,0),(0,0)],
 [(0,0),(1,0),(1,0),(0,0),(1,0),(0,0),(1,0),(0,0),(1,0),(2,0),(1,0),(0,0)]]
theorem AL8:∀i,i<2->Ng EC (EC.Ax.getD i Al) (SX.getD i []):=by have:∀i,i<2->lN (SX.getD i [])=lN (EC.Ax.getD i Al).code/\(SX.getD i [])[0]? =sM (0,0)/\(∀o∈(EC.Ax.getD i Al).code,IY o/\Px EC (EC.Ax.getD i Al) o)/\∀j,j<lN (EC.Ax.getD i Al).code->MH EC (λj=>(SX.getD i [])[j]?) j ((EC.Ax.getD i Al).code.getD j Al) ((SX.getD i []).getD j (0,0)).1 ((SX.getD i []).getD j (0,0)).2:=dC;intro i h;let⟨c,e,f,g⟩:=this i h;refine⟨c,e,f,λj o d t b k=> ?_⟩;have:=g j<|(Ci.1 b).1;rw[show(EC.Ax.getD i Al).code.getD j Al=o by rw[DK,b];rfl,show(SX.getD i []).getD j (0,0)=(d,t) by rw[DK,k];rfl]at this;exact this
variable{s':Az}
inductive Tw(m:AT)(AC thr':AA AL)(t0:AL)(s s':Az)(r a:CR):Prop
 |eq (t:a.1.t=r.1.t) (e:a.1.e=r.1.e) (x:a.2=r.2) (st:Ca m r.1.s a.1.s) (w:∀w∈r.1.e.BY,Af AC w.1=Af thr' w.1)
 |hid (h:fl r.1.t.g.Ad m=fF) (h':fl a.1.t.g.Ad m=fF) (sc:r.1.t.AI=t0.AI) (b:a.1.t.AI=t0.AI) (c:fl t0.g.A5 m=fF) (i:Inv m AC s r.1) (d:Inv m thr' s' a.1)
theorem Tw.A8{f r a}(t:a.1.t=r.1.t)(e:r.1.e=A8)(c:a.1.e=A8)(x:a.2=r.2)(d:Ca m r.1.s a.1.s):Tw m AC thr' f s s' r a:=
 .eq t (c.trans e.symm) x d λw b=>by rw[e]at b;cases b
structure Rd(f:Call->Ob->CR):Prop where
 s:∀k o,(f k o).1.s=k.s
 e:∀k o,(f k o).1.e=k.e
 g:∀k o,(f k o).1.t.g=k.t.g
 sc:∀k o,(f k o).1.t.AI=k.t.AI
 t:∀(k:Call)(s':Az) o,(f ⟨s',k.t,k.e⟩ o).1.t=(f k o).1.t/\(f ⟨s',k.t,k.e⟩ o).2=(f k o).2
theorem Uf:Rd Ej where
 s:=λk o=>by unfold Ej;split<;>rfl
 e:=λk o=>by unfold Ej;split<;>rfl
 g:=λk o=>by unfold Ej;split<;>rfl
 sc:=λk o=>by unfold Ej;split<;>rfl
 t:=λk s' o=>by unfold Ej;split<;>exact⟨rfl,rfl⟩
theorem AaW:Rd λk o=>(k.push o.v,nO):=⟨λ_ _=>rfl,λ_ _=>rfl,λ_ _=>rfl,λ_ _=>rfl,λ_ _ _=>⟨rfl,rfl⟩⟩
def AaX(x:AW):Rd λk ob=>if ob.done then Ej k ob else(FG k x.name,nO) where
 s:=λk o=>by split;exact Uf.s k o;rfl
 e:=λk o=>by split;exact Uf.e k o;rfl
 g:=λk o=>by split;exact Uf.g k o;rfl
 sc:=λk o=>by split;exact Uf.sc k o;rfl
 t:=λk s' o=>by split;exact Uf.t k s' o;exact⟨rfl,rfl⟩
theorem AaY(im x):Rd λk ob=>match Gc k.t.c ob.fn (varsOf im ob.fn) [x] ob.AR with
 |some c=>({k with t:={k.t with c:=c}},nO)
 |none=>(k,sM (-6)) where
 s:=λk o=>by split<;>rfl
 e:=λk o=>by split<;>rfl
 g:=λk o=>by split<;>rfl
 sc:=λk o=>by split<;>rfl
 t:=by grind
theorem Adk{g l}(b:fl l m=fF)(h:(Et g l).2=0):fl (Et g l).1.Ad m=fF/\fl g.A5 m=fF:=by
 unfold Et at*;split at h;rename_i a;rw[Ac a]
 grind[ZM,IV,AW5]
 grind
theorem AA5{x f}(a:Rd f)(b:k.e=A8)(j:Ca m k.s s'):Tw m AC thr' k.t k.s s' (Ff k x f) (Ff ⟨s',k.t,k.e⟩ x f):=by
 unfold Ff G1;dsimp only;split;exact .A8 rfl b b rfl j;rename_i n;have n:(Et k.t.g x.l).2=0:=by simpa using n
 generalize A:(Et k.t.g x.l).1=g;by_cases l:fl x.l m;have e:EY (Call.Bp ⟨s',k.t,k.e⟩ g) x=EY (k.Bp g) x:=(j.AAy rfl rfl l).symm;rw[e];cases EY (k.Bp g) x with
 |none=>exact .A8 rfl b b rfl j
 |some o=>
  dsimp only;have c:=a.t (k.Bp g) s' o;refine .A8 c.1 ((a.e _ _).trans b) ((a.e _ _).trans b) c.2 ?_;rw[a.s,a.s];exact j
 have l:fl x.l m=fF:=by simpa using l
 let⟨c,z⟩:=Adk l n;rw[A]at c;have i:∀(q:Call)(p:AA AL),q.e=Lz.A8->q.t=k.t->fl (match EY (q.Bp g) x with|none=>((q.Bp g).push<|BH 0,nO)|some o=>f (q.Bp g) o:CR).1.t.g.Ad m=fF/\(match EY (q.Bp g) x with|none=>((q.Bp g).push<|BH 0,nO)|some o=>f (q.Bp g) o:CR).1.t.AI=k.t.AI/\Inv m p q.s (match EY (q.Bp g) x with|none=>((q.Bp g).push<|BH 0,nO)|some o=>f (q.Bp g) o:CR).1:=by
  intro q p d h;cases EY (q.Bp g) x with
  |none=>exact⟨c,by show q.t.AI=_;rw[h],Inv.Mq rfl d⟩
  |some o=>
   dsimp only;refine⟨by rw[a.g];exact c,by rw[a.sc];show q.t.AI=_;rw[h],Inv.Mq (a.s _ _)<|(a.e _ _).trans d⟩
 let⟨r,t,u⟩:=i k AC b rfl;let⟨v,w,y⟩:=i ⟨s',k.t,k.e⟩ thr' b rfl;exact .hid r v t w z u y
theorem AAp{n o}(a:Ca m s s')(b:Am s n=nO)(c:Am s' n=nO):Ca m (Cy s n o) (Cy s' n o):=by
 by_cases e:Ew s n o;exact a.add e (by grind[Ew])
 grind[Ew,OF]
theorem AA4{o}(a:k.e=A8)(c:Ca m k.s s')(f:∀t n,GI k.t=sM (t,n)->Am k.s n=nO/\Am s' n=nO):Tw m AC thr' k.t k.s s' (Fv k o) (Fv ⟨s',k.t,k.e⟩ o):=by unfold Fv;dsimp only;split;exact .A8 rfl a a rfl c;split;exact .A8 rfl a a rfl c;rename_i t n b;let⟨d,e⟩:=f t n b;exact .A8 rfl a a rfl<|AAp c d e
def AAz{q x a}(h:EY q x=sM a)(c:fl x.l m=fF)(o)(b:o.l=a.l):Ca m q.s (Cn q.s x.name o):=λn=>(Xe (by rwa[b,(HV h).2.2]) n).symm
def AFQ{q x a}(e:Ca m q.s s')(h:EY q x=sM a)(f:fl x.l m)(o)(d:o.l=a.l):Ca m (Cn q.s x.name o) (Cn s' x.name o):=by let⟨b,g,c⟩:=HV h;exact e.set b (by rwa[c]) d.symm
def AdR{x y}(a:k.e=A8)(d:Ca m k.s s'):Tw m AC thr' k.t k.s s' (match EY k x with
 |some c=>({k with s:=Cn k.s x.name {c with v:=y}},nO)
 |none=>(k,nO)) (match EY ⟨s',k.t,k.e⟩ x with
 |some c=>({(⟨s',k.t,k.e⟩:Call)with s:=Cn s' x.name {c with v:=y}},nO)
 |none=>(⟨s',k.t,k.e⟩,nO)):=by
 by_cases b:fl x.l m;rw[<-d.AAy (k:=k) (k':=⟨s',k.t,k.e⟩) rfl rfl b];cases g:EY k x with
 |none=>exact .A8 rfl a a rfl d
 |some c=>exact .A8 rfl a a rfl<|AFQ d g b {c with v:=y} rfl
 have b:fl x.l m=fF:=by simpa using b
 cases g:EY k x with
 |none=>
  cases e:EY ⟨s',k.t,k.e⟩ x with
  |none=>exact .A8 rfl a a rfl d
  |some f=>exact .A8 rfl a a rfl<|d.trans<|AAz e b {f with v:=y} rfl
 |some c=>
  cases e:EY ⟨s',k.t,k.e⟩ x with
  |none=>exact .A8 rfl a a rfl<|(AAz g b {c with v:=y} rfl).symm.trans d
  |some f=>exact .A8 rfl a a rfl<|(AAz g b {c with v:=y} rfl).symm.trans<|d.trans<|AAz e b {f with v:=y} rfl
theorem AOr(d:LR AC s)(e:LR thr' s')(l:Ca m s s')(f:∀b y,Af AC b=sM y->fl y.g.Ad m->Af thr' b=sM y){n a}(c:Am s n=sM a)(j:fl a.l m){w}(g:w∈a.var.q):Af AC w.id=Af thr' w.id:=by
 let⟨t,h,i⟩:=d n a c w g
 grind
def Ad5{q a l w}(h:w∈(EO q a l).e.BY)(c:q.e=A8):a≠[]/\w=(a,l):=by rw[EO]at h;split at h;rw[c]at h;cases h;rename_i b;have h:w∈q.e.BY++[(a,l)]:=h;rw[c]at h;exact⟨b,A9.1 h⟩
theorem U8(q a l):(EO q a l).t=q.t/\(EO q a l).s=q.s:=by grind[EO]
theorem Ad2{q b}(h:b.e=q.e)(a l):(EO b a l).e=(EO q a l).e:=by grind[EO]
theorem AOI{q q' f}(t:q'.t=q.t)(e:q'.e=q.e)(g:Ca m q.s q'.s)(c:q.e=A8)(a l)(d:a≠[]->Af AC a=Af thr' a):Tw m AC thr' f s s' (EO q a l,nO) (EO q' a l,nO):=by
 refine .eq ((U8 _ _ _).1.trans<|t.trans (U8 _ _ _).1.symm) (Ad2 e _ _) rfl (by grind[U8]) λw b=> ?_
 let⟨q1,q2⟩:=Ad5 b c;rw[q2];exact d q1
def Sp(x:AW)(k:Call):CR:=match EY k x with
 |none=>(FG k x.name,nO)
 |some a=>
  let r:=GN a.var k.t.id;let k:={k with s:=Cn k.s x.name {a with var:=r.1}}
  match r.2.1 with
  |none=>(FG k x.name,nO)
  |some v=>(EO (k.push v) r.2.2 [],nO)
def SZ(x y:AW)(k:Call):CR:=match EY k x with
 |none=>(FG k x.name,nO)
 |some a=>
  let r:=Gg a.var k.t.id y;let k:={k with s:=Cn k.s x.name {a with var:=r.1}}
  if !r.2.1 then(FG k x.name,nO)else(EO k r.2.2 [y],nO)
def ANv(x k):(Sp x k).1.t.g=k.t.g/\(Sp x k).1.t.AI=k.t.AI:=by rw[Sp];split;exact⟨rfl,rfl⟩;dsimp only;split;exact⟨rfl,rfl⟩;rw[(U8 _ _ _).1];exact⟨rfl,rfl⟩
theorem AMN(x y k):(SZ x y k).1.t.g=k.t.g/\(SZ x y k).1.t.AI=k.t.AI:=by
 rw[SZ];split;exact⟨rfl,rfl⟩;dsimp only;split;exact⟨rfl,rfl⟩
 grind[U8]
def AdT{x}(b:k.e=A8)(d:Ca m k.s s')(o:LR AC k.s)(f:LR thr' s')(h:∀j y,Af AC j=sM y->fl y.g.Ad m->Af thr' j=sM y)(g:fl x.l m)(q):Tw m AC thr' q k.s s' (Sp x k) (Sp x ⟨s',k.t,k.e⟩):=by
 unfold Sp;rw[<-d.AAy (k:=k) (k':=⟨s',k.t,k.e⟩) rfl rfl g];cases i:EY k x with
 |none=>exact .A8 rfl b b rfl d
 |some a=>
  let⟨l,r,n⟩:=HV i;have c:=AFQ d i g {a with var:=(GN a.var k.t.id).1} rfl;dsimp only;cases t:(GN a.var k.t.id).2.1 with
  |none=>exact .A8 rfl b b rfl c
  |some v=>
   refine AOI (q:=Call.push {k with s:=Cn k.s x.name {a with var:=(GN a.var k.t.id).1}} v) (q':=Call.push ⟨Cn s' x.name {a with var:=(GN a.var k.t.id).1},k.t,k.e⟩ v) rfl rfl c b _ _ λq1=> ?_;rcases AFe (id:=k.t.id)with e|⟨u,p,e⟩;exact(q1 e).elim;rw[<-e];exact AOr o f d h l (by rw[n];exact g) p
def AdS{x y}(b:k.e=A8)(d:Ca m k.s s')(o:LR AC k.s)(f:LR thr' s')(h:∀j y,Af AC j=sM y->fl y.g.Ad m->Af thr' j=sM y)(g:fl x.l m)(q):Tw m AC thr' q k.s s' (SZ x y k) (SZ x y ⟨s',k.t,k.e⟩):=by
 unfold SZ;rw[<-d.AAy (k:=k) (k':=⟨s',k.t,k.e⟩) rfl rfl g];cases i:EY k x with
 |none=>exact .A8 rfl b b rfl d
 |some a=>
  let⟨l,r,n⟩:=HV i;have c:=AFQ d i g {a with var:=(Gg a.var k.t.id y).1} rfl;dsimp only;cases t:(Gg a.var k.t.id y).2.1 with
  |false=>exact .A8 rfl b b rfl c
  |true=>
   refine AOI (q:={k with s:=Cn k.s x.name {a with var:=(Gg a.var k.t.id y).1}}) (q':=⟨Cn s' x.name {a with var:=(Gg a.var k.t.id y).1},k.t,k.e⟩) rfl rfl c b _ _ λq1=> ?_;rcases AFB (x:=a.var)with e|⟨u,p,e⟩;exact(q1 e).elim;rw[<-e];exact AOr o f d h l (by rw[n];exact g) p
def AOG{x f}(c:k.e=A8)(n:Ca m k.s s')(g:LR AC k.s)(b:LR thr' s')(d:∀r y,Af AC r=sM y->fl y.g.Ad m->Af thr' r=sM y)(q:(∃y,f=SZ x y)\/f=Sp x):Tw m AC thr' k.t k.s s' (Ga k x.l f) (Ga ⟨s',k.t,k.e⟩ x.l f):=by
 unfold Ga;dsimp only;split;exact .A8 rfl c c rfl n;rename_i o;have o:Dh k.t.g x.l=0:=by simpa using o
 by_cases a:fl x.l m;rcases q with⟨y,rfl⟩|rfl;exact AdS (k:=k.Bp ⟨A4 x.l,k.t.g.A5⟩) c n g b d a k.t;exact AdT (k:=k.Bp ⟨A4 x.l,k.t.g.A5⟩) c n g b d a k.t;have a:fl x.l m=fF:=by simpa using a
 have p:=ZM a (S0 o).2;have e:fl (A4 x.l) m=fF:=by rw[LW];exact a
 rcases q with⟨y,rfl⟩|rfl;let⟨h,i⟩:=AMN x y<|k.Bp ⟨A4 x.l,k.t.g.A5⟩;let⟨j,l⟩:=AMN x y<|Call.Bp ⟨s',k.t,k.e⟩ ⟨A4 x.l,k.t.g.A5⟩;exact .hid (by rw[h];exact e) (by rw[j];exact e) i l p (AD5 (k:=k.Bp ⟨A4 x.l,k.t.g.A5⟩) g c a)<|AD5 (k:=Call.Bp ⟨s',k.t,k.e⟩ ⟨A4 x.l,k.t.g.A5⟩) b c a;let⟨h,i⟩:=ANv x<|k.Bp ⟨A4 x.l,k.t.g.A5⟩;let⟨j,l⟩:=ANv x<|Call.Bp ⟨s',k.t,k.e⟩ ⟨A4 x.l,k.t.g.A5⟩;exact .hid (by rw[h];exact e) (by rw[j];exact e) i l p (AD6 (k:=k.Bp ⟨A4 x.l,k.t.g.A5⟩) g c a)<|AD6 (k:=Call.Bp ⟨s',k.t,k.e⟩ ⟨A4 x.l,k.t.g.A5⟩) b c a
theorem AQa{im AD o AR l}(f:Ca m k.s s')(b:k.e=A8)(r:LR AC k.s)(h:LR thr' s')(i:∀u y,Af AC u=sM y->fl y.g.Ad m->Af thr' u=sM y)(v:∀t n,GI k.t=sM (t,n)->Am k.s n=nO/\Am s' n=nO):
 Tw m AC thr' k.t k.s s' (CO im AD o AR l k) (CO im AD o AR l ⟨s',k.t,k.e⟩):=by
 have c:∀(a:Call)(x:AU Int),a.s=k.s->a.e=A8->Tw m AC thr' k.t k.s s' (a,x) (⟨s',a.t,a.e⟩,x):=λa x p g=>.A8 rfl g g rfl gR;have d:∀(a:Call)(x:AU Int),a.s=k.s->a.e.BY=[]->Tw m AC thr' k.t k.s s' (a,x) (⟨s',a.t,a.e⟩,x):=λa x p g=>(by constructor<;>grind);unfold CO;dsimp only;split;exact c _ _ rfl b;exact c _ _ rfl b;split;exact c _ _ rfl b;unfold G1;dsimp only;split;exact c _ _ rfl b;exact c (k.Bp _) nO rfl b;split;exact c _ _ rfl b;split;exact c _ _ rfl b;exact c (k.Bp _) nO rfl b
 grind[AA4]
 grind[AA5,Uf]
 grind[AA4]
 grind[AA5,AaW]
 split;exact c _ _ rfl b;split;exact c _ _ rfl b;exact AdR b f
 grind[AA4]
 split;exact c _ _ rfl b;exact AOG b f r h i<|.inr rfl;split;exact c _ _ rfl b;exact AOG b f r h i<|.inl ⟨l.getD 1 AZ,rfl⟩;split;exact c _ _ rfl b;split;exact c _ _ rfl b;split;exact c _ _ rfl b;split;exact c _ _ rfl b;rename_i t n q;let⟨p,g⟩:=v t n q;refine .eq rfl rfl rfl (AAp f p g) λw j=> ?_;have j:w∈k.e.BY:=j;rw[b]at j;cases j;split;exact c _ _ rfl b;exact AA5 (AaX _) b f;split<;>grind;split;exact c _ _ rfl b;split;exact c _ _ rfl b;exact d {k with e:={k.e with out:=k.e.out++[((l.getD 1 AZ).l,l.getD 0 AZ)]}} nO rfl (by show k.e.BY=[];rw[b];rfl);split;exact c _ _ rfl b;split;exact c _ _ rfl b;refine d _ nO rfl ?_;show(if _ then _ else k.e).BY=[];split<;>(rw[b];rfl);split;exact c _ _ rfl b;split;exact c _ _ rfl b;refine d _ nO rfl ?_;show(if _ then _ else k.e).BY=[];split<;>(rw[b];rfl)
 grind[AA4]
 split;exact c _ _ rfl b;exact AA5 (AaY im _) b f
 grind
variable{k':Call}{t:AL}
structure YJ(m:AT)(AC thr':AA AL)(k k':Call):Prop where
 t:k'.t=k.t
 e:k'.e=k.e
 st:Ca m k.s k'.s
 w:∀w∈k.e.BY,Af AC w.1=Af thr' w.1
inductive TwD(m:AT)(AC thr':AA AL)(t0:AL)(s s':Az)(k k':Call):Prop
 |eq (h:YJ m AC thr' k k')
 |hid (h:fl k.t.g.Ad m=fF) (h':fl k'.t.g.Ad m=fF) (sc:k.t.AI=t0.AI) (a:k'.t.AI=t0.AI) (c:fl t0.g.A5 m=fF) (i:Inv m AC s k) (b:Inv m thr' s' k')
def cellS(s:Az)(id:Nm)(v:AW)(ex:Bool):Az:=match Am s id with
 |some o=>if o.kind=6 then Cn s id {o with v:=v,ex:=ex,done:=tT}else s
 |none=>s
def Vv{id}(h:Je m s id=none)(v)(ex:Bool):Ca m s (cellS s id v ex):=by
 rw[cellS];cases a:Am s id with
 |none=>exact Ca.refl _
 |some o=>
  have hl:fl o.l m=false:=by
   cases e:fl o.l m with
   |false=>rfl
   |true=>rw[AOc a e]at h;cases h
  dsimp only;split
  .exact λq=>(Xe (o:={o with v:=v,ex:=ex,done:=true}) hl q).symm
  exact Ca.refl _
theorem AbX(a:Ca m s s')(c v)(b:Bool):Ca m (cellS s c v b) (cellS s' c v b):=by
 cases e:Je m s c with
 |none=>exact(Vv e v b).symm.trans<|a.trans<|Vv ((a c).symm.trans e) v b
 |some o=>
  let⟨d,f⟩:=U5.1 e;unfold cellS;rw[d,a.some_ d f];dsimp only;split;exact a.set d f rfl;exact a
theorem Y8(k)(v)(ex:Bool):(E7 k v ex).t=Fq k.t v ex/\((Fq k.t v ex).Aw=3\/(Fq k.t v ex).Aw=4->(E7 k v ex).s=cellS k.s k.t.id v ex/\(E7 k v ex).e= {k.e with done:=tT})/\(¬((Fq k.t v ex).Aw=3\/(Fq k.t v ex).Aw=4)->(E7 k v ex).s=k.s/\(E7 k v ex).e=k.e):=by
 rw[E7];dsimp only;split
 grind
 rename_i h;exact⟨rfl,λ_=>⟨rfl,rfl⟩,gR⟩
theorem AFt(ht:k'.t=k.t)(he:k'.e=k.e)(hs:Ca m k.s k'.s)(hw: ∀w∈k.e.BY,Af AC w.1=Af thr' w.1)(v)(ex:Bool):YJ m AC thr' (E7 k v ex) (E7 k' v ex):=by obtain⟨a1,a2,a3⟩:=Y8 k v ex;obtain⟨a,b2,b3⟩:=Y8 k' v ex;rw[ht]at a b2 b3;by_cases h:(Fq k.t v ex).Aw=3\/(Fq k.t v ex).Aw=4;obtain⟨a4,a5⟩:=a2 h;obtain⟨c,b⟩:=b2 h;exact .mk (a.trans a1.symm) (by rw[a5,b,he]) (by grind[AbX]) (by rwa[a5]);constructor<;>grind
theorem AOH(f:k'.t=k.t)(d:k'.e=k.e)(e:Ca m k.s k'.s)(g:∀w∈k.e.BY,Af AC w.1=Af thr' w.1)(c)(b:Int)(a:Nat):YJ m AC thr' (EH k c b a) (EH k' c b a):=by
 unfold EH;generalize FF c b a=r;let⟨u,o⟩:=r;cases o with
 |failed v=>grind[AFt]
 |Iu=>constructor<;>grind
 |ended v=>constructor<;>grind
 |asked o=>constructor<;>grind
def AaU(k:Call)(c)(code:Int)(AP:Nat):(EH k c code AP).t.AI=k.t.AI:=by rw[EH];split;rw[(Y8 _ _ _).1];rfl;rfl
theorem AIJ(h:KI m M AC s)(d:t∈AC)(f:fl t.g.A5 m=fF)(c:t.AI=[]){o}(b:Am s t.id=sM o)(a:o.kind=6):fl o.l m=fF:=by
 cases e:fl o.l m with
 |false=>rfl
 |true=>
  have:=h.Km t d o b a e
  grind[Hv,fl]
theorem ASi{im AD}(h:KI m M AC s)(O:KI m M thr' s')(I:Af AC t.id=sM t)(J:Af thr' t.id=sM t)(aa:t.Aw=0)(Q:Ca m s s')(L:∀R y,Af AC R=sM y->fl y.g.Ad m->Af thr' R=sM y):
 TwD m AC thr' t s s' (C6 im t s AD) (C6 im t s' AD):=by
 have hn:∀(d:AA AL)(s:Az),KI m M d s->Af d t.id=sM t->∀c u n,GI {t with c:=c}=sM (u,n)->Am s n=nO:=λd s h I c u n H=>by
  let⟨_,F,_⟩:=Mf H;have F:=Vw F;have F:n=t.Bg++[t.A7]:=F;cases e:Am s n with
  |none=>rfl
  |some o=>
   exfalso;refine h.FQ t (D2 I) (t.Bg,t.A7) (by grind[Fu]) t.A7 (Ag _) n (.inl ⟨o,e⟩) ?_
   grind
 unfold C6;rw[AY oG,AY oG];dsimp only;cases hr:(Es im t.c (CV t).1 (CV t).2).2 with
 |Iu=>exact .eq ⟨rfl,rfl,Q,λw hw=>(by cases hw)⟩
 |ended v=>exact .eq<|(by grind[Es,CV,A8,AFt])
 |failed v=>exact .eq<|(by grind[Es,CV,A8,AFt])
 |asked o=>
  show TwD m AC thr' t s s' (Gt im AD (CV t).2 o ⟨s,t,A8⟩)<|Gt im AD (CV t).2 o ⟨s',t,A8⟩;unfold Gt;dsimp only;have G:=AQa (m:=m) (AC:=AC) (thr':=thr') (im:=im) (AD:=AD) (o:=o) (AR:=(t.c.top.getD Al).AR) (l:=Ct t.c<|BP o.code) (k:=⟨s,{t with c:=D4 (FR t.c<|BP o.code) λf=>{f with pc:=f.pc+1}},A8⟩) (s':=s') Q rfl h.qok O.qok L<|gR;have N:=λs=>AHZ (im:=im) (AD:=AD) (o:=o) (AR:=(t.c.top.getD Al).AR) (l:=Ct t.c<|BP o.code) (k:=⟨s,{t with c:=D4 (FR t.c<|BP o.code) λf=>{f with pc:=f.pc+1}},A8⟩);have r:=N s;have z:=N s';dsimp only at G;generalize CO im AD o _ _ ⟨s,_,A8⟩=q at G r⊢;generalize CO im AD o _ _ ⟨s',_,A8⟩=S at G z⊢;cases G with
  |eq C D i E j=>
   let⟨b,x⟩:=q;let⟨ab,T⟩:=S;have i:T=x:=i;subst i;cases T with
   |none=>exact .eq ⟨C,D,E,j⟩
   |some a=>exact .eq<|AOH C D E j _ _ _
  |hid C D i E j U V=>
   have A:∀(d:AA AL)(B:Az)(q:CR),KI m M d B->Af d t.id=sM t->fl q.1.t.g.Ad m=fF->q.1.t.AI=t.AI->Inv m d B q.1->(KM ⟨B,{t with c:=D4 (FR t.c<|BP o.code) λf=>{f with pc:=f.pc+1}},A8⟩ q)->
    fl (match q with|(b,nO)=>b|(b,sM a)=>EH b t.c a (CV t).2:Call).t.g.Ad m=fF/\(match q with|(b,nO)=>b|(b,sM a)=>EH b t.c a (CV t).2:Call).t.AI=t.AI/\Inv m d B (match q with|(b,nO)=>b|(b,sM a)=>EH b t.c a (CV t).2:Call):=by
    intro d B q hk K h1 l P h4;obtain⟨b,_|a⟩:=q;exact⟨h1,l,P⟩;let⟨g,e⟩:=h4 sP;have e:b=_:=e;refine⟨by grind[AMY],(AaU _ _ _ _).trans l,AFC P (λe1 o1 p h6=> ?_) _ _ _⟩;have e2:b.t.id=t.id:=by rw[e];rfl
    have l:b.t.AI=t.AI:=l;rw[e2]at p;exact AIJ hk (D2 K) j (l.symm.trans e1) p h6
   let⟨W,X,Y⟩:=A AC s q h I C i U r;let⟨c1,c2,Z⟩:=A thr' s' S O J D E V z;exact .hid W c1 X c2 j Y Z
theorem AOb(b:VX t m)(a:fl t.g.Ad m)(c:Af AC t.id=sM t):Cr m AC t.id=sM t:=by grind[Cr,ZN]
theorem ADr{P u}(h:TI m P M u)(e:C4 u m=sM t)(a:fl t.g.Ad m):u=t:=by
 by_cases b:fl u.g.Ad m;rw[ZN h.mono b]at e
 grind
 have b:fl u.g.Ad m=fF:=by simpa using b
 exfalso;let⟨j,i,_,_,d,_⟩:=WQ e b;have c:CF u m-1<lN u.AI:=oG;have g:u.AI[CF u m-1]? =sM (u.AI.getD (CF u m-1) Al):=by rw[DK,BS c];rfl
 generalize u.AI.getD (CF u m-1) Al=x at g d;rw[d]at a;have a:fl x.l m:=a;have f:=h.A5 _ x g a;rw[show CF u m-1+1=CF u m by omega]at f;have l:=OQ (h.cap _ i) f
 grind[Cx,Qq]
theorem Ul(h:KI m M AC s)(f:KI m M thr' s')(i:∀a,Cr m thr' a=Cr m AC a):∀a y,Af AC a=sM y->fl y.g.Ad m->Af thr' a=sM y:=by
 intro a y c d;have g:Cr m AC a=sM y:=by have:=E2 c;subst this;exact AOb (h.of c).mono d c
 have b:=(i a).trans g;rw[Cr]at b;cases e:Af thr' a with
 |none=>grind
 |some u=>
  rw[e]at b;have b:C4 u m=sM y:=b;rw[ADr (f.of e) b d]
theorem Xd{u a y y' id}(b:∀q,Cr m thr' q=Cr m AC q)(f:Af AC u.id=sM y)(c:Af thr' a.id=sM y')(hid:a.id=u.id)(d:C4 a m=C4 u m):Cr m (A1 thr' a) id=Cr m (A1 AC u) id:=by
 unfold Cr;rw[N4,N4,hid];by_cases e:id=u.id
 grind
 rw[AY e,AY e];exact b id
theorem Adp{u}(a:∀q,Cr m thr' q=Cr m AC q)(id):Cr m (CC thr' u) id=Cr m (CC AC u) id:=by unfold Cr;rw[Mp,Mp];split;rfl;exact a id
theorem Adr{w}(b:∀q,Cr m thr' q=Cr m AC q)(c:Af AC w.1=Af thr' w.1)(id):Cr m (Gi thr' w) id=Cr m (Gi AC w) id:=by
 unfold Gi;rw[<-c];cases a:Af AC w.1 with
 |none=>exact b id
 |some y=>
  have hid:=E2 a;refine Xd b (y:=y) (y':=y) ?_ ?_ rfl rfl;show Af AC y.id=_;rw[hid];exact a;show Af thr' y.id=_;grind
theorem ATy{r c}(n:Af AC t.id=sM t)(h:Af thr' t.id=sM t)(hid:r.t.id=t.id)(o:∀q,Cr m thr' q=Cr m AC q)(d:c.t=r.t)(f:c.e=r.e)(p:∀w∈r.e.BY,Af AC w.1=Af thr' w.1)(b:lN r.e.BY<=1)(a:lN r.e.BU<=1)(id):Cr m (Jt thr' c) id=Cr m (Jt AC r) id:=by
 unfold Jt;rw[d,f];have l:∀q,Cr m (A1 thr' r.t) q=Cr m (A1 AC r.t) q:=by grind[Xd]
 have j:(∀q,Cr m (r.e.BU.foldl CC<|A1 thr' r.t) q=Cr m (r.e.BU.foldl CC<|A1 AC r.t) q)/\∀q,Af AC q=Af thr' q->Af (r.e.BU.foldl CC<|A1 AC r.t) q=Af (r.e.BU.foldl CC<|A1 thr' r.t) q:=by
  have i:∀q,Af AC q=Af thr' q->Af (A1 AC r.t) q=Af (A1 thr' r.t) q:=λq g=>by rw[N4,N4,g]
  rcases Ii a with e|⟨u,e⟩
  grind
  grind[Adp,Mp]
 rcases Ii b with e|⟨w,e⟩
 grind
 grind[Adr]
theorem AJG{r}(h:KI m M AC s)(B:Af AC t.id=sM t)(b:FI m M AC t r)(g:Inv m AC s r)(p:r.t.AI=t.AI)(I:fl r.t.g.Ad m=fF)(hnew:∀u∈r.e.BU,Af AC u.id=nO)(v:lN r.e.BY<=1)(f:lN r.e.BU<=1)(q):
 Cr m (Jt AC r) q=Cr m (A1 AC r.t) q:=by
 have o:∀u∈r.e.BU,u.id≠t.id:=by grind
 have D:∀q,Cr m (r.e.BU.foldl CC<|A1 AC r.t) q=Cr m (A1 AC r.t) q:=by
  rcases Ii f with e|⟨u,e⟩
  grind
  have j:u∈r.e.BU:=by rw[e];exact DT
  let⟨q1,q2⟩:=g.BU u j;rw[e];intro q;show Cr m (CC (A1 AC r.t) u) q=_;rw[AJY (by rw[Sr<|by rw[b.id];exact o u j];exact hnew u j) q1 q2]
 unfold Jt;rcases Ii v with e|⟨w,e⟩;rw[e];exact D q;have z:w∈r.e.BY:=by rw[e];exact DT
 rw[e];show Cr m (Gi (r.e.BU.foldl CC<|A1 AC r.t) w) q=_;unfold Gi;split;rename_i y a;have C:=E2 a;have G:C4 (DX y w.2) m=C4 y m:=by
  by_cases n:w.1=t.id;have A:y=r.t:=by
   have:Af (r.e.BU.foldl CC<|A1 AC r.t) w.1=sM r.t:=by
    have F:Af (A1 AC r.t) w.1=sM r.t:=by rw[n,<-b.id];exact RD B b.id
    rcases Ii f with e|⟨u,e⟩;rw[e];exact F
    grind[Mp]
   rw[a]at this;exact FX this
  subst A;refine Sy (n:=lN r.t.AI) (Ag _) (by grind[Cx,Ik]) (λx l=> ?_) _;rw[FN,p]at l;have H:=Vh (h.of B) x l;have:=Dt (λc:Ay=>lN c.stack)<|b.cut x l
  grind[Dp,Ee]
  have d:(∃u∈r.e.BU,y=u)\/Af AC w.1=sM y:=by
   rcases Ii f with e|⟨u,e⟩;rw[e]at a;have a:Af (A1 AC r.t) w.1=sM y:=a;rw[Sr<|by rw[b.id];exact n]at a;exact .inr a;rw[e]at a;have a:Af (CC (A1 AC r.t) u) w.1=sM y:=a;rw[Mp]at a;split at a
   grind
   rw[Sr<|by rw[b.id];exact n]at a;exact .inr a
  rcases d with⟨u,j,E⟩|d;subst E;let⟨q1,q2⟩:=g.BU y j;simp_all[Cx,EF,Sy,Bm];exact Sy (Ag _) (by unfold Cx;rw[Ik];exact g.BY w z y d) (λx l=>Vh (h.of d) x<|Fg l) _
 grind[DX,U4]
 exact D q
theorem AU8{r e}(d:FI m M AC t r)(a:FI m M thr' t e)(c:r.t.AI=t.AI)(b:e.t.AI=t.AI)(j:fl r.t.g.Ad m=fF)(f:fl e.t.g.Ad m=fF):C4 e.t m=C4 r.t m:=by
 have h:Cx r.t m (lN t.AI)=fF:=by rw[Cx];rwa[<-c,Ik]
 have i:Cx e.t m (lN t.AI)=fF:=by rw[Cx];rwa[<-b,Ik]
 refine WO (a.id.trans d.id.symm) gR gR (by rw[c,b]) h i λx g=> ?_;rw[c,FN]at g;exact(a.cut x g).trans (d.cut x g).symm
variable{k k':Ap}{t':AL}
structure V2(m:AT)(k k':Ap):Prop where
 im:k'.im=k.im
 AD:k'.AD=k.AD
 th:∀id,Cr m k'.AC id=Cr m k.AC id
 st:Ca m k.Ah k'.Ah
 lg:D9 k' m=D9 k m
def V2.symm(h:V2 m k k'):V2 m k' k:=⟨h.im.symm,h.AD.symm,λa=>(h.th a).symm,h.st.symm,h.lg.symm⟩
def V2.left(h:V2 m k k'){j}(v:VE m k.AC j.AC k.Ah j.Ah)(b:j.im=k.im)(c:j.AD=k.AD)(d:D9 j m=D9 k m):V2 m j k':=
 ⟨h.im.trans b.symm,h.AD.trans c.symm,λa=>(h.th a).trans (v.th a).symm,v.st.symm.trans h.st,h.lg.trans d.symm⟩
def V2.right(h:V2 m k k'){j}(v:VE m k'.AC j.AC k'.Ah j.Ah)(a:j.im=k'.im)(b:j.AD=k'.AD)(c:D9 j m=D9 k' m):V2 m k j:=(h.symm.left v a b c).symm
theorem R8{p u:Type}{R:p->u->Prop}{f:p->Nm->p}{g:u->Nm->u}:∀(n:Nat)(l r:AA Nm),lN l+lN r<=n->l.Pairwise (λa b=>Dz a b)->r.Pairwise (λa b=>Dz a b)->
 (∀x∈l,x∉r->∀a b,R a b->R (f a x) b)->(∀x∈r,x∉l->∀a b,R a b->R a (g b x))->(∀x∈l,x∈r->∀a b,R a b->R (f a x) (g b x))->∀a b,R a b->R (l.foldl f a) (r.foldl g b)
 |_,[],[],_,_,_,_,_,_,_,_,h=>h
 |n,x::l,[],hn,hl,hr,h1,h2,h3,a,b,h=>by
  cases n with
  |zero=>simp at hn
  |succ n=>
   exact R8 n l [] (by simp at hn⊢;omega) (G4.1 hl).2 hr (λy i o=>h1 y (DY _ i) o) (λy i _=>by cases i) (λy _ i=>by cases i) _ _<|h1 x DT (λq=>by cases q) a b h
 |n,[],y::r,hn,hl,hr,h1,h2,h3,a,b,h=>by
  cases n with
  |zero=>simp at hn
  |succ n=>
   exact R8 n [] r (by simp at hn⊢;omega) hl (G4.1 hr).2 (λy i _=>by cases i) (λz d c=>h2 z (DY _ d) c) nA _ _<|h2 y DT (λq=>by cases q) a b h
 |n,x::l,y::r,hn,hl,hr,h1,h2,h3,a,b,h=>by
  cases n with
  |zero=>simp at hn
  |succ n=>
   have A:=(G4.1 hl).1;have B:=(G4.1 hr).1;by_cases e:x=y;subst e;refine R8 n l r (by simp at hn⊢;omega) (G4.1 hl).2 (G4.1 hr).2 (λz d c=>h1 z (DY _ d) λq=> ?_) (λz d c=>h2 z (DY _ d) λq=> ?_) (gR) _ _<|h3 x DT DT a b h
   grind[Ma]
   grind[Ma]
   by_cases j:Dz x y;have v:x∉y::r:=by grind[UO,Ma]
   refine R8 n l (y::r) (by simp at hn⊢;omega) (G4.1 hl).2 hr (λz d c=>h1 z (DY _ d) c) (λz d c=>h2 z d λq=> ?_) (λz d c=>h3 z (DY _ d) c) _ _<|h1 x DT v a b h
   grind
   have w:Dz y x:=AEV e (by simpa using j);have i:y∉x::l:=by grind
   refine R8 n (x::l) r (by simp at hn⊢;omega) hl (G4.1 hr).2 (λz d c=>h1 z d λq=> ?_) (λz d c=>h2 z (DY _ d) c) (λz d c=>h3 z d<|DY _ c) _ _<|h2 y DT i a b h
   grind
def ZQ{l}(h:Fi l):(l.map (·.id)).Pairwise (λa b=>Dz a b):=Xs.2 h
def waits(l:AA AL):Nat:=l.countP λt=>t.Aw==1
theorem ABG{u}(a:u.Aw≠1):∀l:AA AL,waits (A1 l u)<=waits l
 |[]=>Ag _
 |x::l=>by
  have b:=ABG a l
  grind[waits,A1]
theorem Sx{u}(b:u.Aw≠1){t}(a:t.Aw=1):∀l:AA AL,Af l u.id=sM t->waits (A1 l u)<waits l
 |[],h=>by cases h
 |x::l,h=>by
  have c:=Sx b a l
  grind[Af,waits,A1,ABG]
theorem AOd(l):waits l<=lN l:=AO1
theorem Sd(t s v)(a:Bool):(Dv t s v a).t.Aw≠1:=by rw[Dv];split;show(0:Nat)≠1;decide;rw[EH];split;rw[(Y8 _ _ _).1];show(if 0<_ then 2 else if tT=tT then 4 else 3)≠1;split<;>decide;show(0:Nat)≠1;decide
def HA(n:Nat)(a:Nm)(k:Ap)(other:Nm):Ap:=
 match Af k.AC other with
  |none=>k
  |some t=>
   if t.Aw≠1\/t.on≠a then k
   else match Am k.Ah a with
    |none=>k
    |some o=>if o.kind≠6\/ !o.done then k
     else
      let r:=Dv t k.Ah o.v o.ex;let k:={k with Ah:=r.s,AC:=A1 k.AC r.t}
      if r.e.done then GD n k other else k
def Tn(n k a):GD (n+1) k a=(k.AC.map (·.id)).foldl (HA n a) k:=rfl
theorem AIq:∀(n:Nat)(k:Ap)(a:Nm),(GD n k a).AC.map (·.id)=k.AC.map (·.id)/\waits (GD n k a).AC<=waits k.AC
 |0,_,_=>⟨rfl,Ag _⟩
 |n+1,k,a=>by rw[Tn];refine NC (P:=λk':Ap=>k'.AC.map (·.id)=k.AC.map (·.id)/\waits k'.AC<=waits k.AC) (λk' x h=> ?_) _ ⟨rfl,Ag _⟩;rw[HA];split;exact h;split;exact h;split;exact h;split;exact h;dsimp only;have b:=ABG (Sd (by assumption) k'.Ah (Ob.v<|by assumption)<|Ob.ex<|by assumption) k'.AC;split;have c:=AIq n {k' with Ah:=(Dv (by assumption) k'.Ah (Ob.v<|by assumption)<|Ob.ex<|by assumption).s,AC:=A1 k'.AC (Dv (by assumption) k'.Ah (Ob.v<|by assumption)<|Ob.ex<|by assumption).t} x;exact⟨c.1.trans<|(ZR _ _).trans h.1,Ch c.2<|Ch b h.2⟩;exact⟨(ZR _ _).trans h.1,Ch b h.2⟩
theorem Yu(n k a x):(HA n a k x).AC.map (·.id)=k.AC.map (·.id)/\waits (HA n a k x).AC<=waits k.AC:=by grind[HA,ABG,Sd,AIq,ZR,Nat.le_trans]
theorem AIo(n k a x):(HA n a k x).B5=k.B5/\(HA n a k x).Bj=k.Bj/\(HA n a k x).AD=k.AD/\(HA n a k x).im=k.im:=by grind[HA,Kp]
theorem Yv(n)(h:KK m M k)(g x):KK m M (HA n g k x):=by
 rw[HA];split;exact h;rename_i t d;split;exact h;rename_i a;simp[Jk,Ka]at a;split;exact h;rename_i o f;split;exact h;rename_i b;simp[Jk,Ka]at b;have c:=Q9 h.ki h.kq (t:=t) (by rwa[E2 d]) a.1 (by rwa[a.2]) b.1;have e:KK m M {k with Ah:=(Dv t k.Ah o.v o.ex).s,AC:=A1 k.AC (Dv t k.Ah o.v o.ex).t}:=⟨c.1,c.2.1⟩
 grind[Yw]
theorem AIn(n)(h:KK m M k)(v x)(C:∀t,Af k.AC x=sM t->fl t.g.Ad m=fF):VE m k.AC (HA n v k x).AC k.Ah (HA n v k x).Ah:=by
 rw[HA];split;exact .refl _ _;rename_i t g;split;exact .refl _ _;rename_i f;simp[Jk,Ka]at f;split;exact .refl _ _;rename_i o A;split;exact .refl _ _;rename_i j;simp[Jk,Ka]at j;have a:=E2 g;have c:Am k.Ah t.on=sM o:=by rwa[f.2]
 have b:Af k.AC t.id=sM t:=by rwa[a]
 have u:=Q9 h.ki h.kq b f.1 c j.1;let⟨D,w,r3⟩:=AMk h.ki h.kq b f.1 c j.1<|C t g;have p:KK m M {k with Ah:=(Dv t k.Ah o.v o.ex).s,AC:=A1 k.AC (Dv t k.Ah o.v o.ex).t}:=⟨u.1,u.2.1⟩;have d:VE m k.AC (A1 k.AC (Dv t k.Ah o.v o.ex).t) k.Ah (Dv t k.Ah o.v o.ex).s:=⟨λq=>U4 b u.2.2 D q,w⟩;dsimp only;split;rename_i l;refine d.trans<|V3 n (k:={k with Ah:=(Dv t k.Ah o.v o.ex).s,AC:=A1 k.AC (Dv t k.Ah o.v o.ex).t}) x p λo2 r i=> ?_;have B:=r3 l;cases e:fl o2.l m with
 |false=>rfl
 |true=>
  have:=Yg h.ki (D2 g) (by grind[EF]) (by rw[a];exact w.symm.some_ r e) i
  grind
 exact d
def ALj(h:KI m M AC s){x}(b:Cr m AC x=nO):∀t,Af AC x=sM t->fl t.g.Ad m=fF:=by
 intro t a;cases e:fl t.g.Ad m with
 |false=>rfl
 |true=>
  have hid:=E2 a;subst hid;rw[AOb (h.of a).mono e a]at b;cases b
theorem ABE{x}(h:x∉AC.map (·.id)):Cr m AC x=nO:=by grind[Cr,Af]
def UL{a b}(h:a.Bj=b.Bj):D9 a m=D9 b m:=by unfold D9;rw[h]
theorem AIs:∀(n j:Nat) {k k':Ap} (f:Nm),KK m M k->KK m M k'->V2 m k k'->waits k.AC<n->waits k'.AC<j->V2 m (GD n k f) (GD j k' f)
 |0,_,_,_,_,_,_,_,h,_=>absurd h<|Xx _
 |_+1,0,_,_,_,_,_,_,_,h=>absurd h<|Xx _
 |n+1,j+1,k,k',f,h,h',hv,H,Z=>by
  rw[Tn,Tn];have v:∀a c x,KK m M a->V2 m a c->(∀t,Af a.AC x=sM t->fl t.g.Ad m=fF)->V2 m (HA n f a x) c:=λa c x g b z=>by let⟨_,P,Q,R⟩:=AIo n a f x;exact b.left (AIn n g f x z) R Q<|UL P
  have l:∀a c x,KK m M c->V2 m a c->(∀t,Af c.AC x=sM t->fl t.g.Ad m=fF)->V2 m a (HA j f c x):=λa c x g b z=>by let⟨_,P,Q,R⟩:=AIo j c f x;exact b.right (AIn j g f x z) R Q<|UL P
  refine(R8 (R:=λa c:Ap=>(KK m M a/\KK m M c/\V2 m a c)/\(waits a.AC<n+1/\waits c.AC<j+1)/\a.AC.map (·.id)=k.AC.map (·.id)/\c.AC.map (·.id)=k'.AC.map (·.id)) _ _ _ (Ag _) (ZQ h.ki.E0) (ZQ h'.ki.E0) ?_ ?_ ?_ k k' ⟨⟨h,h',hv⟩,⟨H,Z⟩,rfl,rfl⟩).1.2.2;rintro x z I a c ⟨⟨g,d,b⟩,⟨w1,w2⟩,J,K⟩;let⟨L,j2⟩:=Yu n a f x;refine⟨⟨Yv n g f x,d,v a c x g b<|ALj g.ki ?_⟩,⟨oG,w2⟩,L.trans J,K⟩;rw[<-b.th];grind[ABE]
  rintro x z I a c ⟨⟨g,d,b⟩,⟨w1,w2⟩,J,K⟩;let⟨L,j2⟩:=Yu j c f x;refine⟨⟨g,Yv j d f x,l a c x d b<|ALj d.ki ?_⟩,⟨w1,oG⟩,J,L.trans K⟩;rw[b.th];grind[ABE]
  rintro x z I a c ⟨⟨g,d,b⟩,⟨w1,w2⟩,J,K⟩;let⟨L,j2⟩:=Yu n a f x;let⟨j3,j4⟩:=Yu j c f x;refine⟨⟨Yv n g f x,Yv j d f x,?_⟩,⟨oG,oG⟩,L.trans J,j3.trans K⟩;have aa:=Ul d.ki g.ki λq=>(b.th q).symm;by_cases D:∃t,Af a.AC x=sM t/\fl t.g.Ad m;let⟨t,E,hc⟩:=D;have F:=(Ul g.ki d.ki b.th) x t E hc;have p:=E2 E;unfold HA;rw[E,F];dsimp only;by_cases e:t.Aw≠1\/t.on≠f
  grind
  rw[AY e,AY e];simp[Jk,Ka]at e;let⟨o,N,U⟩:=g.ki.H8 t (D2 E) e.1 hc;have C:=b.st.some_ N U;rw[e.2]at N C;rw[N,C];dsimp only;by_cases A:o.kind≠6\/(!o.done)
  grind
  rw[AY A,AY A];simp[Jk,Ka]at A;have X:Af a.AC t.id=sM t:=by rwa[p]
  have G:Af c.AC t.id=sM t:=by rwa[p]
  have V:=Q9 g.ki g.kq X e.1 (by rwa[e.2]) A.1;have y:=Q9 d.ki d.kq G e.1 gR A.1;have i:YJ m a.AC c.AC (Dv t a.Ah o.v o.ex) (Dv t c.Ah o.v o.ex):=by unfold Dv;split;exact⟨rfl,rfl,b.st,nA⟩;exact AOH (k:=⟨a.Ah,DX t [],A8⟩) (k':=⟨c.Ah,DX t [],A8⟩) rfl rfl b.st nA _ _ _
  have hrs:=Sd t a.Ah o.v o.ex;have u:=Sd t c.Ah o.v o.ex;generalize Dv t a.Ah o.v o.ex=r at V i hrs⊢;generalize Dv t c.Ah o.v o.ex=O at y i u⊢;have S:KK m M {a with Ah:=r.s,AC:=A1 a.AC r.t}:=⟨V.1,V.2.1⟩;have T:KK m M {c with Ah:=O.s,AC:=A1 c.AC O.t}:=⟨y.1,y.2.1⟩;have Y:V2 m {a with Ah:=r.s,AC:=A1 a.AC r.t} {c with Ah:=O.s,AC:=A1 c.AC O.t}:=
   ⟨b.im,b.AD,λq=>Xd b.th (y:=t) (y':=t) gR gR (by rw[i.t])<|by rw[i.t],i.st,b.lg⟩
  rw[i.e];by_cases B:r.e.done;rw[Ac B,Ac B];have q1:=Sx hrs e.1 a.AC gR;have q2:=Sx u e.1 c.AC gR;exact AIs n j x S T Y gR gR
  grind
  grind
def Zy(h:VX t m){i j}(a:i<=j)(c:j<=lN t.AI)(b:Cx t m i=fF):Cx t m j=fF:=by
 cases e:Cx t m j with
 |false=>rfl
 |true=>rw[h.out i j a c e]at b;cases b
theorem AUX(h:KI m M AC s)(j:Af AC t.id=sM t)(g:t.Aw=1)(c:fl t.g.Ad m=fF):Ca m s (Gy s t.on t.id):=by
 rw[Gy];cases f:Am s t.on with
 |none=>exact Ca.refl _
 |some o=>
  dsimp only;split;cases e:KV o.var t.id with
  |none=>exact Ca.refl _
  |some x=>
   obtain⟨i,w,d,l,rfl⟩:=AEK e;let⟨y,a,_,_,b⟩:=(h.Dn _ o f).2 w<|De d;rw[l,j]at a;cases a;exact λq=>(Xe (o:={o with var:=⟨o.var.full,o.var.v,o.var.q.eraseIdx i⟩}) (by show fl o.l m=fF;rwa[<-b]) q).symm
  exact Ca.refl _
def AUZ(h:KI m M AC s)(g:Af AC t.id=sM t)(e:t.Aw=1)(f:fl t.g.Ad m)(b:Ca m s s'):Ca m (Gy s t.on t.id) (Gy s' t.on t.id):=by
 let⟨o,c,a⟩:=h.H8 t (D2 g) e f;unfold Gy;rw[c,b.some_ c a];dsimp only;split;cases i:KV o.var t.id with
 |none=>exact b
 |some x=>exact b.set c a rfl
 exact b
theorem ANM{P}(h:TI m P M t){i}(b:i<lN t.AI)(d:Cx t m (i+1)=fF):fl t.AI[i].l m=fF:=by
 cases e:fl t.AI[i].l m with
 |false=>rfl
 |true=>
  have c:=OQ (h.cap (i+1) oG)<|h.A5 i _ (BS b) e
  grind[Cx]
def AXJ{i}(a:i<lN t.AI){j}(b:j<=i):EF (GH t i) j=EF t j:=by have:=(AEM a).1 j b;rwa[AKi]
def Qd{i}(a:i<lN t.AI):t.AI.getD i Al=t.AI[i]:=by simp[DK,a]
theorem AXG{P}(h:TI m P M t){i}(f:i<lN t.AI):∀x∈t.AI.take i,Dp (GH t i).c x=Dp t.c x:=λx p=>by
 obtain⟨j,o,rfl⟩:=Kc p;rw[Cu]at o;have g:j<i:=oG;have c:t.AI[j]'oG∈t.AI:=DR _;have d:=Lx.1 h.nest j i oG f g;rw[VN];generalize t.AI[j]'oG=a at c d;have n:t.AI[i]∈t.AI:=DR f;have e:(GH t i).c=Df (Dp t.c t.AI[i]) (BZ 3 t.AI[i].name t.AI[i].l):=by rw[GH];dsimp only;rw[Qd f];rfl
 rw[e];generalize t.AI[i]=b at n d;rw[(No (ALt (h.at_ a c) (h.at_ b n) d.1 d.2.1 d.2.2) _).eq]
 grind[Dp,Ee]
def NE(s:Az)(t:AL):Az:=if t.Aw=1 then Gy s t.on t.id else s
def AEL(k t i):I4 k t i= {k with Ah:=Cy (NE k.Ah t) (t.AI.getD i Al).name<|GF t i,AC:=A1 k.AC<|GH t i}:=rfl
theorem ADd(h:KI m M AC s)(b:Af AC t.id=sM t)(a:fl t.g.Ad m=fF):Ca m s (NE s t):=by grind[NE,AUX,Ca.refl]
theorem AJU(h:KI m M AC s)(b:KQ s)(d:Af AC t.id=sM t){n}(c:Am s n=nO):Am (NE s t) n=nO:=by rw[NE];split;rename_i a;have:=(AJW h b d a).2.2.2 n;simp_all;exact c
theorem AXH(h:KK m M k)(d:Af k.AC t.id=sM t){i}(c:i<lN t.AI)(e:Cx t m i=fF):VE m k.AC (I4 k t i).AC k.Ah (I4 k t i).Ah:=by
 have a:=h.ki.of d;have b:fl t.g.Ad m=fF:=by have:=Zy a.mono (Ly c) (Ag _) e;rw[Cx]at this;rwa [Ik]at this
 have f:fl (t.AI.getD i Al).l m=fF:=by rw[Qd c];exact ANM a c<|Zy a.mono (Cv i) oG e
 rw[AEL];refine⟨λq=> ?_,?_⟩;refine U4 (u:=GH t i) d rfl ?_ q;have g:(GH t i).AI=t.AI.take i:=rfl;refine WO (n:=i) rfl (Ly c) gR gR e (by simp_all[Cx,AXJ,Ag])<|AXG a c;exact(ADd h.ki d b).trans λq=>(ABF (by show fl (GF t i).l m=fF;exact f) q).symm
structure TQ(t t':AL)(i:Nat):Prop where
 id:t'.id=t.id
 l:i<lN t.AI
 l':i<lN t'.AI
 sc:t'.AI.take (i+1)=t.AI.take (i+1)
 cut:Dp t'.c t.AI[i]=Dp t.c t.AI[i]
theorem TQ.at_{i}(h:TQ t t' i):t'.AI.getD i Al=t.AI.getD i Al:=by
 have:=Dt (λl=>l[i]?) h.sc
 grind
def TQ.leave{i}(h:TQ t t' i):GH t' i=GH t i:=by
 have b:t'.AI.take i=t.AI.take i:=by have:=Dt (List.take i) h.sc;simpa[IA]using this
 have c:Ee t'.c (t.AI.getD i Al).AG (t.AI.getD i Al).Cg (t.AI.getD i Al).AP=Ee t.c (t.AI.getD i Al).AG (t.AI.getD i Al).Cg (t.AI.getD i Al).AP:=by rw[Qd h.l];exact h.cut
 unfold GH;rw[h.at_,b];dsimp only;rw[c,h.id]
theorem AKj(h:KK m M k)(c:KK m M k')(f:V2 m k k')(e:Af k.AC t.id=sM t)(a:Af k'.AC t'.id=sM t'){i}(b:TQ t t' i)(l:Ca m (NE k.Ah t)<|NE k'.Ah t')(o:fl (t.AI.getD i Al).l m->GF t' i=GF t i):V2 m (I4 k t i) (I4 k' t' i):=by
 have n:=h.ki.of e;have j:=c.ki.of a;have g:=b.at_;have p:Am (NE k.Ah t) (t.AI.getD i Al).name=nO:=AJU h.ki h.kq e (by rw[Qd b.l];exact h.ki.Ja t (D2 e) _<|DR b.l);have r:Am (NE k'.Ah t') (t.AI.getD i Al).name=nO:=AJU c.ki c.kq a (by rw[<-g,Qd b.l'];exact c.ki.Ja t' (D2 a) _<|DR b.l');rw[AEL,AEL,g];refine⟨f.im,f.AD,λq=>Xd f.th (y:=t) (y':=t') e a b.id<|by rw[b.leave],?_,f.lg⟩;show Ca m (Cy (NE k.Ah t) (t.AI.getD i Al).name<|GF t i)<|Cy (NE k'.Ah t') (t.AI.getD i Al).name<|GF t' i;by_cases d:fl (t.AI.getD i Al).l m
 grind[AAp]
 have d:fl (t.AI.getD i Al).l m=fF:=by simpa using d
 exact l.AHH (by exact d) (by show fl (t'.AI.getD i Al).l m=fF;rwa[g])
theorem AIx{a i}(h:IU t a=sM i)(c:t'.AI.take (i+1)=t.AI.take (i+1))(n:i<lN t'.AI):IU t' a=sM i:=by
 unfold IU at*;rw[Lv]at h⊢;let⟨e,f,g⟩:=h;have d:∀j (b:j<=i),t'.AI[j]'oG=t.AI[j]'oG:=λj b=>by
  have:=Dt (λl=>l[j]?) c
  grind
 grind
def YQ(k x):(Fp k x).AC.map (·.id)=k.AC.map (·.id):=by rw[Fp];split;split;exact ZR _ _;rfl;rfl
theorem AHh(h:KK m M k)(x)(b:∀t,Af k.AC x=sM t->∀i,IU t k.AD=sM i->Cx t m i=fF):VE m k.AC (Fp k x).AC k.Ah (Fp k x).Ah:=by
 rw[Fp];split;rename_i t a;have hid:=E2 a;split
 grind[AXH,PK]
 exact .refl _ _;exact .refl _ _
theorem WR{P}(h:TI m P M t)(b:C4 t m=nO):Cx t m 0=fF:=by
 cases e:Cx t m 0 with
 |false=>rfl
 |true=>
  exfalso;have a:CF t m≠0:=by grind[Qq]
  grind[C4]
theorem AQu(h:KK m M k)(Y:KK m M k')(R:V2 m k k'):V2 m (Fo k) (Fo k'):=by
 unfold Fo;have I:∀a d x,KK m M a->V2 m a d->(∀t,Af a.AC x=sM t->∀i,IU t a.AD=sM i->Cx t m i=fF)->V2 m (Fp a x) d:=λa d x g b C=>by let⟨K,W,X,_⟩:=YR a x;exact b.left (AHh g x C) K W<|UL X
 have D:∀a d x,KK m M d->V2 m a d->(∀t,Af d.AC x=sM t->∀i,IU t d.AD=sM i->Cx t m i=fF)->V2 m a (Fp d x):=λa d x g b C=>by let⟨K,W,X,_⟩:=YR d x;exact b.right (AHh g x C) K W<|UL X
 have v:∀a:Ap,KK m M a->∀x,Cr m a.AC x=nO->∀t,Af a.AC x=sM t->∀i,IU t a.AD=sM i->Cx t m i=fF:=λa g x C t B i j=>by unfold Cr at C;rw[B]at C;have z:=g.ki.G3 t<|D2 B;exact Zy z.mono (Bm _) (Ly<|PK j)<|WR z C
 refine(R8 (R:=λa d:Ap=>(KK m M a/\KK m M d/\V2 m a d)/\a.AC.map (·.id)=k.AC.map (·.id)/\d.AC.map (·.id)=k'.AC.map (·.id)) _ _ _ (Ag _) (ZQ h.ki.E0) (ZQ Y.ki.E0) ?_ ?_ ?_ {k with AD:=k.AD+1} {k' with AD:=k'.AD+1} ⟨⟨⟨h.ki,h.kq⟩,⟨Y.ki,Y.kq⟩,R.im,by rw[R.AD],R.th,R.st,R.lg⟩,rfl,rfl⟩).1.2.2;rintro x C S a d ⟨⟨g,f,b⟩,U,V⟩;refine⟨⟨Rk g x,f,I a d x g b<|v a g x ?_⟩,(YQ a x).trans U,V⟩;rw[<-b.th];grind[ABE]
 rintro x C S a d ⟨⟨g,f,b⟩,U,V⟩;refine⟨⟨g,Rk f x,D a d x f b<|v d f x ?_⟩,U,(YQ d x).trans V⟩;rw[b.th];grind[ABE]
 rintro x C S a d ⟨⟨g,f,b⟩,U,V⟩;refine⟨⟨Rk g x,Rk f x,?_⟩,(YQ a x).trans U,(YQ d x).trans V⟩;have ac:=Ul f.ki g.ki λq=>(b.th q).symm;cases B:Af a.AC x with
 |none=>
  grind[XX]
 |some t=>
  cases n:Af d.AC x with
  |none=>
   grind[XX]
  |some t'=>
   have hid:=E2 B;have r:=E2 n;have A:Af a.AC t.id=sM t:=by rw[hid];exact B
   have o:Af d.AC t'.id=sM t':=by rw[r];exact n
   have z:=g.ki.of A;have Q:=f.ki.of o;by_cases F:fl t.g.Ad m;have e:=(Ul g.ki f.ki b.th) x t B F;rw[n]at e;cases e;unfold Fp;rw[B,n];dsimp only;rw[b.AD];cases L:IU t a.AD with
   |none=>exact b
   |some i=>
    have j:=PK L;refine AKj g f b A o ⟨rfl,j,j,rfl,rfl⟩ ?_ λ_=>rfl;unfold NE;split;rename_i ad;exact AUZ g.ki A ad F b.st;exact b.st
   have F:fl t.g.Ad m=fF:=by simpa using F
   have G:fl t'.g.Ad m=fF:=by
    cases e:fl t'.g.Ad m with
    |false=>rfl
    |true=>
     have:=ac x t' n e;rw[B]at this;cases this;rw[F]at e;cases e
   have N:C4 t' m=C4 t m:=by have:=b.th x;unfold Cr at this;rw[B,n]at this;exact this
   cases hu:C4 t m with
   |none=>
    grind[Cr]
   |some u=>
    rw[hu]at N;let⟨p1,p2,p3,p4,p5,p6,p7⟩:=WQ hu F;let⟨q1,q2,q3,q4,q5,q6,q7⟩:=WQ N G;have O:CF t' m=CF t m:=by have h1:=Dt List.length p3;have h2:=Dt List.length q3;rw[Cu]at h1 h2;omega
    have w:t'.AI.take (CF t m)=t.AI.take (CF t m):=by rw[<-p3,q3,O]
    have aa:∀y:AL,TI m (DC m a.Ah) M y\/TI m (DC m d.Ah) M y->fl y.g.Ad m=fF->∀i,i<lN y.AI->CF y m<=i->Cx y m i=fF:=λy hy aj i j hk=>by
     have hm:VX y m:=by rcases hy with q|q<;>exact q.mono
     exact Zy hm hk (Ly j)<|Qq y m oG
    by_cases P:∃i,IU t a.AD=sM i/\i<CF t m;let⟨i,L,af⟩:=P;have j:=PK L;have J:t'.AI.take (i+1)=t.AI.take (i+1):=by
     have:=Dt (List.take<|i+1) w
     grind
    have H:i<lN t'.AI:=oG;have Z:IU t' a.AD=sM i:=AIx L J H;unfold Fp;rw[B,n];dsimp only;rw[b.AD,L,Z];have ae:t.AI.getD (CF t m-1) Al=t.AI[CF t m-1]'oG:=Qd oG;have T:t'.AI.getD (CF t' m-1) Al=t.AI[CF t m-1]'oG:=by rw[O];have:=Dt (λl=>l[CF t m-1]?) w;simp only[GO,Ac<|show CF t m-1<CF t m by omega]at this;rw[DK,this,BS oG];rfl
    have p:Dp t'.c (t.AI[CF t m-1]'oG)=Dp t.c (t.AI[CF t m-1]'oG):=by rw[ae]at p6;rw[T]at q6;rw[<-p6,<-q6]
    have E:Dp t'.c t.AI[i]=Dp t.c t.AI[i]:=by
     by_cases e:i=CF t m-1;subst e;exact p;have hn:=Lx.1 z.nest i (CF t m-1) j oG oG;have K:=Dt (λc=>Dp c t.AI[i]) p
     grind[Dp,Ee]
    refine AKj g f b A o ⟨by rw[hid,r],j,H,J,E⟩ ((ADd g.ki A F).symm.trans<|b.st.trans<|ADd f.ki o G) λhl=> ?_;have K:=(TQ.mk (t:=t) (t':=t') (i:=i) (by rw[hid,r]) j H J E).at_;have ag:i+1<CF t m:=by
     rcases Jj (i+1) (CF t m)with q|q;exact q;exfalso;rw[Qd j]at hl;have:=ANM z j (by grind[Qq])
     grind
    grind[IF,BH,GF]
    have ah:∀i,IU t a.AD=sM i->Cx t m i=fF:=by grind[PK]
    have ai:∀i,IU t' d.AD=sM i->Cx t' m i=fF:=λi j=>aa t' (.inr Q) G i (PK j) (by
     rcases Jj i (CF t' m)with q|q;exfalso;rw[b.AD]at j
     grind[AIx]
     exact q)
    grind
theorem ANE{b}(c:Af k.AC b=sM t)(a:t.Aw=0):(runK k b).1.B5=k.B5++(C6 k.im t k.Ah k.AD).e.Bo.map λx:Gr=>(⟨k.AD,b,x⟩:Lk):=by rw[run_eq c a];dsimp only;split;rw[(Kp _ _ _).1];rfl;rfl
def XK{b}(c:Af k.AC b=sM t)(a:t.Aw=0)(h:∀x∈(runK k b).1.B5,Hr m x.e.AR):∀x∈(C6 k.im t k.Ah k.AD).e.Bo,Hr m x.AR:=λx d=>by rw[ANE c a]at h;exact h ⟨k.AD,b,x⟩<|HZ _<|BI.2 ⟨x,d,rfl⟩
def ADL(h:KK m M k)(d:Ie k.im/\∃A S,BK A S k.AC k.Ah)(c:Af k.AC t.id=sM t)(b:t.Aw=0):BE (C6 k.im t k.Ah k.AD).e:=by let⟨e,A,S,a⟩:=d;exact(AC6 (im:=k.im) (AD:=k.AD) e (a.ts t<|D2 c) b a.os a.sl λv f=>((h.ki.of c).FL.st v f).Cj).2
theorem ALa(h:KK m M k)(d:Af k.AC t.id=sM t)(b:t.Aw=0):∀u∈(C6 k.im t k.Ah k.AD).e.BU,Af k.AC u.id=nO:=λu f=>by
 rcases (AC8 (im:=k.im) (s:=k.Ah) (AD:=k.AD) b λv g=>((h.ki.of d).FL.st v g).Cj) with c|⟨x,c,i⟩
 grind
 rw[c]at f;rw[A9.1 f,i];cases e:Af k.AC (t.Bg++[t.A7])with
 |none=>rfl
 |some y=>
  exfalso;have j:=E2 e;exact h.ki.FQ t (D2 d) (t.Bg,t.A7) (by grind[Fu]) t.A7 (Ag _) y.id (.inr ⟨y,D2 e,DT⟩) gR
theorem AES(k a r):D9 (Fb k a r) m=D9 k m++(r.e.out.map λx:AT×AW=>(⟨k.AD,a,x.1,x.2⟩:FU)).filter (λf=>fl f.l m):=by grind[D9,Fb]
theorem AKw(k a){r}(h:∀x∈r.e.out,fl x.1 m=fF):D9 (Fb k a r) m=D9 k m:=by grind[AES,List.filter_eq_nil_iff]
theorem ALK(h:KK m M k)(i:Af k.AC t.id=sM t){r}(a:Inv m k.AC k.Ah r)(b:r.t.AI=t.AI)(d:fl t.g.A5 m=fF)(f:r.t.AI=[]):∀o,Am r.s t.id=sM o->o.kind=6->fl o.l m=fF:=λo g c=>by
 cases e:fl o.l m with
 |false=>rfl
 |true=>
  have:=AIJ h.ki (D2 i) d (b.symm.trans f) (a.B0.symm.some_ g e) c
  grind
def ANF(i:IQ k.im)(l:∀a b,M a->M (a&&&b))(h:KK m M k)(n:Ie k.im/\∃A S,BK A S k.AC k.Ah)(f)(o:∀t,Af k.AC f=sM t->fl t.g.Ad m=fF)(j:∀x∈(runK k f).1.B5,Hr m x.e.AR):
 VE m k.AC (runK k f).1.AC k.Ah (runK k f).1.Ah/\D9 (runK k f).1 m=D9 k m:=by
 cases d:Af k.AC f with
 |none=>
  have e:runK k f=(k,fF):=by rw[runK];rw[d]
  rw[e];exact⟨.refl _ _,rfl⟩
 |some t=>
  have hid:=E2 d;subst hid;by_cases c:t.Aw=0;have g:=ADL h n d c;exact Aa7 i l h d (o t d) (XK d c j) g.wk.1 g.fk.1;have e:runK k t.id=(k,fF):=by rw[runK];rw[d];dsimp only;rw[Ac c]
  rw[e];exact⟨.refl _ _,rfl⟩
theorem AbF(y:IQ k.im)(G:∀a b,M a->M (a&&&b))(h:KK m M k)(v:KK m M k')(hb:Ie k.im/\∃A S,BK A S k.AC k.Ah)(H:Ie k'.im/\∃A S,BK A S k'.AC k'.Ah)(g:V2 m k k')(i)
 (D:∀x∈(runK k i).1.B5,Hr m x.e.AR) (u:∀x∈(runK k' i).1.B5,Hr m x.e.AR):V2 m (runK k i).1 (runK k' i).1:=by
 have p:IQ k'.im:=by rwa[g.im]
 have J:=Ul h.ki v.ki g.th;have aa:=Ul v.ki h.ki λq=>(g.th q).symm;have e:∀(j:Ap)(i:Nm),(runK j i).1.AD=j.AD/\(runK j i).1.im=j.im:=by grind[runK,Oz,Kp]
 by_cases K:∃t,Af k.AC i=sM t/\fl t.g.Ad m;let⟨t,l,hc⟩:=K;have d:=J i t l hc;have hid:=E2 l;subst hid;by_cases c:t.Aw=0;have w:=ADL h hb l c;have n:=ADL v H d c;have o:=Tl y G (AD:=k.AD) h.ki l c<|XK l c D;have f:=Tl p G (AD:=k'.AD) v.ki d c<|XK d c u;have hm:=AEf y G h l c<|XK l c D;have I:=AEf p G v d c<|XK d c u;have W:=ALa h l c;have B:=ALa v d c;have X:=ASi (im:=k.im) (AD:=k.AD) h.ki v.ki l d c g.st J;have U:=AC7 (im:=k.im) (t:=t) (s:=k.Ah) (AD:=k.AD);have z:=AC7 (im:=k'.im) (t:=t) (s:=k'.Ah) (AD:=k'.AD);rw[run_eq l c,run_eq d c];dsimp only;rw[g.im,g.AD]at n f I B z⊢;generalize C6 k.im t k.Ah k.AD=r at*;generalize C6 k.im t k'.Ah k.AD=F at*;cases X with
 |eq q=>
  have E:V2 m (Fb k t.id r) (Fb k' t.id F):=by refine⟨g.im,g.AD,λx=> ?_,q.st,?_⟩;exact ATy l d o.id g.th q.t q.e q.w w.wk.1 w.fk.1 x;rw[AES,AES,g.lg,q.e,g.AD]
  rw[q.e];by_cases C:r.e.done;rw[Ac C,Ac C]
  grind[AIs,Nat.lt_succ_of_le,AOd]
  grind
 |hid Y Z O P a5 L N=>
  have E:V2 m (Fb k t.id r) (Fb k' t.id F):=by refine⟨g.im,g.AD,λx=> ?_,L.B0.symm.trans<|g.st.trans N.B0,?_⟩;show Cr m (Jt k'.AC F) x=Cr m (Jt k.AC r) x;rw[AJG v.ki d f N P Z B n.wk.1 n.fk.1 x,AJG h.ki l o L O Y W w.wk.1 w.fk.1 x];exact Xd g.th (y:=t) (y':=t) (by rwa[o.id]) (by rwa[f.id]) (f.id.trans o.id.symm)<|AU8 o f O P Y Z;rw[AKw _ _ L.out,AKw _ _ N.out];exact g.lg
  have e1:V2 m (if r.e.done=tT then GD (lN (Fb k t.id r).AC+1) (Fb k t.id r) t.id else Fb k t.id r) (Fb k' t.id F):=by split;rename_i C;let⟨d1,Q,R,T⟩:=Kp (lN (Fb k t.id r).AC+1) (Fb k t.id r) t.id;exact E.left (V3 _ t.id hm<|ALK h l L O a5<|U C) T R<|UL Q;exact E
  by_cases C:F.e.done;rw[Ac C];let⟨d1,Q,R,T⟩:=Kp (lN (Fb k' t.id F).AC+1) (Fb k' t.id F) t.id;exact e1.right (V3 _ t.id I<|ALK v d N P a5<|z C) T R<|UL Q
  grind
 grind[runK]
 have hh:∀t,Af k.AC i=sM t->fl t.g.Ad m=fF:=by grind
 have V:∀t,Af k'.AC i=sM t->fl t.g.Ad m=fF:=by grind
 let⟨v1,l1⟩:=ANF y G h hb i hh D;let⟨v2,l2⟩:=ANF p G v H i V u;exact(g.left v1 (e k i).2 (e k i).1 l1).right v2 (e k' i).2 (e k' i).1 l2
def Ft(m:AT)(l:AA AL):AA AL:=l.filterMap (C4 · m)
def ALH{l u}(h:u∈Ft m l):∃t∈l,C4 t m=sM u:=by let⟨t,a,b⟩:=AGa.1 h;exact⟨t,a,b⟩
theorem XS:∀ {l:AA AL},Fi l->Fi (Ft m l)
 |[],_=>List.Pairwise.nil
 |x::l,h=>by grind[Ft,C4]
theorem AFk:∀ {l:AA AL},Fi l->∀a,Af (Ft m l) a=Cr m l a
 |[],_,_=>rfl
 |x::l,h,a=>by
  let⟨f,c⟩:=G4.1 h;have d:=AFk c a;unfold Ft Cr Af at d⊢;rw[AGR,KH];by_cases e:x.id=a;have b:(x.id==a):=by simpa using e
  rw[b];cases g:C4 x m with
  |none=>
   grind[Ma]
  |some u=>
   grind[Qg]
  grind[Qg]
theorem ZF{s}(h:(s.map (·.1)).Nodup){x}(a:x∈s):Am s x.1=sM x.2:=by
 induction s with
 |nil=>cases a
 |cons y s b=>
  grind[Am]
theorem AEc{s n o}(h:Am s n=sM o):(n,o)∈s:=by grind[Am,Option.map_eq_some_iff,List.mem_of_find?_eq_some]
def AEu{s}(h:(s.map (·.1)).Nodup):((GU s m).map (·.1)).Nodup:=h.sublist<|(S7).map _
theorem AJd{s}(h:(s.map (·.1)).Nodup)(n):Am (GU s m) n=Je m s n:=by apply Option.ext;intro o;rw[U5];constructor;intro e;have a:=AEc e;rw[GU]at a;let⟨b,c⟩:=Ho.1 a;exact⟨ZF h b,c⟩;rintro⟨a,b⟩;exact ZF (AEu h) (x:=(n,o))<|Ho.2 ⟨AEc a,b⟩
theorem ALg{a:Type}[DecidableEq a]:∀ {l r:AA a},l.Nodup->(∀x∈l,x∈r)->lN l<=lN r
 |[],_,_,_=>Bm _
 |x::l,r,h,hs=>by
  let⟨c,b⟩:=GX.1 h;have d:=hs x DT;have:=ALg (l:=l) (r:=r.erase x) b gR
  grind
theorem AbH(h:(s.map (·.1)).Nodup)(g:(s'.map (·.1)).Nodup)(j:Ca m s s'):JZ (GU s m) (GU s' m):=by
 have o:∀ {a b:Az},(a.map (·.1)).Nodup->(b.map (·.1)).Nodup->Ca m a b->∀x∈GU a m,Am (GU b m) x.1=sM x.2:=λd i c x f=>by let⟨p,q⟩:=Ho.1 f;rw[AJd i,<-c,<-AJd d];exact ZF (AEu d) f
 have hlen:∀ {a b:Az},(a.map (·.1)).Nodup->(b.map (·.1)).Nodup->Ca m a b->lN (GU a m)<=lN (GU b m):=λ{a b} d i c=>by
  have:=ALg (l:=(GU a m).map (·.1)) (r:=(GU b m).map (·.1)) (AEu d) λn l=>by
   let⟨x,f,e⟩:=BI.1 l
   grind[AEc]
  simpa using this
 rw[JZ];rw[CJ,ER,EQ];refine⟨Nat.le_antisymm (hlen h g j)<|hlen g h j.symm,λx f=> ?_⟩
 grind
def ANH(b:Fi k.AC)(c:Fi k'.AC)(h:(k.Ah.map (·.1)).Nodup)(i:(k'.Ah.map (·.1)).Nodup)(a:V2 m k k'):LA (Hh k m) (Hh k' m):=by
 have d:Ft m k'.AC=Ft m k.AC:=Abx (XS c) (XS b) λj=>by rw[AFk c,AFk b,a.th]
 have e:(Hh k' m).AC=(Hh k m).AC:=d;have f:(Hh k' m).Bj=(Hh k m).Bj:=a.lg;have g:JZ (Hh k m).Ah (Hh k' m).Ah:=AbH h i a.st;rw[LA];rw[e,f,g,show(Hh k' m).AD=(Hh k m).AD from a.AD,show(Hh k' m).B5=(Hh k m).B5 from rfl];simp
def AbI(h:KK m M k)(a:KK m M k')(b:V2 m k k'):LA (Hh k m) (Hh k' m):=ANH h.ki.E0 a.ki.E0 h.ki.B0 a.ki.B0 b
def Agn(h:KK m M k)(a:KK m M k')(b:V2 m k k'):(Hh k' m).AC=(Hh k m).AC:=show Ft m k'.AC=Ft m k.AC from Abx (XS a.ki.E0) (XS h.ki.E0) λc=>by rw[AFk a.ki.E0,AFk h.ki.E0,b.th]
theorem Aew{u}(h:C4 t m=sM u):(u=t/\(∀j,j<=lN t.AI->Cx t m j))\/∃n,0<n/\n<=lN t.AI/\(∀j,j<n->Cx t m j)/\Cx t m n=fF/\
 u= {t with AI:=t.AI.take n,c:=Dp t.c<|t.AI.getD (n-1) Al,g:=⟨(t.AI.getD (n-1) Al).l,(t.AI.getD (n-1) Al).l⟩,Bg:=(t.AI.getD (n-1) Al).name,A7:=0,Ao:=0,Aw:=2,on:=[],v:=BH 0,ex:=fF}:=by
 have i:=AKQ t m;have d:∀j,j<CF t m->Cx t m j:=λj b=>Ze t m b;have a:CF t m<=lN t.AI->Cx t m (CF t m)=fF:=Qq t m;rw[C4]at h;dsimp only at h;split at h
 grind
 split at h;cases h;rename_i e f;cases h;exact .inr ⟨CF t m,oG,oG,d,a oG,rfl⟩
theorem Ag0(f:(s.map (·.1)).Nodup){v}(h:DC m s v):DC m (GU s m) v:=⟨h.Cj,h.kind,λa b=>by
 let⟨o,c,d,e⟩:=h.BZ a b
 grind[AJd,AOc]⟩
theorem Af3{c b}(hb:At c b):At (Dp c b) b where
 fr:=by have:=hb.fr;simp[Dp,Ee];omega
 bs:=λf a=>by simp[Dp,Ee]at a
 ht:=by have:=hb.ht;simp[Dp,Ee];omega
 tl:=by have:=hb.tl;simp[Dp,Ee];omega
 tr:=λt ht=>by simp[Dp,Ee]at ht
 tp:=λt ht=>hb.tp t (by grind[Dp,Ee])
theorem Agp{P}(h:TI m P M t)(y:∀n,P<|BH n){u}(H:C4 t m=sM u):TI m P M u:=by
 rcases Aew H with⟨rfl,_⟩|⟨n,K,L,v,r,rfl⟩;exact h;have o:n-1<lN t.AI:=oG;rw[Qd o];have d:t.AI[n-1]∈t.AI:=DR o;have f:=h.Cj.2 _ d;have p:∀x∈t.AI.take n,x=t.AI[n-1]\/(x∈t.AI/\x.AG<t.AI[n-1].AG/\x.Cg<=t.AI[n-1].Cg/\x.AP<=t.AI[n-1].AP):=λx c=>by
  obtain⟨j,g,rfl⟩:=Kc c;rw[Cu]at g;rw[VN];by_cases e:j=n-1
  grind
  exact .inr ⟨DR _,Lx.1 h.nest j (n-1) oG o oG⟩
 have l:∀x∈t.AI.take n,At (Dp t.c t.AI[n-1]) x:=λx c=>by rcases p x c with rfl|⟨z,A,B,C⟩;exact Af3<|h.at_ _ d;exact(ALt (h.at_ x z) (h.at_ _ d) A B C).at_
 refine{NO:= ?_,HM:=λq G=>h.HM q ?_,nest:=h.nest.sublist<|Xu _ _,Ux:=(by show 2<=4;decide),idle:=(gR),over:=(λq=>absurd q<|by show¬3<=2;decide),at_:=l,JW:=(λq=>absurd q<|by show¬2<2;decide),mono:=⟨λa b D I J=> ?_⟩,cap:=λj g=> ?_,A5:=λj x c F=> ?_,Cj:=⟨⟨f.1,f.1⟩,λx c=>h.Cj.2 x<|Fg c⟩,FL:=ASA h.FL λx c=>(h.at_ _ d).tp x c,val:=y 0};have e:=Dt (List.take<|n+1) h.NO;show(t.AI.take n).map (·.Bg)++[t.AI[n-1].name]=t.id::(t.AI.take n).map (·.name);have i:=Dt (List.take n) h.NO;rw[Ji sO]at i;rw[<-ABi]at i;ext;grind
 rcases Co.1 G with e|e;rw[e];exact DT;let⟨x,c,w⟩:=BI.1 e;exact DY _<|BI.2 ⟨x,Fg c,w⟩
 grind[Cx,EF]
 have g:j<=lN (t.AI.take n):=g;rw[Cu]at g;by_cases e:j<n;have i:=h.cap j oG
 grind[EF,Hv]
 simp_all[EF,Hv,GO,AY,QZ];have c:(t.AI.take n)[j]? =sM x:=c;rw[GO]at c;split at c;rename_i E;by_cases e:j+1<n;have i:=h.A5 j x c F
 grind[Hv]
 grind[Hv]
 cases c
def Afm{u}(c:C4 t m=sM u):(Ak u).Sublist (Ak t):=by rcases Aew c with⟨rfl,_⟩|⟨n,d,e,b,a,rfl⟩;simp;exact List.Sublist.cons_cons _<|(Xu n t.AI).map _
theorem AgW{u}(c:C4 t m=sM u):∀d∈Fu u,d∈Fu t:=by
 rcases Aew c with⟨rfl,_⟩|⟨n,e,f,b,a,rfl⟩;exact λ_ h=>h
 grind[Fu]
def AfK:∀l:AA AL,((Ft m l).flatMap Ak).Sublist (l.flatMap Ak)
 |[]=>List.Sublist.refl _
 |x::l=>by
  rw[Ft];rw[AGR,Kb];cases a:C4 x m with
  |none=>exact(AfK l).trans<|List.sublist_append_right _ _
  |some u=>
   dsimp only;rw[Kb];exact(Afm a).append<|AfK l
theorem AgL(h:KK m M k):KK m M (Hh k m):=by
 have N:=AJd (m:=m) h.ki.B0;have a:∀ {n:Nm} {o:Ob},Am (GU k.Ah m) n=sM o->Am k.Ah n=sM o/\fl o.l m:=λ{n o} e=>by grind[U5]
 have p:∀v,DC m k.Ah v->DC m (GU k.Ah m) v:=λv Q=>Ag0 h.ki.B0 Q;have i:∀q,MK (Ft m k.AC) (GU k.Ah m) q->MK k.AC k.Ah q:=λq l=>by rcases l with⟨o,d⟩|⟨u,c,l⟩;constructor<;>grind;let⟨t,b,e⟩:=ALH c;exact .inr ⟨t,b,(Afm e).mem l⟩
 refine⟨{E0:=XS h.ki.E0,G3:=λu c=> ?_,Ep:=λn o d=>(h.ki.Ep n o (a d).1).up p,Jy:=h.ki.Jy.sublist (AfK _),FQ:=λu c I C j O q l=> ?_,Ja:=λu c x F=> ?_,Km:=λu c o d A P=> ?_,Dn:=λn o d=>⟨(h.ki.Dn n o (a d).1).1,λw R=> ?_⟩,H8:=λu c D L=> ?_,B0:=AEu h.ki.B0},λn o d=>h.kq n o (a d).1⟩;let⟨t,b,e⟩:=ALH c;exact(Agp (h.ki.G3 t b) (λn=>H7 n) e).up p;let⟨t,b,e⟩:=ALH c;exact h.ki.FQ t b I (AgW e I C) j O q (i q l);let⟨t,b,e⟩:=ALH c;show Am (GU k.Ah m) x.name=nO;have E:x∈t.AI:=by rcases Aew e with⟨rfl,_⟩|⟨n,G,H,g,f,rfl⟩;exact F;exact List.mem_of_mem_take F
 rw[N];exact Agz (h.ki.Ja t b x E);let⟨t,b,e⟩:=ALH c;have hid:=Qg e;rw[hid]at d;have r:=h.ki.Km t b o (a d).1 A P;rcases Aew e with⟨rfl,_⟩|⟨n,G,H,g,f,rfl⟩;exact r
 grind[Hv]
 let⟨r,B⟩:=a d;let⟨y,z,J,K,A⟩:=(h.ki.Dn n o r).2 w R;refine⟨y,?_,J,K,A⟩;show Af (Ft m k.AC) w.id=sM y;rw[AFk h.ki.E0];have hid:=E2 z;rw[<-hid]at z⊢;exact AOb (h.ki.of z).mono (by rw[A];exact B) z;let⟨t,b,e⟩:=ALH c;rcases Aew e with⟨rfl,_⟩|⟨n,G,H,g,f,rfl⟩;let⟨o,r,B⟩:=h.ki.H8 u b D L;exact⟨o,by show Am (GU k.Ah m) u.on=sM o;grind[AOc],B⟩
 grind
def FV(m:AT)(n:Int)(b:Gs):Gs:=if fl b.l m then b else{b with v:=n}
def ET(m:AT)(n:Int)(b:FO):FO:=if fl b.l m then b else{b with n:=n}
def Ta(c m)(n:Int):blank c m n= {c with BJ:=c.BJ.map<|FV m n,BM:=c.BM.map<|ET m n}:=rfl
theorem TZ(n:Int)(b):(FV m n b).l=b.l:=by grind[FV]
theorem ACW(n:Int)(b):(ET m n b).l=b.l/\(ET m n b).c=b.c/\(ET m n b).fn=b.fn/\(ET m n b).AR=b.AR/\(ET m n b).Ao=b.Ao/\(ET m n b).box=b.box:=by grind[ET]
def Jn(b:Gs):Ob:={Db with kind:=3,l:=b.l,v:=BH b.v}
theorem AHJ{n q o}(a:q≠n)(h:Am s q=nO):Am (Cy s n o) q=nO:=by
 cases e:Ew s n o with
 |false=>rwa[OF e]
 |true=>grind[I3]
theorem ANP(a:Ca m s s'){i}(c:Am s i=nO)(d:Am s' i=nO)(n o:Int)(b):Ca m (Cy s i<|Jn<|FV m n b) (Cy s' i<|Jn<|FV m o b):=by
 by_cases e:fl b.l m;simp_all[FV,Ac,AAp];have e:fl b.l m=fF:=by simpa using e
 exact a.AHH (by show fl (FV m n b).l m=fF;rw[TZ];exact e) (by show fl (FV m o b).l m=fF;rw[TZ];exact e)
theorem Adq{u a}(c:∀q,Cr m thr' q=Cr m AC q)(hid:a.id=u.id)(b:C4 a m=C4 u m)(id):Cr m (CC thr' a) id=Cr m (CC AC u) id:=by unfold Cr;rw[Mp,Mp,hid];split;exact b;exact c id
theorem AHy(c b id):(D7 c b id).id=id:=rfl
theorem ARC(c)(n o:Int)(b a):C4 (D7 (blank c m o) (ET m o b) a) m=C4 (D7 (blank c m n) (ET m n b) a) m:=by
 by_cases e:fl b.l m
 grind[ET,D7,blank]
 have e:fl b.l m=fF:=by simpa using e
 have d:∀n,C4 (D7 (blank c m n) (ET m n b) a) m=nO:=λn=>T5 (by
  show fl (ET m n b).l m=fF
  grind[ACW])
 rw[d,d]
theorem AQ7{c a d g j p}(h:QF c a d g j p)(n o:Int):V2 m (EG<|blank c m n) (EG<|blank c m o):=by
 have e:∀n,QF (blank c m n) (FV m n a) (FV m n d) (ET m n g) (ET m n j) (ET m n p):=λn=>⟨by rw[Ta,h.BJ];rfl,by rw[Ta,h.BM];rfl⟩;rw[AAC<|e n,AAC<|e o];have v:∀l f:AA AL,(∀q,Cr m f q=Cr m l q)->∀(b:FO)(i:Nm)(q:Nm),Cr m (CC f<|D7 (blank c m o) (ET m o b) i) q=Cr m (CC l<|D7 (blank c m n) (ET m n b) i) q:=by grind[Adq,AHy,ARC]
 have u:∀q,Cr m [] q=Cr m [] q:=λq=>rfl;have r:Ca m (Cy (Cy [] [0]<|Jn<|FV m n a) [1]<|Jn<|FV m n d) (Cy (Cy [] [0]<|Jn<|FV m o a) [1]<|Jn<|FV m o d):=
  ANP (ANP (Ca.refl _) rfl rfl n o a) (AHJ dC rfl) (AHJ dC rfl) n o d
 exact{im:=rfl,AD:=rfl,th:=by grind,st:=r,lg:=rfl}
theorem U6{n}(h:fl n m){i}(a:Cx t m i=fF):Cx t n i=fF:=by grind[Cx,OQ]
theorem AVD{n}(r:fl n m){P C}(z:TI m P M t)(o:TI m C M t')(h:C4 t' m=C4 t m):C4 t' n=C4 t n:=by
 cases g:C4 t m with
 |none=>
  have v:=U6 r<|WR z g;have w:=U6 r<|WR o<|h.trans g;rw[T5 v,T5 w]
 |some u=>
  have d:=h.trans g;by_cases q:fl t.g.Ad m;have B:u=t:=by rw[ZN z.mono q]at g;exact(FX g).symm
  grind[ADr]
  have q:fl t.g.Ad m=fF:=by simpa using q
  have y:fl t'.g.Ad m=fF:=by
   cases e:fl t'.g.Ad m with
   |false=>rfl
   |true=>
    have B:u=t':=by rw[ZN o.mono e]at d;exact(FX d).symm
    grind[ADr]
  let⟨G,p2,p3,H,p5,p6,p7⟩:=WQ g q;let⟨q1,q2,q3,q4,q5,q6,I⟩:=WQ d y;have i:CF t' m=CF t m:=by have v:=Dt List.length p3;have w:=Dt List.length q3;rw[Cu]at v w;omega
  have b:t'.AI.take (CF t m)=t.AI.take (CF t m):=by rw[<-p3,q3,i]
  have hid:t'.id=t.id:=(Qg d).symm.trans<|Qg g;have f:CF t m-1<lN t.AI:=oG;have A:t.AI.getD (CF t m-1) Al=t.AI[CF t m-1]'f:=Qd f;have p:t'.AI.getD (CF t' m-1) Al=t.AI[CF t m-1]'f:=by rw[i];have:=Dt (λl=>l[CF t m-1]?) b;simp only[GO,Ac<|show CF t m-1<CF t m by omega]at this;rw[DK,this,BS f];rfl
  have a:Dp t'.c (t.AI[CF t m-1]'f)=Dp t.c (t.AI[CF t m-1]'f):=by rw[A]at p6;rw[p]at q6;rw[<-p6,<-q6]
  refine WO (n:=CF t m) hid p2 oG b (U6 r<|Qq t m p2) (U6 r<|by grind[Qq]) λx F=> ?_;obtain⟨j,D,rfl⟩:=Kc F;rw[Cu]at D;rw[VN];by_cases e:j=CF t m-1;subst e;exact a;have E:=Lx.1 z.nest j (CF t m-1) oG f oG;have B:=Dt (λc=>Dp c<|t.AI[j]'oG) a
  grind[Dp,Ee]
theorem Adl{n}(g:fl n m)(h:KK m M k)(r:KK m M k')(e:V2 m k k'):V2 n k k':=by
 refine⟨e.im,e.AD,λp=> ?_,λq=> ?_,?_⟩;have c:=e.th p;unfold Cr at c⊢;cases l:Af k.AC p with
 |none=>
  rw[l]at c;cases d:Af k'.AC p with
  |none=>rfl
  |some t'=>
   rw[d]at c;have c:C4 t' m=nO:=c;show C4 t' n=nO;exact T5<|U6 g<|WR (r.ki.G3 t'<|D2 d) c
 |some t=>
  rw[l]at c;cases d:Af k'.AC p with
  |none=>
   rw[d]at c;have c:C4 t m=nO:=c.symm;show nO=C4 t n;rw[T5<|U6 g<|WR (h.ki.G3 t<|D2 l) c]
  |some t'=>
   rw[d]at c;exact AVD g (h.ki.G3 t<|D2 l) (r.ki.G3 t'<|D2 d) c
 apply Option.ext;intro o;rw[U5,U5];constructor;rintro⟨a,b⟩;exact⟨e.st.some_ a<|OQ b g,b⟩;rintro⟨a,b⟩;exact⟨e.st.symm.some_ a<|OQ b g,b⟩;have i:∀j:Ap,D9 j n=(D9 j m).filter λf=>fl f.l n:=λj=>by
  unfold D9;rw[List.filter_filter]
  grind[OQ]
 rw[i,i,e.lg]
theorem AbB(h:KK m M k)(a)(d:∀x∈k.B5,M x.e.AR):∀x∈(runK k a).1.B5,M x.e.AR:=by
 cases c:Af k.AC a with
 |none=>
  grind[runK]
 |some t=>
  have hid:=E2 c;subst hid;by_cases b:t.Aw=0
  grind[ANE,AXh]
  grind[runK]
structure LQ(m:AT)(M:AH->Prop)(n:Nat)(k:Ap):Prop where
 kk:KK m M k
 bk:BK (24+4*n) (3+n*(25+4*n)) k.AC k.Ah
 bf:BF n k
 AD:k.AD=n
 im:IQ k.im
 ib:Ie k.im
 lk:∀x∈k.B5,M x.e.AR
theorem Ab8(n):3+n*(25+4*n)+(24+4*n)+1<=3+(n+1)*(25+4*(n+1)):=by grind
theorem AbE(k a):(runK k a).1.AD=k.AD/\(runK k a).1.im=k.im:=by grind[runK,Oz,Kp]
theorem AJ3{n}(r:∀a b,M a->M (a&&&b))(h:LQ m M n k)(c)(g:∀x∈(F6 k c).1.B5,Hr m x.e.AR):LQ m M (n+1) (F6 k c).1:=by
 let⟨i,l,v,o⟩:=QQ k;let⟨p,q⟩:=Vj h.bk h.bf h.kk;have d:=Vk h.kk;let⟨u,j⟩:=AbE (Fo k) c;have e:Ie (Fo k).im:=by rw[i];exact h.ib
 have f:IQ (Fo k).im:=by rw[i];exact h.im
 let⟨c1,c2⟩:=ANA e oG p q d c;refine⟨AND f r d c g,c1.mono oG<|Ab8 n,c2,?_,?_,?_,?_⟩;show(runK (Fo k) c).1.AD=n+1;rw[u,l,h.AD];show IQ (runK (Fo k) c).1.im;rwa[j];show Ie (runK (Fo k) c).1.im;rwa[j];exact AbB d c (by rw[o];exact h.lk)
theorem AV9{n l}(i:∀a b,M a->M (a&&&b))(h:LQ m M n k)(c:LQ m M l k')(j:V2 m k k')(e)(f:∀x∈(F6 k e).1.B5,Hr m x.e.AR)(d:∀x∈(F6 k' e).1.B5,Hr m x.e.AR):V2 m (F6 k e).1 (F6 k' e).1:=by let⟨g,o,p,q⟩:=QQ k;let⟨c1,c2,r,u⟩:=QQ k';exact AbF (by rw[g];exact h.im) i (Vk h.kk) (Vk c.kk) ⟨by rw[g];exact h.ib,_,_,(Vj h.bk h.bf h.kk).1⟩ ⟨by rw[c1];exact c.ib,_,_,(Vj c.bk c.bf c.kk).1⟩ (AQu h.kk c.kk j) e f d
theorem AfX(m):Hr m 0:=λa b c d=>by rw[AgG]at c;exact OQ c d
theorem AfY{k:Ap}(h:∀x∈k.B5,x.e.AR=0):∀x∈k.B5,Hr m x.e.AR:=λx a=>by grind[AfX]
theorem zero_and(a b:AH)(h:a=0):a&&&b=0:=by subst h;simp
theorem AgZ{n a:Nat}(h:LQ m (· =0) n k)(h':LQ m (· =0) a k')(b:V2 m k k')(id:Nm):LQ m (· =0) (n+1) (F6 k id).1/\LQ m (· =0) (a+1) (F6 k' id).1/\V2 m (F6 k id).1 (F6 k' id).1:=by
 have e: ∀(k:Ap) n,LQ m (· =0) n k->∀x∈(F6 k id).1.B5,Hr m x.e.AR:=λk n h=>AfY (AbB (M:=(· =0)) (Vk h.kk) id (by rw[(QQ k).2.2.2];exact h.lk))
 grind[AJ3,zero_and,AV9]
def ACc{c b}(a)(i:b.Ao<=999)(k:b.box<=999)(h:C7 b.n):BT 20 (D7 c b a):=by
 have f:wv (if 0<=b.box then BZ 3 [b.box.toNat] (c.BJ.getD b.box.toNat Al).l else BH b.n):=by split;exact ABL ⟨dC,dC⟩ (Ph oG) _;exact KF _ h
 obtain⟨u,d⟩:∃u,Gc ⟨[],[],[]⟩ b.fn (c.im.Ax.getD b.fn Al).Ai [if 0<=b.box then BZ 3 [b.box.toNat] (c.BJ.getD b.box.toNat Al).l else BH b.n] b.AR=sM u:=⟨_,rfl⟩;have e:D7 c b a=Jw a ⟨b.l,b.c⟩ u b.Ao:=by unfold D7;dsimp only;rw[d];rfl
 rw[e];exact AH7 a _ (Vi ACO d (λv j=>by rw[A9.1 j];exact f) sP) i
def ACV{A S s}(h:BK A S [] s)(i)(b:Gs)(a:C7 b.v):BK A (S+1) [] (Cy s [i] {Db with kind:=3,l:=b.l,v:=BH b.v}):=
 ⟨h.ts,Vn h.os<|Tc λ_=>KF _ a,h.tl,Ch (UG s _ _)<|O6 h.sl⟩
def AHo:BK 20 0 [] []:=⟨nA,(λn o h=>by cases h),Bm _,Bm _⟩
def AQy(c):BF 0 (EG c):=⟨Bm _,Bm _,nA,nA⟩
def AYm{c f g a d e}(h:QF c f g a d e)(l:C7 f.v/\C7 g.v)(j:∀b∈[a,d,e],b.Ao<=999/\b.box<=999/\C7 b.n):BK 24 3 (EG c).AC (EG c).Ah:=by rw[AAC h];have q:=λ(b:FO)(k:b∈[a,d,e])(i:Nat)=>ACc (c:=c) (b:=b) [i] (j b k).1 (j b k).2.1 (j b k).2.2;exact ((((ACV (ACV AHo 0 f l.1) 1 g l.2).BU<|q a sP 2).BU<|(q d sP 3).mono dC).BU<|(q e sP 4).mono dC).mono dC dC
def AYp{c d e t0 t1 t2 m M}(h:QF c d e t0 t1 t2)(h0:A4 d.l=d.l)(h1:A4 e.l=e.l)(hb:∀b∈[t0,t1,t2],(A4 b.l=b.l/\A4 b.c=b.c)/\fl b.l b.c/\M b.AR/\b.box<2/\b.Ao<=999/\C7 b.n)(i:C7 d.v/\C7 e.v)(g:IQ c.im)(f:Ie c.im):LQ m M 0 (EG c) where
 kk:=AYq h h0 h1 λb a=>⟨(hb b a).1,(hb b a).2.1,(hb b a).2.2.1,(hb b a).2.2.2.1⟩
 bk:=AYm h i λb a=>⟨(hb b a).2.2.2.2.1,by have:=(hb b a).2.2.2.1;omega,(hb b a).2.2.2.2.2⟩
 bf:=AQy c
 AD:=rfl
 im:=g
 ib:=f
 lk:=λx j=>by cases j
abbrev PL(m:AT)(n:Nat)(k:Ap):Prop:=LQ m (· =0) n k
def AgM{m n k}(h:PL m n k)(a):PL m (n+1) (F6 k a).1:=
 AJ3 zero_and h a (AfY (AbB (M:=(· =0)) (Vk h.kk) a<|by rw[(QQ k).2.2.2];exact h.lk))
def Ae9{m}:∀(l:AA Nm) {n:Nat} {k:Ap},PL m n k->PL m (n+lN l) (Fe k l)
 |[],_,_,h=>h
 |id::l,n,k,h=>by have:=Ae9 l<|AgM h id;rwa[FM,show n+(lN l+1)=n+1+lN l by omega]
def AZz(k l):(Fe k l).im=k.im:=by
 induction l generalizing k with
 |nil=>rfl
 |cons a l b=>
  show(Fe (F6 k a).1 l).im=k.im;rw[b];show(runK (Fo k) a).1.im=k.im;rw[(AbE (Fo k) a).2,(QQ k).1]
def AYo{c a b d}(e:c.BJ=[a])(f:c.BM=[b,d]):EG c= {im:=c.im,AD:=0,AC:=CC (CC []<|D7 c b [1])<|D7 c d [2],Ah:=Cy [] [0] {Db with kind:=3,l:=a.l,v:=BH a.v},Bj:=[],B5:=[]}:=by rw[EG];rw[e,f];rfl
def ARO(v:Int):EG (EU v)= {im:=(EU v).im,AD:=0,AC:=CC (CC []<|D7 (EU v) ⟨0,FW,high,0,5,0,0⟩ [1])<|D7 (EU v) ⟨0,([1],[]),high,0,5,0,0⟩ [2],Ah:=Cy [] [0] {Db with kind:=3,l:=(⟨([1],[]),v⟩:Gs).l,v:=BH (⟨([1],[]),v⟩:Gs).v},Bj:=[],B5:=[]}:=AYo rfl rfl
def AZr:IQ EC:=⟨by decide+kernel,by decide+kernel,by decide+kernel⟩
def AZq:Ie EC where
 cs:=by
  intro v a;have:v=D1 FW\/v=D1 ([1],[])\/v=BH 2\/v=BH 9\/v=BH 1:=by simpa[EC]using a
  rcases this with rfl|rfl|rfl|rfl|rfl;exact S4 _;exact S4 _;exact KF _;exact KF _;exact KF _
 ar:=by decide+kernel
def AID(v:Int)(r:C7 v:=by decide):PL high 0 (EG (EU v)):=by
 rw[ARO];let⟨p,c⟩:=ACa (m:=high) (M:=(· =0)) AKM (i:=0) dC rfl (b:=⟨([1],[]),v⟩) (show A4 ([1],[])=([1],[]) by decide+kernel);have d:=ACV AHo 0 ⟨([1],[]),v⟩ r;generalize Cy [] [0] {Db with kind:=3,l:=(⟨([1],[]),v⟩:Gs).l,v:=BH (⟨([1],[]),v⟩:Gs).v}=s at p c d;replace c:∀q,Am s q=if q=[0]then sM {Db with kind:=3,l:=([1],[]),v:=BH v}else nO:=λq=>by rw[c];rfl
 have n:∀q o,Am s q=sM o->lN q=1:=λq o a=>by rw[c]at a;split at a;rename_i e;rw[e];rfl;cases a
 have j:∀i,1<=i->Am s [i]=nO:=λi y=>by rw[c,if_neg sO]
 have k:∀b∈[(⟨0,FW,high,0,5,0,0⟩:FO),⟨0,([1],[]),high,0,5,0,0⟩],ABt high (· =0) (EU v) s b:=λb m=>by simp[List.mem_cons,List.not_mem_nil,_root_.or_false]at m;rcases m with rfl|rfl;exact⟨⟨by decide+kernel,by decide+kernel⟩,by decide+kernel,rfl,λ_=>⟨dC,by rw[c];exact⟨_,rfl,rfl,rfl⟩⟩⟩;exact⟨⟨by decide+kernel,by decide+kernel⟩,by decide+kernel,rfl,λ_=>⟨dC,by rw[c];exact⟨_,rfl,rfl,rfl⟩⟩⟩
 have u:=Vo p (k _ (List.mem_cons_self)) (i:=1) dC (j 1 dC) n nA;have w:=Vo u (k _ (List.mem_cons_of_mem _ List.mem_cons_self)) (i:=2) dC (j 2 dC) n (λt g=>by have e:t=D7 (EU v) ⟨0,FW,high,0,5,0,0⟩ [1]:=List.mem_singleton.1 g;rw[e];exact⟨1,rfl,dC,rfl,rfl⟩)
 have q1:=d.BU (ACc (c:=EU v) (b:=⟨0,FW,high,0,5,0,0⟩) [1] dC dC dC);have q2:=q1.BU ((ACc (c:=EU v) (b:=⟨0,([1],[]),high,0,5,0,0⟩) [2] dC dC dC).mono dC);exact⟨⟨w,λq o a _=>by have a:Am s q=sM o:=a;rw[c]at a;split at a;cases a;rfl;cases a⟩,q2.mono dC dC,⟨Nat.zero_le _,Nat.zero_le _,nA,nA⟩,rfl,AZr,AZq,nA⟩
variable{l:AT}{N:Nat}
def Af5{t u}(h:BT A t)(a:C4 t l=sM u):BT A u:=by rcases Aew a with⟨rfl,_⟩|⟨n,c,d,_,_,rfl⟩;exact h;exact⟨AQj h.c _ _ _,(λq=>absurd q<|by show¬(2:Nat)=1;decide),by show(t.AI.take n).length<=A;rw[Cu];have:=h.sc;omega,Bm _,(λx b=>h.sm x<|Fg b),Bm _,(λ_=>KF 0),(λq=>absurd q<|by show¬(2:Nat)=1;decide),λ_=>rfl⟩
def AgK(hs:(k.Ah.map (·.1)).Nodup)(h:BK A S k.AC k.Ah):BK A S (Hh k l).AC (Hh k l).Ah where
 ts t ht:=by let⟨x,b,e⟩:=ALH ht;exact Af5 (h.ts x b) e
 os n o a:=by have a:Am (GU k.Ah l) n=sM o:=a;rw[AJd hs]at a;exact h.os n o (U5.1 a).1
 tl:=Ch (AO6 _ _) h.tl
 sl:=Ch (RQ _ _) h.sl
def AgJ(h:BF N k):BF N (Hh k l):=
 ⟨Ch (RQ _ _) h.fl,Bm _,λf a=>h.fv f (Ho.1 a).1,nA⟩
def AfH{n}(h:LQ m M n k):LQ m M n (Hh k m):=
 ⟨AgL h.kk,AgK h.kk.ki.B0 h.bk,AgJ h.bf,h.AD,h.im,h.ib,nA⟩
def Aei(k:Ap):Prop:=∀f∈k.Bj,f.AD<=k.AD
def Agd(h:Aei k)(g):Aei (runK k g).1:=by
 have b:∀(l:AA<|AT×AW)(i:Nm)(k':Ap),k'.Bj=k.Bj++l.map (λx:AT×AW=>(⟨k.AD,i,x.1,x.2⟩:FU))->k'.AD=k.AD->Aei k':=λl i k' c d f a=>by rw[c]at a;rw[d];rcases Bc.1 a with a|a;exact h f a;let⟨x,j,e⟩:=BI.1 a;rw[<-e];exact Ag _
 rw[runK];split;exact h;dsimp only;split;exact h;rw[Oz];split;exact b _ _ _ (Kp _ _ _).2.1 (Kp _ _ _).2.2.1;exact b _ _ _ rfl rfl
def Aga(h:Aei k)(b):Aei (F6 k b).1:=by let⟨e,c,d,g⟩:=QQ k;refine Agd (k:=Fo k) (λf a=> ?_) b;rw[d]at a;rw[c];exact LM<|h f a
def AfB(c):Aei (EG c):=λf h=>by cases h
def ans:AHP:=by decide+kernel
def GL:AA Nm:=lP 120 [1]
def KB(v:Int):Ap:=Fe (EG<|EU v) GL
def AQI:lN (D9 (KB 0) FW)=9/\(∃t,Af (KB 0).AC [1]=sM t/\t.Aw=3/\t.v.n=1)/\D9 (KB 0) FW=D9 (KB 100) FW/\(∃o,Am (KB 100).Ah [1,0]=sM o/\o.ex/\o.v=BH (-7))/\sameAt (KB 0) (KB 100) high=fF:=by have h:=ans;unfold AHP at h;dsimp only at h;rw[show lP 120 [1]=GL from rfl,show Fe (EG<|EU 0) GL=KB 0 from rfl,show Fe (EG<|EU 100) GL=KB 100 from rfl]at h;generalize KB 0=a at h⊢;generalize KB 100=b at h⊢;simp[CJ,ER,Jf,GP]at h;let⟨⟨⟨⟨d,c⟩,e⟩,h4⟩,f⟩:=h;refine⟨d,?_,e,?_,f⟩;split at c;rename_i t i;simp[CJ,GP]at c;exact⟨t,i,c.1,c.2⟩;cases c;split at h4;rename_i o g;simp[CJ,GP]at h4;exact⟨o,g,h4.1,h4.2⟩;cases h4
variable{i:Nat}{h:Ap}
structure ER(m:AT)(i:Nat)(k h:Ap):Prop where
 a:PL m i k
 b:PL m i h
 v:V2 m k h
theorem ER.Fe:∀(l:AA Nm) {i:Nat} {k h:Ap},ER m i k h->ER m (i+lN l) (Fe k l) (Fe h l)
 |[],_,_,_,q=>q
 |id::l,i,k,h,q=>by let⟨a,b,v⟩:=AgZ q.a q.b q.v id;have:=ER.Fe l ⟨a,b,v⟩;rwa[FM,show i+(lN l+1)=i+1+lN l by omega]
def ER.same(q:ER m i k h):sameAt k h m:=AbI q.a.kk q.b.kk q.v
def ER.thq(q:ER m i k h):(Hh h m).AC=(Hh k m).AC:=Agn q.a.kk q.b.kk q.v
def ER.Bo(q:ER m i k h):D9 h m=D9 k m:=q.v.lg
end Lz
namespace Go.Proofs.YtomehhepbeiinaaGreatDoor
open Tryz
section
open Go.AX
def zc:Nat->AF
 |1=>vS ⟨#[]⟩
 |2=>.slice nO 0 0
 |3=>.int iK 0
 |4=>.int .u8 0
 |5=>vB fF
 |6=>.map nO
 |7=>.pointer nO
 |8=>.nilFunc
 |_=>.nilIface
def zs:Nat->Nat->AA AF
 |0,_=>[]
 |k+1,n=>match bQ n 0 with
  |true=>[]
  |false=>zc (n%10)::zs k (n/10)
def fo_(o:Nat):AA Nat->AA (Nat×Nat)
 |[]=>[]
 |x::l=>(o,x)::fo_ (o+x) l
def lS(t n:Nat)(l:AA Nat):Nat×Ty:=(t,⟨l.foldl (· + ·) 0,zs 40 n,.struct<|fo_ 0 l⟩)
def lA(t e:Nat):Nat×Ty:=(t,⟨1,[.slice nO 0 0],.slice e⟩)
def lO(t k:Nat):Nat×Ty:=(t,⟨1,[zc k],.other⟩)
def lM(t k e:Nat):Nat×Ty:=(t,⟨1,[.map nO],.map k e⟩)
def Bt:Lay:=[
 (3,⟨1,[.int iK 0],.int iK⟩),
 lS 53 51113313332222111111 [1,1,4,3,1,1,1,1,1,5,1],
 lS 42 11 [1,1],
 lS 51 11133 [1,1,1,2],
 lS 48 222 [1,1,1],
 lA 29 51,
 (9,⟨1,[vS ⟨#[]⟩],.string⟩),
 lA 100 3,
 lS 87 4321113355511133113 [1,2,5,1,1,7,1,1],
 lS 218 4233522223511133133322221111113722 [2,1,1,20,1,5,2,1,1],
 lS 44 1111 [2,2],
 lS 211 33 [1,1],
 (5,⟨1,[.int .u8 0],.int .u8⟩),
 lA 23 5,
 lS 32 22 [1,1],
 lA 38 9,
 lS 85 2111335 [1,5,1],
 lA 45 65,
 lS 282 35331113333323322222222 [2,3,3,2,1,1,1,8,1,1],
 lS 107 22726322 [2,1,1,1,1,1,1],
 lS 65 24333 [1,1,1,1,1],
 lO 4 5,
 lS 351 4441 [1,1,1,1],
 lA 30 195,
 lS 103 333411113 [1,2,2,1,1,1,1],
 lA 188 211,
 lS 36 2222 [2,1,1],
 lA 49 114,
 lS 114 33111113333111 [1,2,1,1,1,1,4,1,1,1],
 (40,⟨1,[vS ⟨#[]⟩],.string⟩),
 lS 195 233 [1,1,1],
 lA 46 118,
 lA 83 261,
 (2,⟨1,[.int iK 0],.int iK⟩),
 lS 289 53331 [1,1,1,1,1],
 lS 126 52222 [1,1,1,1,1],
 lO 27 7,
 lS 383 33 [1,1],
 lS 213 33111333 [1,5,2],
 lS 118 333 [1,1,1],
 lS 99 311 [2,1],
 lS 190 232 [1,1,1],
 lA 33 99,
 lO 280 7,
 lS 380 6623322 [2,3,1,1],
 lS 444 38 [1,1],
 lS 25 222 [1,1,1],
 lS 261 1113351 [1,1,5],
 lO 216 7,
 lA 34 103,
 lO 89 7,
 lS 178 66 [1,1],
 lS 200 112 [1,2],
 lA 56 63,
 lS 63 41111313 [1,1,6],
 lS 154 111331113 [1,1,2,5],
 lA 105 154,
 lS 334 33 [1,1],
 lS 131 17 [1,1],
 lS 61 411113 [1,2,2,1],
 lS 250 27 [1,1],
 (227,⟨1,[.int .u64 0],.int .u64⟩),
 (491,⟨1,[.int .u64 0],.int .u64⟩),
 (302,⟨1,[.int .u64 0],.int .u64⟩),
 (21,⟨1,[.int .i32 0],.int .i32⟩),
 lM 175 9 87,
 lS 322 22 [2],
 lM 104 9 53,
 lS 202 112 [3],
 (423,⟨1,[.int .u32 0],.int .u32⟩),
 lS 489 44 [1,1],
 lS 135 1113311 [2,5],
 lS 141 21 [1,1],
 lS 295 3 [1],
 lA 67 42,
 lM 332 3 383,
 lS 485 911 [1,1,1],
 lM 378 3 4,
 lA 461 444,
 lA 121 53,
 lA 122 135,
 lA 123 61,
 lA 124 141,
 lM 176 42 38,
 lO 248 7,
 (368,⟨6,lP 6<|.int .u8 0,.array 6 5⟩),
 lO 252 9,
 lA 22 23,
 lA 247 38,
 lA 186 2,
 (163,⟨5,lP 5<|vS ⟨#[]⟩,.array 5 9⟩),
 (422,⟨20,lP 20<|.int .u64 0,.array 20 227⟩),
 (469,⟨32,lP 32<|.int .u8 0,.array 32 5⟩),
 (490,⟨32,lP 32<|.int .u8 0,.array 16 489⟩),
 (93,⟨1,[.int iK 0],.int iK⟩),
 (360,⟨24,lP 24<|.int .u8 0,.array 24 5⟩),
 lO 371 7,
 lS 499 1 [1],
 lO 26 8,
 lO 1 8,
 lS 106 22726322 [2,1,1,1,1,1,1],
 lS 177 66 [1,1],
 lM 284 3 1,
 lO 298 8,
 lM 299 3 298,
 lM 323 9 328,
 lS 379 6623322 [2,3,1,1],
 lO 436 8,
 lM 438 3 436]
def Be:Ed prog Bt:=by rw[Ed];kernel_rfl
def mixed:prog.follows .mixedOrders:=kR
abbrev Ec:Type:=GW->AN->Prop
structure AtD(ds:AA Deferred)(F:Ba)(fn:Func)(n:Nat)(I:AB)(w:AN)(ρ:Nat->Nat)(A:AA Nat)(R:Ec)(f:Bv):Prop where
 out:prog.funcs[F]? =sM fn->GG (Kn prog F fn n I w ρ A ds) R f
abbrev At:=AtD []
def rX(a:G8 prog)(n:Nat)(A:AA Nat)(f:Bv):=Pq prog Bt a n A 1000 f
def Rs(a:G8 prog)(n:Nat)(A:AA Nat)(f:Bv):Prop:=(rX a n A f).cl=(rX a n A f).ac
def VV(f:Bv)(n F:Nat)(c:AA<|Nat×Nat)(a:AA<|Nat×AK)(d:AA Nat)(b:AA SV)(I:AB):Prop:=ACj f n F c a d=sM (IN (BA c) b,a.map λe=>sM<|e.2.Bh<|BA c,I)
def FH(f:Bv)(n F:Nat)(c:AA<|Nat×Nat)(a:AA<|Nat×AK)(b:AA SV)(I:AB):Prop:=VV f n F c a (a.map (·.1)) b I
def OB(f:Bv)(n:Nat)(a:AA<|Nat×AK)(I:AB):Prop:=ACE f n a (a.map (·.1))=sM (a.map λb=>sM b.2,I)
structure Fn(F:Ba)(args:AA SV)(need:AA (Nat×AK))(I:AB)(Φ:zP)(a:AU (AA PanicEntry)):Prop where
 out:FC prog F args need I Φ a
 Gb:Enters prog F
structure VZ(Φ:zP)(need:AA (Nat×AK))(I:AB):Prop where
 out:∀key h,Φ key h->h.LD key (need.map (·.1))/\I.le h.J
structure Ends(A:AA Nat)(I:AB)(ρ:Nat->Nat)(key:Nat)(w:AN)(Φ:zP)(a:AU (AA PanicEntry))(e:GW)(b:AN):Prop where
 out:Rf prog I ρ key w A Φ a e b
def Vb{A I ρ a w c b}:Rf prog I ρ a w A c b=Ends A I ρ a w c b:=by funext e d;exact propext ⟨λh=>⟨h⟩,λh=>h.out⟩
structure VY(Φ:zP)(need:AA (Nat×AK))(I:AB):Prop where
 out:∀key h,Φ key h->h.LD key (need.map (·.1))/\I.Da h.J
def VZ.EA{d a I}(h:VZ d a I):VY d a I:=⟨λb x c=>⟨(h.out b x c).1,(h.out b x c).2.EA⟩⟩
def Ju{F fn b a I i d}(n)(e:prog.funcs[F]? =sM fn)(l:fn.ntmps=n)(h:fn.body.isSome)(g:(fn.name== "runtime.NumGoroutine")=fF)
 (hE:V7 b a n) (j:∀ρ c w,100<=c->At F fn n I w ρ (a.map (·.1)) (Ends (a.map (·.1)) I ρ c w i d) (init b a I<|MP fn)):Fn F b a I i d:=
 ⟨FC.mk e h l hE λρ c w k=>by rw[Vb];exact(j ρ c w k).out e,JL e h g⟩
def Fn.to{F i j I o l k}(h:Fn F i j I o k)(m:∀g x,o g x->l g x):Fn F i j I l k:=
 ⟨λρ g w a b c d e=>(h.out ρ g w a b c d e).mono λ_ _ ⟨x,q,p,r⟩=>⟨x,q,⟨m g x p.1,p.2⟩,r⟩,h.Gb⟩
def go{ds F fn n I w ρ A R}(d:prog.funcs[F]? =sM fn)(b m){f}
 (a:(Pq prog Bt b n A m f).cl=(Pq prog Bt b n A m f).ac) (c:AtD ds F fn n I w ρ A R (Pq prog Bt b n A m f).f):AtD ds F fn n I w ρ A R f:=
 ⟨λhF=>AFM (c:=Kn prog F fn n I w ρ A ds) hF mixed Be m a<|c.out hF⟩
def gg{ds F fn n I w ρ A R}(b){f}
 (c:AtD ds F fn n I w ρ A R (rX b n A f).f) (a:Rs b n A f:=by exact kR):AtD ds F fn n I w ρ A R f:=
 ⟨λhF=>AFM (c:=Kn prog F fn n I w ρ A ds) hF mixed Be 1000 a<|c.out hF⟩
def gG{ds F fn n I w ρ A R f}
 (b:AtD ds F fn n I w ρ A R (rX [] n A f).f) (a:Rs [] n A f:=by exact kR):AtD ds F fn n I w ρ A R f:=
 gg [] b a
def fo{F fn b a I g d}(i:prog.funcs[F]? =sM fn)
 (j:∀ρ c w,100<=c->At F fn fn.ntmps I w ρ (a.map (·.1)) (Ends (a.map (·.1)) I ρ c w g d) (init b a I<|MP fn)) (h:fn.body.isSome:=by rfl) (e:(fn.name== "runtime.NumGoroutine")=fF:=by rfl) (hE:V7 b a fn.ntmps:=by kernel_rfl):Fn F b a I g d:=
 Ju fn.ntmps i rfl h e hE j
def BW(r:SV)(I:AB):zP:=λ_ h=>h= {r:=r,J:=I}
def Ad9{r J c A}(g:r.A3=[]):Ab.LD {r:=r,J:=J} c A:=⟨(λk d=>by rw[show({r:=r,J:=J}:Ab).r.A3=[]from g]at d;cases d),nA,nA,Bm _,.nil⟩
def AOj{r I a}(c:r.A3=[]):VZ (BW r I) a I:=⟨λd h b=>by subst b;exact⟨Ad9 c,AB.le_refl _⟩⟩
def done{F fn n I w ρ A a e f}(g:prog.funcs[F]? =sM fn)(b:100<=a)(d){h}(hend:KY Bt fn.results.toList A d a f=sM h)(c:e a h):At F fn n I w ρ A (Ends A I ρ a w e nO) f:=
 ⟨λ_=>by rw[<-Vb];exact AMn Be g d hend b c⟩
def Bz{F fn n I w ρ A a r f J}(c:prog.funcs[F]? =sM fn)(b:100<=a)(hend:KY Bt fn.results.toList A [] a f=sM {r:=r,J:=J}):At F fn n I w ρ A (Ends A I ρ a w (BW r J) nO) f:=
 done c b [] hend rfl
def dn{F fn n I w ρ A key d f}(c){h}(b:d key h)(hend:KY Bt fn.results.toList A c key f=sM h:=by kernel_rfl)(a:100<=key:=by assumption):At F fn n I w ρ A (Ends A I ρ key w d nO) f:=
 ⟨λhF=>by rw[<-Vb];exact AMn Be hF c hend a b⟩
def fi{F fn n I w ρ A key r f J}(hend:KY Bt fn.results.toList A [] key f=sM {r:=r,J:=J}:=by kernel_rfl)(a:100<=key:=by assumption):At F fn n I w ρ A (Ends A I ρ key w (BW r J) nO) f:=
 dn [] rfl hend a
variable{ds:List Deferred}{F:FuncId}{fn:Func}{n:Nat}{I:AB}{w:World}{ρ:Nat->Nat}{A:List Nat}{R:Ec}{f:Bv}
def ARU{b c p o G}(h:Fn G b c p o nO)(m d)(g:VV f n G m c d b p)
 (i:∀l h,o l h->∀q∈h.AV,q.1∈d) (hnext:∀h,o (EL f) h->AtD ds F fn n I w ρ A R (f.out (BA m) h)):AtD ds F fn n I w ρ A R f:=
 ⟨λhF=>ACl (c:=Kn prog F fn n I w ρ A ds) h.out h.Gb m d g (λk x a _=>i k x a) (λ_ h j=>(hnext h j).out hF) λ_ e=>by cases e⟩
def A0{a b I' g G}(h:Fn G a b I' g nO)(d:AA<|Nat×Nat)(hnext:∀h,g (EL f) h->AtD ds F fn n I w ρ A R (f.out (BA d) h))(hobs:FH f n G d b a I':=by exact kR):AtD ds F fn n I w ρ A R f:=
 ⟨λhF=>ACl (c:=Kn prog F fn n I w ρ A ds) h.out h.Gb d _ hobs (λ_ _ _ w j i=>(w.u j i).1) (λ_ h c=>(hnext h c).out hF) λ_ e=>by cases e⟩
def IG{a b I' G r}(h:Fn G a b I' (BW r I') nO)(e)(hnext:AtD ds F fn n I w ρ A R<|f.out (BA e) {r:=r,J:=I'})(hobs:VV f n G e b [] a I':=by exact kR):AtD ds F fn n I w ρ A R f:=
 ARU h e [] hobs (λ_ h c g d=>by subst c;cases d) λh c=>by subst c;exact hnext
def call{a r I' G}(h:Fn G a [] I' (BW r I') nO)(hnext:AtD ds F fn n I w ρ A R<|f.out (BA []) {r:=r,J:=I'})(hobs:FH f n G [] [] a I':=by exact kR):AtD ds F fn n I w ρ A R f:=
 A0 h [] (hobs:=hobs) λh b=>by subst b;exact hnext
theorem B4(k a){vs e}(h:∀b J,a.le J->J.Ak=a.Ak->J b=sM (.cells vs.toArray e (0,0))->AtD ds F fn n I w ρ A R (f.B4 k b J))(hobs:(SB f A k,f.σ.im)=(sM (vs,e),a):=by exact kR):AtD ds F fn n I w ρ A R f:=
 ⟨λhF=>AUc (c:=Kn prog F fn n I w ρ A ds) k (IC hobs).1 λb J c d g=>(h b J ((IC hobs).2▸c) ((IC hobs).2▸d) g).out hF⟩
def loop{ι:Type}(P:ι->Prop)(e:ι->Nat)(b:ι->Hd)(a:Nat)(d:AA<|Nat×Nat)(c:ι)(g:P c)
 (round:∀i,P i->(∀j,P j->e j<e i->∀T,AtD ds F fn n I w ρ A R<|(b j).PF T (Pe f.todo) a)->∀T,AtD ds F fn n I w ρ A R<|(b i).PF T (Pe f.todo) a) (hobs:PS f d (b c)=PT d (b c):=by exact kR) (hok:Qx A d (b c).Cd (b c).Cc a:=by exact kR):AtD ds F fn n I w ρ A R f:=
 ⟨λhF=>AXk (c:=Kn prog F fn n I w ρ A ds) P e b a d c g hobs hok λi h m T=>(round i h (λj k l T=>⟨λ_=>m j k l T⟩) T).out hF⟩
def AQe(e s b){a}(d:PS f e s=PT e s)(c:UM f.todo=a)(g:Qx A e s.Cd s.Cc b)(h:∀T,AtD ds F fn n I w ρ A R<|s.PF T a b):AtD ds F fn n I w ρ A R f:=
 ⟨λhF=>AQf (c:=Kn prog F fn n I w ρ A ds) e s b d c g λT=>(h T).out hF⟩
def bk{d:Type}{P:d->Prop}{g:d->Nat}{i:d}{c:d->Hd}{b:Nat}{a:AA Item}(again:∀j,P j->g j<g i->∀T,AtD ds F fn n I w ρ A R<|(c j).PF T a b)(e:AA<|Nat×Nat)(j:d)(h:P j)(hm:g j<g i:=by(try dsimp only);omega)
 (hh:PS f e (c j)=PT e (c j)/\UM f.todo=a/\Qx A e (c j).Cd (c j).Cc b:=by exact⟨kR,kR,kR⟩):AtD ds F fn n I w ρ A R f:=AQe e (c j) b hh.1 hh.2.1 hh.2.2 λT=>again j h hm T
def act{need I' c}(a:HS prog (Mo f) f.σ.tm (EL f) need I' c nO)(hwf:∀h,c h->h.wf I' (EL f) need [])(hnext:∀h,c h->AtD ds F fn n I w ρ A R (f.act h))
 (hobs:OB f n need I':=by exact kR):AtD ds F fn n I w ρ A R f:=
 ⟨λhF=>AP5 (c:=Kn prog F fn n I w ρ A ds) _ hobs a (λh e g d=>((hwf h e).u g d).1) hwf λh b=>(hnext h b).out hF⟩
structure Dk(I:AB)(size:Nat)(a:AU Au)(n:Nat)(xs:AA AF):Prop where
 len:lN xs=n*size
 one:∀v∈xs,v.oneCell'
 at_:n=0\/∃b off arr e fr,a=sM ⟨b,off,nO⟩/\I b=sM (.cells arr e fr)/\(arr.toList.drop off).take (n*size)=xs
def Dk.up{I J c n a xs}(h:Dk I c a n xs)(hle:I.le J):Dk J c a n xs:=
 ⟨h.len,h.one,h.at_.imp id λ⟨b,d,arr,e,f,g,i,j⟩=>⟨b,d,arr,e,f,g,hle b _ i,j⟩⟩
def Dk.reads{I d n c a xs}(h:Dk I d a n xs){need}:Reads I need (.v<|.slice a n c) d n xs:=by rcases h.at_ with f|⟨b,k,arr,e,l,g,i,j⟩;subst f;have:xs=[]:=Ib (by rw[h.len];simp);subst this;exact Ol;subst g;exact Aah i j h.len h.one
theorem Dk.nil{I b a}:Dk I b a 0 []:=⟨sP,nA,.inl rfl⟩
def Dk.Og{J a n b e xs AE}(h:J b=sM (.cells (xs++AE).toArray e (0,0)))(c:lN xs=n*a)(d:∀v∈xs,v.oneCell'):Dk J a (aP b) n xs:=
 ⟨c,d,.inr ⟨b,0,_,e,_,rfl,h,by simp[<-c]⟩⟩
def TS(I:AB)(b n:Nat)(d:AA AF):zP:=λ_ h=>∃a c J,h= {r:=.v<|.slice a n c,J:=J}/\I.le J/\n<=c/\c<=maxLen/\Dk J b a n d
def MV{t e a n c}(x y)(h:prog.underlying t=sM (.slice e)){I}:
 ∀w,EJ w I->∃b,((do eqGuard .eql t x y (.slice a n c) zS;binOp .eql t (.slice a n c) zS:Sem AF)).run prog w=.ok (AO id<|.v<|vB a.isNone) b/\Bl w b:=λw _=>
 ⟨w,by
   have d:(eqGuard .eql t x y (.slice a n c) zS).run prog w=.ok () w:=rfl;simp[rB,d,aK];exact Lib.run_eql_slice_nil w t e a n c 0 0 h,Bl.refl w⟩
def QO{I j n m e u s a}(q:u=[]\/∃k p o,u=[(k,.gone)]/\a=[(k,.As p o)]):∀h,VU I j n m e u s h->h.wf I j a []:=by rintro h ⟨t,i,_,_,_,rfl⟩;refine{r:=λk f=> ?_,u:=λv c=> ?_,n:=λb g k f=> ?_,l:=by simp,le:=AB.Hj _,d:= ?_};right;simp[SV.A3,A9]at f;subst f;have:=Nv (key:=k) (nb:=[AK.As (s++i) e]) (j:=0);simp[IB]at this;rw[this];rfl;rcases q with rfl|⟨k,p,o,rfl,rfl⟩;cases c;simp at c;subst c;exact⟨sP,λb g=>by simp at g;subst g;rfl,nA⟩;simp at g;subst g;cases f;rcases q with rfl|⟨k,p,o,rfl,rfl⟩<;>simp
def ANY{ts t}{x y:Int}(z:Int)(h:max x y=z):∀w,EJ w I->∃a,(Builtin.max_ ts t #[.int iK x,.int iK y]).run prog w=.ok (AO id<|.v<|nV z) a/\Bl w a:=λw _=>
 ⟨w,by rw[run_max_int2];simp[AO];congr 2;split<;>omega,Bl.refl w⟩
def ANZ{ts t}{x y:Int}(z:Int)(h:min x y=z):∀w,EJ w I->∃a,(Builtin.min_ ts t #[.int iK x,.int iK y]).run prog w=.ok (AO id<|.v<|nV z) a/\Bl w a:=λw _=>
 ⟨w,by rw[run_min_int2];simp[AO];congr 2;split<;>omega,Bl.refl w⟩
def ANX{t e i a n c m}(g:prog.underlying t=sM (.slice e))(f:prog.info? e=sM i)(h:m<=c):∀w,EJ w I->∃d,(Instr.sliceAt t (.slice a n c) nO (sM<|iV m)<|sM<|iV m).run prog w=.ok (AO id<|.v<|.slice a m m) d/\Bl w d:=λw _=>
 ⟨w,by
   have b:(0:Int)<=(m:Int)/\(m:Int)<=(c:Int):=oG;simp[Instr.sliceAt,Instr.slice,rU g,Instr.sliceBounds,run_sliceBound,b.1,b.2,sizeOf,typeInfo,f,aT,AO];cases a<;>simp[Addr.add],Bl.refl w⟩
def Us{t e i a n c m}(g:prog.underlying t=sM (.slice e))(f:prog.info? e=sM i)(h:m<=c):∀w,EJ w I->∃d,(Instr.sliceAt t (.slice a n c) nO (sM<|iV m) nO).run prog w=.ok (AO id<|.v<|.slice a m c) d/\Bl w d:=λw _=>
 ⟨w,by
   have b:(0:Int)<=(m:Int)/\(m:Int)<=(c:Int):=oG;simp[Instr.sliceAt,Instr.slice,rU g,Instr.sliceBounds,run_sliceBound,b.1,b.2,sizeOf,typeInfo,f,aT,AO];cases a<;>simp[Addr.add],Bl.refl w⟩
def WH(a:AU Au)(l c b:Nat):AU Au:=if c=l then a else a.map (·.add (l*b))
def Abj{t e i a n c m}(g:prog.underlying t=sM (.slice e))(f:prog.info? e=sM i)(h:m<=n):∀w,EJ w I->∃d,(Instr.sliceAt t (.slice a n c) (sM<|iV m) nO nO).run prog w=.ok (AO id<|.v<|.slice (WH a m c i.size) (n-m)<|c-m) d/\Bl w d:=λw _=>
 ⟨w,by
   have b:(0:Int)<=(m:Int)/\(m:Int)<=(n:Int):=oG;simp[Instr.sliceAt,Instr.slice,rU g,Instr.sliceBounds,run_sliceBound,b.1,b.2,sizeOf,typeInfo,f,aT,AO,WH],Bl.refl w⟩
theorem Dk.take{c n m a g}(h:Dk I c a n g)(f:m<=n):Dk I c a m (g.take<|m*c):=by refine⟨?_,λv o=>h.one v<|Fg o,?_⟩;rw[Cu,h.len];exact Gn<|TF c f;rcases h.at_ with p|⟨b,d,arr,e,i,j,k,l⟩;exact .inl oG;refine .inr ⟨b,d,arr,e,i,j,k,?_⟩;rw[<-l,IA,Gn<|TF c f]
def Dk.drop{d n m c a g}(h:Dk I d a n g)(p:m<=n)(s:n<=c):Dk I d (WH a m c d) (n-m) (g.drop<|m*d):=by refine⟨?_,λv q=>h.one v<|Mx q,?_⟩;rw[Lw,h.len,Xy];rcases Nat.eq_or_lt_of_le p with e|o;exact .inl oG;rcases h.at_ with r|⟨b,f,arr,e,i,j,k,l⟩;exact .inl oG;refine .inr ⟨b,f+m*d,arr,e,i,?_,k,?_⟩;rw[WH];rw[AY oG,j];simp[Addr.add];rw[<-l,AGQ,AGO,Xy]
def Va(I:AB)(c n:Nat)(e:BN)(f:AA AF):zP:=λd h=>∃a b,n<=a/\a<=maxLen/\lN b=(a-n)*c/\h= {r:=.s d 0 n a,nb:=[.As (f++b) e],J:=I}
section
def T9{e n}(h:(prog.info? e).map (·.size)=sM n):∃i,prog.info? e=sM i/\i.size=n:=L9.1 h
def U1:prog.underlying 49=sM (.slice 114):=kR
def WW:∃i,prog.info? 114=sM i/\i.size=14:=T9 kR
def AHV:Gq prog Bt 49 114 14:=⟨⟨_,rfl⟩,⟨_,_,rfl,rfl⟩,kR⟩
def NW:prog.underlying 29=sM (.slice 51):=kR
def Qm:∃i,prog.info? 51=sM i/\i.size=5:=T9 kR
def LU:Gq prog Bt 29 51 5:=⟨⟨_,rfl⟩,⟨_,_,rfl,rfl⟩,kR⟩
def Sv:prog.underlying 46=sM (.slice 118):=kR
def ZS:∃i,prog.info? 118=sM i/\i.size=3:=T9 kR
def ACJ:Gq prog Bt 46 118 3:=⟨⟨_,rfl⟩,⟨_,_,rfl,rfl⟩,kR⟩
def U0:prog.underlying 45=sM (.slice 65):=kR
def ZT:∃i,prog.info? 65=sM i/\i.size=5:=T9 kR
def AHU:Gq prog Bt 45 65 5:=⟨⟨_,rfl⟩,⟨_,_,rfl,rfl⟩,kR⟩
def AOP:prog.underlying 56=sM (.slice 63):=kR
def AHW:Gq prog Bt 56 63 8:=⟨⟨_,rfl⟩,⟨_,_,rfl,rfl⟩,kR⟩
def AON:prog.underlying 38=sM (.slice 9):=kR
def AVt:∃i,prog.info? 9=sM i/\i.size=1:=T9 kR
def Ve:Gq prog Bt 38 9 1:=⟨⟨_,rfl⟩,⟨_,_,rfl,rfl⟩,kR⟩
def AA9:prog.underlying 83=sM (.slice 261):=kR
def AVs:∃i,prog.info? 261=sM i/\i.size=7:=T9 kR
def Vf:Gq prog Bt 83 261 7:=⟨⟨_,rfl⟩,⟨_,_,rfl,rfl⟩,kR⟩
variable {F t e z:Nat} {fn:Func}
abbrev el(_:prog.underlying t=sM (.slice e)):Nat:=e
def Ym(o:prog.funcs[F]? =sM fn)(hF:(F=41/\t=49/\e=114/\fn=f41)\/(F=42/\t=29/\e=51/\fn=f42)\/(F=43/\t=46/\e=118/\fn=f43)\/(F=44/\t=45/\e=65/\fn=f44)\/(F=45/\t=56/\e=63/\fn=f45)\/(F=118/\t=38/\e=9/\fn=f118)\/(F=134/\t=83/\e=261/\fn=f134))(U:prog.underlying t=sM (.slice e))(A:Gq prog Bt t e z)(I a n c g)(x:n<=16777216)(h:Dk I z a n g):Fn F [.v<|.slice a n c] [] I (TS I z n g) nO:=by
 rcases hF with⟨rfl,rfl,rfl,rfl⟩|⟨rfl,rfl,rfl,rfl⟩|⟨rfl,rfl,rfl,rfl⟩|⟨rfl,rfl,rfl,rfl⟩|⟨rfl,rfl,rfl,rfl⟩|⟨rfl,rfl,rfl,rfl⟩|⟨rfl,rfl,rfl,rfl⟩<;>
 .refine fo o λy p w k=> ?_;cases a with
  |none=>
   obtain rfl:n=0:=h.at_.elim id λ⟨b,q,arr,e,s,j,_⟩=>by cases j
   obtain rfl:g=[]:=Ib (by simpa using h.len);refine gg [(4,.op I _ (.v tV)<|MV (a:=nO) (n:=0) (c:=c) (.tmp 3) (.const zS) U)] ?_;exact dn [] ⟨nO,0,I,rfl,AB.le_refl _,Bm _,by unfold maxLen;omega,Dk.nil⟩
  |some i=>
   refine gg [(4,.op I _ (.v fV)<|MV (a:=sM i) (n:=n) (c:=c) (.tmp 3) (.const zS) U)]<|act (need:=[(124,.As []<|el U)]) (Kk Be (n:=0) (cap:=0) (vs:=[]) (CQ:=[]) (x:=.v<|.slice (sM i) n c) A kR sP sP sP sP (h.reads (c:=c)) (Ag _) (by unfold maxLen;omega) oG) (QO<|.inr ⟨_,_,_,rfl,rfl⟩) ?_;rintro u ⟨d,f,j,l,v,rfl⟩;exact gG<|B4 140 I (vs:=g++f) (e:=el U) λb J hle _ m=>gG<|dn [] ⟨_,d,J,sP,hle,oG,l,Dk.Og m h.len h.one⟩ (h:={r:=.v<|.slice (aP b) (0+n) d,J:=J})
def ARq:= @Ym 41 49 114 14 _ func41 (by simp) U1 AHV
def ACs:= @Ym 42 29 51 5 _ func42 (by simp) NW LU
def ARt:= @Ym 43 46 118 3 _ func43 (by simp) Sv ACJ
def Yk:= @Ym 134 83 261 7 _ func134 (by simp) AA9 Vf
def ARy(l:prog.funcs[F]? =sM fn)(hF:(F=44/\t=45/\e=65/\fn=f44)\/(F=118/\t=38/\e=9/\fn=f118))(U:prog.underlying t=sM (.slice e))(A:Gq prog Bt t e z)(I d n c g)(p:n<=16777216)(h:Dk I z (sM d) n g):Fn F [.v<|.slice (sM d) n c] [] I (Va I z n e g) nO:=by
 rcases hF with⟨rfl,rfl,rfl,rfl⟩|⟨rfl,rfl,rfl,rfl⟩<;>
 .refine fo l λq f w i=>gg [(4,.op I _ (.v fV)<|MV (a:=sM d) (n:=n) (c:=c) (.tmp 3) (.const zS) U)]<|act (need:=[(124,.As []<|el U)]) (Kk Be (n:=0) (cap:=0) (vs:=[]) (CQ:=[]) (x:=.v<|.slice (sM d) n c) A kR sP sP sP sP (h.reads (c:=c)) (Ag _) (by unfold maxLen;omega) oG) (QO<|.inr ⟨_,_,_,rfl,rfl⟩) ?_;rintro m ⟨b,a,o,j,k,rfl⟩;refine gG ?_;exact dn [140] ⟨b,a,oG,j,by rw[k];simp,sP⟩ (h:={r:=.s (f+0) 0 (0+n) b,nb:=[.As (g++a)<|el U],J:=I})
def Yl:= @ARy 44 45 65 5 _ func44 (by simp) U0 AHU
def ACq(f:prog.funcs[F]? =sM fn)(hF:(F=114/\t=49/\e=114/\fn=f114)\/(F=165/\t=29/\e=51/\fn=f165)\/(F=288/\t=46/\e=118/\fn=f288))(U:prog.underlying t=sM (.slice e))(N:∃i,prog.info? e=sM i/\i.size=z)(I a n c)(d:n<=c):Fn F [.v<|.slice a n c] [] I (BW (.v<|.slice a n n) I) nO:=by
 let⟨i,g,_⟩:=N;rcases hF with⟨rfl,rfl,rfl,rfl⟩|⟨rfl,rfl,rfl,rfl⟩|⟨rfl,rfl,rfl,rfl⟩<;>
 .exact fo f λj h w b=>gg [(8,.op I _ (.v<|.slice a n n)<|ANX (a:=a) (n:=n) U g d)]<|fi
def ACo:= @ACq 114 49 114 14 _ func114 (by simp) U1 WW
def ACp:= @ACq 165 29 51 5 _ func165 (by simp) NW Qm
def AIO:= @ACq 288 46 118 3 _ func288 (by simp) Sv ZS
def ACz(d:prog.funcs[F]? =sM fn)(hF:(F=168/\t=45/\e=65/\fn=f168)\/(F=169/\t=29/\e=51/\fn=f169)\/(F=170/\t=46/\e=118/\fn=f170))(U:prog.underlying t=sM (.slice e))(N:∃i,prog.info? e=sM i/\i.size=z)(I a n c m)(h:n<=c):Fn F [.v<|.slice a n c,.v<|iV m] [] I (BW (.v<|.slice a (min m n)<|min m n) I) nO:=by
 let⟨i,f,_⟩:=N;rcases hF with⟨rfl,rfl,rfl,rfl⟩|⟨rfl,rfl,rfl,rfl⟩|⟨rfl,rfl,rfl,rfl⟩<;>
 .exact fo d λj g w b=>gg [(6,.op I _ (.v<|iV m)<|ANY (ts:=#[3,3]) (t:=3) (x:=(m:Int)) (y:=0) (m:Int) oG),(9,.op I _ (.v<|.int iK ((min m n:Nat):Int))<|ANZ (ts:=#[3,3]) (t:=3) (x:=(m:Int)) (y:=(n:Int)) ((min m n:Nat):Int) oG),(13,.op I _ (.v<|.slice a (min m n)<|min m n)<|ANX (a:=a) (n:=n) (c:=c) (m:=min m n) U f oG)]<|fi
def Yr:= @ACz 168 45 65 5 _ func168 (by simp) U0 ZT
def Vz:= @ACz 169 29 51 5 _ func169 (by simp) NW Qm
def AIg:= @ACz 170 46 118 3 _ func170 (by simp) Sv ZS
end
end
end Go.Proofs.YtomehhepbeiinaaGreatDoor
