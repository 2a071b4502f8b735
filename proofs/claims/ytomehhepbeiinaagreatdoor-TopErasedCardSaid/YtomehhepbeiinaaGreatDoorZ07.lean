/- Part 7 of the proof of TopErased. No conditions. -/
import Derived.Test.YtomehhepbeiinaaGreatDoorZ06
import Derived.Lib.ItoaLen
set_option maxRecDepth 100000
set_option maxHeartbeats 4000000
set_option linter.all false
open List renaming length->lN
open Option renaming some->sM,none->nO
open Bool renaming true->tT,false->fF
open Go.Value renaming string->vS,bool->vB
open Go.IntKind renaming i64->iK
namespace Go.Proofs.YtomehhepbeiinaaGreatDoor
open Tryz
section
open Go.AX Lz
structure EX where
 i:Nat
 J:AB
 L:AA Rw
 m:CH
 k:Ap
def Y1(s:Bi)(fv:SV)(x:EX):Hd where
 Cd:=[(1,fv),(6,s.sv),(7,.v<|iV s.n),(8,.v<|iV x.i)]
 Cc:=CL x.m x.k.im x.k.AD
 J:=x.J
structure EP{a:Type}(I:AB)(P:AA Nat)(xs:AA a)(f:Ap->a->Ap)(b:Ap)(x:EX):Prop where
 i:x.i<=lN xs
 st:Cb I P x.J (CM x.L x.m)
 ZX:CZ x.J x.L x.k x.m
 k:x.k=(xs.take x.i).foldl f b
def AM2:Ht 53 20:=by refine row_of ((prog.underlying 53).getD Al) ((prog.info? 53).getD Al) ?_ ?_ ?_ ?_<;>exact kR
def AS9:IE 121 53 20:=⟨kR,AM2.hi⟩
def ASz(I L k m a s f)(hlen:lN a<=1000000)(Q:Ix I (Ps I) 20 a s)(N:CZ I L k m)
 (hF:∀i x o,a[i]? =sM x->o=(a.take i).foldl f k->∀J C A c,I.Da J->CZ J C o A->(Ps J) x c->Fn 49 [.p 1 0,.g<|c.map .v] (CL A o.im o.AD) J (Ki J (CM C A) (.t [])<|f o x) nO):
 Fn 48 [s.sv,.fn (.func 49) [.p 1 0] []] (CL m k.im k.AD) I (Ki I (CM L m) (.t [])<|a.foldl f k) nO:=by
 let⟨H,X,B⟩:=s;let⟨F,cells,j⟩:=Q;simp only at F j;subst F;refine fo func48 λY S w E=>gG<|loop (ι:=EX) (EP I (CM L m) a f k) (λx=>lN a-x.i) (Y1 ⟨H,lN a,B⟩<|.fn (.func 49) [.p 1 0] []) 300 [] ⟨0,I,L,m,k⟩ ⟨Bm _,.refl _ _,N,rfl⟩ ?_;rintro⟨i,J,D,G,t⟩ ⟨V,p2,p3,u⟩ again T;simp only at V p2 p3 u;by_cases g:i<lN a;have r:a[i]? =sM a[i]:=BS g;generalize a[i]=x at r;have n:Av J (Ps J) 20 a H B cells:=Av.Bf p2.le j λx l h=>AFl p2.le x l h;obtain⟨b,p,arr,e,W,c,rfl,q2,q3,q4,q5⟩:=n.cell Ac6 r;have d:=hF i x t r u J D G c p2.le p3 q3;let⟨q,q3,_⟩:=q3;subst q3;refine gg [(9,tH i<|lN a),(10,Br J AS9 b p (lN a) B i g),(11,D8 J AM2 (p+i*20) (EZ x q) rfl q2 q5)]<|A0 d [] λy O=> ?_;obtain⟨U,M,K,rfl,z,v⟩:=O;refine gg [(15,sH i)] ?_;refine bk again [] ⟨i+1,K,M,U,f t x⟩ ⟨by show i+1<=_;omega,p2.trans z,v,?_⟩;show f t x=(a.take<|i+1).foldl f k;rw[My,r,P7,<-u];rfl;have P:i=lN a:=oG;subst P;have R:t=a.foldl f k:=by rw[u,FN]
 rw[<-R];exact gg [(9,fH (lN a)<|lN a)]<|dn [] ⟨G,D,J,rfl,p2,p3⟩
def AMz:Ht 135 7:=by refine row_of ((prog.underlying 135).getD Al) ((prog.info? 135).getD Al) ?_ ?_ ?_ ?_<;>exact kR
def ATA:IE 122 135 7:=⟨kR,AMz.hi⟩
def AS0(I L k m a s v f)(hlen:lN a<=1000000)(P:Ix I SU 7 a s)(M:CZ I L k m)
 (hF:∀i x n,a[i]? =sM x->n=(a.take i).foldl f k->∀J B z c,I.Da J->CZ J B n z->SU x c->Fn 51 [.g [.p 1 0,.v<|sV v],.g<|c.map .v] (CL z n.im n.AD) J (Ki J (CM B z) (.t [])<|f n x) nO):
 Fn 50 [s.sv,.fn (.func 51) [.g [.p 1 0,.v<|sV v]] []] (CL m k.im k.AD) I (Ki I (CM L m) (.t [])<|a.foldl f k) nO:=by
 let⟨G,W,A⟩:=s;let⟨E,cells,j⟩:=P;simp only at E j;subst E;refine fo func50 λX R w D=>gG<|loop (ι:=EX) (EP I (CM L m) a f k) (λx=>lN a-x.i) (Y1 ⟨G,lN a,A⟩<|.fn (.func 51) [.g [.p 1 0,.v<|sV v]] []) 300 [] ⟨0,I,L,m,k⟩ ⟨Bm _,.refl _ _,M,rfl⟩ ?_;rintro⟨i,J,C,F,q⟩ ⟨U,p2,p3,r⟩ again T;simp only at U p2 p3 r;by_cases g:i<lN a;have p:a[i]? =sM a[i]:=BS g;generalize a[i]=x at p;have l:Av J SU 7 a G A cells:=Av.Bf p2.le j λ_ _ h=>h;obtain⟨b,o,arr,e,V,c,rfl,q2,q3,q4,q5⟩:=l.cell AZT p;have d:=hF i x q p r J C F c p2.le p3 q3;subst q3;refine gg [(9,tH i<|lN a),(10,Br J ATA b o (lN a) A i g),(11,D8 J AMz (o+i*7) (W5 x) rfl q2 q5)]<|A0 d [] λy N=> ?_;obtain⟨S,K,H,rfl,u,t⟩:=N;refine gg [(15,sH i)] ?_;refine bk again [] ⟨i+1,H,K,S,f q x⟩ ⟨by show i+1<=_;omega,p2.trans u,t,?_⟩;show f q x=(a.take<|i+1).foldl f k;rw[My,p,P7,<-r];rfl;have O:i=lN a:=oG;subst O;have Q:q=a.foldl f k:=by rw[r,FN]
 rw[<-Q];exact gg [(9,fH (lN a)<|lN a)]<|dn [] ⟨F,C,J,rfl,p2,p3⟩
def AM3:Ht 61 6:=by refine row_of ((prog.underlying 61).getD Al) ((prog.info? 61).getD Al) ?_ ?_ ?_ ?_<;>exact kR
def ATB:IE 123 61 6:=⟨kR,AM3.hi⟩
def AS1(I L k m a s v f)(hlen:lN a<=1000000)(P:Ix I Tp 6 a s)(M:CZ I L k m)
 (hF:∀i x n,a[i]? =sM x->n=(a.take i).foldl f k->∀J B z c,I.Da J->CZ J B n z->Tp x c->Fn 53 [.g [.p 1 0,.v<|sV v],.g<|c.map .v] (CL z n.im n.AD) J (Ki J (CM B z) (.t [])<|f n x) nO):
 Fn 52 [s.sv,.fn (.func 53) [.g [.p 1 0,.v<|sV v]] []] (CL m k.im k.AD) I (Ki I (CM L m) (.t [])<|a.foldl f k) nO:=by
 let⟨G,W,A⟩:=s;let⟨E,cells,j⟩:=P;simp only at E j;subst E;refine fo func52 λX R w D=>gG<|loop (ι:=EX) (EP I (CM L m) a f k) (λx=>lN a-x.i) (Y1 ⟨G,lN a,A⟩<|.fn (.func 53) [.g [.p 1 0,.v<|sV v]] []) 300 [] ⟨0,I,L,m,k⟩ ⟨Bm _,.refl _ _,M,rfl⟩ ?_;rintro⟨i,J,C,F,q⟩ ⟨U,p2,p3,r⟩ again T;simp only at U p2 p3 r;by_cases g:i<lN a;have p:a[i]? =sM a[i]:=BS g;generalize a[i]=x at p;have l:Av J Tp 6 a G A cells:=Av.Bf p2.le j λ_ _ h=>h;obtain⟨b,o,arr,e,V,c,rfl,q2,q3,q4,q5⟩:=l.cell ATH p;have d:=hF i x q p r J C F c p2.le p3 q3;subst q3;refine gg [(9,tH i<|lN a),(10,Br J ATB b o (lN a) A i g),(11,D8 J AM3 (o+i*6) (M9 x) rfl q2 q5)]<|A0 d [] λy N=> ?_;obtain⟨S,K,H,rfl,u,t⟩:=N;refine gg [(15,sH i)] ?_;refine bk again [] ⟨i+1,H,K,S,f q x⟩ ⟨by show i+1<=_;omega,p2.trans u,t,?_⟩;show f q x=(a.take<|i+1).foldl f k;rw[My,p,P7,<-r];rfl;have O:i=lN a:=oG;subst O;have Q:q=a.foldl f k:=by rw[r,FN]
 rw[<-Q];exact gg [(9,fH (lN a)<|lN a)]<|dn [] ⟨F,C,J,rfl,p2,p3⟩
def AM0:Ht 141 2:=by refine row_of ((prog.underlying 141).getD Al) ((prog.info? 141).getD Al) ?_ ?_ ?_ ?_<;>exact kR
def ATC:IE 124 141 2:=⟨kR,AM0.hi⟩
def AS2(I L k m a s f)(hlen:lN a<=1000000)(P:Ix I (N6 I) 2 a s)(M:CZ I L k m)
 (hF:∀i x o,a[i]? =sM x->o=(a.take i).foldl f k->∀J B z c,I.Da J->CZ J B o z->(N6 J) x c->Fn 55 [.p 1 0,.g<|c.map .v] (CL z o.im o.AD) J (Ki J (CM B z) (.t [])<|f o x) nO):
 Fn 54 [s.sv,.fn (.func 55) [.p 1 0] []] (CL m k.im k.AD) I (Ki I (CM L m) (.t [])<|a.foldl f k) nO:=by
 let⟨G,Y,A⟩:=s;let⟨E,cells,j⟩:=P;simp only at E j;subst E;refine fo func54 λρ R w D=>gG<|loop (ι:=EX) (EP I (CM L m) a f k) (λx=>lN a-x.i) (Y1 ⟨G,lN a,A⟩<|.fn (.func 55) [.p 1 0] []) 300 [] ⟨0,I,L,m,k⟩ ⟨Bm _,.refl _ _,M,rfl⟩ ?_;rintro⟨i,J,C,F,r⟩ ⟨U,p2,p3,t⟩ again T;simp only at U p2 p3 t;by_cases g:i<lN a;have q:a[i]? =sM a[i]:=BS g;generalize a[i]=x at q;have n:Av J (N6 J) 2 a G A cells:=Av.Bf p2.le j λx l h=>ABJ p2.le x l h;obtain⟨b,p,arr,e,X,c,rfl,q2,q3,q4,q5⟩:=n.cell AeJ q;have d:=hF i x r q t J C F c p2.le p3 q3;let⟨V,W,Z,q3,_⟩:=q3;subst q3;refine gg [(9,tH i<|lN a),(10,Br J ATC b p (lN a) A i g),(11,D8 J AM0 (p+i*2) [vS<|Aa x.1,.slice V (lN x.2) W] rfl q2 q5)]<|A0 d [] λy N=> ?_;obtain⟨S,K,H,rfl,v,u⟩:=N;refine gg [(15,sH i)] ?_;refine bk again [] ⟨i+1,H,K,S,f r x⟩ ⟨by show i+1<=_;omega,p2.trans v,u,?_⟩;show f r x=(a.take<|i+1).foldl f k;rw[My,q,P7,<-t];rfl;have O:i=lN a:=oG;subst O;have Q:r=a.foldl f k:=by rw[t,FN]
 rw[<-Q];exact gg [(9,fH (lN a)<|lN a)]<|dn [] ⟨F,C,J,rfl,p2,p3⟩
def AHQ:Gq prog Bt 105 154 9:=⟨⟨_,rfl⟩,⟨_,_,rfl,rfl⟩,kR⟩
def Y7(f):∀v∈Dy f,v.oneCell':=by intro v a;simp[Dy,BG]at a;rcases a with rfl|rfl|rfl|rfl|rfl|rfl|rfl|rfl|rfl<;>rfl
def AKt(x):∀v∈E9 x,v.oneCell':=by intro v a;simp[E9,M9]at a;rcases a with rfl|rfl|rfl|rfl|rfl|rfl|rfl|rfl<;>rfl
def HB{b:Type}{f:b->AA AF}{n:Nat}(a:∀x,lN (f x)=n):∀l:AA b,lN (l.flatMap f)=lN l*n
 |[]=>sP
 |x::l=>by rw[Kb,CK,HB a l,a,FM,Gm];omega
def ATl{I:AB}{l:AA FU}{s:Bi}(h:C8 I 9 154 (l.flatMap Dy) s):s.n=lN l:=by have:=h.n;rw[HB (n:=9) λ_=>rfl]at this;omega
def AXb{I:AB}{l:AA Lk}{s:Bi}(h:C8 I 8 63 (l.flatMap E9) s):s.n=lN l:=by have:=h.n;rw[HB (n:=8) λ_=>rfl]at this;omega
def AMF{J:AB}{A B:AA Nat}{a:AU Nat}{b:Nat}(d:(A++(a.toList++B)).Nodup)(g:∀x∈A++B,∃y,J.B8 x y)(f:a=sM b\/J.free b):∀x∈A++B,x≠b:=λx c e=>by subst e;rcases f with q|q;rw[q,Gl]at d;let⟨_,q2,q3⟩:=d;rcases Bc.1 c with c|c;exact q3 x c x sP rfl;exact(GX.1 q2).1 c;let⟨y,h⟩:=g x c;have:=h.Ak;rw[q.2]at this;cases this
def AWn(I L)(k:Ap)(m g)(x:AT×AW)(f:CZ I L k m)(U:lN k.Bj<=900000):
 Fn 51 [.g [.p 1 0,.v<|sV g],.g<|(W5 x).map .v] (CL m k.im k.AD) I (Ki I (CM L m) (.t []) {k with Bj:=k.Bj++[⟨k.AD,g,x.1,x.2⟩]}) nO:=by
 have K:=ATl f.DD;have O:=f.hasAll;have F:=f.nd;let⟨ip,es,n,Bu,⟨s,S,N⟩,lk,sm⟩:=m;simp only at K;subst K;have j:=f.DD;refine fo func51 λV R w H=>gG<|act (need:=[(268,.cells ((Dy ⟨k.AD,g,x.1,x.2⟩).map .v) 154)]) (JI (I:=I) Be (s:=⟨s,lN k.Bj,N⟩) (x:=.s 268 0 1 1) (news:=Dy ⟨k.AD,g,x.1,x.2⟩) AHQ kR j (Ez (e:=154) sP rfl<|Y7 _) dC<|by show lN k.Bj+1<=16777216;omega) JH ?_;rintro T ⟨b,c,a,rfl,C,D,E,t,o⟩;refine gG ?_;have M:L.map (λr:Rw=>r.b)++((Bb Bu.a).toList++((Bb s).toList++(Bb lk.a).toList))=(L.map (λr:Rw=>r.b)++(Bb Bu.a).toList)++((Bb s).toList++(Bb lk.a).toList):=by rw[Eb]
 have l:((L.map (λr:Rw=>r.b)++(Bb Bu.a).toList)++((Bb s).toList++(Bb lk.a).toList)).Nodup:=by rwa[<-M]
 have p:=AMF (J:=I) l (λy i=>O y (by rw[CM];simp only[Bc]at i⊢;rcases i with(h|h)|h<;>simp[h])) o;have e:∀y∈(L.map (λr:Rw=>r.b)++(Bb Bu.a).toList)++(Bb lk.a).toList,∀z,I.B8 y z->(I.plus b<|.cells (k.Bj.flatMap Dy++Dy ⟨k.AD,g,x.1,x.2⟩++a).toArray 154 (0,0)).B8 y z:=λy i z Q=>K0 Q<|p y i;have d:I.Da (I.plus b<|.cells (k.Bj.flatMap Dy++Dy ⟨k.AD,g,x.1,x.2⟩++a).toArray 154 (0,0)):=λ_ _ h=>h;have B:(k.Bj++[(⟨k.AD,g,x.1,x.2⟩:FU)]).flatMap Dy=k.Bj.flatMap Dy++Dy ⟨k.AD,g,x.1,x.2⟩:=by rw[Mu];simp
 refine dn [] ⟨_,L,_,rfl,?_,?_⟩ (h:={r:=.t [],AV:=CL ⟨ip,es,n,Bu,⟨sM ⟨b,0,nO⟩,lN k.Bj+1,c⟩,lk,sm⟩ k.im k.AD,J:=I.plus b<|.cells (k.Bj.flatMap Dy++Dy ⟨k.AD,g,x.1,x.2⟩++a).toArray 154 (0,0)});exact(Oj (P1:=L.map (λr:Rw=>r.b)++(Bb Bu.a).toList) (P2:=(Bb lk.a).toList) (o:=.cells (k.Bj.flatMap Dy++Dy ⟨k.AD,g,x.1,x.2⟩++a).toArray 154 (0,0)) t o).cast (by simp[CM]) (by simp[CM,Bb]);have P:C8 (I.plus b<|.cells (k.Bj.flatMap Dy++Dy ⟨k.AD,g,x.1,x.2⟩++a).toArray 154 (0,0)) 9 154 ((k.Bj++[(⟨k.AD,g,x.1,x.2⟩:FU)]).flatMap Dy) ⟨sM ⟨b,0,nO⟩,lN k.Bj+1,c⟩:=by rw[B];refine⟨?_,λv A=> ?_,.inr ⟨b,a,rfl,Li t,C,D,E⟩⟩;rw[CK,HB (n:=9) λ_=>rfl];show _+9=_;simp only;omega;rcases Bc.1 A with A|A;exact j.one v A;exact Y7 _ v A
 have u:(CM L ⟨ip,es,n,Bu,⟨sM ⟨b,0,nO⟩,lN k.Bj+1,c⟩,lk,sm⟩).Nodup:=by
  have:=AEl (a:=Bb s) (b:=b) l (by rcases o with q|q;exact .inl q;exact .inr ⟨λG=>p b (GC _ G) rfl,λG=>p b (HZ _ G) rfl⟩)
  rw[Eb]at this;exact this
 exact{tab:=EB.Bf d f.tab,pow:=Pow.Bf d f.pow,img:=FJ.Bf d f.img,tm:=D6.Bf d f.tm,B0:=C9.Bf d f.B0,Dl:=f.Dl.A2 λy i=>e y<|by simp only[Bc];exact .inl<|.inl i,Bu:=f.Bu.A2 λy i=>e y<|by simp only[Bc];exact .inl<|.inr i,DD:=P,lk:=f.lk.A2 λy i=>e y<|by simp only[Bc];exact .inr i,nd:=u}
def AWh(I L)(k:Ap)(m g x)(f:CZ I L k m)(U:lN k.B5<=900000):
 Fn 53 [.g [.p 1 0,.v<|sV g],.g<|(M9 x).map .v] (CL m k.im k.AD) I (Ki I (CM L m) (.t []) {k with B5:=k.B5++[⟨k.AD,g,x⟩]}) nO:=by
 have K:=AXb f.lk;have O:=f.hasAll;have F:=f.nd;let⟨ip,es,n,Bu,DD,⟨p,S,N⟩,sm⟩:=m;simp only at K;subst K;have t:=f.lk;refine fo func53 λV R w H=>gG<|act (need:=[(244,.cells ((E9 ⟨k.AD,g,x⟩).map .v) 63)]) (JI (I:=I) Be (s:=⟨p,lN k.B5,N⟩) (x:=.s 244 0 1 1) (news:=E9 ⟨k.AD,g,x⟩) AHW kR t (Ez (e:=63) sP rfl<|AKt _) dC<|by show lN k.B5+1<=16777216;omega) JH ?_;rintro T ⟨b,c,a,rfl,C,D,E,s,l⟩;refine gG ?_;have M:L.map (λr:Rw=>r.b)++((Bb Bu.a).toList++((Bb DD.a).toList++(Bb p).toList))=(L.map (λr:Rw=>r.b)++((Bb Bu.a).toList++(Bb DD.a).toList))++((Bb p).toList++[]):=by simp[Eb]
 have j:((L.map (λr:Rw=>r.b)++((Bb Bu.a).toList++(Bb DD.a).toList))++((Bb p).toList++[])).Nodup:=by rwa[<-M]
 have o:=AMF (J:=I) j (λy i=>O y (by rw[CM];simp only[Bc,Hp,_root_.or_false]at i⊢;rcases i with h|h|h<;>simp[h])) l;have e:∀y∈(L.map (λr:Rw=>r.b)++((Bb Bu.a).toList++(Bb DD.a).toList))++[],∀z,I.B8 y z->(I.plus b<|.cells (k.B5.flatMap E9++E9 ⟨k.AD,g,x⟩++a).toArray 63 (0,0)).B8 y z:=λy i z Q=>K0 Q<|o y i;have d:I.Da (I.plus b<|.cells (k.B5.flatMap E9++E9 ⟨k.AD,g,x⟩++a).toArray 63 (0,0)):=λ_ _ h=>h;have B:(k.B5++[(⟨k.AD,g,x⟩:Lk)]).flatMap E9=k.B5.flatMap E9++E9 ⟨k.AD,g,x⟩:=by rw[Mu];simp
 refine dn [] ⟨_,L,_,rfl,?_,?_⟩ (h:={r:=.t [],AV:=CL ⟨ip,es,n,Bu,DD,⟨sM ⟨b,0,nO⟩,lN k.B5+1,c⟩,sm⟩ k.im k.AD,J:=I.plus b<|.cells (k.B5.flatMap E9++E9 ⟨k.AD,g,x⟩++a).toArray 63 (0,0)});exact(Oj (P1:=L.map (λr:Rw=>r.b)++((Bb Bu.a).toList++(Bb DD.a).toList)) (P2:=[]) (o:=.cells (k.B5.flatMap E9++E9 ⟨k.AD,g,x⟩++a).toArray 63 (0,0)) s l).cast (by simp[CM]) (by simp[CM,Bb]);have P:C8 (I.plus b<|.cells (k.B5.flatMap E9++E9 ⟨k.AD,g,x⟩++a).toArray 63 (0,0)) 8 63 ((k.B5++[(⟨k.AD,g,x⟩:Lk)]).flatMap E9) ⟨sM ⟨b,0,nO⟩,lN k.B5+1,c⟩:=by rw[B];refine⟨?_,λv A=> ?_,.inr ⟨b,a,rfl,Li s,C,D,E⟩⟩;rw[CK,HB (n:=8) λ_=>rfl];show _+8=_;simp only;omega;rcases Bc.1 A with A|A;exact t.one v A;exact AKt _ v A
 have u:(CM L ⟨ip,es,n,Bu,DD,⟨sM ⟨b,0,nO⟩,lN k.B5+1,c⟩,sm⟩).Nodup:=by
  have:=AEl (a:=Bb p) (b:=b) j (by rcases l with q|q;exact .inl q;exact .inr ⟨λG=>o b (GC _ G) rfl,λG=>o b (HZ _ G) rfl⟩)
  simp only[Eb,Hn]at this;exact this
 exact{tab:=EB.Bf d f.tab,pow:=Pow.Bf d f.pow,img:=FJ.Bf d f.img,tm:=D6.Bf d f.tm,B0:=C9.Bf d f.B0,Dl:=f.Dl.A2 λy i=>e y<|by simp only[Bc];exact .inl<|.inl i,Bu:=f.Bu.A2 λy i=>e y<|by simp only[Bc];exact .inl<|.inr<|.inl i,DD:=f.DD.A2 λy i=>e y<|by simp only[Bc];exact .inl<|.inr<|.inr i,lk:=P,nd:=u}
def Ad3(I L k m t w l o q)(f:CZ I L k m)(c:Af k.AC w.1=sM t)(hid:CB t.id)(g:lN t.c.stack<=1000000)(j:lN w.2<=1000000)(x:F3 I w.2 l o q):
 Fn 55 [.p 1 0,.g [.v<|sV w.1,.v<|.slice l (lN w.2) o]] (CL m k.im k.AD) I (Ki I (CM L m) (.t [])<|RI k w) nO:=by
 have p:w.1=t.id:=(E2 c).symm;refine Fn.to (AWq I m k.im k.AD (FA k.AC) t w.1 w.2 l o q (F5<|by rwa[p]) (F5 hid) (by rwa[NF]) g j x f.tm) λy h u=> ?_;obtain⟨d,z,J,hle,i,rfl⟩:=u;have e:RI k w= {k with AC:=A1 k.AC<|DX t w.2}:=by rw[RI];rw[c]
 rw[e];refine⟨{m with es:=d,n:=z},L,J,rfl,.of hle,?_⟩;have a:=f.up hle;have s:CC k.AC (DX t w.2)=A1 k.AC (DX t w.2):=by rw[CC];rw[show Af k.AC (DX t w.2).id=sM t by rwa[show(DX t w.2).id=t.id from rfl,<-p]];rfl
 have v:(A1 k.AC<|DX t w.2).map (·.id)=k.AC.map (·.id):=Sa _ _;exact{a with tm:=i.UZ<|by rw[<-s];exact Uc k.AC<|DX t w.2,Bu:=by show C8 J 1 9 (((A1 k.AC<|DX t w.2).map (·.id)).map BQ) m.Bu;rw[v];exact a.Bu,nd:=f.nd}
def AeQ:∀w,(zeroValue 53).run prog w=.ok (.agg (EZ P3 RJ).toArray) w:=by have h:(prog.info? 53).map (λi=>i.zero)=sM (sM<|.agg (EZ P3 RJ).toArray):=kR;let⟨i,a,b⟩:=L9.1 h;intro w;simp[zeroValue,typeInfo,a,b,Result.andThen]
abbrev UC(m:CH)(k:Ap):AA (Nat×AK):=[(1,.cells (m.row k.im k.AD) 107),(2,.Aq<|.map m.es m.n),(3,.cells [.m 4,.m 5] 178),(4,.Aq<|.map m.sm.es m.sm.n),(5,.Aq<|.map m.sm.ns m.sm.m),(6,.cells [.p 1 0] 27)]
def YB(I:AB)(P:AA Nat)(o:Bi)(c:Ap):zP:=λ_ h=>∃a b J,h= {r:=.t [],AV:=UC a c,J:=J}/\Cb I P J (CM b a)/\CZ J b c a/\a.Bu=o
def ATO(a:AU Au)(n c:Nat)(x:EX):Hd where
 Cd:=[(1,.fn (.func 38) [] [.p 6 0]),(6,.v<|.slice a n c),(7,.v<|iV n),(8,.v<|iV x.i)]
 Cc:=UC x.m x.k
 J:=x.J
structure EOB(I:AB)(P:AA Nat)(o:Bi)(xs:AA Nm)(f:Ap->Nm->Ap)(a:Ap)(x:EX):Prop where
 i:x.i<=lN xs
 st:Cb I P x.J (CM x.L x.m)
 ZX:CZ x.J x.L x.k x.m
 k:x.k=(xs.take x.i).foldl f a
 Bu:x.m.Bu=o
 C3:x.k.AC.map (·.id)=xs
def ASx(I L k m a f)(hlen:lN a<=1000000)(E:CZ I L k m)(c:k.AC.map (·.id)=a)
 (hF:∀i x g,a[i]? =sM x->g=(a.take i).foldl f k->g.AC.map (·.id)=a->(f g x).AC.map (·.id)=a/\∀J C t,I.Da J->CZ J C g t->t.Bu=m.Bu->Fn 38 [.v<|sV x,.p 6 0] (UC t g) J (YB J (CM C t) m.Bu<|f g x) nO):
 Fn 37 [m.Bu.sv,.fn (.func 38) [] [.p 6 0]] (UC m k) I (YB I (CM L m) m.Bu<|a.foldl f k) nO:=by
 let⟨p,l⟩:=AE1 (show C8 I 1 9 (a.map BQ) m.Bu by rw[<-c];exact E.Bu);let⟨ip,es,n,⟨r,on,h⟩,DD,lk,sm⟩:=m;simp only at p l hF;subst l;refine fo func37 λU Q w F=>gG<|loop (ι:=EX) (EOB I (CM L ⟨ip,es,n,⟨r,lN a,h⟩,DD,lk,sm⟩) ⟨r,lN a,h⟩ a f k) (λx=>lN a-x.i) (ATO r (lN a) h) 300 [] ⟨0,I,L,⟨ip,es,n,⟨r,lN a,h⟩,DD,lk,sm⟩,k⟩ ⟨Bm _,.refl _ _,E,rfl,rfl,c⟩ ?_;rintro⟨i,J,D,G,s⟩ ⟨S,p2,p3,u,p6,p7⟩ again T;simp only at S p2 p3 u p6 p7;by_cases j:i<lN a;have o:C8 J 1 9 (a.map BQ) ⟨r,lN a,h⟩:=by rw[<-p6,<-p7];exact p3.Bu
 rcases o.at_ with⟨q1,_,_⟩|⟨b,q,rfl,M,_⟩;have q1:lN a=0:=q1;omega;have B:a[i]? =sM a[i]:=BS j;have e:((a.map BQ++q).toArray:Ae AF)[0+i*1]? =sM (BQ a[i]):=by rw[Mv,Gj<|by rw[DG];omega,GB];simp[B]
 let⟨q2,q3⟩:=hF i a[i] s B u p7;refine gg [(9,tH i<|lN a),(10,Br J Jr b 0 (lN a) h i j),(11,.Kz J _ _<|IZ (I:=J.CW) Di rfl M.CW e)]<|A0 (q3 J D G p2.le p3 p6) [] λy v=> ?_;obtain⟨R,K,H,rfl,O,z,A⟩:=v;refine gg [(15,sH i)] ?_;refine bk again [] ⟨i+1,H,K,R,f s a[i]⟩ ⟨by show i+1<=_;omega,p2.trans O,z,?_,A,q2⟩;show f s a[i]=(a.take<|i+1).foldl f k;rw[My,B,P7,<-u];rfl;have N:i=lN a:=oG;subst N;have P:s=a.foldl f k:=by rw[u,FN]
 rw[<-P];exact gg [(9,fH (lN a)<|lN a)]<|dn [] ⟨G,D,J,rfl,p2,p3,p6⟩
abbrev Np(m:CH)(k:Ap)(a:Nm):AA (Nat×AK):=[(1,.cells (m.row k.im k.AD) 107),(2,.Aq<|.map m.es m.n),(3,.cells [.m 4,.m 5] 178),(4,.Aq<|.map m.sm.es m.sm.n),(5,.Aq<|.map m.sm.ns m.sm.m),(6,.cells [.p 1 0] 27),(7,.cells [.v<|sV a] 9)]
def YD(I:AB)(P:AA Nat)(o:Bi)(c:Ap)(d:Nm):zP:=λ_ h=>∃a b J,h= {r:=.t [],AV:=Np a c d,J:=J}/\Cb I P J (CM b a)/\CZ J b c a/\a.Bu=o
def ATP(a:AU Au)(n c:Nat)(id:Nm)(x:EX):Hd where
 Cd:=[(1,.fn (.func 109) [] [.p 6 0,.p 7 0]),(6,.v<|.slice a n c),(7,.v<|iV n),(8,.v<|iV x.i)]
 Cc:=Np x.m x.k id
 J:=x.J
structure EOY(I:AB)(P:AA Nat)(o:Bi)(xs:AA Nm)(f:Ap->Nm->Ap)(a:Ap)(x:EX):Prop where
 i:x.i<=lN xs
 st:Cb I P x.J (CM x.L x.m)
 ZX:CZ x.J x.L x.k x.m
 k:x.k=(xs.take x.i).foldl f a
 Bu:x.m.Bu=o
 C3:x.k.AC.map (·.id)=xs
def ASy(I L k m q a f)(hlen:lN a<=1000000)(F:CZ I L k m)(c:k.AC.map (·.id)=a)
 (hF:∀i x g,a[i]? =sM x->g=(a.take i).foldl f k->g.AC.map (·.id)=a->(f g x).AC.map (·.id)=a/\∀J D u,I.Da J->CZ J D g u->u.Bu=m.Bu->Fn 109 [.v<|sV x,.p 6 0,.p 7 0] (Np u g q) J (YD J (CM D u) m.Bu (f g x) q) nO):
 Fn 37 [m.Bu.sv,.fn (.func 109) [] [.p 6 0,.p 7 0]] (Np m k q) I (YD I (CM L m) m.Bu (a.foldl f k) q) nO:=by
 let⟨p,l⟩:=AE1 (show C8 I 1 9 (a.map BQ) m.Bu by rw[<-c];exact F.Bu);let⟨ip,es,n,⟨s,on,h⟩,DD,lk,sm⟩:=m;simp only at p l hF;subst l;refine fo func37 λV R w G=>gG<|loop (ι:=EX) (EOY I (CM L ⟨ip,es,n,⟨s,lN a,h⟩,DD,lk,sm⟩) ⟨s,lN a,h⟩ a f k) (λx=>lN a-x.i) (ATP s (lN a) h q) 300 [] ⟨0,I,L,⟨ip,es,n,⟨s,lN a,h⟩,DD,lk,sm⟩,k⟩ ⟨Bm _,.refl _ _,F,rfl,rfl,c⟩ ?_;rintro⟨i,J,E,H,t⟩ ⟨U,p2,p3,v,p6,p7⟩ again T;simp only at U p2 p3 v p6 p7;by_cases j:i<lN a;have o:C8 J 1 9 (a.map BQ) ⟨s,lN a,h⟩:=by rw[<-p6,<-p7];exact p3.Bu
 rcases o.at_ with⟨q1,_,_⟩|⟨b,r,rfl,N,_⟩;have q1:lN a=0:=q1;omega;have C:a[i]? =sM a[i]:=BS j;have e:((a.map BQ++r).toArray:Ae AF)[0+i*1]? =sM (BQ a[i]):=by rw[Mv,Gj<|by rw[DG];omega,GB];simp[C]
 let⟨q2,q3⟩:=hF i a[i] t C v p7;refine gg [(9,tH i<|lN a),(10,Br J Jr b 0 (lN a) h i j),(11,.Kz J _ _<|IZ (I:=J.CW) Di rfl N.CW e)]<|A0 (q3 J E H p2.le p3 p6) [] λy z=> ?_;obtain⟨S,M,K,rfl,P,A,B⟩:=z;refine gg [(15,sH i)] ?_;refine bk again [] ⟨i+1,K,M,S,f t a[i]⟩ ⟨by show i+1<=_;omega,p2.trans P,A,?_,B,q2⟩;show f t a[i]=(a.take<|i+1).foldl f k;rw[My,C,P7,<-v];rfl;have O:i=lN a:=oG;subst O;have Q:t=a.foldl f k:=by rw[v,FN]
 rw[<-Q];exact gg [(9,fH (lN a)<|lN a)]<|dn [] ⟨H,E,J,rfl,p2,p3,p6⟩
variable{C:AT}{F:UInt8->Prop}
def JV{l}(h:A4 l=l):B9 l:=by rw[<-h];exact⟨Wv _,Wv _⟩
def CZ.XT{I J L j k k' m m'}(h:CZ I L k m)(i:Dd I L J j)(f:k'.im=k.im/\m'.ip=m.ip)(b:m'.Bu=m.Bu/\k'.AC.map (·.id)=k.AC.map (·.id))(a:m'.DD=m.DD/\k'.Bj=k.Bj)(c:m'.lk=m.lk/\k'.B5=k.B5)
 (tm:D6 J (FA k'.AC) m'.es) (B0:C9 J k'.Ah m'.sm.es m'.sm.n) (Dl:El J k'.Ah j m'.sm.ns m'.sm.m):CZ J j k' m'/\Cb I (CM L m) J (CM j m'):=by
 have o:=h.hasAll;have g:=h.nd;unfold CM at o g;have t:Cb I (CM L m) J (CM j m'):=by unfold CM;rw[b.1,a.1,c.1];exact i.toP _
 rw[Gl]at g;let⟨A,v,p⟩:=g;have hE:∀x∈(Bb m.Bu.a).toList++((Bb m.DD.a).toList++(Bb m.lk.a).toList),∀y,I.B8 x y->J.B8 x y:=λx d y l=>i.A2 x y l λr n e=>p x (BI.2 ⟨r,n,e⟩) x d rfl;refine⟨{tab:=EB.Bf i.le h.tab,pow:=Pow.Bf i.le h.pow,img:= ?_,tm:=tm,B0:=B0,Dl:=Dl,Bu:= ?_,DD:= ?_,lk:= ?_,nd:= ?_},t⟩;rw[f.1,f.2];exact FJ.Bf i.le h.img;rw[b.1,b.2];exact h.Bu.A2 λx d=>hE x (by simp only[Bc];exact .inl d);rw[a.1,a.2];exact h.DD.A2 λx d=>hE x (by simp only[Bc];exact .inr<|.inl d);rw[c.1,c.2];exact h.lk.A2 λx d=>hE x (by simp only[Bc];exact .inr<|.inr d);unfold CM;rw[b.1,a.1,c.1,Gl];refine⟨Dl.bl,v,λx d y l e=> ?_⟩;subst e;let⟨r,n,e⟩:=BI.1 d;rcases i.CE r n with⟨w,s,q⟩|hn;exact p x (BI.2 ⟨w,s,q.trans e⟩) x l rfl;let⟨z,u⟩:=o x<|HZ _ l;exact hn z (by rw[e];exact u)
structure MG(C:AT)(F:AH->Prop)(A S:Nat)(k:Ap):Prop where
 kk:KK C F k
 bk:BK A S k.AC k.Ah
 a:A<=800000
 s:S<=800000
 AD:k.AD<=900000
 an:∀a b,F a->F (a&&&b)
 cl:∀p,F p->Hr C p
def AUY{s on b n}(h:Am s n=nO):Am (Gy s on b) n=nO:=by rw[Gy];split;rename_i o a;split;split;rw[PV,a];simp only;split;rwa[AY λe=>by subst e;rw[h]at a;cases a];exact h;exact h;exact h;exact h
def AaK{m M a s}(h:KI m M a s):∀n o,Am s n=sM o->∀y∈o.var.q,BV y.id:=λn o c y d=>by let⟨t,b,_⟩:=(h.Dn n o c).2 y d;have:=(h.of b).HM t.id DT;rw[E2 b]at this;exact F5 this
def AKg{m M c s j}(h:KI m M c s){t}(g:Af c t.id=sM t){i}(f:i<lN t.AI)(e:∀n,Am s n=nO->Am j n=nO):Ew j (t.AI.getD i Al).name (GF t i):=by
 have a:t.AI.getD i Al=t.AI[i]:=by rw[DK,BS f];rfl
 have b:=h.of g;have d:=DR f;have p:=(b.Cj.2 _ d).1;have o:=e _<|h.Ja t (D2 g) _ d;have k:(GF t i).kind=3:=rfl;have l:(GF t i).l=t.AI[i].l:=by show(t.AI.getD i Al).l=_;rw[a]
 rw[Ew];rw[a,b.HM _<|DY _<|BI.2 ⟨_,d,rfl⟩,k,l,p,o];simp
def AQt(I L k m){A S}(b:CZ I L k m)(d:MG C F A S k)(x t)(p:Af k.AC x=sM t):
 (Fp k x).AC.map (·.id)=k.AC.map (·.id)/\Fn 38 [.v<|sV x,.p 6 0] (UC m k) I (YB I (CM L m) m.Bu<|Fp k x) nO:=by
 have hid:=E2 p;subst hid;have j:=d.kk.ki.of p;have r:=d.bk.ts t<|D2 p;have hA:=d.a;have hS:=d.s;have X:=r.sc;have c:=F5<|j.HM t.id DT;have D:Ij (FA k.AC) t.id=sM t:=by rwa[NF]
 rw[Fp];rw[p];dsimp only;cases P:IU t k.AD with
 |none=>
  refine⟨rfl,Fn.to (AQo I (FA k.AC) k.Ah L m k.im k.AD t t.id c D P oG b.tm b.B0 b.Dl) λV h R=> ?_⟩;obtain⟨q,W,z,M,J,H,y,w,v,rfl⟩:=R;let⟨f,N⟩:=b.XT (k':=k) (m':={m with es:=q,n:=W,sm:=z}) H ⟨rfl,rfl⟩ ⟨rfl,rfl⟩ ⟨rfl,rfl⟩ ⟨rfl,rfl⟩ y w v;exact⟨_,M,J,rfl,N,f,rfl⟩
 |some i=>
  have B:=PK P;have Q:t.AI.getD i Al=t.AI[i]:=by rw[DK,BS B];rfl
  have E:(GH t i).id=t.id:=rfl;have l:(I4 k t i).AC.map (·.id)=k.AC.map (·.id):=Sa _ _;refine⟨l,?_⟩;have EV:(NQ (FA k.AC) t.id<|GH t i).Perm (FA (I4 k t i).AC):=by have:=Uc k.AC<|GH t i;rw[CC]at this;rw[E,p]at this;exact this
  have u:∀s∈t.AI,B9 s.l:=λs H=>JV (j.Cj.2 s H).1;have G:B9 (GF t i).l:=by show B9 (t.AI.getD i Al).l;rw[Q];exact u _<|DR B
  have Y:=r.c.st;have hlen:=d.bk.sl;have Bz:∀K:Az,I4 k t i= {k with Ah:=Cy K (t.AI.getD i Al).name<|GF t i,AC:=A1 k.AC<|GH t i}->(∀a,DZ I t a->Fn 40 [.p 1 0,.g<|Dr t a,.v<|iV i] (CL m k.im k.AD) I (YC I L m k.im k.AD (NQ (FA k.AC) t.id<|GH t i)<|Cy K (t.AI.getD i Al).name<|GF t i) nO)->
   Fn 38 [.v<|sV t.id,.p 6 0] (UC m k) I (YB I (CM L m) m.Bu<|I4 k t i) nO:=λK e T=>by
   refine Fn.to (AQp I (FA k.AC) (NQ (FA k.AC) t.id<|GH t i) (Cy K (t.AI.getD i Al).name<|GF t i) L m k.im k.AD t t.id i c D P oG b.tm T) λV h R=> ?_;obtain⟨q,W,z,M,J,H,y,w,v,rfl⟩:=R;let⟨f,N⟩:=b.XT (k':=I4 k t i) (m':={m with es:=q,n:=W,sm:=z}) H ⟨rfl,rfl⟩ ⟨rfl,l⟩ ⟨rfl,rfl⟩ ⟨rfl,rfl⟩ (y.UZ EV) (by rwa[e]) (by rwa[e]);exact⟨_,M,J,rfl,N,f,rfl⟩
  by_cases f:t.Aw=1;refine Bz (Gy k.Ah t.on t.id) (by rw[I4];rw[Ac f]) λa O=> ?_;exact AWg I (FA k.AC) k.Ah L m k.im k.AD t a i f (F5<|r.on f) (AaK d.kk.ki) (λn o Z=>by have:=(d.bk.os n o Z).q;omega)
   {pow:=b.pow,AC:=O,id:=c,sc:=B,scl:=by omega,N3:=by omega,g:=JV j.Cj.1.1,gs:=u,ok:=AKg d.kk.ki p B λn U=>AUY U,ol:=G,len:=by rw[(AJV d.bk.os t.on t.id).2];omega,tm:=b.tm,B0:=b.B0,Dl:=b.Dl}
  refine Bz k.Ah (by rw[I4];rw[AY f]) λa O=> ?_;exact AWf I (FA k.AC) k.Ah L m k.im k.AD t a i f
   {pow:=b.pow,AC:=O,id:=c,sc:=B,scl:=by omega,N3:=by omega,g:=JV j.Cj.1.1,gs:=u,ok:=AKg d.kk.ki p B λn U=>U,ol:=G,len:=by omega,tm:=b.tm,B0:=b.B0,Dl:=b.Dl}
def AUT{m M}(l:AA Nm){k}(h:KK m M k):KK m M (l.foldl Fp k):=NC (P:=KK m M) (λ_ x h=>Rk h x) l h
def AUU(l:AA Nm)(k:Ap):(l.foldl Fp k).AD=k.AD:=NC (P:=λb:Ap=>b.AD=k.AD) (λa x h=>(YR a x).2.1.trans h) l rfl
def AQs(I L k m){A S}(a:CZ I L k m)(b:MG C F A S k)(B:S+A<=800000)(s:k.AD+1<=900000):
 Fn 11 [.p 1 0] (CL m k.im k.AD) I (Ki I (CM L m) (.t [])<|Fo k) nO:=by
 have G:=b.bk.tl;have l:CZ I L {k with AD:=k.AD+1} m:=⟨a.tab,a.pow,a.img,a.tm,a.B0,a.Dl,a.Bu,a.DD,a.lk,a.nd⟩;have D:=ASx I L {k with AD:=k.AD+1} m (k.AC.map (·.id)) Fp (by rw[DG];omega) l rfl λi x k' N d c=>by
  have h:KK C F k':=by rw[d];exact AUT _ ⟨b.kk.ki,b.kk.kq⟩
  have f:=ADc ((k.AC.map (·.id)).take i) (k:={k with AD:=k.AD+1}) (A:=A) (S:=S) b.bk ⟨b.kk.ki,b.kk.kq⟩;rw[<-d]at f;have P:lN ((k.AC.map (·.id)).take i)<=A:=by rw[Cu,DG];omega
  have H:k'.AD=k.AD+1:=by rw[d];exact AUU _ _
  have n:MG C F A (S+A) k':=⟨h,f.mono (Ag _) oG,b.a,B,oG,b.an,b.cl⟩;have p:x∈k'.AC.map (·.id):=by rw[c];exact De N
  let⟨t,o,e⟩:=BI.1 p;have u:Af k'.AC x=sM t:=by rw[<-e];exact NT h.ki.E0 o
  refine⟨?_,λJ j q _ z K=> ?_⟩;have:(Fp k' x).AC.map (·.id)=k'.AC.map (·.id):=by rw[Fp];rw[u];dsimp only;split;exact Sa _ _;rfl
  rwa[this];rw[<-K];exact(AQt J j k' q z n x t u).2
 refine fo func11 λQ O w r=>gg [(6,sH k.AD)]<|A0 D [(6,100)] λy E=> ?_;obtain⟨q,j,J,rfl,M,g,_⟩:=E;refine gG ?_;have e:(k.AC.map (·.id)).foldl Fp {k with AD:=k.AD+1}=Fo k:=rfl;rw[e]at g⊢;exact dn [] ⟨q,j,J,rfl,M,g⟩
def AP3{v}(h:wv v)(a:A4 v.l=v.l):WV v:=⟨h.imp_left And.left,JV a⟩
def AeN{v}(h:wv v):BV v.name:=by rcases h with h|h|h;rw[h.1];intro x a;cases a;rw[h];intro x a;cases a;exact F5 h.2.2.2
structure VW(p:A6):Prop where
 ok:ABx p
 im:IQ p
 ib:Ie p
 R7:lN p.Ax<=1000
def AIN{I L k m}(b:CZ I L k m){t a}(ha:DZ I t a)(AD AP):By I (Jq k.im m.ip AD AP) ⟨k.Ah,t,A8⟩ (OZ a m.sm L) where
 tab:=b.tab
 pow:=b.pow
 img:=b.img
 args:=Ix.nil
 AC:=ha
 B0:=b.B0
 Dl:=b.Dl
 BU:=G6.empty
 out:=G6.empty
 Bo:=G6.empty
 BY:=G6.empty
def AEO{A t}(h:BT A t)(a:A<=800000):Kf t.c:=⟨by have:=h.c.fr;omega,by have:=h.c.st;omega,by have:=h.c.tr;omega⟩
def ASf{I L k m A S}(T:CZ I L k m)(g:MG C F A S k)(W:VW k.im){t}(Z:Af k.AC t.id=sM t)(P:t.Aw=0){a}(ha:DZ I t a):AGi I k.im m.ip t a k.Ah k.AD m.sm L:=by
 have b:=g.kk.ki.of Z;have d:=g.bk.ts t (D2 Z);have V:=g.a;have hS:=g.s;have ac:=g.AD;have j:=AEO d V;have ad:=d.sc;have hlen:=g.bk.sl;have r:=F5 (b.HM t.id List.mem_cons_self);have hq:∀n o,Am k.Ah n=sM o->lN o.var.q<=800000:=λn o s=>Nat.le_trans (g.bk.os n o s).q V;have Q:∀v∈t.c.stack,A4 v.l=v.l:=λv p=>(b.FL.st v p).Cj;refine⟨{tab:=T.tab,pow:=T.pow,img:=T.img,ok:=W.ok,len:=j,Gv:=ha.c,As:=λv p=>AP3 (d.c.vs v p) (Q v p),Ai:=λf J=>by have:=(d.c.vf f J).1;omega},AIN T ha _ _,oG,r,λn o s=>by have:=hq n o s;omega,λo hr=> ?_⟩;let⟨J,h,_⟩:=AAt hr;refine⟨h,?_⟩;let⟨f,fn,h1,h2,h3,h4,h5,R⟩:=AJL J;have aa:CU k.im o=BP o.code:=by rw[CU];rw[if_neg (ACM h)]
 rw[aa]at R;have Y:=Lz.N1 R;have E:BL A S ⟨k.Ah,{t with c:=D4 (FR t.c (BP o.code)) λf=>{f with pc:=f.pc+1}},A8⟩:=(show BL A S ⟨k.Ah,t,A8⟩from⟨d,g.bk.os,hlen⟩).core (by show t.Aw≠1;omega) (Rj (ACP d.c _) λ_ q=>q) (Nat.le_refl _);have N:=W9 d.c (BP o.code);have l:∀v∈Ct t.c (BP o.code),A4 v.l=v.l:=λv p=>Q v (List.mem_of_mem_drop p);have D:=AHY (im:=k.im) (AD:=k.AD) (o:=o) (AR:=f.AR) (l:=Ct t.c (BP o.code)) E rfl P (λi hi=>ZE N oG) (λi hi=>by rw[List.getD_eq_getElem?_getD,List.getElem?_eq_getElem oG];exact l _ (List.getElem_mem _))
 have G:=E.t;have w:HQ t.c (BP o.code):=R;have K:=g.kk.ki.YS Z P;have M:F f.AR:=(b.FL.fr f (AA1 h1)).1;have H:CI C F k.AC t ⟨k.Ah,{t with c:=D4 (FR t.c (BP o.code)) λf=>{f with pc:=f.pc+1}},A8⟩:=
  K.core (λx B=>(UB (b.JW oG x B) w).trans (Wa (UB (b.JW oG x B) w).on λ_=>rfl)) (Rr (ACw b.FL _) λ_ q=>q)
 have hid:(CO k.im k.AD o f.AR (Ct t.c (BP o.code)) ⟨k.Ah,{t with c:=D4 (FR t.c (BP o.code)) λf=>{f with pc:=f.pc+1}},A8⟩).1.t.id=t.id:=by
  have O:=AHa (im:=k.im) (AD:=k.AD) (o:=o) (AR:=f.AR) (l:=Ct t.c (BP o.code)) H rfl (W8 b.FL _) M λx B=>g.cl _ (by rcases(AHb (im:=k.im) (AD:=k.AD) (o:=o) (AR:=f.AR) (l:=Ct t.c (BP o.code)) (k:=⟨k.Ah,{t with c:=D4 (FR t.c (BP o.code)) λf=>{f with pc:=f.pc+1}},A8⟩) l rfl).1 with⟨e,_⟩|⟨y,e,X,_⟩;rw[e]at B;cases B;rw[e]at B;rwa[List.mem_singleton.1 B,X])
  rcases O with⟨_,J⟩|⟨ab,e,hc,_⟩;exact J.id;exact hc.id
 refine⟨f,{top:=h1,pop:=R,len:=j,pc:= ?_,R7:=by show lN k.im.Ax<=1000000;have:=W.R7;omega,op:=λa'=> ?_,id:= ?_,q:=λn U s=> ?_}⟩;have ae:=(List.getElem?_eq_some_iff.1 h3).1;have:=W.ok.code fn (List.mem_of_getElem? h2);omega;have hp:=b.NO;have z:t.Bg∈t.id::t.AI.map (·.name):=by rw[<-hp];simp
 have af:=d.md;have ag:=d.rm;exact⟨⟨JV b.Cj.1.1,JV b.Cj.1.2⟩,AEO G V,b.HM _ z,(by show t.A7<=1000000;omega),(by show t.Ao<=1000000;omega),(by show lN t.AI<=900000;omega),(by show lN k.Ah<=900000;omega),
  λn U s=>⟨JV (g.kk.ki.Ep n U s).Cj,by have:=hq n U s;omega⟩,λv p=>⟨JV (l v p),AeN (N v p)⟩,l,λu n hn=>(H.name hn).2.2,rfl,(by show k.AD<=1000000;omega)⟩
 rwa[show(CO (Jq k.im m.ip k.AD (CV t).2).im (Jq k.im m.ip k.AD (CV t).2).AD o f.AR (Ct t.c (BP o.code)) (Gz ⟨k.Ah,t,A8⟩ o)).1.t.id=t.id from hid];have:=(D.l.o n U s).q;omega
def N5(l:AA AL):Nat:=l.countP λt=>t.Aw==1
def Sx{t u}(hid:u.id=t.id)(c:t.Aw=1)(d:u.Aw≠1):∀ {l:AA AL},Fi l->Af l t.id=sM t->N5 (A1 l u)+1=N5 l
 |[],_,h=>by cases h
 |x::l,hs,h=>by
  let⟨k,i⟩:=G4.1 hs;unfold N5 A1 at*;rw[E4,ABW,ABW];by_cases e:x.id=t.id;have b:x=t:=by unfold Af at h;rw[KH,e]at h;simp at h;exact h
  subst b;have j:(l.map λy=>if y.id==u.id then u else y)=l:=by
   have:∀y∈l,(if y.id==u.id then u else y)=y:=λy m=>by rw[AY];intro q;have:=k y m;rw[eq_of_beq q,hid,Ma]at this;cases this
   rw[JD this];simp
  rw[j];have f:(if(x.id==u.id)=tT then u else x)=u:=Ac (by rw[hid];simp);rw[f,AY<|by simpa using d,Ac<|by simpa using c];have g:Af l t.id=sM t:=by
   unfold Af at h⊢;rw[KH]at h;have:(x.id==t.id)=fF:=by simpa using e
   rw[this]at h;exact h
  have n:=Sx hid c d i g;unfold N5 A1 at n;have a:(if(x.id==u.id)=tT then u else x)=x:=AY (by rw[hid];simpa using e);rw[a];omega
def AT3(k v)(a:Bool):(E7 k v a).t.Aw≠1:=by
 have:(Fq k.t v a).Aw≠1:=by show(if 0<lN k.t.AI then 2 else if a then 4 else 3)≠1;split;decide;split<;>decide
 rw[E7];dsimp only;split<;>exact this
theorem Sd(t s v)(a:Bool):(Dv t s v a).t.Aw≠1:=by rw[Dv];split;show(0:Nat)≠1;decide;rw[EH];split;exact AT3 _ _ _;show(0:Nat)≠1;decide
def HA(n:Nat)(a:Nm)(k:Ap)(other:Nm):Ap:=
 match Af k.AC other with
 |none=>k
 |some t=>
  if t.Aw≠1\/t.on≠a then k
  else match Am k.Ah a with
   |none=>k
   |some o=>if o.kind≠6\/ !o.done then k
    else
     let r:=Dv t k.Ah o.v o.ex;let k:={k with Ah:=r.s,AC:=A1 k.AC r.t}
     if r.e.done then GD n k other else k
def Tn(n k a):GD (n+1) k a=(k.AC.map (·.id)).foldl (HA n a) k:=rfl
structure DI(C:AT)(F:AH->Prop)(A S:Nat)(a k:Ap):Prop where
 q:MG C F A S k
 w:N5 k.AC<=N5 a.AC
 C3:k.AC.map (·.id)=a.AC.map (·.id)
 AD:k.AD=a.AD
 im:k.im=a.im
def ADA{A S c n}(m:∀k i,DI C F A S c k->DI C F A S c (GD n k i)){k}(h:DI C F A S c k)(i x):DI C F A S c (HA n i k x):=by
 rw[HA];split;exact h;rename_i t g;split;exact h;rename_i a;simp[Jk,Ka]at a;split;exact h;rename_i o l;split;exact h;rename_i e;simp[Jk,Ka,Jf,Bool.not_eq_false]at e;have b:Af k.AC t.id=sM t:=by rwa[E2 g]
 have f:=Q9 h.q.kk.ki h.q.kk.kq b a.1 (by rwa[a.2]) e.1;have d:=AFG (h.q.bk.ts t<|D2 g) a.1 h.q.bk.os h.q.bk.sl ((h.q.bk.os _ _ l).v6 e.1 e.2) o.ex;have p:=Sx f.2.2 a.1 (Sd t k.Ah o.v o.ex) h.q.kk.ki.E0 b;have j:DI C F A S c {k with Ah:=(Dv t k.Ah o.v o.ex).s,AC:=A1 k.AC (Dv t k.Ah o.v o.ex).t}:=
  ⟨⟨⟨f.1,f.2.1⟩,⟨(h.q.bk.put d.t).ts,d.o,(h.q.bk.put d.t).tl,d.s⟩,h.q.a,h.q.s,h.q.AD,h.q.an,h.q.cl⟩,by have:=h.w;show N5 (A1 _ _)<=_;omega,(Sa _ _).trans h.C3,h.AD,h.im⟩
 dsimp only;split;exact m _ _ j;exact j
def AC9{A S c}:∀(n:Nat)(k:Ap)(b:Nm),DI C F A S c k->DI C F A S c (GD n k b)
 |0,_,_,h=>h
 |n+1,k,b,h=>by rw[Tn];exact NC (P:=DI C F A S c) (λa x h=>ADA (AC9 n) h b x) _ h
def AWA{I}:FJ I ⟨[],[]⟩ UA:=⟨Av.empty,Av.empty⟩
def AGj(C:AT)(F:AH->Prop)(n:Nat):Prop:=∀(I:AB)(L:AA Rw)(k:Ap)(m:CH)(a:Nm)(A S:Nat),CZ I L k m->MG C F A S k->N5 k.AC<n->CB a->Fn 56 [.p 1 0,.v<|sV a] (CL m k.im k.AD) I (APc I (CM L m) m.Bu<|GD n k a) nO
def ASl(n)(IH:AGj C F n)(I L k m){A S}(X:CZ I L k m)(d:MG C F A S k)(hW:N5 k.AC<n+1)(c x)(f:CB c)(t)(u:Af k.AC x=sM t):
 Fn 109 [.v<|sV x,.p 6 0,.p 7 0] (Np m k c) I (YD I (CM L m) m.Bu (HA n c k x) c) nO:=by
 have N:=E2 u;subst N;have h:=d.bk.ts t<|D2 u;have hA:=d.a;have hS:=d.s;have aj:=h.sc;have l:=(d.kk.ki.of u).HM t.id DT;have hq:∀n o,Am k.Ah n=sM o->lN o.var.q<=1000000:=λn o ho=>by have:=(d.bk.os n o ho).q;omega
 let⟨j,a,Z,ha,_⟩:=(X.tm.find<|F5 l).2 t (by rw[NF];exact u);have p:=WJ I k.Ah m.sm.es m.sm.ns m.sm.n m.sm.m c (F5 f) (hq c) X.B0;unfold Qc at p;have b:∀J,I.le J->YD I (CM L m) m.Bu k c 100 {r:=.t [],AV:=Np m k c,J:=J}:=λJ hle=>⟨m,L,J,rfl,.of hle,X.up hle,rfl⟩;unfold HA;rw[u];dsimp only;by_cases e:t.Aw=1;have O:=h.on e;by_cases g:t.on=c;rw[AY<|by simp[e,g]];refine fo func109 λρ V w s=>gg [(13,.BZ _ [(11,.m 2),(12,.v<|sV t.id)] [(2,.Aq<|.map m.es m.n)] I _<|Pf Be (L:=Bt) (t:=104) (a:=11) (b:=12) (km:=2) (n:=m.n) (xs:=EZ t a) (I:=I) rfl Di trivial Z),
  (16,EN (t.Aw:Int) 1),(21,.eq (Value.bool<|!((Aa t.on).toList==(Aa c).toList)) fV<|by unfold Aa;rw[TY (F5 O)<|F5 f,g];simp)] ?_
 refine A0 p RB λy B=> ?_;obtain⟨q,J,rfl,hle,P⟩:=B;cases hgo:Am k.Ah c with
 |none=>
  simp[hgo]at P⊢;exact gG<|dn [] (b J hle) (h:={r:=.t [],AV:=Np m k c,J:=J})
 |some o=>
  simp[hgo]at P⊢;have hJ:=X.up hle;by_cases W:o.kind=6;cases z:o.done with
  |false=>
   rw[Ac sP];refine gg [(37,EN (o.kind:Int) 6),(42,.eq (Value.bool<|!o.done) tV<|by rw[z];rfl)] ?_;exact dn [] (b J hle) (h:={r:=.t [],AV:=Np m k c,J:=J})
  |true=>
   rw[AY<|by simp[W]];have ah:Am k.Ah t.on=sM o:=by rw[g];exact hgo
   have D:=Q9 d.kk.ki d.kk.kq u e ah W;have M:=AFG h e d.bk.os d.bk.sl ((d.bk.os _ _ hgo).v6 W z) o.ex;have hw:=Sx D.2.2 e (Sd t k.Ah o.v o.ex) d.kk.ki.E0 u;have ab:By J (Jq ⟨[],[]⟩ UA 0 (CV t).2) ⟨k.Ah,t,A8⟩ (OZ a m.sm L):={AIN hJ (ha.up hle) 0 (CV t).2 with img:=AWA};have hrs:=Aao ab o.v o.ex (AEO h hA) oG (F5 l) hq;generalize Dv t k.Ah o.v o.ex=r at D M hw hrs⊢;refine gg [(37,EN (o.kind:Int) 6),(42,.eq (Value.bool<|!o.done) fV<|by rw[z];rfl)] ?_;refine A0 hrs RB λy B=> ?_;obtain⟨E,G,Y,rfl,T,v⟩:=B;refine gG ?_;have ae:CB r.t.id:=by rw[D.2.2];exact l
   refine A0 (SJ Y {m with sm:=G.sm} k.im k.AD (FA k.AC) r.t G.a (F5 ae) v.AC<|D6.Bf T.le hJ.tm) [] λy B=> ?_;obtain⟨H,n3,U,rfl⟩:=B;have EV:(NQ (FA k.AC) r.t.id r.t).Perm (FA<|A1 k.AC r.t):=by have:=Uc k.AC r.t;unfold CC at this;rw[show Af k.AC r.t.id=sM t by rw[D.2.2];exact u]at this;exact this
   let⟨K,i⟩:=hJ.XT (k':={k with Ah:=r.s,AC:=A1 k.AC r.t}) (m':={m with sm:=G.sm,es:=H,n:=n3}) T ⟨rfl,rfl⟩ ⟨rfl,Sa _ _⟩ ⟨rfl,rfl⟩ ⟨rfl,rfl⟩ (U.UZ EV) v.B0 v.Dl;have i:=Cb.trans (Cb.of hle) i;cases Q:r.e.done with
   |false=>
    rw[AY sP];exact gg [(61,.eq (Value.bool r.e.done) fV<|by rw[Q])]<|dn [] ⟨_,G.L,Y,rfl,i,K,rfl⟩
   |true=>
    rw[Ac rfl];have aa:MG C F A S {k with Ah:=r.s,AC:=A1 k.AC r.t}:=⟨⟨D.1,D.2.1⟩,⟨(d.bk.put M.t).ts,M.o,(d.bk.put M.t).tl,M.s⟩,hA,hS,d.AD,d.an,d.cl⟩;refine gg [(61,.eq (Value.bool r.e.done) tV<|by rw[Q])]<|A0 (IH Y G.L {k with Ah:=r.s,AC:=A1 k.AC r.t} {m with sm:=G.sm,es:=H,n:=n3} t.id A S K aa (by show N5 (A1 _ _)<n;omega) l) [] λy B=> ?_;obtain⟨m4,L4,J4,rfl,af,ac,ad⟩:=B;exact gG<|dn [] ⟨m4,L4,J4,rfl,i.trans af,ac,ad⟩
  rw[Ac<|.inl W];exact gg [(37,Fs (o.kind:Int) 6)]<|dn [] (b J hle) (h:={r:=.t [],AV:=Np m k c,J:=J})
 rw[Ac<|.inr g];refine fo func109 λρ V w s=>gg [(13,.BZ _ [(11,.m 2),(12,.v<|sV t.id)] [(2,.Aq<|.map m.es m.n)] I _<|Pf Be (L:=Bt) (t:=104) (a:=11) (b:=12) (km:=2) (j:=j) (xs:=EZ t a) (I:=I) rfl Di trivial Z),
  (16,EN (t.Aw:Int) 1),(21,.eq (Value.bool<|!((Aa t.on).toList==(Aa c).toList)) tV<|by unfold Aa;rw[TY (F5 O)<|F5 f];simpa using g)] ?_
 exact dn [] (b I<|AB.le_refl I) (h:={r:=.t [],AV:=Np m k c,J:=I});rw[Ac<|.inl e];refine fo func109 λρ V w s=>gg [(13,.BZ _ [(11,.m 2),(12,.v<|sV t.id)] [(2,.Aq<|.map m.es m.n)] I _<|Pf Be (L:=Bt) (t:=104) rfl Di trivial Z),
  (16,Fs (t.Aw:Int) 1)] ?_
 exact dn []<|b I<|AB.le_refl I
def AIr:∀n,AGj C F n
 |0=>λI L k m c A S _ _ h=>absurd h<|Xx _
 |n+1=>λI L k m c A S D l hW g=>by
  have P:=l.a;have G:=l.bk.tl;have v:=ASy I L k m c (k.AC.map (·.id)) (HA n c) (by rw[DG];omega) D rfl λi x k' N o f=>by
   have d:DI C F A S k k:=⟨l,Ag _,rfl,rfl,rfl⟩;have b:DI C F A S k k':=by rw[o];exact NC (P:=DI C F A S k) (λa x h=>ADA (AC9 n) h c x) _ d
   have s:x∈k'.AC.map (·.id):=by rw[f];exact De N
   let⟨t,r,e⟩:=BI.1 s;have M:Af k'.AC x=sM t:=by rw[<-e];exact NT b.q.kk.ki.E0 r
   refine⟨(ADA (AC9 n) b c x).C3,λJ j u _ B H=> ?_⟩;rw[<-H];exact ASl n (AIr n) J j k' u B b.q (by have:=b.w;omega) c x g t M
  rw[<-Tn]at v;refine fo func56 λQ O w z=>gG<|A0 v [(6,100),(7,108)] λy E=> ?_;obtain⟨u,j,J,rfl,K,p,q⟩:=E;exact gG<|dn [] ⟨u,j,J,rfl,K,p,q⟩
def f48(k:Ap)(u:AL):Ap:={k with AC:=CC k.AC u}
def f50(a:Nm)(k:Ap)(x:AT×AW):Ap:={k with Bj:=k.Bj++[⟨k.AD,a,x.1,x.2⟩]}
def f52(a:Nm)(k:Ap)(x:Gr):Ap:={k with B5:=k.B5++[⟨k.AD,a,x⟩]}
def AUQ{l:AA AL}(h:lN l<=1)(k:Ap):l.foldl f48 k= {k with AC:=l.foldl CC k.AC}:=by rcases Ii h with rfl|⟨x,rfl⟩<;>rfl
def AUR(a:Nm){l:AA<|AT×AW}(h:lN l<=1)(k:Ap):l.foldl (f50 a) k= {k with Bj:=k.Bj++l.map λx:AT×AW=>(⟨k.AD,a,x.1,x.2⟩:FU)}:=by rcases Ii h with rfl|⟨x,rfl⟩;simp;rfl
def AUS(a:Nm){l:AA Gr}(h:lN l<=1)(k:Ap):l.foldl (f52 a) k= {k with B5:=k.B5++l.map λx:Gr=>(⟨k.AD,a,x⟩:Lk)}:=by rcases Ii h with rfl|⟨x,rfl⟩;simp;rfl
def ZW{b:Type}{l:AA b}(h:lN l<=1){i:Nat}{x:b}(a:l[i]? =sM x):i=0/\l=[x]:=by
 have:=(Ci.1 a).1;rcases Ii h with rfl|⟨y,rfl⟩;simp at this;have:i=0:=by simp at this;omega
 subst this;cases a;exact⟨rfl,rfl⟩
abbrev QI(I:AB)(P:AA Nat)(r:Ap×Bool):zP:=Ki I P (.v<|vB r.2) r.1
def AbC(I L k m)(b:CZ I L k m)(a)(hid:CB a)(d:Af k.AC a=nO):
 Fn 14 [.p 1 0,.v<|sV a] (CL m k.im k.AD) I (QI I (CM L m)<|runK k a) nO:=by
 have e:runK k a=(k,fF):=by rw[runK];rw[d]
 rw[e];have f:=(b.tm.find<|F5 hid).1 (by rwa[NF]);exact fo func14 λh g w c=>gg [(15,.BZ (.lookup 104 (.tmp 13) (.tmp 14) tT) [(13,.m 2),(14,.v<|sV a)] [(2,.Aq<|.map m.es m.n)] I (.t [.g<|(EZ P3 RJ).map .v,.v fV])<|UN Be (L:=Bt) (t:=104) (a:=13) (b:=14) (km:=2) (n:=m.n) (kt:=9) (et:=53) (d1:=.string) (es:=m.es) (kv:=vS<|Aa a) (zs:=EZ P3 RJ) rfl Di trivial AeQ f)]<|dn [] ⟨m,L,I,rfl,.refl _ _,b⟩
def Aa8(I L k m)(c:CZ I L k m)(t)(hid:CB t.id)(f:Af k.AC t.id=sM t)(b:t.Aw≠0):
 Fn 14 [.p 1 0,.v<|sV t.id] (CL m k.im k.AD) I (QI I (CM L m)<|runK k t.id) nO:=by
 have e:runK k t.id=(k,fF):=by rw[runK];rw[f];dsimp only;rw[Ac b]
 rw[e];let⟨j,a,g,i,_⟩:=(c.tm.find<|F5 hid).2 t (by rwa[NF]);exact fo func14 λl h w d=>gg [(15,.BZ _ [(13,.m 2),(14,.v<|sV t.id)] [(2,.Aq<|.map m.es m.n)] I _<|Qu Be (L:=Bt) (t:=104) (a:=13) (b:=14) (km:=2) (n:=m.n) (kt:=9) (et:=53) (d1:=.string) (es:=m.es) (kv:=vS<|Aa t.id) (j:=j) (xs:=EZ t a) (I:=I) rfl Di trivial g),(23,Fs (t.Aw:Int) 0)]<|dn [] ⟨m,L,I,rfl,.refl _ _,c⟩
def AbD(I L)(k:Ap)(m){A S N}(hK:CZ I L k m)(f:MG C F A S k)(hG:VW k.im)(hA:20<=A/\A+4<=800000)(hS:S+1<=800000)(hF:BF N k)(hN:N+1<=800000)(t:AL)(O:Af k.AC t.id=sM t)(g:t.Aw=0):
 Fn 14 [.p 1 0,.v<|sV t.id] (CL m k.im k.AD) I (QI I (CM L m)<|runK k t.id) nO:=by
 have ar:=f.kk.ki.of O;have ab:=ar.HM t.id DT;have am:=f.AD;obtain⟨j,a,h1,ha,_⟩:=(hK.tm.find<|F5 ab).2 t (by rw[NF];exact O);have ai:=ASe<|ASf hK f hG O g ha;have Z:=Tl hG.im f.an (AD:=k.AD) f.kk.ki O g λx D=>f.cl _<|AXh f.kk O g x D;have av:=ASj (AC:=k.AC) (im:=k.im) (t:=t) (s:=k.Ah) (AD:=k.AD) λn o ho w hw=>by obtain⟨t',h,_⟩:=(f.kk.ki.Dn n o ho).2 w hw;exact⟨t',h⟩
 have H:=AEf hG.im f.an f.kk O g λx D=>f.cl _<|AXh f.kk O g x D;obtain⟨Q,c,R⟩:=AYU hG.ib hA.1 f.bk f.kk O g;rw[run_eq O g];have W:∀u∈(C6 k.im t k.Ah k.AD).e.BU,CB u.id:=λu hu=>by
  have hm:u∈(Fb k t.id<|C6 k.im t k.Ah k.AD).AC.map (λx=>x)\/True:=.inr trivial;rcases AC8 (im:=k.im) (s:=k.Ah) (AD:=k.AD) g (λv hv=>(ar.FL.st v hv).Cj)with h0|⟨x,h0,D⟩;rw[h0]at hu;cases hu;have a9:u=x:=by rw[h0]at hu;exact A9.1 hu
  have a1:∃y∈(Fb k t.id<|C6 k.im t k.Ah k.AD).AC,y.id=u.id:=by
   have h2:u.id∈((C6 k.im t k.Ah k.AD).e.BY.foldl Gi<|(C6 k.im t k.Ah k.AD).e.BU.foldl CC<|A1 k.AC (C6 k.im t k.Ah k.AD).t).map (·.id):=by
    rw[AOg,h0];have a8:Af (CC (A1 k.AC (C6 k.im t k.Ah k.AD).t) x) x.id=sM x:=by rw[Mp,Ac rfl]
    rw[a9];exact BI.2 ⟨x,D2 a8,rfl⟩
   obtain⟨y,z,e⟩:=BI.1 h2;exact⟨y,z,e⟩
  obtain⟨y,z,e⟩:=a1;rw[<-e];exact(H.ki.G3 y z).HM y.id DT
 generalize C6 k.im t k.Ah k.AD=r at ai Z av H Q c R W⊢;have an:CB r.t.id:=by rw[Z.id];exact ab
 have a4:Af k.AC r.t.id=sM t:=by rw[Z.id];exact O
 have a7:Fi (A1 k.AC r.t):=sorted_put f.kk.ki.E0 _;refine fo func14 λρ bd w bc=>gg [(15,.BZ _ [(13,.m 2),(14,.v<|sV t.id)] [(2,.Aq<|.map m.es m.n)] I _<|Qu Be (L:=Bt) (t:=104) (a:=13) (b:=14) (km:=2) (n:=m.n) (kt:=9) (et:=53) (d1:=.string) (es:=m.es) (kv:=vS<|Aa t.id) (j:=j) (xs:=EZ t a) (I:=I) rfl Di trivial h1),(23,EN (t.Aw:Int) 0)]<|A0 ai RB λy B=> ?_;obtain⟨E,V,J2,rfl,ao,p⟩:=B;refine gG<|A0 (SJ J2 {m with sm:=V.sm} k.im k.AD (FA k.AC) r.t V.a (F5 an) p.AC<|D6.Bf ao.le hK.tm) [] λy B=> ?_;obtain⟨ag,n3,au,rfl⟩:=B;have EV:(NQ (FA k.AC) r.t.id r.t).Perm (FA<|A1 k.AC r.t):=by have:=Uc k.AC r.t;unfold CC at this;rw[a4]at this;exact this
 obtain⟨ax,a3⟩:=hK.XT (k':={k with Ah:=r.s,AC:=A1 k.AC r.t}) (m':={m with sm:=V.sm,es:=ag,n:=n3}) ao ⟨rfl,rfl⟩ ⟨rfl,Sa _ _⟩ ⟨rfl,rfl⟩ ⟨rfl,rfl⟩ (au.UZ EV) p.B0 p.Dl;refine gG ?_;have a2:lN (A1 k.AC r.t)<=800000:=by rw[Lz.Q6];have:=f.bk.tl;omega
 have ac:=ASz J2 V.L {k with Ah:=r.s,AC:=A1 k.AC r.t} {m with sm:=V.sm,es:=ag,n:=n3} r.e.BU V.BU f48 (by have:=c.fk.1;omega) p.BU.ls ax λi x k' D d J X m' M hle Y b=>by
  obtain⟨rfl,K⟩:=ZW c.fk.1 D;obtain⟨q,rfl,hq⟩:=b;have d:k'= {k with Ah:=r.s,AC:=A1 k.AC r.t}:=d;subst d;exact AKK J X _ m' x q ⟨Y,hq,W x<|by rw[K];exact DT,λy z=>by rcases I6 z with rfl|⟨z,_⟩;exact an;exact(f.kk.ki.G3 y z).HM y.id DT,a7,by show(A1 k.AC r.t).length<=900000;omega⟩
 rw[AUQ c.fk.1]at ac;refine A0 ac [] λy B=> ?_;obtain⟨m4,L4,J4,rfl,ap,ay⟩:=B;refine gG ?_;have s:=ap.le;have ad:=AS0 J4 L4 {k with Ah:=r.s,AC:=r.e.BU.foldl CC<|A1 k.AC r.t} m4 r.e.out V.out t.id (f50 t.id) (by have:=c.ou.1;omega) (p.out.ls.Bf s λ_ _ h=>h) ay λi x k' D d J X m' M hle Y b=>by obtain⟨rfl,K⟩:=ZW c.ou.1 D;have b:M=W5 x:=b;subst b;have d:k'= {k with Ah:=r.s,AC:=r.e.BU.foldl CC<|A1 k.AC r.t}:=d;subst d;exact AWn J X _ m' t.id x Y (by show lN k.Bj<=900000;have:=hF.fl;omega)
 rw[AUR t.id c.ou.1]at ad;refine A0 ad [] λy B=> ?_;obtain⟨m5,L5,J5,rfl,aa,az⟩:=B;refine gG ?_;have ae:=AS1 J5 L5 _ m5 r.e.Bo V.Bo t.id (f52 t.id) (by have:=c.lg;omega) (p.Bo.ls.Bf (s.trans aa.le) λ_ _ h=>h) az λi x k' D d J X m' M hle Y b=>by obtain⟨rfl,K⟩:=ZW c.lg D;have b:M=M9 x:=b;subst b;have d:k'= {k with Ah:=r.s,AC:=r.e.BU.foldl CC<|A1 k.AC r.t,Bj:=k.Bj++r.e.out.map λx:AT×AW=>(⟨k.AD,t.id,x.1,x.2⟩:FU)}:=d;subst d;exact AWh J X _ m' t.id x Y (by show lN k.B5<=900000;have:=hF.ll;omega)
 rw[AUS t.id c.lg]at ae;refine A0 ae [] λy B=> ?_;obtain⟨m6,L6,J6,rfl,aq,a0⟩:=B;refine gG ?_;have G:=(s.trans aa.le).trans aq.le;have af:=AS2 J6 L6 _ m6 r.e.BY V.BY RI (by have:=c.wk.1;omega) (p.BY.ls.Bf G λx l h=>ABJ G x l h) a0 λi x k' D d J X m' M hle Y b=>by
  obtain⟨rfl,K⟩:=ZW c.wk.1 D;obtain⟨va,vc,vl,rfl,hv⟩:=b;have d:k'= {k with Ah:=r.s,AC:=r.e.BU.foldl CC<|A1 k.AC r.t,Bj:=k.Bj++r.e.out.map λx:AT×AW=>(⟨k.AD,t.id,x.1,x.2⟩:FU),B5:=k.B5++r.e.Bo.map λx:Gr=>(⟨k.AD,t.id,x⟩:Lk)}:=d;subst d;have aw:x∈r.e.BY:=by rw[K];exact DT
  obtain⟨t',U⟩:=av x aw;have hex:∃y,Af (r.e.BU.foldl CC<|A1 k.AC r.t) x.1=sM y:=by
   have h1:∃y,Af (A1 k.AC r.t) x.1=sM y:=by rw[N4];split;rw[U];exact⟨_,rfl⟩;exact⟨_,U⟩
   obtain⟨y,z⟩:=h1;rcases Ii c.fk.1 with e|⟨u,e⟩;rw[e];exact⟨y,z⟩;rw[e];show∃y,Af (CC (A1 k.AC r.t) u) x.1=sM y;rw[Mp];split;exact⟨_,rfl⟩;exact⟨y,z⟩
  obtain⟨y,z⟩:=hex;have ba:BT (A+3) y:=by
   have h1:BK (A+2) (S+1) (A1 k.AC r.t) r.s:=⟨((f.bk.mono (B:=A+2) oG<|Ag _).put Q.t).ts,Q.o,by rw[Lz.Q6];have:=f.bk.tl;omega,Q.s⟩;have h2:BK (A+3) (S+1) (r.e.BU.foldl CC<|A1 k.AC r.t) r.s:=by rcases Ii c.fk.1 with e|⟨u,e⟩;rw[e];exact h1.mono oG<|Ag _;have:=c.fk.2 u (by rw[e];exact DT);rw[e];exact h1.BU<|this.mono oG
   exact h2.ts y<|D2 z
  have bb:CB y.id:=by rw[E2 z,<-E2 U];exact(f.kk.ki.of U).HM t'.id DT
  exact Ad3 J X _ m' y x va vc vl Y z bb (by have:=ba.c.st;omega) (by have:=(c.wk.2 x aw).1;omega) hv
 have al:r.e.BY.foldl RI {k with Ah:=r.s,AC:=r.e.BU.foldl CC<|A1 k.AC r.t,Bj:=k.Bj++r.e.out.map λx:AT×AW=>(⟨k.AD,t.id,x.1,x.2⟩:FU),B5:=k.B5++r.e.Bo.map λx:Gr=>(⟨k.AD,t.id,x⟩:Lk)}=Fb k t.id r:=Oz _ _;rw[al]at af;refine A0 af [] λy B=> ?_;obtain⟨m7,L7,J7,rfl,a5,P⟩:=B;have T:=(((a3.trans ap).trans aa).trans aq).trans a5;have ak:(Fb k t.id r).im=k.im/\(Fb k t.id r).AD=k.AD:=⟨rfl,rfl⟩;cases hd:r.e.done with
 |false=>
  rw[AY sP];generalize Fb k t.id r=km at P H R T ak⊢;exact gg [(69,.eq (Value.bool r.e.done) fV<|by rw[hd])]<|dn [] ⟨m7,L7,J7,rfl,T,P⟩
 |true=>
  rw[Ac rfl];have ah:=AIr (lN (Fb k t.id r).AC+1) J7 L7 (Fb k t.id r) m7 t.id (A+4) (S+1) P ⟨H,R,hA.2,hS,am,f.an,f.cl⟩ (by have:N5 (Fb k t.id r).AC<=lN (Fb k t.id r).AC:=AO1;omega) ab;generalize Fb k t.id r=km at P H R T ak ah⊢;refine gg [(69,.eq (Value.bool r.e.done) tV<|by rw[hd])]<|A0 ah [] λy B=> ?_;obtain⟨m8,L8,J8,rfl,a6,aj,_⟩:=B;generalize GD (lN km.AC+1) km t.id=kd at aj⊢;exact gG<|dn [] ⟨m8,L8,J8,rfl,T.trans a6,aj⟩
def C8.reads{I a e As s}(h:C8 I a e As s){need}:Reads I need s.sv a s.n As:=by let⟨f,d,g⟩:=s;rcases h.at_ with⟨q1,q2,q3⟩|⟨b,c,q1,q2,_⟩;simp only at q1 q2 q3;subst q1;subst q2;subst q3;have:As=[]:=Ib (by have:=h.n;simpa using this);subst this;exact Ol;simp only at q1;subst q1;refine Aaj q2.CW ?_ h.n h.one;show((As++c).drop 0).take (d*a)=As;rw[S6,<-h.n,TC]
def ARx(I)(xs)(s)(hc:s.n<=16777216)(h:C8 I 8 63 xs s):Fn 45 [s.sv] [] I (TS I 8 s.n xs) none:=by have l:=λneed=>h.reads (need:=need);have d:=h.at_;have hlen:=h.n;have e:=h.one;let⟨a,n,c⟩:=s;simp only at d hlen hc;refine Ju 8 Tryz.func45 Tryz.ntmps45 rfl rfl kR λρ key w i=> ?_;rcases d with⟨rfl,rfl,rfl⟩|⟨g,f,rfl,_⟩;have m:xs=[]:=List.eq_nil_of_length_eq_zero (by simpa using hlen);subst m;refine gg [(4,.op I _ (.v (.bool true)) (MV (a:=none) (n:=0) (c:=0) (.tmp 3) (.const (.slice none 0 0)) AOP))] ?_;exact dn [] ⟨none,0,I,rfl,AB.le_refl _,Nat.zero_le _,by rw[maxLen];omega,Dk.nil⟩;refine gg [(4,.op I _ (.v (.bool false)) (MV (a:=some ⟨g,0,none⟩) (n:=n) (c:=c) (.tmp 3) (.const (.slice none 0 0)) AOP))]<|act (need:=[(124,.As [] 63)]) (Kk Be (n:=0) (cap:=0) (vs:=[]) (CQ:=[]) (x:=.v (.slice (some ⟨g,0,none⟩) n c)) AHW kR sP rfl rfl sP (l _) (Nat.le_refl _) (by rw[maxLen];omega) (by show 0+n<=16777216;omega)) (QO (.inr ⟨_,_,_,rfl,rfl⟩)) ?_;rintro h' ⟨cap,AE,h1,j,o,rfl⟩;exact gG<|B4 140 I (vs:=xs++AE) (e:=63) λb J hle _ k=>gG<|dn [] ⟨_,cap,J,sP,hle,oG,j,Dk.Og k hlen e⟩ (h:={r:=.v (.slice (some ⟨b,0,none⟩) (0+n) cap),J:=J})
def AfP(I)(xs)(s)(hc:s.n<=16777216)(h:C8 I 1 9 xs s):Fn 118 [s.sv] [] I (TS I 1 s.n xs) none:=by have l:=λneed=>h.reads (need:=need);have d:=h.at_;have hlen:=h.n;have e:=h.one;let⟨a,n,c⟩:=s;simp only at d hlen hc;refine Ju 8 Tryz.func118 Tryz.ntmps118 rfl rfl kR λρ key w i=> ?_;rcases d with⟨rfl,rfl,rfl⟩|⟨g,f,rfl,_⟩;have m:xs=[]:=List.eq_nil_of_length_eq_zero (by simpa using hlen);subst m;refine gg [(4,.op I _ (.v (.bool true)) (MV (a:=none) (n:=0) (c:=0) (.tmp 3) (.const (.slice none 0 0)) AON))] ?_;exact dn [] ⟨none,0,I,rfl,AB.le_refl _,Nat.zero_le _,by unfold maxLen;omega,Dk.nil⟩;refine gg [(4,.op I _ (.v (.bool false)) (MV (a:=some ⟨g,0,none⟩) (n:=n) (c:=c) (.tmp 3) (.const (.slice none 0 0)) AON))]<|act (need:=[(124,.As [] 9)]) (Kk Be (n:=0) (cap:=0) (vs:=[]) (CQ:=[]) (x:=.v (.slice (some ⟨g,0,none⟩) n c)) Ve kR sP rfl rfl sP (l _) (Nat.le_refl _) (by unfold maxLen;omega) (by show 0+n<=16777216;omega)) (QO (.inr ⟨_,_,_,rfl,rfl⟩)) ?_;rintro h' ⟨cap,AE,h1,j,o,rfl⟩;exact gG<|B4 140 I (vs:=xs++AE) (e:=9) λb J hle _ k=>gG<|dn [] ⟨_,cap,J,sP,hle,oG,j,Dk.Og k hlen e⟩ (h:={r:=.v (.slice (some ⟨b,0,none⟩) (0+n) cap),J:=J})
abbrev AGz(I:AB)(m:CH)(c:A6)(b a n:Nat)(d:AA AF):zP:=YF I (CL m c b) (λp:AU Au×Nat=>.v<|.slice p.1 n p.2) λJ p=>n<=p.2/\p.2<=maxLen/\Dk J a p.1 n d
def Af2(I m g b e)(l:m.Bu.n<=16777216)(h:C8 I 1 9 e m.Bu):Fn 73 [.p 1 0] (CL m g b) I (AGz I m g b 1 m.Bu.n e) nO:=by exact fo func73 λo n w f=>gG<|KR (AfP I e m.Bu l h) λa c J hle i j k=>gG<|dn [] ⟨(a,c),J,rfl,hle,i,j,k⟩
def AbA(I L k m){A S N}(d:CZ I L k m)(h:MG C F A S k)(g:VW k.im)(f:20<=A/\A+4<=800000)(i:S+1<=800000)(hF:BF N k)(hN:N+1<=800000)(b)(hid:CB b):
 Fn 14 [.p 1 0,.v<|sV b] (CL m k.im k.AD) I (QI I (CM L m)<|runK k b) nO:=by
 cases c:Af k.AC b with
 |none=>exact AbC I L k m d b hid c
 |some t=>
  have e:=E2 c;subst e;by_cases a:t.Aw=0;exact AbD I L k m d h g f i hF hN t c a;exact Aa8 I L k m d t hid c a
def AZv(I L k m){A S N}(B:CZ I L k m)(a:MG C F A S k)(z:VW k.im)(x:20<=A/\A+4<=800000)(O:S+A+1<=800000)(hF:BF N k)(hN:N+1<=800000)(d:k.AD+1<=900000)(e)(hid:CB e):
 Fn 25 [.p 1 0,.v<|sV e] (CL m k.im k.AD) I (QI I (CM L m)<|F6 k e) nO:=by
 let⟨u,v,K,M⟩:=QQ k;let⟨g,h⟩:=Vj a.bk hF a.kk;have f:MG C F A (S+A) (Fo k):=⟨Vk a.kk,g,a.a,oG,by rw[v];omega,a.an,a.cl⟩;rw[F6];refine fo func25 λP G w n=>gG<|A0 (AQs I L k m B a oG d) [] λy i=> ?_;obtain⟨H,s,p,rfl,j,b⟩:=i;have o:=AbA p s (Fo k) H b f (by rwa[u]) x oG h hN e hid;generalize Fo k=E at b o⊢;refine gG<|A0 o [] λy i=> ?_;obtain⟨J,t,q,rfl,l,c⟩:=i;generalize runK E e=r at c⊢;exact gG<|dn [] ⟨J,t,q,rfl,j.trans l,c⟩
abbrev AG0(I:AB)(m:CH)(b:A6)(a:Nat)(t:AL)(c:Bool):zP:=YF I (CL m b a) (λq:DV=>.t [.g<|Dr t q,.v<|vB c]) λJ q=>DZ J t q
def ARw(I c):Fn 44 [.v<|.slice nO 0 c] [] I (BW (.v zS) I) nO:=Ju 8 func44 ntmps44 rfl rfl kR λd b w a=>gg [(4,.op I _ (.v tV)<|MV (a:=nO) (n:=0) (c:=c) (.tmp 3) (.const zS) U0)]<|fi
structure TX where
 i:Nat
 J:AB
 fl:AA AF
def AA0(t:AL)(c:SV)(d:AU Au)(e:Nat)(f:AU Au)(g:Nat)(a:AU Au)(b:Nat):AA SV:=
 [.v<|sV t.id,.v<|sV t.Bg,.v<|vS<|AJ t.g.Ad.1,.v<|vS<|AJ t.g.Ad.2,.v<|vS<|AJ t.g.A5.1,.v<|vS<|AJ t.g.A5.2,
  c,.v<|.slice d (lN t.c.stack) e,.v<|.slice f (lN t.c.AP) g,.v<|.slice a (lN t.AI) b,.v<|nV t.A7,.v<|nV t.Ao,.v<|nV t.Aw,.v<|sV t.on,
  .v<|nV t.v.kind,.v<|nV t.v.n,.v<|sV t.v.name,.v<|vS<|AJ t.v.l.1,.v<|vS<|AJ t.v.l.2,.v<|vB t.ex]
def Aco(m:CH)(im:A6)(AD:Nat)(t:AL)(n cap:Nat)(sa:AU Au)(sc:Nat)(ta:AU Au)(tc:Nat)(ca:AU Au)(cc:Nat)(AE:AA AF)(x:TX):Hd where
 Cd:=[(4,.p 6 0),(6,.p 7 0),(46,.v<|iV n),(47,.v<|iV x.i)]
 Cc:=[(1,.cells (m.row im AD) 107),(2,.Aq<|.map m.es m.n),(3,.cells [.m 4,.m 5] 178),(4,.Aq<|.map m.sm.es m.sm.n),(5,.Aq<|.map m.sm.ns m.sm.m),(6,.cells ((EZ P3 RJ).map .v) 53),(7,.cells (AA0 t (.s 8 0 n cap) sa sc ta tc ca cc) 53),(8,.As (x.fl++AE) 65)]
 J:=x.J
structure TP(I:AB)(fs:AA Cw)(x:TX):Prop where
 i:x.i<=lN fs
 le:I.le x.J
 CE:Rows (Gd x.J) fs x.fl
def Acp(m:CH)(im:A6)(AD:Nat)(t:AL)(sa:AU Au)(sc:Nat)(ta:AU Au)(tc:Nat)(ca:AU Au)(cc:Nat)(J:AB):Hd where
 Cd:=[(4,.p 6 0),(6,.p 7 0),(46,.v<|.int iK 0),(47,.v<|.int iK 0)]
 Cc:=[(1,.cells (m.row im AD) 107),(2,.Aq<|.map m.es m.n),(3,.cells [.m 4,.m 5] 178),(4,.Aq<|.map m.sm.es m.sm.n),(5,.Aq<|.map m.sm.ns m.sm.m),(6,.cells ((EZ P3 RJ).map .v) 53),(7,.cells (AA0 t (.v zS) sa sc ta tc ca cc) 53)]
 J:=J
def AUe{J f c d a}(h:Av J F9 5 f.Ai c d a):∀ {I:AB} (b:AA AF),Gd I f b->Gd J f (BX b 4 [.slice c (lN f.Ai) d]):=by rintro I b ⟨e,g,i,rfl,q⟩;exact⟨c,d,a,rfl,h⟩
def Ac9(I L k m)(hK:CZ I L k m)(t)(hid:CB t.id)(ht:Af k.AC t.id=sM t)(ap:lN t.AI<=900000)(hle:Kf t.c)(hv:∀f∈t.c.AG,lN f.Ai<=900000):
 Fn 12 [.p 1 0,.v<|sV t.id] (CL m k.im k.AD) I (AG0 I m k.im k.AD t tT) nO:=by
 let⟨j,⟨⟨fa,fc,G,ac,ae,u,af,ag,y⟩,ca0,cc0,cl0⟩,h1,ha,_⟩:=(hK.tm.find<|F5 hid).2 t (by rw[NF];exact ht);have l1:=hle.f;have l2:=hle.s;have l3:=hle.t;have ah:=ARq I ca0 (lN t.AI) cc0 cl0 oG ha.s.sl;refine fo func12 λρ aq w ao=>gg [(15,.BZ _ [(13,.m 2),(14,.v<|sV t.id)] [(2,.Aq<|.map m.es m.n)] I _<|Qu Be (L:=Bt) (t:=104) (a:=13) (b:=14) (km:=2) (n:=m.n) (kt:=9) (et:=53) (d1:=.string) (es:=m.es) (kv:=vS<|Aa t.id) (j:=j) (xs:=EZ t ⟨⟨fa,fc,G,ac,ae,u,af,ag,y⟩,ca0,cc0,cl0⟩) (I:=I) rfl Di trivial h1)]<|KR ah λO P J1 aa k1 k2 k3=>gG<|KR (ACs J1 ac (lN t.c.stack) ae u oG (ha.up aa).c.s.sl) λQ R J2 ab s1 s2 s3=>gG ?_;have E:=aa.trans ab;refine KR (ARt J2 af (lN t.c.AP) ag y oG (ha.up E).c.t.sl) λS U a N t1 t2 t3=>gG ?_;have s:=E.trans N;have W:=ha.up s;have B:∀J,a.le J->Av J Ll 14 t.AI O P cl0:=λJ l=>⟨(k3.up ab).up<|N.trans l,k1,k2,ha.s.CE⟩;have C:∀J,a.le J->Av J F9 5 t.c.stack Q R u:=λJ l=>⟨s3.up<|N.trans l,s1,s2,ha.c.s.CE⟩;have D:∀J,a.le J->Av J Oy 3 t.c.AP S U y:=λJ l=>⟨t3.up l,t1,t2,ha.c.t.CE⟩;cases fa with
 |none=>
  have hf:=W.c.f;have M:=hf.sl.Wr;have ak:t.c.AG=[]:=Ib M;have V:Fn 44 [.v<|.slice nO (lN t.c.AG) fc] [] a (BW (.v zS) a) nO:=by rw[show lN t.c.AG=0 from M];exact ARw a fc
  refine call V<|gG<|loop (ι:=Unit) (λ_=>True) (λ_=>0) (λ_=>Acp m k.im k.AD t Q R S U O P a) 300 [(6,100),(7,188)] () trivial ?_;rintro⟨⟩ _ _ T;refine gg [(48,hF<|(0:Int)<(0:Int))] ?_;refine dn [] ⟨⟨⟨nO,0,[],Q,R,u,S,U,y⟩,O,P,cl0⟩,a,?_,s,⟨⟨by rw[ak];exact Av.empty,C a<|AB.le_refl _,D a<|AB.le_refl _⟩,B a<|AB.le_refl _⟩⟩ (h:={r:=.t [.g<|AA0 t (.v zS) Q R S U O P,.v tV],AV:=CL m k.im k.AD,J:=a});unfold Dr AA0;rw[M]
 |some ad=>
  have hf:=W.c.f;refine PE (Yl a ad (lN t.c.AG) fc G oG hf.sl) λd AE ai aj hj=>gG<|loop (TP a t.c.AG) (λx=>lN t.c.AG-x.i) (Aco m k.im k.AD t (lN t.c.AG) d Q R S U O P AE) 300 [(6,100),(7,188),(8,404)] ⟨0,a,G⟩ ⟨Bm _,AB.le_refl _,hf.CE⟩ ?_;rintro⟨i,J,fl⟩ ⟨p1,p2,p3⟩ again T;simp only at p1 p2 p3;have K:lN fl=lN t.c.AG*5:=p3.len<|JN _;by_cases n:i<lN t.c.AG;have hx:t.c.AG[i]? =sM t.c.AG[i]:=BS n;have am:=hv _<|DR n;generalize t.c.AG[i]=f at hx am;let⟨va,vc,F,e1,Z⟩:=p3.get (JN _) hx;have H:(fl++AE)[0+i*5+4]? =sM (.slice va (lN f.Ai) vc):=by
   have:((fl.drop<|i*5).take 5)[4]? =sM (.slice va (lN f.Ai) vc):=by rw[e1];rfl
   rw[GO,Ac oG,Jg]at this;rw[FE,Gj<|by rw[K];omega];exact this
  refine gg [(48,tH i<|lN t.c.AG),
   (58,.BZ (.indexAddr 45 (.tmp 56)<|.tmp 57) [(56,.s 8 0 (lN t.c.AG) d),(57,.v<|iV i)] [] J (.p 8<|0+i*5)<|I5 Be (c:=d) (i:=i) (e:=65) (ty:=⟨5,_,_⟩) rfl rfl n),
   (60,.BZ (.load 29<|.tmp 59) [(59,.p 8<|0+i*5+4)] [(8,.As (fl++AE) 65)] J (.v<|.slice va (lN f.Ai) vc)<|Nu Be (L:=Bt) (t:=29) (a:=59) (k:=8) rfl rfl H)] ?_
  refine KR (ACs J va (lN f.Ai) vc F oG Z.sl) λz A g p q1 q2 q3=>gg [(62,.BZ (.indexAddr 45 (.tmp 52)<|.tmp 53) [(52,.s 8 0 (lN t.c.AG) d),(53,.v<|iV i)] [] g (.p 8<|0+i*5)<|I5 Be (k:=8) (off:=0) (n:=lN t.c.AG) (c:=d) (i:=i) (e:=65) (ty:=⟨5,_,_⟩) rfl rfl n)]<|B0 (k:=8) (off:=0+i*5+4) (t:=29) (ad:=.tmp 63) (x:=.tmp 61) (e:=65) (vs:=fl++AE) (cs:=[.slice z (lN f.Ai) A]) (ty:=⟨1,_,_⟩) (I':=g) kR kR kR rfl rfl (by rw[CK,K];show 0+i*5+4+1<=_;omega) (by intro v hv;rw[A9.1 hv];rfl) kR ?_;have al:BX (fl++AE) (0+i*5+4) [.slice z (lN f.Ai) A]=BX fl (i*5+4) [.slice z (lN f.Ai) A]++AE:=by rw[FE,Ut<|by rw[K];show i*5+4+1<=_;omega]
  rw[al];refine gg [(64,sH i)] ?_;refine bk again [] ⟨i+1,g,BX fl (i*5+4) [.slice z (lN f.Ai) A]⟩ ⟨by show i+1<=_;omega,p2.trans p,?_⟩;have Y:t.c.AG.set i f=t.c.AG:=by apply VJ;intro q;rw[VL];by_cases e:i=q;subst e;rw[Ac rfl,Ac n,hx];rw[AY e]
  show Rows (Gd g) t.c.AG _;have:=Rows.AV (S:=Gd g) (JN _) (λx l h=>Nl p x l h) p3 hx (x':=f) (cs:=[.slice z (lN f.Ai) A]) (j:=4) (λan X=>AUe (J:=g) ⟨q3,q1,q2,Z.CE⟩ an X) sP;rw[Y]at this;exact this;have hi:i=lN t.c.AG:=oG;subst hi;refine B4 8 J (vs:=fl++AE) (e:=65) λb g p _ hJ=>gg [(48,fH (lN t.c.AG)<|lN t.c.AG)] ?_;have c:=p2.trans p;have o:Rows (Gd g) t.c.AG fl:=p3.mono λx l h=>Nl p x l h;exact dn [] ⟨⟨⟨sM ⟨b,0,nO⟩,d,fl,Q,R,u,S,U,y⟩,O,P,cl0⟩,g,rfl,s.trans c,⟨⟨Av.Ky hJ o (JN _) (AAJ o) ai aj,C g c,D g c⟩,B g c⟩⟩
structure AGk(f:Lz.Ev):Prop where
 a:f.args<=16
 v:f.args+f.Ai<=16
 c:0<lN f.code/\lN f.code<=256
 o:∀o∈f.code,IY o
def ZC(f:Lz.Ev)(a:AU Au)(b:Nat):AA AF:=[.int iK f.args,.int iK f.Ai,.slice a (lN f.code) b]
def ARY(I:AB)(ca:AU Au)(n cc:Nat)(i:Nat):Hd where
 Cd:=[(38,.v<|.slice ca n cc),(39,.v<|iV n),(40,.v<|iV i)]
 J:=I
def ARa(I)(k:EB I)(f j)(g:Nat)(a)(h:AGk f)(q:Av I Q2 2 f.code j g a):Fn 267 [.g<|(ZC f j g).map .v] [] I (BW (.v<|.int iK 0) I) nO:=by let⟨h1,h2,⟨u,v⟩,h5⟩:=h;refine fo func267 λx r w m=>gg [(7,hF<|(f.args:Int)<0),(11,hF<|(f.args:Int)>16),(16,hF<|(f.Ai:Int)<0),(21,hF<|(f.Ai:Int)>16),(27,hW ((f.args:Int)+(f.Ai:Int)) ((f.args+f.Ai:Nat):Int)),(28,hF<|((f.args+f.Ai:Nat):Int)>16),(32,hN (lN f.code:Int) 0),(36,hF<|(lN f.code:Int)>256)]<|loop (ι:=Nat) (λi=>i<=lN f.code) (λi=>lN f.code-i) (ARY I j (lN f.code) g) 1000 [] 0 (Bm _) ?_;intro i l again T;by_cases c:i<lN f.code;have p:f.code[i]? =sM f.code[i]:=BS c;have n:=h5 _<|DR c;generalize f.code[i]=o at p n;obtain⟨b,d,arr,e,t,s,rfl,q2,q3,q4,q5⟩:=q.cell AAM p;subst q3;exact gg [(41,tH i<|lN f.code),(42,Br I PN b d (lN f.code) g i c),(43,D8 I XI (d+i*2) (Cs o) rfl q2 q5)]<|call (XE I k o n)<|gg [(47,sH i)]<|bk again [] (i+1) oG;have l:i=lN f.code:=oG;subst l;exact gg [(41,fH (lN f.code)<|lN f.code)]<|fi
structure Ra(im:A6):Prop where
 cs:lN im.DN<=64
 fs:0<lN im.Ax/\lN im.Ax<=16
 ck:∀v∈im.DN,(v=BH v.n\/(v=D1 v.l/\A4 v.l=v.l))
 fk:∀f∈im.Ax,AGk f
def AVY(I:AB)(im:A6)(ip:Dw)(i:Nat):Hd where
 Cd:=[(1,.p 1 0),(19,.v<|.slice ip.ka (lN im.DN) ip.kc),(20,.v<|iV<|lN im.DN),(21,.v<|iV i)]
 Cc:=[(1,.cells (Fa im ip) 32)]
 J:=I
def AVZ(I:AB)(im:A6)(ip:Dw)(i:Nat):Hd where
 Cd:=[(44,.v<|.slice ip.ua (lN im.Ax) ip.uc),(45,.v<|iV<|lN im.Ax),(46,.v<|iV i)]
 J:=I
def ARf{v}(h:v=BH v.n\/(v=D1 v.l/\A4 v.l=v.l)):v.right/\(v.kind=1\/v.kind=2)/\A4 v.l=v.l:=by rcases h with h|⟨h,a⟩;rw[h];exact⟨AMu _,.inl rfl,AAF⟩;refine⟨?_,.inr ?_,a⟩;rw[h,AMr];simpa using a;rw[h];rfl
def AJv(I)(t:EB I)(P:Pow I)(a y)(j:FJ I a y)(h:Ra a):Fn 187 [.g<|Fa a y] [] I (BW (.v<|.int iK 0) I) nO:=by
 let⟨h1,⟨S,U⟩,h4,h5⟩:=h;have E:=j.k;have G:=j.u;let⟨H,p,J,L,z,M⟩:=y;simp only at E G;refine fo func187 λs n w F=>gg [(11,hF<|(lN a.DN:Int)>64),(16,hF<|(lN a.Ax:Int)>16)]<|loop (ι:=Nat) (λi=>i<=lN a.DN) (λi=>lN a.DN-i) (AVY I a ⟨H,p,J,L,z,M⟩) 1000 [(1,100)] 0 (Bm _) ?_;intro i j again T;by_cases c:i<lN a.DN;have m:a.DN[i]? =sM a.DN[i]:=BS c;let⟨K,r,Q⟩:=ARf<|h4 _<|DR c;have l:WV a.DN[i]:=⟨by rcases h4 _ (DR c)with q|q;exact .inl q;exact .inr<|.inl q.1,JV Q⟩;generalize a.DN[i]=v at m K r l;obtain⟨b,d,arr,e,O,o,rfl,q2,q3,q4,q5⟩:=E.cell Jd m;have q3:o=BG v:=q3;subst q3;have u:=AF4 I P v l;rw[K]at u;have D:∀C:Bv,At 187 f187 f187.ntmps I w s [] (Ends [] I s n w (BW (.v<|.int iK 0) I) nO) C->At 187 f187 f187.ntmps I w s [] (Ends [] I s n w (BW (.v<|.int iK 0) I) nO) C:=λ_ h=>h;rcases r with r|r;exact gg [(22,tH i<|lN a.DN),(23,Br I Gx b d (lN a.DN) p i c),(24,D8 I Oo (d+i*5) (BG v) rfl q2 q5),(27,EN (v.kind:Int) 1)]<|call u<|gg [(38,sH i)]<|bk again [] (i+1) oG;exact gg [(22,tH i<|lN a.DN),(23,Br I Gx b d (lN a.DN) p i c),(24,D8 I Oo (d+i*5) (BG v) rfl q2 q5),(27,Fs (v.kind:Int) 1),(31,EN (v.kind:Int) 2)]<|call u<|gg [(38,sH i)]<|bk again [] (i+1) oG;have j:i=lN a.DN:=oG;subst j;refine gg [(22,fH (lN a.DN)<|lN a.DN),(42,hN (lN a.Ax:Int) 0)]<|loop (ι:=Nat) (λi=>i<=lN a.Ax) (λi=>lN a.Ax-i) (AVZ I a ⟨H,p,J,L,z,M⟩) 3000 [] 0 (Bm _) ?_;intro i j g R;by_cases c:i<lN a.Ax;have m:a.Ax[i]? =sM a.Ax[i]:=BS c
 have k:=h5 _<|DR c;generalize a.Ax[i]=f at m k;obtain⟨b,d,arr,e,O,o,rfl,q2,q3,q4,q5⟩:=G.cell (WI I) m;obtain⟨A,B,N,rfl,x⟩:=q3;exact gg [(47,tH i<|lN a.Ax),(48,Br I M7 b d (lN a.Ax) z i c),(49,D8 I AM1 (d+i*3) (ZC f A B) rfl q2 q5)]<|call (ARa I t f A B N k x)<|gg [(55,sH i)]<|bk g [] (i+1) oG;have j:i=lN a.Ax:=oG;subst j;exact gg [(47,fH (lN a.Ax)<|lN a.Ax)]<|fi
def H5(I)(at_ e:Int):Fn 341 [.v tV,.v<|nV at_,.v<|nV e] [] I (BW (.t []) I) nO:=fo func341 λc b w a=>gG<|fi
def AeI(c:A6)(d:Dw)(f:Lz.Ev)(a:AU Au)(b:Nat):AA SV:=Fa c d++(ZC f a b).map .v++[.m 2,.m 3]
def VB(e:A6)(g:Dw)(f:Lz.Ev)(a:AU Au)(b:Nat)(d:Ae Ar)(n:Nat)(c:Ae Ar)(h:Nat):AA (Nat×AK):=[(1,.cells (AeI e g f a b) 380),(2,.Aq<|.map d n),(3,.Aq<|.map c h)]
structure TU(I:AB)(im:A6)(ip:Dw)(f:Lz.Ev)(ca:AU Au)(cc:Nat)(cl:AA AF):Prop where
 tab:EB I
 img:FJ I im ip
 cs:lN im.DN<=64
 fs:lN im.Ax<=16
 fa:∀g∈im.Ax,g.args<=16
 code:Av I Q2 2 f.code ca cc cl
 len:lN f.code<=256
 a:f.args<=16
 v:f.args+f.Ai<=16
def AP0(I:AB)(e:A6)(g:Dw)(f:Lz.Ev)(a:AU Au)(b:Nat)(d:Ae Ar)(n:Nat)(c:Ae Ar)(i:Nat):zP:=λ_ h=>h= {r:=.t [],AV:=VB e g f a b d n c i,J:=I}
def ALy{o}(h:IY o):1<=o.code/\o.code<=47/\o.a<=65535:=by rw[IY,UX]at h;simp only[Bool.and_eq_true,decide_eq_true_eq]at h;refine⟨h.1.1,h.1.2,?_⟩;have:=h.2;split at this;have:=eq_of_beq this;omega;simpa using this
def Adt(I j p f s)(m:Nat)(K)(h:TU I j p f s m K)(C)(n:Nat)(B)(J:Nat)(i:Nat)(o)(H:f.code[i]? =some o)(V:IY o)(a:Px j f o):
 Fn 269 [.p 1 0,.v<|.int .i64 (i:Int)] (VB j p f s m C n B J) I (AP0 I j p f s m C n B J) none:=by
 let⟨u,E,W,Y,X,hs,aa,ha,hv⟩:=h;let⟨z,A,b3⟩:=ALy V;have Z:=E.k;have G:=E.u;have x:i<f.code.length:=(List.getElem?_eq_some_iff.1 H).1;let⟨ka,kc,kl,ua,y,ul⟩:=p;simp only at Z G;obtain⟨b,l,arr,e,fr,ac,rfl,q2,q3,q4,q5⟩:=hs.cell AAM H;subst q3;refine fo Tryz.func269 λρ ab w F=>gg [(13,Br I PN b l f.code.length m i x),(14,D8 I XI (l+i*2) (Cs o) rfl q2 q5)]<|call (QN I u o.code z A) ?_;have hA:Cf o.code<=5:=(AAO o.code z A).1;rw[Px]at a;by_cases L:Cf o.code=1;rw[L]at a;have a:o.a<j.DN.length:=by simpa using a
 exact gg [(24,hE (Cf o.code:Int) 1),(33,hT<|(o.a:Int)<(j.DN.length:Int))]<|call (H5 I (i:Int) 5)<|gG<|dn [] rfl;by_cases M:Cf o.code=2;rw[M]at a;have a:o.a<f.args+f.Ai:=by simpa using a
 exact gg [(24,hN (Cf o.code:Int) 1),(37,hE (Cf o.code:Int) 2),(50,hW ((f.args:Int)+(f.Ai:Int)) ((f.args+f.Ai:Nat):Int)),(51,hT<|(o.a:Int)<((f.args+f.Ai:Nat):Int))]<|call (H5 I (i:Int) 1)<|gG<|dn [] rfl;by_cases N:Cf o.code=3;rw[N]at a;have a:o.a<f.code.length:=by simpa using a
 exact gg [(24,hN (Cf o.code:Int) 1),(37,hN (Cf o.code:Int) 2),(55,hE (Cf o.code:Int) 3),(64,hT<|(o.a:Int)<(f.code.length:Int))]<|call (H5 I (i:Int) 7)<|gG<|dn [] rfl;by_cases O:Cf o.code=4;rw[O]at a;simp only[Bool.and_eq_true,Bool.or_eq_true,decide_eq_true_eq,bne_iff_ne,ne_eq,beq_iff_eq]at a;let⟨a,d⟩:=a;refine gg [(24,hN (Cf o.code:Int) 1),(37,hN (Cf o.code:Int) 2),(55,hN (Cf o.code:Int) 3),(68,hE (Cf o.code:Int) 4),(77,hT<|(o.a:Int)<(j.Ax.length:Int))]<|call (H5 I (i:Int) 6) ?_;have v:j.Ax[o.a]? =some j.Ax[o.a]:=List.getElem?_eq_getElem a;rw[List.getD_eq_getElem?_getD,v,Option.getD_some]at d;generalize j.Ax[o.a]=g at v d;obtain⟨fb,c,D,fe,T,Q,R,S,rfl,t,_,g4,U⟩:=OR G v;have go1:=U 0 _ rfl;simp only[Nat.add_zero]at go1;by_cases q:o.code=38;have k:g.args=1:=by rcases d with d|d;exact absurd q oG;exact d
 exact gg [(82,hE (o.code:Int) 38),(100,Br I M7 fb c j.Ax.length y o.a a),(102,ED I Ek rfl (c+o.a*3) (.int .i64 g.args) t go1),(103,hE (g.args:Int) 1)]<|call (H5 I (i:Int) 6)<|gG<|dn [] rfl;by_cases c40:o.code=40;have k:g.args=1:=by rcases d with d|d;exact absurd c40 oG;exact d
 exact gg [(82,hN (o.code:Int) 38),(86,hE (o.code:Int) 40),(100,Br I M7 fb c j.Ax.length y o.a a),(102,ED I Ek rfl (c+o.a*3) (.int .i64 g.args) t go1),(103,hE (g.args:Int) 1)]<|call (H5 I (i:Int) 6)<|gG<|dn [] rfl;by_cases r:o.code=45;have k:g.args=1:=by rcases d with d|d;exact absurd r oG;exact d
 exact gg [(82,hN (o.code:Int) 38),(86,hN (o.code:Int) 40),(91,hE (o.code:Int) 45),(100,Br I M7 fb c j.Ax.length y o.a a),(102,ED I Ek rfl (c+o.a*3) (.int .i64 g.args) t go1),(103,hE (g.args:Int) 1)]<|call (H5 I (i:Int) 6)<|gG<|dn [] rfl;exact gg [(82,hN (o.code:Int) 38),(86,hN (o.code:Int) 40),(91,hN (o.code:Int) 45)]<|dn [] rfl;by_cases P:Cf o.code=5;rw[P]at a;have a:o.a<=63:=by simpa using a
 exact gg [(24,hN (Cf o.code:Int) 1),(37,hN (Cf o.code:Int) 2),(55,hN (Cf o.code:Int) 3),(68,hN (Cf o.code:Int) 4),(107,hE (Cf o.code:Int) 5),(110,hT<|(o.a:Int)<=63)]<|call (H5 I (i:Int) 1)<|gG<|dn [] rfl;exact gg [(24,hN (Cf o.code:Int) 1),(37,hN (Cf o.code:Int) 2),(55,hN (Cf o.code:Int) 3),(68,hN (Cf o.code:Int) 4),(107,hN (Cf o.code:Int) 5)]<|dn [] rfl
def Adh:prog.underlying 332=sM (.map 3 383):=kR
def AA8:prog.underlying 378=sM (.map 3 4):=kR
def AeP:∀w,(zeroValue 383).run prog w=.ok (.agg ([.int iK 0,.int iK 0]:AA AF).toArray) w:=by have h:(prog.info? 383).map (λi=>i.zero)=sM (sM<|.agg ([.int iK 0,.int iK 0]:AA AF).toArray):=kR;let⟨i,a,b⟩:=L9.1 h;intro w;simp[zeroValue,typeInfo,a,b,Result.andThen]
abbrev JB(s:Nat×Nat):AA AF:=[.int iK s.1,.int iK s.2]
structure Hu(S:AA (Nat×Nat))(es:Ae Ar)(n:Nat)(b:Ae Ar)(no:Nat):Prop where
 st:MapKept.Stamped es n
 so:MapKept.Stamped b no
 CG:∀e∈es.toList,∃(a:Nat)(s:Nat×Nat),S[a]? =sM s/\e.key=.int iK (a:Int)/\e.val=.agg (JB s).toArray
 opn:∀e∈b.toList,∃a:Nat,e.key=.int iK (a:Int)/\e.val=vB tT/\∃e'∈es.toList,e'.key=e.key
def Hu.A3{S b}{n:Nat}{c}{g:Nat}(h:Hu S b n c g):∀e∈b.toList,MapKept.IsKey (.int iK) e.key:=λe d=>by let⟨a,s,_,f,_⟩:=h.CG e d;rw[f];exact rfl
def Hu.AKH{S c}{n:Nat}{b}{g:Nat}(h:Hu S c n b g):∀e∈b.toList,MapKept.IsKey (.int iK) e.key:=λe d=>by let⟨a,f,_⟩:=h.opn e d;rw[f];exact rfl
open Classical in
theorem Wq{α:Type}: ∀ {l m:List α},l.Nodup->(∀x∈l,x∈m)->l.length<=m.length
 |[],_,_,_=>Nat.zero_le _
 |x::l,m,h,hs=>by
  have hx:=hs x sP
  have ih:=Wq (m:=m.erase x) (List.nodup_cons.1 h).2 (λy hy=>(List.mem_erase_of_ne (λe:y=x=>(List.nodup_cons.1 h).1 (by rw[<-e];exact hy))).2 (hs y (by simp[hy])))
  rw[List.length_erase_of_mem hx]at ih
  have:=List.length_pos_of_mem hx
  simp only[List.length_cons];omega
def Hu.size{S c n f l}(h:Hu S c n f l):c.size<=lN S:=by
 have i:=h.st.2.2;have b:∀k∈c.toList.map (·.key),k∈(List.range<|lN S).map (λa:Nat=>Value.int iK (a:Int)):=λk d=>by obtain⟨e,g,rfl⟩:=BI.1 d;let⟨a,s,j,d,_⟩:=h.CG e g;exact BI.2 ⟨a,O4.2 (Ci.1 j).1,d.symm⟩
 have:=Wq i b;simpa using this
def wμ(S:AA<|Nat×Nat)(b a:Ae Ar):Nat:=2*(lN S-b.size)+a.size
def Hu.find{S c}{n:Nat}{l}{r:Nat}(h:Hu S c n l r)(a:Nat):
 (Instr.findNow (.int iK) (iV a) c.toList 0=sM nO/\∀e∈c.toList,e.key≠.int iK (a:Int))\/(∃j s,Instr.findNow (.int iK) (iV a) c.toList 0=sM (sM (j,.agg (JB s).toArray))/\S[a]? =sM s/\∃e∈c.toList,e.key=.int iK (a:Int)):=by
 rcases MapKept.findNow_spec (d:=.int iK) (k:=.int iK (a:Int)) rfl c.toList 0 h.A3 with q|⟨j,e,f,m,g⟩;exact .inl q;have i:=De m;let⟨b,s,o,k,p⟩:=h.CG e i;rw[g]at k;have d:a=b:=by have:=(Value.int.inj k).2;omega
 subst d;rw[p]at f;exact .inr ⟨_,s,f,o,e,i,g⟩
def Hu.push{S g}{n:Nat}{d}{i:Nat}(h:Hu S g n d i){a:Nat}{s}(u:S[a]? =sM s)(k:∀e∈g.toList,e.key≠.int iK (a:Int)):
 Hu S (g.push {key:=.int iK (a:Int),val:=.agg (JB s).toArray,born:=n}) (n+1) (d.push {key:=.int iK (a:Int),val:=vB tT,born:=i}) (i+1)/\wμ S (g.push {key:=.int iK (a:Int),val:=.agg (JB s).toArray,born:=n}) (d.push {key:=.int iK (a:Int),val:=vB tT,born:=i})<=wμ S g d/\Instr.findNow (.int iK) (iV a) d.toList 0=sM nO:=by
 have l:∀e∈d.toList,e.key≠.int iK (a:Int):=λe c t=>by let⟨_,_,_,m,f,q⟩:=h.opn e c;exact k m f<|q.trans t
 have hW:Hu S (g.push {key:=.int iK (a:Int),val:=.agg (JB s).toArray,born:=n}) (n+1) (d.push {key:=.int iK (a:Int),val:=vB tT,born:=i}) (i+1):=by refine⟨MapKept.stamped_push h.st k,MapKept.stamped_push h.so l,λe c=> ?_,λe c=> ?_⟩;simp only[P5,Bc,A9]at c;rcases c with c|rfl;exact h.CG e c;exact⟨a,s,u,rfl,rfl⟩;simp only[P5,Bc,A9]at c;rcases c with c|rfl;let⟨b,r,o,m,f,p⟩:=h.opn e c;exact⟨b,r,o,m,by simp[P5,Array.mem_toList_iff.1 f],p⟩;exact⟨a,rfl,rfl,{key:=.int iK (a:Int),val:=.agg (JB s).toArray,born:=n},by simp[P5],rfl⟩
 refine⟨hW,?_,?_⟩;have:=hW.size;unfold wμ;simp only[NZ]at this⊢;omega;rcases MapKept.findNow_spec (d:=.int iK) (k:=.int iK (a:Int)) rfl d.toList 0 h.AKH with q|⟨j,e,r,o,p⟩;exact q.1;exact absurd p<|l e<|De o
def AHC(I:AB)(g:A6)(i:Dw)(f:Lz.Ev)(d:AU Au)(e:Nat)(S:AA<|Nat×Nat)(m:Nat):zP:=λ_ h=>∃(b:Ae Ar)(n:Nat)(a:Ae Ar)(c:Nat),Hu S b n a c/\wμ S b a<=m/\h= {r:=.t [],AV:=VB g i f d e b n a c,J:=I}
def AFb:prog.underlying 383=sM (.struct<|prog.fieldsOf 383)/\prog.stoodInHeld 383=fF/\prog.eqGuardType prog.depth 383=fF:=by refine⟨?_,?_,?_⟩<;>exact kR
def ATj(w)(a b c d:Int):(Op.equalIn (9996+4) 383 (.agg #[.int iK a,.int iK b]) (.agg #[.int iK c,.int iK d])).run prog w=.ok (decide (a=c/\b=d)) w:=by
 rw[run_equalIn_agg w (9996+3) 383 _ _ AFb.1 AFb.2.1];simp[Program.fieldsOf,underlying383];go_simp
 repeat apply PR
 apply ATW
def AUy(I:AB)(x y:Nat)(s:Nat×Nat):Hint:=
 .BZ (.binOp .eql 383 (.tmp x) (.tmp y) 383) [(x,.g<|(JB s).map .v),(y,.g<|(JB s).map .v)] [] I (.v tV) (by intro h j o b a;have f:=Ds a (s:=x) (x:=.g<|(JB s).map .v) sP;have g:=Ds a (s:=y) (x:=.g<|(JB s).map .v) sP;intro k i w e _ _ _ _;refine⟨w,?_,Bl.refl w⟩;have c:=e (.tmp x) xO;have d:=e (.tmp y) xO;simp only[ev,f,g,AO,Gw]at c d;simp only[execOp,b,Sem.run_bind,c,d];rw[run_eqGuard_agg w .eql 383 _ _ _ _ AFb.2.2];simp only[Result.andThen_ok];rw[run_eql_struct w 383 _ _];have:=ATj w s.1 s.2 s.1 s.2;rw[show(9996+4:Nat)=10000 from rfl]at this;rw[this];simp[AO,Result.andThen])
def Py(I q k f l)(m:Nat)(S b)(n:Nat)(c)(d:Nat)(h:Hu S b n c d)(from_:Int)(a:Nat)(s)(p:S[a]? =sM s):
 Fn 270 [.p 1 0,.v<|nV from_,.v<|iV a,.g<|(JB s).map .v] (VB q k f l m b n c d) I (AHC I q k f l m S<|wμ S b c) nO:=by
 let⟨y,z,A,C,D,E⟩:=k;refine fo func270 λt key w o=> ?_;rcases h.find a with⟨e,g⟩|⟨j,B,e,g,_⟩;let⟨u,v,x⟩:=h.push p g;refine gg [(16,.BZ (.lookup 332 (.tmp 14) (.tmp 15) tT) [(14,.m 2),(15,.v<|iV a)] [(2,.Aq<|.map b n)] I (.t [.g<|([.int iK 0,.int iK 0]:AA AF).map .v,.v fV])<|UN Be (et:=383) (d1:=.int iK) (es:=b) (kv:=.int iK (a:Int)) (zs:=[.int iK 0,.int iK 0]) rfl Ek rfl AeP e)]<|Qv (t:=332) (km:=2) (m0:=n) (m1:=n+1) (es:=b) (es':=b.push {key:=.int iK (a:Int),val:=.agg (JB s).toArray,born:=n}) (m:=.tmp 28) (k:=.tmp 29) (x:=.tmp 30) (kv:=.int iK (a:Int)) (v:=.agg (JB s).toArray) (sk:=.v<|iV a) (sx:=.g<|(JB s).map .v) (I':=I) kR kR kR (λ_=>rfl) kR (λt=>by simp only[AO];rw[Gw]) (λw r i=>Wn (kv:=.int iK (a:Int)) (v:=.agg (JB s).toArray) Adh Ek rfl e w r i) kR ?_;exact gG<|Qv (t:=378) (km:=3) (m0:=d) (m1:=d+1) (es:=c) (es':=c.push {key:=.int iK (a:Int),val:=vB tT,born:=d}) (m:=.tmp 34) (k:=.tmp 35) (x:=.const tV) (kv:=.int iK (a:Int)) (v:=vB tT) (sk:=.v<|iV a) (sx:=.v tV) (I':=I) kR kR kR (λ_=>rfl) kR (λt=>rfl) (λw r i=>Wn (kv:=.int iK (a:Int)) (v:=vB tT) AA8 Ek rfl x w r i) kR<|gG<|dn [] ⟨_,_,_,_,u,v,rfl⟩;rw[p]at g;cases g
 exact gg [(16,.BZ (.lookup 332 (.tmp 14) (.tmp 15) tT) [(14,.m 2),(15,.v<|iV a)] [(2,.Aq<|.map b n)] I (.t [.g<|(JB s).map .v,.v tV])<|Qu Be (L:=Bt) (t:=332) (a:=14) (b:=15) (km:=2) (n:=n) (kt:=3) (et:=383) (d1:=.int iK) (es:=b) (kv:=.int iK (a:Int)) (j:=j) (xs:=JB s) rfl Ek rfl e),(22,AUy I 20 21 s)]<|call (H5 I from_ 8)<|gG<|dn [] ⟨_,_,_,_,h,Ag _,rfl⟩
def Wz{c}(a:c≠15)(b:c≠18)(d:c≠19):Lf c=fF:=by rw[Lf];simp[a,b,d]
def ALv{c}(h:c=15\/c=18\/c=19):Lf c:=by rw[Lf];rcases h with h|h|h<;>simp[h]
def OV(a r:Bool)(h:(!a)=r):Hint:=.eq (Value.bool<|!a) (vB r) (by rw[h])
def AdA(I i ip f ca)(B:Nat)(cl)(h:TU I i ip f ca B cl)(S)(hc:Ng i f S)(z)(n:Nat)(F)(J:Nat)(L:Hu S z n F J)(a:Nat)(af:∃e∈z.toList,e.key=.int .i64 (a:Int)):
 Fn 273 [.p 1 0,.v<|.int .i64 (a:Int)] (VB i ip f ca B z n F J) I (AHC I i ip f ca B S<|wμ S z F) none:=by
 let⟨ac,hi,an,ao,ad,hs,ap,ha,hv⟩:=h;have hu:=hi.u;let⟨M,N,O,ua,K,R⟩:=ip;simp only at hu;rcases L.find a with⟨_,q⟩|⟨j,⟨d,t⟩,hf1,hSa,_⟩;let⟨e,he,hk⟩:=af;exact absurd hk<|q e he;have halt:a<f.code.length:=by rw[<-hc.len];exact(List.getElem?_eq_some_iff.1 hSa).1
 have hx:f.code[a]? =some f.code[a]:=List.getElem?_eq_getElem halt;let⟨r1,r2⟩:=hc.op _<|List.getElem_mem halt;generalize f.code[a]=o at hx r1 r2;let⟨b1,b2,b3⟩:=ALy r1;let⟨P,Q,l3,l4,x⟩:=hc.at_ a o d t hx hSa;simp only at x;let⟨s1,s2,s3⟩:=AAO o.code b1 b2;have hlen:∀k s,S[k]? =some s->k<f.code.length:=λk s hk=>by rw[<-hc.len];exact(List.getElem?_eq_some_iff.1 hk).1
 obtain⟨b,v,arr,e,fr,au,rfl,q2,q3,q4,q5⟩:=hs.cell AAM hx;subst q3;refine fo Tryz.func273 λρ aq w ai=>gg [(16,Br I PN b v f.code.length B a halt),(17,D8 I XI (v+a*2) (Cs o) rfl q2 q5),(23,.BZ (.lookup 332 (.tmp 21) (.tmp 22) false) [(21,.m 2),(22,.v<|.int .i64 (a:Int))] [(2,.Aq<|.map z n)] I (.g<|(JB (d,t)).map .v)<|Pf Be (L:=Bt) (t:=332) (a:=21) (b:=22) (km:=2) (n:=n) (kt:=3) (et:=383) (d1:=.int .i64) (es:=z) (kv:=.int .i64 (a:Int)) (j:=j) (xs:=JB (d,t)) rfl Ek rfl hf1)]<|call (QN I ac o.code b1 b2) ?_;by_cases y:o.code=15;have c:CU i o=BP o.code:=by rw[CU];rw[if_neg oG]
 have A:BP o.code=0/\D5 o.code=0:=by rw[y];decide
 rw[c]at P Q;rw[if_neg oG,if_pos y]at x;have G:S[o.a]? =some (d-BP o.code+D5 o.code,t):=by rw[x,A.1,A.2];rfl
 refine gg [(34,hN (o.code:Int) 17),(50,hW ((d:Int)-((BP o.code:Nat):Int)) ((d-BP o.code:Nat):Int)),(53,hW (((d-BP o.code:Nat):Int)+((D5 o.code:Nat):Int)) ((d-BP o.code+D5 o.code:Nat):Int)),(60,hT<|(d:Int)≥((BP o.code:Nat):Int)),(64,hT<|((d-BP o.code+D5 o.code:Nat):Int)<=32)]<|call (H5 I (a:Int) 8)<|gg [(71,hN (o.code:Int) 21),(82,hN (o.code:Int) 20),(98,hN (o.code:Int) 16),(99,hE (o.code:Int) 15)]<|A0 (Py I i ⟨M,N,O,ua,K,R⟩ f (some ⟨b,v,none⟩) B S z n F J L (a:Int) o.a _ G) [] ?_;rintro _ ⟨m,E,l,u,r,p,rfl⟩;refine gg [(108,OV (Lf o.code) false<|by rw[ALv oG];rfl),(128,hN (o.code:Int) 20)] ?_;exact dn [] ⟨m,E,l,u,r,p,rfl⟩;by_cases C:o.code=16;have c:CU i o=BP o.code:=by rw[CU];rw[if_neg oG]
 have A:BP o.code=1/\D5 o.code=0:=by rw[C];decide
 rw[c]at P Q;rw[if_neg oG,if_neg y,if_pos C]at x;have G:S[o.a]? =some (d-BP o.code+D5 o.code,t):=by rw[x.1,A.1,A.2];rfl
 have H:S[a+1]? =some (d-BP o.code+D5 o.code,t):=by rw[x.2,A.1,A.2];rfl
 have X:=hlen _ _ H;refine gg [(34,hN (o.code:Int) 17),(50,hW ((d:Int)-((BP o.code:Nat):Int)) ((d-BP o.code:Nat):Int)),(53,hW (((d-BP o.code:Nat):Int)+((D5 o.code:Nat):Int)) ((d-BP o.code+D5 o.code:Nat):Int)),(60,hT<|(d:Int)≥((BP o.code:Nat):Int)),(64,hT<|((d-BP o.code+D5 o.code:Nat):Int)<=32)]<|call (H5 I (a:Int) 8)<|gg [(71,hN (o.code:Int) 21),(82,hN (o.code:Int) 20),(98,hE (o.code:Int) 16)]<|A0 (Py I i ⟨M,N,O,ua,K,R⟩ f (some ⟨b,v,none⟩) B S z n F J L (a:Int) o.a _ G) [] ?_;rintro _ ⟨m,E,l,u,r,p,rfl⟩;refine gg [(108,OV (Lf o.code) true<|by rw[Wz oG oG oG];rfl),(110,hW ((a:Int)+1) ((a+1:Nat):Int)),(117,hT<|((a+1:Nat):Int)<(f.code.length:Int))] ?_;refine call (H5 I (a:Int) 9)<|gg [(123,hW ((a:Int)+1) ((a+1:Nat):Int))]<|A0 (Py I i ⟨M,N,O,ua,K,R⟩ f (some ⟨b,v,none⟩) B S m E l u r (a:Int) (a+1) _ H) [] ?_;rintro _ ⟨U,n2,T,Z,Y,W,rfl⟩;exact gg [(128,hN (o.code:Int) 20)]<|dn [] ⟨U,n2,T,Z,Y,Nat.le_trans W p,rfl⟩;by_cases c20:o.code=20;have c:CU i o=BP o.code:=by rw[CU];rw[if_neg oG]
 have A:BP o.code=0/\D5 o.code=0:=by rw[c20];decide
 rw[c]at P Q;rw[if_neg oG,if_neg y,if_neg C,if_pos c20]at x;have G:S[a+1]? =some (d-BP o.code+D5 o.code,t+1):=by rw[x.1,A.1,A.2];rfl
 have H:S[o.a]? =some (d+1,t):=x.2;have X:=hlen _ _ G;refine gg [(34,hN (o.code:Int) 17),(50,hW ((d:Int)-((BP o.code:Nat):Int)) ((d-BP o.code:Nat):Int)),(53,hW (((d-BP o.code:Nat):Int)+((D5 o.code:Nat):Int)) ((d-BP o.code+D5 o.code:Nat):Int)),(60,hT<|(d:Int)≥((BP o.code:Nat):Int)),(64,hT<|((d-BP o.code+D5 o.code:Nat):Int)<=32)]<|call (H5 I (a:Int) 8)<|gg [(71,hN (o.code:Int) 21),(82,hE (o.code:Int) 20),(85,hT<|(t:Int)<16),(89,hT<|(d:Int)<32)]<|call (H5 I (a:Int) 8)<|gg [(95,hW ((t:Int)+1) ((t+1:Nat):Int)),(108,OV (Lf o.code) true<|by rw[Wz oG oG oG];rfl),(110,hW ((a:Int)+1) ((a+1:Nat):Int)),(117,hT<|((a+1:Nat):Int)<(f.code.length:Int))] ?_;refine call (H5 I (a:Int) 9)<|gg [(123,hW ((a:Int)+1) ((a+1:Nat):Int))]<|A0 (Py I i ⟨M,N,O,ua,K,R⟩ f (some ⟨b,v,none⟩) B S z n F J L (a:Int) (a+1) _ G) [] ?_;rintro _ ⟨m,E,l,u,r,p,rfl⟩;refine gg [(128,hE (o.code:Int) 20),(135,hW ((d:Int)+1) ((d+1:Nat):Int))]<|A0 (Py I i ⟨M,N,O,ua,K,R⟩ f (some ⟨b,v,none⟩) B S m E l u r (a:Int) o.a _ H) [] ?_;rintro _ ⟨U,n2,T,Z,Y,W,rfl⟩;exact gG<|dn [] ⟨U,n2,T,Z,Y,Nat.le_trans W p,rfl⟩;by_cases c21:o.code=21;have c:CU i o=BP o.code:=by rw[CU];rw[if_neg oG]
 have A:BP o.code=0/\D5 o.code=0:=by rw[c21];decide
 rw[c]at P Q;rw[if_neg oG,if_neg y,if_neg C,if_neg c20,if_pos c21]at x;have G:S[a+1]? =some (d-BP o.code+D5 o.code,t-1):=by rw[x.2,A.1,A.2];rfl
 have ar:=x.1;have X:=hlen _ _ G;refine gg [(34,hN (o.code:Int) 17),(50,hW ((d:Int)-((BP o.code:Nat):Int)) ((d-BP o.code:Nat):Int)),(53,hW (((d-BP o.code:Nat):Int)+((D5 o.code:Nat):Int)) ((d-BP o.code+D5 o.code:Nat):Int)),(60,hT<|(d:Int)≥((BP o.code:Nat):Int)),(64,hT<|((d-BP o.code+D5 o.code:Nat):Int)<=32)]<|call (H5 I (a:Int) 8)<|gg [(71,hE (o.code:Int) 21),(74,hT<|(t:Int)>0)]<|call (H5 I (a:Int) 11)<|gg [(79,hW ((t:Int)-1) ((t-1:Nat):Int)),(108,OV (Lf o.code) true<|by rw[Wz oG oG oG];rfl),(110,hW ((a:Int)+1) ((a+1:Nat):Int)),(117,hT<|((a+1:Nat):Int)<(f.code.length:Int))] ?_;refine call (H5 I (a:Int) 9)<|gg [(123,hW ((a:Int)+1) ((a+1:Nat):Int))]<|A0 (Py I i ⟨M,N,O,ua,K,R⟩ f (some ⟨b,v,none⟩) B S z n F J L (a:Int) (a+1) _ G) [] ?_;rintro _ ⟨m,E,l,u,r,p,rfl⟩;exact gg [(128,hN (o.code:Int) 20)]<|dn [] ⟨m,E,l,u,r,p,rfl⟩;by_cases ab:o.code=18\/o.code=19;have c:CU i o=BP o.code:=by rw[CU];rw[if_neg oG]
 rw[c]at P Q;refine gg [(34,hN (o.code:Int) 17),(50,hW ((d:Int)-((BP o.code:Nat):Int)) ((d-BP o.code:Nat):Int)),(53,hW (((d-BP o.code:Nat):Int)+((D5 o.code:Nat):Int)) ((d-BP o.code+D5 o.code:Nat):Int)),(60,hT<|(d:Int)≥((BP o.code:Nat):Int)),(64,hT<|((d-BP o.code+D5 o.code:Nat):Int)<=32)]<|call (H5 I (a:Int) 8)<|gg [(71,hN (o.code:Int) 21),(82,hN (o.code:Int) 20),(98,hN (o.code:Int) 16),(99,hN (o.code:Int) 15),(108,OV (Lf o.code) false<|by rw[ALv oG];rfl),(128,hN (o.code:Int) 20)] ?_;exact dn [] ⟨z,n,F,J,L,Nat.le_refl _,rfl⟩;rw[if_neg ab,if_neg y,if_neg C,if_neg c20,if_neg c21]at x;have X:=hlen _ _ x;by_cases aa:o.code=17;have V:o.a<i.Ax.length:=by
  have ag:Cf o.code=4:=by rw[aa];rfl
  rw[Px]at r2;rw[ag]at r2;simp[Bool.and_eq_true,decide_eq_true_eq]at r2;exact r2.1
 have hg:i.Ax[o.a]? =some i.Ax[o.a]:=List.getElem?_eq_getElem V;have ae:=ad _<|List.getElem_mem V;have c:CU i o=BP o.code+i.Ax[o.a].args:=by rw[CU];rw[if_pos aa,List.getD_eq_getElem?_getD,hg];rfl
 rw[c]at P Q x;generalize i.Ax[o.a]=g at hg ae c P Q x;obtain⟨fb,D,ah,fe,am,aj,ak,al,rfl,g2,_,g4,g5⟩:=OR hu hg;have go1:=g5 0 _ rfl;simp[Nat.add_zero]at go1;refine gg [(34,hE (o.code:Int) 17),(43,Br I M7 fb D i.Ax.length K o.a V),(45,ED I Ek rfl (D+o.a*3) (.int .i64 g.args) g2 go1),(46,hW (((BP o.code:Nat):Int)+(g.args:Int)) ((BP o.code+g.args:Nat):Int)),(50,hW ((d:Int)-((BP o.code+g.args:Nat):Int)) ((d-(BP o.code+g.args):Nat):Int)),(53,hW (((d-(BP o.code+g.args):Nat):Int)+((D5 o.code:Nat):Int)) ((d-(BP o.code+g.args)+D5 o.code:Nat):Int)),(60,hT<|(d:Int)≥((BP o.code+g.args:Nat):Int)),(64,hT<|((d-(BP o.code+g.args)+D5 o.code:Nat):Int)<=32)]<|call (H5 I (a:Int) 8)<|gg [(71,hN (o.code:Int) 21),(82,hN (o.code:Int) 20),(98,hN (o.code:Int) 16),(99,hN (o.code:Int) 15),(108,OV (Lf o.code) true<|by rw[Wz oG oG oG];rfl),(110,hW ((a:Int)+1) ((a+1:Nat):Int)),(117,hT<|((a+1:Nat):Int)<(f.code.length:Int))] ?_;refine call (H5 I (a:Int) 9)<|gg [(123,hW ((a:Int)+1) ((a+1:Nat):Int))]<|A0 (Py I i ⟨M,N,O,some ⟨fb,D,none⟩,K,R⟩ f (some ⟨b,v,none⟩) B S z n F J L (a:Int) (a+1) _ x) [] ?_;rintro _ ⟨m,E,l,u,r,p,rfl⟩;exact gg [(128,hN (o.code:Int) 20)]<|dn [] ⟨m,E,l,u,r,p,rfl⟩;have c:CU i o=BP o.code:=by rw[CU];rw[if_neg oG]
 rw[c]at P Q x;refine gg [(34,hN (o.code:Int) 17),(50,hW ((d:Int)-((BP o.code:Nat):Int)) ((d-BP o.code:Nat):Int)),(53,hW (((d-BP o.code:Nat):Int)+((D5 o.code:Nat):Int)) ((d-BP o.code+D5 o.code:Nat):Int)),(60,hT<|(d:Int)≥((BP o.code:Nat):Int)),(64,hT<|((d-BP o.code+D5 o.code:Nat):Int)<=32)]<|call (H5 I (a:Int) 8)<|gg [(71,hN (o.code:Int) 21),(82,hN (o.code:Int) 20),(98,hN (o.code:Int) 16),(99,hN (o.code:Int) 15),(108,OV (Lf o.code) true<|by rw[Wz oG oG oG];rfl),(110,hW ((a:Int)+1) ((a+1:Nat):Int)),(117,hT<|((a+1:Nat):Int)<(f.code.length:Int))] ?_;refine call (H5 I (a:Int) 9)<|gg [(123,hW ((a:Int)+1) ((a+1:Nat):Int))]<|A0 (Py I i ⟨M,N,O,ua,K,R⟩ f (some ⟨b,v,none⟩) B S z n F J L (a:Int) (a+1) _ x) [] ?_;rintro _ ⟨m,E,l,u,r,p,rfl⟩;exact gg [(128,hN (o.code:Int) 20)]<|dn [] ⟨m,E,l,u,r,p,rfl⟩
def FT(s:Gs):AA AF:=[vS<|AJ s.l.1,vS<|AJ s.l.2,.int iK s.v]
def Si(s:Gs)(l:AA AF):Prop:=l=FT s
def AAo(s l)(h:Si s l):lN l=3:=by rw[h];rfl
def En(b:FO):AA AF:=[.int iK b.fn,vS<|AJ b.l.1,vS<|AJ b.l.2,vS<|AJ b.c.1,vS<|AJ b.c.2,.int .u8 b.AR.toNat,.int iK b.Ao,.int iK b.box,.int iK b.n]
def Ro(b:FO)(l:AA AF):Prop:=l=En b
def ACZ(s l)(h:Ro s l):lN l=9:=by rw[h];rfl
structure Jl where
 ip:Dw
 ba:AU Au
 bc:Nat
 bl:AA AF
 ta:AU Au
 tc:Nat
 tl:AA AF
structure Ke(I:AB)(c:Dj)(q:Jl):Prop where
 im:FJ I c.im q.ip
 bx:Av I Si 3 c.BJ q.ba q.bc q.bl
 th:Av I Ro 9 c.BM q.ta q.tc q.tl
def MU(c:Dj)(q:Jl):AA SV:=Fa c.im q.ip++[.v<|.slice q.ba (lN c.BJ) q.bc,.v<|.slice q.ta (lN c.BM) q.tc]
def Ke.up{I J c q}(h:Ke I c q)(hle:I.le J):Ke J c q:=⟨h.im.up hle,h.bx.up hle λ_ _ h=>h,h.th.up hle λ_ _ h=>h⟩
def Ke.Bf{I J c q}(h:Ke I c q)(hle:I.Da J):Ke J c q:=⟨FJ.Bf hle h.im,Av.Bf hle h.bx λ_ _ h=>h,Av.Bf hle h.th λ_ _ h=>h⟩
structure RX(c:Dj)(b:FO):Prop where
 fn:b.fn<lN c.im.Ax
 args:∀f,c.im.Ax[b.fn]? =sM f->f.args=1
 hl:A4 b.l=b.l
 hc:A4 b.c=b.c
 AR:b.AR.toNat<=63
 Ao:b.Ao<=999
 box:b.box<lN c.BJ
 fl:fl b.l b.c
def AAj:Ht 99 3:=by refine row_of ((prog.underlying 99).getD Al) ((prog.info? 99).getD Al) ?_ ?_ ?_ ?_<;>exact kR
def Yy:IE 33 99 3:=⟨kR,AAj.hi⟩
def AAg:Ht 103 9:=by refine row_of ((prog.underlying 103).getD Al) ((prog.info? 103).getD Al) ?_ ?_ ?_ ?_<;>exact kR
def ADD:IE 34 103 9:=⟨kR,AAg.hi⟩
def AET(I l)(h:A4 l=l):Fn 136 [DW l] [] I (BW (.v tV) I) nO:=by have:=Zm I l<|JV h;rw[show(A4 l==l)=tT by simpa using h]at this;exact this
def ARZ(I c q b)(s:Ke I c q)(h:RX c b)(r:lN c.BJ<=1000)(t:lN c.im.Ax<=1000):Fn 137 [.g<|MU c q,.g<|(En b).map .v] [] I (BW (.v<|.int iK 0) I) nO:=by let⟨m,n,g,i,D,E,F,o⟩:=h;have k:c.im.Ax[b.fn]? =sM c.im.Ax[b.fn]:=BS m;have G:=n _ k;let⟨l,d,arr,e,C,z,A,B,f,p,_,u,v⟩:=OR s.im.u k;have a:=NB I b.l b.c (JV g)<|JV i;rw[o]at a;let⟨⟨H,J,K,L,y,M⟩,ba,bc,bl,ta,tc,tl⟩:=q;simp only at f;subst f;exact fo func137 λN x w j=>gg [(7,hF<|(b.fn:Int)<0),(15,hF<|(b.fn:Int)≥(lN c.im.Ax:Int)),(23,Br I M7 l d (lN c.im.Ax) y b.fn u),(25,ED I Ek rfl (d+b.fn*3) (iV<|c.im.Ax[b.fn].args) p<|v 0 _ rfl),(26,EN (c.im.Ax[b.fn].args:Int) 1)]<|call (AET I b.l g)<|gG<|call (AET I b.c i)<|gg [(41,hF<|(b.AR.toNat:Int)>63),(45,hF<|(b.Ao:Int)<0),(49,hF<|(b.Ao:Int)>999),(57,hF<|b.box≥(lN c.BJ:Int))]<|call a<|gG<|fi
abbrev ACB(I:AB):zP:=He I (λ_:Unit=>.t [.v<|.int iK 0,.v<|.int iK 0,.v<|.int iK 0]) λ_ _=>True
structure RY(c:Dj):Prop where
 nb:lN c.BJ<=8
 nt:0<lN c.BM/\lN c.BM<=8
 bx:∀b∈c.BJ,A4 b.l=b.l
 th:∀b∈c.BM,RX c b
 fs:lN c.im.Ax<=1000
def ARd(J:AB)(c:Dj)(q:Jl)(i:Nat):Hd where
 Cd:=[(1,.p 1 0),(39,.v<|.slice q.ba (lN c.BJ) q.bc),(40,.v<|iV<|lN c.BJ),(41,.v<|iV i)]
 Cc:=[(1,.cells (MU c q) 36)]
 J:=J
def ARe(J:AB)(c:Dj)(q:Jl)(i:Nat):Hd where
 Cd:=[(1,.p 1 0),(53,.v<|.slice q.ta (lN c.BM) q.tc),(54,.v<|iV<|lN c.BM),(55,.v<|iV i)]
 Cc:=[(1,.cells (MU c q) 36)]
 J:=J
abbrev APN(I:AB):zP:=He I (λ_:Unit=>.t [.v<|.int iK 0,.v<|.int iK 0]) λ_ _=>True
def AWM(I c q)(u:Ke I c q)(h:RY c)(A:Fn 135 [.g<|Fa c.im q.ip] [] I (ACB I) nO):Fn 86 [.g<|MU c q] [] I (APN I) nO:=by
 let⟨h1,⟨F,G⟩,h4,h5,h6⟩:=h;have j:=u.bx;have m:=u.th;let⟨x,r,o,t,y,p,z⟩:=q;simp only at j m A;refine fo func86 λH D w B=>gG<|Cz A λ_ J hle _=>gg [(25,hF<|(lN c.BJ:Int)>8),(30,hN (lN c.BM:Int) 0),(36,hF<|(lN c.BM:Int)>8)]<|loop (ι:=Nat) (λi=>i<=lN c.BJ) (λi=>lN c.BJ-i) (ARd J c ⟨x,r,o,t,y,p,z⟩) 2000 [(1,100)] 0 (Bm _) ?_;intro i k again T;by_cases a:i<lN c.BJ;have n:c.BJ[i]? =sM c.BJ[i]:=BS a;have l:=h4 _<|DR a;generalize c.BJ[i]=s at n l;obtain⟨b,d,arr,e,C,g,rfl,q2,q3,q4,q5⟩:=(j.up hle λ_ _ h=>h).cell AAo n;have q3:g=FT s:=q3;subst q3;exact gg [(42,tH i<|lN c.BJ),(44,Br J Yy b d (lN c.BJ) o i a),(45,D8 J AAj (d+i*3) (FT s) rfl q2 q5)]<|call (AET J s.l l)<|gg [(51,sH i)]<|bk again [] (i+1) oG;have k:i=lN c.BJ:=oG;subst k;refine gg [(42,fH (lN c.BJ)<|lN c.BJ)]<|loop (ι:=Nat) (λi=>i<=lN c.BM) (λi=>lN c.BM-i) (ARe J c ⟨x,r,o,t,y,p,z⟩) 4000 [] 0 (Bm _) ?_;intro i k f E;by_cases a:i<lN c.BM;have n:c.BM[i]? =sM c.BM[i]:=BS a;have l:=h5 _<|DR a;generalize c.BM[i]=s at n l;have v:=ARZ J c ⟨x,r,o,t,y,p,z⟩ s (u.up hle) l oG h6;obtain⟨b,d,arr,e,C,g,rfl,q2,q3,q4,q5⟩:=(m.up hle λ_ _ h=>h).cell ACZ n;have q3:g=En s:=q3;subst q3;exact gg [(56,tH i<|lN c.BM),(58,Br J ADD b d (lN c.BM) p i a),(59,D8 J AAg (d+i*9) (En s) rfl q2 q5)]<|call v<|gg [(67,sH i)]<|bk f [] (i+1) oG;have k:i=lN c.BM:=oG;subst k;exact gg [(56,fH (lN c.BM)<|lN c.BM)]<|dn [] ⟨(),J,rfl,hle,trivial⟩
def AEW{x}(h:x<=999):Kx [x]=Dm [x]:=by rw[Kx];rw[Ac<|Ph h]
def ARF(I c q b i)(x:Ke I c q)(h:RX c b)(Q:b.box<0):Fn 90 [.g<|MU c q,.g<|(En b).map .v,.v<|sV i] [] I (QJ I<|D7 c b i) nO:=by
 let⟨t,H,K,L,M,N,O,P⟩:=h;have o:c.im.Ax[b.fn]? =sM c.im.Ax[b.fn]:=BS t;let⟨s,j,arr,e,G,D,E,F,l,u,_,z,n⟩:=OR x.im.u o;have d:(c.im.Ax.getD b.fn Al).Ai=c.im.Ax[b.fn].Ai:=by rw[DK,o];rfl
 generalize c.im.Ax[b.fn]=f at n d;let⟨⟨R,S,T,U,C,V⟩,ba,bc,bl,ta,tc,tl⟩:=q;simp only at l;subst l;have k:D7 c b i=Jw i ⟨b.l,b.c⟩ {(⟨[],[],[]⟩:Ay)with AG:=[]++[⟨b.fn,0,0,b.AR,[BH b.n]++List.replicate (min f.Ai 16) (BH 0)⟩]} b.Ao:=by rw[D7];dsimp only;rw[AY oG,d];rfl
 rw[k];exact fo func90 λW B w m=>gg [(17,hF<|b.box≥0),(43,Br I M7 s j (lN c.im.Ax) C b.fn z),(45,ED I Ek rfl (j+b.fn*3+1) (iV f.Ai) u<|n 1 _ rfl)]<|ACg 284 (ADF I ⟨[],[],[]⟩ Yq b.fn f.Ai (BH b.n) b.AR ⟨Av.empty,Av.empty,Av.empty⟩ (by show 0<16;decide)<|by show 0<=1000000;decide) kR λp J hle A=>gG<|Cz (AEp J i ⟨b.l,b.c⟩ _ p b.Ao A) λa r g v=>gG<|dn [] ⟨a,r,rfl,hle.trans g,v⟩
def ARG(I)(hP:Pow I)(c q b y)(M:Ke I c q)(h:RX c b)(hb:0<=b.box)(aa:lN c.BJ<=900):Fn 90 [.g<|MU c q,.g<|(En b).map .v,.v<|sV y] [] I (QJ I<|D7 c b y) nO:=by
 let⟨L,U,V,W,X,Y,Z,h8⟩:=h;let⟨i,l,m,g,Ao,box,n⟩:=b;simp only at L U V W X Y Z h8 hb;obtain⟨x,rfl⟩:∃x:Nat,box=(x:Int):=⟨box.toNat,oG⟩;have E:x<=999:=oG;have P:c.im.Ax[i]? =sM c.im.Ax[i]:=BS L;let⟨S,z,arr,e,fr,ca,cc,cl,H,hI,_,hk,O⟩:=OR M.im.u P;have d:(c.im.Ax.getD i Al).Ai=c.im.Ax[i].Ai:=by rw[DK,P];rfl
 generalize c.im.Ax[i]=f at O d;have u:x<lN c.BJ:=oG;have D:c.BJ[x]? =sM c.BJ[x]:=BS u;have o:c.BJ.getD x Al=c.BJ[x]:=by rw[DK,D];rfl
 generalize c.BJ[x]=s at D o;let⟨R,k,G,e2,T,F,K,q2,q3,q4,q5⟩:=M.bx.cell AAo D;have q3:F=FT s:=q3;subst q3;let⟨⟨ka,kc,kl,ua,uc,ul⟩,ba,bc,bl,ta,tc,tl⟩:=q;simp only at H K;subst H;subst K;have A:D7 c ⟨i,l,m,g,Ao,(x:Int),n⟩ y=Jw y ⟨l,m⟩ {(⟨[],[],[]⟩:Ay)with AG:=[]++[⟨i,0,0,g,[BZ 3 [x] s.l]++List.replicate (min f.Ai 16) (BH 0)⟩]} Ao:=by rw[D7];dsimp only;rw[Ac oG,d,show((x:Int)).toNat=x by omega,o];rfl
 rw[A];have C:AJ (Kx [x])=Aa [x]:=by rw[AEW E];rfl
 have t:=AEx I hP x 1;rw[C]at t;refine fo func90 λρ ab w N=>gg [(17,hT<|(x:Int)≥0)]<|IG t [(1,204)]<|gg [(30,Br I Yy R k (lN c.BJ) bc x u),(32,D8 I Sf (k+x*3) [vS<|AJ s.l.1,vS<|AJ s.l.2] rfl q2 (λj v B=>q5 j v (by
  match j with
  |0=>exact B
  |1=>exact B
  |j+2=>simp at B))),(43,Br I M7 S z (lN c.im.Ax) uc i hk),(45,ED I Ek rfl (z+i*3+1) (iV f.Ai) hI<|O 1 _ rfl)] ?_
 exact ACg 436 (ADF I ⟨[],[],[]⟩ Yq i f.Ai (BZ 3 [x] s.l) g ⟨Av.empty,Av.empty,Av.empty⟩ (by show 0<16;decide)<|by show 0<=1000000;decide) kR λp J hle hp=>gG<|Cz (AEp J y ⟨l,m⟩ _ p Ao hp) λa Q r ha=>gG<|dn [] ⟨a,Q,rfl,hle.trans r,ha⟩
def ARE(I)(f:Pow I)(c q b a)(e:Ke I c q)(h:RX c b)(d:lN c.BJ<=900):Fn 90 [.g<|MU c q,.g<|(En b).map .v,.v<|sV a] [] I (QJ I<|D7 c b a) nO:=by by_cases g:0<=b.box;exact ARG I f c q b a e h g d;exact ARF I c q b a e h oG
def Jn(c:Dj)(i:Nat):Ob:={Db with kind:=3,l:=(c.BJ.getD i Al).l,v:=BH (c.BJ.getD i Al).v}
def Lo(c:Dj)(n:Nat):Az:=(List.range n).foldl (λs i=>Cy s [i]<|Jn c i) []
def Ox(c:Dj)(n:Nat):AA AL:=(List.range n).foldl (λl i=>CC l<|D7 c (c.BM.getD i Al) [lN c.BJ+i]) []
def AFi(c n):Lo c (n+1)=Cy (Lo c n) [n] (Jn c n):=by rw[Lo];rw[ABn,P7];rfl
def AN3(c n):Ox c (n+1)=CC (Ox c n) (D7 c (c.BM.getD n Al) [lN c.BJ+n]):=by rw[Ox];rw[ABn,P7];rfl
def AYj(c):EG c= {im:=c.im,AD:=0,AC:=Ox c<|lN c.BM,Ah:=Lo c<|lN c.BJ,Bj:=[],B5:=[]}:=rfl
def AFh(c):∀(n:Nat)(q:Nm)(o:Ob),Am (Lo c n) q=sM o->∃j,j<n/\q=[j]
 |0,q,o,h=>by cases h
 |n+1,q,o,h=>by
  rw[AFi]at h;cases e:Ew (Lo c n) [n] (Jn c n)with
  |false=>
   rw[OF e]at h;let⟨j,d,a⟩:=AFh c n q o h;exact⟨j,oG,a⟩
  |true=>
   rw[I3 e]at h;split at h;rename_i b;exact⟨n,oG,b⟩;let⟨j,d,a⟩:=AFh c n q o h;exact⟨j,oG,a⟩
def Ac3(c){n}(a:n<lN c.BJ)(f:n<=999)(k:∀b∈c.BJ,A4 b.l=b.l):Ew (Lo c n) [n] (Jn c n):=by
 have h:Am (Lo c n) [n]=nO:=by
  cases e:Am (Lo c n) [n]with
  |none=>rfl
  |some o=>
   let⟨j,l,d⟩:=AFh c n _ o e;have:n=j:=by simpa using d
   omega
 have g:A4 (Jn c n).l=(Jn c n).l:=by show A4 (c.BJ.getD n Al).l=(c.BJ.getD n Al).l;rw[DK,BS a];exact k _<|DR a
 have i:(Jn c n).kind=3:=rfl;rw[Ew];rw[Ph f,h,g,i];simp
def AN1(c):∀n,lN (Lo c n)<=n
 |0=>Ag _
 |n+1=>by rw[AFi];have:=UG (Lo c n) [n]<|Jn c n;have:=AN1 c n;omega
def ANd{l}(h:Fi l)(t):Fi (CC l t):=by
 rw[CC];cases e:Af l t.id with
 |none=>simp[X0,N7,Hq];exact AFU h e
 |some u=>simp[VS,ME];exact sorted_put h t
def AN2(c)(e:lN c.BJ<=8):∀n,n<=8->Fi (Ox c n)/\(∀x∈Ox c n,CB x.id)/\lN (Ox c n)<=n
 |0,_=>⟨List.Pairwise.nil,λx a=>(by cases a),Ag _⟩
 |n+1,h=>by let⟨b,d,f⟩:=AN2 c e n oG;rw[AN3];refine⟨ANd b _,λx a=> ?_,by have:=AJX (Ox c n)<|D7 c (c.BM.getD n Al) [lN c.BJ+n];omega⟩;rcases ALG a with rfl|a;exact Ph (show lN c.BJ+n<=999 by omega);exact d x a
def nw1(c:Dj)(i:Nat):Ap:={im:=c.im,AD:=0,AC:=[],Ah:=Lo c i,Bj:=[],B5:=[]}
def Q0(c:Dj)(i:Nat):Ap:={im:=c.im,AD:=0,AC:=Ox c i,Ah:=Lo c<|lN c.BJ,Bj:=[],B5:=[]}
def AOB{I}:D6 I (FA []) #[]:=⟨⟨[],List.Perm.nil,.nil⟩,N9,nA⟩
def AcK{I}:C9 I [] #[] 0:=⟨⟨[],List.Perm.nil,.nil⟩,N9,nA,.nil 0⟩
def AYW{I}:El I [] [] #[] 0:=⟨.nil,nA,N9,N9,nA,nA,λn l=>⟨(λ⟨r,h,_⟩=>by cases h),(λ⟨o,h,_⟩=>by cases h)⟩,.nil 0,nA,nA⟩
def AAk{I a e}:C8 I a e [] ⟨nO,0,0⟩:=⟨sP,λv h=>(by cases h),.inl ⟨rfl,rfl,rfl⟩⟩
def m0K(a:Dw):CH:=⟨a,#[],0,⟨nO,0,0⟩,⟨nO,0,0⟩,⟨nO,0,0⟩,⟨#[],0,#[],0⟩⟩
def AWX{I c b}(a:EB I)(d:Pow I)(e:FJ I c.im b):CZ I [] (nw1 c 0) (m0K b):=
 ⟨a,d,e,AOB,AcK,AYW,AAk,AAk,AAk,N9⟩
def ZZ(a:Nat)(m:CH)(c:A6)(b:Nat):AA AK:=[.cells (Fa c m.ip++[.v<|nV b,.m<|a+1,m.Bu.sv,.p (a+2) 0,m.DD.sv,m.lk.sv]) 107,.Aq<|.map m.es m.n,.cells [.m<|a+3,.m<|a+4] 178,.Aq<|.map m.sm.es m.sm.n,.Aq<|.map m.sm.ns m.sm.m]
def APi(I:AB)(k:Ap):zP:=λa h=>∃m L J,h= {r:=.t [.p (a+0) 0,.v<|.int iK 0,.v<|.int iK 0],nb:=ZZ a m k.im k.AD,J:=J}/\Cb I [] J (CM L m)/\CZ J L k m
structure NX where
 i:Nat
 J:AB
 L:AA Rw
 m:CH
def AY8(c:Dj)(q:Jl)(x:NX):Hd where
 Cd:=[(1,.p 6 0),(2,.p 1 0),(29,.v<|.slice q.ba (lN c.BJ) q.bc),(30,.v<|iV<|lN c.BJ),(31,.v<|iV x.i)]
 Cc:=[(1,.cells (x.m.row c.im 0) 107),(2,.Aq<|.map x.m.es x.m.n),(3,.cells [.m 4,.m 5] 178),(4,.Aq<|.map x.m.sm.es x.m.sm.n),(5,.Aq<|.map x.m.sm.ns x.m.sm.m),(6,.cells (MU c q) 36)]
 J:=x.J
def AY9(c:Dj)(q:Jl)(x:NX):Hd where
 Cd:=[(1,.p 6 0),(2,.p 1 0),(56,.v<|.slice q.ta (lN c.BM) q.tc),(57,.v<|iV<|lN c.BM),(58,.v<|iV x.i)]
 Cc:=[(1,.cells (x.m.row c.im 0) 107),(2,.Aq<|.map x.m.es x.m.n),(3,.cells [.m 4,.m 5] 178),(4,.Aq<|.map x.m.sm.es x.m.sm.n),(5,.Aq<|.map x.m.sm.ns x.m.sm.m),(6,.cells (MU c q) 36)]
 J:=x.J
structure NP(I:AB)(n:Nat)(f:Nat->Ap)(x:NX):Prop where
 i:x.i<=n
 st:Cb I [] x.J (CM x.L x.m)
 ZX:CZ x.J x.L (f x.i) x.m
def AYn(I)(Z:EB I)(hP:Pow I)(c q)(S:Ke I c q)(h:RY c)(hV:Fn 135 [.g (Fa c.im q.ip)] [] I (ACB I) nO):Fn 33 [.g (MU c q)] [] I (APi I (EG c)) nO:=by
 have ac:=AWM I c q S h hV;let⟨h1,⟨h2,h3⟩,h4,h5,h6⟩:=h;let⟨U,X,R,Y,ta,V,tl⟩:=q;refine fo Tryz.func33 λρ ah w ag=>gG<|Cz ac λ_ J0 j _=>gG<|A0 (AYk J0) [] λh' K=> ?_;subst K;refine gG<|Om 220 (b:=.Ey [] []) (b':=.Aq (.map #[] 0)) kR (λρ=>rfl) nA rfl<|Om 228 (b:=.Ey [] []) (b':=.Aq (.map #[] 0)) kR (λρ=>rfl) nA rfl<|Om 229 (b:=.Ey [] []) (b':=.Aq (.map #[] 0)) kR (λρ=>rfl) nA rfl ?_;have ab:=S.up j;refine loop (ι:=NX) (NP I (lN c.BJ) (nw1 c)) (λx=>lN c.BJ-x.i) (AY8 c ⟨U,X,R,Y,ta,V,tl⟩) 3000 [(1,244),(2,220),(3,230),(4,228),(5,229),(6,100)] ⟨0,J0,[],m0K U⟩ ⟨Nat.zero_le _,.of j,AWX (Z.up j) (hP.up j) ab.im⟩ ?_;rintro⟨i,J,L,m⟩ ⟨p1,p2,p3⟩ again T;simp only at p1 p2 p3;have hle:=p2.le;have o:=S.Bf hle;by_cases f:i<lN c.BJ;have B:c.BJ[i]? =sM c.BJ[i]:=List.getElem?_eq_getElem f;have r:c.BJ.getD i default=c.BJ[i]:=by rw[List.getD_eq_getElem?_getD,B];rfl
 have M:=h4 _ (List.getElem_mem f);have z:=Ac3 c f oG h4;have G:Jn c i= {Db with kind:=3,l:=c.BJ[i].l,v:=BH c.BJ[i].v}:=by unfold Jn;rw[r]
 rw[G]at z;have g:=AFi c i;rw[G]at g;generalize c.BJ[i]=s at B M z g;let⟨b,k,arr,e,fr,C,D,q2,q3,q4,q5⟩:=o.bx.cell AAo B;have q3:C=FT s:=q3;subst q3;simp only at D;subst D;have u:AJ (Kx [i])=Aa [i]:=by rw[AEW oG];rfl
 have n:=AEx J p3.pow i 1;rw[u]at n;have p:=YO J p3.pow (Lo c i) m.sm.es m.sm.ns m.sm.n m.sm.m L [i] {Db with kind:=3,l:=s.l,v:=BH s.v} HY z (JV M) (by show 0<=1000000;decide) NY p3.B0 p3.Dl (by have:=AN1 c i;omega);rw[<-g]at p;refine gg [(32,tH i (lN c.BJ)),(34,Br J Yy b k (lN c.BJ) R i f),(35,D8 J AAj (k+i*3) (FT s) rfl q2 q5)]<|IG n [(1,3064)]<|gG<|A0 p RB λy K=> ?_;obtain⟨E,Q,n',m',L',W,d,O,N,t,A,rfl⟩:=K;refine gg [(54,sH i)] ?_;let⟨k1,k2⟩:=p3.XT (k':=nw1 c (i+1)) (m':={m with sm:=⟨E,n',Q,m'⟩}) ⟨d,t,A⟩ ⟨rfl,rfl⟩ ⟨rfl,rfl⟩ ⟨rfl,rfl⟩ ⟨rfl,rfl⟩ (D6.Bf d p3.tm) O N;exact bk again [] ⟨i+1,W,L',{m with sm:=⟨E,n',Q,m'⟩}⟩ ⟨by show i+1<=_;omega,p2.trans k2,k1⟩;have hi:i=lN c.BJ:=oG;subst hi;refine gg [(32,Go.Proofs.YtomehhepbeiinaaGreatDoor.fH (lN c.BJ) (lN c.BJ))] ?_;have k0:CZ J L (Q0 c 0) m:=p3;refine loop (ι:=NX) (NP I (lN c.BM) (Q0 c)) (λx=>lN c.BM-x.i) (AY9 c ⟨U,X,R,Y,ta,V,tl⟩) 6000 [] ⟨0,J,L,m⟩ ⟨Nat.zero_le _,p2,k0⟩ ?_;rintro⟨i,J,L,m⟩ ⟨p1,p2,p3⟩ again T;simp only at p1 p2 p3;have hle:=p2.le;have o:=S.Bf hle;by_cases f:i<lN c.BM;have B:c.BM[i]? =sM c.BM[i]:=List.getElem?_eq_getElem f;have r:c.BM.getD i default=c.BM[i]:=by rw[List.getD_eq_getElem?_getD,B];rfl
 have F:=h5 _ (List.getElem_mem f);have g:=AN3 c i;rw[r]at g;generalize c.BM[i]=s at B F g;let⟨b,k,arr,e,fr,C,D,q2,q3,q4,q5⟩:=o.th.cell ACZ B;have q3:C=En s:=q3;subst q3;simp only at D;subst D;have u:AJ (Kx [lN c.BJ+i])=Aa [lN c.BJ+i]:=by rw[AEW oG];rfl
 have n:=AEx J p3.pow (lN c.BJ+i) 1;rw[u]at n;have aa:=ARE J p3.pow c ⟨U,X,R,Y,sM ⟨b,k,nO⟩,V,tl⟩ s [lN c.BJ+i] o F oG;let⟨t1,t2,t3⟩:=AN2 c h1 i oG;refine gg [(59,tH i (lN c.BM)),(61,Br J ADD b k (lN c.BM) V i f),(62,D8 J AAg (k+i*9) (En s) rfl q2 q5),(68,hW ((lN c.BJ:Int)+(i:Int)) ((lN c.BJ+i:Nat):Int))]<|IG n [(1,6096)]<|gG<|Cz aa λa W d ha=> ?_;have H:=AKK W L (Q0 c i) m (D7 c s [lN c.BJ+i]) a ⟨p3.up d,ha,Ph (show lN c.BJ+i<=999 by omega),t2,t1,by show(Ox c i).length<=900000;omega⟩;have ad:({Q0 c i with AC:=CC (Q0 c i).AC (D7 c s [lN c.BJ+i])}:Ap)=Q0 c (i+1):=by unfold Q0;rw[g]
 rw[ad]at H;refine gG<|A0 H [] λy K=> ?_;obtain⟨m3,L3,J3,rfl,af,ae⟩:=K;refine gg [(79,sH i)] ?_;exact bk again [] ⟨i+1,J3,L3,m3⟩ ⟨by show i+1<=_;omega,(p2.trans (.of d)).trans af,ae⟩;have hi:i=lN c.BM:=oG;subst hi;refine gg [(59,Go.Proofs.YtomehhepbeiinaaGreatDoor.fH (lN c.BM) (lN c.BM))] ?_;have e:Q0 c (lN c.BM)=EG c:=(AYj c).symm;rw[e]at p3;exact dn [1,2,3,4,5] ⟨m,L,J,rfl,p2,p3⟩
end
section
open Go.AX Go.Maps Go.RowKit Go.Shelf Go.Sort Lz
def AeE{a:Nat}(h:a<=65535):(Lit.int .i64 (a:Int)).wf:=by simp[Lit.wf,IntKind.min,IntKind.max,IntKind.signed,IntKind.bits,Bool.and_eq_true,decide_eq_true_eq,if_true];omega
def Hu.owns{S:AA<|Nat×Nat}{z:Ae Ar}{n:Nat}{c:Ae Ar}{y:Nat}(h:Hu S z n c y)(J:lN S<=256){w:AN}{b:Nat}(E:w.heap[b]? =some (.map c y)):
 ∃o:DataW Nat,w.ownsMap prog 3 (plainElem prog 4) b c.size o/\Maps.size o=c.size/\∀x,x∈intKeys o->∃e∈c.toList,e.key=.int .i64 x:=by
 have AOO:prog.underlying 4=some .bool:=kR;have i:∀x∈c.toList,∃a:Nat,x.key=.int .i64 (a:Int)/\Go.WideElems.rd prog 3 (plainElem (H:=Nat) prog 4) x=some (.int .i64 (a:Int),.lit<|.bool true):=λx l=>by
  let⟨a,f,t,r,d,B⟩:=h.opn x l;let⟨A,s,G,g,_⟩:=h.CG r d;have C:a=A:=by have:=(Value.int.inj<|g.symm.trans<|B.trans f).2;omega
  have D:=(Ci.1 G).1;refine⟨a,f,?_⟩;let⟨k,v,I⟩:=x;simp only at f t;subst f t;exact Go.WideElems.rd_mk (keyOf_int_mk Ek<|AeE oG)<|plainElem_bool AOO true
 have H:c.size<=256:=by
  have F:=h.so.2.2;have j:∀k∈c.toList.map (·.key),k∈z.toList.map (·.key):=λk g=>by obtain⟨e,m,rfl⟩:=BI.1 g;let⟨_,_,_,r,d,q⟩:=h.opn e m;exact BI.2 ⟨r,d,q⟩
  have f:=Wq F j;have t:=h.size;simp[DG,Lt]at f;omega
 refine⟨.map<|(c.toList.map<|Go.WideElems.rg prog 3<|plainElem prog 4).foldr DataW.insert [],⟨c,y,E,⟨by rw[maxLen];omega,h.so,λx l=> ?_⟩,Ag _,rfl⟩,?_,?_⟩;let⟨a,_,q⟩:=i x l;exact⟨_,q⟩;rw[Maps.size_eq,length_read];intro x l;obtain⟨p,u,rfl⟩:=BI.1 l;have u:=(Go.WideShapes.sorted_perm _).mem_iff.1 u;obtain⟨e,m,rfl⟩:=BI.1 u;let⟨a,g,q⟩:=i e m;refine⟨e,m,?_⟩;rwa[Go.WideElems.rg_of q]
def APd(I:AB)(b:Ae Ar)(c:Nat):zP:=λa h=>h= {r:=.fn (.func 344) [] [.p a 0],AV:=[(3,.Aq<|.map b c)],nb:=[.cells [.m 3] 378],J:=I}
def AWc(I a c):Fn 272 [.m 3] [(3,.Aq<|.map a c)] I (APd I a c) nO:=fo func272 λe d w b=>gG<|dn [100] rfl
def APs(I:AB)(d:Ae Ar):zP:=λ_ h=>∃(b m c:Nat)(a:Ae AF)(J:AB)(x:Int),I.le J/\J.Ak=I.Ak/\J b=sM (.cells a 3 (0,0))/\0<m/\a[0]? =sM (nV x)/\(∃e∈d.toList,e.key=.int iK x)/\h= {r:=.v<|.slice (aP b) m c,J:=J}
def Abv(I:AB){S:AA (Nat×Nat)}{es:Ae Ar}{n:Nat}{u:Ae Ar}{Y:Nat}(h:Hu S es n u Y)(hS:lN S<=256)(af:0<u.size):
 Fn 271 [.fn (.func 344) [] [.p 9 0]] [(9,.cells [.m 3] 378),(3,.Aq (.map u Y))] I (APs I u) nO:=by
 refine⟨FC.of ?_ ?_,JL func271 kR kR⟩;rintro X h ⟨b,m,c,N,J,x,O,_,_,_,_,_,rfl⟩;exact⟨⟨nA,nA,nA,sP,sP⟩,O.EA⟩;intro ρ X w ab hN Q ae aa;have P:=hN (9,.cells [.m 3] 378) sP _ rfl;have h3:=hN (3,.Aq (.map u Y)) sP _ rfl;simp[BB,AO]at P h3;let⟨Z,ho,D,F⟩:=h.owns hS h3;have ad:u.size<=256:=by
  have:=ho;have hn:=h.so.2.2;have K:∀k∈u.toList.map (·.key),k∈es.toList.map (·.key):=λk F=>by obtain⟨e,he,rfl⟩:=BI.1 F;let⟨_,_,_,e',U,q⟩:=h.opn e he;exact BI.2 ⟨e',U,q⟩
  have O:=Wq hn K;have h2:=h.size;simp[DG,Lt]at O;omega
 refine(AeX (ρ 9) (ρ 3) u.size Z _ w (Eg P) (by simp[World.cell?,P]) ho (by rw[D];rw[maxLen];omega) (by rw[D];omega)).mono ?_;rintro e w' ⟨v,B,rfl,hp,H,ac,A⟩;have hlen:lN B=u.size:=by
  rw[hp.length_eq,<-D];cases Z with
  |map l=>simp[intKeys,Maps.size]
  |_=>simp[intKeys,Maps.size]
 let⟨hl,hr⟩:=H;rcases hr with⟨_,hz⟩|⟨g,M,p,rfl,r,hg,r1,r2,r3,r4⟩;omega;have s:=PU Q r;let J:AB:=⟨λx=>match Nat.beq x g with|true=>sM (.cells p 3 (0,0))|false=>I.at_ x,I.Ak⟩;have E:J g=sM (.cells p 3 (0,0)):=by show(match Nat.beq g g with|true=>_|false=>_)=_;simp
 have z:∀x,x≠g->J x=I x:=λx f=>by show(match Nat.beq x g with|true=>_|false=>_)=_;rw[OH f]
 have hle:I.le J:=⟨λx o f=>by
  by_cases e:x=g;rw[e,s.1]at f;cases f;rwa[z x e],λx o f=>⟨f.Ak,by
  by_cases e:x=g;have:=f.Ak;rw[e,s.2]at this;cases this;rw[z x e];exact f.at_⟩⟩
 have W:=(List.mergeSort_perm B (λx y=>decide (x<=y))).trans hp;have G:lN (B.mergeSort (λx y=>decide (x<=y)))=lN B:=(List.mergeSort_perm B _).length_eq;obtain⟨x,l,f⟩:∃x l,B.mergeSort (λx y=>decide (x<=y))=x::l:=by
  cases q:B.mergeSort (λx y=>decide (x<=y))with
  |nil=>rw[q]at G;simp at G;omega
  |cons x l=>exact⟨x,l,rfl⟩
 have L:=F x (W.mem_iff.1 (by rw[f];simp));have T:p[0]? =sM (nV x):=by
  rw[f]at r4;have t:(p.toList.take (lN B*1))[0]? =sM (encZ x):=by rw[r4];rfl
  rw[GO]at t;split at t;simpa using t;cases t
 refine⟨_,λ_=>0,⟨g,lN B,M,p,J,x,hle,rfl,E,oG,T,L,rfl⟩,⟨A.os,A.tape,A.output,A.size,λb R _ _=>A.block b R,nA,(λj b V=>by simp at V),(λi j hi=>by simp at hi),⟨λd o a=> ?_,λd o a=> ?_⟩,λd o a=> ?_,λd o a=> ?_⟩,rfl⟩;by_cases e:d=g;subst e;have a:J d=sM o:=a;rw[E]at a;cases a;exact hg;have a:J d=sM o:=a;rw[z d e]at a;have t:=Q.1 d o a;rwa[A.block d (Eg t)];have t:=Q.2 d o a;rwa[A.block d (Eg t)];by_cases e:d=g;right;exact⟨by rwa[e],λj V=>by simp at V⟩;left;have a:J d=sM o:=a;rw[z d e]at a;exact a;left;have a:I.Ak d=sM o:=a;rw[a];rfl
end
section
open Go.AX Lz
theorem AdM(u v w):CallsD prog 268 #[u,v] .returning w λe c d=>e=.returned (.tuple #[])/\c=.returning/\d=w:=by refine callsD_of_wpS func268 rfl λa g b=> ?_;apply wpS_seq;apply wpS_region;simp[wpOpsS,go_sem,recoverD,b,ntmps268,Exit.thenS];apply wpS_seq;apply wpS_region;simp[wpOpsS,go_sem,Exit.thenS];refine wpS_cond (t:=fF) (by simp[Act.eval,Array.replicate]) ?_;simp[N7,Hq];refine wpS_of_wp (wp_skip ?_);cases a;simp_all[bodyPostS,results,results268]
def Zo{t u l c a d n I i}(s:prog.underlying t=sM (.map u l))(q:i= {callee:=.builtin .len,args:=#[.tmp a],argTypes:=#[t]}):
 ∀b h (o:Bw),o.op=.call i->(∀p∈[(a,SV.m c)],h p.1=p.2)->LS prog o h b [(c,.Aq<|.map d n)] I (.v<|iV d.size) nO:=by
 subst q;intro b h o k g;have m:=Ds g (s:=a) (x:=.m c) sP;intro ρ v w r hN _ _ _;refine⟨w,?_,Bl.refl w⟩;have j:=r (.tmp a) (by simp[k,Op.operands,Go.Call.operands]);simp[ev,m,AO]at j;have e:=hN (c,.Aq<|.map d n) sP _ rfl;simp[execOp,k,resolve,invoke,builtin,Builtin.len_,j,run_underlying s,MapKept.run_getObj_map e,Result.andThen,AO,goInt]
def AVQ{o G v t P l n m k S K c p I H}(E:o.op=.call H)(W:H= {callee:=.builtin .delete,args:=#[m,k],argTypes:=#[t,P]})(hm:ev G m=.m l)(hk:ev G k=.v S)(d:(l,.Aq<|.map K n)∈p)
 (u:∀(w:AN) r ty,w.heap[r]? =sM (.map K n)->(Builtin.delete_ #[t,P] ty #[.map<|sM r,S]).run prog w=.ok (.tuple #[]) {w with heap:=w.heap.setIfInBounds r<|.map c n}):HS prog o G v p I (λh=>h= {r:=.t [],AV:=[(l,.Aq<|.map c n)],J:=I}) nO:=by
 subst W;refine⟨?_⟩;intro ρ a w L Y V C M X aa next Q hnext _;have z:=Y _ d _ rfl;simp only at z;have x:=L m (by simp[E,Op.operands,Go.Call.operands]);have y:=L k (by simp[E,Op.operands,Go.Call.operands]);rw[hm]at x;rw[hk]at y;simp only[AO]at x y;have hex:(execOp a.eval o).run prog w=.ok (.value<|.tuple #[]) {w with heap:=w.heap.setIfInBounds (ρ l)<|.map c n}:=by simp[execOp,E,resolve,invoke,builtin,x,y,u w (ρ l) o.type z,Result.andThen]
 obtain⟨k1,N⟩:=MapKept.heap_set (o':=.map c n) z;rw[Oper.wp];rw[hex,Oper.upon_value];refine hnext rfl {r:=.t [],AV:=[(l,.Aq<|.map c n)],J:=I} _ (λ_=>0) rfl ⟨rfl,rfl,rfl,sP,λb g D _=>N b λe=>(D (l,.Aq<|.map c n) sP) ?_,?_,λj b hj=>by simp at hj,λi j Z=>by simp at Z,?_,λb T g=>.inl g,λb T g=>IM g⟩;exact e.symm;intro kb q T s;simp at q;subst q;have U:Ab.Bh {r:=.t [],AV:=[(l,AK.Aq<|.map c n)],J:=I} ρ v (λ_=>0)=ρ:=by funext n;exact F7 (by rw[CX];split<;>rfl)
 rw[U]at s⊢;cases s;exact k1;exact V.A2 (C _ d rfl) λb _ B=>N b λe=>B e.symm
variable{ds:List Deferred}{F:FuncId}{O:Func}{n:Nat}{I:AB}{w:World}{ρ:Nat->Nat}{A:List Nat}{R:Ec}{f:Bv}
def AYK{t kt km m0 m k kv es es' I' j}(q:(Mo f).op=.call j)(o:j= {callee:=.builtin .delete,args:=#[m,k],argTypes:=#[t,kt]})(p:ev f.σ.tm m=.m km)(a:ev f.σ.tm k=.v kv)
 (e:∀(w:AN) r ty,w.heap[r]? =sM (.map es m0)->(Builtin.delete_ #[t,kt] ty #[.map<|sM r,kv]).run prog w=.ok (.tuple #[]) {w with heap:=w.heap.setIfInBounds r<|.map es' m0})
 (c:OB f n [(km,.Aq<|.map es m0)] I') (hnext:AtD ds F O n I w ρ A R<|f.act {r:=.t [],AV:=[(km,.Aq<|.map es' m0)],J:=I'}):AtD ds F O n I w ρ A R f:=by
 refine act (need:=[(km,.Aq<|.map es m0)]) (hobs:=c) (AVQ (I:=I') q o p a (A9.2 rfl) e) ?_ ?_;rintro h rfl;refine{r:=nA,u:=λs i=> ?_,n:=nA,l:=by simp,le:=AB.Hj _,d:=by simp};rw[A9.1 i];exact⟨A9.2 rfl,λb g=>by rw[(IC<|A9.1 g).2];rfl,nA⟩;rintro h rfl;exact hnext
def ANB{t g m i c d n j kv old}(l:prog.underlying t=sM (.map g i))(a:prog.underlying g=sM c)(b:MapKept.IsKey c kv)(k:Instr.findNow c kv d.toList 0=sM (sM (j,old)))(w r)(h:w.heap[r]? =sM (.map d n)):
 (Builtin.delete_ #[t,g] m #[.map<|sM r,kv]).run prog w=.ok (.tuple #[]) {w with heap:=w.heap.setIfInBounds r<|.map (d.eraseIdxIfInBounds j) n}:=by
 have e:=MapKept.run_findKey (P:=prog) (w:=w) a k;simp[Builtin.delete_,run_underlying l,MapKept.run_getObj_map h,MapKept.run_checkKey a b,e,Result.andThen,MapKept.run_setObj_map _ h]
def Hu.erase{S g}{n:Nat}{b}{o:Nat}(h:Hu S g n b o){a:Nat}(i:∃e∈b.toList,e.key=.int iK (a:Int)):
 ∃j old,Instr.findNow (.int iK) (iV a) b.toList 0=sM (sM (j,old))/\Hu S g n (b.eraseIdxIfInBounds j) o/\wμ S g (b.eraseIdxIfInBounds j)<wμ S g b:=by
 rcases MapKept.findNow_spec (d:=.int iK) (k:=.int iK (a:Int)) rfl b.toList 0 h.AKH with q|⟨j,e,l,p,t⟩;let⟨e,r,s⟩:=i;exact absurd s<|q.2 e r;rw[FE]at l;have c:j<b.size:=by have:=(Ci.1 p).1;simpa using this
 have d:(b.eraseIdxIfInBounds j).toList=b.toList.eraseIdx j:=by unfold Array.eraseIdxIfInBounds;rw[RV c];simp
 have k:(b.eraseIdxIfInBounds j).size=b.size-1:=by unfold Array.eraseIdxIfInBounds;rw[RV c];simp
 refine⟨j,e.val,l,⟨h.st,MapKept.stamped_erase h.so j,h.CG,λx m=> ?_⟩,?_⟩;rw[d]at m;exact h.opn x<|(ABX _ _).subset m;unfold wμ;rw[k];omega
def TU.up{I J c d f a b cl}(h:TU I c d f a b cl)(hle:I.le J):TU J c d f a b cl:=
 ⟨h.tab.up hle,h.img.up hle,h.cs,h.fs,h.fa,h.code.up hle λ_ _ h=>h,h.len,h.a,h.v⟩
def AB9(I:AB):zP:=λa h=>∃(b:Ae Ar)(n:Nat)(J:AB),I.le J/\h= {r:=.t [.m a,.g [.v<|.int iK 0,.v<|.int iK 0]],nb:=[.Aq<|.map b n],J:=J}
def trB(e:A6)(g:Dw)(f:Lz.Ev)(a:AU Au)(b:Nat)(d:Ae Ar)(n:Nat)(c:Ae Ar)(h:Nat):AA (Nat×AK):=VB e g f a b d n c h++[(4,.cells [.v<|.map nO] 332),(5,.cells [.v<|.int iK 0,.v<|.int iK 0] 334)]
def AdJ(I:AB)(im:A6)(ip:Dw)(f:Lz.Ev)(ca:AU Au)(cc:Nat)(i:Nat):Hd where
 Cd:=[(4,.p 4 0),(5,.p 5 0),(6,.p 1 0),(22,.v<|iV<|lN f.code),(23,.v<|iV i)]
 Cc:=trB im ip f ca cc #[] 0 #[] 0
 J:=I
def AdK(im:A6)(ip:Dw)(f:Lz.Ev)(ca:AU Au)(cc:Nat)(q:Ae Ar×Nat×Ae Ar×Nat×AB):Hd where
 Cd:=[(4,.p 4 0),(5,.p 5 0),(6,.p 1 0)]
 Cc:=trB im ip f ca cc q.1 q.2.1 q.2.2.1 q.2.2.2.1
 J:=q.2.2.2.2
def Ad7(S):Hu S #[] 0 #[] 0:=⟨⟨sP,sP,sP⟩,⟨sP,sP,sP⟩,sP,sP⟩
def AdL(I)(ad:EB I)(d O)(D:FJ I d O)(af:lN d.DN<=64)(aj:lN d.Ax<=16)(ah:∀g∈d.Ax,g.args<=16)(i f)(p:d.Ax[i]? =sM f)(F:lN f.code<=256)(ha:f.args<=16)(hv:f.args+f.Ai<=16)(S)(M:Ng d f S):
 Fn 188 [.g<|Fa d O,.v<|iV i] [] I (AB9 I) nO:=by
 have o:i<lN d.Ax:=(Ci.1 p).1;have hS:lN S<=256:=by rwa[M.len]
 let⟨fb,b,ax,fe,ay,az,G,q2,q3,q4,q5⟩:=D.u.cell (WI I) p;obtain⟨s,t,cl,rfl,y⟩:=q3;have C:TU I d O f s t cl:=⟨ad,D,af,aj,ah,y,F,ha,hv⟩;let⟨P,Q,R,ua,L,U⟩:=O;simp only at G;subst G;refine fo func188 λV h w E=>go func188 [] 7 kR<|ASV func188 9 268 4 5 #[] kR kR kR λu v=> ?_;have am:∀(h:Nat)(tmps:Ae AF)(A:AN)(x:AF),(results f188 tmps).run prog A=.ok x A->Rf prog I V h w [] (AB9 I) nO (.returned x) A->Leaves prog f188 tmps (Rf prog I V h w [] (AB9 I) nO) [{target:=.fn (.func 268) #[u,v],args:=#[]}] .returning A:=λh tmps A x h1 h2=>by refine leaves_cons (f:=268) (args:=#[u,v]) sP ?_ ?_;have:=JL func268 kR kR #[u,v] A;simpa[invoke]using this;refine(AdM u v A).mono ?_;rintro e u' a0 ⟨rfl,rfl,rfl⟩;exact⟨x,h1,h2⟩
 refine gg [(14,Br I M7 fb b (lN d.Ax) L i o),(15,D8 I AM1 (b+i*3) (ZC f s t) rfl q2 q5)]<|Om 172 (b:=.Ey [] []) (b':=.Aq<|.map #[] 0) kR (λV=>rfl) nA rfl<|Om 180 (b:=.Ey [] []) (b':=.Aq<|.map #[] 0) kR (λV=>rfl) nA rfl<|loop (ι:=Nat) (λi=>i<=lN f.code) (λi=>lN f.code-i) (AdJ I d ⟨P,Q,R,sM ⟨fb,b,nO⟩,L,U⟩ f s t) 1000 [(1,196),(2,172),(3,180),(4,108),(5,116)] 0 (Bm _) ?_;intro i D again T;by_cases o:i<lN f.code;have p:f.code[i]? =sM f.code[i]:=BS o;let⟨r1,r2⟩:=M.op _<|DR o;refine gg [(24,tH i<|lN f.code)]<|A0 (Adt I d _ f s t cl C #[] 0 #[] 0 i _ p r1 r2) [] ?_;rintro _ rfl;exact gg [(28,sH i)]<|bk again [] (i+1) oG;have D:i=lN f.code:=oG;subst D;refine gg [(24,fH (lN f.code)<|lN f.code)]<|A0 (Py I d ⟨P,Q,R,sM ⟨fb,b,nO⟩,L,U⟩ f s t S #[] 0 #[] 0 (Ad7 S) 0 0 (0,0) M.hd) [] ?_;rintro _ ⟨aa,n1,X,av,ao,_,rfl⟩;refine gG<|loop (ι:=Ae Ar×Nat×Ae Ar×Nat×AB) (λq=>Hu S q.1 q.2.1 q.2.2.1 q.2.2.2.1/\I.le q.2.2.2.2) (λq=>wμ S q.1 q.2.2.1) (AdK d ⟨P,Q,R,sM ⟨fb,b,nO⟩,L,U⟩ f s t) 3000 [] (aa,n1,X,av,I) ⟨ao,AB.le_refl _⟩ ?_;rintro⟨Z,n,k,H,J⟩ ⟨N,hle⟩ l T2;simp only at N hle;by_cases h0:k.size=0;exact gg [(33,.BZ (.call {callee:=.builtin .len,args:=#[.tmp 32],argTypes:=#[378]}) [(32,.m 3)] [(3,.Aq<|.map k H)] J (.v<|iV k.size)<|Zo AA8 rfl),(34,hF<|(k.size:Int)>0)]<|doneD func188 E [2] (h:={r:=.t [.m h,.g [.v<|.int iK 0,.v<|.int iK 0]],nb:=[.Aq<|.map Z n],J:=J}) kR ⟨Z,n,J,hle,rfl⟩<|am h
 refine gg [(33,.BZ (.call {callee:=.builtin .len,args:=#[.tmp 32],argTypes:=#[378]}) [(32,.m 3)] [(3,.Aq<|.map k H)] J (.v<|iV k.size)<|Zo AA8 rfl),(34,hT<|(k.size:Int)>0)]<|A0 (AWc J k H) [] ?_;rintro _ rfl;refine gG<|A0 (Abv J N hS oG) [(9,3048)] ?_;rintro _ ⟨sb,m,c,W,K,x,B,_,ac,hm,ae,ak,rfl⟩;let⟨e,he,hk⟩:=ak;let⟨a,z,_,e',ag,al⟩:=N.opn e he;have ar:x=(a:Int):=(Value.int.inj<|hk.symm.trans z).2;subst ar;let⟨j,old,ai,ap,au⟩:=N.erase ⟨e,he,z⟩;refine gg [(39,Br K Yx sb 0 m c 0 hm),(40,ED K Ek rfl (0+0*1) (iV a) ac ae)]<|AYK (t:=378) (kt:=3) (km:=3) (m0:=H) (m:=.tmp 42) (k:=.tmp 43) (kv:=.int iK (a:Int)) (es:=k) (es':=k.eraseIdxIfInBounds j) (I':=K) kR rfl kR kR (λw r ty hb=>ANB (kv:=.int iK (a:Int)) AA8 Ek rfl ai w r hb) kR<|gG<|A0 (AdA K d ⟨P,Q,R,sM ⟨fb,b,nO⟩,L,U⟩ f s t cl (C.up<|hle.trans B) S M Z n (k.eraseIdxIfInBounds j) H ap a ⟨e',ag,al.trans z⟩) [] ?_;rintro _ ⟨ab,n3,Y,aw,aq,an,rfl⟩;exact gG<|bk l [] (ab,n3,Y,aw,K) ⟨aq,hle.trans B⟩ (hm:=(Nat.lt_of_le_of_lt an au))
def Adn(im:A6)(ip:Dw)(q:Nat×AB):Hd where
 Cd:=[(1,.p 1 0),(16,.v<|iV<|lN im.Ax),(17,.v<|iV q.1)]
 Cc:=[(1,.cells (Fa im ip) 32)]
 J:=q.2
def Ado(I)(b:EB I)(v:Pow I)(a d)(e:FJ I a d)(h:Ra a)(k:∀f∈a.Ax,∃S,Ng a f S):Fn 135 [.g<|Fa a d] [] I (ACB I) nO:=by let⟨h1,⟨C,u⟩,h4,h5⟩:=h;refine fo func135 λD A w o=>gG<|call (AJv I b v a d e h)<|gG<|loop (ι:=Nat×AB) (λq=>q.1<=lN a.Ax/\I.le q.2) (λq=>lN a.Ax-q.1) (Adn a d) 1000 [(1,100)] (0,I) ⟨Bm _,AB.le_refl _⟩ ?_;rintro⟨i,J⟩ ⟨l,hle⟩ again T;simp only at l hle;by_cases c:i<lN a.Ax;have z:a.Ax[i]? =sM a.Ax[i]:=BS c;have p:=DR c;let⟨S,x⟩:=k _ p;let⟨r,s,t,_⟩:=h5 _ p;refine gg [(18,tH i<|lN a.Ax)]<|A0 (AdL J (b.up hle) a d (e.up hle) h1 u (λg y=>(h5 g y).a) i _ z t.2 r s S x) [] ?_;rintro _ ⟨B,n,K,j,rfl⟩;refine gg [(34,sH i)] ?_;exact bk again [] (i+1,K) ⟨by show i+1<=_;omega,hle.trans j⟩;have e:i=lN a.Ax:=oG;subst e;exact gg [(18,fH (lN a.Ax)<|lN a.Ax)]<|dn [] ⟨(),J,rfl,hle,trivial⟩
def AXp(I:AB)(x y:Operand)(j:AA (Nat×SV))(a b:Ce)(q:x=.const (vS a)\/∃t,x=.tmp t/\(t,SV.v (vS a))∈j)(r:y=.const (vS b)\/∃t,y=.tmp t/\(t,SV.v (vS b))∈j)(n:a.size+b.size<=maxLen):
 ∀d e (o:Bw),o.op=.binOp .add 9 x y 9->(∀p∈j,e p.1=p.2)->LS prog o e d [] I (.v (vS (a++b))) nO:=by
 intro d e o i c;have l:ev e x=.v (vS a):=by rcases q with rfl|⟨t,rfl,h⟩;rfl;exact c _ h
 have m:ev e y=.v (vS b):=by rcases r with rfl|⟨t,rfl,h⟩;rfl;exact c _ h
 intro v s w k _ _ _ _;refine⟨w,?_,Bl.refl w⟩;have f:=k x xO;have g:=k y xO;rw[l]at f;rw[m]at g;simp only[AO]at f g;simp only[execOp,i,Sem.run_bind,f,g];have u:prog.underlying 9=sM .string:=Di;go_simp;rw[AY (by rw[maxLen]at n;omega)];rfl
def ADn(I:AB)(x y:Operand)(c:AA<|Nat×SV)(a b:Ce)(e:x=.const (vS a)\/∃t,x=.tmp t/\(t,SV.v<|vS a)∈c)(f:y=.const (vS b)\/∃t,y=.tmp t/\(t,SV.v<|vS b)∈c)(d:a.size+b.size<=maxLen):Hint:=
 .BZ (.binOp .add 9 x y 9) c [] I (.v<|vS<|a++b)<|AXp I x y c a b e f d
def WL(I:AB)(x y:Nat)(a b:Ce)(c:a.size+b.size<=maxLen):Hint:=ADn I (.tmp x) (.tmp y) [(x,.v<|vS a),(y,.v<|vS b)] a b (.inr ⟨x,rfl,sP⟩) (.inr ⟨y,rfl,sP⟩) c
def AUx(I:AB)(y:Nat)(a b:Ce)(c:a.size+b.size<=maxLen):Hint:=ADn I (.const<|vS a) (.tmp y) [(y,.v<|vS b)] a b (.inl rfl) (.inr ⟨y,rfl,sP⟩) c
def T0(I:AB)(x:Nat)(a b:Ce)(c:a.size+b.size<=maxLen):Hint:=ADn I (.tmp x) (.const<|vS b) [(x,.v<|vS a)] a b (.inr ⟨x,rfl,sP⟩) (.inl rfl) c
structure Iw(I:AB):Prop where
 at_:∃arr e fr,I 2=sM (.cells arr e fr)/\∀i,i<6->arr[i]? =sM (.int .u8 (97+(i:Int)))
def Iw.up{I J}(h:Iw I)(hle:I.le J):Iw J:=by let⟨arr,e,a,b,c⟩:=h.at_;exact⟨arr,e,a,hle _ _ b,c⟩
def Iw.AXT{I}(h:Iw I){w}(d:EJ w I):Kg w:=λi c=>by let⟨arr,e,f,a,b⟩:=h.at_;have:=d _ _ a;simp[World.cell?,this,b i c]
def Aeu(I)(b:Iw I)(a)(c:B9 a):Fn 70 [DW a] [] I (BW (.v<|vS<|AJ<|Acx a) I) nO:=
 MX func70 kR kR (λ_=>rfl) (λ_=>rfl) rfl λw d=>Afh a c w<|b.AXT d
def XU(l):(AJ l).size=lN l:=by simp[AJ,ByteArray.size]
def AfH(f):lN (AFf f)<=1000:=by rw[AFf];have:=Aex<|Lz.DO f;have:=Lz.Ae9 f;split;simp;split;simp;omega
def Aer(a):(AJ<|Acx a).size<=2001:=by rw[XU];have b:=AfH a.1;have c:=AfH a.2;rw[Acx];rw[CK,FM];omega
def Ael(k:Nat):Ce:=if k=3 then⟨#[98,111,120]⟩else if k=4 then⟨#[114,101,102]⟩else if k=5 then⟨#[118,97,114]⟩else if k=6 then⟨#[99,101,108,108]⟩else⟨#[103,97,116,101]⟩
def AfK(k):(Ael k).size<=4:=by rw[Ael];split;decide;split;decide;split;decide;split<;>decide
def Af9(I k):Fn 127 [.v<|iV k] [] I (BW (.v<|vS<|Ael k) I) nO:=by refine fo func127 λg f w e=> ?_;rw[Ael];by_cases a:k=3;subst a;exact gG<|fi;rw[AY a];by_cases b:k=4;subst b;exact gG<|fi;rw[AY b];by_cases c:k=5;subst c;exact gG<|fi;rw[AY c];by_cases d:k=6;subst d;exact gG<|fi;rw[AY d];exact gg [(5,hN (k:Int) 3),(7,hN (k:Int) 4),(9,hN (k:Int) 5),(11,hN (k:Int) 6)]<|fi
def atB(l:Lz.AT):Ce:=(⟨#[60]⟩++AJ (Acx l))++⟨#[62]⟩
def Ae2(l):(atB l).size<=2003:=by have:=Aer l;rw[atB];rw[AGK,AGK];show 1+_+1<=_;omega
def Aed(v:AW):Ce:=if v.right=tT then(if v.kind=1 then AJ (Lib.itoa v.n)else if v.kind=2 then atB v.l else(Ael v.kind++⟨#[58]⟩++Aa v.name)++atB v.l)else⟨#[63]⟩
def Aep{n}(h:BV n):(Aa n).size<=4*lN n:=by rw[Aa];rw[XU];exact(Z3 h).1
def Ae0(I)(c:Pow I)(h:Iw I)(v)(e:WV v)(b: -9223372036854775808<=v.n/\v.n<=9223372036854775807)(i:BV v.name/\lN v.name<=1000):Fn 71 [Do v] [] I (BW (.v<|vS<|Aed v) I) nO:=by
 have l:=Ae2 v.l;have n:=Aer v.l;refine fo func71 λp k w d=>gG<|call (AF4 I c v e) ?_;rw[Aed];by_cases a:v.right;rw[Ac a];refine gg [(6,OV v.right fF<|by rw[a];rfl)] ?_;refine call (Aeu I h v.l e.2) ?_;by_cases f:v.kind=1;rw[Ac f];refine gg [(10,AUx I 9 ⟨#[60]⟩ (AJ<|Acx v.l)<|by show 1+_<=_;rw[maxLen];omega),(11,T0 I 10 (⟨#[60]⟩++AJ (Acx v.l)) ⟨#[62]⟩<|by rw[AGK];show 1+_+1<=_;rw[maxLen];omega),(15,hE (v.kind:Int) 1)] ?_;exact call (AAx I c v.n b.1 b.2)<|gG<|fi;rw[AY f];by_cases g:v.kind=2;rw[Ac g];refine gg [(10,AUx I 9 ⟨#[60]⟩ (AJ<|Acx v.l)<|by show 1+_<=_;rw[maxLen];omega),(11,T0 I 10 (⟨#[60]⟩++AJ (Acx v.l)) ⟨#[62]⟩<|by rw[AGK];show 1+_+1<=_;rw[maxLen];omega),(15,hN (v.kind:Int) 1),(20,hE (v.kind:Int) 2)] ?_;exact fi;rw[AY g];have o:=AfK v.kind;have m:=Aep i.1;refine gg [(10,AUx I 9 ⟨#[60]⟩ (AJ<|Acx v.l)<|by show 1+_<=_;rw[maxLen];omega),(11,T0 I 10 (⟨#[60]⟩++AJ (Acx v.l)) ⟨#[62]⟩<|by rw[AGK];show 1+_+1<=_;rw[maxLen];omega),(15,hN (v.kind:Int) 1),(20,hN (v.kind:Int) 2)] ?_;refine call (Af9 I v.kind)<|gg [(25,T0 I 24 (Ael v.kind) ⟨#[58]⟩<|by show _+1<=_;rw[maxLen];omega),(28,WL I 25 27 (Ael v.kind++⟨#[58]⟩) (Aa v.name)<|by rw[AGK];show _+1+_<=_;rw[maxLen];omega),(30,WL I 28 29 (Ael v.kind++⟨#[58]⟩++Aa v.name) (atB v.l)<|by rw[AGK,AGK];show _+1+_+_<=_;rw[maxLen];omega)] ?_;exact fi;rw[AY a];have a:v.right=fF:=by simpa using a
 refine gg [(6,OV v.right tT<|by rw[a];rfl)] ?_;exact fi
def APM(I:AB)(k:Ap):zP:=λa h=>∃m L J,h= {r:=.p (a+0) 0,nb:=ZZ a m k.im k.AD,J:=J}/\Cb I [] J (CM L m)/\CZ J L k m
def YY(I)(a:EB I)(i:Pow I)(c q)(j:Ke I c q)(h:RY c)(e:Ra c.im)(d:∀f∈c.im.Ax,∃S,Ng c.im f S):Fn 8 [.g (MU c q)] [] I (APM I (EG c)) nO:=by have p:=AYn I a i c q j h (Ado I a i c.im q.ip j.im e d);let⟨A,x,y,z,B,C,D⟩:=q;refine fo Tryz.func8 λE s w k=>gG<|A0 p [] ?_;rintro _ ⟨m,L,J,rfl,r,o⟩;let⟨u,l,n,g,b,t,v⟩:=m;exact gG<|dn [124,125,126,127,128] ⟨⟨u,l,n,g,b,t,v⟩,L,J,rfl,r,o⟩
def Pv(x:AH):AF:=.int .u8 (x.toNat:Int)
def JC(x:AH)(l:AA AF):Prop:=l=[Pv x]
def AFu(x l)(h:JC x l):lN l=1:=by rw[h];rfl
def ADC:IE 23 5 1:=⟨kR,by refine⟨(prog.info? 5).getD Al,?_,?_⟩<;>exact kR⟩
def PC(I l a c d)(m:Av I JC 1 l a c d)(i)(r:i<=1000000):Fn 35 [.v<|.slice a (lN l) c,.v<|iV i] [] I (BW (.v<|iV<|CN l i) I) nO:=by
 refine fo func35 λs o w k=> ?_;by_cases f:i<lN l;have j:l[i]? =sM l[i]:=BS f;have h:CN l i=l[i].toNat:=by rw[CN];rw[j];rfl
 rw[h];generalize l[i]=x at j;have n:x.toNat<256:=x.toNat_lt;obtain⟨b,g,arr,e,q,p,rfl,q2,q3,q4,q5⟩:=m.cell AFu j;subst q3;have q0:=q5 0 _ rfl;simp only[IB]at q0;exact gg [(8,tH i<|lN l),(11,Br I ADC b g (lN l) c i f),(12,ED I Sw rfl (g+i*1) (Pv x) q2 q0),(13,.eq (.int iK<|IntKind.i64.wrap (x.toNat:Int)) (iV x.toNat)<|iw rfl oG)]<|fi;have h:CN l i=0:=by rw[CN];rw[Jh oG];rfl
 rw[h];exact gg [(8,fH i<|lN l)]<|fi
def Oe(l:AA AH)(a:AU Au)(b at_:Nat)(s:Bi):AK:=.cells [.v<|.slice a (lN l) b,.v<|iV at_,.v<|.slice s.a s.n s.c] 190
def AB4(I:AB)(l:AA AH)(a:AU Au)(b at_:Nat)(s:Bi):zP:=λ_ h=>h= {r:=.v<|iV<|CN l at_,AV:=[(1,Oe l a b (at_+1) s)],J:=I}
def AEh(I l h d at_ s a)(p:Av I JC 1 l h d a)(v:at_<=1000000):
 Fn 93 [.p 1 0] [(1,Oe l h d at_ s)] I (AB4 I l h d at_ s) nO:=by
 let⟨m,o,n⟩:=s;refine fo func93 λy q w k=> ?_;by_cases f:at_<lN l;have i:l[at_]? =sM l[at_]:=BS f;have g:CN l at_=l[at_].toNat:=by rw[CN];rw[i];rfl
 have j:(l[at_]).toNat<256:=(l[at_]).toNat_lt;generalize l[at_]=x at i g j;obtain⟨b,c,arr,e,u,t,rfl,q2,q3,q4,q5⟩:=p.cell AFu i;subst q3;have q0:=q5 0 _ rfl;simp only[IB]at q0;exact gg [(7,sH at_),(19,hF<|((at_+1:Nat):Int)>(lN l:Int)),(28,hW (((at_+1:Nat):Int)-1) ((at_:Nat):Int)),(29,Br I ADC b c (lN l) d at_ f),(30,ED I Sw rfl (c+at_*1) (Pv x) q2 q0),(31,.eq (.int iK<|IntKind.i64.wrap (x.toNat:Int)) (iV x.toNat)<|iw rfl oG)]<|dn [] (by rw[AB4];rw[g]) (h:={r:=.v<|iV x.toNat,AV:=[(1,Oe l (aO b c) d (at_+1) ⟨m,o,n⟩)],J:=I});have g:CN l at_=0:=by rw[CN];rw[Jh oG];rfl
 exact gg [(7,sH at_),(19,hT<|((at_+1:Nat):Int)>(lN l:Int))]<|dn [] (by rw[AB4];rw[g]) (h:={r:=.v<|.int iK (0:Nat),AV:=[(1,Oe l h d (at_+1) ⟨m,o,n⟩)],J:=I})
end
end Go.Proofs.YtomehhepbeiinaaGreatDoor
namespace Go.AX
def FC.CW{P F d I r}(C:r.A3=[])(h:FC P F d [] I.CW (λ_ h=>h= {r:=r,J:=I.CW}) nO):FC P F d [] I (λ_ h=>h= {r:=r,J:=I}) nO:=by intro B p w k hN f t g;have m:Holds w I.CW:=⟨f.CW,λb o a=>by cases a⟩;refine(h B p w k hN m nA g).mono ?_;rintro e z ⟨x,q,⟨rfl,l,_⟩,A,u⟩;refine⟨{r:=r,J:=I},q,⟨rfl,⟨l.r,l.u,l.n,l.l,l.d⟩,AB.Hj _⟩,?_,u⟩;have n:∀b,b<w.heap.size->z.heap[b]? =w.heap[b]? :=λb a=>A.A2 b a nA rfl;exact{os:=A.os,tape:=A.tape,output:=A.output,size:=A.size,A2:=λb a _ _=>n b a,AV:=nA,nb:=(λj b y=>by simp at y),qi:=(λi j v=>by simp at v),H2:=⟨λb o a=>by rw[n b<|Eg<|f.1 b o a];exact f.1 b o a,λb o a=>by rw[n b<|Eg<|f.2 b o a];exact f.2 b o a⟩,fresh:=λb o a=>.inl a,IX:=λb o a=>IM a}
end Go.AX
namespace Go.Proofs.YtomehhepbeiinaaGreatDoor
open Tryz
open Go.AX Lz
def Fn.CW{F a I r}(b:r.A3=[])(h:Fn F a [] I.CW (BW r I.CW) nO):Fn F a [] I (BW r I) nO:=⟨FC.CW b h.out,h.Gb⟩
def AK8{a b:AH}:((a.toNat:Int)=(b.toNat:Int))↔a=b:=by rw[Pj];exact MB
attribute [ext] FU Lk Gr Fj Wt Dc Lz.St
def ATQ{a b}(c:BV a.id/\BV a.v.name)(d:BV b.id/\BV b.v.name)(w):(Op.equalIn 10000 154 (.agg (Dy a).toArray) (.agg (Dy b).toArray)).run prog w=.ok (decide (a=b)) w:=by
 apply QX dC
 .simp[Dy,E9,Ea,H9,Hl,BG,M9,F1,F2,Program.fieldsOf,underlying154];go_simp;(repeat apply PR);rfl
 simp[Qy c.1 d.1,Qy c.2 d.2,Pj,str_inj,MB,AW.ext_iff,OA,Gr.ext_iff,Lz.St.ext_iff,FU.ext_iff,_root_.and_assoc]
def ATR{a b}(c:BV a.id)(d:BV b.id)(w):(Op.equalIn 10000 63 (.agg (E9 a).toArray) (.agg (E9 b).toArray)).run prog w=.ok (decide (a=b)) w:=by
 apply QX dC
 .simp[Dy,E9,Ea,H9,Hl,BG,M9,F1,F2,Program.fieldsOf,underlying63];go_simp;(repeat apply PR);rfl
 simp[Qy c d,Pj,str_inj,MB,AW.ext_iff,OA,Gr.ext_iff,Lz.St.ext_iff,Lk.ext_iff,_root_.and_assoc]
def ATU{a b}(w):(Op.equalIn 10000 118 (.agg (Ea a).toArray) (.agg (Ea b).toArray)).run prog w=.ok (decide (a=b)) w:=by
 apply QX dC
 .simp[Dy,E9,Ea,H9,Hl,BG,M9,F1,F2,Program.fieldsOf,underlying118];go_simp;(repeat apply PR);rfl
 simp[Pj,str_inj,MB,AW.ext_iff,OA,Gr.ext_iff,Lz.St.ext_iff,Fj.ext_iff,_root_.and_assoc]
def ATV{a b}(c:BV a.id/\BV a.v.name)(d:BV b.id/\BV b.v.name)(w):(Op.equalIn 10000 261 (.agg (H9 a).toArray) (.agg (H9 b).toArray)).run prog w=.ok (decide (a=b)) w:=by
 apply QX dC
 .simp[Dy,E9,Ea,H9,Hl,BG,M9,F1,F2,Program.fieldsOf,underlying261];go_simp;(repeat apply PR);rfl
 simp[Qy c.1 d.1,Qy c.2 d.2,Pj,str_inj,MB,AW.ext_iff,OA,Gr.ext_iff,Lz.St.ext_iff,Wt.ext_iff,_root_.and_assoc]
def ATS{a b}(c:BV a.name/\BV a.Bg)(d:BV b.name/\BV b.Bg)(w):(Op.equalIn 10000 114 (.agg (Hl a).toArray) (.agg (Hl b).toArray)).run prog w=.ok (decide (a=b)) w:=by
 apply QX dC
 .simp[Dy,E9,Ea,H9,Hl,BG,M9,F1,F2,Program.fieldsOf,underlying114];go_simp;(repeat apply PR);rfl
 simp[Qy c.1 d.1,Qy c.2 d.2,Pj,str_inj,MB,AW.ext_iff,OA,Gr.ext_iff,Lz.St.ext_iff,Dc.ext_iff,_root_.and_assoc]
def ATT{a b:Lz.St}(w:AN):(Op.equalIn 10000 44 (.agg #[vS (AJ a.Ad.1),vS (AJ a.Ad.2),vS (AJ a.A5.1),vS (AJ a.A5.2)]) (.agg #[vS (AJ b.Ad.1),vS (AJ b.Ad.2),vS (AJ b.A5.1),vS (AJ b.A5.2)])).run prog w=.ok (decide (a=b)) w:=by
 apply QX dC
 .simp[Program.fieldsOf,underlying44];go_simp;(repeat apply PR);rfl
 simp[str_inj,OA,Lz.St.ext_iff,_root_.and_assoc]
def AI5(I:AB)(a:AU Au)(ac:Nat)(b:AU Au)(bc n m i:Nat):Hd where
 Cd:=[(0,.v<|.slice a n ac),(1,.v<|.slice b m bc),(12,.v<|iV n),(13,.v<|iV i)]
 J:=I
def AFn{c:Type}{a b:AA c}{i:Nat}{x y:c}(h:a.take i=b.take i)(d:a[i]? =sM x)(f:b[i]? =sM y)(e:x=y):a.take (i+1)=b.take (i+1):=by rw[My,My,h,d,f,e]
def AFo{d:Type}{b c:AA d}{i:Nat}{x y:d}(a:b[i]? =sM x)(f:c[i]? =sM y)(e:x≠y):b≠c:=λq=>by rw[q,f]at a;cases a;exact e rfl
def AJD(f:FU)(l:AA AF):Prop:=l=Dy f
def lkR(f:Lk)(l:AA AF):Prop:=l=E9 f
def Mg(n:Nm):AA AF:=[BQ n]
def NL(f:Nm)(l:AA AF):Prop:=l=Mg f
def Ws(f l)(h:NL f l):lN l=1:=by rw[h];rfl
def AAh:Ht 154 9:=by refine row_of ((prog.underlying 154).getD Al) ((prog.info? 154).getD Al) ?_ ?_ ?_ ?_<;>exact kR
def ADB:IE 105 154 9:=⟨kR,AAh.hi⟩
def AFJ:Ht 63 8:=by refine row_of ((prog.underlying 63).getD Al) ((prog.info? 63).getD Al) ?_ ?_ ?_ ?_<;>exact kR
def AIy:IE 56 63 8:=⟨kR,AFJ.hi⟩
def ldV{I t a b o}(R:Ht t a){arr e f}(c)(h:lN c=a)(g:I b=sM (.cells arr e f))(i:∀j v,c[j]? =sM v->arr[o+j]? =sM v):
 ∀w,EJ w I->∃d,(Instr.loadAt t<|.pointer<|aO b o).run prog w=.ok (AO id<|.v<|.agg c.toArray) d/\Bl w d:=by
 have:=Wh (o:=o) R c h g i;rwa [show AO id (.g<|c.map .v)=AO id (.v<|.agg c.toArray) by simp[AO,Gw]]at this
abbrev rT{t a:Nat}(_:Ht t a):Nat:=t
def AXv{I t n a b x y}{r:Bool}(m:t∈[42,44,51,63,114,118,154,261])(h:∀w,(Op.equalIn 10000 t (.agg x)<|.agg y).run prog w=.ok r w):
 ∀d f (o:Bw),o.op=.binOp .neq t (.tmp a) (.tmp b) n->(∀p∈[(a,SV.v<|.agg x),(b,SV.v<|.agg y)],f p.1=p.2)->LS prog o f d [] I (.v<|vB<|!r) nO:=by
 intro d f o e c;have k:=Ds c (s:=a) (x:=.v<|.agg x) sP;have l:=Ds c (s:=b) (x:=.v<|.agg y) sP;intro s q w j _ _ _ _;refine⟨w,?_,Bl.refl w⟩;have g:=j (.tmp a) xO;have i:=j (.tmp b) xO;simp[ev,k,l,AO]at g i;simp[execOp,e,Sem.run_bind,g,i];rw[run_eqGuard_agg w .neq t _ _ _ _ (Uw t m).2.2];simp[Result.andThen_ok];rw[run_neq_struct w t _ _,h w];rfl
def Ts{u:Type}[DecidableEq u]{F S T k g}(C:u->AA AF)(P:prog.funcs[F]? =sM g)(hF:(F=65/\S=105/\T=154/\g=f65)\/(F=66/\S=56/\T=63/\g=f66)\/(F=121/\S=49/\T=114/\g=f121)\/(F=174/\S=29/\T=51/\g=f174)\/(F=175/\S=46/\T=118/\g=f175)\/(F=252/\S=83/\T=261/\g=f252))(t:∀x,lN (C x)=k)(E:IE S T k)(R:Ht T k)(I:AB){a b r s p q D J}(M:Av I (λx l=>l=C x) k a r p D)(N:Av I (λx l=>l=C x) k b s q J)(Z:lN a<=1000000)(hm:lN b<=1000000)
 (O:∀x∈a,∀y∈b,∀w,(Op.equalIn 10000 T (.agg (C x).toArray)<|.agg (C y).toArray).run prog w=.ok (decide<|x=y) w):Fn F [.v<|.slice r (lN a) p,.v<|.slice s (lN b) q] [] I (BW (.v<|vB<|decide<|a=b) I) nO:=by
 have A:∀x l,l=C x->lN l=k:=λx l h=>h▸t x;rcases hF with⟨rfl,rfl,rfl,rfl⟩|⟨rfl,rfl,rfl,rfl⟩|⟨rfl,rfl,rfl,rfl⟩|⟨rfl,rfl,rfl,rfl⟩|⟨rfl,rfl,rfl,rfl⟩|⟨rfl,rfl,rfl,rfl⟩<;>
 .refine fo P λρ Q w B=> ?_;by_cases hlen:lN a=lN b;refine gg [(10,EN (lN a:Int) (lN b:Int))]<|loop (ι:=Nat) (λi=>i<=lN a/\a.take i=b.take i) (λi=>lN a-i) (AI5 I r p s q (lN a)<|lN b) 1000 [] 0 ⟨Bm _,rfl⟩ ?_;rintro i ⟨Y,m⟩ again T;by_cases j:i<lN a;have c:i<lN b:=oG;have d:a[i]? =sM a[i]:=BS j;have f:b[i]? =sM b[i]:=BS c;have n:=O _ (DR j) _<|DR c;generalize a[i]=x at d n;generalize b[i]=y at f n;obtain⟨G,o1,v,W,K,_,rfl,q2,rfl,q4,q5⟩:=M.cell A d;obtain⟨H,o2,z,X,L,_,rfl,U,rfl,r4,V⟩:=N.cell A f;revert n;cases o:decide (x=y)<;>intro n<;>refine gg [(14,tH i<|lN a),(18,Br I E G o1 (lN a) p i j),(19,.op I _ _<|ldV (o:=o1+i*k) R (C x) (t x) q2 q5),(22,Br I E H o2 (lN b) q i c),(23,.op I _ _<|ldV (o:=o2+i*k) R (C y) (t y) U V),(24,.BZ (.binOp .neq (rT R) (.tmp 19) (.tmp 23)<|rT R) [(19,.v<|.agg (C x).toArray),(23,.v<|.agg (C y).toArray)] [] I _<|AXv (by unfold rT;decide) n),(25,sH i)] ?_;rw[Gp<|AFo d f<|of_decide_eq_false o];exact fi;exact bk again [] (i+1) ⟨oG,AFn m d f<|LO o⟩;obtain rfl:i=lN a:=oG;rw[G5<|show a=b by rw[FN,hlen,FN]at m;exact m];exact gg [(14,fH (lN a)<|lN a)]<|fi;rw[Gp λe=>hlen<|by rw[e]];exact gg [(10,Fs (lN a:Int) (lN b:Int))]<|fi
def ATg(I a b c e d f g i)(j:Av I AJD 9 a c d g)(k:Av I AJD 9 b e f i)(l:lN a<=1000000)(m:lN b<=1000000)(n:∀x∈a,BV x.id/\BV x.v.name)(o:∀x∈b,BV x.id/\BV x.v.name):Fn 65 [.v<|.slice c (lN a) d,.v<|.slice e (lN b) f] [] I (BW (.v<|vB<|decide<|a=b) I) nO:=
 Ts Dy func65 (by simp) (λ_=>rfl) ADB AAh I j k l m λ_ h _ q=>ATQ (n _ h)<|o _ q
def ATh(I a b c e d f g i)(j:Av I lkR 8 a c d g)(k:Av I lkR 8 b e f i)(l:lN a<=1000000)(m:lN b<=1000000)(n:∀x∈a,BV x.id)(o:∀x∈b,BV x.id):Fn 66 [.v<|.slice c (lN a) d,.v<|.slice e (lN b) f] [] I (BW (.v<|vB<|decide<|a=b) I) nO:=
 Ts E9 func66 (by simp) (λ_=>rfl) AIy AFJ I j k l m λ_ h _ q=>ATR (n _ h)<|o _ q
def ATb(I a b c e d f g i)(j:Av I Ll 14 a c d g)(k:Av I Ll 14 b e f i)(l:lN a<=1000000)(m:lN b<=1000000)(n:∀x∈a,BV x.name/\BV x.Bg)(o:∀x∈b,BV x.name/\BV x.Bg):Fn 121 [.v<|.slice c (lN a) d,.v<|.slice e (lN b) f] [] I (BW (.v<|vB<|decide<|a=b) I) nO:=
 Ts Hl func121 (by simp) (λ_=>rfl) Rz XG I j k l m λ_ h _ q=>ATS (n _ h)<|o _ q
def AI6(I a b c e d f g i)(j:Av I F9 5 a c d g)(k:Av I F9 5 b e f i)(l:lN a<=1000000)(m:lN b<=1000000)(n:∀x∈a,BV x.name)(o:∀x∈b,BV x.name):Fn 174 [.v<|.slice c (lN a) d,.v<|.slice e (lN b) f] [] I (BW (.v<|vB<|decide<|a=b) I) nO:=
 Ts BG func174 (by simp) (λ_=>rfl) Gx Oo I j k l m λ_ h _ q=>eqV (n _ h)<|o _ q
def ATd(I a b c e d f g i)(j:Av I Oy 3 a c d g)(k:Av I Oy 3 b e f i)(l:lN a<=1000000)(m:lN b<=1000000)(n:∀x∈a,True)(o:∀x∈b,True):Fn 175 [.v<|.slice c (lN a) d,.v<|.slice e (lN b) f] [] I (BW (.v<|vB<|decide<|a=b) I) nO:=
 Ts Ea func175 (by simp) (λ_=>rfl) V6 XH I j k l m λ_ h _ q=>ATU
def ATe(I a b c e d f g i)(j:Av I S3 7 a c d g)(k:Av I S3 7 b e f i)(l:lN a<=1000000)(m:lN b<=1000000)(n:∀x∈a,BV x.id/\BV x.v.name)(o:∀x∈b,BV x.id/\BV x.v.name):Fn 252 [.v<|.slice c (lN a) d,.v<|.slice e (lN b) f] [] I (BW (.v<|vB<|decide<|a=b) I) nO:=
 Ts H9 func252 (by simp) (λ_=>rfl) R0 AAi I j k l m λ_ h _ q=>ATV (n _ h)<|o _ q
def ATf(I:AB)(a b:AA Nm)(q r:AU Au)(m n:Nat)(G H:AA AF)(L:Av I NL 1 a q m G)(M:Av I NL 1 b r n H)(S:lN a<=1000000)(U:lN b<=1000000)(N:∀x∈a,BV x)(O:∀x∈b,BV x):
 Fn 62 [.v<|.slice q (lN a) m,.v<|.slice r (lN b) n] [] I (BW (.v<|vB<|decide<|a=b) I) nO:=by
 refine fo func62 λW P w D=> ?_;by_cases hlen:lN a=lN b;refine gg [(10,EN (lN a:Int) (lN b:Int))]<|loop (ι:=Nat) (λi=>i<=lN a/\a.take i=b.take i) (λi=>lN a-i) (AI5 I q m r n (lN a)<|lN b) 1000 [] 0 ⟨Bm _,rfl⟩ ?_;rintro i ⟨C,l⟩ again T;by_cases g:i<lN a;have c:i<lN b:=oG;have h:a[i]? =sM a[i]:=BS g;have k:b[i]? =sM b[i]:=BS c;have s:=N _<|DR g;have t:=O _<|DR c;generalize a[i]=x at h s;generalize b[i]=y at k t;obtain⟨A,d,v,Q,J,o,rfl,q2,q3,q4,q5⟩:=L.cell Ws h;have q3:o=Mg x:=q3;subst q3;obtain⟨B,f,z,R,K,p,rfl,E,u,V,F⟩:=M.cell Ws k;have u:p=Mg y:=u;subst u;by_cases j:x=y;refine gg [(14,tH i<|lN a),(18,Br I Jr A d (lN a) m i g),(19,ED I Di rfl (d+i*1) (BQ x) q2<|q5 0 _ rfl),(22,Br I Jr B f (lN b) n i c),(23,ED I Di rfl (f+i*1) (BQ y) E<|F 0 _ rfl),(24,.eq (Value.bool<|!((Aa x).toList==(Aa y).toList)) fV<|by unfold Aa;rw[TY s t,j];simp),(25,sH i)] ?_;exact bk again [] (i+1) ⟨oG,AFn l h k j⟩;rw[Gp<|AFo h k j];refine gg [(14,tH i<|lN a),(18,Br I Jr A d (lN a) m i g),(19,ED I Di rfl (d+i*1) (BQ x) q2<|q5 0 _ rfl),(22,Br I Jr B f (lN b) n i c),(23,ED I Di rfl (f+i*1) (BQ y) E<|F 0 _ rfl),(24,.eq (Value.bool<|!((Aa x).toList==(Aa y).toList)) tV<|by unfold Aa;rw[TY s t];simpa using j)] ?_;exact fi;have C:i=lN a:=oG;subst C;rw[G5<|show a=b by rw[FN,hlen,FN]at l;exact l];exact gg [(14,fH (lN a)<|lN a)]<|fi;rw[Gp λe=>hlen<|by rw[e]];exact gg [(10,Fs (lN a:Int) (lN b:Int))]<|fi
end Go.Proofs.YtomehhepbeiinaaGreatDoor
namespace Go.Proofs.YtomehhepbeiinaaGreatDoor
open Tryz
section
open Go.AX Lz
def AJj(I:AB){t a:Nat}(R:Ht t a){b:Nat}{arr:Ae AF}{e:BN}{d:Nat×Nat}(o:Nat)(c:AA AF)(g:lN c=a)(f:I.CW b=sM (.cells arr e d))(h:∀j v,c[j]? =sM v->arr[o+j]? =sM v):Hint:=.Kz I _ _<|Wh (I:=I.CW) (o:=o) R c g f h
def C8.Mn{j:Type}{I:AB}{a:Nat}{e:BN}{V:j->AA AF}{c:AA j}{s:Bi}(h:C8 I a e (c.flatMap V) s)(f:∀x,lN (V x)=a)(k:0<a):s.n=lN c/\(lN c<=maxLen->Av I.CW (λx l=>l=V x) a c s.a s.c (c.flatMap V)):=by
 have g:s.n=lN c:=by have i:=h.n;rw[HB f]at i;exact(Nat.eq_of_mul_eq_mul_right k i).symm
 refine⟨g,λm=> ?_⟩;rcases h.at_ with⟨q1,q2,q3⟩|⟨b,d,q1,q2,q3,q4,q5⟩;exact⟨⟨by rw[HB f],h.one,.inl<|g▸q1⟩,by rw[<-g,q1,q3];exact Ag _,by rw[q3];exact Bm _,Rows.flat.2 rfl⟩;refine⟨⟨by rw[HB f],h.one,.inr ⟨b,0,_,e,_,q1,q2.CW,?_⟩⟩,by rwa[<-g],q5,Rows.flat.2 rfl⟩;rw[S6];show(c.flatMap V++d).take _=_;rw[<-HB f c,TC]
structure Told(I J:AB)(size:Nat)(e:BN)(As:AA AF)(s:Bi):Prop where
 st:Cb I [] J (Bb s.a).toList
 row:C8 J size e As s
theorem Told.nil(I a e):Told I I a e [] ⟨nO,0,0⟩:=⟨.refl I [],⟨sP,sP,.inl ⟨rfl,rfl,rfl⟩⟩⟩
def Told.app{I J d e a news s b c AE}(h:Told I J d e a s)(n:lN news=d)(m:∀v∈news,v.oneCell')
 (j:lN (a++news)+lN AE=c*d) (k:s.n+1<=c) (l:c<=maxLen) (f:J b=nO) (i:Bb s.a=sM b\/J.free b):Told I (J.plus b<|.cells (a++news++AE).toArray e (0,0)) d e (a++news) ⟨sM ⟨b,0,nO⟩,s.n+1,c⟩:=by
 refine⟨h.st.trans<|(Oj (P1:=[]) (P2:=[]) (o:=.cells (a++news++AE).toArray e (0,0)) f i).cast sP<|by simp[Bb],⟨?_,?_,.inr ⟨b,AE,rfl,Li f,j,k,l⟩⟩⟩;rw[CK,h.row.n,n,Gm,Nat.one_mul];intro v g;rcases Bc.1 g with g|g;exact h.row.one v g;exact m v g
def Cb.ANO{I J P}(h:Cb I [] J P){b o}(a:I.CW b=sM o):J.CW b=sM o:=by
 cases c:I b with
 |some x=>
  rw[AB.Sj c]at a;cases a;exact AB.Sj<|h.le b _ c
 |none=>
  have a:(match I b with|some o=>sM o|none=>I.Ak b)=sM o:=a;rw[c]at a;exact(h.A2 b _ ⟨a,c⟩ sP).CW
def AB8(I:AB)(a:AA<|Nat×AK)(b:Nat)(e:BN)(c:AA AF):zP:=λ_ h=>∃s J,Told I J b e c s/\h= {r:=.v<|.slice s.a s.n s.c,AV:=a,J:=J}
def Cb.GJ{I J P}(h:Cb I [] J P):I.le J:=⟨h.le,λx y a=>h.A2 x y a sP⟩
def AXf(m:CH)(k:Ap)(l:Lz.AT)(q:Nat×Bi×AB):Hd where
 Cd:=[(0,.p 1 0),(3,.p 6 0),(5,.v<|.slice q.2.1.a q.2.1.n q.2.1.c),(11,.v<|.slice m.DD.a (lN k.Bj) m.DD.c),(12,.v<|iV<|lN k.Bj),(13,.v<|iV q.1)]
 Cc:=CL m k.im k.AD++[(6,.cells [.v<|vS<|AJ l.1,.v<|vS<|AJ l.2] 42)]
 J:=q.2.2
def AXg(a:List FU)(l){i}(h:i<a.length):(a.take<|i+1).filter (λf=>fl f.l l)=(a.take i).filter (λf=>fl f.l l)++(if fl a[i].l l=true then[a[i]]else[]):=by rw[List.take_succ_eq_append_getElem h,List.filter_append];congr 1;by_cases q:fl a[i].l l;rw[if_pos q];simp[q];rw[if_neg q];simp[q]
def AKv(I L)(k:Ap)(m)(V:CZ I L k m)(hl:k.Bj.length<=1000000)(l)(D:B9 l)(W:∀f∈k.Bj,B9 f.l):
 Fn 60 [.p 1 0,DW l] (CL m k.im k.AD) I (AB8 I (CL m k.im k.AD) 9 154<|(D9 k l).flatMap Dy) none:=by
 obtain⟨O,r⟩:=V.DD.Mn (V:=Dy) (λ_=>rfl) dC;have P:=r (by rw[maxLen];omega);obtain⟨ip,es,n,Bu,⟨S,fn,K⟩,lk,sm⟩:=m;simp only at O P;subst O;refine fo func60 λρ Y w N=> ?_;refine gG<|loop (ι:=Nat×Bi×AB) (λq=>q.1<=k.Bj.length/\Told I q.2.2 9 154 (((k.Bj.take q.1).filter λf=>fl f.l l).flatMap Dy) q.2.1) (λq=>k.Bj.length-q.1) (AXf ⟨ip,es,n,Bu,⟨S,k.Bj.length,K⟩,lk,sm⟩ k l) 1000 [(6,100)] (0,⟨none,0,0⟩,I) ⟨Nat.zero_le _,.nil I 9 154⟩ ?_;rintro⟨i,⟨F,j,G⟩,J⟩ ⟨z,d⟩ again T;simp only at z d;by_cases c:i<k.Bj.length;have Q:k.Bj[i]? =some k.Bj[i]:=List.getElem?_eq_getElem c;have p:=W _<|List.getElem_mem c;have a:=AXg k.Bj l c;generalize k.Bj[i]=f at Q p a;obtain⟨b,t,arr,e,U,Z,v,q2,q3,q4,q5⟩:=P.cell (λx l h=>by rw[h];rfl) Q;subst q3;subst v;have E:J.CW b=some (.cells arr e U):=d.st.ANO q2;refine gg [(14,tH i k.Bj.length),(15,Br J ADB b t k.Bj.length K i c),(16,AJj J AAh (t+i*9) (Dy f) rfl E q5)]<|call (NB J f.l l p D) ?_;cases o:fl f.l l with
 |false=>
  refine gg [(25,sH i)] ?_;rw[if_neg<|by rw[o];simp,List.append_nil]at a;exact bk again [] (i+1,⟨F,j,G⟩,J) ⟨by show i+1<=_;omega,by show Told I J 9 154 (((k.Bj.take<|i+1).filter _).flatMap Dy) _;rwa[a]⟩
 |true=>
  rw[if_pos o]at a;have X:j<=1000000:=by have M:=d.row.n;rw[HB (n:=9) λ_=>rfl]at M;have h2:=List.length_filter_le (λf=>fl f.l l)<|k.Bj.take i;have h3:=List.length_take_le i k.Bj;simp only at M;omega
  refine gG<|act (need:=[(1088,.cells ((Dy f).map .v) 154)]) (JI (I:=J) Be (s:=⟨F,j,G⟩) (x:=.s 1088 0 1 1) (m:=1) (CQ:=((k.Bj.take i).filter λf=>fl f.l l).flatMap Dy) (news:=Dy f) AHQ kR d.row (Ez (e:=154) sP rfl<|Y7 _) dC<|by show j+1<=16777216;omega) JH ?_;rintro h' ⟨H,R,g,rfl,A,B,C,u,y⟩;have s:=d.app (AE:=g) (news:=Dy f) rfl (Y7 f) A B C u y;generalize J.plus H (.cells (((k.Bj.take i).filter λf=>fl f.l l).flatMap Dy++Dy f++g).toArray 154 (0,0))=J2 at s⊢;refine gg [(25,sH i)] ?_;exact bk again [] (i+1,⟨some ⟨H,0,none⟩,j+1,R⟩,J2) ⟨by show i+1<=_;omega,by show Told I J2 9 154 (((k.Bj.take<|i+1).filter _).flatMap Dy) _;rwa[a,List.flatMap_append,show[f].flatMap Dy=Dy f from by simp]⟩
 have z:i=k.Bj.length:=oG;subst z;refine gg [(14,fH k.Bj.length k.Bj.length)] ?_;rw[List.take_length]at d;exact dn [] ⟨⟨F,j,G⟩,J,d,rfl⟩
def Cb.AdN{I J K P a}(h:Cb I [] J P)(k:Cb J [] K a):Cb I [] K a where
 le:=h.le.trans k.le
 A2 x y hx _:=k.A2 x y (h.A2 x y hx sP) sP
 CE x hx:=by rcases k.CE x hx with q|q;cases q;exact .inr λy b=>q y<|h.A2 x y b sP
def Kq(f:FU):Ce:=(((((AJ (Lib.itoa f.AD)++⟨#[32]⟩)++Aa f.id)++⟨#[32]⟩)++AJ (Acx f.l))++⟨#[32]⟩)++Aed f.v
structure X5(f:FU):Prop where
 AD:f.AD<=1000000000
 id:BV f.id/\lN f.id<=1000
 l:B9 f.l
 v:WV f.v
 n: -9223372036854775808<=f.v.n/\f.v.n<=9223372036854775807
 nm:BV f.v.name/\lN f.v.name<=1000
def Aez(v)(a: -9223372036854775808<=v.n/\v.n<=9223372036854775807)(b:BV v.name/\lN v.name<=1000):(Aed v).size<=6100:=by have c:=Lib.itoa_length_le v.n a.1 a.2;have d:=Ae2 v.l;have e:=AfK v.kind;have f:=Aep b.1;rw[Aed];split;split;rw[XU];omega;split;omega;rw[AGK,AGK,AGK];show _+1+_+_<=_;omega;show 1<=_;omega
def ATm(I)(c:Pow I)(b:Iw I)(f)(h:X5 f):Fn 68 [.g<|(Dy f).map .v] [] I (BW (.v<|vS<|Kq f) I) nO:=by
 have n:=Lib.itoa_length_le f.AD oG (by have:=h.AD;omega);have o:=Aep h.id.1;have p:=Aer f.l;have q:=Aez f.v h.n h.nm;have r:=h.id.2;have a:=XU<|Lib.itoa f.AD;refine fo func68 λs e w d=> ?_;have g:(AJ (Lib.itoa f.AD)++⟨#[32]⟩).size<=22:=by rw[AGK,a];show _+1<=_;omega
 have i:((AJ (Lib.itoa f.AD)++⟨#[32]⟩)++Aa f.id).size<=4022:=by rw[AGK];omega
 have j:(((AJ (Lib.itoa f.AD)++⟨#[32]⟩)++Aa f.id)++⟨#[32]⟩).size<=4023:=by rw[AGK];show _+1<=_;omega
 have k:((((AJ (Lib.itoa f.AD)++⟨#[32]⟩)++Aa f.id)++⟨#[32]⟩)++AJ (Acx f.l)).size<=6100:=by rw[AGK];omega
 have l:(((((AJ (Lib.itoa f.AD)++⟨#[32]⟩)++Aa f.id)++⟨#[32]⟩)++AJ (Acx f.l))++⟨#[32]⟩).size<=6101:=by rw[AGK];show _+1<=_;omega
 have m:=T0 I 5 (AJ<|Lib.itoa f.AD) ⟨#[32]⟩ (by rw[a];show _+1<=_;rw[maxLen];omega);refine gG<|call (AAx I c f.AD oG (by have:=h.AD;omega)) ?_;refine gg [(6,T0 I 5 (AJ<|Lib.itoa f.AD) ⟨#[32]⟩<|by rw[a];show _+1<=_;rw[maxLen];omega),(9,WL I 6 8 (AJ (Lib.itoa f.AD)++⟨#[32]⟩) (Aa f.id)<|by rw[maxLen];omega),(10,T0 I 9 ((AJ (Lib.itoa f.AD)++⟨#[32]⟩)++Aa f.id) ⟨#[32]⟩<|by show _+1<=_;rw[maxLen];omega)] ?_;refine call (Aeu I b f.l h.l)<|gg [(14,WL I 10 13 (((AJ (Lib.itoa f.AD)++⟨#[32]⟩)++Aa f.id)++⟨#[32]⟩) (AJ<|Acx f.l)<|by rw[maxLen];omega),(15,T0 I 14 ((((AJ (Lib.itoa f.AD)++⟨#[32]⟩)++Aa f.id)++⟨#[32]⟩)++AJ (Acx f.l)) ⟨#[32]⟩<|by show _+1<=_;rw[maxLen];omega)] ?_;refine call (Ae0 I c b f.v h.v h.n h.nm)<|gg [(19,WL I 15 18 (((((AJ (Lib.itoa f.AD)++⟨#[32]⟩)++Aa f.id)++⟨#[32]⟩)++AJ (Acx f.l))++⟨#[32]⟩) (Aed f.v)<|by rw[maxLen];omega)] ?_;exact fi
def KT(a:AA FU):AA AF:=a.map λf=>vS<|Kq f
def ASt(s:Bi)(n:Nat)(q:Nat×Bi×AB):Hd where
 Cd:=[(1,.v<|.func (.func 68) #[] #[]),(5,.v<|.slice q.2.1.a q.2.1.n q.2.1.c),(8,.v<|.slice s.a n s.c),(9,.v<|iV n),(10,.v<|iV q.1)]
 J:=q.2.2
def AS3(I)(S:Pow I)(R:Iw I)(a s)(V:C8 I 9 154 (a.flatMap Dy) s)(hl:lN a<=1000000)(U:∀f∈a,X5 f):
 Fn 67 [.v<|.slice s.a s.n s.c,.v<|.func (.func 68) #[] #[]] [] I (AB8 I [] 1 9<|KT a) nO:=by
 let⟨H,m⟩:=V.Mn (V:=Dy) (λ_=>rfl) dC;have K:=m (by rw[maxLen];omega);let⟨P,Z,F⟩:=s;simp only at H K;subst H;refine fo func67 λρ X w G=>gG<|loop (ι:=Nat×Bi×AB) (λq=>q.1<=lN a/\Told I q.2.2 1 9 (KT<|a.take q.1) q.2.1) (λq=>lN a-q.1) (ASt ⟨P,lN a,F⟩<|lN a) 1000 [] (0,⟨nO,0,0⟩,I) ⟨Bm _,.nil I 1 9⟩ ?_;rintro⟨i,⟨M,p,N⟩,J⟩ ⟨y,g⟩ again T;simp only at y g;by_cases d:i<lN a;have L:a[i]? =sM a[i]:=BS d;have k:=U _<|DR d;have c:KT (a.take<|i+1)=KT (a.take i)++[vS<|Kq a[i]]:=by rw[KT];rw[Kd d,E3];rfl
 generalize a[i]=f at L k c;let⟨b,o,arr,e,Q,Y,u,q2,q3,q4,q5⟩:=K.cell (λx l h=>by rw[h];rfl) L;subst q3;subst u;have C:J.CW b=sM (.cells arr e Q):=g.st.ANO q2;have hle:=g.st.GJ;have W:p<=1000000:=by have r:=g.row.n;rw[KT]at r;rw[DG,Cu]at r;simp only at r;omega
 refine gg [(11,tH i<|lN a),(12,Br J ADB b o (lN a) F i d),(13,AJj J AAh (o+i*9) (Dy f) rfl C q5)]<|call (ATm J (S.up hle) (R.up hle) f k)<|gG<|act (need:=[(1072,.cells ([Value.string<|Kq f].map .v) 9)]) (JI (I:=J) Be (s:=⟨M,p,N⟩) (x:=.s 1072 0 1 1) (m:=1) (CQ:=KT<|a.take i) (news:=[Value.string<|Kq f]) Ve kR g.row (Ez (e:=9) sP rfl<|by simp[Value.oneCell']) dC<|by show p+1<=16777216;omega) JH ?_;rintro h' ⟨E,O,j,rfl,z,A,B,t,v⟩;have n:=g.app (AE:=j) (news:=[Value.string<|Kq f]) rfl (by simp[Value.oneCell']) z A B t v;generalize J.plus E (.cells (KT (a.take i)++[Value.string<|Kq f]++j).toArray 9 (0,0))=D at n⊢;refine gg [(20,sH i)] ?_;exact bk again [] (i+1,⟨sM ⟨E,0,nO⟩,p+1,O⟩,D) ⟨by show i+1<=_;omega,by show Told I D 1 9 (KT<|a.take<|i+1) _;rwa[c]⟩;have y:i=lN a:=oG;subst y;refine gg [(11,fH (lN a)<|lN a)] ?_;rw[FN]at g;exact dn [] ⟨⟨M,p,N⟩,J,g,rfl⟩
def AJC(I L k m)(e:CZ I L k m)(q:Iw I)(j:lN k.Bj<=1000000)(l)(c:B9 l)(g:∀f∈k.Bj,X5 f):
 Fn 21 [.p 1 0,DW l] (CL m k.im k.AD) I (AB8 I (CL m k.im k.AD) 1 9<|KT<|D9 k l) nO:=by
 have a:=AKv I L k m e j l c λf h=>(g f h).l;have r:=e.pow;let⟨y,x,n,u,p,z,A⟩:=m;refine fo func21 λB t w i=>gG<|A0 a [] ?_;rintro _ ⟨s,J,d,rfl⟩;refine gG ?_;have hle:=d.st.GJ;refine A0 (AS3 J (r.up hle) (q.up hle) (D9 k l) s d.row (Ch (RQ _ _) j) λf h=>g f (Ho.1 h).1) [] ?_;rintro _ ⟨v,o,b,rfl⟩;exact gG<|dn [] ⟨v,o,⟨d.st.AdN b.st,b.row⟩,rfl⟩
def AHS:Gq prog Bt 188 211 2:=⟨⟨_,rfl⟩,⟨_,_,rfl,rfl⟩,kR⟩
def YA(I:AB)(l:AA AH)(b:AU Au)(c at_:Nat)(s:Bi)(Aj:AA Lz.Op):zP:=λ_ h=>∃(a:Bi)(J:AB),Cb I (Bb s.a).toList J (Bb a.a).toList/\C8 J 2 211 (Aj.flatMap Cs) a/\h= {r:=.t [],AV:=[(1,Oe l b c at_ a)],J:=J}
def Wy(o):∀v∈Cs o,v.oneCell':=by intro v a;simp[Cs,mS]at a;rcases a with rfl|rfl<;>rfl
def Yz(I l r t at_ s Aj)(n:C8 I 2 211 (Aj.flatMap Cs) s)(A:lN Aj<=1000000)(o):
 Fn 92 [.p 1 0,.v<|nV o.code,.v<|nV o.a] [(1,Oe l r t at_ s)] I (YA I l r t at_ s<|Aj++[o]) nO:=by
 let⟨q,_⟩:=n.Mn (V:=Cs) (λ_=>rfl) dC;let⟨u,B,y⟩:=s;simp only at q;subst q;refine fo func92 λC x w p=>gG<|act (need:=[(164,.cells ((Cs o).map .v) 211)]) (JI (I:=I) Be (s:=⟨u,lN Aj,y⟩) (x:=.s 164 0 1 1) (m:=1) (CQ:=Aj.flatMap Cs) (news:=Cs o) AHS kR n (Ez (e:=211) sP rfl<|Wy o) dC<|by show lN Aj+1<=16777216;omega) JH ?_;rintro z ⟨b,c,a,rfl,j,k,m,f,i⟩;have g:Cb I (Bb u).toList (I.plus b<|.cells (Aj.flatMap Cs++Cs o++a).toArray 211 (0,0)) [b]:=(Oj (P1:=[]) (P2:=[]) (o:=.cells (Aj.flatMap Cs++Cs o++a).toArray 211 (0,0)) f i).cast sP sP;have d:C8 (I.plus b<|.cells (Aj.flatMap Cs++Cs o++a).toArray 211 (0,0)) 2 211 ((Aj++[o]).flatMap Cs) ⟨sM ⟨b,0,nO⟩,lN Aj+1,c⟩:=by
  have e:(Aj++[o]).flatMap Cs=Aj.flatMap Cs++Cs o:=by rw[Mu];simp
  rw[e];refine⟨?_,λv h=> ?_,.inr ⟨b,a,rfl,Li f,j,k,m⟩⟩;rw[CK,HB (n:=2) λ_=>rfl];show _+2=_;simp only;omega;rcases Bc.1 h with h|h;exact n.one v h;exact Wy o v h
 generalize I.plus b (.cells (Aj.flatMap Cs++Cs o++a).toArray 211 (0,0))=J at g d⊢;exact gG<|dn [] ⟨⟨sM ⟨b,0,nO⟩,lN Aj+1,c⟩,J,g,d,rfl⟩
def AXd(I l c d at_ s Aj)(g:C8 I 2 211 (Aj.flatMap Cs) s)(f:lN Aj<=1000000)(k):
 Fn 143 [.p 1 0,.v<|iV k] [(1,Oe l c d at_ s)] I (YA I l c d at_ s<|Aj++[⟨2,k⟩]) nO:=by
 refine fo func143 λj h w e=>gG<|A0 (Yz I l c d at_ s Aj g f ⟨2,k⟩) [] ?_;rintro _ ⟨i,J,b,a,rfl⟩;exact gG<|dn [] ⟨i,J,b,a,rfl⟩
def AEU(I)(x:Nat)(a k:Nat)(m:a<=1000000)(n:0<k/\k<=1000):∀b e (o:Bw),o.op=.binOp .rem 3 (.tmp x) (.const (iV k)) 3->(∀p∈[(x,SV.v (iV a))],e p.1=p.2)->LS prog o e b [] I (.v (.int iK ((a%k:Nat):Int))) nO:=by
 intro b e o c d;have i:=Ds d (s:=x) (x:=.v (iV a)) sP;intro s l w h _ _ _ _;refine⟨w,?_,Bl.refl w⟩;have f:=h (.tmp x) xO;have g:=h (.const (iV k)) xO;simp[ev,i,AO]at f g;simp[execOp,c,Sem.run_bind,f,g];have q:Int.tmod (a:Int) (k:Int)=((a%k:Nat):Int):=by rw[AO0 oG];omega
 have j:(k:Int)≠0:=oG;have r:prog.underlying 3=sM (.int iK):=Ek;go_simp;rw[AY oG];rfl
def AY7(I l c d at_ s a)(k:Av I JC 1 l c d a)(g:at_<=1000000)(Aj)(j:C8 I 2 211 (Aj.flatMap Cs) s)(i:lN Aj<=1000000):
 Fn 191 [.p 1 0] [(1,Oe l c d at_ s)] I (YA I l c d (at_+1) s<|Aj++[⟨1,CN l at_%8⟩]) nO:=by
 refine fo func191 λo m w f=>gG<|A0 (AEh I l c d at_ s a k g) [] ?_;rintro _ rfl;have h:CN l at_<=1000000:=by
  rw[CN];cases l[at_]? with
  |none=>exact Bm _
  |some x=>have:=x.toNat_lt;show x.toNat<=_;omega
 refine gg [(5,.BZ (.binOp .rem 3 (.tmp 4) (.const<|.int iK ((8:Nat):Int)) 3) [(4,.v<|iV<|CN l at_)] [] I (.v<|.int iK ((CN l at_%8:Nat):Int))<|AEU I 4 (CN l at_) 8 h oG)]<|A0 (Yz I l c d (at_+1) s Aj j i ⟨1,CN l at_%8⟩) [] ?_;rintro _ ⟨n,J,e,b,rfl⟩;exact gG<|dn [] ⟨n,J,e,b,rfl⟩
def AYF(I l c d at_ s a)(k:Av I JC 1 l c d a)(g:at_<=1000000)(Aj)(j:C8 I 2 211 (Aj.flatMap Cs) s)(i:lN Aj<=1000000):
 Fn 192 [.p 1 0] [(1,Oe l c d at_ s)] I (YA I l c d (at_+1) s<|Aj++[⟨1,8+CN l at_%8⟩]) nO:=by
 refine fo func192 λo m w f=>gG<|A0 (AEh I l c d at_ s a k g) [] ?_;rintro _ rfl;have h:CN l at_<=1000000:=by
  rw[CN];cases l[at_]? with
  |none=>exact Bm _
  |some x=>have:=x.toNat_lt;show x.toNat<=_;omega
 refine gg [(5,.BZ (.binOp .rem 3 (.tmp 4) (.const<|.int iK ((8:Nat):Int)) 3) [(4,.v<|iV<|CN l at_)] [] I (.v<|.int iK ((CN l at_%8:Nat):Int))<|AEU I 4 (CN l at_) 8 h oG),(6,hW (8+((CN l at_%8:Nat):Int)) ((8+CN l at_%8:Nat):Int))]<|A0 (Yz I l c d (at_+1) s Aj j i ⟨1,8+CN l at_%8⟩) [] ?_;rintro _ ⟨n,J,e,b,rfl⟩;exact gG<|dn [] ⟨n,J,e,b,rfl⟩
structure G7(B:Nat)(I:AB)(u:AU Au)(j:Nat)(cells:AA AF)(m:Mk)(s:Bi):Prop where
 QS:Av I JC 1 m.l u j cells
 row:C8 I 2 211 (m.code.flatMap Cs) s
 at_:m.at_<=B
 len:lN m.code<=B
abbrev G0(m:Mk)(u:AU Au)(j:Nat)(s:Bi):AK:=Oe m.l u j m.at_ s
def M2(I:AB)(u:AU Au)(j:Nat)(cells:AA AF)(B:Nat)(m':Mk)(s:Bi):zP:=λ_ h=>∃(s':Bi)(J:AB),Cb I (Bb s.a).toList J (Bb s'.a).toList/\G7 B J u j cells m' s'/\h= {r:=.t [],AV:=[(1,G0 m' u j s')],J:=J}
variable{B:Nat}{I:AB}{u:Option Addr}{j:Nat}{cells:List Value}{m m':Mk}{s s':Bi}
def G7.next(h:G7 B I u j cells m s):G7 (B+1) I u j cells m.next.2 s:=⟨h.QS,h.row,O6 h.at_,LM h.len⟩
def G7.HW{J}(h:G7 B I u j cells m s)(a:Cb I (Bb s.a).toList J (Bb s'.a).toList)(b:m'.l=m.l)(d:m'.at_<=m.at_+1)(e:lN m'.code<=lN m.code+1)(c:C8 J 2 211 (m'.code.flatMap Cs) s'):G7 (B+1) J u j cells m' s':=
 ⟨by rw[b];exact Av.Bf a.le h.QS λ_ _ q=>q,c,by have:=h.at_;omega,by have:=h.len;omega⟩
def Nk(l i):CN l i<=255:=by
 rw[CN];cases l[i]? with
 |none=>exact Bm _
 |some x=>have:=x.toNat_lt;show x.toNat<=_;omega
def AEq(h:G7 B I u j cells m s)(a:B<=999999):Fn 93 [.p 1 0] [(1,G0 m u j s)] I (λ_ h=>h= {r:=.v<|iV m.next.1,AV:=[(1,G0 m.next.2 u j s)],J:=I}) nO:=
 AEh I m.l u j m.at_ s cells h.QS (by have:=h.at_;omega)
def PQ(h:G7 B I u j cells m s)(f:B<=999999)(c a):Fn 92 [.p 1 0,.v<|iV c,.v<|iV a] [(1,G0 m u j s)] I (M2 I u j cells (B+1) (m.BD c a) s) nO:=
 Fn.to (Yz I m.l u j m.at_ s m.code h.row (by have:=h.len;omega) ⟨c,a⟩) λe x=>by rintro⟨s',J,b,d,rfl⟩;exact⟨s',J,b,h.HW (m':=m.BD c a) b rfl (Cv _) (by show(m.code++[_]).length<=_;simp) d,rfl⟩
def AKu(h:G7 B I u j cells m s)(d:B<=999999)(k):Fn 143 [.p 1 0,.v<|iV k] [(1,G0 m u j s)] I (M2 I u j cells (B+1) (m.Dq k) s) nO:=
 Fn.to (AXd I m.l u j m.at_ s m.code h.row (by have:=h.len;omega) k) λc x=>by rintro⟨s',J,a,b,rfl⟩;exact⟨s',J,a,h.HW (m':=m.Dq k) a rfl (Cv _) (by show(m.code++[_]).length<=_;simp) b,rfl⟩
def AY6(h:G7 B I u j cells m s)(d:B<=999999):Fn 191 [.p 1 0] [(1,G0 m u j s)] I (M2 I u j cells (B+1) m.number s) nO:=
 Fn.to (AY7 I m.l u j m.at_ s cells h.QS (by have:=h.at_;omega) m.code h.row (by have:=h.len;omega)) λc x=>by rintro⟨s',J,a,b,rfl⟩;exact⟨s',J,a,h.HW (m':=m.number) a rfl (Ag _) (by show(m.code++[_]).length<=_;simp) b,rfl⟩
def AYE(h:G7 B I u j cells m s)(d:B<=999999):Fn 192 [.p 1 0] [(1,G0 m u j s)] I (M2 I u j cells (B+1) m.mark s) nO:=
 Fn.to (AYF I m.l u j m.at_ s cells h.QS (by have:=h.at_;omega) m.code h.row (by have:=h.len;omega)) λc x=>by rintro⟨s',J,a,b,rfl⟩;exact⟨s',J,a,h.HW (m':=m.mark) a rfl (Ag _) (by show(m.code++[_]).length<=_;simp) b,rfl⟩
def G7.mono{C}(h:G7 B I u j cells m s)(a:B<=C):G7 C I u j cells m s:=⟨h.QS,h.row,Ch h.at_ a,Ch h.len a⟩
def JO(I:AB)(x a k r:Nat)(d:a%k=r)(b:a<=1000000)(c:0<k/\k<=1000):Hint:=.BZ (.binOp .rem 3 (.tmp x) (.const<|iV k) 3) [(x,.v<|iV a)] [] I (.v<|iV r) (by rw[<-d];exact AEU I x a k b c)
structure X8(N:AB)(o:Bi)(B:Nat)(I:AB)(u:AU Au)(j:Nat)(cells:AA AF)(m:Mk)(s:Bi):Prop where
 st:Cb N (Bb o.a).toList I (Bb s.a).toList
 ms:G7 B I u j cells m s
section
variable {F:FuncId} {O:Func} {n B C:Nat} {I J N:AB} {w:World} {ρ:Nat->Nat} {A:List Nat} {R:Ec} {f:Bv} {u:Option Addr} {j:Nat} {cells:List Value} {m m':Mk} {s o:Bi} {c a key:Nat} (h:X8 N o B J u j cells m s)
include h
def E6(b:B<=999999:=by omega):Fn 92 [.p 1 0,.v<|iV c,.v<|iV a] [(1,G0 m u j s)] J (M2 J u j cells (B+1) (m.BD c a) s) nO:=PQ h.ms b c a
def MZ(b:B<=999999:=by omega):Fn 143 [.p 1 0,.v<|iV c] [(1,G0 m u j s)] J (M2 J u j cells (B+1) (m.Dq c) s) nO:=AKu h.ms b c
def nuT(b:B<=999999:=by omega):Fn 191 [.p 1 0] [(1,G0 m u j s)] J (M2 J u j cells (B+1) m.number s) nO:=AY6 h.ms b
def Oa(b:B<=999999:=by omega):Fn 192 [.p 1 0] [(1,G0 m u j s)] J (M2 J u j cells (B+1) m.mark s) nO:=AYE h.ms b
def cE{G b}(k:Fn G b [(1,G0 m u j s)] J (M2 J u j cells C m' s) nO)
 (i:∀d K,X8 N o C K u j cells m' d->At F O n I w ρ A R (rX [] n A<|f.out (BA []) {r:=.t [],AV:=[(1,G0 m' u j d)],J:=K}).f)
 (l:FH f n G [] [(1,G0 m u j s)] b J:=by exact kR)
 (e:∀d K,Rs [] n A (f.out (BA []) {r:=.t [],AV:=[(1,G0 m' u j d)],J:=K}):=by intro _ _;exact kR):At F O n I w ρ A R f:=
 A0 k [] (hobs:=l) λ_ q=>by obtain⟨d,K,p,g,rfl⟩:=q;exact gG (i d K ⟨h.st.trans p,g⟩)<|e d K
def cN(b:AB->Mk->G8 prog)
 (g:X8 N o (B+1) J u j cells m.next.2 s->At F O n I w ρ A R (rX (b J m) n A<|f.out (BA []) {r:=.v<|iV m.next.1,AV:=[(1,G0 m.next.2 u j s)],J:=J}).f)
 (d:B<=999999:=by omega)
 (i:FH f n 93 [] [(1,G0 m u j s)] [.p 1 0] J:=by exact kR)
 (e:Rs (b J m) n A (f.out (BA []) {r:=.v<|iV m.next.1,AV:=[(1,G0 m.next.2 u j s)],J:=J}):=by exact kR):At F O n I w ρ A R f:=
 A0 (AEq h.ms d) [] (hobs:=i) λ_ q=>by subst q;exact gg _ (g ⟨h.st,h.ms.next⟩) e
def fE(d:B<=C:=by omega)(hend:KY Bt O.results.toList A [] key f=sM {r:=.t [],AV:=[(1,G0 m u j s)],J:=J}:=by kernel_rfl)(b:100<=key:=by assumption):At F O n N w ρ A (Ends A N ρ key w (M2 N u j cells C m o) nO) f:=
 dn [] ⟨s,J,h.st,h.ms.mono d,rfl⟩ hend b
end
def AEv(m:Mk):m.next.1<=255:=Nk _ _
def mR(s k:Nat)(b:0<k/\k<=1000:=by decide):AB->Mk->G8 prog:=λJ m=>[(s,JO J (s-1) m.next.1 k (m.next.1%k) rfl (Ch (AEv m) dC) b)]
def mA(s c k:Nat)(b:(0<k/\k<=1000)/\c<=1000:=by decide):AB->Mk->G8 prog:=λJ m=>(s+1,hW (c+((m.next.1%k:Nat):Int)) ((c+m.next.1%k:Nat):Int) oG (by have:=JE m.next.1 b.1.1;omega))::mR s k b.1 J m
def mE(I:AB)(s d:Nat){n r:Nat}(e:n%d=r)(b:n<=255)(x:G8 prog:=[])(g:0<d/\d<=1000:=by decide):AB->Mk->G8 prog:=λ_ _=>(s,JO I (s-1) n d r e (Ch b dC) g)::x
def aB(n:Nat):G8 prog:=[157,194,248,274].map λs=>(s,hT<|((n+1:Nat):Int)>0)
def AC3{B I u j cells m s}(h:G7 B I u j cells m s)(r:B<=999900)(b)(t:b<3):
 Fn 142 [.p 1 0,.v<|iV b] [(1,G0 m u j s)] I (M2 I u j cells (B+16) (m.FZ b) s) nO:=by
 have p:=JE m.next.2.next.1<|show 32>0 from dC;have q:=JE m.next.2.next.2.next.1<|show 4>0 from dC;have i:=AEv m.next.2.next.2;have e:=AEv m.next.2;rw[show m.FZ b=Mk.AC2 m.next.2.next.2 (m.next.1%8) (m.next.2.next.1%32) (m.next.2.next.2.next.1%4) b from rfl];generalize d:m.next.2.next.1%32=k at p⊢;generalize el:m.next.2.next.2.next.1%4=l at q⊢;replace h:X8 I s B I u j cells m s:=⟨.refl _ _,h⟩;by_cases v:k=16\/k=17\/k=19\/k=20\/k=21\/k=26\/k=28
 .obtain rfl|⟨n,rfl⟩:b=0\/∃n,b=n+1:=by cases b;exact .inl rfl;exact .inr ⟨_,rfl⟩
  .refine fo func142 λρ key w g=>gG<|cN h (mR 8 8) λh=> ?_;obtain(rfl|rfl|rfl|rfl|rfl)|(rfl|rfl):(k=16\/k=17\/k=19\/k=20\/k=21)\/(k=26\/k=28):=oG
   iterate 5 exact cN h (mE I 11 32 d e) λh=>cE h (MZ h) λ_ _ h=>cE h (Oa h) λ_ _ h=>cE h (E6 h) λ_ _ h=>fE h
   iterate 2 exact cN h (mE I 11 32 d e) λh=>cE h (E6 h) λ_ _ h=>cE h (E6 h) λ_ _ h=>fE h
  .refine fo func142 λρ key w g=>gG<|cN h (mR 8 8) λh=> ?_;obtain(rfl|rfl)|(rfl|rfl|rfl)|rfl|rfl:(k=16\/k=17)\/(k=19\/k=20\/k=21)\/k=26\/k=28:=oG
   iterate 2
    obtain rfl|rfl|rfl|rfl:l=0\/l=1\/l=2\/l=3:=oG
    iterate 4 exact cN h (mE I 11 32 d e<|aB n) λh=>cN h (mE I 164 4 el i) λh=>cE h (MZ h) λ_ _ h=>cN h (mR 171 4) λh=>cE h (E6 h) λ_ _ h=>cE h (Oa h) λ_ _ h=>cE h (E6 h) λ_ _ h=>cE h (E6 h) λ_ _ h=>fE h
   iterate 3
    obtain rfl|rfl|rfl|rfl:l=0\/l=1\/l=2\/l=3:=oG
    iterate 4 exact cN h (mE I 11 32 d e<|aB n) λh=>cN h (mE I 200 4 el i) λh=>cE h (MZ h) λ_ _ h=>cN h (mR 207 4) λh=>cE h (E6 h) λ_ _ h=>cN h (mA 212 4 4) λh=>cE h (E6 h) λ_ _ h=>cE h (Oa h) λ_ _ h=>cE h (E6 h) λ_ _ h=>cE h (E6 h) λ_ _ h=>fE h
   exact cN h (mE I 11 32 d e<|aB n) λh=>cE h (Oa h) λ_ _ h=>cE h (E6 h) λ_ _ h=>cE h (E6 h) λ_ _ h=>fE h;exact cN h (mE I 11 32 d e<|aB n) λh=>cE h (MZ h) λ_ _ h=>cE h (E6 h) λ_ _ h=>cE h (E6 h) λ_ _ h=>fE h
 .refine fo func142 λρ key w g=>gG<|cN h (mR 8 8) λh=> ?_;obtain rfl|rfl|(rfl|rfl)|(rfl|rfl|rfl)|(rfl|rfl|rfl)|(rfl|rfl|rfl)|(rfl|rfl|rfl)|rfl|(rfl|rfl|rfl)|rfl|rfl|rfl|rfl|rfl:k=0\/k=1\/(k=2\/k=3)\/(k=4\/k=5\/k=9)\/(k=6\/k=7\/k=8)\/(k=10\/k=13\/k=18)\/(k=11\/k=14\/k=15)\/k=12\/(k=22\/k=23\/k=24)\/k=25\/k=27\/k=29\/k=30\/k=31:=oG;exact cN h (mE I 11 32 d e) λh=>cE h (nuT h) λ_ _ h=>cE h (MZ h) λ_ _ h=>cN h (mA 27 7 7) λh=>cE h (E6 h) λ_ _ h=>cE h (E6 h) λ_ _ h=>fE h;exact cN h (mE I 11 32 d e) λh=>cN h (mA 38 25 2) λh=>cE h (E6 h) λ_ _ h=>cE h (Oa h) λ_ _ h=>cN h (mA 46 22 2) λh=>cE h (E6 h) λ_ _ h=>cE h (E6 h) λ_ _ h=>fE h
  iterate 2 exact cN h (mE I 11 32 d e) λh=>cE h (Oa h) λ_ _ h=>cE h (E6 h) λ_ _ h=>fE h
  iterate 3 exact cN h (mE I 11 32 d e) λh=>cE h (MZ h) λ_ _ h=>cE h (Oa h) λ_ _ h=>cE h (E6 h) λ_ _ h=>cE h (E6 h) λ_ _ h=>fE h
  iterate 3
   obtain rfl|rfl|rfl|rfl:l=0\/l=1\/l=2\/l=3:=oG
   iterate 4 exact cN h (mE I 11 32 d e) λh=>cN h (mE I 85 4 el i) λh=>cE h (MZ h) λ_ _ h=>cE h (E6 h) λ_ _ h=>cE h (E6 h) λ_ _ h=>fE h
  iterate 3 exact cN h (mE I 11 32 d e) λh=>cE h (MZ h) λ_ _ h=>cE h (E6 h) λ_ _ h=>cE h (E6 h) λ_ _ h=>fE h
  iterate 3 exact cN h (mE I 11 32 d e) λh=>cE h (MZ h) λ_ _ h=>cE h (MZ h) λ_ _ h=>cE h (E6 h) λ_ _ h=>fE h
  exact cN h (mE I 11 32 d e) λh=>cE h (Oa h) λ_ _ h=>cE h (E6 h) λ_ _ h=>cE h (E6 h) λ_ _ h=>fE h
  iterate 3 exact cN h (mE I 11 32 d e) λh=>cE h (MZ h) λ_ _ h=>cE h (Oa h) λ_ _ h=>cE h (E6 h) λ_ _ h=>fE h
  exact cN h (mE I 11 32 d e) λh=>cE h (Oa h) λ_ _ h=>cN h (mA 240 42 2) λh=>cE h (E6 h) λ_ _ h=>fE h;exact cN h (mE I 11 32 d e) λh=>cE h (MZ h) λ_ _ h=>cE h (MZ h) λ_ _ h=>cE h (E6 h) λ_ _ h=>cE h (E6 h) λ_ _ h=>fE h;exact cN h (mE I 11 32 d e) λh=>cE h (nuT h) λ_ _ h=>cE h (E6 h) λ_ _ h=>fE h;exact cN h (mE I 11 32 d e) λh=>cN h (mR 297 4) λh=>cE h (E6 h) λ_ _ h=>fE h;exact cN h (mE I 11 32 d e) λh=>cE h (E6 h) λ_ _ h=>cE h (E6 h) λ_ _ h=>fE h
variable{F:FuncId}{O:Func}{n:Nat}{w:World}{ρ:Nat->Nat}{A:List Nat}{R:Ec}{f:Bv}
def Le(b)(I':AB)(o)(hobs:(f.rg.isNone,f.σ.im)=(true,I'))(hb:I'.B8 b o)(h0:I.Ak b=none)(h:At F O n I w ρ A R<|f.ANR<|I'.never b o):At F O n I w ρ A R f:=by let⟨h1,a⟩:=IC hobs;subst a;exact⟨λhF=>AYh b o h1 hb h0<|h.out hF⟩
def G7.Bq(h:G7 B I u j cells m s):s.n=lN m.code:=(h.row.Mn (λ_=>rfl) dC).1
def AUJ{l:AA Lz.Op}{x:Nat}{AE:AA AF}:∀ {i:Nat},i<lN l->BX (l.flatMap Cs++AE) (0+i*2+1) [Value.int iK (x:Int)]=(l.modify i λo=>{o with a:=x}).flatMap Cs++AE:=by
 induction l with
 |nil=>intro i h;simp at h
 |cons y l b=>
  intro i h;cases i with
  |zero=>rfl
  |succ i=>
   have:=b (by simpa using h);rw[List.modify_succ_cons,Kb,Kb,Eb,Eb,<-this];rw[show 0+(i+1)*2+1=(0+i*2+1)+2 by omega];rfl
def AUI{l:AA Lz.Op}{a:AA AF}:∀ {i:Nat} {o:Lz.Op},l[i]? =sM o->(l.flatMap Cs++a)[0+i*2+0]? =sM (iV o.code):=by
 induction l with
 |nil=>intro i o h;simp at h
 |cons y l b=>
  intro i o h;cases i with
  |zero=>simp at h;subst h;rfl
  |succ i=>
   have:=b (by simpa using h);rwa[Kb,show 0+(i+1)*2+0=(0+i*2+0)+2 by omega]
def ADv(h:G7 B I u j cells m s){b}(c:s.a=sM ⟨b,0,nO⟩)(i x:Nat)(hi:i<lN m.code):∃K,(∀ {o:Bw} {tm:Nat->SV} {key:Nat} {ad xo:Operand},o.op=.store 3 ad xo->ev tm ad=.v (.pointer<|sM ⟨b,0+i*2+1,nO⟩)->ev tm xo=.v (iV x)->HS prog o tm key [] I (λh=>h= {r:=.v undef,AV:=[],J:=K}) nO)/\
 Cb I (Bb s.a).toList K (Bb s.a).toList/\G7 B K u j cells (m.KZ i x) s/\I.Da K:=by
 have t:=h.Bq;have hl:=HB (n:=2) (f:=Cs) (λ_=>rfl) m.code;rcases h.row.at_ with⟨_,q1,_⟩|⟨b',AE,q1,q2,q3,q4,q5⟩;rw[c]at q1;cases q1;rw[c]at q1;obtain rfl:b=b':=by simpa using q1
 have d:=AUJ (x:=x) (AE:=AE) hi;have g:Cb I (Bb s.a).toList (I.plus b<|.cells ((m.code.modify i λo=>{o with a:=x}).flatMap Cs++AE).toArray 211 (0,0)) (Bb s.a).toList:=by refine⟨λ_ _ h=>h,λy o p k=>K0 p λe=> ?_,λy p=>.inl p⟩;subst e;exact k (by rw[c];simp[Bb])
 refine⟨I.plus b<|.cells ((m.code.modify i λo=>{o with a:=x}).flatMap Cs++AE).toArray 211 (0,0),λ{o tm key ad xo} h1 h2 h3=> ?_,g,⟨Av.Bf g.le h.QS λ_ _ q=>q,⟨?_,?_,.inr ⟨b,AE,c,Li q2.at_,?_,q4,q5⟩⟩,h.at_,?_⟩,λ_ _ h=>h⟩;have:=AVX (P:=prog) (L:=Bt) Be (key:=key) (need:=[]) (cs:=[Value.int iK (x:Int)]) (e:=211) h1 h2 (by rw[h3];rfl) (by rfl) (by rfl) (by rw[CK,hl];show 0+i*2+1+1<=_;omega) (by simp[Value.oneCell']) q2;rw[d]at this;exact this;show((m.code.modify i _).flatMap Cs).length=_;rw[HB (n:=2) (f:=Cs) λ_=>rfl,N8,t];intro v l;let⟨o,_,l⟩:=LJ.1 l;exact Wy o v l;show((m.code.modify i _).flatMap Cs).length+lN AE=_;rwa[HB (n:=2) (f:=Cs) λ_=>rfl,N8,<-hl];show(m.code.modify i _).length<=B;rw[N8];exact h.len
def AF7{K c}(hle:I.Da K):∀h:Ab,h= {r:=.v undef,AV:=[],J:=K}->h.wf I c [] []:=by rintro h rfl;exact⟨nA,nA,nA,sP,hle,sP⟩
def G7.place(h:G7 B I u j cells m s)(a:m.code≠[]):∃b,s.a=sM ⟨b,0,nO⟩:=by have c:=h.Bq;rcases h.row.at_ with⟨q,_,_⟩|⟨b,_,q,_⟩;rw[q]at c;exact(a<|ABe.1 c.symm).elim;exact⟨b,q⟩
def last_at{m:Mk}(a:m.code≠[]):m.code[lN m.code-1]? =sM (m.code.getLast?.getD Al):=by rw[P8];have:lN m.code-1<lN m.code:=Nat.sub_lt (ABg.2 a) dC;rw[BS this];rfl
def AZi(h:G7 B I u j cells m s)(hB:B<=999000)(a)(C:a<3):Fn 91 [.p 1 0,.v<|iV a] [(1,G0 m u j s)] I (M2 I u j cells (B+24) (m.part a) s) nO:=by
 have av:m.next.1<=255:=Nk m.l m.at_;have h1:=h.next;have v:=h1.Bq;generalize hk:m.next.1%8=k;have c:m.part a=(if k<3 then(if((((m.next.2.BD 20 0).FZ a).code.getLast?.getD Al).code=19)then(((m.next.2.BD 20 0).FZ a).KZ (lN m.next.2.code)<|lN ((m.next.2.BD 20 0).FZ a).code).BD 3 1 else(((((m.next.2.BD 20 0).FZ a).BD 21 0).BD 15<|lN (((m.next.2.BD 20 0).FZ a).BD 21 0).code+2).KZ (lN m.next.2.code) ((((m.next.2.BD 20 0).FZ a).BD 21 0).BD 15<|lN (((m.next.2.BD 20 0).FZ a).BD 21 0).code+2).code.length).BD 3 1)
  else if k=3 then(((m.next.2.Dq 1).BD 16 0).FZ a).KZ (lN m.next.2.code+1) (lN (((m.next.2.Dq 1).BD 16 0).FZ a).code) else m.next.2.FZ a):=by
  rw[<-hk];rfl
 refine fo func91 λρ az w aq=>gG<|A0 (AEq h oG) [] ?_;rintro _ rfl;generalize ay:m.next.2=y at*;by_cases c3:k<3;rw[Ac c3]at c;refine gg [(8,JO I 7 m.next.1 8 k hk oG oG),(19,hT<|(k:Int)<3)]<|A0 (PQ h1 oG 20 0) [] ?_;rintro _ ⟨s2,J2,x,M,rfl⟩;refine gG<|A0 (AC3 M oG a C) [] ?_;rintro _ ⟨⟨sa,g,Y⟩,S,Q,i,rfl⟩;let⟨D,hD,_,ai,_⟩:=V0 (y.BD 20 0) C;have U:(y.BD 20 0).code=y.code++[⟨20,0⟩]:=rfl;rw[U]at hD;generalize ar:(y.BD 20 0).FZ a=o at*;have G:lN y.code+1<=lN o.code:=by rw[hD];simp
 have T:o.code≠[]:=λq=>by rw[q]at G;simp at G
 have ad:g=lN o.code:=i.Bq;have ax:=i.len;let⟨b,t⟩:=i.place T;have t:sa=sM ⟨b,0,nO⟩:=t;subst t;rcases i.row.at_ with⟨_,q1,_⟩|⟨b',ah,q1,q2,_⟩;cases q1;obtain rfl:b=b':=by simpa using q1
 have E:((o.code.flatMap Cs++ah).toArray:Ae AF)[0+(g-1)*2+0]? =sM (.int iK ((o.code.getLast?.getD Al).code:Int)):=by rw[Mv,ad];exact AUI<|last_at T
 by_cases Z:(o.code.getLast?.getD Al).code=19;rw[Ac Z]at c;let⟨K,z,ae,d,aa⟩:=ADv i rfl s.n g (by rw[v];omega);refine gg [(34,hW ((g:Int)-1) ((g-1:Nat):Int)),(35,Br S PN b 0 g Y<|g-1),(37,.Kz S _ _<|IZ Ek rfl q2.CW E),(38,hE ((o.code.getLast?.getD Al).code:Int) 19),(49,Br S PN b 0 g Y s.n)]<|act (need:=[]) (z (ad:=.tmp 50) (xo:=.tmp 48) kR kR kR) (AF7 aa) ?_;rintro _ rfl;refine gG<|A0 (PQ d oG 3 1) [] ?_;rintro _ ⟨s5,J5,X,p,rfl⟩;refine gG ?_;have e:m.part a=(o.KZ s.n g).BD 3 1:=by rw[c,v,ad]
 exact dn [] ⟨s5,J5,((x.trans Q).trans ae).trans X,by rw[e];exact p.mono oG,by rw[e]⟩ (h:={r:=.t [],AV:=[(1,G0 ((o.KZ s.n g).BD 3 1) u j s5)],J:=J5});rw[AY Z]at c;refine gg [(34,hW ((g:Int)-1) ((g-1:Nat):Int)),(35,Br S PN b 0 g Y<|g-1),(37,.Kz S _ _<|IZ Ek rfl q2.CW E),(38,hN ((o.code.getLast?.getD Al).code:Int) 19)]<|A0 (PQ i oG 21 0) [] ?_;rintro _ ⟨⟨a0,l,a1⟩,J4,W,d,rfl⟩;have V:l=lN (o.BD 21 0).code:=d.Bq;have aj:=d.len;refine gg [(61,hW ((l:Int)+2) ((l+2:Nat):Int))]<|A0 (PQ d oG 15<|l+2) [] ?_;rintro _ ⟨⟨ao,P,ap⟩,J5,X,p,rfl⟩;have am:P=lN ((o.BD 21 0).BD 15<|l+2).code:=p.Bq;have L:lN y.code+1<=lN ((o.BD 21 0).BD 15<|l+2).code:=by show _<=lN ((o.code++[_])++[_]);simp<;>omega
 let⟨b5,N⟩:=p.place (λq=>by rw[q]at L;simp at L);have N:ao=sM ⟨b5,0,nO⟩:=N;subst N;let⟨K,z,ag,ak,ac⟩:=ADv p rfl s.n P (by rw[v];omega);refine gg [(73,Br J5 PN b5 0 P ap s.n)]<|act (z (ad:=.tmp 74) (xo:=.tmp 72) kR kR kR) (AF7 ac) ?_;rintro _ rfl;refine gG<|A0 (PQ ak oG 3 1) [] ?_;rintro _ ⟨s7,J7,an,al,rfl⟩;refine gG ?_;have e:m.part a=(((o.BD 21 0).BD 15<|l+2).KZ s.n P).BD 3 1:=by rw[c,v,am,V]
 exact dn [] ⟨s7,J7,((((x.trans Q).trans W).trans X).trans ag).trans an,by rw[e];exact al.mono oG,by rw[e]⟩;rw[AY c3]at c;by_cases c4:k=3;rw[Ac c4]at c;refine gg [(8,JO I 7 m.next.1 8 k hk oG oG),(19,hF<|(k:Int)<3),(79,hE (k:Int) 3)]<|A0 (AKu h1 oG 1) [] ?_;rintro _ ⟨s2,J2,x,M,rfl⟩;refine gG<|A0 (PQ M oG 16 0) [] ?_;rintro _ ⟨s3,S,Q,i,rfl⟩;refine gG<|A0 (AC3 i oG a C) [] ?_;rintro _ ⟨⟨sa,g,Y⟩,J4,W,d,rfl⟩;let⟨D,hD,_,ai,_⟩:=V0 ((y.Dq 1).BD 16 0) C;have U:((y.Dq 1).BD 16 0).code=(y.code++[⟨2,1⟩])++[⟨16,0⟩]:=rfl;rw[U]at hD;generalize au:((y.Dq 1).BD 16 0).FZ a=m4 at*;have H:lN y.code+2<=lN m4.code:=by rw[hD];simp
 have V:g=lN m4.code:=d.Bq;have aj:=d.len;have aw:=h1.len;let⟨b,t⟩:=d.place (λq=>by rw[q]at H;simp at H);have t:sa=sM ⟨b,0,nO⟩:=t;subst t;let⟨K,z,af,p,ab⟩:=ADv d rfl (s.n+1) g (by rw[v];omega);refine gg [(92,sH s.n),(98,Br J4 PN b 0 g Y<|s.n+1)]<|act (need:=[]) (z (ad:=.tmp 99) (xo:=.tmp 97) kR kR kR) (AF7 ab) ?_;rintro _ rfl;refine gG ?_;have e:m.part a=m4.KZ (s.n+1) g:=by rw[c,v,V]
 exact dn [] ⟨_,K,((x.trans Q).trans W).trans af,by rw[e];exact p.mono oG,by rw[e]⟩ (h:={r:=.t [],AV:=[(1,G0 (m4.KZ (s.n+1) g) u j ⟨sM ⟨b,0,nO⟩,g,Y⟩)],J:=K});rw[AY c4]at c;refine gg [(8,JO I 7 m.next.1 8 k hk oG oG),(19,hF<|(k:Int)<3),(79,hN (k:Int) 3)]<|A0 (AC3 h1 oG a C) [] ?_;rintro _ ⟨s2,J2,x,M,rfl⟩;refine gG ?_;exact dn [] ⟨s2,J2,x,by rw[c];exact M.mono oG,by rw[c]⟩ (h:={r:=.t [],AV:=[(1,G0 (y.FZ a) u j s2)],J:=J2})
def AZY(k c){vs e}(a:(SB f A k,f.σ.im)=(sM (vs,e),c))(h:∀b,c.free b->At F O n I w ρ A R (f.B4 k b<|c.plus b<|.cells vs.toArray e (0,0))):At F O n I w ρ A R f:=by let⟨d,g⟩:=IC a;subst g;exact⟨λhF=>AZZ (c:=ctx prog F O n I w ρ A) k d λb i=>(h b i).out hF⟩
def AMZ{t kt et b m x es I'}(i:(Mo f).op=.range t x)(j:prog.underlying t=sM (.map kt et))(o:ev f.σ.tm x=.v (.map<|sM b))(c:I'.CW b=sM (.map es m))(a:OB f n [] I')
 (hnext:At F O n I w ρ A R<|f.act {r:=.p (EL f) 0,nb:=[.Aq<|.mapIter (sM b) m #[] m],J:=I'}):At F O n I w ρ A R f:=by
 refine act (need:=[]) (hobs:=a) (AVV (I:=I') i j o c) ?_ ?_;rintro h rfl;refine{r:=λk e=> ?_,u:=nA,n:=λb c k e=> ?_,l:=by simp,le:=AB.Hj _,d:=by simp};simp[SV.A3]at e;subst e;right;show(CX (EL f) [AK.Aq<|.mapIter (sM b) m #[] m]<|EL f+0).isSome;rw[Nv];rfl;simp at c;subst c;cases e;rintro h rfl;exact hnext
def ALc{b m k:Nat}{x:Operand}{es:Ae Ar}{CG:Ae Nat}{I':AB}{kS vS:Ar->SV}(v:(Mo f).op=.next x fF)(z:ev f.σ.tm x=.p k 0)(g:I'.CW b=sM (.map es m))(q:∀e∈es.toList,e.born<m)(i:∀e∈es.toList,∀ρ,AO ρ (kS e)=e.key)(y:∀e∈es.toList,∀ρ,AO ρ (vS e)=e.val)(p:∀e∈es.toList,(kS e).A3=[])(s:∀e∈es.toList,(vS e).A3=[])
 (o:OB f n [(k,.Aq<|.mapIter (sM b) m CG m)] I')
 (hend:(leftOf es CG).size=0->At F O n I w ρ A R (f.act {r:=.t [.v fV],J:=I'}))
 (hnext:∀e∈(leftOf es CG).toList,At F O n I w ρ A R<|f.act {r:=.t [.v tV,kS e,vS e],AV:=[(k,.Aq<|.mapIter (sM b) m (CG.push e.born) m)],J:=I'}):At F O n I w ρ A R f:=by
 refine act (need:=[(k,.Aq<|.mapIter (sM b) m CG m)]) (hobs:=o) (AVU (I:=I') v z g q i y) ?_ ?_;rintro h (⟨_,rfl⟩|⟨e,a,rfl⟩);exact{r:=nA,u:=nA,n:=nA,l:=by simp,le:=AB.Hj _,d:=by simp};have c:e∈es.toList:=by rw[leftOf]at a;simp only[P4,Ho]at a;exact a.1
 refine{r:=λk i=> ?_,u:=λB j=> ?_,n:=nA,l:=by simp,le:=AB.Hj _,d:=by simp};simp[SV.A3,DF,p e c,s e c]at i;rw[A9.1 j];exact⟨A9.2 rfl,λb g=>by rw[(IC<|A9.1 g).2];rfl,nA⟩;rintro h (⟨t,rfl⟩|⟨e,a,rfl⟩);exact hend t;exact hnext e a
def AI4{b m k:Nat}{x:Operand}{es:Ae Ar}{CG:Ae Nat}{I':AB}{kS vS:Ar->SV}{e:Ar}(s:(Mo f).op=.entry x)(v:ev f.σ.tm x=.p k 0)(c:I'.CW b=sM (.map es m))(p:(es.toList.map (·.born)).Nodup)(g:e∈es.toList)(i:∀ρ,AO ρ (kS e)=e.key)(t:∀ρ,AO ρ (vS e)=e.val)(o:(kS e).A3=[])(q:(vS e).A3=[])
 (a:OB f n [(k,.Aq<|.mapIter (sM b) m (CG.push e.born) m)] I')
 (hnext:At F O n I w ρ A R<|f.act {r:=.t [kS e,vS e],J:=I'}):At F O n I w ρ A R f:=by
 refine act (need:=[(k,.Aq<|.mapIter (sM b) m (CG.push e.born) m)]) (hobs:=a) (AVP (I:=I') s v c p g i t) ?_ ?_;rintro h rfl;exact{r:=(λk i=>by simp[SV.A3,DF,o,q]at i),u:=nA,n:=nA,l:=by simp,le:=AB.Hj _,d:=by simp};rintro h rfl;exact hnext
def APq(I:AB)(d:AA Nm):zP:=λ_ h=>∃b c a,h= {r:=.v<|.slice (aP b) (lN d) c,J:=I.plus b<|Gh d a}/\lN d+lN a=c/\c<=maxLen/\I.free b
def ARo(I a h g c)(j:I.B8 h<|Gh a c)(u:lN a+lN c=g)(o:g<=maxLen)(v:lN a<=16777216):Fn 118 [.v<|.slice (aP h) (lN a) g] [] I (APq I a) nO:=by
 have p:∀e,Reads I e (.v<|.slice (aP h) (lN a) g) 1 (lN a) (a.map BQ):=λe=>
  (show C8 I 1 9 (a.map BQ) ⟨sM ⟨h,0,nO⟩,lN a,g⟩from⟨sP,Uv,.inr ⟨h,c,rfl,j,by simp;omega,by show lN a<=g;omega,o⟩⟩).reads (need:=e)
 have hlen:lN (a.map BQ)=lN a*1:=sP;refine Ju 8 func118 ntmps118 rfl rfl kR λρ q w k=>gg [(4,.op I _ (.v fV)<|MV (a:=sM ⟨h,0,nO⟩) (n:=lN a) (c:=g) (.tmp 3) (.const zS) AON)]<|act (need:=[(124,.As [] 9)]) (Kk Be (n:=0) (cap:=0) (vs:=[]) (CQ:=[]) (x:=.v<|.slice (aP h) (lN a) g) Ve kR sP rfl rfl sP (p _) (Ag _) (by rw[maxLen];omega)<|by show 0+lN a<=16777216;omega) (QO<|.inr ⟨_,_,_,rfl,rfl⟩) ?_;rintro s ⟨i,d,t,l,m,rfl⟩;refine gG<|AZY 140 I (vs:=a.map BQ++d) (e:=9) kR λb j=>gG ?_;exact dn [] ⟨b,i,d,by rw[FE];rfl,by simp at m⊢;omega,l,j⟩ (h:={r:=.v<|.slice (aP b) (0+lN a) i,J:=I.plus b<|.cells (a.map BQ++d).toArray 9 (0,0)})
def C5.len{a b:Type}{R}:∀ {l:AA a} {m:AA b},C5 R l m->lN l=lN m
 |_,_,.nil=>rfl
 |_,_,.cons _ h=>by simp[h.len]
def C5.erase{b c:Type}{R}:∀ {l:AA b} {m:AA c} (j:Nat),C5 R l m->C5 R (l.eraseIdx j) (m.eraseIdx j)
 |_,_,_,.nil=>by simpa using C5.nil
 |_,_,0,.cons _ h=>by simpa using h
 |_,_,j+1,.cons a h=>by simpa using C5.cons a<|h.erase j
def C5.VC{b c:Type}{R}:∀ {l:AA b} {m:AA c},C5 R l m->∀ {p:b×c},p∈l.zip m->R p.1 p.2
 |_,_,.nil,_,h=>by simp at h
 |_,_,.cons a hr,p,h=>by simp[List.zip_cons_cons,Co]at h;rcases h with rfl|h;exact a;exact hr.VC h
def C5.zip_fst{a b:Type}{R}:∀ {l:AA a} {m:AA b},C5 R l m->(l.zip m).map (·.1)=l
 |_,_,.nil=>rfl
 |_,_,.cons _ h=>by simp[h.zip_fst]
def C5.Xj{a b:Type}{R}:∀ {l:AA a} {m:AA b},C5 R l m->(l.zip m).map (·.2)=m
 |_,_,.nil=>rfl
 |_,_,.cons _ h=>by simp[h.Xj]
def ADJ{a:Ae Ar}{j:Nat}(h:j<a.size):(a.eraseIdxIfInBounds j).toList=a.toList.eraseIdx j:=by rw[Array.eraseIdxIfInBounds];rw[RV h];simp
def Ic.erase{es n}(h:Ic es n)(j):Ic (es.eraseIdxIfInBounds j) n:=by
 by_cases a:j<es.size;have e:=ADJ a;exact⟨λx b=>h.lt x<|by rw[e]at b;exact(ABX _ _).subset b,by rw[e];exact h.nd.sublist<|(ABX _ _).map _⟩;have:es.eraseIdxIfInBounds j=es:=by rw[Array.eraseIdxIfInBounds];rw[X3 a]
 rwa[this]
def AMA{a:Type}{l:AA a}{j:Nat}{x:a}(h:l[j]? =sM x):l.Perm (x::l.eraseIdx j):=by obtain⟨b,rfl⟩:=Ci.1 h;have:=Go.ChangeMaps.set_perm l j b l[j];rw[List.set_getElem_self]at this;exact this
def PG(a:Ae Ar)(L:AA Rw)(l:AT):Ae Ar:=match G9 L l 0 with
 |some x=>a.eraseIdxIfInBounds x.1
 |none=>a
def Tg(L:AA Rw)(l:AT):AA Rw:=match G9 L l 0 with
 |some x=>L.eraseIdx x.1
 |none=>L
def AYL{d n L l}(h:C5 Hk d.toList L)(w r f)(e:w.heap[r]? =sM (.map d n)):
 (Builtin.delete_ #[176,42] f #[.map<|sM r,.agg<|HG l]).run prog w=.ok (.tuple #[]) {w with heap:=w.heap.setIfInBounds r<|.map (PG d L l) n}:=by
 have a:=ADR (w:=w) (l:=l) h;have c:=ACm (w:=w) d.isEmpty l;rw[PG];cases b:G9 L l 0 with
 |none=>
  rw[b]at a;simp[Builtin.delete_,run_underlying Xb,MapKept.run_getObj_map e,c,a,Result.andThen,MapKept.run_setObj_map _ e]
 |some x=>
  rw[b]at a;simp[Builtin.delete_,run_underlying Xb,MapKept.run_getObj_map e,c,a,Result.andThen,MapKept.run_setObj_map _ e]
def ASY{a L l}(h:C5 Hk a.toList L):C5 Hk (PG a L l).toList (Tg L l):=by
 rw[PG,Tg];cases b:G9 L l 0 with
 |none=>exact h
 |some x=>
  let⟨j,v⟩:=x;let⟨k,r,e,c,_⟩:=Ri b;simp only;have d:j<a.size:=by have:=(Ci.1 c).1;rw[<-h.len]at this;simp[Lt]at this;omega
  rw[ADJ d];exact h.erase j
def ASX{a n L l}(h:Ic a n):Ic (PG a L l) n:=by rw[PG];split;exact h.erase _;exact h
def AEk{f:Type}:∀ {l:AA f},l.Nodup->∀ {i j:Nat} (b:i<lN l) (c:j<lN l),l[i]=l[j]->i=j
 |x::l,h,i,j,b,c,e=>by
  let⟨a,d⟩:=GX.1 h;cases i with
  |zero=>
   cases j with
   |zero=>rfl
   |succ j=>exact(a<|by simp at e;rw[e];exact DR _).elim
  |succ i=>
   cases j with
   |zero=>exact(a<|by simp at e;rw[<-e];exact DR _).elim
   |succ j=>
    have:=AEk (i:=i) (j:=j) d (by simpa using b) (by simpa using c) (by simpa using e);rw[this]
def AWs{L:AA Rw}(h:(L.map (·.l)).Nodup){a b:Rw}(c:a∈L)(d:b∈L)(e:a.l=b.l):a=b:=by obtain⟨i,f,rfl⟩:=Kc c;obtain⟨j,g,rfl⟩:=Kc d;have:=AEk h (i:=i) (j:=j) (by simpa using f) (by simpa using g) (by simpa using e);subst this;rfl
def AHc{L X r0}(e:L.Perm (r0::X))(g:(L.map (·.l)).Nodup):∃k v,G9 L r0.l 0=sM (k,v)/\L[k]? =sM r0/\X.Perm (L.eraseIdx k):=by
 have b:r0∈L:=e.mem_iff.2 sP;cases a:G9 L r0.l 0 with
 |none=>exact absurd rfl<|ACN a r0 b
 |some x=>
  let⟨j,v⟩:=x;let⟨k,r,d,c,f,_⟩:=Ri a;rw[FE]at d;subst d;have h:r=r0:=AWs g (De c) b f;subst h;exact⟨j,v,rfl,c,(List.Perm.cons_inv<|e.symm.trans<|AMA c)⟩
def ASZ{L X a}(e:L.Perm (a::X))(d:(L.map (·.l)).Nodup):(Tg L a.l).Perm X:=by let⟨k,v,b,f,c⟩:=AHc e d;rw[Tg];rw[b];exact c.symm
def AaC{L X a r}(h:L.Perm (a::X))(g:(L.map (·.l)).Nodup)(e:r.l=a.l):(KA L r).Perm (r::X):=by let⟨k,v,b,c,d⟩:=AHc h g;rw[KA];rw[e,b];exact(Go.ChangeMaps.set_perm L k ((Ci.1 c).1) r).trans<|d.symm.cons r
def C9.del{I s a n}(h:C9 I s a n){x}(Q:BV x):
 ∃k,(∀(w:AN)(r:Nat)(J:BN),w.heap[r]? =some (.map a n)->(Builtin.delete_ #[175,9] J #[.map<|some r,.string<|Aa x]).run prog w=.ok (.tuple #[]) {w with heap:=w.heap.setIfInBounds r<|.map k n})/\C9 I (s.filter λp=>p.1 !=x) k n:=by
 let⟨l,t,b⟩:=h.perm;have d:∀e∈a.toList,MapKept.IsKey .string e.key:=λe P=>by
  obtain⟨i,m,rfl⟩:=Kc P;have y:(a.toList[i],l[i]'(by rw[<-b.len];exact m))∈a.toList.zip l:=by rw[P9];exact⟨i,by simp[<-b.len];simpa using m,sP⟩
  have:=b.VC y;rw[this.1];trivial
 have E:(l.map (·.1)).Nodup:=(t.map _).nodup_iff.2 h.nd;rcases MapKept.findNow_spec (d:=.string) (k:=.string<|Aa x) trivial a.toList 0 d with⟨z,A⟩|⟨j,e,z,A,M⟩;refine⟨a,λw r J B=> ?_,⟨⟨l,?_,b⟩,?_,λp f=>h.nm p (Ho.1 f).1,h.bo⟩⟩;have C:=MapKept.run_findKey (P:=prog) (w:=w) Di z;simp[Builtin.delete_,run_underlying Pw,MapKept.run_getObj_map B,MapKept.run_checkKey (P:=prog) Di<|show MapKept.IsKey .string (sV x)from trivial,C,Result.andThen,MapKept.run_setObj_map _ B];rw[RO.2];exact t;intro p H;have G:=t.mem_iff.2 H;obtain⟨i,m,rfl⟩:=Kc G;have D:i<lN a.toList:=by rw[b.len];exact m
 have y:(a.toList[i],l[i])∈a.toList.zip l:=by rw[P9];exact⟨i,by simp[b.len];simpa[b.len]using m,sP⟩
 have c:=(b.VC y).1;simp only[VT,ne_eq];intro e;have:=A _<|DR D;simp only at c;rw[e]at c;exact this c;exact h.nd.sublist<|(S7).map _;rw[FE]at z;have q:j<a.size:=by have:=(Ci.1 A).1;simpa using this
 have o:j<lN l:=by rw[<-b.len];simpa using q
 refine⟨a.eraseIdxIfInBounds j,λw r J B=>ANB (kv:=.string<|Aa x) Pw Di trivial z w r B,⟨⟨l.eraseIdx j,?_,by rw[ADJ q];exact b.erase j⟩,?_,λp f=>h.nm p (Ho.1 f).1,h.bo.erase j⟩⟩;have y:(e,l[j])∈a.toList.zip l:=by rw[P9];refine⟨j,by simp;omega,?_⟩;have:=(Ci.1 A).2;simp[<-this]
 have c:=(b.VC y).1;simp only at c;rw[M]at c;have v:l[j].1=x:=by
  have N:Dm x=Dm l[j].1:=by have:=Value.string.inj c;unfold Aa at this;exact str_inj.1 (by rw[this])
  exact(Of Q (h.nm _<|t.mem_iff.1<|DR o) N).symm
 have u:=AMA<|BS o;have F:∀p∈l.eraseIdx j,p.1≠x:=λp g L=>by have K:=(u.map (·.1)).nodup_iff.1 E;simp only[E4,GX]at K;exact K.1<|BI.2 ⟨p,g,by rw[L,v]⟩
 have O:((l[j]::l.eraseIdx j).filter λp=>p.1 !=x)=l.eraseIdx j:=by rw[ABZ<|by simp[v]];exact RO.2 λp g=>by simp[F p g]
 rw[<-O];exact((u.symm.trans t).filter _);exact h.nd.sublist<|(S7).map _
def JA(b:Ae Ar)(L:AA Rw)(a:Ae Nat):AA Rw:=((b.toList.zip L).filter λp=> !a.contains p.1.born).map (·.2)
def ADO{f:Type}(a):∀ {Z:AA f},(Z.map a).Nodup->∀ {p:f},p∈Z->∀s:Ae Nat,s.contains (a p)=fF->(Z.filter λq=> !s.contains (a q)).Perm (p::Z.filter λq=> !(s.push (a p)).contains (a q))
 |[],_,_,h,_,_=>by cases h
 |x::Z,hn,p,d,s,hs=>by
  simp only[E4,GX]at hn;rcases Co.1 d with rfl|d;have i:(Z.filter λq=> !(s.push (a p)).contains (a q))=Z.filter λq=> !s.contains (a q):=ABY λq j=>by have b:a q≠a p:=λe=>hn.1 (BI.2 ⟨q,j,e⟩);simp[Xk,b]
  rw[AGS (by show(!s.contains (a p));rw[hs];rfl),ABZ (by simp[Xk]),i];have b:a x≠a p:=λe=>hn.1 (BI.2 ⟨p,d,e.symm⟩);have g:=ADO a hn.2 d s hs;by_cases c:s.contains (a x);rwa[ABZ (by rw[c];simp),ABZ (by simp only[Xk,c];simp)];have c:s.contains (a x)=fF:=by simpa using c
  rw[AGS (by rw[c];simp),AGS (by simp only[Xk,c];simp[b])];exact(g.cons x).trans (List.Perm.swap p x _)
def AXO{b n L a e}(c:C5 Hk b.toList L)(h:Ic b n)(d:e∈(leftOf b a).toList):
 ∃r,Hk e r/\r∈L/\(JA b L a).Perm (r::JA b L (a.push e.born)):=by
 rw[leftOf]at d;simp only[P4,Ho,Jf]at d;let⟨i,j⟩:=d;have k:e∈(b.toList.zip L).map (·.1):=by rwa[c.zip_fst]
 obtain⟨p,g,rfl⟩:=BI.1 k;have f:((b.toList.zip L).map λp=>p.1.born).Nodup:=by
  have:((b.toList.zip L).map λp=>p.1.born)=((b.toList.zip L).map (·.1)).map (·.born):=by rw[Gk];rfl
  rw[this,c.zip_fst];exact h.nd
 refine⟨p.2,c.VC g,by have:=c.Xj;rw[<-this];exact BI.2 ⟨p,g,rfl⟩,?_⟩;have:=(ADO (λp:Ar×Rw=>p.1.born) f g a j).map (·.2);exact this
def AXM{b L a}(d:C5 Hk b.toList L)(c:(leftOf b a).size=0):JA b L a=[]:=by
 rw[JA];rw[List.map_eq_nil_iff,AGT];intro p f g;have e:p.1∈b.toList:=by have:=d.zip_fst;rw[<-this];exact BI.2 ⟨p,f,rfl⟩
 have:p.1∈(leftOf b a).toList:=by rw[leftOf];simp only[P4,Ho];exact⟨e,g⟩
 have hlen:lN (leftOf b a).toList=0:=by simpa using c
 rw[Ib hlen]at this;cases this
def AKl{a L}(b:C5 Hk a.toList L):JA a L #[]=L:=by rw[JA];rw[RO.2 λp _=>sP,b.Xj]
def SE{s}(h:(s.map (·.1)).Nodup){n o}:Am s n=some o↔(n,o)∈s:=by
 induction s with
 |nil=>simp[Am]
 |cons x s a=>
  simp only[List.map_cons,List.nodup_cons]at h;have a:=a h.2;rw[Am]at a⊢;rw[List.find?_cons];by_cases e:x.1=n;rw[show(x.1==n)=true by simp[e]];simp only[Option.map_some,Option.some.injEq,List.mem_cons];constructor;intro q;left;rw[<-q,<-e];rintro(q|q);rw[<-q];exact absurd (List.mem_map.2 ⟨(n,o),q,rfl⟩) (by rw[<-e];exact h.1);rw[show(x.1==n)=false by simp[e]];simp only[List.mem_cons];rw[a];constructor;exact .inr;rintro(q|q);exact absurd (by rw[<-q]) e;exact q
structure X6 where
 CG:Ae Nat
 es:Ae Ar
 ns:Ae Ar
 m:Nat
 Lh:AA Rw
 H:AA Rw
 G:AA Rw
 V:AA Rw
 D:AA Nm
 J:AB
structure MF(I:AB)(s:Az)(L:AA Rw)(f:Ae Ar)(n:Nat)(l:AT)(q:X6):Prop where
 p1:L.Perm (q.H++(q.G++JA f L q.CG))
 hh:∀r∈q.H,fl r.l l=fF
 gg:∀r∈q.G,fl r.l l
 vg:C5 (λa r:Rw=>a.l=r.l/\a.ns=r.ns) q.V q.G
 vh:∀r∈q.V,q.J.B8 r.b (Gh r.ns r.AE)/\lN r.ns+lN r.AE=r.c/\r.c<=maxLen
 vb:(q.V.map (·.b)).Nodup
 st:Cb I [] q.J (q.V.map (·.b))
 Gb:C5 Hk q.ns.toList q.Lh
 bo:Ic q.ns q.m
 lp:q.Lh.Perm (q.V++JA f L q.CG)
 dm:∀x,x∈q.D↔∃r∈q.H,x∈r.ns
 B0:C9 q.J (s.filter λx=> !q.D.contains x.1) q.es n
variable{s:Az}{L:List Rw}{f:Array MapEntry}{l:AT}{q:X6}
def MF.start{a m0}(hS:C9 I s a n)(hN:El I s L f m0):MF I s L f n l ⟨#[],a,f,m0,L,[],[],[],[],I⟩ where
 p1:=by show L.Perm<|[]++([]++JA f L #[]);rw[AKl hN.Gb];exact List.Perm.refl _
 hh r hr:=by cases hr
 gg r hr:=by cases hr
 vg:=.nil
 vh r hr:=by cases hr
 vb:=N9
 st:=.refl I []
 Gb:=hN.Gb
 bo:=hN.bo
 lp:=by show L.Perm<|[]++JA f L #[];rw[AKl hN.Gb];exact List.Perm.refl _
 dm x:=sP
 B0:=by have:(s.filter λx=> !([]:AA Nm).contains x.1)=s:=RO.2 λx _=>sP;show C9 I (s.filter λx=> !([]:AA Nm).contains x.1) a n;rwa[this]
def MF.Cj(h:MF I s L f n l q)(b:(L.map (·.l)).Nodup):(q.Lh.map (·.l)).Nodup:=by
 have e:∀ {V G:AA Rw},C5 (λd r:Rw=>d.l=r.l/\d.ns=r.ns) V G->V.map (·.l)=G.map (·.l):=by
  intro V G h;induction h with
  |nil=>rfl
  |cons a _ i=>simp[a.1,i]
 have c:((q.H++(q.G++JA f L q.CG)).map (·.l)).Nodup:=(h.p1.map _).nodup_iff.1 b;rw[E3]at c;rw[(h.lp.map _).nodup_iff,E3,e h.vg,<-E3];exact (Gl.1 c).2.1
def MF.Ads(h:MF I s L f n l q)(g:(L.map (·.l)).Nodup){born r}(hl:(JA f L q.CG).Perm (r::JA f L (q.CG.push born)))(k:fl r.l l){b c AE}(hc:lN r.ns+lN AE=c)(hm:c<=maxLen)(hb:q.J.free b):
 MF I s L f n l {q with CG:=q.CG.push born,ns:=(putRow q.ns q.m q.Lh r.l<|.slice (aP b) (lN r.ns) c).1,m:=(putRow q.ns q.m q.Lh r.l<|.slice (aP b) (lN r.ns) c).2,Lh:=KA q.Lh ⟨r.l,r.ns,b,c,AE⟩,G:=r::q.G,V:=⟨r.l,r.ns,b,c,AE⟩::q.V,J:=q.J.plus b<|Gh r.ns AE} where
 p1:=h.p1.trans<|VH _<|(VH _ hl).trans TA
 hh:=h.hh
 gg d a:=by rcases Co.1 a with rfl|a;exact k;exact h.gg d a
 vg:=.cons ⟨rfl,rfl⟩ h.vg
 vh d a:=by rcases Co.1 a with rfl|a;exact⟨Li hb.1,hc,hm⟩;have h0:=h.vh d a;exact⟨K0 h0.1 (λe=>by have:=h0.1.Ak;rw[e,hb.2]at this;cases this),h0.2⟩
 vb:=by show((⟨r.l,r.ns,b,c,AE⟩::q.V).map (·.b)).Nodup;rw[E4,GX];refine⟨λj=> ?_,h.vb⟩;let⟨d,i,e⟩:=BI.1 j;have:=(h.vh d i).1.Ak;rw[show d.b=b from e,hb.2]at this;cases this
 st:=h.st.trans ((Oj (a:=nO) (P1:=[]) (P2:=q.V.map (·.b)) (o:=Gh r.ns AE) hb.1<|.inr hb).cast (by simp[Bb]) sP)
 Gb:=AMR (r:=⟨r.l,r.ns,b,c,AE⟩) h.Gb
 bo:=AMQ h.bo
 lp:=AaC (r:=⟨r.l,r.ns,b,c,AE⟩) (h.lp.trans<|(VH _ hl).trans TA) (h.Cj g) rfl
 dm:=h.dm
 B0:=C9.Bf (I:=q.J) (J:=q.J.plus b<|Gh r.ns AE) (λ_ _ j=>j) h.B0
def MF.hidden(h:MF I s L f n l q)(c:(L.map (·.l)).Nodup){born r}(hl:(JA f L q.CG).Perm (r::JA f L (q.CG.push born)))(e:fl r.l l=fF){es}(hs:C9 q.J (s.filter λx=> !(q.D++r.ns).contains x.1) es n):
 MF I s L f n l {q with CG:=q.CG.push born,es:=es,ns:=PG q.ns q.Lh r.l,Lh:=Tg q.Lh r.l,H:=r::q.H,D:=q.D++r.ns} where
 p1:=h.p1.trans<|(VH _<|(VH _ hl).trans TA).trans TA
 hh a d:=by rcases Co.1 d with rfl|d;exact e;exact h.hh a d
 gg:=h.gg
 vg:=h.vg
 vh:=h.vh
 vb:=h.vb
 st:=h.st
 Gb:=ASY h.Gb
 bo:=ASX h.bo
 lp:=ASZ (h.lp.trans<|(VH _ hl).trans TA)<|h.Cj c
 dm x:=by show x∈q.D++r.ns↔∃a∈r::q.H,x∈a.ns;rw[Bc,h.dm];constructor;rintro(⟨a,h1,b⟩|h1);exact⟨a,by simp[h1],b⟩;exact⟨r,sP,h1⟩;rintro⟨a,h1,b⟩;rcases Co.1 h1 with rfl|h1;exact .inr b;exact .inl ⟨a,h1,b⟩
 B0:=hs
def MF.ATx{W}(h:MF I s L f n l q)(hN:El I s L f W)(t:(s.map (·.1)).Nodup)(T:JA f L q.CG=[]):
 Cb I [] q.J (q.Lh.map (·.b))/\C9 q.J (GU s l) q.es n/\El q.J (GU s l) q.Lh q.ns q.m:=by
 have C:=h.p1;have m:=h.lp;rw[T,Hn]at C m;have B:∀ {V G:AA Rw},C5 (λp r:Rw=>p.l=r.l/\p.ns=r.ns) V G->(∀p∈V,∃r∈G,p.l=r.l/\p.ns=r.ns)/\∀r∈G,∃p∈V,p.l=r.l/\p.ns=r.ns:=by
  intro V G h;induction h with
  |nil=>exact⟨nA,nA⟩
  |cons a _ S=>
   refine⟨λr b=> ?_,λr b=> ?_⟩;rcases Co.1 b with rfl|b;exact⟨_,sP,a⟩;let⟨x,c,d⟩:=S.1 r b;exact⟨x,by simp[c],d⟩;rcases Co.1 b with rfl|b;exact⟨_,sP,a⟩;let⟨x,c,d⟩:=S.2 r b;exact⟨x,by simp[c],d⟩
 let⟨j,M⟩:=B h.vg;have i:∀r∈q.G,r∈L:=λr b=>C.mem_iff.2<|HZ _ b;have N:∀r∈q.H,r∈L:=λr b=>C.mem_iff.2<|GC _ b;have z:(s.filter λx=> !q.D.contains x.1)=GU s l:=by
  rw[GU];refine ABY λx u=> ?_;have R:Am s x.1=sM x.2:=(SE t).2 u;let⟨r,b,P,Q⟩:=(hN.mem x.1 x.2.l).2 ⟨x.2,R,rfl⟩;by_cases w:fl x.2.l l;rw[w];have:x.1∉q.D:=λU=>by let⟨E,c,d⟩:=(h.dm _).1 U;let⟨o1,e,v⟩:=(hN.mem x.1 E.l).1 ⟨E,N E c,rfl,d⟩;rw[R]at e;cases e;have:=h.hh E c;rw[<-v,w]at this;cases this
  simp[this];have w:fl x.2.l l=fF:=by simpa using w
  rw[w];have:x.1∈q.D:=by rcases Bc.1 (C.mem_iff.1 b)with y|y;exact(h.dm _).2 ⟨r,y,Q⟩;have:=h.gg r y;rw[P,w]at this;cases this
  simp[this]
 have k:((GU s l).map (·.1)).Nodup:=t.sublist<|(S7).map _;have A:∀ {r:Rw},r∈q.G->∀ {x:Nm},x∈r.ns->∃o,Am (GU s l) x=sM o/\o.l=r.l:=λ{r} b {x} u=>by let⟨o,c,d⟩:=(hN.mem x r.l).1 ⟨r,i r b,rfl,u⟩;refine⟨o,(SE k).2 ?_,d⟩;rw[GU];rw[Ho];exact⟨(SE t).1 c,by show fl o.l l;rw[d];exact h.gg r b⟩
 have O:∀x∈q.Lh.map (·.b),x∈q.V.map (·.b):=λx u=>(m.map (·.b)).mem_iff.1 u;refine⟨⟨h.st.le,h.st.A2,λx u=>h.st.CE x<|O x u⟩,z▸h.B0,⟨h.Gb,λr b=>h.vh r<|m.mem_iff.1 b,(m.map _).nodup_iff.2 h.vb,h.Cj hN.lb,λr b=> ?_,λr b=> ?_,λx Cj=>⟨?_,?_⟩,h.bo,λr b=> ?_,λr b=> ?_⟩⟩;let⟨g,c,d,e⟩:=j r<|m.mem_iff.1 b;rw[e];exact hN.ok g<|i g c;let⟨g,c,d,e⟩:=j r<|m.mem_iff.1 b;rw[e];have:=Wq (hN.Z9 g<|i g c) (m:=(GU s l).map (·.1)) λx u=>by let⟨o,v,_⟩:=A c u;exact BI.2 ⟨(x,o),(SE k).1 v,rfl⟩
 simpa using this;rintro⟨r,b,d,e⟩;let⟨g,v,F,H⟩:=j r<|m.mem_iff.1 b;rw[H]at e;let⟨o,J,K⟩:=A v e;exact⟨o,J,by rw[K,<-F,d]⟩;rintro⟨o,d,e⟩;have D:=(SE k).1 d;rw[GU]at D;rw[Ho]at D;let⟨r,b,v,F⟩:=(hN.mem x o.l).2 ⟨o,(SE t).2 D.1,rfl⟩;rcases Bc.1 (C.mem_iff.1 b)with y|y;have:=h.hh r y;have w:fl o.l l:=D.2;rw[v,w]at this;cases this;let⟨p,H,J,K⟩:=M r y;exact⟨p,m.mem_iff.2 H,by rw[J,v,e],by rwa[K]⟩;let⟨g,c,d,e⟩:=j r<|m.mem_iff.1 b;rw[e];exact hN.Z9 g<|i g c;let⟨g,c,d,e⟩:=j r<|m.mem_iff.1 b;rw[e];exact hN.ne g<|i g c
end
end Go.Proofs.YtomehhepbeiinaaGreatDoor
