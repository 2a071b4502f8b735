/- Part 11 of the proof of TopHidden. No conditions. -/
import Derived.Test.YtomehhepbeiinaaGreatDoorZ10
import Derived.Shelf.Strings.SplitCore
import Derived.Shelf.Strings.Count
import Derived.Lib.SplitLaws
set_option maxRecDepth 100000
set_option maxHeartbeats 4000000
set_option linter.all false
open Go renaming run_underlying->rU
open Go.Result renaming andThen_ok->aK
open Go.Sem renaming run_bind->rB
open UInt8 renaming ofNat->uN
open List renaming range->lR
open List renaming length->lN
open Option renaming some->sM,none->nO
open Bool renaming true->tT,false->fF
open Go.Value renaming string->vS,bool->vB
open Go.IntKind renaming i64->iK
namespace Go.Proofs.YtomehhepbeiinaaGreatDoor
open Tryz
section
open Go.AX Lz
def QR(I:AB)(x:AA AH)(l:AA AF):Prop:=∃a c b,l=[.slice a (lN x) c]/\Av I JC 1 x a c b
def ARJ(I x l)(h:QR I x l):lN l=1:=by obtain⟨_,_,_,rfl,_⟩:=h;rfl
def AH6{I J}(hle:I.Da J)(x l)(h:QR I x l):QR J x l:=by let⟨a,c,b,e,q⟩:=h;exact⟨a,c,b,e,Av.Bf hle q λ_ _ h=>h⟩
def ATD:IE 22 23 1:=⟨kR,T9 kR⟩
def Adf:prog.underlying 23=sM (.slice 5):=kR
abbrev YL(I J:AB)(c d:AA AF)(a b:Bi):Prop:=Iz I J 5 51 c a 3 195 d b
abbrev c8:AA Int:=[0,1,2,3,4,5,9,14]
def m8{i}(h:i<8):i=0\/i=1\/i=2\/i=3\/i=4\/i=5\/i=6\/i=7:=oG
structure MA where
 i:Nat
 J:AB
 sc:Bi
def AX4(la:AU Au)(n lc:Nat)(x:MA):Hd where
 Cd:=[(0,.v<|.slice la n lc),(2,.p 6 0),(3,.p 7 0),(12,.s 8 0 8 8),(13,.v<|.int iK 8),(14,.v<|iV x.i)]
 Cc:=[(6,.cells [.v zS,.v zS] 32),(7,.cells [x.sc.sv,.v zS] 32),(8,.cells (c8.map λk=>.v<|nV k) 2)]
 J:=x.J
def AYI(la:AU Au)(n lc:Nat)(x:MA):Hd where
 Cd:=[(0,.v<|.slice la n lc),(2,.p 6 0),(3,.p 7 0),(6,.v<|iV x.i)]
 Cc:=[(6,.cells [.v zS,.v zS] 32),(7,.cells [x.sc.sv,.v zS] 32)]
 J:=x.J
structure MC where
 i:Nat
 J:AB
 sf:Bi
 vf:AA AF
def AYJ(la:AU Au)(n lc:Nat)(sc:Bi)(x:MC):Hd where
 Cd:=[(0,.v<|.slice la n lc),(2,.p 6 0),(3,.p 7 0),(7,.v<|iV x.i)]
 Cc:=[(6,.cells [.v zS,.v zS] 32),(7,.cells [sc.sv,x.sf.sv] 32)]
 J:=x.J
structure MD where
 k:Nat
 J:AB
 m:Mk
 s:Bi
def ALB(la:AU Au)(n lc:Nat)(sc sf:Bi)(i ab:Nat)(a:AU Au)(mc:Nat)(x:MD):Hd where
 Cd:=[(0,.v<|.slice la n lc),(2,.p 6 0),(3,.p 7 0),(7,.v<|iV i),(8,.p 9 0),(9,.v<|iV ab),(10,.v<|iV x.k)]
 Cc:=[(6,.cells [.v zS,.v zS] 32),(7,.cells [sc.sv,sf.sv] 32),(9,G0 x.m a mc x.s)]
 J:=x.J
structure MDP(a:AB)(ab:Nat)(b:AU Au)(mc:Nat)(cells:AA AF)(m0:Mk)(x:MD):Prop where
 k:x.k<=12
 st:Cb a [] x.J (Bb x.s.a).toList
 ms:G7 (24*x.k) x.J b mc cells x.m x.s
 eq:Mk.Er ab (12-x.k) x.k x.m=Mk.Er ab 12 0 m0
def Iz.never{I J K:AB}{z A:Nat}{m n:BN}{v w:AA AF}{j l s:Bi}{b:Nat}{o:Obj}(h:Iz I J z m v j A n w l)(k:Cb J [] K (Bb s.a).toList)(C:s.a=sM ⟨b,0,nO⟩)(B:K.B8 b o):
 I.Ak b=nO/\Iz I (K.never b o) z m v j A n w l/\J.Da (K.never b o):=by
 have t:b∈(Bb s.a).toList:=by rw[C];simp[Bb]
 let⟨D,E,u,F⟩:=(h.st.app k).never (HZ _ t) B;have r:=h.step k;have p:∀y,¬J.B8 b y:=by rcases k.CE b t with q|q;cases q;exact q
 have c:∀x∈(Bb j.a).toList,x≠b:=λx a e=>by let⟨y,f⟩:=h.ra.B8 x a;exact p y<|e▸f
 have d:∀x∈(Bb l.a).toList,x≠b:=λx a e=>by let⟨y,f⟩:=h.rb.B8 x a;exact p y<|e▸f
 refine⟨E,⟨D.perm λx a=> ?_,h.nd,r.ra.A2 λx a y f=>u x y f<|c x a,r.rb.A2 λx a y f=>u x y f<|d x a⟩,k.le.trans F⟩;have i:x≠b:=by rcases Bc.1 a with q|q;exact c x q;exact d x q
 exact(Xr i).2<|GC _ a
def Oq{I z e a s}(h:C8 I z e a s)(d:0<s.n):∃b o,s.a=sM ⟨b,0,nO⟩/\I.B8 b o:=by rcases h.at_ with⟨q,_,_⟩|⟨b,c,q1,q2,_⟩;omega;exact⟨b,_,q1,q2⟩
def Av.AKn{I l a c b}(h:Av I JC 1 l a c b):lN b=lN l:=by rw[h.sl.len,TG]
def ZK(I:AB)(x a k:Nat)(b:a<=9223372036854775807)(c:0<k/\k<=1000):Hint:=.BZ (.binOp .quo 3 (.tmp x) (.const<|iV k) 3) [(x,.v<|iV a)] [] I (.v<|.int iK ((a/k:Nat):Int))<|AXx I x a k b c
def AX7(fl i m)(h:m=Mk.Er ((i+1)%3) 12 0 ⟨fl.getD i [],0,[]⟩):H4 fl i=⟨1,7,((m.next.2.BD 2<|m.next.1%8).BD 18 0).code⟩:=by subst h;rfl
abbrev AGx(I:AB)(a:A6):zP:=He I (λq:Dw=>.g<|Fa a q) λJ q=>FJ J a q
def AX5{i}(h:i<8):((c8.take<|i+1).map BH).flatMap BG=((c8.take i).map BH).flatMap BG++BG (BH<|(c8).getD i 0):=by have:i=0\/i=1\/i=2\/i=3\/i=4\/i=5\/i=6\/i=7:=oG;rcases this with rfl|rfl|rfl|rfl|rfl|rfl|rfl|rfl<;>rfl
def AX8{i}(h:i<8):((JR.take<|i+1).map D1).flatMap BG=((JR.take i).map D1).flatMap BG++BG (D1<|JR.getD i FW):=by have:i=0\/i=1\/i=2\/i=3\/i=4\/i=5\/i=6\/i=7:=oG;rcases this with rfl|rfl|rfl|rfl|rfl|rfl|rfl|rfl<;>rfl
def AX9(I)(fl:AA<|AA AH)(la Y P)(hl:Av I (QR I) 1 fl la Y P)(hlen:lN fl<=9223372036854775807)(av:∀x∈fl,lN x<=9223372036854775807):Fn 34 [.v<|.slice la (lN fl) Y] [] I (AGx I<|Io fl) nO:=by
 refine fo func34 λρ a7 w a5=>gG<|loop (ι:=MA) (λx=>x.i<=8/\YL I x.J (((c8.take x.i).map BH).flatMap BG) [] x.sc ⟨nO,0,0⟩) (λx=>8-x.i) (AX4 la (lN fl) Y) 1000 [(6,100),(7,116),(8,132)] ⟨0,I,⟨nO,0,0⟩⟩ ⟨Bm _,Iz.nil _ _ _ _ _⟩ ?_;rintro⟨i,J,⟨G,u,v⟩⟩ ⟨S,g⟩ again T;simp only at S g;by_cases d:i<8;have j:=AX5 d;have Z:u<=1000000:=by have:=g.ra.n;rw[HB (n:=5) (f:=BG) λ_=>rfl,DG]at this;have h2:=AGZ i c8;simp only at this;omega
 generalize((c8.take i).map BH).flatMap BG=E at g j;refine gG ?_ (by obtain rfl|rfl|rfl|rfl|rfl|rfl|rfl|rfl:=m8 d<;>exact kR);refine act (need:=[(1064,.cells ((BG<|BH<|c8.getD i 0).map .v) 51)]) (hobs:=by obtain rfl|rfl|rfl|rfl|rfl|rfl|rfl|rfl:=m8 d<;>exact kR) (JI (I:=J) Be (s:=⟨G,u,v⟩) (x:=.s 1064 0 1 1) (m:=1) (CQ:=E) (news:=BG<|BH<|c8.getD i 0) LU (by obtain rfl|rfl|rfl|rfl|rfl|rfl|rfl|rfl:=m8 d<;>exact kR) g.ra (Ez (e:=51) sP rfl<|U2 _) dC<|by show u+1<=16777216;omega) JH ?_;rintro h' ⟨F,c',f,rfl,A,B,C,M,y⟩;have D:=g.ACF (AE:=f) rfl (U2 _) A B C M y;generalize J.plus F _=Q at D⊢;refine gG ?_ (by obtain rfl|rfl|rfl|rfl|rfl|rfl|rfl|rfl:=m8 d<;>exact kR);exact bk again [] ⟨i+1,Q,⟨sM ⟨F,0,nO⟩,u+1,c'⟩⟩ ⟨d,by rw[j];exact D⟩ (hh:=by obtain rfl|rfl|rfl|rfl|rfl|rfl|rfl|rfl:=m8 d<;>exact⟨kR,kR,kR⟩)
 .have aa:i=8:=oG;subst aa;have g:YL I J (((c8).map BH).flatMap BG) [] ⟨G,u,v⟩ ⟨nO,0,0⟩:=g;refine gG<|loop (ι:=MA) (λx=>x.i<=8/\YL I x.J (((c8).map BH).flatMap BG++((JR.take x.i).map D1).flatMap BG) [] x.sc ⟨nO,0,0⟩) (λx=>8-x.i) (AYI la (lN fl) Y) 3000 [] ⟨0,J,⟨G,u,v⟩⟩ ⟨Bm _,by simpa using g⟩ ?_;rintro⟨i,J,⟨G,u,v⟩⟩ ⟨S,g⟩ again T;simp only at S g;by_cases d:i<8;have Z:u<=1000000:=by have:=g.ra.n;rw[CK,HB (n:=5) (f:=BG) λ_=>rfl,HB (n:=5) (f:=BG) λ_=>rfl,DG,DG]at this;have h2:=AGZ i JR;simp only[FM,KJ]at this;omega
  have V:(((c8).map BH).flatMap BG++((JR.take<|i+1).map D1).flatMap BG)=(((c8).map BH).flatMap BG++((JR.take i).map D1).flatMap BG)++BG (D1<|JR.getD i FW):=by rw[AX8 d,Eb]
  generalize(((c8).map BH).flatMap BG++((JR.take i).map D1).flatMap BG)=E at g V;refine gG ?_ (by obtain rfl|rfl|rfl|rfl|rfl|rfl|rfl|rfl:=m8 d<;>exact kR);refine A0 (Wd J) [] (hobs:=by obtain rfl|rfl|rfl|rfl|rfl|rfl|rfl|rfl:=m8 d<;>exact kR) ?_;rintro _ rfl;refine gG ?_ (by obtain rfl|rfl|rfl|rfl|rfl|rfl|rfl|rfl:=m8 d<;>exact kR);refine act (need:=[(3072,.cells ((BG<|D1<|JR.getD i FW).map .v) 51)]) (hobs:=by obtain rfl|rfl|rfl|rfl|rfl|rfl|rfl|rfl:=m8 d<;>exact kR) (JI (I:=J) Be (s:=⟨G,u,v⟩) (x:=.s 3072 0 1 1) (m:=1) (CQ:=E) (news:=BG<|D1<|JR.getD i FW) LU (by obtain rfl|rfl|rfl|rfl|rfl|rfl|rfl|rfl:=m8 d<;>exact kR) g.ra (Ez (e:=51) sP rfl<|U2 _) dC<|by show u+1<=16777216;omega) JH ?_;rintro h' ⟨F,c',f,rfl,A,B,C,M,y⟩;have D:=g.ACF (AE:=f) rfl (U2 _) A B C M y;generalize J.plus F _=Q at D⊢;refine gG ?_ (by obtain rfl|rfl|rfl|rfl|rfl|rfl|rfl|rfl:=m8 d<;>exact kR);exact bk again [] ⟨i+1,Q,⟨sM ⟨F,0,nO⟩,u+1,c'⟩⟩ ⟨d,by rw[V];exact D⟩ (hh:=by obtain rfl|rfl|rfl|rfl|rfl|rfl|rfl|rfl:=m8 d<;>exact⟨kR,kR,kR⟩)
  .have aa:i=8:=oG;subst aa;have hC:(((c8).map BH).flatMap BG++((JR.take 8).map D1).flatMap BG)=Mb.flatMap BG:=by unfold Mb;rw[Mu];rfl
   rw[hC]at g;have Z:u=16:=by have:=g.ra.n;rw[HB (n:=5) (f:=BG) λ_=>rfl]at this;have h2:lN Mb=16:=rfl;rw[h2]at this;simp only at this;omega
   subst Z;refine gG<|loop (ι:=MC) (λx=>x.i<=3/\YL I x.J (Mb.flatMap BG) x.vf ⟨G,16,v⟩ x.sf/\Rows (KU x.J) ((lR x.i).map<|H4 fl) x.vf) (λx=>3-x.i) (AYJ la (lN fl) Y ⟨G,16,v⟩) 6000 [] ⟨0,J,⟨nO,0,0⟩,[]⟩ ⟨Bm _,g,rfl⟩ ?_;rintro⟨i,J,⟨fa,a,fc⟩,vf⟩ ⟨S,g,O⟩ again T;simp only at S g O;have aw:a=i:=by have h1:=g.rb.n;have h2:=Rows.len (WI J) O;simp at h2;simp only at h1;omega
   subst aw;by_cases d:a<3
   ·
    have a3:(lR<|a+1).map (H4 fl)=(lR a).map (H4 fl)++[H4 fl a]:=by rw[ABn,E3];rfl
    have hle:=g.st.le;by_cases ab:a<lN fl
    case' pos=>
     have hx:fl[a]? =sM fl[a]:=BS ab;have p:fl.getD a []=fl[a]:=by rw[DK,hx];rfl
     have R:lN (fl.getD a [])<=9223372036854775807:=by rw[p];exact av _<|DR ab
     obtain⟨b,off,arr,e,fr,row,hla,q2,⟨H,K,cells,rfl,an⟩,q4,q5⟩:=hl.cell (ARJ I) hx;have q0:=q5 0 _ rfl;simp only[IB]at q0;have N:Av J JC 1 (fl.getD a []) H K cells:=by rw[p];exact Av.Bf hle an λ_ _ q=>q
     refine gg [(41,hT<|(a:Int)<3),(49,tH a<|lN fl),(53,Br J ATD b off (lN fl) Y a ab),(54,ED J Adf rfl (off+a*1) (.slice H (lN fl[a]) K) (hle _ _ q2) q0),(58,sH a),(59,JO J 58 (a+1) 3 ((a+1)%3) rfl oG oG)] ?_ (by subst hla;exact kR);refine loop (ι:=MD) (MDP J ((a+1)%3) H K cells ⟨fl.getD a [],0,[]⟩) (λx=>12-x.k) (ALB la (lN fl) Y ⟨G,16,v⟩ ⟨fa,a,fc⟩ a ((a+1)%3) H K) 10000 [(9,6024)] ⟨0,J,⟨fl.getD a [],0,[]⟩,⟨nO,0,0⟩⟩ ⟨Bm _,.refl _ _,⟨N,Sg,Ag _,Ag _⟩,rfl⟩ (hobs:=by rw[p];exact kR) ?_
    case' neg=>
     have p:fl.getD a []=[]:=by rw[DK,Jh oG];rfl
     have R:lN (fl.getD a [])<=9223372036854775807:=by rw[p];decide
     obtain⟨H,K,cells,ay,az,N⟩:∃H K cells,H=nO/\K=0/\Av J JC 1 (fl.getD a []) H K cells:=⟨_,_,_,rfl,rfl,by rw[p];exact Av.empty⟩;refine gg [(41,hT<|(a:Int)<3),(49,fH a<|lN fl),(58,sH a),(59,JO J 58 (a+1) 3 ((a+1)%3) rfl oG oG)]<|loop (ι:=MD) (MDP J ((a+1)%3) H K cells ⟨fl.getD a [],0,[]⟩) (λx=>12-x.k) (ALB la (lN fl) Y ⟨G,16,v⟩ ⟨fa,a,fc⟩ a ((a+1)%3) H K) 10000 [(9,6024)] ⟨0,J,⟨fl.getD a [],0,[]⟩,⟨nO,0,0⟩⟩ ⟨Bm _,.refl _ _,⟨N,Sg,Ag _,Ag _⟩,rfl⟩ (hobs:=by rw[p];subst ay az;exact kR) ?_
    all_goals
     rintro⟨k,J1,c,⟨sa,sn,sc⟩⟩ ⟨p1,p2,p3,p4⟩ L TD;simp only at p1 p2 p3 p4;have M:=p3.at_;have ae:lN c.l<=9223372036854775807:=by rw[<-Av.AKn p3.QS,Av.AKn N];exact R
     by_cases hc:k<1+c.at_/\k<2+lN c.l/6/\k<12;let⟨c1,c2,c3⟩:=hc;refine gg [(65,hW (1+(c.at_:Int)) ((1+c.at_:Nat):Int)),(66,hT<|(k:Int)<((1+c.at_:Nat):Int)),(74,ZK J1 73 (lN c.l) 6 ae oG),(75,hW (2+((lN c.l/6:Nat):Int)) ((2+lN c.l/6:Nat):Int)),(76,hT<|(k:Int)<((2+lN c.l/6:Nat):Int)),(80,hT<|(k:Int)<12)]<|A0 (AZi p3 oG ((a+1)%3)<|JE _ dC) [(1,9)] ?_;rintro _ ⟨s2,J2,al,ac,rfl⟩;refine gg [(83,sH k)]<|bk L [] ⟨k+1,J2,c.part<|(a+1)%3,s2⟩ ⟨c3,p2.trans al,ac.mono<|by show 24*k+24<=24*(k+1);omega,?_⟩;show Mk.Er ((a+1)%3) (12-(k+1)) (k+1) (c.part<|(a+1)%3)=_;rw[<-p4,show 12-k=(12-(k+1))+1 by omega];show _=(if k<1+c.at_/\k<2+lN c.l/6/\k<12 then _ else _);rw[Ac ⟨c1,c2,c3⟩]
     .have a0:c=Mk.Er ((a+1)%3) 12 0 ⟨fl.getD a [],0,[]⟩:=by
       rw[<-p4];cases hk:12-k with
       |zero=>rfl
       |succ n=>
        show c=(if k<1+c.at_/\k<2+lN c.l/6/\k<12 then _ else _);rw[AY hc]
      have a1:=AX7 fl a c a0;have a6:c.next.1<=255:=Nk _ _;obtain c1|⟨c1,c2⟩|⟨c1,c2,c3⟩: ¬k<1+c.at_\/k<1+c.at_/\¬k<2+lN c.l/6\/k<1+c.at_/\k<2+lN c.l/6/\¬k<12:=oG;refine gg [(65,hW (1+(c.at_:Int)) ((1+c.at_:Nat):Int)),(66,hF<|(k:Int)<((1+c.at_:Nat):Int))] ?_
      rotate_left
      refine gg [(65,hW (1+(c.at_:Int)) ((1+c.at_:Nat):Int)),(66,hT<|(k:Int)<((1+c.at_:Nat):Int)),(74,ZK J1 73 (lN c.l) 6 ae oG),(75,hW (2+((lN c.l/6:Nat):Int)) ((2+lN c.l/6:Nat):Int)),(76,hF<|(k:Int)<((2+lN c.l/6:Nat):Int))] ?_
      rotate_left
      refine gg [(65,hW (1+(c.at_:Int)) ((1+c.at_:Nat):Int)),(66,hT<|(k:Int)<((1+c.at_:Nat):Int)),(74,ZK J1 73 (lN c.l) 6 ae oG),(75,hW (2+((lN c.l/6:Nat):Int)) ((2+lN c.l/6:Nat):Int)),(76,hT<|(k:Int)<((2+lN c.l/6:Nat):Int)),(80,hF<|(k:Int)<12)] ?_
      rotate_left
      all_goals
       refine A0 (AEq p3 oG) [(1,9)] ?_;rintro _ rfl;refine gg [(90,JO J1 89 c.next.1 8 (c.next.1%8) rfl oG oG)]<|A0 (PQ p3.next oG 2<|c.next.1%8) [(1,9)] ?_;rintro _ ⟨s2,J2,al,ac,rfl⟩;refine gG<|A0 (PQ ac oG 18 0) [(1,9)] ?_;rintro _ ⟨⟨a4,m,l⟩,Q,a2,ad,rfl⟩;refine go func34 [] 1 kR ?_;have af:m=lN ((c.next.2.BD 2<|c.next.1%8).BD 18 0).code:=ad.Bq;have aq:0<m:=by rw[af];show 0<lN (_++[_]);simp
       let⟨r,po,ah,ak⟩:=Oq ad.row aq;have ah:a4=sM ⟨r,0,nO⟩:=ah;subst ah;let⟨n1,n2,n3⟩:=g.never ((p2.trans al).trans a2) rfl ak;refine Le r Q po kR ak n1 ?_;have z:Av (Q.never r po) Q2 2 ((c.next.2.BD 2<|c.next.1%8).BD 18 0).code (aP r) l (((c.next.2.BD 2<|c.next.1%8).BD 18 0).code.flatMap Cs):=ad.row.Ou (J:=Q.never r po) af (Rows.flat.2 rfl) λb o hb ho=>by
        obtain rfl:r=b:=by simpa using hb
        have e:o=po:=by have:=ho.Ak;rw[ak.Ak]at this;exact(FX this).symm
        rw[e];exact Nw _ _ _
       have W:=O.mono<|SC n3;generalize Q.never r po=J4 at n2 n3 z W⊢;have hnew:KU J4 (H4 fl a) [Value.int iK 1,Value.int iK 7,Value.slice (aP r) m l]:=by rw[a1];exact⟨sM ⟨r,0,nO⟩,l,_,by rw[af];rfl,z⟩
       refine gG<|act (need:=[(10288,.cells (([Value.int iK 1,Value.int iK 7,Value.slice (aP r) m l]:AA AF).map .v) 195)]) (JI (I:=J4) Be (s:=⟨fa,a,fc⟩) (x:=.s 10288 0 1 1) (m:=1) (CQ:=vf) (news:=[Value.int iK 1,Value.int iK 7,Value.slice (aP r) m l]) ACH kR n2.rb (Ez (e:=195) sP rfl<|SQ rfl) dC<|by show a+1<=16777216;omega) JH ?_;rintro h' ⟨F,c',f,rfl,A,B,C,am,y⟩;have au:=n2.ACK (AE:=f) rfl (SQ rfl) A B C am y;have X:Rows (KU<|J4.plus F<|.cells (vf++[Value.int iK 1,Value.int iK 7,Value.slice (aP r) m l]++f).toArray 195 (0,0)) ((lR<|a+1).map<|H4 fl) (vf++[Value.int iK 1,Value.int iK 7,Value.slice (aP r) m l]):=by rw[a3];have hp:J4.Da (J4.plus F<|.cells (vf++[Value.int iK 1,Value.int iK 7,Value.slice (aP r) m l]++f).toArray 195 (0,0)):=λ_ _ h=>h;exact Rows.append (W.mono<|SC hp) ⟨_,[],(Hn _).symm,SC hp _ _ hnew,rfl⟩
       generalize J4.plus F _=J5 at au X⊢;exact gg [(43,sH a)]<|bk again [] ⟨a+1,J5,⟨sM ⟨F,0,nO⟩,a+1,c'⟩,vf++[Value.int iK 1,Value.int iK 7,Value.slice (aP r) m l]⟩ ⟨d,au,X⟩
   have ax:a=3:=oG;subst ax;let⟨s,oc,ai,ag⟩:=Oq g.ra<|ABq 15;let⟨t,of,aj,ap⟩:=Oq g.rb<|ABq 2;have ai:G=sM ⟨s,0,nO⟩:=ai;have aj:fa=sM ⟨t,0,nO⟩:=aj;subst ai aj;have ao:s≠t:=λe=>by have:=g.nd;simp[Bb,e]at this
   let⟨n1,n2,n3,n4⟩:=g.st.never (b:=s) (by simp[Bb]) ag;have U:=n3 t of ap ao.symm;let⟨c,m2,m3,m4⟩:=n1.never (b:=t) ((Xr ao.symm).2<|by simp[Bb]) U;refine Le s J oc kR ag n2<|Le t (J.never s oc) of kR U m2 ?_;have hk:Av ((J.never s oc).never t of) F9 5 Mb (aP s) v (Mb.flatMap BG):=g.ra.Ou (J:=(J.never s oc).never t of) rfl (Rows.flat.2 rfl) λb o hb ho=>by
    obtain rfl:s=b:=by simpa using hb
    have e:o=oc:=by have:=ho.Ak;rw[ag.Ak]at this;exact(FX this).symm
    rw[e];exact m4 s oc<|Nw _ _ _
   have hu:Av ((J.never s oc).never t of) (KU<|(J.never s oc).never t of) 3 ((lR 3).map<|H4 fl) (aP t) fc vf:=g.rb.Ou (J:=(J.never s oc).never t of) rfl (O.mono<|SC<|n4.trans m4) λb o hb ho=>by
    obtain rfl:t=b:=by simpa using hb
    have e:o=of:=by have:=ho.Ak;rw[ap.Ak]at this;exact(FX this).symm
    rw[e];exact Nw _ _ _
   have hle:=c.GJ;generalize(J.never s oc).never t of=J2 at hk hu hle⊢;exact gG<|dn [] ⟨⟨sM ⟨s,0,nO⟩,v,Mb.flatMap BG,sM ⟨t,0,nO⟩,fc,vf⟩,J2,rfl,hle,⟨hk,hu⟩⟩
abbrev AWy:AK:=.cells ((JR.flatMap Zi).map .v) 42
def AEy(i):B9 (EW i):=by
 rcases Jj i 8 with h|h;have:i=0\/i=1\/i=2\/i=3\/i=4\/i=5\/i=6\/i=7:=oG;rcases this with rfl|rfl|rfl|rfl|rfl|rfl|rfl|rfl<;>exact⟨dC,dC⟩;have:EW i=FW:=by rw[EW];rw[DK,Jh<|by show 8<=i;exact h];rfl
 rw[this];exact⟨dC,dC⟩
def AWr{j}(a:j<8):((((JR.flatMap Zi).map SV.v).drop<|0+j*2).take 2)=[.v<|vS<|AJ (EW j).1,.v<|vS<|AJ (EW j).2]:=by have:j=0\/j=1\/j=2\/j=3\/j=4\/j=5\/j=6\/j=7:=oG;rcases this with rfl|rfl|rfl|rfl|rfl|rfl|rfl|rfl<;>rfl
def ADo(I:AB)(a b K j:Nat)(c:j<8):Hint:=Aee Be I 67 a b K 0 8 8 j 2 rfl rfl c
def ZI(I:AB)(a K j:Nat)(b:j<8):Hint:=.BZ (.load 42<|.tmp a) [(a,.p K<|0+j*2)] [(K,AWy)] I (DW<|EW j)<|AXu Be (L:=Bt) (t:=42) (a:=a) (k:=K) (off:=0+j*2) (l:=(JR.flatMap Zi).map .v) (xs:=[.v<|vS<|AJ (EW j).1,.v<|vS<|AJ (EW j).2]) (e:=42) rfl rfl (AWr b)<|by show 0+j*2+2<=16;omega
abbrev AXZ(l:AA Nat):AK:=.cells (l.map λk:Nat=>SV.v<|iV k) 3
def AJg(I:AB)(a b K n j:Nat)(c:j<n):Hint:=Aee Be I 100 a b K 0 n n j 1 rfl rfl c
def AJh(I:AB)(a K j:Nat)(l:AA Nat)(b:j<lN l):Hint:=.BZ (.load 3<|.tmp a) [(a,.p K<|0+j*1)] [(K,AXZ l)] I (.v<|iV<|l.getD j 0)<|Zn Be (L:=Bt) (t:=3) (a:=a) (k:=K) (off:=0+j*1) (l:=l.map λk:Nat=>SV.v<|iV k) (e:=3) rfl rfl gR
def AHT:Gq prog Bt 33 99 3:=⟨⟨_,rfl⟩,⟨_,_,rfl,rfl⟩,kR⟩
def ACI:Gq prog Bt 34 103 9:=⟨⟨_,rfl⟩,⟨_,_,rfl,rfl⟩,kR⟩
def XP(s):∀x∈FT s,x.oneCell':=SQ rfl
def Rn(s):∀x∈En s,x.oneCell':=SQ rfl
def Jb(a:AA AH)(i:Nat):Gs:=⟨EW<|CN a (2*i)%8,(CN a (2*i+1)%4:Nat)⟩
def L8:AA Nat:=[0,0,1,2,4,5,1,3]
def L4:AA Nat:=[7,7,3,1]
def Ex(a:AA AH)(none_:Bool)(i:Nat):FO:=
 {fn:=CN a (6*i+1)%3,l:=EW<|L8.getD (CN a (6*i)%8) 0,c:=jn (EW<|L8.getD (CN a (6*i)%8) 0)<|EW<|L4.getD (CN a (6*i+2)%4) 0,AR:=if none_ then 0 else uN<|CN a (6*i+2)/4%4,Ao:=CN a (6*i+3)%12,box:=(CN a (6*i+4)%3:Nat)-1,n:=(CN a (6*i+5)%4:Nat)}
structure QD where
 fa:AU Au
 fc:Nat
 ba:AU Au
 bc:Nat
 ta:AU Au
 tc:Nat
structure TL(I:AB)(c:LP)(q:QD):Prop where
 f:∃cells,Av I (QR I) 1 c.Ax q.fa q.fc cells
 b:∃cells,Av I JC 1 c.BJ q.ba q.bc cells
 t:∃cells,Av I JC 1 c.BM q.ta q.tc cells
 fl:lN c.Ax<=9223372036854775807
 fb:∀x∈c.Ax,lN x<=9223372036854775807
def Yh(c:LP)(q:QD):AA SV:=[.v<|.slice q.fa (lN c.Ax) q.fc,.v<|.slice q.ba (lN c.BJ) q.bc,.v<|.slice q.ta (lN c.BM) q.tc]
structure MQ where
 i:Nat
 J:AB
 s:Bi
def ASO(c:LP)(q:QD)(a:Bool)(ip:Dw)(x:MQ):Hd where
 Cd:=[(1,.v<|vB a),(2,.p 6 0),(4,.p 7 0),(5,.p 8 0),(6,.v<|iV x.i)]
 Cc:=[(6,.cells (Yh c q) 25),(7,.cells [.v zS,.v zS,.v zS,.v zS] 36),(8,.cells (Fa (Io c.Ax) ip++[x.s.sv,.v zS]) 36)]
 J:=x.J
def ASP(c:LP)(q:QD)(a:Bool)(ip:Dw)(sb:Bi)(x:MQ):Hd where
 Cd:=[(1,.v<|vB a),(2,.p 6 0),(4,.p 7 0),(5,.p 8 0),(7,.v<|iV x.i)]
 Cc:=[(6,.cells (Yh c q) 25),(7,.cells [.v zS,.v zS,.v zS,.v zS] 36),(8,.cells (Fa (Io c.Ax) ip++[sb.sv,x.s.sv]) 36)]
 J:=x.J
abbrev AB1(I:AB)(c:Dj):zP:=He I (λq:Jl=>.g<|MU c q) λJ q=>Ke J c q
def AYH{q:Nat}(h:q<4):Value.int .u8 (IntKind.u8.wrap (q:Int))=.int .u8 ((uN q).toNat:Int):=by rfl
theorem AJO{a:Type}(f:Nat->a)(V:a->List Value)(i:Nat):((List.range<|i+1).map f).flatMap V=((List.range i).map f).flatMap V++V (f i):=by grind[List.range_succ]
def AIc(I c q)(hq:TL I c q)(F:Bool):Fn 9 [.g<|Yh c q,.v<|.bool F] [] I (AB1 I<|Jo c F) none:=by
 let⟨⟨G,hf⟩,⟨l,Y⟩,⟨d,ht⟩,hfl,hfb⟩:=hq;refine fo func9 λρ an w al=>gG<|Cz (AX9 I c.Ax q.fa q.fc G hf hfl hfb) λip J0 z aa=>gG<|loop (ι:=MQ) (λx=>x.i<=2/\Iz J0 x.J 3 99 (((lR x.i).map<|Jb c.BJ).flatMap FT) x.s 9 103 [] ⟨none,0,0⟩) (λx=>2-x.i) (ASO c q F ip) 1000 [(6,100),(7,108),(8,148)] ⟨0,J0,⟨none,0,0⟩⟩ ⟨Bm _,Iz.nil _ _ _ _ _⟩ ?_;rintro⟨i,J,⟨sa,f,sc⟩⟩ ⟨Z,g⟩ again T;simp only at Z g;have ai:f=i:=by have V:=g.ra.n;rw[HB (n:=3) (f:=FT) λ_=>rfl]at V;simp at V;omega
 subst ai;have hle:=z.EA.trans g.st.le;have O:Av J JC 1 c.BJ q.ba q.bc l:=Av.Bf hle Y λ_ _ h=>h;by_cases A:f<2;have y0:=Nk c.BJ<|2*f;have y1:=Nk c.BJ<|2*f+1;have t:CN c.BJ (2*f)%8<8:=JE _ dC;have am:Jb c.BJ f=⟨EW<|CN c.BJ (2*f)%8,(CN c.BJ (2*f+1)%4:Nat)⟩:=rfl;have m:=AJO (Jb c.BJ) FT f;refine gg [(15,hT<|(f:Int)<2),(24,hW (2*(f:Int)) ((2*f:Nat):Int)),(32,hW (2*(f:Int)) ((2*f:Nat):Int)),(33,hW (((2*f:Nat):Int)+1) ((2*f+1:Nat):Int))]<|A0 (Wd J) [] ?_;rintro _ rfl;refine gG<|call (PC J c.BJ q.ba q.bc l O (2*f) oG)<|gg [(26,JO J 25 (CN c.BJ<|2*f) 8 (CN c.BJ (2*f)%8) rfl oG oG),(27,ADo J 20 26 1032 (CN c.BJ (2*f)%8) t),(28,ZI J 27 1032 (CN c.BJ (2*f)%8) t)]<|call (PC J c.BJ q.ba q.bc l O (2*f+1) oG)<|gg [(35,JO J 34 (CN c.BJ<|2*f+1) 4 (CN c.BJ (2*f+1)%4) rfl oG oG)]<|act (need:=[(1168,.cells ((FT<|Jb c.BJ f).map .v) 99)]) (JI (I:=J) Be (s:=⟨sa,f,sc⟩) (x:=.s 1168 0 1 1) (m:=1) (CQ:=((lR f).map<|Jb c.BJ).flatMap FT) (news:=FT<|Jb c.BJ f) AHT kR g.ra (Ez (e:=99) sP rfl<|XP _) dC gR) JH ?_;rintro h' ⟨K,U,k,rfl,C,D,E,n,B⟩;have p:=g.ACF (AE:=k) rfl (XP _) C D E n B;generalize J.plus K _=S at p⊢;refine gg [(17,sH f)] ?_;exact bk again [] ⟨f+1,S,⟨some ⟨K,0,none⟩,f+1,U⟩⟩ ⟨A,by rwa[m]⟩;have ae:f=2:=oG;subst ae;generalize ak:((lR 2).map<|Jb c.BJ).flatMap FT=vb at g
 refine gG<|loop (ι:=MQ) (λx=>x.i<=3/\Iz J0 x.J 3 99 vb ⟨sa,2,sc⟩ 9 103 (((lR x.i).map<|Ex c.BM F).flatMap En) x.s) (λx=>3-x.i) (ASP c q F ip ⟨sa,2,sc⟩) 3000 [] ⟨0,J,⟨none,0,0⟩⟩ ⟨Bm _,g⟩ ?_;rintro⟨i,J,⟨ba,a,bc⟩⟩ ⟨Z,g⟩ again T;simp only at Z g;have ad:a=i:=by have V:=g.rb.n;rw[HB (n:=9) (f:=En) λ_=>rfl]at V;simp at V;omega
 subst ad;have hle:=z.EA.trans g.st.le;have u:Av J JC 1 c.BM q.ta q.tc d:=Av.Bf hle ht λ_ _ h=>h;by_cases A:a<3;have y0:=Nk c.BM<|6*a;have y1:=Nk c.BM<|6*a+1;have y2:=Nk c.BM<|6*a+2;have y3:=Nk c.BM<|6*a+3;have y4:=Nk c.BM<|6*a+4;have y5:=Nk c.BM<|6*a+5;have t:CN c.BM (6*a)%8<8:=JE _ dC;have H:CN c.BM (6*a+2)%4<4:=JE _ dC;have X:∀j,j<8->L8.getD j 0<8:=by trivial
 have W:∀j,j<4->L4.getD j 0<8:=by trivial
 have m:=AJO (Ex c.BM F) En a;refine gg [(41,hT<|(a:Int)<3),(49,hW (6*(a:Int)) ((6*a:Nat):Int))]<|A0 (Wd J) [] ?_;rintro _ rfl;refine gG<|call (PC J c.BM q.ta q.tc d u (6*a) oG)<|gg [(51,JO J 50 (CN c.BM<|6*a) 8 (CN c.BM (6*a)%8) rfl oG oG),(52,AJg J 45 51 3024 8 (CN c.BM (6*a)%8) t),(53,AJh J 52 3024 (CN c.BM (6*a)%8) L8 t),(54,ADo J 44 53 3016 (L8.getD (CN c.BM (6*a)%8) 0)<|X _ t),(55,ZI J 54 3016 (L8.getD (CN c.BM (6*a)%8) 0)<|X _ t),
  (59,hW (6*(a:Int)) ((6*a:Nat):Int)),(60,hW (((6*a:Nat):Int)+1) ((6*a+1:Nat):Int)),(70,hW (6*(a:Int)) ((6*a:Nat):Int)),(71,hW (((6*a:Nat):Int)+2) ((6*a+2:Nat):Int)),(82,hW (6*(a:Int)) ((6*a:Nat):Int)),(83,hW (((6*a:Nat):Int)+3) ((6*a+3:Nat):Int)),(89,hW (6*(a:Int)) ((6*a:Nat):Int)),(90,hW (((6*a:Nat):Int)+4) ((6*a+4:Nat):Int)),(97,hW (6*(a:Int)) ((6*a:Nat):Int)),(98,hW (((6*a:Nat):Int)+5) ((6*a+5:Nat):Int))] ?_
 refine call (PC J c.BM q.ta q.tc d u (6*a+1) oG)<|gg [(62,JO J 61 (CN c.BM<|6*a+1) 3 (CN c.BM (6*a+1)%3) rfl oG oG)]<|A0 (Wd J) [] ?_;rintro _ rfl;refine gG<|call (PC J c.BM q.ta q.tc d u (6*a+2) oG)<|gg [(73,JO J 72 (CN c.BM<|6*a+2) 4 (CN c.BM (6*a+2)%4) rfl oG oG),(74,AJg J 66 73 3208 4 (CN c.BM (6*a+2)%4) H),(75,AJh J 74 3208 (CN c.BM (6*a+2)%4) L4 H),(76,ADo J 65 75 3200 (L4.getD (CN c.BM (6*a+2)%4) 0)<|W _ H),(77,ZI J 76 3200 (L4.getD (CN c.BM (6*a+2)%4) 0)<|W _ H)]<|call (AD8 J (EW<|L8.getD (CN c.BM (6*a)%8) 0) (EW<|L4.getD (CN c.BM (6*a+2)%4) 0) (AEy _)<|AEy _)<|gG<|call (PC J c.BM q.ta q.tc d u (6*a+3) oG)<|gg [(85,JO J 84 (CN c.BM<|6*a+3) 12 (CN c.BM (6*a+3)%12) rfl oG oG)]<|call (PC J c.BM q.ta q.tc d u (6*a+4) oG)<|gg [(92,JO J 91 (CN c.BM<|6*a+4) 3 (CN c.BM (6*a+4)%3) rfl oG oG),(93,hW (((CN c.BM (6*a+4)%3:Nat):Int)-1) (((CN c.BM (6*a+4)%3:Nat):Int)-1) rfl)]<|call (PC J c.BM q.ta q.tc d u (6*a+5) oG) ?_;cases F with
 |true=>
  refine gg [(100,JO J 99 (CN c.BM<|6*a+5) 4 (CN c.BM (6*a+5)%4) rfl oG oG)]<|act (need:=[(3552,.cells ((En<|Ex c.BM true a).map .v) 103)]) (JI (I:=J) Be (s:=⟨ba,a,bc⟩) (x:=.s 3552 0 1 1) (m:=1) (CQ:=((lR a).map<|Ex c.BM true).flatMap En) (news:=En<|Ex c.BM true a) ACI kR g.rb (Ez (e:=103) sP rfl<|Rn _) dC gR) JH ?_;rintro h' ⟨K,U,k,rfl,C,D,E,n,B⟩;have p:=g.ACK (AE:=k) rfl (Rn _) C D E n B;generalize J.plus K _=S at p⊢;refine gg [(43,sH a)] ?_;exact bk again [] ⟨a+1,S,⟨some ⟨K,0,none⟩,a+1,U⟩⟩ ⟨A,by rwa[m]⟩
 |false=>
  have ah:CN c.BM (6*a+2)/4%4<4:=JE _ dC;refine gg [(100,JO J 99 (CN c.BM<|6*a+5) 4 (CN c.BM (6*a+5)%4) rfl oG oG),(107,hW (6*(a:Int)) ((6*a:Nat):Int)),(108,hW (((6*a:Nat):Int)+2) ((6*a+2:Nat):Int))]<|call (PC J c.BM q.ta q.tc d u (6*a+2) oG)<|gg [(110,ZK J 109 (CN c.BM<|6*a+2) 4 oG oG),(111,JO J 110 (CN c.BM (6*a+2)/4) 4 (CN c.BM (6*a+2)/4%4) rfl oG oG),(112,.eq _ _<|AYH ah)]<|act (need:=[(3640,.cells ((En<|Ex c.BM false a).map .v) 103)]) (JI (I:=J) Be (s:=⟨ba,a,bc⟩) (x:=.s 3640 0 1 1) (m:=1) (CQ:=((lR a).map<|Ex c.BM false).flatMap En) (news:=En<|Ex c.BM false a) ACI kR g.rb (Ez (e:=103) sP rfl<|Rn _) dC gR) JH ?_;rintro h' ⟨K,U,k,rfl,C,D,E,n,B⟩;have p:=g.ACK (AE:=k) rfl (Rn _) C D E n B;generalize J.plus K _=S at p⊢;refine gg [(43,sH a)] ?_;exact bk again [] ⟨a+1,S,⟨some ⟨K,0,none⟩,a+1,U⟩⟩ ⟨A,by rwa[m]⟩
 have af:a=3:=oG;subst af;subst ak;let⟨s,oc,Q,P⟩:=Oq g.ra<|ABq 1;let⟨v,of,R,ac⟩:=Oq g.rb<|ABq 2;have Q:sa=some ⟨s,0,none⟩:=Q;have R:ba=some ⟨v,0,none⟩:=R;subst Q R;have ab:s≠v:=λe=>by have:=g.nd;simp[Bb,e]at this
 have aj:Cb I [] J ((Bb<|aP s).toList++(Bb<|aP v).toList):=⟨hle,λx y hx _=>g.st.A2 x y (z.Ak x y hx) sP,λx hx=>by rcases g.st.CE x hx with r|r;exact .inl r;exact .inr λy hy=>r y<|z.Ak x y hy⟩
 let⟨n1,n2,n3,n4⟩:=aj.never (b:=s) (by simp[Bb]) P;have N:=n3 v of ac ab.symm;let⟨m1,m2,m3,m4⟩:=n1.never (b:=v) ((Xr ab.symm).2<|by simp[Bb]) N;refine Le s J oc kR P n2<|Le v (J.never s oc) of kR N m2 ?_;have hk:Av ((J.never s oc).never v of) Si 3 ((lR 2).map<|Jb c.BJ) (aP s) sc (((lR 2).map<|Jb c.BJ).flatMap FT):=g.ra.Ou (J:=(J.never s oc).never v of) rfl (Rows.flat.2 rfl) λb o Y ho=>by
  obtain rfl:s=b:=by simpa using Y
  have e:o=oc:=by have:=ho.Ak;rw[P.Ak]at this;exact(FX this).symm
  rw[e];exact m4 s oc<|Nw _ _ _
 have hu:Av ((J.never s oc).never v of) Ro 9 ((lR 3).map<|Ex c.BM F) (aP v) bc (((lR 3).map<|Ex c.BM F).flatMap En):=g.rb.Ou (J:=(J.never s oc).never v of) rfl (Rows.flat.2 rfl) λb o Y ho=>by
  obtain rfl:v=b:=by simpa using Y
  have e:o=of:=by have:=ho.Ak;rw[ac.Ak]at this;exact(FX this).symm
  grind[Nw]
 have M:=m1.GJ;have L:FJ ((J.never s oc).never v of) (Io c.Ax) ip:=FJ.Bf ((g.st.le.trans n4).trans m4) aa;generalize(J.never s oc).never v of=J2 at hk hu M L⊢;exact gG<|dn [] ⟨⟨ip,some ⟨s,0,none⟩,sc,((lR 2).map<|Jb c.BJ).flatMap FT,some ⟨v,0,none⟩,bc,((lR 3).map<|Ex c.BM F).flatMap En⟩,J2,rfl,M,⟨L,hk,hu⟩⟩
abbrev Qo(k:CH)(b:A6)(a:Nat):AA (Nat×AK):=[(6,.cells (Fa b k.ip++[.v<|nV a,.m 7,k.Bu.sv,.p 8 0,k.DD.sv,k.lk.sv]) 107),(7,.Aq<|.map k.es k.n),(8,.cells [.m 9,.m 10] 178),(9,.Aq<|.map k.sm.es k.sm.n),(10,.Aq<|.map k.sm.ns k.sm.m)]
structure QL(k:Ap):Prop where
 E0:Fi k.AC
 len:lN k.AC<=900000
 AC:∀t∈k.AC,CB t.id/\TT t
 Ep:∀x∈k.Ah,O7 x.2
 fl:lN k.Bj<=1000000
 ff:∀f∈k.Bj,BV f.id/\BV f.v.name
 ll:lN k.B5<=1000000
 lf:∀x∈k.B5,BV x.id
def WA:∀a:AA Nm,a.flatMap Mg=a.map BQ
 |[]=>rfl
 |x::l=>by rw[Kb,E4,WA l];rfl
def C8.nm{I}{a:AA Nm}{s}(h:C8 I 1 9 (a.map BQ) s):C8 I 1 9 (a.flatMap Mg) s:=by rwa[WA]
def AWo(m m':CH)(a b:Ap)(i:Nat)(I:AB):Hd where
 Cd:=[(0,.p 1 0),(1,.p 6 0),(31,.v<|.slice m.Bu.a (lN a.AC) m.Bu.c),(32,.v<|iV<|lN a.AC),(33,.v<|iV i)]
 Cc:=CL m a.im a.AD++Qo m' b.im b.AD
 J:=I
abbrev APa(I:AB)(a:AA<|Nat×AK)(r:Bool):zP:=AHA I a r
def AWp(I L L' a b m d)(z:CZ I L a m)(G:CZ I L' b d)(n:QL a)(o:QL b)(an:a.AD<=1000000000)(ao:b.AD<=1000000000):
 Fn 19 [.p 1 0,.p 6 0] (CL m a.im a.AD++Qo d b.im b.AD) I (APa I (CL m a.im a.AD++Qo d b.im b.AD)<|LA a b) nO:=by
 obtain⟨o1,o2⟩:=z.Bu.nm.Mn (V:=Mg) (λ_=>rfl) dC;obtain⟨o3,o4⟩:=G.Bu.nm.Mn (V:=Mg) (λ_=>rfl) dC;obtain⟨f1,X⟩:=z.DD.Mn (V:=Dy) (λ_=>rfl) dC;obtain⟨f3,Y⟩:=G.DD.Mn (V:=Dy) (λ_=>rfl) dC;obtain⟨l1,l2⟩:=z.lk.Mn (V:=E9) (λ_=>rfl) dC;obtain⟨l3,l4⟩:=G.lk.Mn (V:=E9) (λ_=>rfl) dC;rw[DG]at o1 o2 o3 o4;have ar:=n.len;have au:=o.len;have ah:=n.fl;have ai:=o.fl;have aj:=n.ll;have ak:=o.ll;have o2:=o2 (by unfold maxLen;omega);have o4:=o4 (by unfold maxLen;omega);have X:=X (by unfold maxLen;omega);have Y:=Y (by unfold maxLen;omega);have l2:=l2 (by unfold maxLen;omega);have l4:=l4 (by unfold maxLen;omega);have ae:=(AcB I a.Ah b.Ah m.sm.es m.sm.ns m.sm.n m.sm.m d.sm.es d.sm.ns d.sm.n d.sm.m z.B0 G.B0 n.Ep o.Ep).same rfl;have p:∀ {k:Ap},QL k->∀x∈k.AC.map (·.id),BV x:=λhk x A=>by obtain⟨t,ht,e⟩:=BI.1 A;rw[<-e];exact F5 (hk.AC t ht).1
 have o2:Av I.CW NL 1 (a.AC.map λt=>t.id) m.Bu.a m.Bu.c _:=o2;have o4:Av I.CW NL 1 (b.AC.map λt=>t.id) d.Bu.a d.Bu.c _:=o4;have v:=ATf I.CW (a.AC.map λt=>t.id) (b.AC.map λt=>t.id) m.Bu.a d.Bu.a m.Bu.c d.Bu.c _ _ o2 o4 (by rw[DG];omega) (by rw[DG];omega) (p n)<|p o;rw[DG,DG]at v;have B:=v.CW rfl;have C:=(ATg I.CW a.Bj b.Bj m.DD.a d.DD.a m.DD.c d.DD.c _ _ X Y ah ai n.ff o.ff).CW rfl;have D:=(ATh I.CW a.B5 b.B5 m.lk.a d.lk.a m.lk.c d.lk.c _ _ l2 l4 aj ak n.lf o.lf).CW rfl;obtain⟨ip,mes,mn,⟨oa,on,oc⟩,⟨fa,fn,fc⟩,⟨la,ln,lc⟩,sm⟩:=m;obtain⟨ip',mes',mn',⟨S,av,U⟩,⟨E,am,F⟩,⟨Q,aq,R⟩,sm'⟩:=d;simp only at o1 o3 f1 f3 l1 l3 B C D;subst o1 o3 f1 f3 l1 l3;have hf:∀ {r:Bool},LA a b=r->r=LA a b:=λh=>h.symm;refine fo func19 λρ ap w al=> ?_;by_cases s:a.AD=b.AD
 case neg=>
  have e:LA a b=fF:=by unfold LA;simp[s]
  rw[e];exact gg [(15,Fs (a.AD:Int) (b.AD:Int))]<|dn [] rfl
 refine gg [(15,EN (a.AD:Int) (b.AD:Int))]<|call B ?_;by_cases c:a.AC.map (·.id)=b.AC.map (·.id)
 case neg=>
  have e:LA a b=fF:=by
   unfold LA;have:(a.AC==b.AC)=fF:=by rw[Nf];exact λq=>c (by rw[q])
   rw[this];simp
  rw[e,Gp c];exact gG<|dn [] rfl
 rw[G5 c];refine gG ?_;have hlen:lN a.AC=lN b.AC:=by have:=Dt List.length c;simpa using this
 refine loop (ι:=Nat) (λi=>i<=lN a.AC/\a.AC.take i=b.AC.take i) (λi=>lN a.AC-i) (λi=>AWo ⟨ip,mes,mn,⟨oa,lN a.AC,oc⟩,⟨fa,lN a.Bj,fc⟩,⟨la,lN a.B5,lc⟩,sm⟩ ⟨ip',mes',mn',⟨S,lN b.AC,U⟩,⟨E,lN b.Bj,F⟩,⟨Q,lN b.B5,R⟩,sm'⟩ a b i I) 1000 [] 0 ⟨Bm _,rfl⟩ ?_;rintro i ⟨hi,Z⟩ again T;by_cases g:i<lN a.AC;have A:a.AC[i]? =sM a.AC[i]:=BS g;have hy:b.AC[i]? =sM (b.AC[i]'oG):=BS oG;have N:=DR g;have O:b.AC[i]'oG∈b.AC:=DR _;have K:(b.AC[i]'oG).id=a.AC[i].id:=by have:=Dt (λl=>l[i]?) c;simp only[GB,A,hy,LN]at this;exact(FX this).symm
 have f:((a.AC.map (·.id)).map BQ)[i]? =sM (BQ a.AC[i].id):=by rw[GB,GB,A];rfl
 have V:=Kd g;have W:=Kd (show i<lN b.AC by omega);have t1:=NT n.E0 N;have t2:=NT o.E0 O;have n1:=n.AC _ N;have n2:=o.AC _ O;generalize a.AC[i]=x at*;generalize b.AC[i]'oG=y at*;rw[K]at t2;obtain⟨j1,p1,g1,ac,_⟩:=(z.tm.find<|F5 n1.1).2 x (by rwa[NF]);obtain⟨j2,p2,g2,ad,_⟩:=(G.tm.find<|F5 n1.1).2 y (by rwa[NF]);rcases z.Bu.at_ with⟨q2,_,_⟩|⟨bo,P,q1,q2,_⟩;exfalso;have q2:lN a.AC=0:=q2;omega;simp only at q1;subst q1;have u:(((a.AC.map (·.id)).map BQ++P).toArray:Ae AF)[0+i*1]? =sM (BQ x.id):=by rw[Mv,Gj<|by rw[DG,DG];omega];simpa using f
 have ag:=AdQ I x y p1 p2 ac ad n1.2 n2.2;refine gg [(34,tH i<|lN a.AC),(35,Br I Jr bo 0 (lN a.AC) oc i g),(36,.Kz I _ _<|IZ (I:=I.CW) Di rfl q2.CW u),
  (42,hLk Aek I fF 40 41 2 mn g1),
  (48,hLk Aek I fF 46 47 7 mn' g2)] ?_
 refine call ag ?_;by_cases j:x=y;rw[G5 j];exact gg [(51,sH i)]<|bk again [] (i+1) ⟨oG,by rw[V,W,Z,j]⟩;have e:LA a b=fF:=by
  unfold LA;have:(a.AC==b.AC)=fF:=by rw[Nf];intro q;rw[q,hy]at A;exact j (FX A).symm
  rw[this];simp
 rw[e,Gp j];exact gG<|dn [] rfl;have aa:i=lN a.AC:=oG;subst aa;have M:a.AC=b.AC:=by rw[FN,hlen,FN]at Z;exact Z
 have af:(a.AC==b.AC):=by rw[M];simp
 have ab:(a.AD==b.AD):=by rw[s];simp
 have H:LA a b=(JZ a.Ah b.Ah&&decide (a.Bj=b.Bj)&&decide (a.B5=b.B5)):=by
  unfold LA;rw[af,ab,RL,RL];have V:(a.Bj==b.Bj)=decide (a.Bj=b.Bj):=by by_cases q:a.Bj=b.Bj<;>simp[q]
  have W:(a.B5==b.B5)=decide (a.B5=b.B5):=by by_cases q:a.B5=b.B5<;>simp[q]
  rw[V,W]
 rw[H];refine gg [(34,fH (lN a.AC)<|lN a.AC)]<|A0 ae [(1,3),(2,4),(3,5),(4,8),(5,9),(6,10)] ?_;rintro _ rfl;generalize JZ a.Ah b.Ah=r1;cases r1 with
 |false=>
  exact gG<|dn [] rfl
 |true=>
  refine gG<|call C ?_;generalize decide (a.Bj=b.Bj)=r2;cases r2 with
  |false=>
   exact gG<|dn [] rfl
  |true=>
   refine gG<|call D ?_;generalize decide (a.B5=b.B5)=r3;refine gG ?_;exact dn [] (by cases r3<;>rfl) (h:={r:=.v<|vB r3,AV:=CL ⟨ip,mes,mn,⟨oa,lN a.AC,oc⟩,⟨fa,lN a.Bj,fc⟩,⟨la,lN a.B5,lc⟩,sm⟩ a.im a.AD++Qo ⟨ip',mes',mn',⟨S,lN b.AC,U⟩,⟨E,lN b.Bj,F⟩,⟨Q,lN b.B5,R⟩,sm'⟩ b.im b.AD,J:=I})
def AK3(I)(x:Nat)(a:Nat)(g:a<256):HL prog (.binOp .rem 5 (.tmp x) (.const (.int .u8 8)) 5) [(x,SV.v (.int .u8 (a:Int)))] [] I (.v (.int .u8 ((a%8:Nat):Int))):=by
 refine .of ?_;rintro j f w ⟨b,_⟩ d _ _ o e;have c:=d (.int .u8 8) xO;simp[AO]at b;simp[execOp,e,rB,b,c];have h:Int.tmod (a:Int) 8=((a%8:Nat):Int):=by rw[AO0 oG];omega
 have i:prog.underlying 5=sM (.int .u8):=Sw;go_simp;rfl
def AKz{P L}(l:Ed P L){t a b z k off n c i:Nat}{e A m I}(j:L.get t=sM ⟨z,A,.slice e⟩)(h:L.get e=sM m)(u:i<n):
 HL P (.indexAddr t (.tmp a)<|.tmp b) [(a,SV.s k off n c),(b,SV.v<|.int .u8<|Int.ofNat i)] [] I (.p k<|off+i*m.n):=by
 have r:=Aeg l j;let⟨D,C,E,f,s,y,v,g,d⟩:=Dg<|l.get h;refine .of ?_;rintro F B w ⟨p,q,_⟩ _ _ _ o x;have:(0:Int)<=(i:Int)/\(i:Int)<(n:Int):=oG;simp[execOp,x,Instr.indexAt,p,q,AO,asIntOf,rU r,u,sizeOf,typeInfo,f,g,Addr.add_mid]
structure MI where
 i:Nat
 J:AB
 s:Bi
def AVb(a:AU Au)(n c b:Nat)(x:MI):Hd where
 Cd:=[(0,.v<|.slice a n c),(1,.v<|iV b),(5,.s 6 0 8 8),(6,.v<|.slice x.s.a x.s.n x.s.c),(7,.v<|iV x.i)]
 Cc:=[(6,.cells ((Kt.map BQ).map .v) 9)]
 J:=x.J
abbrev APW(I:AB)(a:AA Nm):zP:=He I (λq:AU Au×Nat=>.v<|.slice q.1 (lN a) q.2) λJ q=>Av J NL 1 a q.1 q.2<|a.map BQ
def AVe(I l a c t)(hl:Av I JC 1 l a c t)(d)(hm:d<=1000):Fn 10 [.v<|.slice a (lN l) c,.v<|iV d] [] I (APW I<|H0 l d) nO:=by
 refine fo func10 λρ aa w W=>gG<|loop (ι:=MI) (λx=>(x.i<=d/\x.i<=lN l)/\Told I x.J 1 9 ((H0 l x.i).map BQ) x.s) (λx=>d-x.i) (AVb a (lN l) c d) 1000 [(6,108)] ⟨0,I,⟨nO,0,0⟩⟩ ⟨⟨Bm _,Bm _⟩,.nil I 1 9⟩ ?_;rintro⟨i,J,⟨M,f,s⟩⟩ ⟨⟨hi,u⟩,m⟩ again T;simp only at hi u m;have hle:=m.st.GJ;have C:∀k,k<=lN l->lN (H0 l k)=k:=λk P=>by unfold H0;rw[DG,Cu];omega
 have U:f=i:=by have h:=m.row.n;rw[DG,C i u]at h;simp only at h;omega
 subst U;by_cases hh:f<lN l/\f<d
 case neg=>
  have e:H0 l d=H0 l f:=by unfold H0;by_cases h:f<lN l;rw[show d=f by omega];rw[Na oG,Na oG]
  rw[e];have E:=C f u;cases Y:f with
  |zero=>
   subst Y;have D:H0 l 0=[]:=rfl;rw[D];by_cases h:0<lN l;refine gg [(12,hT<|((0:Nat):Int)<(lN l:Int)),(16,hF<|((0:Nat):Int)<(d:Int))] ?_
   rotate_left
   refine gg [(12,hF<|((0:Nat):Int)<(lN l:Int))] ?_
   all_goals exact dn [] ⟨(M,s),J,rfl,hle,⟨⟨rfl,λv hv=>(by cases hv),.inl rfl⟩,Bm _,(by
    rcases m.row.at_ with⟨_,_,q⟩|⟨_,_,_,_,_,_,q⟩;have q:s=0:=q;show s<=maxLen;rw[q];exact Bm _
    exact q),rfl⟩⟩ (h:={r:=.v<|.slice M 0 s,J:=J})
  |succ n=>
   rw[<-Y];let⟨j,oc,B,A⟩:=Oq m.row (by show 0<f;omega);have B:M=sM ⟨j,0,nO⟩:=B;subst B;let⟨n1,n2,n3,n4⟩:=m.st.never (b:=j) (by simp[Bb]) A;refine Le j J oc kR A n2 ?_;have P:Av (J.never j oc) NL 1 (H0 l f) (aP j) s ((H0 l f).map BQ):=m.row.Ou (J:=J.never j oc) E.symm (by rw[<-WA];exact Rows.flat.2 rfl) λb o hb ho=>by
    obtain rfl:j=b:=by simpa using hb
    have e:o=oc:=by have:=ho.Ak;rw[A.Ak]at this;exact(FX this).symm
    rw[e];exact Nw _ _ _
   have p:=n1.GJ;generalize J.never j oc=L at P p⊢;by_cases h:f<lN l;refine gg [(12,tH f<|lN l),(16,fH f d)] ?_
   rotate_left
   refine gg [(12,fH f<|lN l)] ?_
   all_goals exact dn [] ⟨(sM ⟨j,0,nO⟩,s),L,by rw[E],p,P⟩ (h:={r:=.v<|.slice (aP j) f s,J:=L})
 let⟨h,h2⟩:=hh;have X:l[f]? =sM l[f]:=BS h;have g:(H0 l<|f+1).map BQ=(H0 l f).map BQ++[BQ<|Kt.getD (l[f].toNat%8) []]:=by unfold H0;rw[Kd h,E3,E3];rfl
 have G:(l[f]).toNat<256:=(l[f]).toNat_lt;generalize l[f]=x at X g G;have z:x.toNat%8<8:=JE _ dC;have y:((Kt.map BQ).map SV.v)[0+x.toNat%8*1]? =sM (.v<|BQ<|Kt.getD (x.toNat%8) []):=by rw[show 0+x.toNat%8*1=x.toNat%8 by omega,GB,GB,BS<|show x.toNat%8<lN Kt from z,DK,BS<|show x.toNat%8<lN Kt from z];rfl
 obtain⟨b,K,arr,e,fr,ab,rfl,q2,q3,q4,q5⟩:=hl.cell AFu X;subst q3;have q0:=q5 0 _ rfl;simp only[IB]at q0;refine gg [(12,tH f<|lN l),(16,tH f d),(24,Br J ADC b K (lN l) c f h),(25,ED J Sw rfl (K+f*1) (Pv x) (hle _ _ q2) q0),
  (26,.BZ (.binOp .rem 5 (.tmp 25) (.const<|.int .u8 8) 5) [(25,.v<|.int .u8 (x.toNat:Int))] [] J (.v<|.int .u8 ((x.toNat%8:Nat):Int))<|AK3 J 25 x.toNat G),
  (27,.BZ (.indexAddr 38 (.tmp 21)<|.tmp 26) [(21,.s 6 0 8 8),(26,.v<|.int .u8 ((x.toNat%8:Nat):Int))] [] J (.p 6<|0+x.toNat%8*1)<|AKz Be (L:=Bt) (t:=38) (a:=21) (b:=26) (k:=6) (off:=0) (n:=8) (c:=8) (i:=x.toNat%8) (e:=9) rfl rfl z),
  (28,Afe Be J 9 27 6 (0+x.toNat%8*1) 9 rfl rfl y)] ?_
 refine act (need:=[(1144,.cells ([BQ<|Kt.getD (x.toNat%8) []].map .v) 9)]) (JI (I:=J) Be (s:=⟨M,f,s⟩) (x:=.s 1144 0 1 1) (m:=1) (CQ:=(H0 l f).map BQ) (news:=[BQ<|Kt.getD (x.toNat%8) []]) Ve kR m.row (Ez (e:=9) sP rfl<|SQ rfl) dC<|by show f+1<=16777216;omega) JH ?_;rintro h' ⟨V,Z,H,rfl,Q,R,S,N,O⟩;have F:=m.app (AE:=H) (news:=[BQ<|Kt.getD (x.toNat%8) []]) rfl (SQ rfl) Q R S N O;generalize J.plus V _=L at F⊢;refine gg [(19,sH f)] ?_;exact bk again [] ⟨f+1,L,⟨sM ⟨V,0,nO⟩,f+1,Z⟩⟩ ⟨⟨h2,h⟩,by rw[g];exact F⟩
def APL(I:AB)(a:AA<|Nat×AK)(r:Bool):zP:=λ_ h=>∃J,I.le J/\h= {r:=.v<|vB r,AV:=a,J:=J}
def ACb(I n o a b m f)(x:CZ I n a m)(y:CZ I o b f)(E:X7 a)(F:X7 b)(l)(e:B9 l)(C:QL<|Hh a l)(D:QL<|Hh b l)(i:a.AD<=1000000000)(j:b.AD<=1000000000):
 Fn 27 [.p 1 0,.p 6 0,DW l] (CL m a.im a.AD++Qo f b.im b.AD) I (APL I (CL m a.im a.AD++Qo f b.im b.AD)<|sameAt a b l) nO:=by
 refine fo func27 λG z w p=>gG<|A0 (AKL I n a m x E l e) [] ?_;rintro _ ⟨A,r,q,rfl,c,g⟩;refine gG<|A0 (AKL q o b f (y.up c.GJ) F l e) (tK 6) ?_;rintro _ ⟨B,s,k,rfl,d,h⟩;refine gG<|A0 (AWp k r s (Hh a l) (Hh b l) A B (g.up d.GJ) h C D i j) (tK 132++[(6,156),(7,157),(8,158),(9,159),(10,160)]) ?_;rintro _ rfl;exact gG<|dn [] ⟨k,c.GJ.trans d.GJ,rfl⟩
abbrev QT(l:Lz.AT)(n:Int):AA (Nat×AK):=[(1,Qs l),(2,.cells [.v<|nV n] 2)]
def AGt{g:Type}(I:AB)(b:AA<|Nat×AK)(R:g->AA AF->Prop)(d:Nat)(f:AA g):zP:=λ_ h=>∃a c e J,I.le J/\Av J R d f a c e/\h= {r:=.v<|.slice a (lN f) c,AV:=b,J:=J}
def AQ5(I l)(n:Int)(s)(h:B9 l)(d:B9 s.l):Fn 79 [.g<|(FT s).map .v,.p 1 0,.p 2 0] (QT l n) I (BW (.g<|(FT<|FV l n s).map .v) I) nO:=by have b:=NB I s.l l d h;let⟨a,v⟩:=s;rw[FV];cases e:fl a l<;>rw[e]at b<;>exact Fn.same (fo func79 λg f w c=>gG<|call b<|gG<|dn [] rfl) rfl
def ASu(a:AU Au)(c len:Nat)(l:Lz.AT)(n:Int)(q:Nat×Bi×AB):Hd where
 Cd:=[(1,.fn (.func 79) [] [.p 1 0,.p 2 0]),(5,.v<|.slice q.2.1.a q.2.1.n q.2.1.c),(8,.v<|.slice a len c),(9,.v<|iV len),(10,.v<|iV q.1)]
 Cc:=QT l n
 J:=q.2.2
def AS4(I l)(n:Int)(X:B9 l)(d a)(c:Nat)(r)(Y:Av I Si 3 d a c r)(hn:lN d<=1000000)(V:0<lN d)(H:∀s∈d,B9 s.l):
 Fn 78 [.v<|.slice a (lN d) c,.fn (.func 79) [] [.p 1 0,.p 2 0]] (QT l n) I (AGt I (QT l n) Si 3<|d.map<|FV l n) nO:=by
 refine fo func78 λρ Z w Q=>gG<|loop (ι:=Nat×Bi×AB) (λq=>q.1<=lN d/\Told I q.2.2 3 99 (((d.take q.1).map<|FV l n).flatMap FT) q.2.1) (λq=>lN d-q.1) (ASu a c (lN d) l n) 1000 [] (0,⟨nO,0,0⟩,I) ⟨Bm _,.nil I 3 99⟩ ?_;rintro⟨i,⟨S,g,M⟩,J⟩ ⟨D,m⟩ again T;simp only at D m;have K:g=i:=by have O:=m.row.n;rw[HB (n:=3) (f:=FT) λ_=>rfl,DG,Cu]at O;simp only at O;omega
 subst K;by_cases j:g<lN d;have R:d[g]? =sM d[g]:=BS j;have v:=H _<|DR j;have k:((d.take<|g+1).map<|FV l n).flatMap FT=((d.take g).map<|FV l n).flatMap FT++FT (FV l n d[g]):=by rw[Kd j,E3,Mu];simp
 generalize d[g]=f at R v k;have hle:=m.st.GJ;obtain⟨b,z,arr,e,fr,L,rfl,q2,q3,q4,q5⟩:=(Y.up hle λ_ _ h=>h).cell AAo R;have q3:L=FT f:=q3;subst q3;refine gg [(11,tH g<|lN d),(12,Br J Yy b z (lN d) c g j),(13,D8 J AAj (z+g*3) (FT f) rfl q2 q5)]<|IG (AQ5 J l n f X v) []<|gG<|act (need:=[(1072,.cells ((FT<|FV l n f).map .v) 99)]) (JI (I:=J) Be (s:=⟨S,g,M⟩) (x:=.s 1072 0 1 1) (m:=1) (CQ:=((d.take g).map<|FV l n).flatMap FT) (news:=FT<|FV l n f) AHT kR m.row (Ez (e:=99) sP rfl<|XP _) dC<|by show g+1<=16777216;omega) JH ?_;rintro h' ⟨N,U,y,rfl,E,F,G,B,C⟩;have x:=m.app (AE:=y) (news:=FT<|FV l n f) rfl (XP _) E F G B C;generalize J.plus N _=A at x⊢;refine gg [(20,sH g)] ?_;exact bk again [] (g+1,⟨sM ⟨N,0,nO⟩,g+1,U⟩,A) ⟨j,by rwa[k]⟩;have D:g=lN d:=oG;subst D;rw[FN]at m;let⟨p,oc,u,t⟩:=Oq m.row V;have u:S=sM ⟨p,0,nO⟩:=u;subst u;let⟨n1,n2,n3,n4⟩:=m.st.never (b:=p) (by simp[Bb]) t;refine Le p J oc kR t n2 ?_;have P:Av (J.never p oc) Si 3 (d.map<|FV l n) (aP p) M ((d.map<|FV l n).flatMap FT):=m.row.Ou (J:=J.never p oc) (by rw[DG]) (Rows.flat.2 rfl) λb o W H=>by
  obtain rfl:p=b:=by simpa using W
  have e:o=oc:=by have:=H.Ak;rw[t.Ak]at this;exact(FX this).symm
  rw[e];exact Nw _ _ _
 have hle:=n1.GJ;generalize J.never p oc=A at P hle⊢;exact gg [(11,fH (lN d)<|lN d)]<|dn [] ⟨sM ⟨p,0,nO⟩,M,_,A,hle,P,by rw[DG]⟩
def AQ6(I l)(n:Int)(s)(h:B9 l)(i:B9 s.l):Fn 81 [.g<|(En s).map .v,.p 1 0,.p 2 0] (QT l n) I (BW (.g<|(En<|ET l n s).map .v) I) nO:=by have d:=NB I s.l l i h;let⟨f,a,c,m,r,b,v⟩:=s;rw[ET];cases e:fl a l<;>rw[e]at d<;>exact Fn.same (fo func81 λk j w g=>gG<|call d<|gG<|dn [] rfl) rfl
def ASv(a:AU Au)(c len:Nat)(l:Lz.AT)(n:Int)(q:Nat×Bi×AB):Hd where
 Cd:=[(1,.fn (.func 81) [] [.p 1 0,.p 2 0]),(5,.v<|.slice q.2.1.a q.2.1.n q.2.1.c),(8,.v<|.slice a len c),(9,.v<|iV len),(10,.v<|iV q.1)]
 Cc:=QT l n
 J:=q.2.2
def AS5(I l)(n:Int)(X:B9 l)(d a)(c:Nat)(r)(Y:Av I Ro 9 d a c r)(hn:lN d<=1000000)(V:0<lN d)(H:∀s∈d,B9 s.l):
 Fn 80 [.v<|.slice a (lN d) c,.fn (.func 81) [] [.p 1 0,.p 2 0]] (QT l n) I (AGt I (QT l n) Ro 9<|d.map<|ET l n) nO:=by
 refine fo func80 λρ Z w Q=>gG<|loop (ι:=Nat×Bi×AB) (λq=>q.1<=lN d/\Told I q.2.2 9 103 (((d.take q.1).map<|ET l n).flatMap En) q.2.1) (λq=>lN d-q.1) (ASv a c (lN d) l n) 1000 [] (0,⟨nO,0,0⟩,I) ⟨Bm _,.nil I 9 103⟩ ?_;rintro⟨i,⟨S,g,M⟩,J⟩ ⟨D,m⟩ again T;simp only at D m;have K:g=i:=by have O:=m.row.n;rw[HB (n:=9) (f:=En) λ_=>rfl,DG,Cu]at O;simp only at O;omega
 subst K;by_cases j:g<lN d;have R:d[g]? =sM d[g]:=BS j;have v:=H _<|DR j;have k:((d.take<|g+1).map<|ET l n).flatMap En=((d.take g).map<|ET l n).flatMap En++En (ET l n d[g]):=by rw[Kd j,E3,Mu];simp
 generalize d[g]=f at R v k;have hle:=m.st.GJ;obtain⟨b,z,arr,e,fr,L,rfl,q2,q3,q4,q5⟩:=(Y.up hle λ_ _ h=>h).cell ACZ R;have q3:L=En f:=q3;subst q3;refine gg [(11,tH g<|lN d),(12,Br J ADD b z (lN d) c g j),(13,D8 J AAg (z+g*9) (En f) rfl q2 q5)]<|IG (AQ6 J l n f X v) []<|gG<|act (need:=[(1072,.cells ((En<|ET l n f).map .v) 103)]) (JI (I:=J) Be (s:=⟨S,g,M⟩) (x:=.s 1072 0 1 1) (m:=1) (CQ:=((d.take g).map<|ET l n).flatMap En) (news:=En<|ET l n f) ACI kR m.row (Ez (e:=103) sP rfl<|Rn _) dC<|by show g+1<=16777216;omega) JH ?_;rintro h' ⟨N,U,y,rfl,E,F,G,B,C⟩;have x:=m.app (AE:=y) (news:=En<|ET l n f) rfl (Rn _) E F G B C;generalize J.plus N _=A at x⊢;refine gg [(20,sH g)] ?_;exact bk again [] (g+1,⟨sM ⟨N,0,nO⟩,g+1,U⟩,A) ⟨j,by rwa[k]⟩;have D:g=lN d:=oG;subst D;rw[FN]at m;let⟨p,oc,u,t⟩:=Oq m.row V;have u:S=sM ⟨p,0,nO⟩:=u;subst u;let⟨n1,n2,n3,n4⟩:=m.st.never (b:=p) (by simp[Bb]) t;refine Le p J oc kR t n2 ?_;have P:Av (J.never p oc) Ro 9 (d.map<|ET l n) (aP p) M ((d.map<|ET l n).flatMap En):=m.row.Ou (J:=J.never p oc) (by rw[DG]) (Rows.flat.2 rfl) λb o W H=>by
  obtain rfl:p=b:=by simpa using W
  have e:o=oc:=by have:=H.Ak;rw[t.Ak]at this;exact(FX this).symm
  rw[e];exact Nw _ _ _
 have hle:=n1.GJ;generalize J.never p oc=A at P hle⊢;exact gg [(11,fH (lN d)<|lN d)]<|dn [] ⟨sM ⟨p,0,nO⟩,M,_,A,hle,P,by rw[DG]⟩
def AHq(I c q)(g:Ke I c q)(l)(n:Int)(p:B9 l)(A:lN c.BJ<=1000000)(d:0<lN c.BJ)(B:lN c.BM<=1000000)(k:0<lN c.BM)(e:∀s∈c.BJ,B9 s.l)(m:∀s∈c.BM,B9 s.l):
 Fn 24 [.g<|MU c q,DW l,.v<|nV n] [] I (AB1 I<|Lz.blank c l n) nO:=by
 let⟨C,x,y,z,E,F,G⟩:=q;refine fo func24 λK D w o=>gG<|A0 (AS4 I l n p c.BJ x y z g.bx A d e) [(1,108),(2,116)] ?_;rintro _ ⟨u,c1,H,r,a,i,rfl⟩;refine gG<|A0 (AS5 r l n p c.BM E F G (g.th.up a λ_ _ h=>h) B k m) [(1,108),(2,116)] ?_;rintro _ ⟨v,c2,J,t,b,j,rfl⟩;exact gG<|dn [] ⟨⟨C,u,c1,H,v,c2,J⟩,t,by rw[Ta],a.trans b,⟨g.im.up<|a.trans b,i.up b λ_ _ h=>h,j⟩⟩
end
section
open Go.AX Go.RowKit Go.Shelf Lz
def ANf:Ren where
 f:=λx=>match x with|221=>264|268=>335|138=>336|143=>337|195=>368|197=>364|218=>369|219=>338|260=>394|217=>370|225=>371|224=>372|267=>373|266=>397|314=>398|n=>n
 t:=λx=>match x with|9=>9|3=>3|31=>38|4=>4|0=>0|105=>451|21=>21|5=>5|46=>302|119=>487|139=>490|138=>489|146=>474|51=>423|n=>n
 g:=λx=>match x with|1=>3|3=>9|4=>10|n=>n
theorem ANe:Lays.n221 prog ANf:=by constructor<;>first|(intros;exact kR)|(constructor<;>first|(intros;exact kR)|(constructor<;>intros<;>exact kR))
def ACA(I:AB)(n c:Nat)(b:AA AF)(e:BN):zP:=λa h=>h= {r:=.s (a+0) 0 n c,nb:=[.As b e],J:=I}
theorem AeF{I n c i e}:VZ (ACA I n c i e) [] I:=by refine⟨?_⟩;rintro a h rfl;refine⟨⟨λk d=>.inr ?_,nA,λb g k d=> ?_,sP,sP⟩,AB.le_refl _⟩;simp[SV.A3]at d;rw[d];show(CX a [AK.As i e]<|a+0).isSome;rw[Nv];rfl;simp at g;subst g;cases d
theorem AUP{F}{fn}{args}{av}{n c}{xs}{e}{I}(m:Tryz.prog.funcs[F]? =some fn)(hb:fn.body.isSome=true)(f:(fn.name== "runtime.NumGoroutine")=false)
 (ha: ∀ρ,(BB ρ args).toArray=av) (h: ∀w,EJ w I->Calls Tryz.prog F av w λx l=>x=.returned (.slice (some ⟨w.heap.size,0,none⟩) n c)/\l=w.alloc (.cells xs.toArray e)):Fn F args [] I (ACA I n c xs e) none:=by
 refine⟨FC.of AeF.EA.out λρ key w k _ g _ _=> ?_,AX.JL m hb f⟩;rw[ha ρ];refine(h w g.1).mono ?_;rintro x l ⟨rfl,rfl⟩;have a:Bl w (w.alloc<|.cells xs.toArray e):=⟨rfl,rfl,rfl,sP,λb hb=>Below.heap_alloc _ _ _ hb⟩;refine⟨_,λ_=>w.heap.size,rfl,⟨rfl,rfl,rfl,a.size,λb hb _ _=>a.block b hb,(λkb d=>by cases d),?_,?_,a.Eo g,λb o hb=>.inl hb,λb o hb=>IM hb⟩,?_⟩;intro j b hj
 match j,hj with
 |0,hj=>cases hj;exact⟨World.alloc_heap_new w _,rfl,.inl<|Ag _⟩
 |j+1,hj=>simp at hj
 intro i j hi hj _;simp at hi hj;omega;simp only[AO,Ab.Bh];rw[Nv];rfl
theorem hi9:(prog.info?<|ANf.t 9).map (λi=>(i.zero,i.size,i.bytes))=sM (sM<|vS ByteArray.empty,1,16):=kR
theorem AUl(s)(f:s.size<=1000000)(w):Calls prog 264 #[vS s,vS ⟨#[10]⟩,.int iK 0,.int iK (-1)] w λe a=>
 e=.returned (.slice (aP w.heap.size) (lN<|Lib.splitB ⟨#[10]⟩ 0 (Lib.countB s ⟨#[10]⟩) s)<|Lib.countB s ⟨#[10]⟩+1)/\a=w.alloc (.cells (Lib.cellsOf (Lib.splitB ⟨#[10]⟩ 0 (Lib.countB s ⟨#[10]⟩) s)<|Lib.countB s ⟨#[10]⟩+1) 9):=by
 have hle:=Lib.countB_le ⟨#[10]⟩ dC s.size s<|Ag _;refine(Any.strings_genSplit_core ANe hi9 s ⟨#[10]⟩ 0 (-1) (Lib.countB s ⟨#[10]⟩+1) w oG dC dC ?_ ?_ dC dC<|by rw[Ac dC];omega).mono ?_;intro x c _;refine(ADy 10 x _).mono ?_;rintro e a ⟨rfl,rfl⟩;refine⟨?_,rfl⟩;have:Lib.index x.data.toList [10]=Lib.indexByte x.data.toList 10:=Lib.index_one _ _;exact Dt (λz=>Ending.returned<|nV z) this.symm;refine(Any.strings_Count_one {ANe with} s 10 w).mono λe a ⟨b,d⟩=>⟨?_,d⟩;rw[b];show _=Ending.returned (Value.int iK ((Lib.count s.data.toList [10]:Nat):Int));rw[Lib.count_one];rfl;intro e a h;exact h
theorem Ab6(s)(b:s.size<=1000000)(w):Calls prog 184 #[vS s,vS ⟨#[10]⟩] w λe a=>
 e=.returned (.slice (aP w.heap.size) (lN (Lib.splitB ⟨#[10]⟩ 0 (Lib.countB s ⟨#[10]⟩) s)) (Lib.countB s ⟨#[10]⟩+1))/\a=w.alloc (.cells (Lib.cellsOf (Lib.splitB ⟨#[10]⟩ 0 (Lib.countB s ⟨#[10]⟩) s) (Lib.countB s ⟨#[10]⟩+1)) 9):=by
 have HX:=Lib.hid (AUl s b w);generalize Lib.cellsOf _ _=d at HX⊢;generalize(Lib.splitB ⟨#[10]⟩ 0 (Lib.countB s ⟨#[10]⟩) s).length=n at HX⊢;generalize Lib.countB s ⟨#[10]⟩+1=c at HX⊢
 go_enter func184,ntmps184
 go_wp2_with (go_at_call 264;refine HX.out.mono ?_;rintro e a ⟨rfl,rfl⟩)
 go_ret
 exact⟨rfl,rfl⟩
theorem Pp(ρ a q)(h:Ab)(e:h.nb=[]):h.Bh ρ a q=ρ:=by grind[Ab.Bh,CX]
def K5(I:AB)(ρ:Nat->Nat)(w:AN):Prop:=∀x∈[1,2,3,4,5],ρ x<w.heap.size/\I.free (ρ x)/\∀y∈[1,2,3,4,5],ρ x=ρ y->x=y
structure PX(I:AB)(R:AA Nat)(ρ:Nat->Nat)(f:AN)(d:Ap)(m:CH)(L:AA Rw)(J:AB)(S:AA Nat)(W:AN):Prop where
 A:After I ρ f W 0 id {r:=.v undef,AV:=CL m d.im d.AD,J:=J}
 s:Cb I R J (CM L m)
 K:CZ J L d m
 S:∀b∈S,f.heap.size<=b/\b<W.heap.size/\J.free b
 Aeu:K5 I ρ f
theorem AWY(m c a){ρ w}(h:Has w ρ<|CL m c a):∀k∈[1,2,3,4,5],ρ k<w.heap.size:=by
 intro k g;have:k∈(CL m c a).map (·.1):=g;obtain⟨e,b,rfl⟩:=BI.1 this;have i:e.2.live:=by simp[CL,mS]at b;rcases b with rfl|rfl|rfl|rfl|rfl<;>rfl
 let⟨o,j⟩:=AK.UI i ρ;exact Eg<|h e b o j
theorem AWZ{m j:CH}{i c:A6}{g a:Nat}{ρ:Nat->Nat}{b:Nat}(h:∀e∈CL m i g,ρ e.1≠b):∀e∈CL j c a,ρ e.1≠b:=by simp_all
theorem PX.start{I L ρ w k m}(e:CZ I L k m)(hH:Has w ρ<|CL m k.im k.AD)(c:Holds w I)(g:∀kb∈CL m k.im k.AD,I.free<|ρ kb.1)(a:∀x∈CL m k.im k.AD,∀y∈CL m k.im k.AD,ρ x.1=ρ y.1->x.1=y.1):PX I (CM L m) ρ w k m L I [] w where
 A:=⟨rfl,rfl,rfl,Ag _,λ_ _ _ _=>rfl,by assumption,(λj b h=>by cases h),(λi j h=>by cases h),c,λb o h=>.inl h,gR⟩
 s:=Cb.refl _ _
 K:=e
 S:=λb h=>by cases h
 Aeu:=λx l=>by
  have mem:∀x∈[1,2,3,4,5],∃kb∈CL m k.im k.AD,kb.1=x:=by simp
  grind[AWY]
variable{I:AB}{R:List Nat}{ρ:Nat->Nat}{f:World}{d:Ap}{S:List Nat}{W W':World}{m:CH}{L:List Rw}{J:AB}
theorem PX.Xa(h:PX I R ρ f d m L J S W)(t:W'.os=W.os)(u:W'.tape=W.tape)(v:W'.output=W.output)(w:W.heap.size<=W'.heap.size)(l:∀b,b<W.heap.size->b∉S->W'.heap[b]? =W.heap[b]?):PX I R ρ f d m L J S W':=by
 let⟨a,B,z,q,p⟩:=h;refine⟨?_,B,z,gR,p⟩;have s:∀b,b<f.heap.size->b∉S:=λb c n=>by grind
 have k:=a.AV;rw[Pp _ _ _ _ rfl]at k;refine⟨t.trans a.os,u.trans a.tape,v.trans a.output,Ch a.size w,λb c x y=>(l b (QA c a.size)<|s b c).trans<|a.A2 b c x y,?_,(λj b h=>by cases h),(λi j h=>by cases h),?_,a.fresh,a.IX⟩;rw[Pp _ _ _ _ rfl];intro r e o A;have g:=(p _ (AKD (key:=0) (nb:=[]) r e).1).1;rw[l _ (QA g a.size)<|s _ g];exact k r e o A;constructor;intro b o c;have:=a.H2.1 b o c;rwa[l b (Eg this) λn=>by have:=(q b n).2.2.1;grind];intro b o c;have:=a.H2.2 b o c;rwa[l b (Eg this) λn=>by have:=(q b n).2.2.2;grind]
theorem PX.put(h:PX I R ρ f d m L J S W){b}(a:b∈S)(o):PX I R ρ f d m L J S (W.putObj b o):=
 h.Xa rfl rfl rfl (by simp[World.putObj]) (by grind[World.putObj_heap_other])
theorem PX.set(h:PX I R ρ f d m L J S W){b}(a:b∈S)(v):PX I R ρ f d m L J S (W.setCell ⟨b,0,nO⟩ v):=
 h.Xa rfl rfl rfl (by simp[World.setCell]) (by grind[Below.heap_setCell])
theorem PX.alloc(h:PX I R ρ f d m L J S W)(o):PX I R ρ f d m L J (W.heap.size::S) (W.alloc o):=by have a:=h.Xa (W':=W.alloc o) rfl rfl rfl sP λx e _=>Below.heap_alloc _ _ _ e;refine⟨a.A,a.s,a.K,λb c=> ?_,a.Aeu⟩;rcases Co.1 c with rfl|c;exact⟨h.A.size,sP,PU h.A.H2<|Ag _⟩;exact a.S b c
theorem PX.free(h:PX I R ρ f d m L J S W):∀k∈[1,2,3,4,5],J.free (ρ k):=λk c=>by let⟨g,b,_⟩:=h.Aeu k c;constructor;rcases e:J.at_ (ρ k)with _|o;rfl;rcases h.A.fresh _ _ e with a|⟨a,_⟩;rw[b.1]at a;cases a;omega;rcases e:J.Ak (ρ k)with _|o;rfl;rcases h.A.IX _ _ e with a|⟨a,_⟩;rw[b.2]at a;cases a;omega
theorem PX.B8(h:PX I R ρ f d m L J S W):Has W ρ (CL m d.im d.AD):=by have a:=h.A.AV;assumption
theorem PX.ret(h:PX I R ρ f d m L J S W)(c r):After I ρ f W c id {r:=r,AV:=CL m d.im d.AD,J:=J}:=by have a:=h.A;exact⟨a.os,a.tape,a.output,a.size,a.A2,by rw[Pp _ _ _ _ rfl];exact h.B8,(λj b h=>by cases h),(λi j h=>by cases h),a.H2,a.fresh,a.IX⟩
theorem PX.step{m A L B J x z p H q s}(h:PX I R ρ f d m L J S W)(O:∀k∈[1,2,3,4,5],p k=ρ k)(a:After J p W W' H q s)(F:s.nb=[])(N:s.J=x)
 (w:∀c∈CL A z.im z.AD,c∈s.AV) (u:∀c∈s.AV,c.1∈[1,2,3,4,5]\/f.heap.size<=p c.1) (G:Cb I R x<|CM B A) (C:CZ x B z A):
 PX I R ρ f z A B x S W'/\∀b∈S,(∀c∈s.AV,p c.1≠b)->W'.heap[b]? =W.heap[b]? :=by
 let⟨r,V,U,t,M⟩:=h;subst N;have E:∀c∈s.AV,∀b,b<f.heap.size->(∀c∈CL m d.im d.AD,ρ c.1≠b)->p c.1≠b:=λc n b g y e=>by
  rcases u c n with q|q;rw[O _ q]at e;have:c.1∈(CL m d.im d.AD).map (·.1):=q
  grind
  omega
 refine⟨⟨?_,G,C,λb g=>⟨(t b g).1,QA (t b g).2.1 a.size,?_⟩,M⟩,λb g P=>a.A2 b (t b g).2.1 P (t b g).2.2.2⟩;have v:=a.AV;rw[Pp _ _ _ _ F]at v;refine⟨a.os.trans r.os,a.tape.trans r.tape,a.output.trans r.output,Ch r.size a.size,λb g y K=> ?_,?_,(λj b h=>by cases h),(λi j h=>by cases h),a.H2,λb o g=> ?_,λb o g=> ?_⟩;refine(a.A2 b (QA g r.size) (λc n=>E c n b g<|AWZ y) ?_).trans<|r.A2 b g (AWZ y) K;rcases e:J.Ak b with _|o;rfl;rcases r.IX _ _ e with l|⟨l,_⟩
 grind
 omega;rw[Pp _ _ _ _ rfl];intro c n o Q;let⟨y,K⟩:=AKD (key:=0) (nb:=[]) c n;have e:c.2.AO p=c.2.AO ρ:=by grind[CX,AK.Ko]
 have:=v c (w c n) o (by rw[e];exact Q)
 grind
 rcases a.fresh b o g with e|⟨e,_⟩;rcases r.fresh b o e with l|⟨l,_⟩;exact .inl l
 grind
 exact .inr ⟨Ch r.size e,λj D=>by cases D⟩;rcases a.IX b o g with e|⟨e,_⟩;let⟨T,e⟩:=Mz.1 e;rcases r.IX b T e with l|⟨l,_⟩;exact .inl l
 grind
 exact .inr ⟨Ch r.size e,λj D=>by cases D⟩;constructor;rcases e:s.J.at_ b with _|o;rfl;rcases a.fresh _ _ e with l|⟨l,_⟩;rw[(t b g).2.2.1]at l;cases l
 grind
 rcases e:s.J.Ak b with _|o;rfl;rcases a.IX _ _ e with l|⟨l,_⟩;rw[(t b g).2.2.2]at l;cases l
 grind
theorem PX.run{G g v rv s m L J}(h:PX I R ρ f d m L J S W)(w:Fn G g (CL m d.im d.AD) J (Ki J (CM L m) rv v) nO)(r:(BB ρ g).toArray=s):
 Calls prog G s W λe W'=>e=.returned (AO ρ rv)/\(∃o n l,PX I R ρ f v o n l S W'/\Cb J (CM L m) l (CM n o))/\∀b∈S,W'.heap[b]? =W.heap[b]? :=by
 have c:∀i∈CL m d.im d.AD,i.1∈[1,2,3,4,5]:=by simp
 have t:=w.out ρ 100 W (Ag _) h.B8 h.A.H2 (λi a=>h.free _<|c i a) λx z y A e=>(h.Aeu _<|c x z).2.2 _ (c y A) e;rw[r]at t;refine t.mono ?_;rintro e W' ⟨h',q,⟨⟨o,n,l,rfl,j,p⟩,_⟩,hA2,rfl⟩;let⟨B,p2⟩:=h.step (λk _=>rfl) hA2 rfl rfl (λi a=>a) ((by simp)) (h.s.trans j) p;refine⟨by rw[Pp _ _ _ _ rfl],⟨o,n,l,B,j⟩,λb u=>p2 b u λi a e=> ?_⟩;have C:=(h.Aeu _ (AKD (key:=0) (nb:=[]) i a).1).1;have D:=(h.S b u).1;omega
theorem PX.idc(h:PX I R ρ f d m L J S W){a n s b}(r:Av I NL 1 a n s b){o e i}(k:i<lN a)(g:n=sM ⟨o,e,nO⟩):W.cell? ⟨o,e+i,nO⟩=sM (vS<|Aa<|a.getD i []):=by let⟨t,l,j,u,p,c,q1,q2,q3,q4,q5⟩:=r.cell Ws<|BS k;have q3:c=Mg (a[i]):=q3;subst q3;rw[g]at q1;cases q1;have q:=h.A.H2.1 _ _<|h.s.le _ _ q2;have:=q5 0 _ rfl;simp[World.cell?,q,DK,BS k,TH];rw[show e+i*1+0=e+i by omega]at this;exact this
theorem Afs{I b h n a}(k:Av I NL 1 b h n a):∃l o,0<lN b->h=sM ⟨l,o,nO⟩:=by
 by_cases j:0<lN b;let⟨p,e,c,q,i,g,q1,_⟩:=k.cell Ws<|BS j
 grind
 simp_all
theorem Afo{k a i}(b:i<lN a):a[i]? =sM (a.getD i [])/\Fe k (a.take<|i+1)=(F6 (Fe k<|a.take i)<|a.getD i []).1:=by grind[Fe,List.getElem?_eq_getElem,List.take_add_one]
theorem AaV{F n P g ps assign body Q a w}(e:F.round=nO)(h1:1<=n){gf lb}(l:a.eval g=.func (.func gf) #[] lb)(c:F.fn gf)(j:∀args w,(callFunc gf args).run P w=.ok (.enter gf args) w)
 (h:∀fn (r:LoopState->AU Code->Loop),F.fn fn->(r=λst i=>{state:=st,pending:=i,fn,tmps:=a.tmps,params:=ps,assign,body,defers:=w.heap.size})->
   CallsIn F (n-1) P gf (#[.func (.yield (w.heap.size+1)) #[] #[]]++lb) ((w.alloc (.deferred (sM []))).alloc (.loop (r .ready nO))) (rangePost F n P (w.heap.size+1) Q {a with defers:=[{target:=.collected w.heap.size,args:=#[]}]++a.defers})):
 (Code.rangeFunc g ps assign body).wpIn F n P Q a w:=by
 refine wpIn_rangeFunc λfn F4=> ?_;rw[e];obtain⟨r,o⟩:∃r:LoopState->AU Code->Loop,r=λst i=>{state:=st,pending:=i,fn,tmps:=a.tmps,params:=ps,assign,body,defers:=w.heap.size}:=⟨_,rfl⟩;obtain⟨V,k⟩:∃V,(w.alloc (.deferred (sM []))).alloc (.loop (r .ready nO))=V:=⟨_,rfl⟩;have hc:=h fn r F4 o;rw[k]at hc;refine⟨w.heap.size+1,[{target:=.collected w.heap.size,args:=#[]}],V,{target:=.fn (.func gf) lb,args:=#[.func (.yield (w.heap.size+1)) #[] #[]]},V,gf,#[.func (.yield (w.heap.size+1)) #[] #[]]++lb,V,?_,?_,?_,?_,λ_=>h1,?_⟩
 grind[run_enterLoop_outer]
 .simp[resolve,l];simp[go_sem]
 intro p b;simp[Target.leads]at b;subst b;exact c
 .simp[invoke,go_sem,j]
 with_reducible exact hc
theorem B6{w:AN}{b:Nat}{o:Obj}(h:w.heap[b]? =sM o)(a:Obj):(w.alloc a).heap[b]? =sM o:=(Below.heap_alloc _ _ _<|Eg h).trans h
theorem cell0{w:AN}{b:Nat}{T:BN}{v:AF}(h:w.heap[b]? =sM (.cells #[v] T (0,0))):w.cell? ⟨b,0,nO⟩=sM v:=by rw[Lib.cell_of_heap h];rfl
theorem Afn{Q a p E assign body g B1 B2 D kp F G H len c}(B:E.size=1)(M:p.heap.size=D)(hg:a.eval g=.func (.func 119) #[] #[.pointer<|aP B1,.pointer<|aP B2])
 (ha:0<len->F=sM ⟨G,H,nO⟩) (hlen:len<=1000000) (l:Nat->Ce) (X q:Nat->AN->Prop) (s:Bool->Act)
 (hA:∀b (K:Act->AN->Prop) W,K (s b) W->assign.wpIn (Fence.wide.inRound<|D+1) (6-1-1) prog (Exit.then K λ_ _ _=>False) {tmps:=(E.zip #[vB b]).foldl (λtmps (t,a)=>tmps.setIfInBounds t a) a.tmps,defers:=[]} W)
 (A:∀i W o,(X i W->X i (W.putObj (D+1) o))/\(q i W->q i (W.putObj (D+1) o)))
 (h0:∀o,X 0<|(p.alloc<|.deferred<|sM []).alloc o)
 (h1:∀i W,X i W->W.cell? ⟨B1,0,nO⟩=sM (.slice F len c)/\(i<len->W.cell? ⟨B2,0,nO⟩=sM (.pointer<|sM kp)/\W.cell? ⟨G,H+i,nO⟩=sM (vS<|l i)))
 (hP:∀i W,X i W->i<len->Calls prog 25 #[.pointer<|sM kp,vS<|l i] W λe W'=>∃b,e=.returned (vB b)/\q i W'/\W'.heap[D]? =W.heap[D]? /\W'.heap[D+1]? =W.heap[D+1]?)
 (hB:∀i b W,q i W->i<len->body.wpIn (Fence.wide.inRound<|D+1) (6-1-1) prog (λe _ W'=>e=.normal/\X (i+1) W'/\W'.heap[D]? =W.heap[D]? /\W'.heap[D+1]? =W.heap[D+1]?) (s b) W)
 (hE:∀Y,X len Y->Y.heap[D]? =sM (.deferred<|sM [])->Q .normal {a with defers:=[{target:=.collected D,args:=#[]}]++a.defers} Y):(Code.rangeFunc g E assign body).wpIn Fence.wide 6 prog Q a p:=by
 refine AaV rfl oG (gf:=119) hg trivial (JL func119 kR kR) λU r x n=> ?_;have j:=h0<|.loop<|r .ready nO;have k:=B6 (World.alloc_heap_new p<|.deferred<|sM [])<|.loop<|r .ready nO;have h:=World.alloc_heap_new (p.alloc<|.deferred<|sM [])<|.loop<|r .ready nO;rw[World.size_alloc,M]at h;rw[M]at k n⊢;generalize(p.alloc<|.deferred<|sM []).alloc (.loop<|r .ready nO)=V at j k h⊢;have P:(r .ready nO).state=.ready:=by rw[n]
 have r2:(r .ready nO).pending=nO:=by rw[n]
 have r3:(.loop {r .ready nO with state:=.ready,pending:=nO}:Obj)=.loop (r .ready nO):=by rw[n]
 have C:∀ {W:AN} {o},(W.putObj (D+1) o).heap[D]? =W.heap[D]? :=World.putObj_heap_other oG;refine(AZw (6-1) oG (D+1) B1 B2 kp F G H len c ha hlen l (λi W=>X i W/\W.heap[D]? =sM (.deferred<|sM [])/\W.heap[D+1]? =sM (.loop<|r .ready nO)) (λi _ W=>q i W/\W.heap[D]? =sM (.deferred<|sM [])/\W.heap[D+1]? =sM (.loop<|r .ready nO)) ?_ ?_ ?_ V (h1 0 V j).1 ⟨j,k,h⟩).mono ?_
 grind
 exact λi W hW y=>(hP i W hW.1 y).mono gR;rintro i b W ⟨j,k,h⟩ y;have O:=run_yield (P:=prog) (args:=#[vB b]) h (by rw[n];exact B.symm);rw[n]at O;refine⟨U,_,_,_,O,roundIn_of_wpIn x<|hA b _ W ⟨_,run_beginRound h P,wpIn_mono (hB i b _ ((A i W _).2 j) y) ?_⟩⟩;rintro e a' Z ⟨rfl,u,w,z⟩;have T:=z.trans<|World.putObj_heap_same<|Eg h;exact⟨_,_,run_endRound nO T,rfl,(A _ _ _).1 u,C.trans<|w.trans<|C.trans k,(World.putObj_heap_same<|Eg T).trans<|Dt sM r3⟩;rintro e Z ⟨⟨v,rfl⟩,j,k,h⟩;have N:=run_endLoop (P:=prog) h (by rw[P];simp);rw[r2]at N;exact⟨nO,_,N,hE _ ((A _ _ _).1 j)<|C.trans k⟩
section
attribute [local go_sem] Oper.semAt_some
def AG6(I:AB)(P:AA Nat)(a:Ap):zP:=λ_ h=>∃(z:Int)(b:CH)(c:AA Rw)(J:AB),h= {r:=.v<|nV z,AV:=CL b a.im a.AD,J:=J}/\Cb I P J (CM c b)/\CZ J c a b
theorem AeB{I P i m g c}:VY (AG6 I P i) (CL m g c) I:=by refine⟨?_⟩;rintro l h ⟨z,o,n,J,rfl,f,_⟩;exact⟨⟨nA,(λj a=>AKD j a),nA,sP,sP⟩,f.le⟩
theorem AMC(I L k m)(G:CZ I L k m)(C3 sa sc cells)(hs:Av I NL 1 C3 sa sc cells)(hlen:lN C3<=1000000)
 (B:∀i id,C3[i]? =sM id->∀J L' m',CZ J L' (Fe k (C3.take i)) m'->Fn 25 [.p 1 0,.v (sV id)] (CL m' (Fe k (C3.take i)).im (Fe k (C3.take i)).AD) J (QI J (CM L' m') (F6 (Fe k (C3.take i)) id)) nO):
 Fn 18 [.p 1 0,.v (.slice sa (lN C3) sc)] (CL m k.im k.AD) I (AG6 I (CM L m) (Fe k C3)) nO:=by
 refine⟨FC.of AeB.out λρ key w C hH F A u=> ?_,JL func18 rfl kR⟩;have H:=PX.start G hH F A u;let⟨sb,so,y⟩:=Afs hs;rw[show(BB ρ [.p 1 0,.v (.slice sa (lN C3) sc)]).toArray=#[.pointer (aP (ρ 1)),.slice sa (lN C3) sc] by simp[BB,AO]];refine callsIn_wide.1 (?_:CallsIn Fence.wide 6 prog 18 _ w _);refine callsIn_of_wp_marks func18 rfl trivial ?_ rfl;simp only[ntmps18,Iv,FM,KJ,Nat.reduceAdd,Nat.reduceSub,LF,LH,LK,LI,F2,F1]
 gi_wp2_with (refine⟨trivial,?_⟩;gi_at_call 61;refine(AZx Fence.wide _ trivial rfl _ _ _ rfl rfl).mono ?_;rintro e R ⟨rfl,rfl⟩)
 obtain⟨a,n⟩:∃a,w.heap.size=a:=⟨_,rfl⟩;obtain⟨p,q⟩:∃O,Obj.cells #[.int iK 0] 3=O:=⟨_,rfl⟩;obtain⟨j,r⟩:∃O,Obj.cells #[.pointer (aP (ρ 1))] 27=O:=⟨_,rfl⟩;obtain⟨l,s⟩:∃O,Obj.cells #[.slice sa (lN C3) sc] 38=O:=⟨_,rfl⟩;rw[q,r,s];have p3:=((H.alloc p).alloc j).alloc l;have c:=B6 (B6 (World.alloc_heap_new w p) j) l;have f:=B6 (World.alloc_heap_new (w.alloc p) j) l;have g:=World.alloc_heap_new ((w.alloc p).alloc j) l;have hw:(((w.alloc p).alloc j).alloc l).heap.size=a+1+1+1:=by simp[n]
 simp only[World.size_alloc,n]at p3 c f g;rw[n];generalize((w.alloc p).alloc j).alloc l=Q at*;obtain⟨St,D8⟩:∃St:Ap->AN->Prop,St=λkk W=>∃m' L' J,PX I (CM L m) ρ w kk m' L' J [a+1+1+1+1,a+1+1+1,a+1+1,a+1,a] W/\(∃z,Boxed W a 3 (nV z))/\W.heap[a+1]? =sM j/\W.heap[a+1+1]? =sM l:=⟨_,rfl⟩;have hp:∀kk W o,St kk W->St kk (W.putObj (a+1+1+1+1) o):=by rw[D8];rintro kk W o ⟨m',L',J,d,⟨z,c⟩,f,g⟩;exact⟨m',L',J,d.put sP _,⟨z,(World.putObj_heap_other oG).trans c⟩,(World.putObj_heap_other oG).trans f,(World.putObj_heap_other oG).trans g⟩
 refine Afn (D:=a+1+1+1) (B1:=a+1+1) (B2:=a+1) (kp:=⟨ρ 1,0,nO⟩) (c:=sc) rfl hw rfl y hlen (λi=>Aa (C3.getD i [])) (λi=>St (Fe k (C3.take i))) (λi=>St (Fe k (C3.take (i+1)))) ?_ ?_ (λi W o=>⟨hp _ W o,hp _ W o⟩) ?_ ?_ ?_ ?_ ?_
 rotate_left
 .intro b K W h
  gi_wp2
  exact h
 intro o;have:=(p3.alloc (.deferred (sM []))).alloc o;simp only[World.size_alloc,hw]at this;rw[D8];exact⟨m,L,I,by simpa[Fe]using this,⟨0,by subst q;exact B6 (B6 c _) o⟩,B6 (B6 f _) o,B6 (B6 g _) o⟩;rw[D8];rintro i W ⟨_,_,_,d,_,f,g⟩;exact⟨cell0 (by rw[g,s]),λhi=>⟨cell0 (by rw[f,r]),d.idc hs hi (y oG)⟩⟩;rw[D8];rintro i W ⟨m',L',J,d,⟨z,c⟩,f,g⟩ hi;let⟨hid,E⟩:=Afo (k:=k) hi;refine(d.run (rv:=.v (vB (F6 (Fe k (C3.take i)) (C3.getD i [])).2)) (B i _ hid J L' m' d.K) (by simp[BB,AO])).mono ?_;rintro e W' ⟨rfl,⟨m2,L2,D,t,_⟩,hk⟩;rw[<-E]at t;exact⟨_,rfl,⟨m2,L2,D,t,⟨z,(hk _ sP).trans c⟩,(hk _ sP).trans f,(hk _ sP).trans g⟩,hk _ sP,hk _ sP⟩
 .intro i b W hW hi;have hb:=Lib.hid (congrFun D8 (Fe k (C3.take (i+1))));let⟨m',L',J,d,⟨z,c⟩,f,g⟩:=cast (congrFun hb.out W) hW;clear D8 hp;have N:=c.cell;have P:=c.frozen;cases b
  .gi_wp2
   exact hW
  .gi_wp2
   have no:∀ {x:Nat} {v},x≠a->(W.setCell ⟨a,0,nO⟩ v).heap[x]? =W.heap[x]? :=λh=>Below.heap_setCell _ _ _ _ h;exact⟨cast (congrFun hb.out _).symm ⟨m',L',J,d.set sP _,⟨_,c.set _⟩,(no oG).trans f,(no oG).trans g⟩,no oG,no oG⟩
 .rw[D8];rintro Y ⟨m',L',J,d,⟨z,c⟩,f,g⟩ M;rw[FN]at d;have N:=c.cell;have P:=c.frozen;show Exit.inBlock 0 _ _ _ _
  gi_wp2
  refine⟨sP,.inl ⟨_,_,rfl,run_takeDeferred M,.int iK z,by simp[results,f18,go_sem],_,id,⟨z,m',L',J,rfl,d.s,d.K⟩,(d.put sP _).ret _ _,rfl⟩⟩
end
end
section
open Go.AX Lz
inductive Ln where
 |mk (l:AT)
 |int (n:Nat)
 |fn (a b:Nat)
 |op (o:Lz.Op)
deriving DecidableEq,Inhabited
def Fc(o:Lz.Op):AA AH:=if Cf o.code=0 then Gf.getD (o.code-1) []else Gf.getD (o.code-1) []++32::Lib.itoa o.a
def Ln.FD:Ln->AA AH
 | .mk l=>[109,97,114,107,32]++Acx l
 | .int n=>[105,110,116,32]++Lib.itoa n
 | .fn a b=>[102,117,110,32]++Lib.itoa a++32::Lib.itoa b
 | .op o=>Fc o
def NJ:AA Ln:=EC.DN.map (λv=>if v.kind==2 then .mk v.l else .int v.n.toNat)++EC.Ax.flatMap λf=>.fn f.args f.Ai::f.code.map .op
def AJ6:AA (AA AH)->AA AH
 |[]=>[]
 |[x]=>x
 |x::l=>x++10::AJ6 l
def I9:AA AH:=AJ6<|NJ.map Ln.FD
def AXc:lN NJ=39:=by decide+kernel
def AZs:lN I9=257:=by decide+kernel
def AZo:I9.count 10=38:=by decide+kernel
def AZu:Lib.splitK [10] 0 38 I9=NJ.map Ln.FD:=by decide+kernel
def AcN(x):AJ x.data.toList=x:=by apply Xn;simp[AJ]
def AZt:Lib.splitB ⟨#[10]⟩ 0 38 (AJ I9)=NJ.map λx=>AJ x.FD:=by
 have h:=Lib.splitB_data ⟨#[10]⟩ 0 38<|AJ I9;rw[show(AJ I9).data.toList=I9 from rfl,show(⟨#[10]⟩:Ce).data.toList=[10]from rfl,AZu]at h;have a:=Dt (List.map AJ) h;rw[Gk,Gk]at a;rw[show(Lib.splitB ⟨#[10]⟩ 0 38<|AJ I9).map (AJ∘ λx=>x.data.toList)=Lib.splitB ⟨#[10]⟩ 0 38 (AJ I9)from by
  conv=>rhs;rw[<-List.map_id<|Lib.splitB ⟨#[10]⟩ 0 38<|AJ I9]
  exact JD λx _=>AcN x]at a
 exact a
def AZp:Lib.countB (AJ I9) ⟨#[10]⟩=38:=by show Lib.count I9 [10]=38;rw[Lib.count_one,<-AZo]
def Qt:AA AF:=NJ.map λx=>vS<|AJ x.FD
def Ab5(I):Fn 184 [.v<|vS<|AJ I9,.v<|vS ⟨#[10]⟩] [] I (ACA I 39 39 Qt 9) nO:=by refine AUP (av:=#[vS<|AJ I9,vS ⟨#[10]⟩]) func184 rfl kR (λ_=>rfl) λw _=>(Ab6 (AJ I9) (by rw[show(AJ I9).size=lN I9 from by simp[AJ,ByteArray.size],AZs];decide) w).mono ?_;rintro e a ⟨rfl,rfl⟩;rw[AZp,AZt];refine⟨by rw[DG,AXc],?_⟩;congr 2
end
section
open Go.AX Go.RowKit Go.Shelf Lz
section
attribute [local go_sem] Oper.semAt_some
theorem AZg(w ev)(c:w.cell? ⟨Wg.g 15,0,nO⟩=sM ev)(b:ev=.nilIface\/∃f d,ev=.iface f d):Calls prog 247 #[vS (AJ [])] w λe g=>e=.returned (.tuple #[.int iK 0,vB fF])/\Below w.heap.size w g:=by
 have HX:=Lib.hid (Any.strconv_ParseInt_10_at64_syntax AKb (AJ []) dC (by decide+kernel) ev w c b)
 go_enter func247,ntmps247
 go_wp2_with (go_at_call 322;refine HX.out.mono ?_;rintro e j ⟨N,rfl,h,i,a⟩)
 go_wp2
 refine bodyPost_ret (v:=.tuple #[.int iK 0,vB fF]) ?_ rfl ⟨rfl,a⟩;simp[results,f247,go_sem]
theorem AZb(I)(c:Pow I):Fn 247 [.v<|vS<|AJ []] [] I (BW (.t [.v<|.int iK 0,.v fV]) I) nO:=by refine MX (av:=#[vS<|AJ []]) (v:=.tuple #[.int iK 0,vB fF]) func247 kR kR (λ_=>rfl) (λ_=>rfl) rfl λw d=> ?_;let⟨ev,e,f,a,b⟩:=c.err;exact AZg w ev (by simp[World.cell?,d _ _ a]) b
theorem AC0(c)(I)(t x y)(b:Bool)(ht:lN t<=1000)(h:EM c t=(x,y,b)):Fn 185 [.v<|vS<|AJ t,.v<|vS ⟨#[c]⟩] [] I (BW (.t [.v<|vS<|AJ x,.v<|vS<|AJ y,.v<|vB b]) I) nO:=by refine MX (av:=#[vS<|AJ t,vS ⟨#[c]⟩]) (v:=.tuple #[vS<|AJ x,vS<|AJ y,vB b]) Tryz.func185 kR kR (λ_=>rfl) (λ_=>rfl) rfl λw hw=> ?_;have:=ASS c t (by unfold maxLen;omega) w;rw[h]at this;exact this
theorem ON:type_of%(AC0 32):=AC0 32
end
end
section
open Go.AX Lz
def ATu(I:AB)(s:Ce)(i:Nat):Hd where
 Cd:=[(0,.v<|vS s),(4,.v<|iV i)]
 Cc:=[]
 J:=I
def AYb:∀c:Fin 48,∀i:Fin 47,1<=c.1->(((Gf.getD i.1 [])==Gf.getD (c.1-1) [])=decide (i.1+1=c.1)):=by decide+kernel
def ALx(I)(d:EB I)(c)(k:1<=c)(q:c<=47):Fn 339 [.v<|vS<|AJ<|Gf.getD (c-1) []] [] I (BW (.v<|nV c) I) nO:=by let⟨arr,e,p,f,b⟩:=d.at_;let⟨inf,g,j⟩:=AJ0;have a:=AYb ⟨c,oG⟩;refine fo func339 λr o w h=>gG<|loop (ι:=Nat) (λi=>i+1<=c) (λi=>c-i) (ATu I<|AJ<|Gf.getD (c-1) []) 1000 [] 0 oG ?_;rintro i m again T;have b:=b (i+1) oG oG 0 _ rfl;have a:=a ⟨i,oG⟩ k;simp only[Nat.add_sub_cancel]at b a;by_cases n:i+1<c;rw[Gp oG]at a;exact gg [(5,hT<|(i:Int)<47),(8,.op I _ _<|Uq (b:=1) (off:=0) (k:=i) Su g j oG),(10,ED I Di rfl (0+i*4+0) (vS<|AJ<|Gf.getD i []) f<|by simpa using b),(12,.eq (Value.bool<|(AJ<|Gf.getD i []).toList==(AJ<|Gf.getD (c-1) []).toList) fV<|by rw[Jc,Jc,a]),(15,sH i)]<|bk again [] (i+1) oG;have l:c=i+1:=oG;rw[G5 oG]at a;exact gg [(5,hT<|(i:Int)<47),(8,.op I _ _<|Uq (b:=1) (off:=0) (k:=i) Su g j oG),(10,ED I Di rfl (0+i*4+0) (vS<|AJ<|Gf.getD i []) f<|by simpa using b),(12,.eq (Value.bool<|(AJ<|Gf.getD i []).toList==(AJ<|Gf.getD (c-1) []).toList) tV<|by rw[Jc,Jc,a]),(14,hW (1+(i:Int)) (c:Int))]<|fi
def AYZ:∀c:Fin 48,lN (Gf.getD (c.1-1) [])<=5:=by decide+kernel
def AJ4(n:Nat)(h:n<=65535):lN (Lib.itoa (n:Int))<=21:=Lib.itoa_length_le n oG oG
def AL0(I)(a:EB I)(g:Pow I)(o)(h:IY o):Fn 340 [Po o] [] I (BW (.v<|vS<|AJ<|Fc o) I) nO:=by
 let⟨⟨d,f⟩,h3,h4⟩:=SR h;have l:lN (Gf.getD (o.code-1) [])<=5:=AYZ ⟨o.code,oG⟩;have i:o.a<=65535:=by by_cases e:Cf o.code=0;have:=h3 e;omega;exact h4 e
 have k:=AJ4 o.a i;refine fo func340 λm j w c=>gG<|call (XE I a o h)<|gG<|call (QN I a o.code d f) ?_;by_cases e:Cf o.code=0;have b:Fc o=Gf.getD (o.code-1) []:=by rw[Fc];rw[Ac e]
 rw[b];exact gg [(16,hE (Cf o.code) 0)]<|fi;have b:AJ (Fc o)=AJ (Gf.getD (o.code-1) [])++⟨#[32]⟩++AJ (Lib.itoa o.a):=by rw[Fc];rw[AY e];rw[show(⟨#[32]⟩:Ce)=AJ [32]from rfl,ANn,ANn,Eb];rfl
 rw[b];refine gg [(16,hN (Cf o.code) 0),(21,T0 I 20 (AJ<|Gf.getD (o.code-1) []) ⟨#[32]⟩<|by rw[XU];show _+1<=_;rw[maxLen];omega)] ?_;refine call (AAx I g o.a oG oG)<|gg [(25,WL I 21 24 (AJ (Gf.getD (o.code-1) [])++⟨#[32]⟩) (AJ<|Lib.itoa o.a)<|by rw[AGK,XU,XU];show _+1+_<=_;rw[maxLen];omega)] ?_;exact fi
def AAL(o:Lz.Op):Bool:=IY o&&Nat.ble (lN<|Fc o) 16&&(EM 32 (Fc o)==if Cf o.code=0 then(Gf.getD (o.code-1) [],[],false)else(Gf.getD (o.code-1) [],Lib.itoa o.a,true))&&(Cf o.code=0||decide (Lib.parseIntB 64 (Lib.itoa o.a)=.ok (o.a:Int)))
def AZN(I)(a:EB I)(f:Pow I)(o)(h:AAL o):Fn 266 [.v<|.string<|AJ<|Fc o] [] I (BW (.t [Po o,.v<|.bool true]) I) none:=by
 simp[AAL,Bool.and_eq_true,Nat.ble_eq,beq_iff_eq,Bool.or_eq_true,decide_eq_true_eq]at h;let⟨⟨⟨c,hlen⟩,hcut⟩,g⟩:=h;let⟨⟨i,j⟩,h3,h4⟩:=SR c;have n:(AJ<|Fc o).size=(Fc o).length:=XU _;refine fo Tryz.func266 λr p w k=> ?_;by_cases e:Cf o.code=0;rw[if_pos e]at hcut;let⟨d,q⟩:=o;obtain rfl:q=0:=h3 e;exact gg [(12,hF<|((AJ<|Fc ⟨d,0⟩).size:Int)>16)]<|call (ON I _ _ _ _ oG hcut)<|gG<|call (ALx I a d i j)<|gG<|call (AZb I f)<|gG<|call (XE I a ⟨d,0⟩ c)<|gG<|call (AL0 I a f ⟨d,0⟩ c)<|gg [(46,.eq _ _<|AEn<|Fc ⟨d,0⟩)]<|fi;rw[if_neg e]at hcut;have m:=AJ4 o.a<|h4 e;have b:(Lib.itoa (o.a:Int)).length<=20:=by
  have:(Fc o).length=(Gf.getD (o.code-1) []).length+((Lib.itoa o.a).length+1):=by rw[Fc];rw[if_neg e];simp
  omega
 exact gg [(12,hF<|((AJ<|Fc o).size:Int)>16)]<|call (ON I _ _ _ _ oG hcut)<|gG<|call (ALx I a o.code i j)<|gG<|call (Q4 I f _ _ (g.resolve_left<|by simpa using e) rfl b oG oG)<|gg [(31,hT<|(o.a:Int)≥0),(35,hT<|(o.a:Int)<=65535)]<|call (XE I a o c)<|gG<|call (AL0 I a f o c)<|gg [(46,.eq _ _<|AEn<|Fc o)]<|fi
def NR(a:Bi)(b:SV):AK:=.cells [a.sv,b] 322
def AB5(I:AB)(b:Bi)(c:AA AW):zP:=λ_ h=>∃(a:Bi)(J:AB),h= {r:=.v tV,AV:=[(1,NR a<|.v zS)],J:=J}/\Cb I (Bb b.a).toList J (Bb a.a).toList/\C8 J 5 51 (c.flatMap BG) a
def Aa2{I d v l n b c a}(m:C8 I 5 51 (d.flatMap BG) ⟨l,lN d,n⟩)(i:lN (d.flatMap BG++BG v)+lN a=c*5)(j:lN d+1<=c)(k:c<=maxLen)(f:I b=nO)(h:Bb l=sM b\/I.free b):
 Cb I (Bb l).toList (I.plus b<|.cells (d.flatMap BG++BG v++a).toArray 51 (0,0)) [b]/\C8 (I.plus b<|.cells (d.flatMap BG++BG v++a).toArray 51 (0,0)) 5 51 ((d++[v]).flatMap BG) ⟨sM ⟨b,0,nO⟩,lN d+1,c⟩:=by
 refine⟨(Oj (P1:=[]) (P2:=[]) (o:=.cells (d.flatMap BG++BG v++a).toArray 51 (0,0)) f h).cast sP sP,?_⟩;have e:(d++[v]).flatMap BG=d.flatMap BG++BG v:=by rw[Mu];simp
 rw[e];refine⟨?_,λx g=> ?_,.inr ⟨b,a,rfl,Li f,i,j,k⟩⟩;rw[CK,HB (n:=5) λ_=>rfl];show _+5=_;simp only;omega;rcases Bc.1 g with g|g;exact m.one x g;exact U2 v x g
def AId(I g d)(m:C8 I 5 51 (d.flatMap BG) g)(t:lN d<=1000)(v):Fn 333 [.p 1 0,Do v] [(1,NR g<|.v zS)] I (AB5 I g<|d++[v]) nO:=by let⟨o,_⟩:=m.Mn (V:=BG) (λ_=>rfl) dC;let⟨q,u,r⟩:=g;simp only at o;subst o;refine fo func333 λx p w n=>gG<|act (need:=[(228,.cells ((BG v).map .v) 51)]) (JI (I:=I) Be (s:=⟨q,lN d,r⟩) (x:=.s 228 0 1 1) (m:=1) (CQ:=d.flatMap BG) (news:=BG v) LU kR m (Ez (e:=51) sP rfl<|U2 v) dC<|by show lN d+1<=16777216;omega) JH ?_;rintro s ⟨b,c,f,rfl,j,k,l,h,i⟩;let⟨e,a⟩:=Aa2 m j k l h i;generalize I.plus b (.cells (d.flatMap BG++BG v++f).toArray 51 (0,0))=J at e a⊢;exact gG<|dn [] ⟨⟨sM ⟨b,0,nO⟩,lN d+1,c⟩,J,rfl,e,a⟩
abbrev TM(x f:AA AH):Prop:=(x,f)∈[([84],[]),([97],[(1:AH)])]
def AIZ(I)(a:Iw I)(x f)(h:TM x f):Fn 367 [.v<|.string<|AJ x] [] I (BW (.t [.v<|.string<|AJ f,.v tV]) I) none:=by refine MX (av:=#[.string<|AJ x]) (v:=.tuple #[.string<|AJ f,.bool true]) func367 kR kR (λ_=>rfl) (λ_=>rfl) rfl λw b=> ?_;simp[TM,mS,QC]at h;obtain⟨rfl,rfl⟩|⟨rfl,rfl⟩:=h;exact AR5 w;exact AR2 w<|a.AXT b
def AWx(I)(a:Iw I)(t x y f g)(d:lN t<=1000)(c:EM 47 t=(x,y,true))(e:TM x f)(h:TM y g):Fn 334 [.v<|.string<|AJ t] [] I (BW (.t [DW (f,g),.v tV]) I) none:=fo func334 λj i w b=>gG<|call (AC0 47 I t x y true d c)<|gG<|call (AIZ I a x f e)<|gG<|call (AIZ I a y g h)<|gG<|fi
def Aac(I)(i:Pow I)(b c)(m:C8 I 5 51 (c.flatMap BG) b)(k:lN c<=1000)(n:Int)(g: -9223372036854775808<=n)(h:n<=9223372036854775807)(l:Lib.parseIntB 64 (Lib.itoa n)=.ok n)(d:lN (Lib.itoa n)<=20):
 Fn 261 [.p 1 0,.v<|vS<|AJ<|Lib.itoa n] [(1,NR b<|.v zS)] I (AB5 I b<|c++[BH n]) nO:=by
 refine fo func261 λq o w f=>gG<|call (Q4 I i _ n l rfl d g h)<|gG<|A0 (AId I b c m k<|BH n) [] λy j=> ?_;obtain⟨p,J,rfl,e,a⟩:=j;exact gG<|dn [] ⟨p,J,rfl,e,a⟩
def Aab(I)(f:Iw I)(b c)(j:C8 I 5 51 (c.flatMap BG) b)(h:lN c<=1000)(l t x y)(k:lN t<=1000)(i:EM 47 t=(x,y,true))(m:TM x l.1)(n:TM y l.2):
 Fn 262 [.p 1 0,.v<|.string<|AJ t] [(1,NR b<|.v zS)] I (AB5 I b<|c++[D1 l]) none:=by
 refine fo func262 λq o w e=>gG<|call (AWx I f t x y l.1 l.2 k i m n)<|gG<|A0 (AId I b c j h<|D1 l) [] λy g=> ?_;obtain⟨p,J,rfl,d,a⟩:=g;exact gG<|dn [] ⟨p,J,rfl,d,a⟩
def Ge(a b:Nat)(s:Bi):AA AF:=[.int iK a,.int iK b,.slice s.a s.n s.c]
def ZB(a b s):∀x∈Ge a b s,x.oneCell':=SQ rfl
def APO(I:AB)(f:Bi)(a b:Nat):zP:=λe h=>∃c d,1<=c/\c<=maxLen/\lN d=(c-1)*3/\h= {r:=.v tV,AV:=[(1,NR f<|.s e 0 1 c)],nb:=[.As (Ge a b ⟨nO,0,0⟩++d) 195],J:=I}
structure ABw(t:AA AH)(a b:Nat):Prop where
 len:lN t<=1000
 cut:EM 32 t=(Lib.itoa a,Lib.itoa b,true)
 ha:a<=255
 hb:b<=255
 pa:Lib.parseIntB 64 (Lib.itoa a)=.ok (a:Int)
 pb:Lib.parseIntB 64 (Lib.itoa b)=.ok (b:Int)
 la:lN (Lib.itoa a)<=20
 lb:lN (Lib.itoa b)<=20
def AaZ(I)(f:Pow I)(e t a b)(h:ABw t a b):Fn 263 [.p 1 0,.v<|vS<|AJ t] [(1,NR e<|.v zS)] I (APO I e a b) nO:=by have m:=h.ha;have n:=h.hb;refine fo func263 λo i w g=>gG<|call (ON I _ _ _ _ h.len h.cut)<|gG<|call (Q4 I f _ _ h.pa rfl h.la oG oG)<|gG<|call (Q4 I f _ _ h.pb rfl h.lb oG oG)<|gg [(36,hF<|(a:Int)<0),(40,hF<|(a:Int)>255),(44,hF<|(b:Int)<0),(48,hF<|(b:Int)>255)]<|act (need:=[(540,.cells ((Ge a b ⟨nO,0,0⟩).map .v) 195)]) (MM (I:=I) Be (n:=0) (cap:=0) (m:=1) (a:=nO) (l:=.v zS) (x:=.s 540 0 1 1) (CQ:=[]) (news:=Ge a b ⟨nO,0,0⟩) ACH kR rfl Ol (Ez (e:=195) (A9.2 rfl) rfl<|ZB _ _ _) (Ag _) oG (λ_=>rfl) oG) M4 ?_;rintro l ⟨d,c,j,k,r3,rfl⟩;exact gG<|dn [548] ⟨d,c,j,k,r3,rfl⟩
def APP(I:AB)(g:Bi)(n:Nat)(e:AA AF)(a b:Nat):zP:=λf h=>∃c d,n+1<=c/\c<=maxLen/\lN d=(c-(n+1))*3/\h= {r:=.v tV,AV:=[(1,NR g<|.s f 0 (n+1) c),(2,.gone)],nb:=[.As (e++Ge a b ⟨nO,0,0⟩++d) 195],J:=I}
def Aaa(I)(l:Pow I)(k t a b)(h:ABw t a b)(n e c d)(o:n<=1000/\n<=e/\e<=maxLen)(i:lN c=n*3)(j:∀v∈c,v.oneCell')(p:lN d=(e-n)*3):
 Fn 263 [.p 1 0,.v<|vS<|AJ t] [(1,NR k<|.s 2 0 n e),(2,.As (c++d) 195)] I (APP I k n c a b) nO:=by
 have x:=h.ha;have y:=h.hb;refine fo func263 λz q w m=>gG<|call (ON I _ _ _ _ h.len h.cut)<|gG<|call (Q4 I l _ _ h.pa rfl h.la oG oG)<|gG<|call (Q4 I l _ _ h.pb rfl h.lb oG oG)<|gg [(36,hF<|(a:Int)<0),(40,hF<|(a:Int)>255),(44,hF<|(b:Int)<0),(48,hF<|(b:Int)>255)]<|act (need:=[(2,.As (c++d) 195),(540,.cells ((Ge a b ⟨nO,0,0⟩).map .v) 195)]) (Kk (I:=I) Be (n:=n) (m:=1) (cap:=e) (k:=2) (vs:=c++d) (CQ:=c) (news:=Ge a b ⟨nO,0,0⟩) (x:=.s 540 0 1 1) ACH kR sP ?_ ?_ j (Ez (e:=195) sP rfl<|ZB _ _ _) o.2.1 o.2.2 oG) (QP rfl) ?_;rw[CK,i,p,<-Gm];congr 1;omega;rw[O5];rw[i];rintro u ⟨g,f,r,s,r3,rfl⟩;exact gG<|dn [548] ⟨g,f,r,s,r3,rfl⟩
def APp(I:AB)(g:Bi)(n e:Nat)(d c:AA AF)(a b:Nat)(Aj:AA Lz.Op)(s:Bi):zP:=λ_ h=>∃(f:Bi)(J:AB),h= {r:=.v tV,AV:=[(1,NR g<|.s 2 0 n e),(2,.As (d++Ge a b f++c) 195)],J:=J}/\Cb I (Bb s.a).toList J (Bb f.a).toList/\C8 J 2 211 (Aj.flatMap Cs) f
def AUj{c AE m a b s}(d:lN c=m*3):(c++Ge a b s++AE)[0+m*3+2]? =sM (.slice s.a s.n s.c):=by rw[Eb,GA oG,d,show 0+m*3+2-m*3=2 by omega];rfl
def AUk{c AE m a b s s'}(d:lN c=m*3):BX (c++Ge a b s++AE) (0+m*3+2) [.slice s'.a s'.n s'.c]=c++Ge a b s'++AE:=by rw[Eb,show 0+m*3+2=lN c+2 by omega,ANh,Ut<|by simp[Ge],Eb];rfl
def Abt{I Aj o k m b c a}(l:C8 I 2 211 (Aj.flatMap Cs) ⟨k,lN Aj,m⟩)(h:lN (Aj.flatMap Cs++Cs o)+lN a=c*2)(i:lN Aj+1<=c)(j:c<=maxLen)(d:I b=nO)(g:Bb k=sM b\/I.free b):
 Cb I (Bb k).toList (I.plus b<|.cells (Aj.flatMap Cs++Cs o++a).toArray 211 (0,0)) [b]/\C8 (I.plus b<|.cells (Aj.flatMap Cs++Cs o++a).toArray 211 (0,0)) 2 211 ((Aj++[o]).flatMap Cs) ⟨sM ⟨b,0,nO⟩,lN Aj+1,c⟩:=by
 refine⟨(Oj (P1:=[]) (P2:=[]) d g).cast sP sP,?_⟩;have e:(Aj++[o]).flatMap Cs=Aj.flatMap Cs++Cs o:=by rw[Mu];simp
 rw[e];refine⟨?_,λx f=> ?_,.inr ⟨b,a,rfl,Li d,h,i,j⟩⟩;rw[CK,HB (n:=2) λ_=>rfl];show _+2=_;simp only;omega;rcases Bc.1 f with f|f;exact l.one x f;exact Wy o x f
def AMa(I)(k:EB I)(B:Pow I)(u m f e d a b s Aj)(t:C8 I 2 211 (Aj.flatMap Cs) s)(L:lN Aj<=100000)(D:m+1<=f/\f<=maxLen)(h:lN e=m*3)(o)(E:AAL o):
 Fn 186 [.p 1 0,.v<|vS<|AJ<|Fc o] [(1,NR u<|.s 2 0 (m+1) f),(2,.As (e++Ge a b s++d) 195)] I (APp I u (m+1) f e d a b (Aj++[o]) s) nO:=by
 let⟨y,_⟩:=t.Mn (V:=Cs) (λ_=>rfl) dC;rw[maxLen]at D;have C:=AUj (AE:=d) (a:=a) (b:=b) (s:=s) h;let⟨z,M,A⟩:=s;simp only at y;subst y;refine fo func186 λN H w x=>gG<|call (AZN I k B o E)<|gg [(22,hN ((m+1:Nat):Int) 0),(35,hW (((m+1:Nat):Int)-1) ((m:Nat):Int)),
  (36,Aee Be I 30 28 35 2 0 (m+1) f m 3 rfl rfl oG),
  (41,Aen Be I 188 40 2 (0+m*3+2) 195 rfl rfl C)] ?_
 refine act (need:=[(420,.cells ((Cs o).map .v) 211)]) (JI (I:=I) Be (s:=⟨z,lN Aj,A⟩) (x:=.s 420 0 1 1) (m:=1) (CQ:=Aj.flatMap Cs) (news:=Cs o) AHS kR t (Ez (e:=211) sP rfl<|Wy o) dC<|by show lN Aj+1<=16777216;omega) JH ?_;rintro K ⟨j,c,G,rfl,p,q,r,l,n⟩;let⟨i,g⟩:=Abt t p q r l n;generalize I.plus j (.cells (Aj.flatMap Cs++Cs o++G).toArray 211 (0,0))=J at i g⊢;refine gG<|B0 (k:=2) (off:=0+m*3+2) (cs:=[.slice (aP j) (lN Aj+1) c]) (vs:=e++Ge a b ⟨z,lN Aj,A⟩++d) (e:=195) (t:=188) (ad:=.tmp 46) (x:=.tmp 44) (ty:=⟨1,_,_⟩) (I':=J) kR kR kR rfl rfl (by simp[Ge];omega) (by intro v F;rw[A9.1 F];rfl) kR ?_;rw[AUk (s':=⟨sM ⟨j,0,nO⟩,lN Aj+1,c⟩) h];exact gG<|dn [] ⟨⟨sM ⟨j,0,nO⟩,lN Aj+1,c⟩,J,rfl,i,g⟩
def O1:AK:=.Ey [vS ⟨#[105,110,116]⟩,vS ⟨#[109,97,114,107]⟩,vS ⟨#[102,117,110]⟩] [.v<|.func (.func 261) #[] #[],.v<|.func (.func 262) #[] #[],.v<|.func (.func 263) #[] #[]]
def AeK(I):Fn 183 [] [] I (AGq I O1) nO:=fo func183 λc b w a=>gG<|dn [108] rfl
structure Live(I J:AB)(z:Nat)(e:BN)(As:AA AF)(s:Bi):Prop where
 st:Cb I [] J (Bb s.a).toList
 row:C8 J z e As s
def Live.next{I J K z e b a s s'}(h:Live I J z e b s)(c:Cb J (Bb s.a).toList K (Bb s'.a).toList)(d:C8 K z e a s'):Live I K z e a s':=⟨h.st.trans c,d⟩
theorem Live.nil(I z e):Live I I z e [] ⟨nO,0,0⟩:=⟨.refl I [],Sg⟩
def Live.never{k:Type}{I J:AB}{R:k->AA AF->Prop}{z:Nat}{e:BN}{xs:AA k}{As:AA AF}{s:Bi}(h:Live I J z e As s)(hlen:s.n=lN xs)(j:0<lN xs)(n:Rows R xs As):
 ∃b o,J.B8 b o/\I.Ak b=nO/\I.le (J.never b o)/\J.Da (J.never b o)/\Av (J.never b o) R z xs s.a s.c As:=by
 obtain⟨b,o,i,d⟩:=Oq h.row oG;have c:=h.st;rw[i]at c;obtain⟨g,l,r,m⟩:=c.never (b:=b) (o:=o) (by simp[Bb]) d;refine⟨b,o,d,l,⟨g.le,λx y p=>g.A2 x y p sP⟩,m,h.row.Ou hlen n λb' q a f=> ?_⟩;rw[i]at a;obtain rfl:b=b':=by simpa using a
 have e:q=o:=by have:=f.Ak;rw[d.Ak]at this;exact(FX this).symm
 rw[e];exact Nw _ _ _
structure AS where
 i:Nat
 J:AB
 cs:Bi
 m:Nat
 cap:Nat
 CQ:AA AF
 s:Bi
 AE:AA AF
def AHX(x:AS):AA (Nat×SV):=[(2,.p 100 0),(5,.p 124 0),(6,.m 132),(17,.s 156 0 39 39),(18,.v<|.int iK 39),(19,.v<|iV x.i)]
def AQR(x:AS):Hd:=match x.m with
 |0=>{Cd:=AHX x,Cc:=[(100,.cells [.v zS,.v zS] 32),(124,NR x.cs<|.v zS),(132,O1),(156,.As Qt 9)],J:=x.J}
 |m+1=>{Cd:=AHX x,Cc:=[(100,.cells [.v zS,.v zS] 32),(124,NR x.cs<|.s 7 0 (m+1) x.cap),(132,O1),(156,.As Qt 9),(7,.As (x.CQ++Ge 1 1 x.s++x.AE) 195)],J:=x.J}
def T1(I:AB)(i:Nat)(t:AA AH)(h:Qt[0+i*1]? =sM (vS<|AJ t)):Hint:=Aen Be I 9 22 156 (0+i*1) 9 rfl rfl h
def T3(I:AB)(i:Nat)(h:i<39):Hint:=Aee Be I 38 17 19 156 0 39 39 i 1 rfl rfl h
def NH(i){x}(h:NJ[i]? =sM x):Qt[0+i*1]? =sM (vS<|AJ x.FD):=by rw[Qt];rw[show 0+i*1=i by omega,GB,h];rfl
def OL:AA Lz.Op:=(EC.Ax.getD 0 Al).code
def OM:AA Lz.Op:=(EC.Ax.getD 1 Al).code
def AXX:∀j:Fin 20,NJ[6+j.1]? =(OL[j.1]?).map .op:=by decide+kernel
def AXY:∀j:Fin 12,NJ[27+j.1]? =(OM[j.1]?).map .op:=by decide+kernel
def ALz:∀o∈OL++OM,AAL o:=by decide+kernel
structure AsF(I:AB)(x:AS)(Aj:AA Lz.Op):Prop where
 cap:x.m<=x.cap/\x.cap<=maxLen
 AE:lN x.AE=(x.cap-x.m)*3
 cs:x.cs.n=5/\Av x.J F9 5 EC.DN x.cs.a x.cs.c (EC.DN.flatMap BG)
 row:Live I x.J 2 211 (Aj.flatMap Cs) x.s
def AsP(I:AB)(x:AS):Prop:=
 (x.m=0/\x.i<=5/\Live I x.J 5 51 ((EC.DN.take x.i).flatMap BG) x.cs)\/
 (x.m=0+1/\6<=x.i/\x.i<=26/\x.CQ=[]/\AsF I x (OL.take<|x.i-6))\/
 (x.m=1+1/\27<=x.i/\x.i<=39/\Rows (KU x.J) [EC.Ax.getD 0 Al] x.CQ/\AsF I x (OM.take<|x.i-27))
def APK(I:AB):zP:=λ_ h=>∃(a:Dw)(J:AB),h= {r:=.t [.g<|Fa EC a,.v<|.int iK 0,.v<|.int iK 0],J:=J}/\I.le J/\FJ J EC a
def AT5(b l):(if(0:Int)<=0 then(AJ (b::l))[(0:Int).toNat]? else nO)=sM b:=by
 rw[Ac dC];show(AJ (b::l))[0]? =sM b;have h:0<(AJ (b::l)).size:=by rw[XU];simp
 rw[getElem?_pos (AJ (b::l)) 0 h];rfl
def Un{I}(b l):∀w,EJ w I->∃a,(Instr.index 9 (vS<|AJ (b::l))<|.int iK 0).run prog w=.ok (AO id<|.v<|.int .u8 (b.toNat:Int)) a/\Bl w a:=λw _=>
 ⟨w,by
   have d:prog.underlying 9=sM .string:=Di;have c:=AT5 b l;rw[Instr.index];simp only[rB,asIntOf,Sem.run_pure,aK,rU d,c,AO],Bl.refl w⟩
def Xi:Ae Ar:=#[{key:=vS ⟨#[105,110,116]⟩,val:=.func (.func 261) #[] #[],born:=0},{key:=vS ⟨#[109,97,114,107]⟩,val:=.func (.func 262) #[] #[],born:=1},{key:=vS ⟨#[102,117,110]⟩,val:=.func (.func 263) #[] #[],born:=2}]
def AOs(a):O1.AO a=sM (.map Xi 3):=rfl
def AOM:prog.underlying 323=sM (.map 9 328):=kR
def ZL(I:AB)(a:Ce)(j g:Nat)(b:Instr.findNow .string (.string a) Xi.toList 0=some (some (j,.func (.func g) #[] #[]))):Hint:=.BZ (.lookup 323 (.tmp 38) (.tmp 39) true) [(38,.m 132),(39,.v<|.string a)] [(132,O1)] I (.t [.v<|.func (.func g) #[] #[],.v tV])<|AfA (kv:=.string a) true (.v<|.func (.func g) #[] #[]) AOM Di trivial AOs b rfl λ_=>rfl
def AJk(I:AB)(a:Ce)(b:Instr.findNow .string (.string a) Xi.toList 0=some none):Hint:=.BZ (.lookup 323 (.tmp 38) (.tmp 39) true) [(38,.m 132),(39,.v<|.string a)] [(132,O1)] I (.t [.v .nilFunc,.v fV])<|AfA (kv:=.string a) true (.v .nilFunc) AOM Di trivial AOs b zeroValue328 λ_=>rfl
def ALE:AA Lz.Op:=[⟨2,0⟩,⟨1,2⟩,⟨1,3⟩,⟨1,1⟩,⟨40,1⟩,⟨4,0⟩,⟨3,1⟩,⟨2,1⟩,⟨16,12⟩,⟨1,4⟩,⟨18,0⟩,⟨1,0⟩,⟨41,0⟩,⟨8,0⟩,⟨15,8⟩]
def mem1:AA Lz.Op:=[⟨2,0⟩,⟨30,0⟩,⟨3,1⟩,⟨2,1⟩,⟨16,7⟩,⟨18,0⟩,⟨1,4⟩,⟨8,0⟩,⟨15,3⟩]
def Nt(i:Nat):AT:=if i=0 then([],[])else([1],[])
def Pd(i:Nat):Nat:=if i=2 then 2 else if i=3 then 9 else 1
def AVk:∀o∈OL,o∈ALE:=by decide+kernel
def AVl:∀o∈OM,o∈mem1:=by decide+kernel
def Iw.Bf{I J}(hle:I.Da J)(h:Iw I):Iw J:=by let⟨arr,e,a,b,c⟩:=h.at_;exact⟨arr,e,a,hle _ _ b,c⟩
def AAT:Ra EC where
 cs:=dC
 fs:=dC
 ck:=by decide+kernel
 fk f hf:=by
  have ha:∀f∈EC.Ax,f.args<=16/\f.args+f.Ai<=16/\0<lN f.code/\lN f.code<=256/\∀o∈f.code,IY o:=by decide+kernel
  let⟨h1,a,b,c,d⟩:=ha f hf;exact⟨h1,a,⟨b,c⟩,d⟩
def AJQ:ABw (EM 32 (Ln.fn 1 1).FD).2.1 1 1:=⟨by decide+kernel,by decide+kernel,dC,dC,by decide+kernel,by decide+kernel,by decide+kernel,by decide+kernel⟩
def AM8{I}:∀ {d:AA Lz.Ev} {l:AA AF},Rows (KU I) d l->∀v∈l,v.oneCell'
 |[],_,h,v,c=>by cases h;cases c
 |f::d,l,⟨a,b,e,⟨_,_,_,q,_⟩,h⟩,v,c=>by rw[e]at c;rcases Bc.1 c with c|c;rw[q]at c;simp at c;rcases c with rfl|rfl|rfl<;>rfl;exact AM8 h v c
def ANz{l:AA Lz.Op}{j:Nat}{o:Lz.Op}(h:l[j]? =sM o):l.take (j+1)=l.take j++[o]:=by rw[My,h];rfl
def AQd(I)(U:EB I)(Y:Pow I)(hL:Iw I):Fn 133 [.v<|vS<|AJ I9] [] I (APK I) nO:=by
 refine fo func133 λρ af w ab=>gG<|A0 (AeK I) [] λh hh=> ?_;subst hh;refine gG<|A0 (Ab5 I) [] λh hh=> ?_;subst hh;refine gG<|loop (ι:=AS) (AsP I) (λx=>39-x.i) AQR 1000 [] ⟨0,I,⟨nO,0,0⟩,0,0,[],⟨nO,0,0⟩,[]⟩ (.inl ⟨rfl,Bm _,Live.nil I 5 51⟩) ?_;rintro⟨i,J,D,m,t,f,s,l⟩ hp again T;rcases hp with⟨hm,hi,d⟩|⟨hm,hi,a,u,hf⟩|⟨hm,hi,a,u,hf⟩;obtain rfl:m=0:=hm;simp only at hi d;have hle:I.Da J:=d.st.le;obtain a|a|rfl:(i=0\/i=1)\/(i=2\/i=3\/i=4)\/i=5:=oG;refine gg [(20,hT<|((i:Nat):Int)<39),(22,T3 J i oG),(23,T1 J i _<|NH i (show NJ[i]? =sM (Ln.mk<|Nt i) by obtain rfl|rfl:=a<;>decide+kernel)),(28,.op J _ _<|Un ((Ln.mk<|Nt i).FD.headD 0) (Ln.mk<|Nt i).FD.tail)] ?_ (by obtain rfl|rfl:=a<;>exact kR);refine call (ON J (Ln.mk<|Nt i).FD (EM 32 (Ln.mk<|Nt i).FD).1 (EM 32 (Ln.mk<|Nt i).FD).2.1 (EM 32 (Ln.mk<|Nt i).FD).2.2 (by obtain rfl|rfl:=a<;>decide+kernel) rfl) (hobs:=by obtain rfl|rfl:=a<;>exact kR) ?_;refine gg [(40,ZL J (AJ (EM 32 (Ln.mk<|Nt i).FD).1) 1 262 (by obtain rfl|rfl:=a<;>exact kR))] ?_ (by obtain rfl|rfl:=a<;>exact kR);refine A0 (Aab J (Iw.Bf hle hL) D (EC.DN.take i) d.row (by obtain rfl|rfl:=a<;>decide) (Nt i) (EM 32 (Ln.mk<|Nt i).FD).2.1 (AFf (Nt i).1) [84] (by obtain rfl|rfl:=a<;>decide+kernel) (by obtain rfl|rfl:=a<;>decide+kernel) (by obtain rfl|rfl:=a<;>decide+kernel) (by obtain rfl|rfl:=a<;>decide+kernel)) [(1,124)] (hobs:=by obtain rfl|rfl:=a<;>exact kR) ?_;rintro _ ⟨S,N,rfl,q,p⟩
 refine gg [(57,hW (((i:Nat):Int)+1) ((i+1:Nat):Int))] ?_ (by obtain rfl|rfl:=a<;>exact kR);exact bk again [] ⟨i+1,N,S,0,t,f,s,l⟩ (.inl ⟨rfl,by show i+1<=5;omega,by obtain rfl|rfl:=a<;>exact d.next q p⟩) (hh:=by obtain rfl|rfl:=a<;>exact⟨kR,kR,kR⟩);refine gg [(20,hT<|((i:Nat):Int)<39),(22,T3 J i oG),(23,T1 J i _<|NH i (show NJ[i]? =sM (Ln.int<|Pd i) by obtain rfl|rfl|rfl:=a<;>decide+kernel)),(28,.op J _ _<|Un ((Ln.int<|Pd i).FD.headD 0) (Ln.int<|Pd i).FD.tail)] ?_ (by obtain rfl|rfl|rfl:=a<;>exact kR);refine call (ON J (Ln.int<|Pd i).FD (EM 32 (Ln.int<|Pd i).FD).1 (EM 32 (Ln.int<|Pd i).FD).2.1 (EM 32 (Ln.int<|Pd i).FD).2.2 (by obtain rfl|rfl|rfl:=a<;>decide+kernel) rfl) (hobs:=by obtain rfl|rfl|rfl:=a<;>exact kR) ?_;refine gg [(40,ZL J (AJ (EM 32 (Ln.int<|Pd i).FD).1) 0 261 (by obtain rfl|rfl|rfl:=a<;>exact kR))] ?_ (by obtain rfl|rfl|rfl:=a<;>exact kR);refine A0 (Aac J (Pow.Bf hle Y) D (EC.DN.take i) d.row (by obtain rfl|rfl|rfl:=a<;>decide) (Pd i) (by obtain rfl|rfl|rfl:=a<;>decide) (by obtain rfl|rfl|rfl:=a<;>decide) (by obtain rfl|rfl|rfl:=a<;>decide+kernel) (by obtain rfl|rfl|rfl:=a<;>decide+kernel)) [(1,124)] (hobs:=by obtain rfl|rfl|rfl:=a<;>exact kR) ?_;rintro _ ⟨S,N,rfl,q,p⟩;refine gg [(57,hW (((i:Nat):Int)+1) ((i+1:Nat):Int))] ?_ (by obtain rfl|rfl|rfl:=a<;>exact kR);exact bk again [] ⟨i+1,N,S,0,t,f,s,l⟩ (.inl ⟨rfl,by show i+1<=5;omega,by obtain rfl|rfl|rfl:=a<;>exact d.next q p⟩) (hh:=by obtain rfl|rfl|rfl:=a<;>exact⟨kR,kR,kR⟩);have F:D.n=5:=by
  have:=d.row.n;have e:lN ((EC.DN.take 5).flatMap BG)=25:=by decide+kernel
  omega
 let⟨b,o,h1,h2,M,Q,R⟩:=d.never (xs:=EC.DN) (R:=F9) F dC<|Rows.flat.2 rfl;refine Le b J o kR h1 h2 ?_;generalize J.never b o=y at M Q R⊢;refine gg [(20,hT<|((5:Nat):Int)<39),(22,T3 y 5 oG),(23,T1 y 5 _<|NH 5<|show NJ[5]? =sM (Ln.fn 1 1) by decide+kernel),(28,.op y _ _<|Un ((Ln.fn 1 1).FD.headD 0) (Ln.fn 1 1).FD.tail)]<|call (ON y (Ln.fn 1 1).FD (EM 32 (Ln.fn 1 1).FD).1 (EM 32 (Ln.fn 1 1).FD).2.1 (EM 32 (Ln.fn 1 1).FD).2.2 (by decide+kernel) rfl)<|gg [(40,ZL y (AJ (EM 32 (Ln.fn 1 1).FD).1) 2 263 kR)]<|A0 (AaZ y (Y.up M) D (EM 32 (Ln.fn 1 1).FD).2.1 1 1 AJQ) [(1,124)] ?_;rintro _ ⟨E,A,r1,r2,r3,rfl⟩;exact gg [(57,hW (((5:Nat):Int)+1) ((5+1:Nat):Int))]<|bk again [(7,1288)] ⟨5+1,y,D,0+1,E,[],⟨nO,0,0⟩,A⟩<|.inr<|.inl ⟨rfl,by show 6<=5+1;omega,by show 5+1<=26;omega,rfl,⟨⟨r1,r2⟩,r3,⟨F,R⟩,⟨.of M,Sg⟩⟩⟩;obtain rfl:m=0+1:=hm;simp only at hi a u;have hle:I.Da J:=hf.row.st.le;let⟨g,k,n,d⟩:=hf;simp only at g k n d;have B:lN f=0*3:=by rw[u];rfl
 by_cases ac:i<26;obtain⟨j,rfl⟩:∃j,i=6+j:=⟨i-6,oG⟩;have hj:j<20:=oG;obtain⟨o,P⟩:∃o,OL[j]? =sM o:=⟨_,BS<|show j<lN OL from hj⟩;have K:=AXX ⟨j,hj⟩;simp[P,LN]at K;have W:=ALz o<|GC _<|De P;have c:=AVk o<|De P;rw[show 6+j-6=j by omega]at d;have V:=ANz P;simp[ALE,Co,Hp,_root_.or_false]at c;refine gg [(20,hT<|((6+j:Nat):Int)<39),(22,T3 J (6+j) oG),(23,T1 J (6+j) _<|NH (6+j) K),(28,.op J _ _<|Un ((Fc o).headD 0) (Fc o).tail)] ?_ (by obtain rfl|rfl|rfl|rfl|rfl|rfl|rfl|rfl|rfl|rfl|rfl|rfl|rfl|rfl|rfl:=c<;>exact kR);refine call (ON J (Fc o) (EM 32<|Fc o).1 (EM 32<|Fc o).2.1 (EM 32<|Fc o).2.2 (by obtain rfl|rfl|rfl|rfl|rfl|rfl|rfl|rfl|rfl|rfl|rfl|rfl|rfl|rfl|rfl:=c<;>decide+kernel) rfl) (hobs:=by obtain rfl|rfl|rfl|rfl|rfl|rfl|rfl|rfl|rfl|rfl|rfl|rfl|rfl|rfl|rfl:=c<;>exact kR) ?_;refine gg [(40,AJk J (AJ (EM 32<|Fc o).1) (by obtain rfl|rfl|rfl|rfl|rfl|rfl|rfl|rfl|rfl|rfl|rfl|rfl|rfl|rfl|rfl:=c<;>exact kR))] ?_ (by obtain rfl|rfl|rfl|rfl|rfl|rfl|rfl|rfl|rfl|rfl|rfl|rfl|rfl|rfl|rfl:=c<;>exact kR);refine A0 (AMa J (EB.Bf hle U) (Pow.Bf hle Y) D 0 t f l 1 1 s (OL.take j) d.row (by rw[Cu];omega) g B o W) [(1,124),(2,7)] (hobs:=by obtain rfl|rfl|rfl|rfl|rfl|rfl|rfl|rfl|rfl|rfl|rfl|rfl|rfl|rfl|rfl:=c<;>exact kR) ?_;rintro _ ⟨s',N,rfl,q,p⟩;refine gg [(57,hW (((6+j:Nat):Int)+1) ((6+j+1:Nat):Int))] ?_ (by obtain rfl|rfl|rfl|rfl|rfl|rfl|rfl|rfl|rfl|rfl|rfl|rfl|rfl|rfl|rfl:=c<;>exact kR)
 exact bk again [] ⟨6+j+1,N,D,0+1,t,f,s',l⟩ (.inr<|.inl ⟨rfl,by show 6<=6+j+1;omega,by show 6+j+1<=26;omega,u,⟨g,k,⟨n.1,Av.Bf q.le n.2 λ_ _ h=>h⟩,by show Live I N 2 211 ((OL.take<|6+j+1-6).flatMap Cs) s';rw[show 6+j+1-6=j+1 by omega,V];exact d.next q p⟩⟩) (hh:=by obtain rfl|rfl|rfl|rfl|rfl|rfl|rfl|rfl|rfl|rfl|rfl|rfl|rfl|rfl|rfl:=c<;>exact⟨kR,kR,kR⟩);obtain rfl:i=26:=oG;subst u;have C:s.n=20:=by
  have:=d.row.n;have e:lN ((OL.take<|26-6).flatMap Cs)=40:=by decide+kernel
  omega
 let⟨b,o,h1,h2,M,Q,R⟩:=d.never (xs:=OL) (R:=Q2) C dC<|Rows.flat.2 rfl;refine Le b J o kR h1 h2 ?_;have z:=Av.Bf Q n.2 (S:=F9) λ_ _ h=>h;generalize J.never b o=y at M Q R z⊢;refine gg [(20,hT<|((26:Nat):Int)<39),(22,T3 y 26 oG),(23,T1 y 26 _<|NH 26<|show NJ[26]? =sM (Ln.fn 1 1) by decide+kernel),(28,.op y _ _<|Un ((Ln.fn 1 1).FD.headD 0) (Ln.fn 1 1).FD.tail)]<|call (ON y (Ln.fn 1 1).FD (EM 32 (Ln.fn 1 1).FD).1 (EM 32 (Ln.fn 1 1).FD).2.1 (EM 32 (Ln.fn 1 1).FD).2.2 (by decide+kernel) rfl)<|gg [(40,ZL y (AJ (EM 32 (Ln.fn 1 1).FD).1) 2 263 kR)]<|A0 (Aaa y (Y.up M) D (EM 32 (Ln.fn 1 1).FD).2.1 1 1 AJQ 1 t (Ge 1 1 s) l ⟨oG,g⟩ rfl (ZB _ _ _) k) [(1,124),(2,7)] ?_;rintro _ ⟨E,A,r1,r2,r3,rfl⟩;refine gg [(57,hW (((26:Nat):Int)+1) ((26+1:Nat):Int))] ?_;exact bk again [(7,1288)] ⟨26+1,y,D,1+1,E,Ge 1 1 s,⟨nO,0,0⟩,A⟩<|.inr<|.inr ⟨rfl,by show 27<=26+1;omega,by show 26+1<=39;omega,⟨Ge 1 1 s,[],(Hn _).symm,⟨s.a,s.c,_,by unfold Ge;rw[C];rfl,R⟩,rfl⟩,⟨⟨r1,r2⟩,r3,⟨n.1,z⟩,⟨.of M,Sg⟩⟩⟩
 .obtain rfl:m=1+1:=hm;simp only at hi a u;have hle:I.Da J:=hf.row.st.le;let⟨g,k,n,d⟩:=hf;simp only at g k n d;have B:lN f=1*3:=(by have:=u.len<|WI J;simpa using this);by_cases ac:i<39;obtain⟨j,rfl⟩:∃j,i=27+j:=⟨i-27,oG⟩;have hj:j<12:=oG;obtain⟨o,P⟩:∃o,OM[j]? =sM o:=⟨_,BS<|show j<lN OM from hj⟩;have K:=AXY ⟨j,hj⟩;simp[P,LN]at K;have W:=ALz o<|HZ _<|De P;have c:=AVl o<|De P;rw[show 27+j-27=j by omega]at d;have V:=ANz P;simp[mem1,Co,Hp,_root_.or_false]at c;refine gg [(20,hT<|((27+j:Nat):Int)<39),(22,T3 J (27+j) oG),(23,T1 J (27+j) _<|NH (27+j) K),(28,.op J _ _<|Un ((Fc o).headD 0) (Fc o).tail)] ?_ (by obtain rfl|rfl|rfl|rfl|rfl|rfl|rfl|rfl|rfl:=c<;>exact kR);refine call (ON J (Fc o) (EM 32<|Fc o).1 (EM 32<|Fc o).2.1 (EM 32<|Fc o).2.2 (by obtain rfl|rfl|rfl|rfl|rfl|rfl|rfl|rfl|rfl:=c<;>decide+kernel) rfl) (hobs:=by obtain rfl|rfl|rfl|rfl|rfl|rfl|rfl|rfl|rfl:=c<;>exact kR) ?_;refine gg [(40,AJk J (AJ (EM 32<|Fc o).1) (by obtain rfl|rfl|rfl|rfl|rfl|rfl|rfl|rfl|rfl:=c<;>exact kR))] ?_ (by obtain rfl|rfl|rfl|rfl|rfl|rfl|rfl|rfl|rfl:=c<;>exact kR);refine A0 (AMa J (EB.Bf hle U) (Pow.Bf hle Y) D 1 t f l 1 1 s (OM.take j) d.row (by rw[Cu];omega) g B o W) [(1,124),(2,7)] (hobs:=by obtain rfl|rfl|rfl|rfl|rfl|rfl|rfl|rfl|rfl:=c<;>exact kR) ?_;rintro _ ⟨s',N,rfl,q,p⟩;refine gg [(57,hW (((27+j:Nat):Int)+1) ((27+j+1:Nat):Int))] ?_ (by obtain rfl|rfl|rfl|rfl|rfl|rfl|rfl|rfl|rfl:=c<;>exact kR)
  exact bk again [] ⟨27+j+1,N,D,1+1,t,f,s',l⟩ (.inr<|.inr ⟨rfl,by show 27<=27+j+1;omega,by show 27+j+1<=39;omega,u.mono<|SC q.le,⟨g,k,⟨n.1,Av.Bf q.le n.2 λ_ _ h=>h⟩,by show Live I N 2 211 ((OM.take<|27+j+1-27).flatMap Cs) s';rw[show 27+j+1-27=j+1 by omega,V];exact d.next q p⟩⟩) (hh:=by obtain rfl|rfl|rfl|rfl|rfl|rfl|rfl|rfl|rfl:=c<;>exact⟨kR,kR,kR⟩)
  .obtain rfl:i=39:=oG;have C:s.n=12:=by
    have:=d.row.n;have e:lN ((OM.take<|39-27).flatMap Cs)=24:=by decide+kernel
    omega
   let⟨b,o,h1,h2,M,Q,R⟩:=d.never (xs:=OM) (R:=Q2) C dC<|Rows.flat.2 rfl;refine Le b J o kR h1 h2 ?_;have z:=Av.Bf Q n.2 (S:=F9) λ_ _ h=>h;have L:=u.mono<|SC Q;have F:=n.1;let⟨ca,cn,cc⟩:=D;let⟨sa,sn,sc⟩:=s;simp only at F C;subst F;subst C;generalize J.never b o=y at M Q R z L⊢;refine B4 7 y (vs:=f++Ge 1 1 ⟨sa,12,sc⟩++l) (e:=195) λpb Z O ae ad=> ?_;have H:=M.trans O;have X:Rows (KU Z) EC.Ax (f++Ge 1 1 ⟨sa,12,sc⟩):=by have e:EC.Ax=[EC.Ax.getD 0 Al]++[EC.Ax.getD 1 Al]:=rfl;rw[e];exact Rows.append (L.mono<|AJa O)<|Rows.one ⟨sa,sc,_,rfl,R.up O λ_ _ h=>h⟩
   have G:FJ Z EC ⟨ca,cc,EC.DN.flatMap BG,sM ⟨pb,0,nO⟩,t,f++Ge 1 1 ⟨sa,12,sc⟩⟩:=by refine⟨z.up O λ_ _ h=>h,⟨.Og ad (by rw[CK,B];rfl) ?_,g.1,g.2,X⟩⟩;intro v hv;rcases Bc.1 hv with hv|hv;exact AM8 L v hv;exact ZB _ _ _ v hv
   generalize aa:(⟨ca,cc,EC.DN.flatMap BG,sM ⟨pb,0,nO⟩,t,f++Ge 1 1 ⟨sa,12,sc⟩⟩:Dw)=ip at G;refine gg [(20,hF<|((39:Nat):Int)<39)]<|call (AJv Z (U.up H) (Y.up H) EC ip G AAT) (hobs:=by rw[<-aa];exact kR) ?_;exact gG<|done func133 ab [] (h:={r:=.t [.g<|Fa EC ip,.v<|.int iK 0,.v<|.int iK 0],J:=Z}) (by rw[<-aa];exact kR) ⟨ip,Z,rfl,H,G⟩
def AaA(I)(b:EB I)(e:Pow I)(d:Iw I):Fn 84 [.v<|vS<|AJ I9] [] I (AGx I EC) nO:=by refine fo func84 λj i w c=>gG<|A0 (AQd I b e d) [] λh f=> ?_;obtain⟨g,J,rfl,hle,a⟩:=f;exact gG<|dn [] ⟨g,J,rfl,hle,a⟩
def AIB(I)(e:EB I)(q:Pow I)(p:Iw I)(v:Int):Fn 29 [.v<|nV v] [] I (AB1 I<|EU v) nO:=by
 refine fo func29 λz y w k=>gG<|Cz (AaA I e q p) λu J hle b=>gG<|call (ZO J)<|gG<|call (ZO J)<|go func29 [] 5 kR<|B4 140 J (vs:=(EU v).BJ.flatMap FT) (e:=99) λm o c l g=>B4 188 o (vs:=(EU v).BM.flatMap En) (e:=103) λn d a f h=> ?_;have r:Av d Si 3 (EU v).BJ (aP m) 1 ((EU v).BJ.flatMap FT):=by refine⟨.Og (AE:=[]) (e:=99) (by rw[Hn];exact a.at_ _ _ g) rfl ?_,Ag _,by rw[maxLen];decide,Rows.flat.2 rfl⟩;intro x j;let⟨s,_,i⟩:=LJ.1 j;exact XP s x i
 have t:Av d Ro 9 (EU v).BM (aP n) 2 ((EU v).BM.flatMap En):=by refine⟨.Og (AE:=[]) (e:=103) (by rwa[Hn]) rfl ?_,Ag _,by rw[maxLen];decide,Rows.flat.2 rfl⟩;intro x j;let⟨s,_,i⟩:=LJ.1 j;exact Rn s x i
 exact gG<|dn [] ⟨⟨u,sM ⟨m,0,nO⟩,1,(EU v).BJ.flatMap FT,sM ⟨n,0,nO⟩,2,(EU v).BM.flatMap En⟩,d,rfl,(hle.trans c).trans a,⟨(b.up c).up a,r,t⟩⟩
variable{C:Lz.AT}
def AAs{n}(h:n<=200):3+n*(25+4*n)<=200000:=by have:n*(25+4*n)<=200*(25+4*200):=VR h oG;omega
def AVf{im}(h:Ra im)(h1:IQ im)(b:Ie im):VW im where
 ok:=⟨λf a=>(h.fk f a).o,λf a=>by have:=(h.fk f a).a;omega,λf a=>by have:=(h.fk f a).c.2;omega⟩
 im:=h1
 ib:=b
 R7:=by have:=h.fs.2;omega
def AWm{n k}(h:PL C n k)(a:n<=200):MG C (· =0) (24+4*n) (3+n*(25+4*n)) k:=⟨h.kk,h.bk,oG,by have:=AAs a;omega,by have:=h.AD;omega,zero_and,λp e=>by subst e;exact AfX _⟩
def AE5{n k}(h:PL C n k)(c:n<=200)(b:Ra k.im)(I L m)(d:CZ I L k m)(a)(hid:CB a):
 Fn 25 [.p 1 0,.v<|sV a] (CL m k.im k.AD) I (QI I (CM L m)<|F6 k a) nO:=
 AZv I L k m d (AWm h c) (AVf b h.im h.ib) oG (by have:=AAs c;omega) h.bf oG (by have:=h.AD;omega) a hid
def T6{n k}(h:PL C n k)(a:n<=200):X7 k where
 E0:=h.kk.ki.E0
 len:=by have:=h.bk.tl;omega
 AC t ht:=by have hi:=h.kk.ki.G3 t ht;refine⟨hi.HM _<|by rw[Ak];simp,by have:=(h.bk.ts t ht).sc;omega,λi=>JV ?_⟩;rw[EF];split;rename_i s hs;exact(hi.Cj.2 s<|De hs).2.1;exact hi.Cj.1.1
 fl:=by have:=h.bf.fl;omega
 ff f hf:=JV (h.bf.fv f hf).2.1
 ob n o ho:=(h.kk.ki.Ep n o ho).Cj
 sl:=by have:=h.bk.sl;have:=AAs a;omega
def ANC(v:Int)(a:C7 v:=by decide):PL high 120 (KB v):=by have:=Ae9 GL<|AID v a;rw[show 0+lN GL=120 by decide]at this;exact this
def Af2{v}(h:wv v):BV v.name/\lN v.name<=24:=by rcases h with h|h|h;rw[h.1];exact⟨λx a=>(by cases a),Bm _⟩;rw[h];exact⟨λx a=>(by cases a),Bm _⟩;exact⟨(Z4 h.2.2.2).1,(Z4 h.2.2.2).2.2⟩
def Ae8{n k}(h:PL C n k)(o:n<=200)(j:Aei k):∀f∈k.Bj,X5 f:=λf d=>by let⟨a,e,g,i⟩:=h.bf.fv f d;have l:=j f d;have m:=h.AD;have b:=Z4 i;have c:=Af2 a;exact⟨by omega,⟨b.1,by have:=b.2.2;omega⟩,JV e,⟨a.imp_left Ae7,JV g⟩,AGB a,⟨c.1,by have:=c.2;omega⟩⟩
def AfC:∀(l:AA Nm) {k:Ap},Aei k->Aei (Fe k l)
 |[],_,h=>h
 |id::l,k,h=>AfC l<|Aga h id
def Ac8{n k}(h:PL C n k)(i:n<=200)(I L m)(d:CZ I L k m)(t)(c:Af k.AC t.id=some t):Fn 12 [.p 1 0,.v<|sV t.id] (CL m k.im k.AD) I (AG0 I m k.im k.AD t true) none:=by have b:=D2 c;have a:=h.bk.ts t b;exact Ac9 I L k m d t ((h.kk.ki.G3 t b).HM _<|by rw[Ak];simp) c (by have:=a.sc;omega) ⟨by have:=a.c.fr;omega,by have:=a.c.st;omega,by have:=a.c.tr;omega⟩ λf e=>by have:=(a.c.vf f e).1;omega
def wdB(n:Nat):Ce:=match n with
 |0=>⟨#[114,117,110]⟩
 |1=>⟨#[119,97,105,116]⟩
 |2=>⟨#[105,100,108,101]⟩
 |3=>⟨#[101,110,100]⟩
 |_=>⟨#[102,97,105,108]⟩
def Af0(n):(wdB n).size<=4:=by unfold wdB;split<;>decide
def Aeo(t:AL):Ce:=(((Aa t.id++⟨#[32]⟩)++wdB t.Aw)++⟨#[32]⟩)++AJ (Acx t.g.Ad)
def PW(t:AL):Ce:=if t.Aw=3\/t.Aw=4 then Aeo t++(⟨#[32]⟩++Ael t.v)else Aeo t
def Aep(l:AA AL):AA AF:=l.map λt=>vS<|PW t
structure Aej(I:AB):Prop where
 at_:∃arr e fr,I 0=sM (.cells arr e fr)/\∀i,i<5->arr[i]? =sM (vS (wdB i))
def Aej.up{I J}(h:Aej I)(hle:I.le J):Aej J:=by let⟨arr,e,a,b,c⟩:=h.at_;exact⟨arr,e,a,hle _ _ b,c⟩
def Afz:prog.underlying 163=sM (.array 5 9):=kR
structure StW(t:AL):Prop where
 id:BV t.id/\lN t.id<=1000
 st:t.Aw<=4
 l:B9 t.g.Ad
 v:2<=t.Aw->WV t.v/\(-9223372036854775808<=t.v.n/\t.v.n<=9223372036854775807)/\BV t.v.name/\lN t.v.name<=1000
def Told.up{I J K z e a s}(h:Told I J z e a s)(hle:J.le K):Told I K z e a s:=⟨h.st.trans<|.of hle,h.row.A2 λb _ y c=>hle.Ak b y c⟩
abbrev AfE(I:AB)(m:CH)(b:A6)(a:Nat)(s:Ce):zP:=YF I (AEB m b a) (λ_:Unit=>.v<|vS s) λ_ _=>True
def Agg(I)(k:Pow I)(f:Iw I)(hW:Aej I)(m d a t)(c:StW t)(g:Fn 12 [.p 1 0,.v<|sV t.id] (CL m d a) I (AG0 I m d a t tT) nO):
 Fn 74 [.v<|sV t.id,.p 6 0] (AEB m d a) I (AfE I m d a<|PW t) nO:=by
 let⟨L,hi9,i⟩:=AVt;have F:=Ae0 c.id.1;have K:=c.id.2;have G:=Af0 t.Aw;have H:=Ae1 t.g.Ad;have A:(Aa t.id++⟨#[32]⟩).size<=4001:=by rw[AGK];show _+1<=_;omega
 have B:((Aa t.id++⟨#[32]⟩)++wdB t.Aw).size<=4005:=by rw[AGK];omega
 have C:(((Aa t.id++⟨#[32]⟩)++wdB t.Aw)++⟨#[32]⟩).size<=4006:=by rw[AGK];show _+1<=_;omega
 have D:(Aeo t).size<=6007:=by unfold Aeo;rw[AGK];omega
 refine fo func74 λM j w n=>gG<|A0 g [] ?_;rintro _ ⟨q,J,rfl,hle,y⟩;let⟨arr,e,E,v,z⟩:=(hW.up hle).at_;have x:arr[0+t.Aw*1]? =sM (vS<|wdB t.Aw):=by rw[FE,TG];exact z _ (by have:=c.st;omega)
 refine gg [(14,T0 J 13 (Aa t.id) ⟨#[32]⟩<|by show _+1<=_;unfold maxLen;omega),(17,.op J _ _<|Uq (b:=0) (off:=0) (k:=t.Aw) Afz hi9 i (by have:=c.st;omega)),(18,.op J _ _<|IZ (I:=J) Di rfl v x),(19,WL J 14 18 (Aa t.id++⟨#[32]⟩) (wdB t.Aw)<|by unfold maxLen;omega),(20,T0 J 19 ((Aa t.id++⟨#[32]⟩)++wdB t.Aw) ⟨#[32]⟩<|by show _+1<=_;unfold maxLen;omega)] ?_;refine call (AfI J (f.up hle) t.g.Ad c.l) ?_;have l:=WL J 20 24 (((Aa t.id++⟨#[32]⟩)++wdB t.Aw)++⟨#[32]⟩) (AJ<|Acx t.g.Ad) (by unfold maxLen;omega);have Bz:∀ {s},s=PW t->AfE I m d a (PW t) j {r:=.v<|vS s,AV:=AEB m d a,J:=J}:=λh=>by rw[h];exact⟨(),J,rfl,hle,trivial⟩
 by_cases o:t.Aw=3;have b:=c.v oG;have e:PW t=Aeo t++(⟨#[32]⟩++Ael t.v):=by unfold PW;rw[Ac<|.inl o]
 have u:=Ae6 t.v b.2.1 b.2.2;refine gg [(25,WL J 20 24 (((Aa t.id++⟨#[32]⟩)++wdB t.Aw)++⟨#[32]⟩) (AJ<|Acx t.g.Ad)<|by unfold maxLen;omega),(28,hE (t.Aw:Int) 3)] ?_;refine call (AfO J (k.up hle) (f.up hle) t.v b.1 b.2.1 b.2.2) ?_;refine gg [(38,AUx J 37 ⟨#[32]⟩ (Ael t.v)<|by show 1+_<=_;unfold maxLen;omega),(39,WL J 34 38 (Aeo t) (⟨#[32]⟩++Ael t.v)<|by rw[AGK];show _+(1+_)<=_;unfold maxLen;omega)] ?_;exact dn []<|Bz e.symm;by_cases p:t.Aw=4;have b:=c.v oG;have e:PW t=Aeo t++(⟨#[32]⟩++Ael t.v):=by unfold PW;rw[Ac<|.inr p]
 have u:=Ae6 t.v b.2.1 b.2.2;refine gg [(25,WL J 20 24 (((Aa t.id++⟨#[32]⟩)++wdB t.Aw)++⟨#[32]⟩) (AJ<|Acx t.g.Ad)<|by unfold maxLen;omega),(28,hN (t.Aw:Int) 3),(32,hE (t.Aw:Int) 4)] ?_;refine call (AfO J (k.up hle) (f.up hle) t.v b.1 b.2.1 b.2.2) ?_;refine gg [(38,AUx J 37 ⟨#[32]⟩ (Ael t.v)<|by show 1+_<=_;unfold maxLen;omega),(39,WL J 34 38 (Aeo t) (⟨#[32]⟩++Ael t.v)<|by rw[AGK];show _+(1+_)<=_;unfold maxLen;omega)] ?_;exact dn []<|Bz e.symm;have e:PW t=Aeo t:=by unfold PW;rw[AY<|by omega]
 refine gg [(25,WL J 20 24 (((Aa t.id++⟨#[32]⟩)++wdB t.Aw)++⟨#[32]⟩) (AJ<|Acx t.g.Ad)<|by unfold maxLen;omega),(28,hN (t.Aw:Int) 3),(32,hN (t.Aw:Int) 4)] ?_;exact dn []<|Bz e.symm
def Af8(m:CH)(im:A6)(AD:Nat)(a:AU Au)(c len:Nat)(q:Nat×Bi×AB):Hd where
 Cd:=[(1,.fn (.func 74) [] [.p 6 0]),(5,.v<|.slice q.2.1.a q.2.1.n q.2.1.c),(8,.v<|.slice a len c),(9,.v<|iV len),(10,.v<|iV q.1)]
 Cc:=AEB m im AD
 J:=q.2.2
def Af9(I m u k d a c n)(R:Av I NL 1 (d.map (·.id)) a c n)(W:lN d<=1000000)
 (Q:∀t∈d,∀J,I.le J->Fn 74 [.v<|sV t.id,.p 6 0] (AEB m u k) J (AfE J m u k<|PW t) nO):
 Fn 72 [.v<|.slice a (lN d) c,.fn (.func 74) [] [.p 6 0]] (AEB m u k) I (AB8 I (AEB m u k) 1 9<|Aep d) nO:=by
 refine fo func72 λX S w K=>gG<|loop (ι:=Nat×Bi×AB) (λq=>q.1<=lN d/\Told I q.2.2 1 9 (Aep<|d.take q.1) q.2.1) (λq=>lN d-q.1) (Af8 m u k a c<|lN d) 1000 [] (0,⟨nO,0,0⟩,I) ⟨Bm _,.nil I 1 9⟩ ?_;rintro⟨i,⟨M,f,N⟩,J⟩ ⟨A,l⟩ again T;simp only at A l;have E:f=i:=by have x:=l.row.n;rw[Aep]at x;rw[DG,Cu]at x;simp only at x;omega
 subst E;by_cases g:f<lN d;have L:d[f]? =sM d[f]:=BS g;have p:=Q _ (DR g) J l.st.GJ;have j:Aep (d.take<|f+1)=Aep (d.take f)++[vS<|PW d[f]]:=by rw[Aep];rw[Kd g,E3];rfl
 generalize d[f]=t at L p j;have hid:(d.map (·.id))[f]? =sM t.id:=by rw[GB,L];rfl
 obtain⟨b,o,arr,e,U,F,rfl,q2,q3,q4,q5⟩:=(R.up l.st.GJ λ_ _ h=>h).cell Ws hid;have q3:F=Mg t.id:=q3;subst q3;have q0:arr[o+f*1]? =sM (sV t.id):=by have:=q5 0 _ rfl;rw[IB]at this;exact this
 refine gg [(11,tH f<|lN d),(12,Br J Jr b o (lN d) c f g),(13,ED J Di rfl (o+f*1) (sV t.id) q2 q0)]<|A0 p [] ?_;rintro _ ⟨_,G,rfl,r,_⟩;have l:=l.up r;refine gG<|act (need:=[(1064,.cells ([Value.string<|PW t].map .v) 9)]) (JI (I:=G) Be (s:=⟨M,f,N⟩) (x:=.s 1064 0 1 1) (m:=1) (CQ:=Aep<|d.take f) (news:=[Value.string<|PW t]) Ve kR l.row (Ez (e:=9) sP rfl<|SQ rfl) dC<|by show f+1<=16777216;omega) JH ?_;rintro V ⟨H,P,v,rfl,B,C,D,y,z⟩;have s:=l.app (AE:=v) (news:=[Value.string<|PW t]) rfl (SQ rfl) B C D y z;generalize G.plus H _=O at s⊢;refine gg [(20,sH f)] ?_;exact bk again [] (f+1,⟨sM ⟨H,0,nO⟩,f+1,P⟩,O) ⟨g,by rwa[j]⟩;have A:f=lN d:=oG;subst A;rw[FN]at l;exact gg [(11,fH (lN d)<|lN d)]<|dn [] ⟨⟨M,lN d,N⟩,J,l,rfl⟩
def Aft{i n k}(h:PL i n k){t}(e:t∈k.AC):StW t:=by have a:=h.kk.ki.G3 t e;have c:=Z4 (a.HM t.id (by rw[Ak];simp));refine⟨⟨c.1,by have:=c.2.2;omega⟩,a.Ux,JV a.Cj.1.1,λf=> ?_⟩;have b:=(h.bk.ts t e).vv f;have d:=Af2 b;exact⟨⟨b.imp_left Ae7,JV a.val.Cj⟩,AGB b,d.1,by have:=d.2;omega⟩
def Agh{l n k}(u:PL l n k)(q:n<=200)(i:B9 l)(I L m)(o:CZ I L k m)(C:Iw I)(hW:Aej I):
 Fn 22 [.p 1 0,DW l] (CL m k.im k.AD) I (AB8 I (CL m k.im k.AD) 1 9<|Aep (Hh k l).AC) nO:=by
 have E:=AKL I L k m o (T6 u q) l i;have f:=AfH u;have D:=o.pow;let⟨M,K,O,H,y,N,P⟩:=m;refine fo func22 λQ G w p=>gG<|A0 E [] ?_;rintro _ ⟨⟨ip',es',n2,⟨v,on,x⟩,fac',lk',sm'⟩,L',J,rfl,hst,hk'⟩;have h:on=lN (Hh k l).AC:=by have:=hk'.Bu.n;rw[DG,DG]at this;simp only at this;omega
 subst h;have hlen:=f.bk.tl;have hle:=hst.GJ;refine gG<|A0 (Ago J ⟨ip',es',n2,⟨v,lN (Hh k l).AC,x⟩,fac',lk',sm'⟩ k.im k.AD _ (by show(Hh k l).AC.length<=_;omega) hk'.Bu) [(1,132),(2,133),(3,134),(4,135),(5,136)] ?_;rintro _ ⟨⟨a,c⟩,j,rfl,b,z,A,B⟩;have F:Av j NL 1 ((Hh k l).AC.map (·.id)) a c (((Hh k l).AC.map (·.id)).map BQ):=⟨by rwa[DG],by rwa[DG],A,by rw[<-WA];exact Rows.flat.2 rfl⟩;refine gG<|A0 (Af9 j ⟨ip',es',n2,⟨v,lN (Hh k l).AC,x⟩,fac',lk',sm'⟩ k.im k.AD (Hh k l).AC a c _ F (by omega) λt r e d=>
  have g:=(hle.trans b).trans d
  Agg e (D.up g) (C.up g) (hW.up g) _ k.im k.AD t (Aft f r)<|Ac8 f q e L' _ (hk'.up<|b.trans d) t<|NT f.kk.ki.E0 r) [(1,132),(2,133),(3,134),(4,135),(5,136),(6,140)] ?_
 rintro _ ⟨s,e,told,rfl⟩;exact gG<|dn [] ⟨s,e,⟨(hst.AdN<|.of b).AdN told.st,told.row⟩,rfl⟩
structure KL(I J:AB)(L:AA Rw)(k:Ap)(m:CH)(L':AA Rw)(k':Ap)(m':CH):Prop where
 st:Cb I [] J (CM L m++CM L' m')
 ka:CZ J L k m
 kb:CZ J L' k' m'
 dj:∀x∈CM L m,x∉CM L' m'
variable{I J K:AB}{L G L':List Rw}{k k2 k':Ap}{m V m':CH}
def KL.swap(h:KL I J L k m L' k' m'):KL I J L' k' m' L k m:=
 ⟨⟨h.st.le,h.st.A2,λx a=>h.st.CE x<|Bc.2 (Bc.1 a).symm⟩,h.kb,h.ka,λx a b=>h.dj x b a⟩
def KL.up(h:KL I J L k m L' k' m')(hle:J.le K):KL I K L k m L' k' m':=⟨h.st.trans<|.of hle,h.ka.up hle,h.kb.up hle,h.dj⟩
def KL.le(h:KL I J L k m L' k' m'):I.le J:=h.st.GJ
def KL.a(h:KL I J L k m L' k' m')(a:Cb J (CM L m) K<|CM G V)(hk:CZ K G k2 V):KL I K G k2 V L' k' m' where
 st:=by
  have e:∀x y,I.B8 x y->x∉CM L m:=λx y c hm=>by rcases h.st.CE x (GC _ hm)with q|q;cases q;exact q y c
  refine⟨h.st.le.trans a.le,λx y c _=>a.A2 x y (h.st.A2 x y c sP)<|e x y c,λx c=> ?_⟩;rcases Bc.1 c with c|c;rcases a.CE x c with q|q;exact h.st.CE x<|GC _ q;exact .inr λy d=>q y<|h.st.A2 x y d sP;exact h.st.CE x<|HZ _ c
 ka:=hk
 kb:=h.kb.A2 a.le λb hb y d=>a.A2 b y d λhm=>h.dj b hm hb
 dj x c d:=by rcases a.CE x c with q|q;exact h.dj x q d;let⟨y,d⟩:=h.kb.hasAll x d;exact q y d
def KL.new(c:Cb I [] J<|CM L m)(hk:CZ J L k m)(a:Cb J [] K<|CM L' m')(b:CZ K L' k' m'):KL I K L k m L' k' m' where
 st:=c.app a
 ka:=hk.up a.GJ
 kb:=b
 dj x hx d:=by rcases a.CE x d with q|q;cases q;let⟨y,d⟩:=hk.hasAll x hx;exact q y d
def AIC(v:Int):RY (EU v) where
 nb:=by show 1<=8;decide
 nt:=by show 0<2/\2<=8;decide
 bx b hb:=by rw[A9.1 hb];show A4 ([1],[])=([1],[]);decide+kernel
 th b hb:=by
  have hb:b=⟨0,FW,high,0,5,0,0⟩\/b=⟨0,([1],[]),high,0,5,0,0⟩:=by simpa[EU]using hb
  rcases hb with rfl|rfl;exact⟨by show 0<2;decide,λf a=>by cases a;rfl,by decide+kernel,by decide+kernel,dC,dC,by show(0:Int)<1;decide,by decide+kernel⟩;exact⟨by show 0<2;decide,λf a=>by cases a;rfl,by decide+kernel,by decide+kernel,dC,dC,by show(0:Int)<1;decide,by decide+kernel⟩
 fs:=by show 2<=1000;decide
def AL9:∀f∈EC.Ax,∃S,Ng EC f S:=λf a=>by
 have a:f=EC.Ax.getD 0 Al\/f=EC.Ax.getD 1 Al:=by simpa[EC]using a
 rcases a with rfl|rfl;exact⟨_,AL8 0 dC⟩;exact⟨_,AL8 1 dC⟩
def AL4{I A B:AB}{b:Nat}{o:Obj}(hle:I.le A)(c:A.Da B)(f:A.Ak b=nO)(d:B.B8 b o):I.Ak b=nO:=by
 cases e:I.Ak b with
 |none=>rfl
 |some y=>
  exfalso;have g:I b=nO:=by
   cases a:I b with
   |none=>rfl
   |some z=>
    have:=c b z<|hle.at_ b z a;rw[d.at_]at this;cases this
  have:=(hle.Ak b y ⟨e,g⟩).Ak;rw[f]at this;cases this
def AfL{g k}(h:PL g 0 k)(c:Ra k.im)(a)(j:lN a<=200)(f:∀b∈a,CB b):∀i b,a[i]? =sM b->∀J L' m',CZ J L' (Fe k<|a.take i) m'->Fn 25 [.p 1 0,.v<|sV b] (CL m' (Fe k<|a.take i).im (Fe k<|a.take i).AD) J (QI J (CM L' m')<|F6 (Fe k<|a.take i) b) nO:=λi b hid J L' m' d=>by have e:=(List.getElem?_eq_some_iff.1 hid).1;have hinv:=Ae9 (a.take i) h;rw[List.length_take,show min i (lN a)=i from Nat.min_eq_left<|Nat.le_of_lt e,Nat.zero_add]at hinv;exact AE5 hinv oG (by rw[AZz];exact c) J L' m' d b<|f b<|List.mem_of_getElem? hid
def Afp:∀a∈GL,CB a:=λa h=>by rw[List.eq_of_mem_replicate h];rfl
def Adg:prog.underlying 27=sM (.pointer<|prog.pointee 27):=kR
def AXw(I){a k b}:HL prog (.binOp .eql 27 (.tmp a) (.const<|.pointer nO) 27) [(a,SV.p k b)] [] I (.v fV):=by refine .of ?_;rintro d j w ⟨c,_⟩ h _ _ o i;have e:=h (.pointer nO) xO;simp[AO]at c;have f:(eqGuard .eql 27 (.tmp a) (.const<|.pointer nO) (.pointer<|sM ⟨d k,b,nO⟩)<|.pointer nO).run prog w=.ok () w:=rfl;have g:=run_eql_pointer_nil (P:=prog) (w:=w) 27 (sM ⟨d k,b,nO⟩) Adg;simp[execOp,i,rB,c,e,f,aK,g];rfl
def ZJ(I:AB)(a k:Nat):Hint:=.BZ (.binOp .eql 27 (.tmp a) (.const<|.pointer nO) 27) [(a,.p k 0)] [] I (.v fV)<|AXw I
def Pm{n}(h:CB n):BV n:=by rw[CB]at h;simp only[CJ,EQ]at h;exact λx a=>LO<|h.2 x a
def AGE{v}(h:wv v):BV v.name:=by
 rcases h with h|h|h;rw[h.1];exact λx a=>by cases a
 rw[h];exact λx a=>by cases a
 exact Pm h.2.2.2
def AN6{n k}(h:PL C n k)(o:n<=200){t}(l:t∈k.AC):CB t.id/\TT t:=by
 have g:=h.kk.ki.G3 t l;have a:=h.bk.ts t l;have d:∀x∈t.AI,BV x.name:=λx b=>Pm (g.HM _ (by rw[Ak];exact List.mem_cons_of_mem _ (List.mem_map_of_mem b)));have hid:=g.HM t.id (by rw[Ak];simp);have c:∀y∈t.AI.map (·.Bg)++[t.Bg],BV y:=λy m=>by rw[g.NO]at m;rcases List.mem_cons.1 m with e|e;rw[e];exact Pm hid;obtain⟨x,b,rfl⟩:=List.mem_map.1 e;exact d x b
 refine⟨hid,Pm hid,c _ (List.mem_append_right _ sP),?_,g.val.kind.2,⟨⟨by have:=a.c.fr;omega,by have:=a.c.st;omega,by have:=a.c.tr;omega⟩,λf j=>⟨by have:=(a.c.vf f j).1;omega,λv i=>AGE ((a.c.vf f j).2 v i)⟩,λv i=>AGE (a.c.vs v i)⟩,by have:=a.sc;omega,λx b=>⟨d x b,c _ (List.mem_append_left _ (List.mem_map_of_mem b))⟩⟩;by_cases e:t.Aw=1;exact Pm (a.on e);rw[a.off e];exact λx b=>by cases b
def Ack{a:Type}{n b:Nat}{l:AA a}(h:lN l<=b):lN (l.take n)<=b:=by rw[Cu];omega
def AU9{t u l}(h:CB t.id/\TT t)(a:C4 t l=sM u):CB u.id/\TT u:=by
 rw[C4]at a;dsimp only at a;split at a;cases a;exact h;split at a;cases a
 .cases a;let⟨h0,h1,h2,h3,h4,⟨⟨g,i,j⟩,h6,h7⟩,h8,h9⟩:=h;refine⟨h0,h1,?_,nA,nA,⟨⟨?_,?_,?_⟩,λf c=>h6 f<|Fg c,λv d=>h7 v<|Fg d⟩,?_,λx b=>h9 x<|Fg b⟩;show BV (t.AI.getD (CF t l-1) Al).name;rw[DK];cases e:t.AI[CF t l-1]? with
  |none=>exact λx b=>by cases b
  |some s=>exact(h9 s<|De e).1
  all_goals exact Ack ‹_›
def Ui{n k}(h:PL C n k)(c:n<=200)(l):QL (Hh k l) where
 E0:=XS h.kk.ki.E0
 len:=Ch (AO6 _ _) (by have:=h.bk.tl;omega)
 AC u hu:=by let⟨t,ht,e⟩:=AGa.1 hu;exact AU9 (AN6 h c ht) e
 Ep x hx:=by
  have a:=ZF h.kk.ki.B0<|(Ho.1 hx).1;have b:=h.kk.ki.Ep _ _ a;exact⟨b.val.kind.2,b.Lr.kind.2,by have:=(h.bk.os _ _ a).q;omega,λw hw=>⟨by
   let⟨t,h1,_⟩:=(h.kk.ki.Dn _ _ a).2 w hw;rw[<-E2 h1];exact(AN6 h c<|D2 h1).2.id,(b.Dn w hw).kind.2⟩⟩
 fl:=Ch (RQ _ _) (by have:=h.bf.fl;omega)
 ff f hf:=by have:=h.bf.fv f (Ho.1 hf).1;exact⟨Pm this.2.2.2,AGE this.1⟩
 ll:=Bm _
 lf x hx:=by cases hx
structure AQ where
 i:Nat
 J:AB
 s:Bi
def AQE(a b:CH)(x:AQ):Hd where
 Cd:=[(1,.p 1 0),(2,.p 6 0),(3,x.s.sv),(4,.v<|iV x.i)]
 Cc:=CL a (EG<|EU 0).im (EG<|EU 0).AD++Qo b (EG<|EU 100).im (EG<|EU 100).AD
 J:=x.J
def APH(I:AB):zP:=λ_ h=>∃J,I.le J/\h= {r:=.v tV,J:=J}
def AM9:∀l:AA FU,Rows Pu (l.map Kq) (KT l)
 |[]=>rfl
 |f::l=>⟨[vS<|Kq f],KT l,rfl,rfl,AM9 l⟩
def Told.never{f:Type}{c I J:AB}{R:f->AA AF->Prop}{z:Nat}{e:BN}{xs:AA f}{As:AA AF}{s:Bi}(h:Told I J z e As s)(hle:c.le I)(hlen:s.n=lN xs)(a:0<lN xs)(k:Rows R xs As):
 ∃b o,J.B8 b o/\c.Ak b=nO/\I.le (J.never b o)/\Av (J.never b o) R z xs s.a s.c As:=by
 let⟨b,o,d,g,i,l,j⟩:=(Live.mk h.st h.row).never hlen a k;exact⟨b,o,d,AL4 hle h.st.le g d,i,j⟩
def AUK(l:AA Nm):l.flatMap Mg=l.map BQ:=WA l
def AQJ(I)(y:EB I)(hP:Pow I)(hL:Iw I):Fn 7 [] [] I (APH I) none:=by
 refine fo func7 λρ br w bm=>gG<|Cz (AIB I y hP hL 0) λqa J0 a a7=>gG<|A0 (YY J0 (y.up a) (hP.up a) (EU 0) qa a7 (AIC 0) AAT AL9) [] ?_;rintro _ ⟨ma,La,J1,rfl,U,ak⟩;have j:=a.trans U.GJ;refine gG<|Cz (AIB J1 (y.up j) (hP.up j) (hL.up j) 100) λqb J2 p a8=> ?_;have f:=j.trans p;refine gG<|A0 (YY J2 (y.up f) (hP.up f) (EU 100) qb a8 (AIC 100) AAT AL9) [] ?_;rintro _ ⟨mb,Lb,v,rfl,V,al⟩;have hd:KL J0 v La (EG<|EU 0) ma Lb (EG<|EU 100) mb:=.new (U.trans<|.of p) (ak.up p) V al;refine gg [(15,ZJ v 14 116),(18,ZJ v 17 140)]<|loop (ι:=AQ) (λx=>x.i<=120/\Told v x.J 1 9 ((GL.take x.i).map BQ) x.s/\x.s.n=x.i) (λx=>120-x.i) (AQE ma mb) 1000 (tK 116++[(6,140),(7,141),(8,142),(9,143),(10,144)]) ⟨0,v,⟨none,0,0⟩⟩ ⟨Bm _,Told.nil v 1 9,rfl⟩ ?_;rintro⟨i,J,sa,g,sc⟩ ⟨hi,Y,aq⟩ again T;simp only at hi Y aq;subst aq;by_cases bh:g<120;refine gg [(21,hT<|(g:Int)<120)]<|act (need:=[(1024,.cells ([BQ [1]].map .v) 9)]) (JI (I:=J) Be (s:=⟨sa,g,sc⟩) (x:=.s 1024 0 1 1) (m:=1) (CQ:=(GL.take g).map BQ) (news:=[BQ [1]]) Ve kR Y.row (Ez (e:=9) sP rfl<|SQ rfl) dC<|by show g+1<=16777216;omega) JH ?_;rintro h' ⟨b',c',aw,rfl,be,bf,bg,a5,a6⟩;have ar:=Y.app (AE:=aw) (news:=[BQ [1]]) rfl (SQ rfl) be bf bg a5 a6;have X:(GL.take<|g+1).map BQ=(GL.take g).map BQ++[BQ [1]]:=by
  have:GL[g]? =some [1]:=by unfold GL;rw[List.getElem?_replicate,Ac bh]
  rw[My,this,E3];rfl
 generalize J.plus b' _=K at ar⊢;refine gg [(23,sH g)] ?_;exact bk again [] ⟨g+1,K,⟨some ⟨b',0,none⟩,g+1,c'⟩⟩ ⟨by show g+1<=120;omega,by show Told v K 1 9 ((GL.take<|g+1).map BQ) _;rw[X];exact ar,rfl⟩;obtain rfl:g=120:=oG;have an:Live v J 1 9 (GL.flatMap Mg) ⟨sa,120,sc⟩:=by refine⟨Y.st,?_⟩;rw[AUK];exact Y.row
 let⟨b,o,h1,h2,h3,h4,h5⟩:=an.never (xs:=GL) (R:=NL) (show 120=120 from rfl) dC<|Rows.flat.2 rfl;have am:I.le v:=f.trans V.GJ;have ab:I.Ak b=none:=AL4 am Y.st.le h2 h1;refine Le b J o kR h1 ab ?_;have z:=hd.up h3;generalize J.never b o=K at h3 h5 z⊢;refine gg [(21,hF<|((120:Nat):Int)<120)]<|A0 (AMC K La (EG<|EU 0) ma z.ka GL sa sc (GL.flatMap Mg) h5 dC<|AfL (AID 0) AAT GL dC Afp) [] ?_;rintro _ ⟨za,Z,H,K2,rfl,s,C⟩;have M:=z.a s C;refine gG<|A0 (AMC K2 Lb (EG<|EU 100) mb M.kb GL sa sc (GL.flatMap Mg) (Av.Bf s.le h5 (S:=NL) λ_ _ h=>h) dC<|AfL (AID 100) AAT GL dC Afp) (tK 6) ?_;rintro _ ⟨zb,aa,L,K3,rfl,F,D⟩;have N:=(M.swap.a F D).swap;have d:=ANC 0;have c:=ANC 100;have af:=Ae8 d dC<|AfC GL<|AfB<|EU 0;have ag:=Ae8 c dC<|AfC GL<|AfB<|EU 100;have ao:QL (Hh (KB 0) high):=Ui d dC _;have ap:QL (Hh (KB 100) high):=Ui c dC _;have hp:=AQI;unfold KB at d c af ag ao ap hp;generalize Fe (EG<|EU 0) GL=u at*;generalize Fe (EG<|EU 100) GL=m at*;let⟨p1,⟨t,p2,p3,p4⟩,p5,⟨o,p6,p7,p8⟩,p9⟩:=hp;have r:I.le K3:=a.trans N.le;refine gG<|A0 (AJC K3 H u Z N.ka (hL.up r) (by have:=d.bf.fl;omega) ([],[]) ⟨dC,dC⟩ af) [] ?_;rintro _ ⟨⟨fa,fn,fc⟩,K4,ah,rfl⟩;have ba:fn=9:=by
  have hn:_=fn*1:=ah.row.n;have e:lN (KT<|D9 u ([],[]))=9:=by unfold KT;rw[DG];exact p1
  rw[e]at hn;omega
 subst ba;refine go func7 [] 2 kR ?_;let⟨b,o',h1,h2,h3,h4⟩:=ah.never (xs:=(D9 u FW).map Kq) (R:=Pu) r (show 9=_ by rw[DG,p1]) (by rw[DG,p1];decide)<|AM9 _;refine Le b K4 o' kR h1 h2 ?_;have O:=N.up h3;generalize K4.never b o'=K5 at h3 h4 O⊢;have G:=E2 p2;have au:=Ac8 d dC K5 H Z O.ka t (by rw[G];exact p2);rw[G]at au;refine gG<|A0 au [] ?_;rintro _ ⟨qt,K6,rfl,q,bq⟩;have ae:=O.up q;have az:=h4.up q (S:=Pu) λ_ _ h=>h;refine gG ?_;refine A0 (Ac4 K6 L m aa ae.kb (λn o ho=>(c.kk.ki.Ep n o ho).Cj) (by have:=c.bk.sl;have:=AAs (n:=120) dC;omega)) (tK 6) ?_;rintro _ ⟨ay,bi,n',m',Lg,K7,W,bb,bo,rfl⟩;have a9:=ae.up W.GJ;have a0:=az.up W.GJ (S:=Pu) λ_ _ h=>h;have ai:=WJ K7 m.Ah ay bi n' m' [1,0] (λx hx=>by simp at hx;omega) (λo ho=>by have:=(c.bk.os [1,0] o ho).q;omega) bb;have bd:Qc m.Ah [1,0]=(o,true):=by unfold Qc;rw[p6]
 rw[bd]at ai;refine gG<|A0 ai [(1,1168),(2,1169),(3,1170)] ?_;rintro _ ⟨qo,K8,rfl,k,bp⟩;have P:=a9.up k;have a1:=a0.up k (S:=Pu) λ_ _ h=>h;let⟨kind,ol,ov,bs,bj,bn,bt,bl⟩:=o;simp only at p7 p8;subst p7;subst p8;have k:=(((h3.trans q).trans W.GJ).trans k);refine gg [(54,hE (t.Aw:Int) 3),(60,hE t.v.n 1 p4)]<|A0 (AJC K8 L m aa P.kb (hL.up<|a.trans P.le) (by have:=c.bf.fl;omega) ([],[]) ⟨dC,dC⟩ ag) (tK 6) ?_;rintro _ ⟨⟨ga,gn,gc⟩,K9,R,rfl⟩;have Q:=P.up R.st.GJ;have a2:=(a1.up R.st.GJ (S:=Pu) λ_ _ h=>h).CW;have aj:lN (D9 m ([],[]))=9:=by rw[show D9 m ([],[])=D9 u ([],[])from p5.symm];exact p1
 have bc:KT (D9 m ([],[]))=((D9 m ([],[])).map Kq).flatMap λx=>[.string x]:=by
  unfold KT;generalize D9 m ([],[])=l;induction l with
  |nil=>rfl
  |cons x l ih=>rw[E4,E4,Kb,ih];rfl
 have E:=R.row;rw[bc]at E;let⟨A,B⟩:=E.Mn (V:=λx=>[Value.string x]) (λ_=>rfl) dC;rw[DG,aj]at A B;have A:gn=9:=A;subst A;have av:=Acz K9 ((D9 u ([],[])).map Kq) ((D9 m ([],[])).map Kq) fa ga fc gc _ _ a2 (B<|by unfold maxLen;decide) (by rw[DG,show(D9 u ([],[])).length=9 from p1];decide);rw[DG,DG,show(D9 u ([],[])).length=9 from p1,aj,show Tr ((D9 u ([],[])).map Kq) ((D9 m ([],[])).map Kq)=true from G5<|by rw[show D9 u ([],[])=D9 m ([],[])from p5]]at av;refine gG<|call av<|gg [(80,SF K9 78 79 (BH (-7)) (BH (-7)) nA nA true<|G5 rfl)]<|call (ZO K9)<|gG ?_;have ad:=ACb K9 H L u m Z aa Q.ka Q.kb (T6 d dC) (T6 c dC) high ALq ao ap (by have:=d.AD;omega) (by have:=c.AD;omega);rw[p9]at ad;refine A0 ad [] ?_;rintro _ ⟨ax,S,rfl⟩;exact gG<|dn [] ⟨ax,a.trans<|Q.le.trans S,rfl⟩
def AEG(i):∃j:Fin 8,EW i=EW j.1:=by rcases Jj i 8 with h|h;exact⟨⟨i,h⟩,rfl⟩;refine⟨⟨0,dC⟩,?_⟩;rw[EW];rw[DK,Jh<|by show 8<=i;exact h];rfl
def Zh(i):A4 (EW i)=EW i:=by
 let⟨j,e⟩:=AEG i;rw[e];have:∀j:Fin 8,A4 (EW j.1)=EW j.1:=by decide+kernel
 exact this j
def AKX(a b):A4 (jn (EW a)<|EW b)=jn (EW a) (EW b)/\fl (EW a) (jn (EW a)<|EW b):=by
 let⟨i,e⟩:=AEG a;let⟨j,c⟩:=AEG b;rw[e,c];have:∀i j:Fin 8,A4 (jn (EW i.1)<|EW j.1)=jn (EW i.1) (EW j.1)/\fl (EW i.1) (jn (EW i.1)<|EW j.1):=by decide+kernel
 exact this i j
def AK9:∀v∈Mb,(v=BH v.n\/(v=D1 v.l/\A4 v.l=v.l)):=by decide+kernel
def Zr(l):∀f∈(Io l).Ax,∃i,i<3/\f=H4 l i:=λf a=>by
 have a:f=H4 l 0\/f=H4 l 1\/f=H4 l 2:=by simpa[Io]using a
 rcases a with rfl|rfl|rfl;exact⟨0,dC,rfl⟩;exact⟨1,dC,rfl⟩;exact⟨2,dC,rfl⟩
def ALA(l):∀f∈(Io l).Ax,∃S,Ng (Io l) f S:=λf a=>by obtain⟨i,_,rfl⟩:=Zr l f a;let⟨S,h,_⟩:=AEZ l i<|AEX l;exact⟨S,h⟩
def Zs(l):Ra (Io l) where
 cs:=by show 16<=64;decide
 fs:=by show 0<3/\3<=16;decide
 ck:=AK9
 fk f b:=by obtain⟨i,_,rfl⟩:=Zr l f b;let⟨S,h,h1,a,d,e⟩:=AEZ l i<|AEX l;exact⟨oG,oG,⟨a,oG⟩,λo c=>(h.op o c).1⟩
def AYB(l):IQ (Io l):=⟨(by decide+kernel:∀v∈Mb,v.kind<=2),(by decide+kernel:∀v∈Mb,A4 v.l=v.l),(by decide+kernel:∀v∈Mb,v.name=[])⟩
def AYA(l):Ie (Io l) where
 cs v hv:=by
  rcases AK9 v hv with h|h;refine .inl ⟨h,?_⟩;have:∀v∈Mb,C7 v.n:=by decide+kernel
  exact this v hv;exact .inr<|.inl h.1
 ar f a:=by obtain⟨i,_,rfl⟩:=Zr l f a;let⟨S,h,h1,b,c,d⟩:=AEZ l i<|AEX l;omega
def AYG(b:Bool)(x):(if b then(0:AH)else uN<|x/4%4).toNat<=63:=by cases b;have h:x/4%4<4:=JE _ dC;generalize x/4%4=q at h;have:q=0\/q=1\/q=2\/q=3:=oG;rcases this with rfl|rfl|rfl|rfl<;>decide;show(0:AH).toNat<=63;decide
def AHx(a)(b:Bool)(i):(A4 (Ex a b i).l=(Ex a b i).l/\A4 (Ex a b i).c=(Ex a b i).c)/\fl (Ex a b i).l (Ex a b i).c/\(Ex a b i).AR.toNat<=63/\(Ex a b i).box<2/\(Ex a b i).Ao<=999/\(Ex a b i).fn<3:=by refine⟨⟨Zh _,(AKX _ _).1⟩,(AKX _ _).2,AYG _ _,?_,?_,?_⟩;show((CN a (6*i+4)%3:Nat):Int)-1<2;omega;show CN a (6*i+3)%12<=999;omega;show CN a (6*i+1)%3<3;omega
def ACx(c)(a:Bool):QF (Jo c a) (Jb c.BJ 0) (Jb c.BJ 1) (Ex c.BM a 0) (Ex c.BM a 1) (Ex c.BM a 2):=⟨rfl,rfl⟩
def Yo(c)(a:Bool):RY (Jo c a) where
 nb:=by show 2<=8;decide
 nt:=by show 0<3/\3<=8;decide
 bx b hb:=by
  have hb:b=Jb c.BJ 0\/b=Jb c.BJ 1:=by rw[(ACx c a).BJ]at hb;simpa using hb
  rcases hb with rfl|rfl<;>exact Zh _
 th b hb:=by
  have hb:∃i,b=Ex c.BM a i:=by
   rw[(ACx c a).BM]at hb;have:b=Ex c.BM a 0\/b=Ex c.BM a 1\/b=Ex c.BM a 2:=by simpa using hb
   rcases this with h|h|h;exact⟨0,h⟩;exact⟨1,h⟩;exact⟨2,h⟩
  obtain⟨i,rfl⟩:=hb;let⟨⟨f1,d⟩,e,f4,f5,f6,f7⟩:=AHx c.BM a i;refine⟨f7,λf g=> ?_,f1,d,f4,f6,f5,e⟩;have hm:f∈(Io c.Ax).Ax:=De g;obtain⟨j,_,rfl⟩:=Zr c.Ax f hm;rfl
 fs:=by show 3<=1000;decide
def AbU(a i):C7 (Jb a i).v:=by have h:CN a (2*i+1)%4<4:=JE _ dC;show C7 ((CN a (2*i+1)%4:Nat):Int);rw[C7];omega
def ARD(a)(b:Bool)(i):C7 (Ex a b i).n:=by have h:CN a (6*i+5)%4<4:=JE _ dC;show C7 ((CN a (6*i+5)%4:Nat):Int);rw[C7];omega
def AW9{k n}(a:BF n k)(e:n<=1000)(I L m)(c:CZ I L k m):Fn 13 [.p 1 0] (CL m k.im k.AD) I (AGz I m k.im k.AD 8 (lN k.B5)<|k.B5.flatMap E9) nO:=by
 have d:=a.ll;have b:m.lk.n=lN k.B5:=by have:=c.lk.n;rw[HB (n:=8) λ_=>rfl]at this;omega
 have h:=AW8 I m k.im k.AD (k.B5.flatMap E9) oG c.lk;rw[b]at h;exact h
def APy(I:AB):zP:=λ_ h=>∃J,I.le J/\h= {r:=.v tV,J:=J}
def AVa:∀a∈Kt,CB a:=by decide+kernel
def AVd(l n):∀a∈H0 l n,CB a:=λa hid=>by obtain⟨x,_,rfl⟩:=BI.1 hid;have h:x.toNat%8<lN Kt:=JE _ dC;rw[DK,BS h];exact AVa _<|DR h
def AVc(l n):lN (H0 l n)<=n:=by rw[H0];rw[DG,Cu];omega
def AUz(I:AB)(a b K j:Nat)(c:j<8):Hint:=.BZ (.indexAddr 67 (.tmp a)<|.tmp b) [(a,.s K 0 8 8),(b,.v<|.int .u8<|Int.ofNat j)] [] I (.p K<|0+j*2)<|AKz Be (L:=Bt) (t:=67) (a:=a) (b:=b) (k:=K) (off:=0) (n:=8) (c:=8) (i:=j) (e:=42) rfl rfl c
def AU0(I:AB)(x a:Nat)(b:a<256):Hint:=.BZ (.binOp .rem 5 (.tmp x) (.const<|.int .u8 8) 5) [(x,.v<|.int .u8 (a:Int))] [] I (.v<|.int .u8 ((a%8:Nat):Int))<|AK3 I x a b
def C8.tx{J}{xs}{s}(h:C8 J 1 9 (xs.map Value.string) s)(hm:xs.length<=1000000):s.n=xs.length/\Av J.CW Pu 1 xs s.a s.c (xs.flatMap λx=>[Value.string x]):=by
 have e: ∀l:List ByteArray,l.map Value.string=l.flatMap λx=>[Value.string x]:=λl=>by
  induction l with
  |nil=>rfl
  |cons x l b=>rw[List.map_cons,List.flatMap_cons,b];rfl
 rw[e]at h;let⟨h1,a⟩:=h.Mn (V:=λx=>[Value.string x]) (λ_=>rfl) dC;exact⟨h1,a<|by rw[maxLen];omega⟩
def AgA(a):Tr a a:=G5 rfl
def AgE(l):KT l=(l.map Kq).map Value.string:=by rw[KT];rw[Gk];rfl
def Agf(l):Aep l=(l.map PW).map Value.string:=by rw[Aep];rw[Gk];rfl
def Age{t}(b:StW t):(PW t).size<=12200:=by
 have f:=Ae0 b.id.1;have i:=b.id.2;have g:=Af0 t.Aw;have h:=Ae1 t.g.Ad;have c:(⟨#[32]⟩:Ce).size=1:=rfl;have e:(Aeo t).size<=6007:=by rw[Aeo];simp[AGK,c];omega
 rw[PW];split;have d:=b.v oG;have j:=Ae6 t.v d.2.1 d.2.2;simp[AGK,c];omega;omega
def AgD{f}(h:X5 f):(Kq f).size<=12300:=by have c:=Lib.itoa_length_le f.AD oG (by have:=h.AD;omega);have d:=Ae0 h.id.1;have e:=Ae1 f.l;have g:=Ae6 f.v h.n h.nm;have i:=h.id.2;have j:=XU<|Lib.itoa f.AD;have b:(⟨#[32]⟩:Ce).size=1:=rfl;rw[Kq];simp[AGK,b];omega
def Afk{l B}(h:∀x∈l,x.size<=B):lN (H1 l)<=lN l*(B+1):=by
 induction l with
 |nil=>exact Bm _
 |cons x l f=>
  have g:=h x DT;have i:=f λy e=>h y<|DY _ e;have b:H1 (x::l)=(x.data.toList++[10])++H1 l:=rfl;have c:lN x.data.toList=x.size:=rfl;have d:lN (x::l)*(B+1)=lN l*(B+1)+(B+1):=AfR _ _;rw[b,CK,CK,d,c];show x.size+1+_<=_;omega
def trL(k:Ap)(l:Lz.AT):AA AH:=PP [(Hh k l).AC.map PW,(D9 k l).map Kq]
def trV(k:Ap)(l:Lz.AT):AF:=vS<|AJ<|trL k l
structure TrI(I:AB)(R:AA Nat)(J:AB)(L:AA Rw)(k:Ap)(m:CH)(a:AA AF)(ts:Bi):Prop where
 st:Cb I R J (CM L m++(Bb ts.a).toList)
 ZX:CZ J L k m
 row:C8 J 1 9 a ts
 dj:∀x∈(Bb ts.a).toList,x∉CM L m
variable{R:List Nat}{a:List Value}{ts:Bi}
def TrI.start(h:CZ I L k m):TrI I (CM L m) I L k m [] ⟨nO,0,0⟩:=⟨(Cb.refl I _).cast rfl<|by simp[Bb],h,⟨rfl,nA,.inl ⟨rfl,rfl,rfl⟩⟩,λx c=>by simp[Bb]at c⟩
def TrI.up(h:TrI I R J L k m a ts)(hle:J.le K):TrI I R K L k m a ts:=⟨h.st.trans<|.of hle,h.ZX.up hle,h.row.A2 λb _ y c=>hle.Ak b y c,h.dj⟩
def TrI.pick(h:TrI I R J L k m a ts)(hs:Cb J (CM L m) K<|CM G V)(hk:CZ K G k2 V):TrI I R K G k2 V a ts where
 st:=h.st.trans ⟨hs.le,λx y c e=>hs.A2 x y c λq=>e<|GC _ q,λx c=>by rcases Bc.1 c with q|q;exact(hs.CE x q).imp_left<|GC _;exact .inl<|HZ _ q⟩
 ZX:=hk
 row:=h.row.A2 λb hb y d=>hs.A2 b y d<|h.dj b hb
 dj x c d:=by rcases hs.CE x d with q|q;exact h.dj x c q;let⟨y,d⟩:=h.row.B8 x c;exact q y d
def TrI.app{b c AE v}(h:TrI I R J L k m a ts)(r:v.oneCell')(j:lN (a++[v])+lN AE=c*1)(l:ts.n+1<=c)(n:c<=maxLen)(f:J b=nO)(g:Bb ts.a=sM b\/J.free b):
 TrI I R (J.plus b<|.cells (a++[v]++AE).toArray 9 (0,0)) L k m (a++[v]) ⟨sM ⟨b,0,nO⟩,ts.n+1,c⟩:=by
 have o:=Oj (P1:=CM L m) (P2:=[]) (o:=.cells (a++[v]++AE).toArray 9 (0,0)) f g;rw[Hn,Hn]at o;have i:b∉CM L m:=by rcases g with q|q;exact h.dj b (by rw[q];simp);intro s;let⟨y,p⟩:=h.ZX.hasAll b s;have:=p.Ak;rw[q.2]at this;cases this
 refine⟨h.st.trans<|o.cast rfl<|by simp[Bb],h.ZX.A2 o.le λx d y p=>K0 p λe=>i<|e▸d,⟨?_,?_,.inr ⟨b,AE,rfl,Li f,j,l,n⟩⟩,λx d=> ?_⟩;have:=h.row.n;rw[CK,O3];simp only;omega;intro x d;rcases Bc.1 d with d|d;exact h.row.one x d;rwa[A9.1 d];have:x=b:=by simpa[Bb]using d
 rwa[this]
noncomputable def Aem:Ae Bw:=(Aes 3<|MP f28).getD #[]
def Aet(m:CH)(im:A6)(AD:Nat)(l:Lz.AT)(ts:Bi)(J:AB):Hd where
 Cd:=[(3,.p 7 0),(5,.p 8 0),(6,.v zS),(7,.p 6 0)]
 Cc:=CL m im AD++[(6,.cells [.v<|.slice ts.a ts.n ts.c] 38),(7,.cells [.p 1 0] 27),(8,Qs l)]
 J:=J
def AfU(I:AB)(R:AA Nat)(L:AA Rw)(k:Ap)(m:CH)(l:Lz.AT)(a:AA AF):zP:=λ_ h=>∃ts J,h= {r:=.v zS,AV:=(Aet m k.im k.AD l ts J).Cc,J:=J}/\TrI I R J L k m (a++[trV k l]) ts
def Agx{l n k}(c:PL l n k)(A:n<=200)(b:Aei k)(e:B9 l){I R J L m a ts}(h:TrI I R J L k m a ts)(M:Iw J)(hW:Aej J)(B:ts.n<=1000)(X o)(N:100<=o)(W T):
 At 28 f28 f28.ntmps J W X [1,2,3,4,5,6,7,8] (Ends [1,2,3,4,5,6,7,8] J X o W (AfU I R L k m l a) nO)
  ⟨⟨Pr (Aet m k.im k.AD l ts J).Cd T,JP (Aet m k.im k.AD l ts J).Cc,J⟩,[],sM ⟨⟨Aem,100,tT⟩,eager Aem (Aem.size+1)<|lR Aem.size,[]⟩,100+8*Aem.size⟩:=by
 let⟨ta,D,tc⟩:=ts;simp only at B;have v:=c.bf.fl;have ab:=(AfH c).bk.tl;refine gG<|A0 (Agh c A e J L m h.ZX M hW) [] ?_;rintro _ ⟨⟨sa,sn,sc⟩,Y,q,rfl⟩;have g:=h.up q.st.GJ;refine gG<|A0 (AJC Y L k m g.ZX (M.up q.st.GJ) oG l e<|Ae8 c A b) [] ?_;rintro _ ⟨⟨fa,fn,fc⟩,p,r,rfl⟩;have i:=g.up r.st.GJ;have E:=(q.up r.st.GJ).row;have F:=r.row;rw[Agf]at E;rw[AgE]at F;have aa:lN (D9 k l)<=n:=Ch (RQ _ _) v;let⟨P,S⟩:=E.tx (by rw[DG];omega);let⟨Q,U⟩:=F.tx (by rw[DG];omega);simp only at P Q S U;subst P;subst Q;have hlen:lN (trL k l)<=15000000:=by
  have e1:lN (H1<|(Hh k l).AC.map PW)<=_:=Afk (B:=12200) λx C=>by obtain⟨t,ht,rfl⟩:=BI.1 C;exact Age<|Aft (AfH c) ht
  have e2:lN (H1<|(D9 k l).map Kq)<=_:=Afk (B:=12300) λx C=>by obtain⟨f,hf,rfl⟩:=BI.1 C;exact AgD<|Ae8 c A b f (Ho.1 hf).1
  have e3:trL k l=H1 ((Hh k l).AC.map PW)++(H1 ((D9 k l).map Kq)++[]):=rfl;rw[DG]at e1 e2;rw[e3,CK,CK,KJ];omega
 refine gG<|IG (AgU p _ _ sa fa sc fc _ _ S U (by rw[DG];omega) (by rw[DG];omega) hlen) [(1,156)] ?_;refine gG<|act (need:=[(172,.cells ([trV k l].map .v) 9)]) (JI (I:=p) Be (s:=⟨ta,D,tc⟩) (x:=.s 172 0 1 1) (m:=1) (CQ:=a) (news:=[trV k l]) Ve kR i.row (Ez (e:=9) sP rfl<|SQ rfl) dC<|by show D+1<=16777216;omega) JH ?_;rintro h' ⟨H,c',O,rfl,w,y,z,s,u⟩;have j:=i.app (v:=trV k l) rfl w y z s u;generalize p.plus H _=Z at j⊢;exact gG<|dn [] ⟨⟨sM ⟨H,0,nO⟩,D+1,c'⟩,Z,rfl,j⟩
end
end Go.Proofs.YtomehhepbeiinaaGreatDoor
