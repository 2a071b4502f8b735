/- Part 6 of the proof of TopLeaks. No conditions. -/
import Derived.Test.YtomehhepbeiinaaGreatDoorZ05
import Derived.Test.YtomehhepbeiinaaGreatDoorQCut
import Derived.Test.YtomehhepbeiinaaGreatDoorRows
import Derived.ProofKit
import Derived.LaidMore
import Derived.OpenShut
import Derived.Stop.Joined
import Derived.Lay
import Derived.Lib.LaidTab
import Derived.Lib.SmallJoins
import Derived.Lib.ItoaLen
set_option maxRecDepth 100000
set_option maxHeartbeats 4000000
set_option linter.all false
namespace Go.Proofs.YtomehhepbeiinaaGreatDoor
open Go.Proofs.Tryz
section
open Go.AX Lz
structure EX where
 i:Nat
 J:AB
 L:AA Rw
 m:BJ
 k:Ab
def Oo(s:Aq)(fv:SV)(x:EX):Hd where
 By:=[(1,fv),(6,s.sv),(7,.v (.int .i64 (s.n:Int))),(8,.v (.int .i64 (x.i:Int)))]
 Bu:=BN x.m x.k.im x.k.now
 J:=x.J
structure EP{a:Type}(I:AB)(P:AA Nat)(xs:AA a)(f:Ab->a->Ab)(b:Ab)(x:EX):Prop where
 i:x.i<=xs.length
 st:Bq I P x.J (Bb x.L x.m)
 UG:Bl x.J x.L x.k x.m
 k:x.k=(xs.take x.i).foldl f b
def AKT:Gq 53 20:=by refine row_of ((prog.underlying 53).getD Af) ((prog.info? 53).getD Af) ?_ ?_ ?_ ?_<;>kernel_rfl
def APu:GZ 121 53 20:=⟨kR,AKT.hi⟩
def APo(I)(L)(k)(m)(xs)(s)(f)(hlen:xs.length<=1000000)(hs:HG I (OC I) 20 xs s)(v:Bl I L k m)
 (hF: ∀i x k',xs[i]? =some x->k'=(xs.take i).foldl f k->∀J L' m' row,I.Cd J->Bl J L' k' m'->(OC J) x row->Fn 49 [.p 1 0,.g (row.map .v)] (BN m' k'.im k'.now) J (HH J (Bb L' m') (.t []) (f k' x)) none):
 Fn 48 [s.sv,.fn (.func 49) [.p 1 0] []] (BN m k.im k.now) I (HH I (Bb L m) (.t []) (xs.foldl f k)) none:=by
 let⟨sa,B,sc⟩:=s;let⟨u,cells,d⟩:=hs;simp only at u d;subst u;refine Bh Tryz.func48 (Jy rfl) λρ key w t=>gG<|loop (ι:=EX) (EP I (Bb L m) xs f k) (λx=>xs.length-x.i) (Oo ⟨sa,xs.length,sc⟩ (.fn (.func 49) [.p 1 0] [])) 300 [] ⟨0,I,L,m,k⟩ ⟨BS _,.refl _ _,v,rfl⟩ kR kR ?_;rintro⟨i,J,r,m1,k1⟩ ⟨A,p2,p3,p4⟩ again T;simp only at A p2 p3 p4;by_cases c:i<xs.length;have j:xs[i]? =some xs[i]:=A9 c;generalize xs[i]=x at j;have g:Aj J (OC J) 20 xs sa sc cells:=Aj.A8 p2.le d (λx l h=>AC9 p2.le x l h);obtain⟨b,off,arr,e,fr,row,rfl,q2,q3,q4,q5⟩:=g.cell AYW j;have a:=hF i x k1 j p4 J r m1 row p2.le p3 q3;let⟨q,q3,_⟩:=q3;subst q3;refine gg [(9,hT ((i:Int)<(xs.length:Int)) oG),(10,BM J APu b off xs.length sc i c),(11,DR J AKT (off+i*20) (DV x q) rfl q2 q5)]<|Ag a [] [1,2,3,4,5] kR LX λy z=> ?_;obtain⟨m2,L2,p,rfl,o,n⟩:=z;refine gg [(15,hW ((i:Int)+1) ((i+1:Nat):Int) oG oG)] ?_;refine back [] (Oo ⟨some ⟨b,off,none⟩,xs.length,sc⟩ (.fn (.func 49) [.p 1 0] []) ⟨i+1,p,L2,m2,f k1 x⟩) 300 kR kR kR λT'=>again ⟨i+1,p,L2,m2,f k1 x⟩ ⟨by show i+1<=_;omega,p2.trans o,n,?_⟩ (by show xs.length-(i+1)<xs.length-i;omega) T';show f k1 x=(xs.take (i+1)).foldl f k;rw[NY,j,OO,<-p4];rfl;have hi:i=xs.length:=oG;subst hi;have hu:k1=xs.foldl f k:=by rw[p4,HB]
 rw[<-hu];exact gg [(9,Go.Proofs.YtomehhepbeiinaaGreatDoor.hF ((xs.length:Int)<(xs.length:Int)) oG)]<|dn [] ⟨m1,r,J,rfl,p2,p3⟩
def AKQ:Gq 135 7:=by refine row_of ((prog.underlying 135).getD Af) ((prog.info? 135).getD Af) ?_ ?_ ?_ ?_<;>kernel_rfl
def APv:GZ 122 135 7:=⟨kR,AKQ.hi⟩
def APp(I)(L)(k)(m)(xs)(s)(id)(f)(hlen:xs.length<=1000000)(hs:HG I Ql 7 xs s)(t:Bl I L k m)
 (hF: ∀i x k',xs[i]? =some x->k'=(xs.take i).foldl f k->∀J L' m' row,I.Cd J->Bl J L' k' m'->Ql x row->Fn 51 [.g [.p 1 0,.v (.string (AR id))],.g (row.map .v)] (BN m' k'.im k'.now) J (HH J (Bb L' m') (.t []) (f k' x)) none):
 Fn 50 [s.sv,.fn (.func 51) [.g [.p 1 0,.v (.string (AR id))]] []] (BN m k.im k.now) I (HH I (Bb L m) (.t []) (xs.foldl f k)) none:=by
 let⟨sa,z,sc⟩:=s;let⟨r,cells,d⟩:=hs;simp only at r d;subst r;refine Bh Tryz.func50 (Jy rfl) λρ key w q=>gG<|loop (ι:=EX) (EP I (Bb L m) xs f k) (λx=>xs.length-x.i) (Oo ⟨sa,xs.length,sc⟩ (.fn (.func 51) [.g [.p 1 0,.v (.string (AR id))]] [])) 300 [] ⟨0,I,L,m,k⟩ ⟨BS _,.refl _ _,t,rfl⟩ kR kR ?_;rintro⟨i,J,p,m1,k1⟩ ⟨v,p2,p3,p4⟩ again T;simp only at v p2 p3 p4;by_cases c:i<xs.length;have j:xs[i]? =some xs[i]:=A9 c;generalize xs[i]=x at j;have g:Aj J Ql 7 xs sa sc cells:=Aj.A8 p2.le d (λ_ _ h=>h);obtain⟨b,off,arr,e,fr,row,rfl,q2,q3,q4,q5⟩:=g.cell AVB j;have a:=hF i x k1 j p4 J p m1 row p2.le p3 q3;subst q3;refine gg [(9,hT ((i:Int)<(xs.length:Int)) oG),(10,BM J APv b off xs.length sc i c),(11,DR J AKQ (off+i*7) (Uj x) rfl q2 q5)]<|Ag a [] [1,2,3,4,5] kR LX λy u=> ?_;obtain⟨m2,L2,o,rfl,n,l⟩:=u;refine gg [(15,hW ((i:Int)+1) ((i+1:Nat):Int) oG oG)] ?_;refine back [] (Oo ⟨some ⟨b,off,none⟩,xs.length,sc⟩ (.fn (.func 51) [.g [.p 1 0,.v (.string (AR id))]] []) ⟨i+1,o,L2,m2,f k1 x⟩) 300 kR kR kR λT'=>again ⟨i+1,o,L2,m2,f k1 x⟩ ⟨by show i+1<=_;omega,p2.trans n,l,?_⟩ (by show xs.length-(i+1)<xs.length-i;omega) T';show f k1 x=(xs.take (i+1)).foldl f k;rw[NY,j,OO,<-p4];rfl;have hi:i=xs.length:=oG;subst hi;have hu:k1=xs.foldl f k:=by rw[p4,HB]
 rw[<-hu];exact gg [(9,Go.Proofs.YtomehhepbeiinaaGreatDoor.hF ((xs.length:Int)<(xs.length:Int)) oG)]<|dn [] ⟨m1,p,J,rfl,p2,p3⟩
def AKU:Gq 61 6:=by refine row_of ((prog.underlying 61).getD Af) ((prog.info? 61).getD Af) ?_ ?_ ?_ ?_<;>kernel_rfl
def APw:GZ 123 61 6:=⟨kR,AKU.hi⟩
def APq(I)(L)(k)(m)(xs)(s)(id)(f)(hlen:xs.length<=1000000)(hs:HG I Rn 6 xs s)(t:Bl I L k m)
 (hF: ∀i x k',xs[i]? =some x->k'=(xs.take i).foldl f k->∀J L' m' row,I.Cd J->Bl J L' k' m'->Rn x row->Fn 53 [.g [.p 1 0,.v (.string (AR id))],.g (row.map .v)] (BN m' k'.im k'.now) J (HH J (Bb L' m') (.t []) (f k' x)) none):
 Fn 52 [s.sv,.fn (.func 53) [.g [.p 1 0,.v (.string (AR id))]] []] (BN m k.im k.now) I (HH I (Bb L m) (.t []) (xs.foldl f k)) none:=by
 let⟨sa,z,sc⟩:=s;let⟨r,cells,d⟩:=hs;simp only at r d;subst r;refine Bh Tryz.func52 (Jy rfl) λρ key w q=>gG<|loop (ι:=EX) (EP I (Bb L m) xs f k) (λx=>xs.length-x.i) (Oo ⟨sa,xs.length,sc⟩ (.fn (.func 53) [.g [.p 1 0,.v (.string (AR id))]] [])) 300 [] ⟨0,I,L,m,k⟩ ⟨BS _,.refl _ _,t,rfl⟩ kR kR ?_;rintro⟨i,J,p,m1,k1⟩ ⟨v,p2,p3,p4⟩ again T;simp only at v p2 p3 p4;by_cases c:i<xs.length;have j:xs[i]? =some xs[i]:=A9 c;generalize xs[i]=x at j;have g:Aj J Rn 6 xs sa sc cells:=Aj.A8 p2.le d (λ_ _ h=>h);obtain⟨b,off,arr,e,fr,row,rfl,q2,q3,q4,q5⟩:=g.cell AP0 j;have a:=hF i x k1 j p4 J p m1 row p2.le p3 q3;subst q3;refine gg [(9,hT ((i:Int)<(xs.length:Int)) oG),(10,BM J APw b off xs.length sc i c),(11,DR J AKU (off+i*6) (QK x) rfl q2 q5)]<|Ag a [] [1,2,3,4,5] kR LX λy u=> ?_;obtain⟨m2,L2,o,rfl,n,l⟩:=u;refine gg [(15,hW ((i:Int)+1) ((i+1:Nat):Int) oG oG)] ?_;refine back [] (Oo ⟨some ⟨b,off,none⟩,xs.length,sc⟩ (.fn (.func 53) [.g [.p 1 0,.v (.string (AR id))]] []) ⟨i+1,o,L2,m2,f k1 x⟩) 300 kR kR kR λT'=>again ⟨i+1,o,L2,m2,f k1 x⟩ ⟨by show i+1<=_;omega,p2.trans n,l,?_⟩ (by show xs.length-(i+1)<xs.length-i;omega) T';show f k1 x=(xs.take (i+1)).foldl f k;rw[NY,j,OO,<-p4];rfl;have hi:i=xs.length:=oG;subst hi;have hu:k1=xs.foldl f k:=by rw[p4,HB]
 rw[<-hu];exact gg [(9,Go.Proofs.YtomehhepbeiinaaGreatDoor.hF ((xs.length:Int)<(xs.length:Int)) oG)]<|dn [] ⟨m1,p,J,rfl,p2,p3⟩
def AKR:Gq 141 2:=by refine row_of ((prog.underlying 141).getD Af) ((prog.info? 141).getD Af) ?_ ?_ ?_ ?_<;>kernel_rfl
def APx:GZ 124 141 2:=⟨kR,AKR.hi⟩
def APr(I)(L)(k)(m)(xs)(s)(f)(hlen:xs.length<=1000000)(hs:HG I (Md I) 2 xs s)(u:Bl I L k m)
 (hF: ∀i x k',xs[i]? =some x->k'=(xs.take i).foldl f k->∀J L' m' row,I.Cd J->Bl J L' k' m'->(Md J) x row->Fn 55 [.p 1 0,.g (row.map .v)] (BN m' k'.im k'.now) J (HH J (Bb L' m') (.t []) (f k' x)) none):
 Fn 54 [s.sv,.fn (.func 55) [.p 1 0] []] (BN m k.im k.now) I (HH I (Bb L m) (.t []) (xs.foldl f k)) none:=by
 let⟨sa,B,sc⟩:=s;let⟨t,cells,d⟩:=hs;simp only at t d;subst t;refine Bh Tryz.func54 (Jy rfl) λρ key w r=>gG<|loop (ι:=EX) (EP I (Bb L m) xs f k) (λx=>xs.length-x.i) (Oo ⟨sa,xs.length,sc⟩ (.fn (.func 55) [.p 1 0] [])) 300 [] ⟨0,I,L,m,k⟩ ⟨BS _,.refl _ _,u,rfl⟩ kR kR ?_;rintro⟨i,J,q,m1,k1⟩ ⟨z,p2,p3,p4⟩ again T;simp only at z p2 p3 p4;by_cases c:i<xs.length;have j:xs[i]? =some xs[i]:=A9 c;generalize xs[i]=x at j;have g:Aj J (Md J) 2 xs sa sc cells:=Aj.A8 p2.le d (λx l h=>Yd p2.le x l h);obtain⟨b,off,arr,e,fr,row,rfl,q2,q3,q4,q5⟩:=g.cell AZz j;have a:=hF i x k1 j p4 J q m1 row p2.le p3 q3;let⟨va,A,C,q3,_⟩:=q3;subst q3;refine gg [(9,hT ((i:Int)<(xs.length:Int)) oG),(10,BM J APx b off xs.length sc i c),(11,DR J AKR (off+i*2) [.string (AR x.1),.slice va x.2.length A] rfl q2 q5)]<|Ag a [] [1,2,3,4,5] kR LX λy v=> ?_;obtain⟨m2,L2,p,rfl,o,n⟩:=v;refine gg [(15,hW ((i:Int)+1) ((i+1:Nat):Int) oG oG)] ?_;refine back [] (Oo ⟨some ⟨b,off,none⟩,xs.length,sc⟩ (.fn (.func 55) [.p 1 0] []) ⟨i+1,p,L2,m2,f k1 x⟩) 300 kR kR kR λT'=>again ⟨i+1,p,L2,m2,f k1 x⟩ ⟨by show i+1<=_;omega,p2.trans o,n,?_⟩ (by show xs.length-(i+1)<xs.length-i;omega) T';show f k1 x=(xs.take (i+1)).foldl f k;rw[NY,j,OO,<-p4];rfl;have hi:i=xs.length:=oG;subst hi;have hu:k1=xs.foldl f k:=by rw[p4,HB]
 rw[<-hu];exact gg [(9,Go.Proofs.YtomehhepbeiinaaGreatDoor.hF ((xs.length:Int)<(xs.length:Int)) oG)]<|dn [] ⟨m1,q,J,rfl,p2,p3⟩
def AEn:FE prog lay 105 154 9:=⟨⟨_,rfl⟩,⟨_,_,rfl,rfl⟩,kR⟩
def Wg(f):∀v∈Dn f,v.oneCell':=by intro v a;simp[Dn,Au]at a;rcases a with rfl|rfl|rfl|rfl|rfl|rfl|rfl|rfl|rfl<;>rfl
def AIZ(x):∀v∈FM x,v.oneCell':=by intro v a;simp[FM,QK]at a;rcases a with rfl|rfl|rfl|rfl|rfl|rfl|rfl|rfl<;>rfl
def F6{b:Type}{f:b->List Value}{n:Nat}(a: ∀x,(f x).length=n): ∀l:List b,(l.flatMap f).length=l.length*n
 |[]=>sP
 |x::l=>by rw[List.flatMap_cons,List.length_append,F6 a l,a,List.length_cons,Nat.add_mul];omega
def AQI{I:AB}{l:List F0}{s:Aq}(h:CE I 9 154 (l.flatMap Dn) s):s.n=l.length:=by have:=h.n;rw[F6 (n:=9) (λ_=>rfl)]at this;omega
def ATS{I:AB}{l:List Lk}{s:Aq}(h:CE I 8 63 (l.flatMap FM) s):s.n=l.length:=by have:=h.n;rw[F6 (n:=8) (λ_=>rfl)]at this;omega
def AJk{J:AB}{A B:List Nat}{a:Option Nat}{b:Nat}(d:(A++(a.toList++B)).Nodup)(g: ∀x∈A++B,∃y,J.has x y)(f:a=some b\/J.free b): ∀x∈A++B,x≠b:=λx c e=>by subst e;rcases f with q|q;rw[q,List.nodup_append]at d;obtain⟨_,q2,q3⟩:=d;rcases List.mem_append.1 c with c|c;exact q3 x c x sP rfl;exact(List.nodup_cons.1 q2).1 c;obtain⟨y,h⟩:=g x c;have:=h.own;rw[q.2]at this;cases this
def ASk(I)(L)(k:Ab)(m)(id)(x:AV×Val)(e:Bl I L k m)(hl:k.facts.length<=900000):
 Fn 51 [.g [.p 1 0,.v (.string (AR id))],.g ((Uj x).map .v)] (BN m k.im k.now) I (HH I (Bb L m) (.t []) {k with facts:=k.facts++[⟨k.now,id,x.1,x.2⟩]}) none:=by
 have G:=AQI e.CQ;have K:=e.hasAll;have D:=e.nd;obtain⟨ip,es,n,BH,⟨fa,fn,fc⟩,lk,sm⟩:=m;simp only at G;subst G;have g:=e.CQ;refine Bh Tryz.func51 (Jy rfl) λρ key w F=> ?_;refine gG<|act (need:=[(268,.cells ((Dn ⟨k.now,id,x.1,x.2⟩).map .v) 154)]) [] kR (Im (I:=I) A6 (s:=⟨fa,k.facts.length,fc⟩) (x:=.s 268 0 1 1) (m:=1) (olds:=k.facts.flatMap Dn) (news:=Dn ⟨k.now,id,x.1,x.2⟩) AEn kR g (D2 (e:=154) sP rfl (Wg _)) dC (by show k.facts.length+1<=16777216;omega)) (λh' M kb u=>by obtain⟨_,_,_,rfl,_⟩:=M;cases u) Il ?_
 rintro h' ⟨b,c,AC,rfl,A,B,C,o,j⟩;refine gG ?_;have H:L.map (λr:Rw=>r.b)++((A7 BH.a).toList++((A7 fa).toList++(A7 lk.a).toList))=(L.map (λr:Rw=>r.b)++(A7 BH.a).toList)++((A7 fa).toList++(A7 lk.a).toList):=by rw[List.append_assoc]
 have i:((L.map (λr:Rw=>r.b)++(A7 BH.a).toList)++((A7 fa).toList++(A7 lk.a).toList)).Nodup:=by rw[<-H];exact D
 have l:=AJk (J:=I) i (λy f=>K y (by unfold Bb;simp only[List.mem_append]at f⊢;rcases f with(h|h)|h<;>simp[h])) j;have d: ∀y∈(L.map (λr:Rw=>r.b)++(A7 BH.a).toList)++(A7 lk.a).toList,∀z,I.has y z->(I.plus b (.cells (k.facts.flatMap Dn++Dn ⟨k.now,id,x.1,x.2⟩++AC).toArray 154 (0,0))).has y z:=λy f z O=>MU O (l y f);have a:I.Cd (I.plus b (.cells (k.facts.flatMap Dn++Dn ⟨k.now,id,x.1,x.2⟩++AC).toArray 154 (0,0))):=λ_ _ h=>h;have t:(k.facts++[(⟨k.now,id,x.1,x.2⟩:F0)]).flatMap Dn=k.facts.flatMap Dn++Dn ⟨k.now,id,x.1,x.2⟩:=by rw[List.flatMap_append];simp
 refine dn [] ⟨_,L,_,rfl,?_,?_⟩ (h:={r:=.t [],upd:=BN ⟨ip,es,n,BH,⟨some ⟨b,0,none⟩,k.facts.length+1,c⟩,lk,sm⟩ k.im k.now,J:=I.plus b (.cells (k.facts.flatMap Dn++Dn ⟨k.now,id,x.1,x.2⟩++AC).toArray 154 (0,0))});exact(NF (P1:=L.map (λr:Rw=>r.b)++(A7 BH.a).toList) (P2:=(A7 lk.a).toList) (o:=.cells (k.facts.flatMap Dn++Dn ⟨k.now,id,x.1,x.2⟩++AC).toArray 154 (0,0)) o j).cast (by simp[Bb]) (by simp[Bb,A7]);have N:CE (I.plus b (.cells (k.facts.flatMap Dn++Dn ⟨k.now,id,x.1,x.2⟩++AC).toArray 154 (0,0))) 9 154 ((k.facts++[(⟨k.now,id,x.1,x.2⟩:F0)]).flatMap Dn) ⟨some ⟨b,0,none⟩,k.facts.length+1,c⟩:=by rw[t];refine⟨?_,λv s=> ?_,.inr ⟨b,AC,rfl,MS o,A,B,C⟩⟩;rw[List.length_append,F6 (n:=9) (λ_=>rfl)];show _+9=_;simp only;omega;rcases List.mem_append.1 s with s|s;exact g.one v s;exact Wg _ v s
 have p:(Bb L ⟨ip,es,n,BH,⟨some ⟨b,0,none⟩,k.facts.length+1,c⟩,lk,sm⟩).Nodup:=by
  have:=AB8 (a:=A7 fa) (b:=b) i (by rcases j with q|q;exact .inl q;exact .inr ⟨λE=>l b (List.mem_append_left _ E) rfl,λE=>l b (List.mem_append_right _ E) rfl⟩)
  rw[List.append_assoc]at this;exact this
 exact{tab:=DK.A8 a e.tab,pow:=Pow.A8 a e.pow,img:=D3.A8 a e.img,tm:=DO.A8 a e.tm,Bm:=DJ.A8 a e.Bm,Cq:=e.Cq.keep λy f=>d y (by simp only[List.mem_append];exact .inl (.inl f)),BH:=e.BH.keep λy f=>d y (by simp only[List.mem_append];exact .inl (.inr f)),CQ:=N,lk:=e.lk.keep λy f=>d y (by simp only[List.mem_append];exact .inr f),nd:=p}
def ASh(I)(L)(k:Ab)(m)(id)(x)(e:Bl I L k m)(hl:k.BQ.length<=900000):
 Fn 53 [.g [.p 1 0,.v (.string (AR id))],.g ((QK x).map .v)] (BN m k.im k.now) I (HH I (Bb L m) (.t []) {k with BQ:=k.BQ++[⟨k.now,id,x⟩]}) none:=by
 have G:=ATS e.lk;have K:=e.hasAll;have D:=e.nd;obtain⟨ip,es,n,BH,CQ,⟨fa,fn,fc⟩,sm⟩:=m;simp only at G;subst G;have o:=e.lk;refine Bh Tryz.func53 (Jy rfl) λρ key w F=> ?_;refine gG<|act (need:=[(244,.cells ((FM ⟨k.now,id,x⟩).map .v) 63)]) [] kR (Im (I:=I) A6 (s:=⟨fa,k.BQ.length,fc⟩) (x:=.s 244 0 1 1) (m:=1) (olds:=k.BQ.flatMap FM) (news:=FM ⟨k.now,id,x⟩) AEt kR o (D2 (e:=63) sP rfl (AIZ _)) dC (by show k.BQ.length+1<=16777216;omega)) (λh' M kb u=>by obtain⟨_,_,_,rfl,_⟩:=M;cases u) Il ?_
 rintro h' ⟨b,c,AC,rfl,A,B,C,l,i⟩;refine gG ?_;have H:L.map (λr:Rw=>r.b)++((A7 BH.a).toList++((A7 CQ.a).toList++(A7 fa).toList))=(L.map (λr:Rw=>r.b)++((A7 BH.a).toList++(A7 CQ.a).toList))++((A7 fa).toList++[]):=by simp[List.append_assoc]
 have g:((L.map (λr:Rw=>r.b)++((A7 BH.a).toList++(A7 CQ.a).toList))++((A7 fa).toList++[])).Nodup:=by rw[<-H];exact D
 have j:=AJk (J:=I) g (λy f=>K y (by unfold Bb;simp only[List.mem_append,List.not_mem_nil,_root_.or_false]at f⊢;rcases f with h|h|h<;>simp[h])) i;have d: ∀y∈(L.map (λr:Rw=>r.b)++((A7 BH.a).toList++(A7 CQ.a).toList))++[],∀z,I.has y z->(I.plus b (.cells (k.BQ.flatMap FM++FM ⟨k.now,id,x⟩++AC).toArray 63 (0,0))).has y z:=λy f z O=>MU O (j y f);have a:I.Cd (I.plus b (.cells (k.BQ.flatMap FM++FM ⟨k.now,id,x⟩++AC).toArray 63 (0,0))):=λ_ _ h=>h;have t:(k.BQ++[(⟨k.now,id,x⟩:Lk)]).flatMap FM=k.BQ.flatMap FM++FM ⟨k.now,id,x⟩:=by rw[List.flatMap_append];simp
 refine dn [] ⟨_,L,_,rfl,?_,?_⟩ (h:={r:=.t [],upd:=BN ⟨ip,es,n,BH,CQ,⟨some ⟨b,0,none⟩,k.BQ.length+1,c⟩,sm⟩ k.im k.now,J:=I.plus b (.cells (k.BQ.flatMap FM++FM ⟨k.now,id,x⟩++AC).toArray 63 (0,0))});exact(NF (P1:=L.map (λr:Rw=>r.b)++((A7 BH.a).toList++(A7 CQ.a).toList)) (P2:=[]) (o:=.cells (k.BQ.flatMap FM++FM ⟨k.now,id,x⟩++AC).toArray 63 (0,0)) l i).cast (by simp[Bb]) (by simp[Bb,A7]);have N:CE (I.plus b (.cells (k.BQ.flatMap FM++FM ⟨k.now,id,x⟩++AC).toArray 63 (0,0))) 8 63 ((k.BQ++[(⟨k.now,id,x⟩:Lk)]).flatMap FM) ⟨some ⟨b,0,none⟩,k.BQ.length+1,c⟩:=by rw[t];refine⟨?_,λv s=> ?_,.inr ⟨b,AC,rfl,MS l,A,B,C⟩⟩;rw[List.length_append,F6 (n:=8) (λ_=>rfl)];show _+8=_;simp only;omega;rcases List.mem_append.1 s with s|s;exact o.one v s;exact AIZ _ v s
 have p:(Bb L ⟨ip,es,n,BH,CQ,⟨some ⟨b,0,none⟩,k.BQ.length+1,c⟩,sm⟩).Nodup:=by
  have:=AB8 (a:=A7 fa) (b:=b) g (by rcases i with q|q;exact .inl q;exact .inr ⟨λE=>j b (List.mem_append_left _ E) rfl,λE=>j b (List.mem_append_right _ E) rfl⟩)
  simp only[List.append_assoc,List.append_nil]at this;exact this
 exact{tab:=DK.A8 a e.tab,pow:=Pow.A8 a e.pow,img:=D3.A8 a e.img,tm:=DO.A8 a e.tm,Bm:=DJ.A8 a e.Bm,Cq:=e.Cq.keep λy f=>d y (by simp only[List.mem_append];exact .inl (.inl f)),BH:=e.BH.keep λy f=>d y (by simp only[List.mem_append];exact .inl (.inr (.inl f))),CQ:=e.CQ.keep λy f=>d y (by simp only[List.mem_append];exact .inl (.inr (.inr f))),lk:=N,nd:=p}
def AZG(I L k m t w l o q)(f:Bl I L k m)(c:Aw k.AD w.1=some t)(hid:BY t.id)(g:t.c.stack.length<=1000000)(j:w.2.length<=1000000)(x:EE I w.2 l o q):
 Fn 55 [.p 1 0,.g [.v (.string (AR w.1)),.v (.slice l w.2.length o)]] (BN m k.im k.now) I (HH I (Bb L m) (.t []) (Pe k w)) none:=by
 have p:w.1=t.id:=(GD c).symm;have r:=ASm I m k.im k.now (D9 k.AD) t w.1 w.2 l o q (Ei (by rw[p];exact hid)) (Ei hid) (by rw[LM];exact c) g j x f.tm;refine Fn.to r (Jy rfl) λy h u=> ?_;obtain⟨d,z,J,hle,i,rfl⟩:=u;have e:Pe k w= {k with AD:=Az k.AD (DC t w.2)}:=by unfold Pe;rw[c]
 rw[e];refine⟨{m with es:=d,n:=z},L,J,rfl,.of hle,?_⟩;have a:=f.up hle;have s:B5 k.AD (DC t w.2)=Az k.AD (DC t w.2):=by unfold B5;rw[show Aw k.AD (DC t w.2).id=some t by rw[show(DC t w.2).id=t.id from rfl,<-p];exact c];rfl
 have b:=i.SK (T':=D9 (Az k.AD (DC t w.2))) (by rw[<-s];exact SO k.AD (DC t w.2));have v:(Az k.AD (DC t w.2)).map (·.id)=k.AD.map (·.id):=Qo _ _;exact{a with tm:=b,BH:=by show CE J 1 9 (((Az k.AD (DC t w.2)).map (·.id)).map A5) m.BH;rw[v];exact a.BH,nd:=f.nd}
def AMd:∀w,(zeroValue 53).run prog w=.ok (.agg (DV NQ NR).toArray) w:=by have h:(prog.info? 53).map (λi=>i.zero)=some (some (.agg (DV NQ NR).toArray)):=kR;let⟨i,a,b⟩:=KM.1 h;intro w;simp[zeroValue,typeInfo,a,b,Result.andThen]
abbrev QY(m:BJ)(k:Ab):AA (Nat×AG):=[(1,.cells (m.row k.im k.now) 107),(2,.obj (.map m.es m.n)),(3,.cells [.m 4,.m 5] 178),(4,.obj (.map m.sm.es m.sm.n)),(5,.obj (.map m.sm.ns m.sm.m)),(6,.cells [.p 1 0] 27)]
def RQ(I:AB)(P:AA Nat)(o:Aq)(c:Ab):Nat->AU->Prop:=λ_ h=>∃a b J,h= {r:=.t [],upd:=QY a c,J:=J}/\Bq I P J (Bb b a)/\Bl J b c a/\a.BH=o
def ADV{I P o k f m}:E3 (RQ I P o f) (QY m k) I:=by refine⟨?_⟩;rintro g h ⟨r,s,J,rfl,p,_⟩;refine⟨⟨nA,(λi d=> ?_),nA,sP,sP⟩,p.le⟩;rcases BA.1 (show i∈BN r f.im f.now++[(6,.cells [.p 1 0] 27)]from d)with q|q;let⟨a,j⟩:=Dr (key:=g) (nb:=[]) i q;refine⟨?_,λx c=> ?_⟩;simp[mS]at a;rcases a with e|e|e|e|e<;>rw[e]<;>simp;rcases j x c with a|a;simp[mS]at a;left;rcases a with e|e|e|e|e<;>rw[e]<;>simp;exact .inr a;simp[mS]at q;rcases q with rfl;exact⟨sP,λx c=>.inl (by simp[AG.keys,Ax,SV.keys]at c;rw[c];simp)⟩
def ALt{I P o d}:∀(b:Nat)(h:AU),RQ I P o d b h->∀c∈h.upd,c.1∈[1,2,3,4,5,6]:=by rintro b h ⟨f,e,J,rfl,_⟩ c a;simp[mS]at a⊢;rcases a with rfl|rfl|rfl|rfl|rfl|rfl<;>simp
def AGc(a:AK Ac)(n c:Nat)(x:EX):Hd where
 By:=[(1,.fn (.func 38) [] [.p 6 0]),(6,.v (.slice a n c)),(7,.v (.int .i64 (n:Int))),(8,.v (.int .i64 (x.i:Int)))]
 Bu:=QY x.m x.k
 J:=x.J
structure EOB(I:AB)(P:AA Nat)(o:Aq)(xs:AA Nm)(f:Ab->Nm->Ab)(a:Ab)(x:EX):Prop where
 i:x.i<=xs.length
 st:Bq I P x.J (Bb x.L x.m)
 UG:Bl x.J x.L x.k x.m
 k:x.k=(xs.take x.i).foldl f a
 BH:x.m.BH=o
 ids:x.k.AD.map (·.id)=xs
def APm(I)(L)(k)(m)(xs)(f)(hlen:xs.length<=1000000)(t:Bl I L k m)(a:k.AD.map (·.id)=xs)
 (hF: ∀i x k',xs[i]? =some x->k'=(xs.take i).foldl f k->k'.AD.map (·.id)=xs->(f k' x).AD.map (·.id)=xs/\∀J L' m',I.Cd J->Bl J L' k' m'->m'.BH=m.BH->Fn 38 [.v (.string (AR x)),.p 6 0] (QY m' k') J (RQ J (Bb L' m') m.BH (f k' x)) none):
 Fn 37 [m.BH.sv,.fn (.func 38) [] [.p 6 0]] (QY m k) I (RQ I (Bb L m) m.BH (xs.foldl f k)) none:=by
 let⟨j,g⟩:=ACM (show CE I 1 9 (xs.map A5) m.BH by rw[<-a];exact t.BH);let⟨ip,es,n,⟨oa,on,oc⟩,CQ,lk,sm⟩:=m;simp only at j g hF;subst g;refine Bh Tryz.func37 ADV λρ key w u=>gG<|loop (ι:=EX) (EOB I (Bb L ⟨ip,es,n,⟨oa,xs.length,oc⟩,CQ,lk,sm⟩) ⟨oa,xs.length,oc⟩ xs f k) (λx=>xs.length-x.i) (AGc oa xs.length oc) 300 [] ⟨0,I,L,⟨ip,es,n,⟨oa,xs.length,oc⟩,CQ,lk,sm⟩,k⟩ ⟨BS _,.refl _ _,t,rfl,rfl,a⟩ kR kR ?_;rintro⟨i,J,s,m1,k1⟩ ⟨z,p2,p3,p4,p6,p7⟩ again T;simp only at z p2 p3 p4 p6 p7;by_cases e:i<xs.length;have h:CE J 1 9 (xs.map A5) ⟨oa,xs.length,oc⟩:=by rw[<-p6,<-p7];exact p3.BH
 rcases h.at_ with⟨q1,_,_⟩|⟨b,AC,rfl,v,_⟩;have q1:xs.length=0:=q1;omega;have q:xs[i]? =some xs[i]:=A9 e;have d:((xs.map A5++AC).toArray:AY AE)[0+i*1]? =some (A5 xs[i]):=by rw[Lm,FT (by rw[C6];omega),E0];simp[q]
 let⟨q2,q3⟩:=hF i xs[i] k1 q p4 p7;have c:=q3 J s m1 p2.le p3 p6;refine gg [(9,hT ((i:Int)<(xs.length:Int)) oG),(10,BM J HV b 0 xs.length oc i e),(11,.Jq J _ _ (G5 (I:=J.B0) Cm rfl v.B0 d))]<|Ag c [] [1,2,3,4,5,6] kR ALt λy l=> ?_;obtain⟨m2,L2,r,rfl,hs,o,p⟩:=l;refine gg [(15,hW ((i:Int)+1) ((i+1:Nat):Int) oG oG)] ?_;refine back [] (AGc (some ⟨b,0,none⟩) xs.length oc ⟨i+1,r,L2,m2,f k1 xs[i]⟩) 300 kR kR kR λT'=>again ⟨i+1,r,L2,m2,f k1 xs[i]⟩ ⟨by show i+1<=_;omega,p2.trans hs,o,?_,p,q2⟩ (by show xs.length-(i+1)<xs.length-i;omega) T';show f k1 xs[i]=(xs.take (i+1)).foldl f k;rw[NY,q,OO,<-p4];rfl;have hi:i=xs.length:=oG;subst hi;have hu:k1=xs.foldl f k:=by rw[p4,HB]
 rw[<-hu];exact gg [(9,Go.Proofs.YtomehhepbeiinaaGreatDoor.hF ((xs.length:Int)<(xs.length:Int)) oG)]<|dn [] ⟨m1,s,J,rfl,p2,p3,p6⟩
abbrev LN(m:BJ)(k:Ab)(a:Nm):AA (Nat×AG):=[(1,.cells (m.row k.im k.now) 107),(2,.obj (.map m.es m.n)),(3,.cells [.m 4,.m 5] 178),(4,.obj (.map m.sm.es m.sm.n)),(5,.obj (.map m.sm.ns m.sm.m)),(6,.cells [.p 1 0] 27),(7,.cells [.v (.string (AR a))] 9)]
def RR(I:AB)(P:AA Nat)(o:Aq)(c:Ab)(d:Nm):Nat->AU->Prop:=λ_ h=>∃a b J,h= {r:=.t [],upd:=LN a c d,J:=J}/\Bq I P J (Bb b a)/\Bl J b c a/\a.BH=o
def YY{I P o k g m f}:E3 (RR I P o g f) (LN m k f) I:=by refine⟨?_⟩;rintro i h ⟨s,t,J,rfl,r,_⟩;refine⟨⟨nA,(λj d=> ?_),nA,sP,sP⟩,r.le⟩;rcases BA.1 (show j∈BN s g.im g.now++[(6,.cells [.p 1 0] 27),(7,.cells [.v (.string (AR f))] 9)]from d)with q|q;let⟨a,l⟩:=Dr (key:=i) (nb:=[]) j q;refine⟨?_,λx c=> ?_⟩;simp[mS]at a;rcases a with e|e|e|e|e<;>rw[e]<;>simp;rcases l x c with a|a;simp[mS]at a;left;rcases a with e|e|e|e|e<;>rw[e]<;>simp;exact .inr a;simp[mS]at q;rcases q with rfl|rfl;exact⟨sP,λx c=>.inl (by simp[AG.keys,Ax,SV.keys]at c;rw[c];simp)⟩;exact⟨sP,λx c=>by simp[AG.keys,Ax,SV.keys]at c⟩
def ALu{I P o e d}:∀(b:Nat)(h:AU),RR I P o e d b h->∀c∈h.upd,c.1∈[1,2,3,4,5,6,7]:=by rintro b h ⟨g,f,J,rfl,_⟩ c a;simp[mS]at a⊢;rcases a with rfl|rfl|rfl|rfl|rfl|rfl|rfl<;>simp
def AGd(a:AK Ac)(n c:Nat)(id:Nm)(x:EX):Hd where
 By:=[(1,.fn (.func 109) [] [.p 6 0,.p 7 0]),(6,.v (.slice a n c)),(7,.v (.int .i64 (n:Int))),(8,.v (.int .i64 (x.i:Int)))]
 Bu:=LN x.m x.k id
 J:=x.J
structure EOY(I:AB)(P:AA Nat)(o:Aq)(xs:AA Nm)(f:Ab->Nm->Ab)(a:Ab)(x:EX):Prop where
 i:x.i<=xs.length
 st:Bq I P x.J (Bb x.L x.m)
 UG:Bl x.J x.L x.k x.m
 k:x.k=(xs.take x.i).foldl f a
 BH:x.m.BH=o
 ids:x.k.AD.map (·.id)=xs
def APn(I)(L)(k)(m)(id)(xs)(f)(hlen:xs.length<=1000000)(t:Bl I L k m)(a:k.AD.map (·.id)=xs)
 (hF: ∀i x k',xs[i]? =some x->k'=(xs.take i).foldl f k->k'.AD.map (·.id)=xs->(f k' x).AD.map (·.id)=xs/\∀J L' m',I.Cd J->Bl J L' k' m'->m'.BH=m.BH->Fn 109 [.v (.string (AR x)),.p 6 0,.p 7 0] (LN m' k' id) J (RR J (Bb L' m') m.BH (f k' x) id) none):
 Fn 37 [m.BH.sv,.fn (.func 109) [] [.p 6 0,.p 7 0]] (LN m k id) I (RR I (Bb L m) m.BH (xs.foldl f k) id) none:=by
 let⟨j,g⟩:=ACM (show CE I 1 9 (xs.map A5) m.BH by rw[<-a];exact t.BH);let⟨ip,es,n,⟨oa,on,oc⟩,CQ,lk,sm⟩:=m;simp only at j g hF;subst g;refine Bh Tryz.func37 YY λρ key w u=>gG<|loop (ι:=EX) (EOY I (Bb L ⟨ip,es,n,⟨oa,xs.length,oc⟩,CQ,lk,sm⟩) ⟨oa,xs.length,oc⟩ xs f k) (λx=>xs.length-x.i) (AGd oa xs.length oc id) 300 [] ⟨0,I,L,⟨ip,es,n,⟨oa,xs.length,oc⟩,CQ,lk,sm⟩,k⟩ ⟨BS _,.refl _ _,t,rfl,rfl,a⟩ kR kR ?_;rintro⟨i,J,s,m1,k1⟩ ⟨z,p2,p3,p4,p6,p7⟩ again T;simp only at z p2 p3 p4 p6 p7;by_cases e:i<xs.length;have h:CE J 1 9 (xs.map A5) ⟨oa,xs.length,oc⟩:=by rw[<-p6,<-p7];exact p3.BH
 rcases h.at_ with⟨q1,_,_⟩|⟨b,AC,rfl,v,_⟩;have q1:xs.length=0:=q1;omega;have q:xs[i]? =some xs[i]:=A9 e;have d:((xs.map A5++AC).toArray:AY AE)[0+i*1]? =some (A5 xs[i]):=by rw[Lm,FT (by rw[C6];omega),E0];simp[q]
 let⟨q2,q3⟩:=hF i xs[i] k1 q p4 p7;have c:=q3 J s m1 p2.le p3 p6;refine gg [(9,hT ((i:Int)<(xs.length:Int)) oG),(10,BM J HV b 0 xs.length oc i e),(11,.Jq J _ _ (G5 (I:=J.B0) Cm rfl v.B0 d))]<|Ag c [] [1,2,3,4,5,6,7] kR ALu λy l=> ?_;obtain⟨m2,L2,r,rfl,hs,o,p⟩:=l;refine gg [(15,hW ((i:Int)+1) ((i+1:Nat):Int) oG oG)] ?_;refine back [] (AGd (some ⟨b,0,none⟩) xs.length oc id ⟨i+1,r,L2,m2,f k1 xs[i]⟩) 300 kR kR kR λT'=>again ⟨i+1,r,L2,m2,f k1 xs[i]⟩ ⟨by show i+1<=_;omega,p2.trans hs,o,?_,p,q2⟩ (by show xs.length-(i+1)<xs.length-i;omega) T';show f k1 xs[i]=(xs.take (i+1)).foldl f k;rw[NY,q,OO,<-p4];rfl;have hi:i=xs.length:=oG;subst hi;have hu:k1=xs.foldl f k:=by rw[p4,HB]
 rw[<-hu];exact gg [(9,Go.Proofs.YtomehhepbeiinaaGreatDoor.hF ((xs.length:Int)<(xs.length:Int)) oG)]<|dn [] ⟨m1,s,J,rfl,p2,p3,p6⟩
def H8{l}(h:Ap l=l):Bo l:=by rw[<-h];exact⟨Xc _,Xc _⟩
def Bl.U0{I J}{L L'}{k k'}{m m'}(h:Bl I L k m)(hs:CU I L J L')(f:k'.im=k.im/\m'.ip=m.ip)(b:m'.BH=m.BH/\k'.AD.map (·.id)=k.AD.map (·.id))(a:m'.CQ=m.CQ/\k'.facts=k.facts)(c:m'.lk=m.lk/\k'.BQ=k.BQ)
 (tm:DO J (D9 k'.AD) m'.es) (Bm:DJ J k'.Ar m'.sm.es m'.sm.n) (Cq:EO J k'.Ar L' m'.sm.ns m'.sm.m):Bl J L' k' m'/\Bq I (Bb L m) J (Bb L' m'):=by
 have l:=h.hasAll;have g:=h.nd;unfold Bb at l g;have hp:Bq I (Bb L m) J (Bb L' m'):=by unfold Bb;rw[b.1,a.1,c.1];exact hs.toP _
 rw[Fz]at g;let⟨q,p,n3⟩:=g;have hE: ∀x∈(A7 m.BH.a).toList++((A7 m.CQ.a).toList++(A7 m.lk.a).toList),∀y,I.has x y->J.has x y:=λx d y i=>hs.keep x y i λr j e=>n3 x (BG.2 ⟨r,j,e⟩) x d rfl;refine⟨{tab:=DK.A8 hs.le h.tab,pow:=Pow.A8 hs.le h.pow,img:= ?_,tm:=tm,Bm:=Bm,Cq:=Cq,BH:= ?_,CQ:= ?_,lk:= ?_,nd:= ?_},hp⟩;rw[f.1,f.2];exact D3.A8 hs.le h.img;rw[b.1,b.2];exact h.BH.keep λx d=>hE x (by simp only[BA];exact .inl d);rw[a.1,a.2];exact h.CQ.keep λx d=>hE x (by simp only[BA];exact .inr (.inl d));rw[c.1,c.2];exact h.lk.keep λx d=>hE x (by simp only[BA];exact .inr (.inr d));unfold Bb;rw[b.1,a.1,c.1,Fz];refine⟨Cq.bl,p,λx d y i e=> ?_⟩;subst e;let⟨r,j,e⟩:=BG.1 d;rcases hs.rows r j with⟨r0,h0,n⟩|hn;exact n3 x (BG.2 ⟨r0,h0,n.trans e⟩) x i rfl;let⟨z,o⟩:=l x (GJ _ i);exact hn z (by rw[e];exact o)
def AAS(p):JZ high p:=λ_ _ _ _=>Hz.2 (ABk _)
structure KO(A S:Nat)(k:Ab):Prop where
 kk:KK high (λ_=>True) k
 bk:BK A S k.AD k.Ar
 a:A<=800000
 s:S<=800000
 now:k.now<=900000
def AQr{s on b n}(h:Ai s n=none):Ai (Gt s on b) n=none:=by unfold Gt;split;rename_i o a;split;split;rw[QW,a];simp only;split;rw[AN (λe=>by subst e;rw[h]at a;cases a)];exact h;exact h;exact h;exact h;exact h
def AV1{m M a s}(h:KI m M a s):∀n o,Ai s n=some o->∀y∈o.var.q,Bg y.id:=λn o c y d=>by let⟨t,b,_⟩:=(h.C5 n o c).2 y d;have:=(h.of b).Fx t.id DX;rw[GD b]at this;exact Ei this
def AIM{m M c s j}(h:KI m M c s){t}(g:Aw c t.id=some t){i}(f:i<t.scopes.length)(e:∀n,Ai s n=none->Ai j n=none):Eg j (t.scopes.getD i Af).name (GR t i):=by
 have a:t.scopes.getD i Af=t.scopes[i]:=by rw[Cz,A9 f];rfl
 have b:=h.of g;have d:=DF f;have q:=b.Fx _ (DW _ (BG.2 ⟨_,d,rfl⟩));have p:=(b.CC.2 _ d).1;have o:=e _ (h.I4 t (Ed g) _ d);have k:(GR t i).kind=3:=rfl;have l:(GR t i).l=t.scopes[i].l:=by show(t.scopes.getD i Af).l=_;rw[a]
 unfold Eg;rw[a,q,k,l,p,o];simp
def ANx(I L k m){A S}(b:Bl I L k m)(d:KO A S k)(x t)(p:Aw k.AD x=some t):
 (GM k x).AD.map (·.id)=k.AD.map (·.id)/\Fn 38 [.v (.string (AR x)),.p 6 0] (QY m k) I (RQ I (Bb L m) m.BH (GM k x)) none:=by
 have hid:=GD p;subst hid;have j:=d.kk.ki.of p;have r:=d.bk.ts t (Ed p);have Y:=d.a;have Z:=d.s;have V:=r.sc;have c:=Ei (j.Fx t.id DX);have C:HY (D9 k.AD) t.id=some t:=by rw[LM];exact p
 unfold GM;rw[p];dsimp only;cases N:Np t k.now with
 |none=>
  refine⟨rfl,Fn.to (ANs I (D9 k.AD) k.Ar L m k.im k.now t t.id c C N oG b.tm b.Bm b.Cq) ADV λT h P=> ?_⟩;obtain⟨q,U,z,H,J,F,y,w,v,rfl⟩:=P;let⟨f,K⟩:=b.U0 (k':=k) (m':={m with es:=q,n:=U,sm:=z}) F ⟨rfl,rfl⟩ ⟨rfl,rfl⟩ ⟨rfl,rfl⟩ ⟨rfl,rfl⟩ y w v;exact⟨_,H,J,rfl,K,f,rfl⟩
 |some i=>
  have B:=AAk N;have O:t.scopes.getD i Af=t.scopes[i]:=by rw[Cz,A9 B];rfl
  have D:(Ha t i).id=t.id:=rfl;have l:(Jj k t i).AD.map (·.id)=k.AD.map (·.id):=Qo _ _;refine⟨l,?_⟩;have Dd:(LW (D9 k.AD) t.id (Ha t i)).Perm (D9 (Jj k t i).AD):=by have:=SO k.AD (Ha t i);unfold B5 at this;rw[D,p]at this;exact this
  have u:∀s∈t.scopes,Bo s.l:=λs F=>H8 (j.CC.2 s F).1;have E:Bo (GR t i).l:=by show Bo (t.scopes.getD i Af).l;rw[O];exact u _ (DF B)
  have W:=r.c.st;have hlen:=d.bk.sl;have fin:∀G:Ao,Jj k t i= {k with Ar:=C0 G (t.scopes.getD i Af).name (GR t i),AD:=Az k.AD (Ha t i)}->(∀a,Co I t a->Fn 40 [.p 1 0,.g (CG t a),.v (.int .i64 (i:Int))] (BN m k.im k.now) I (TQ I L m k.im k.now (LW (D9 k.AD) t.id (Ha t i)) (C0 G (t.scopes.getD i Af).name (GR t i))) none)->
   Fn 38 [.v (.string (AR t.id)),.p 6 0] (QY m k) I (RQ I (Bb L m) m.BH (Jj k t i)) none:=λG e Q=>by
   refine Fn.to (ANt I (D9 k.AD) (LW (D9 k.AD) t.id (Ha t i)) (C0 G (t.scopes.getD i Af).name (GR t i)) L m k.im k.now t t.id i c C N oG b.tm Q) ADV λT h P=> ?_;obtain⟨q,U,z,H,J,F,y,w,v,rfl⟩:=P;let⟨f,K⟩:=b.U0 (k':=Jj k t i) (m':={m with es:=q,n:=U,sm:=z}) F ⟨rfl,rfl⟩ ⟨rfl,l⟩ ⟨rfl,rfl⟩ ⟨rfl,rfl⟩ (y.SK Dd) (by rw[e];exact w) (by rw[e];exact v);exact⟨_,H,J,rfl,K,f,rfl⟩
  by_cases f:t.status=1;refine fin (Gt k.Ar t.on t.id) (by unfold Jj;rw[AW f]) λa M=> ?_;exact ASg I (D9 k.AD) k.Ar L m k.im k.now t a i f (Ei (r.on f)) (AV1 d.kk.ki) (λn o X=>by have:=(d.bk.os n o X).q;omega)
   {pow:=b.pow,AD:=M,id:=c,sc:=B,X7:=by omega,MY:=by omega,g:=H8 j.CC.1.1,gs:=u,ok:=AIM d.kk.ki p B (λn R=>AQr R),ol:=E,len:=by rw[(AG5 d.bk.os t.on t.id).2];omega,tm:=b.tm,Bm:=b.Bm,Cq:=b.Cq}
  refine fin k.Ar (by unfold Jj;rw[AN f]) λa M=> ?_;exact ASf I (D9 k.AD) k.Ar L m k.im k.now t a i f
   {pow:=b.pow,AD:=M,id:=c,sc:=B,X7:=by omega,MY:=by omega,g:=H8 j.CC.1.1,gs:=u,ok:=AIM d.kk.ki p B (λn R=>R),ol:=E,len:=by omega,tm:=b.tm,Bm:=b.Bm,Cq:=b.Cq}
def AQm{m}{M}(l:List Nm){k}(h:KK m M k):KK m M (l.foldl GM k):=ME (P:=KK m M) (λ_ x h=>Zx h x) l h
def AQn(l:List Nm)(k:Ab):(l.foldl GM k).now=k.now:=ME (P:=λk':Ab=>k'.now=k.now) (λa x h=>(AE4 a x).2.1.trans h) l rfl
def AE6(I L k m){A S}(a:Bl I L k m)(c:KO A S k)(B:S+A<=800000)(s:k.now+1<=900000):
 Fn 11 [.p 1 0] (BN m k.im k.now) I (HH I (Bb L m) (.t []) (FF k)) none:=by
 have v:=c.a;have E:=c.bk.tl;have l:Bl I L {k with now:=k.now+1} m:=⟨a.tab,a.pow,a.img,a.tm,a.Bm,a.Cq,a.BH,a.CQ,a.lk,a.nd⟩;have C:=APm I L {k with now:=k.now+1} m (k.AD.map (·.id)) GM (by rw[C6];omega) l rfl λi x k' K d b=>by
  have h:KK high (λ_=>True) k':=by rw[d];exact AQm _ ⟨c.kk.ki,c.kk.kq⟩
  have f:=AA6 ((k.AD.map (·.id)).take i) (k:={k with now:=k.now+1}) (A:=A) (S:=S) c.bk ⟨c.kk.ki,c.kk.kq⟩;rw[<-d]at f;have N:((k.AD.map (·.id)).take i).length<=A:=by rw[CX,C6];omega
  have F:k'.now=k.now+1:=by rw[d];exact AQn _ _
  have n:KO A (S+A) k':=⟨h,f.mono (AZ _) oG,v,B,oG⟩;have p:x∈k'.AD.map (·.id):=by rw[b];exact Cv K
  let⟨t,o,e⟩:=BG.1 p;have u:Aw k'.AD x=some t:=by rw[<-e];exact MZ h.ki.FB o
  refine⟨?_,λJ j q _ z G=> ?_⟩;have:(GM k' x).AD.map (·.id)=k'.AD.map (·.id):=by unfold GM;rw[u];dsimp only;split;exact Qo _ _;rfl
  rw[this];exact b;rw[<-G];exact(ANx J j k' q z n x t u).2
 refine Bh func11 (Jy rfl) λO M w r=>gg [(6,hW ((k.now:Int)+1) ((k.now+1:Nat):Int) oG oG)]<|Ag C [(6,100)] [1,2,3,4,5,6] kR ALt λy D=> ?_;obtain⟨q,j,J,rfl,H,g,_⟩:=D;refine gG ?_;have e:(k.AD.map (·.id)).foldl GM {k with now:=k.now+1}=FF k:=rfl;rw[e]at g⊢;exact dn [] ⟨q,j,J,rfl,H,g⟩
def ANE{v}(h:wv v)(a:Ap v.l=v.l):WV v:=⟨h.imp_left And.left,H8 a⟩
def AZ3{v}(h:wv v):Bg v.name:=by rcases h with h|h|h;rw[h.1];intro x a;cases a;rw[h];intro x a;cases a;exact Ei h.2.2.2
structure TJ(p:Ak):Prop where
 ok:ZH p
 im:Ij p
 ib:Jc p
 QQ:p.Ad.length<=1000
def AFr{I L k m}(b:Bl I L k m){t a}(ha:Co I t a)(now tries):BI I (IN k.im m.ip now tries) ⟨k.Ar,t,Ba⟩ (M6 a m.sm L) where
 tab:=b.tab
 pow:=b.pow
 img:=b.img
 args:=HG.nil
 AD:=ha
 Bm:=b.Bm
 Cq:=b.Cq
 fork:=FW.empty
 out:=FW.empty
 log:=FW.empty
 woken:=FW.empty
def ABn{A t}(h:BT A t)(a:A<=800000):Jd t.c:=⟨by have:=h.c.fr;omega,by have:=h.c.st;omega,by have:=h.c.tr;omega⟩
def APc{I L k m A S}(N:Bl I L k m)(j:KO A S k)(Q:TJ k.im){t}(T:Aw k.AD t.id=some t)(J:t.status=0){a}(W:Co I t a):AD7 I k.im m.ip t a k.Ar k.now m.sm L:=by
 have b:=j.kk.ki.of T;have d:=j.bk.ts t (Ed T);have P:=j.a;have hS:=j.s;have X:=j.now;have h:=ABn d P;have Z:=d.sc;have hlen:=j.bk.sl;have p:=Ei (b.Fx t.id DX);have Y:∀n o,Ai k.Ar n=some o->o.var.q.length<=800000:=λn o r=>CB (j.bk.os n o r).q P;have K:∀v∈t.c.stack,Ap v.l=v.l:=λv l=>(b.EF.st v l).CC;refine⟨{tab:=N.tab,pow:=N.pow,img:=N.img,ok:=Q.ok,len:=h,FH:=W.c,Aa:=λv l=>ANE (d.c.vs v l) (K v l),vars:=λf E=>by have:=(d.c.vf f E).1;omega},AFr N W _ _,oG,p,λn o r=>by have:=Y n o r;omega,λo hr=> ?_⟩;let⟨E,g,_⟩:=YC hr;refine⟨g,?_⟩;let⟨f,fn,h1,h2,h3,h4,h5,M⟩:=AGs E;have U:Bi k.im o=A2 o.code:=by unfold Bi;rw[AN (Zt g)]
 rw[U]at M;have R:=Lz.MV M;have B:BL A S ⟨k.Ar,{t with c:=Da (Ev t.c (A2 o.code)) λf=>{f with pc:=f.pc+1}},Ba⟩:=(show BL A S ⟨k.Ar,t,Ba⟩from⟨d,j.bk.os,hlen⟩).core (by show t.status≠1;omega) (P3 (Zv d.c _) λ_ q=>q) (AZ _);have G:=Um d.c (A2 o.code);have y:∀v∈CJ t.c (A2 o.code),Ap v.l=v.l:=λv l=>K v (Kw l);have z:=AEw (im:=k.im) (now:=k.now) (o:=o) (AL:=f.AL) (l:=CJ t.c (A2 o.code)) B rfl J (λi hi=>Wn G oG) (λi hi=>by rw[Cz,A9 oG];exact y _ (DF _))
 have C:=B.t;have s:Fg t.c (A2 o.code):=M;have F:=j.kk.ki.Zy T J;have D:CI high (λ_=>True) k.AD t ⟨k.Ar,{t with c:=Da (Ev t.c (A2 o.code)) λf=>{f with pc:=f.pc+1}},Ba⟩:=
  F.core (λx hx=>(R2 (b.H9 oG x hx) s).trans (UF (R2 (b.H9 oG x hx) s).on λ_=>rfl)) (QB (AAV b.EF _) λ_ q=>q)
 have hid:(Br k.im k.now o f.AL (CJ t.c (A2 o.code)) ⟨k.Ar,{t with c:=Da (Ev t.c (A2 o.code)) λf=>{f with pc:=f.pc+1}},Ba⟩).1.t.id=t.id:=by have H:=AEx (im:=k.im) (now:=k.now) (o:=o) (AL:=f.AL) (l:=CJ t.c (A2 o.code)) D rfl (Ul b.EF _) A0 λ_ _=>AAS _;rcases H with⟨_,E⟩|⟨V,e,hc,_⟩;exact E.id;exact hc.id
 refine⟨f,{top:=h1,pop:=M,len:=h,pc:= ?_,QQ:=by show k.im.Ad.length<=1000000;have:=Q.QQ;omega,op:=λa'=> ?_,id:= ?_,q:=λn O r=> ?_}⟩;have aa:=(B6.1 h3).1;have:=Q.ok.code fn (Cv h2);omega;have hp:=b.MW;have w:t.path∈t.id::t.scopes.map (·.name):=by rw[<-hp];simp
 have ab:=d.md;have ac:=d.rm;exact⟨⟨H8 b.CC.1.1,H8 b.CC.1.2⟩,ABn C P,b.Fx _ w,(by show t.made<=1000000;omega),(by show t.room<=1000000;omega),(by show t.scopes.length<=900000;omega),(by show k.Ar.length<=900000;omega),
  λn O r=>⟨H8 (j.kk.ki.D8 n O r).CC,by have:=Y n O r;omega⟩,λv l=>⟨H8 (y v l),AZ3 (G v l)⟩,y,λu n hn=>(D.name hn).2.2,rfl,(by show k.now<=1000000;omega)⟩
 rw[show(Br (IN k.im m.ip k.now (CW t).2).im (IN k.im m.ip k.now (CW t).2).now o f.AL (CJ t.c (A2 o.code)) (FL ⟨k.Ar,t,Ba⟩ o)).1.t.id=t.id from hid];exact p;have:=(z.l.o n O r).q;omega
def Mb(l:AA AJ):Nat:=l.countP λt=>t.status==1
def VC{t u}(hid:u.id=t.id)(c:t.status=1)(d:u.status≠1):∀ {l:AA AJ},FY l->Aw l t.id=some t->Mb (Az l u)+1=Mb l
 |[],_,h=>by cases h
 |x::l,hs,h=>by
  let⟨k,i⟩:=JV.1 hs;unfold Mb Az at*;rw[EM,Yo,Yo];by_cases e:x.id=t.id;have b:x=t:=by unfold Aw at h;rw[Ll,e]at h;simp at h;exact h
  subst b;have j:(l.map λy=>if y.id==u.id then u else y)=l:=by
   have:∀y∈l,(if y.id==u.id then u else y)=y:=λy m=>by rw[AN];intro q;have q:=eq_of_beq q;have:=k y m;rw[q,hid,N1]at this;cases this
   rw[Ih this];simp
  rw[j];have f:(if(x.id==u.id)=true then u else x)=u:=AW (by rw[hid];simp);rw[f,AN (by simpa using d),AW (by simpa using c)];have g:Aw l t.id=some t:=by
   unfold Aw at h⊢;rw[Ll]at h;have:(x.id==t.id)=false:=by simpa using e
   rw[this]at h;exact h
  have n:=VC hid c d (l:=l) i g;unfold Mb Az at n;have a:(if(x.id==u.id)=true then u else x)=x:=AN (by rw[hid];simpa using e);rw[a];omega
def AQS(k v)(a:Bool):(Ea k v a).t.status≠1:=by
 have:(E6 k.t v a).status≠1:=by show(if 0<k.t.scopes.length then 2 else if a then 4 else 3)≠1;split;decide;split<;>decide
 unfold Ea;dsimp only;split<;>exact this
def ACc(t s v)(a:Bool):(EU t s v a).t.status≠1:=by unfold EU;split;show(0:Nat)≠1;decide;unfold Ec;split;exact AQS _ _ _;show(0:Nat)≠1;decide
def Oj(n:Nat)(a:Nm)(k:Ab)(other:Nm):Ab:=
 match Aw k.AD other with
 |none=>k
 |some t=>
  if t.status≠1\/t.on≠a then k
  else match Ai k.Ar a with
   |none=>k
   |some o=>if o.kind≠6\/ !o.done then k
    else
     let r:=EU t k.Ar o.v o.ex;let k:={k with Ar:=r.s,AD:=Az k.AD r.t}
     if r.e.done then F4 n k other else k
def AAi(n k a):F4 (n+1) k a=(k.AD.map (·.id)).foldl (Oj n a) k:=rfl
structure DI(A S:Nat)(a k:Ab):Prop where
 q:KO A S k
 w:Mb k.AD<=Mb a.AD
 ids:k.AD.map (·.id)=a.AD.map (·.id)
 now:k.now=a.now
 im:k.im=a.im
def AAj{A S c n}(m:∀k i,DI A S c k->DI A S c (F4 n k i)){k}(h:DI A S c k)(i x):DI A S c (Oj n i k x):=by
 unfold Oj;split;exact h;rename_i t g;split;exact h;rename_i a;simp[OS,Pj]at a;split;exact h;rename_i o l;split;exact h;rename_i e;simp[OS,Pj,KD,Bool.not_eq_false]at e;have hid:=GD g;have b:Aw k.AD t.id=some t:=by rw[hid];exact g
 have f:=ACb h.q.kk.ki h.q.kk.kq b a.1 (by rw[a.2];exact l) e.1;have d:=ACa (h.q.bk.ts t (Ed g)) a.1 h.q.bk.os h.q.bk.sl ((h.q.bk.os _ _ l).v6 e.1 e.2) o.ex;have p:=VC f.2.2 a.1 (ACc t k.Ar o.v o.ex) h.q.kk.ki.FB b;have j:DI A S c {k with Ar:=(EU t k.Ar o.v o.ex).s,AD:=Az k.AD (EU t k.Ar o.v o.ex).t}:=
  ⟨⟨⟨f.1,f.2.1⟩,⟨(h.q.bk.put d.t).ts,d.o,(h.q.bk.put d.t).tl,d.s⟩,h.q.a,h.q.s,h.q.now⟩,by have:=h.w;show Mb (Az _ _)<=_;omega,(Qo _ _).trans h.ids,h.now,h.im⟩
 dsimp only;split;exact m _ _ j;exact j
def AAh{A S c}:∀(n:Nat)(k:Ab)(b:Nm),DI A S c k->DI A S c (F4 n k b)
 |0,_,_,h=>h
 |n+1,k,b,h=>by rw[AAi];exact ME (P:=DI A S c) (λa x h=>AAj (AAh n) h b x) _ h
def ASB{I}:D3 I ⟨[],[]⟩ Rz:=⟨Aj.empty,Aj.empty⟩
def AD8(n:Nat):Prop:=∀(I:AB)(L:AA Rw)(k:Ab)(m:BJ)(a:Nm)(A S:Nat),Bl I L k m->KO A S k->Mb k.AD<n->BY a->Fn 56 [.p 1 0,.v (.string (AR a))] (BN m k.im k.now) I (ZV I (Bb L m) m.BH (F4 n k a)) none
def APg(n)(IH:AD8 n)(I L k m){A S}(W:Bl I L k m)(e:KO A S k)(hW:Mb k.AD<n+1)(c x)(h:BY c)(t)(B:Aw k.AD x=some t):
 Fn 109 [.v (.string (AR x)),.p 6 0,.p 7 0] (LN m k c) I (RR I (Bb L m) m.BH (Oj n c k x) c) none:=by
 have N:=GD B;subst N;have ag:=e.kk.ki.of B;have p:=e.bk.ts t (Ed B);have hA:=e.a;have hS:=e.s;have aj:=p.sc;have u:=ag.Fx t.id DX;have hq:∀n o,Ai k.Ar n=some o->o.var.q.length<=1000000:=λn o ho=>by have:=(e.bk.os n o ho).q;omega
 let⟨j,a,Y,ha,_⟩:=(W.tm.find (Ei u)).2 t (by rw[LM];exact B);have v:=T9 I k.Ar m.sm.es m.sm.ns m.sm.n m.sm.m c (Ei h) (hq c) W.Bm;unfold Ow at v;have b:∀J,I.le J->RR I (Bb L m) m.BH k c 100 {r:=.t [],upd:=LN m k c,J:=J}:=λJ hle=>⟨m,L,J,rfl,.of hle,W.up hle,rfl⟩;unfold Oj;rw[B];dsimp only;by_cases g:t.status=1;have O:=p.on g;by_cases i:t.on=c;rw[AN (by simp[g,i])];refine Bh func109 YY λρ l w z=>gg [(13,.hand _ [(11,.m 2),(12,.v (.string (AR t.id)))] [(2,.obj (.map m.es m.n))] I _ (N0 A6 (L:=lay) (t:=104) (a:=11) (b:=12) (km:=2) (n:=m.n) (kt:=9) (et:=53) (d1:=.string) (es:=m.es) (kv:=.string (AR t.id)) (j:=j) (xs:=DV t a) (I:=I) rfl Cm A0 Y)),
  (16,Ct (t.status:Int) 1 oG),(21,.eq (Value.bool (!((AR t.on).toList==(AR c).toList))) (.bool false) (by unfold AR;rw[Z0 (Ei O) (Ei h),i];simp))] ?_
 refine Ag v PU [1,2,3] kR (λl y f kb d=>by obtain⟨q,J,rfl,_⟩:=f;simp[mS]at d⊢;rcases d with rfl|rfl|rfl<;>simp) λy f=> ?_
 obtain⟨q,J,rfl,hle,P⟩:=f;cases hgo:Ai k.Ar c with
 |none=>
  simp[hgo]at P⊢;exact gG<|dn [] (b J hle) (h:={r:=.t [],upd:=LN m k c,J:=J})
 |some o=>
  simp[hgo]at P⊢;have Z:=W.up hle;by_cases V:o.kind=6;cases D:o.done with
  |false=>
   rw[AW sP];refine gg [(37,Ct (o.kind:Int) 6 oG),(42,.eq (Value.bool (!o.done)) (.bool true) (by rw[D];rfl))] ?_;exact dn [] (b J hle) (h:={r:=.t [],upd:=LN m k c,J:=J})
  |true=>
   rw[AN (by simp[V])];have ah:Ai k.Ar t.on=some o:=by rw[i];exact hgo
   have F:=ACb e.kk.ki e.kk.kq B g ah V;have ai:=(e.bk.os _ _ hgo).v6 V D;have M:=ACa p g e.bk.os e.bk.sl ai o.ex;have hw:=VC F.2.2 g (ACc t k.Ar o.v o.ex) e.kk.ki.FB B;have ab:BI J (IN ⟨[],[]⟩ Rz 0 (CW t).2) ⟨k.Ar,t,Ba⟩ (M6 a m.sm L):={AFr Z (ha.up hle) 0 (CW t).2 with img:=ASB};have hrs:=AWL ab o.v o.ex (ABn p hA) oG (Ei u) hq;generalize EU t k.Ar o.v o.ex=r at F M hw hrs⊢;refine gg [(37,Ct (o.kind:Int) 6 oG),(42,.eq (Value.bool (!o.done)) (.bool false) (by rw[D];rfl))] ?_;refine Ag hrs PU [1,2,3] kR (λl y f kb d=>by obtain⟨E,m',J,rfl,_⟩:=f;simp[mS]at d⊢;rcases d with rfl|rfl|rfl<;>simp) λy f=> ?_
   obtain⟨E,G,X,rfl,T,C⟩:=f;refine gG ?_;have ae:BY r.t.id:=by rw[F.2.2];exact u
   refine Ag (Qb X {m with sm:=G.sm} k.im k.now (D9 k.AD) r.t G.a (Ei ae) C.AD (DO.A8 T.le Z.tm)) [] [1,2,3,4,5] kR (λl y f kb d=>by obtain⟨ak,n',_,rfl⟩:=f;exact(Dr (key:=0) (nb:=[]) kb d).1) λy f=> ?_
   obtain⟨H,n3,U,rfl⟩:=f;have Dd:(LW (D9 k.AD) r.t.id r.t).Perm (D9 (Az k.AD r.t)):=by have:=SO k.AD r.t;unfold B5 at this;rw[show Aw k.AD r.t.id=some t by rw[F.2.2];exact B]at this;exact this
   let⟨K,s⟩:=Z.U0 (k':={k with Ar:=r.s,AD:=Az k.AD r.t}) (m':={m with sm:=G.sm,es:=H,n:=n3}) T ⟨rfl,rfl⟩ ⟨rfl,Qo _ _⟩ ⟨rfl,rfl⟩ ⟨rfl,rfl⟩ (U.SK Dd) C.Bm C.Cq;have s:=Bq.trans (Bq.of hle) s;cases Q:r.e.done with
   |false=>
    rw[AN sP];exact gg [(61,.eq (Value.bool r.e.done) (.bool false) (by rw[Q]))]<|dn [] ⟨_,G.L,X,rfl,s,K,rfl⟩
   |true=>
    rw[AW rfl];have aa:KO A S {k with Ar:=r.s,AD:=Az k.AD r.t}:=⟨⟨F.1,F.2.1⟩,⟨(e.bk.put M.t).ts,M.o,(e.bk.put M.t).tl,M.s⟩,hA,hS,e.now⟩;have R:=IH X G.L {k with Ar:=r.s,AD:=Az k.AD r.t} {m with sm:=G.sm,es:=H,n:=n3} t.id A S K aa (by show Mb (Az _ _)<n;omega) u;refine gg [(61,.eq (Value.bool r.e.done) (.bool true) (by rw[Q]))]<|Ag R [] [1,2,3,4,5] kR AKB λy f=> ?_;obtain⟨m4,L4,J4,rfl,af,ac,ad⟩:=f;exact gG<|dn [] ⟨m4,L4,J4,rfl,s.trans af,ac,ad⟩
  rw[AW (.inl V)];exact gg [(37,FJ (o.kind:Int) 6 oG)]<|dn [] (b J hle) (h:={r:=.t [],upd:=LN m k c,J:=J})
 rw[AW (.inr i)];refine Bh func109 YY λρ l w z=>gg [(13,.hand _ [(11,.m 2),(12,.v (.string (AR t.id)))] [(2,.obj (.map m.es m.n))] I _ (N0 A6 (L:=lay) (t:=104) (a:=11) (b:=12) (km:=2) (n:=m.n) (kt:=9) (et:=53) (d1:=.string) (es:=m.es) (kv:=.string (AR t.id)) (j:=j) (xs:=DV t a) (I:=I) rfl Cm A0 Y)),
  (16,Ct (t.status:Int) 1 oG),(21,.eq (Value.bool (!((AR t.on).toList==(AR c).toList))) (.bool true) (by unfold AR;rw[Z0 (Ei O) (Ei h)];simpa using i))] ?_
 exact dn [] (b I (AB.le_refl I)) (h:={r:=.t [],upd:=LN m k c,J:=I});rw[AW (.inl g)];refine Bh func109 YY λρ l w z=>gg [(13,.hand _ [(11,.m 2),(12,.v (.string (AR t.id)))] [(2,.obj (.map m.es m.n))] I _ (N0 A6 (L:=lay) (t:=104) (a:=11) (b:=12) (km:=2) (n:=m.n) (kt:=9) (et:=53) (d1:=.string) (es:=m.es) (kv:=.string (AR t.id)) (j:=j) (xs:=DV t a) (I:=I) rfl Cm A0 Y)),
  (16,FJ (t.status:Int) 1 oG)] ?_
 exact dn [] (b I (AB.le_refl I)) (h:={r:=.t [],upd:=LN m k c,J:=I})
def AGK:∀n,AD8 n
 |0=>λI L k m c A S _ _ h=>absurd h (Nat.not_lt_zero _)
 |n+1=>λI L k m c A S C l hW g=>by
  have N:=l.a;have E:=l.bk.tl;have v:=APn I L k m c (k.AD.map (·.id)) (Oj n c) (by rw[C6];omega) C rfl λi x k' K o f=>by
   have d:DI A S k k:=⟨l,AZ _,rfl,rfl,rfl⟩;have b:DI A S k k':=by rw[o];exact ME (P:=DI A S k) (λa x h=>AAj (AAh n) h c x) _ d
   have s:x∈k'.AD.map (·.id):=by rw[f];exact Cv K
   let⟨t,r,e⟩:=BG.1 s;have H:Aw k'.AD x=some t:=by rw[<-e];exact MZ b.q.kk.ki.FB r
   refine⟨(AAj (AAh n) b c x).ids,λJ j u _ B F=> ?_⟩;rw[<-F];exact APg n (AGK n) J j k' u B b.q (by have:=b.w;omega) c x g t H
  rw[<-AAi]at v;refine Bh func56 AZZ λO M w z=>gG<|Ag v [(6,100),(7,108)] [1,2,3,4,5,6,7] kR ALu λy D=> ?_;obtain⟨u,j,J,rfl,G,p,q⟩:=D;exact gG<|dn [] ⟨u,j,J,rfl,G,p,q⟩
def f48(k:Ab)(u:AJ):Ab:={k with AD:=B5 k.AD u}
def f50(a:Nm)(k:Ab)(x:AV×Val):Ab:={k with facts:=k.facts++[⟨k.now,a,x.1,x.2⟩]}
def f52(a:Nm)(k:Ab)(x:Gp):Ab:={k with BQ:=k.BQ++[⟨k.now,a,x⟩]}
def AQj{l:List AJ}(h:l.length<=1)(k:Ab):l.foldl f48 k= {k with AD:=l.foldl B5 k.AD}:=by rcases Mw h with rfl|⟨x,rfl⟩<;>rfl
def AQk(id:Nm){l:List (AV×Val)}(h:l.length<=1)(k:Ab):l.foldl (f50 id) k= {k with facts:=k.facts++l.map λ(x:AV×Val)=>(⟨k.now,id,x.1,x.2⟩:F0)}:=by rcases Mw h with rfl|⟨x,rfl⟩;simp;rfl
def AQl(id:Nm){l:List Gp}(h:l.length<=1)(k:Ab):l.foldl (f52 id) k= {k with BQ:=k.BQ++l.map λ(x:Gp)=>(⟨k.now,id,x⟩:Lk)}:=by rcases Mw h with rfl|⟨x,rfl⟩;simp;rfl
def W4{b:Type}{l:List b}(h:l.length<=1){i:Nat}{x:b}(a:l[i]? =some x):i=0/\l=[x]:=by
 have:=(List.getElem?_eq_some_iff.1 a).1;rcases Mw h with rfl|⟨y,rfl⟩;simp at this;have:i=0:=by simp at this;omega
 subst this;cases a;exact⟨rfl,rfl⟩
abbrev Nf(I:AB)(P:AA Nat)(r:Ab×Bool):Nat->AU->Prop:=HH I P (.v (.bool r.2)) r.1
def AWm(I L k m)(b:Bl I L k m)(a)(hid:BY a)(d:Aw k.AD a=none):
 Fn 14 [.p 1 0,.v (.string (AR a))] (BN m k.im k.now) I (Nf I (Bb L m) (runK k a)) none:=by
 have e:runK k a=(k,false):=by unfold runK;rw[d]
 rw[e];have f:=(b.tm.find (Ei hid)).1 (by rw[LM];exact d);exact Bh func14 (Jy rfl) λh g w c=>gg [(15,.hand (.lookup 104 (.tmp 13) (.tmp 14) true) [(13,.m 2),(14,.v (.string (AR a)))] [(2,.obj (.map m.es m.n))] I (.t [.g ((DV NQ NR).map .v),.v (.bool false)]) (SB A6 (L:=lay) (t:=104) (a:=13) (b:=14) (km:=2) (n:=m.n) (kt:=9) (et:=53) (d1:=.string) (es:=m.es) (kv:=.string (AR a)) (zs:=DV NQ NR) rfl Cm A0 AMd f))]<|dn [] ⟨m,L,I,rfl,.refl _ _,b⟩
def AWi(I L k m)(c:Bl I L k m)(t)(hid:BY t.id)(f:Aw k.AD t.id=some t)(b:t.status≠0):
 Fn 14 [.p 1 0,.v (.string (AR t.id))] (BN m k.im k.now) I (Nf I (Bb L m) (runK k t.id)) none:=by
 have e:runK k t.id=(k,false):=by unfold runK;rw[f];dsimp only;rw[AW b]
 rw[e];let⟨j,a,g,i,_⟩:=(c.tm.find (Ei hid)).2 t (by rw[LM];exact f);exact Bh func14 (Jy rfl) λl h w d=>gg [(15,.hand _ [(13,.m 2),(14,.v (.string (AR t.id)))] [(2,.obj (.map m.es m.n))] I _ (O9 A6 (L:=lay) (t:=104) (a:=13) (b:=14) (km:=2) (n:=m.n) (kt:=9) (et:=53) (d1:=.string) (es:=m.es) (kv:=.string (AR t.id)) (j:=j) (xs:=DV t a) (I:=I) rfl Cm A0 g)),(23,FJ (t.status:Int) 0 oG)]<|dn [] ⟨m,L,I,rfl,.refl _ _,c⟩
def AWp(I)(L)(k:Ab)(m){A S N}(hK:Bl I L k m)(s:KO A S k)(hG:TJ k.im)(hA:20<=A/\A+4<=800000)(hS:S+1<=800000)(hF:BF N k)(hN:N+1<=800000)(t:AJ)(ht:Aw k.AD t.id=some t)(B:t.status=0):
 Fn 14 [.p 1 0,.v (.string (AR t.id))] (BN m k.im k.now) I (Nf I (Bb L m) (runK k t.id)) none:=by
 have am:=s.kk.ki.of ht;have W:=am.Fx t.id List.mem_cons_self;have ah:=s.now;obtain⟨j,a,h1,ha,_⟩:=(hK.tm.find (Ei W)).2 t (by rw[LM];exact ht);have ad:=APb (APc hK s hG ht B ha);have U:=WS hG.im (λ_ _ _=>trivial) (now:=k.now) s.kk.ki ht B λ_ _=>AAS _;have ao:=APe (AD:=k.AD) (im:=k.im) (t:=t) (s:=k.Ar) (now:=k.now) λn o ho w hw=>by obtain⟨t',h,_⟩:=(s.kk.ki.C5 n o ho).2 w hw;exact⟨t',h⟩
 have D:=AUG hG.im (λ_ _ _=>trivial) s.kk ht B λ_ _=>AAS _;obtain⟨H,c,M⟩:=AUF hG.ib hA.1 s.bk s.kk ht B;rw[run_eq ht B];have Q: ∀u∈(C8 k.im t k.Ar k.now).e.fork,BY u.id=true:=λu hu=>by
  have hm:u∈(IT k t.id (C8 k.im t k.Ar k.now)).AD.map (λx=>x)\/True:=.inr trivial;rcases AGH (im:=k.im) (s:=k.Ar) (now:=k.now) B (λv hv=>(am.EF.st v hv).CC)with h0|⟨x,h0,R⟩;rw[h0]at hu;cases hu;have a4:u=x:=by rw[h0]at hu;exact List.mem_singleton.1 hu
  have aw: ∃y∈(IT k t.id (C8 k.im t k.Ar k.now)).AD,y.id=u.id:=by
   have h2:u.id∈((C8 k.im t k.Ar k.now).e.woken.foldl G7 ((C8 k.im t k.Ar k.now).e.fork.foldl B5 (Az k.AD (C8 k.im t k.Ar k.now).t))).map (·.id):=by
    rw[AL7,h0];have a3:Aw (B5 (Az k.AD (C8 k.im t k.Ar k.now).t) x) x.id=some x:=by rw[AC7,if_pos rfl]
    rw[a4];exact List.mem_map.2 ⟨x,Ed a3,rfl⟩
   obtain⟨y,z,e⟩:=List.mem_map.1 h2;exact⟨y,z,e⟩
  obtain⟨y,z,e⟩:=aw;rw[<-e];exact(D.ki.Gj y z).Fx y.id List.mem_cons_self
 generalize C8 k.im t k.Ar k.now=r at ad U ao D H c M Q⊢;have ai:BY r.t.id=true:=by rw[U.id];exact W
 have az:Aw k.AD r.t.id=some t:=by rw[U.id];exact ht
 have a2:FY (Az k.AD r.t):=sorted_put s.kk.ki.FB _;refine Bh Tryz.func14 (Jy rfl) λρ key w a7=>gg [(15,.hand _ [(13,.m 2),(14,.v (.string (AR t.id)))] [(2,.obj (.map m.es m.n))] I _ (O9 A6 (L:=lay) (t:=104) (a:=13) (b:=14) (km:=2) (n:=m.n) (kt:=9) (et:=53) (d1:=.string) (es:=m.es) (kv:=.string (AR t.id)) (j:=j) (xs:=DV t a) (I:=I) rfl Cm trivial h1)),(23,Ct (t.status:Int) 0 oG)]<|Ag ad PU [1,2,3] kR (λkey y f kb K=>by obtain⟨E,m',J,rfl,_⟩:=f;simp only[List.mem_cons,List.not_mem_nil,_root_.or_false]at K⊢;rcases K with rfl|rfl|rfl<;>simp) λy f=> ?_
 obtain⟨E,m2,J2,rfl,aj,g⟩:=f
 refine gG<|Ag (Qb J2 {m with sm:=m2.sm} k.im k.now (D9 k.AD) r.t m2.a (Ei ai) g.AD (DO.A8 aj.le hK.tm)) [] [1,2,3,4,5] kR (λkey y f kb K=>by obtain⟨es',n',_,rfl⟩:=f;exact(Dr (key:=0) (nb:=[]) kb K).1) λy f=> ?_
 obtain⟨ab,n3,an,rfl⟩:=f;have Dd:(LW (D9 k.AD) r.t.id r.t).Perm (D9 (Az k.AD r.t)):=by have:=SO k.AD r.t;unfold B5 at this;rw[az]at this;exact this
 obtain⟨aq,ay⟩:=hK.U0 (k':={k with Ar:=r.s,AD:=Az k.AD r.t}) (m':={m with sm:=m2.sm,es:=ab,n:=n3}) aj ⟨rfl,rfl⟩ ⟨rfl,Qo _ _⟩ ⟨rfl,rfl⟩ ⟨rfl,rfl⟩ (an.SK Dd) g.Bm g.Cq;refine gG ?_;have ax:(Az k.AD r.t).length<=800000:=by rw[Lz.PP];have:=s.bk.tl;omega
 have X:=APo J2 m2.L {k with Ar:=r.s,AD:=Az k.AD r.t} {m with sm:=m2.sm,es:=ab,n:=n3} r.e.fork m2.fork f48 (by have:=c.fk.1;omega) g.fork.ls aq λi x k' R d J L' m' row hle T b=>by
  obtain⟨rfl,F⟩:=W4 c.fk.1 R;obtain⟨q,rfl,hq⟩:=b;have d:k'= {k with Ar:=r.s,AD:=Az k.AD r.t}:=d;subst d;exact AHw J L' _ m' x q ⟨T,hq,Q x (by rw[F];exact List.mem_cons_self),λy z=>by rcases Hf z with rfl|⟨z,_⟩;exact ai;exact(s.kk.ki.Gj y z).Fx y.id List.mem_cons_self,a2,by show(Az k.AD r.t).length<=900000;omega⟩
 rw[AQj c.fk.1]at X;refine Ag X [] [1,2,3,4,5] kR LX λy f=> ?_;obtain⟨m4,L4,J4,rfl,ak,ar⟩:=f;refine gG ?_;have p:=ak.le;have Y:=APp J4 L4 {k with Ar:=r.s,AD:=r.e.fork.foldl B5 (Az k.AD r.t)} m4 r.e.out m2.out t.id (f50 t.id) (by have:=c.ou.1;omega) (g.out.ls.A8 p λ_ _ h=>h) ar λi x k' R d J L' m' row hle T b=>by obtain⟨rfl,F⟩:=W4 c.ou.1 R;have b:row=Uj x:=b;subst b;have d:k'= {k with Ar:=r.s,AD:=r.e.fork.foldl B5 (Az k.AD r.t)}:=d;subst d;exact ASk J L' _ m' t.id x T (by show k.facts.length<=900000;have:=hF.fl;omega)
 rw[AQk t.id c.ou.1]at Y;refine Ag Y [] [1,2,3,4,5] kR LX λy f=> ?_;obtain⟨m5,L5,J5,rfl,V,au⟩:=f;refine gG ?_;have Z:=APq J5 L5 _ m5 r.e.log m2.log t.id (f52 t.id) (by have:=c.lg;omega) (g.log.ls.A8 (p.trans V.le) λ_ _ h=>h) au λi x k' R d J L' m' row hle T b=>by obtain⟨rfl,F⟩:=W4 c.lg R;have b:row=QK x:=b;subst b;have d:k'= {k with Ar:=r.s,AD:=r.e.fork.foldl B5 (Az k.AD r.t),facts:=k.facts++r.e.out.map λ(x:AV×Val)=>(⟨k.now,t.id,x.1,x.2⟩:F0)}:=d;subst d;exact ASh J L' _ m' t.id x T (by show k.BQ.length<=900000;have:=hF.ll;omega)
 rw[AQl t.id c.lg]at Z;refine Ag Z [] [1,2,3,4,5] kR LX λy f=> ?_;obtain⟨m6,L6,J6,rfl,al,av⟩:=f;refine gG ?_;have C:=(p.trans V.le).trans al.le;have aa:=APr J6 L6 _ m6 r.e.woken m2.woken Pe (by have:=c.wk.1;omega) (g.woken.ls.A8 C λx l h=>Yd C x l h) av λi x k' R d J L' m' row hle T b=>by
  obtain⟨rfl,F⟩:=W4 c.wk.1 R;obtain⟨va,vc,vl,rfl,hv⟩:=b;have d:k'= {k with Ar:=r.s,AD:=r.e.fork.foldl B5 (Az k.AD r.t),facts:=k.facts++r.e.out.map λ(x:AV×Val)=>(⟨k.now,t.id,x.1,x.2⟩:F0),BQ:=k.BQ++r.e.log.map λ(x:Gp)=>(⟨k.now,t.id,x⟩:Lk)}:=d;subst d;have ap:x∈r.e.woken:=by rw[F];exact List.mem_cons_self
  obtain⟨t',P⟩:=ao x ap;have hex: ∃y,Aw (r.e.fork.foldl B5 (Az k.AD r.t)) x.1=some y:=by
   have h1: ∃y,Aw (Az k.AD r.t) x.1=some y:=by rw[Qw];split;rw[P];exact⟨_,rfl⟩;exact⟨_,P⟩
   obtain⟨y,z⟩:=h1;rcases Mw c.fk.1 with e|⟨u,e⟩;rw[e];exact⟨y,z⟩;rw[e];show∃y,Aw (B5 (Az k.AD r.t) u) x.1=some y;rw[AC7];split;exact⟨_,rfl⟩;exact⟨y,z⟩
  obtain⟨y,z⟩:=hex;have a5:BT (A+3) y:=by
   have h1:BK (A+2) (S+1) (Az k.AD r.t) r.s:=⟨((s.bk.mono (B:=A+2) oG (Nat.le_refl _)).put H.t).ts,H.o,by rw[Lz.PP];have:=s.bk.tl;omega,H.s⟩;have h2:BK (A+3) (S+1) (r.e.fork.foldl B5 (Az k.AD r.t)) r.s:=by rcases Mw c.fk.1 with e|⟨u,e⟩;rw[e];exact h1.mono oG (Nat.le_refl _);have:=c.fk.2 u (by rw[e];exact List.mem_cons_self);rw[e];exact h1.fork (this.mono oG)
   exact h2.ts y (Ed z)
  have a6:BY y.id=true:=by have e1:=GD z;rw[e1,<-GD P];exact(s.kk.ki.of P).Fx t'.id List.mem_cons_self
  exact AZG J L' _ m' y x va vc vl T z a6 (by have:=a5.c.st;omega) (by have:=(c.wk.2 x ap).1;omega) hv
 have ag:r.e.woken.foldl Pe {k with Ar:=r.s,AD:=r.e.fork.foldl B5 (Az k.AD r.t),facts:=k.facts++r.e.out.map λ(x:AV×Val)=>(⟨k.now,t.id,x.1,x.2⟩:F0),BQ:=k.BQ++r.e.log.map λ(x:Gp)=>(⟨k.now,t.id,x⟩:Lk)}=IT k t.id r:=Pf _ _;rw[ag]at aa;refine Ag aa [] [1,2,3,4,5] kR LX λy f=> ?_;obtain⟨m7,L7,J7,rfl,a0,G⟩:=f;have O:=(((ay.trans ak).trans V).trans al).trans a0;have af:(IT k t.id r).im=k.im/\(IT k t.id r).now=k.now:=⟨rfl,rfl⟩;cases hd:r.e.done with
 |false=>
  rw[if_neg sP];generalize IT k t.id r=km at G D M O af⊢;exact gg [(69,.eq (Value.bool r.e.done) (.bool false) (by rw[hd]))]<|dn [] ⟨m7,L7,J7,rfl,O,G⟩
 |true=>
  rw[if_pos rfl];have ac:=AGK ((IT k t.id r).AD.length+1) J7 L7 (IT k t.id r) m7 t.id (A+4) (S+1) G ⟨D,M,hA.2,hS,ah⟩ (by have:Mb (IT k t.id r).AD<=(IT k t.id r).AD.length:=List.countP_le_length;omega) W;generalize IT k t.id r=km at G D M O af ac⊢;refine gg [(69,.eq (Value.bool r.e.done) (.bool true) (by rw[hd]))]<|Ag ac [] [1,2,3,4,5] kR AKB λy f=> ?_;obtain⟨m8,L8,J8,rfl,a1,ae,_⟩:=f;generalize F4 (km.AD.length+1) km t.id=kd at ae⊢;exact gG<|dn [] ⟨m8,L8,J8,rfl,O.trans a1,ae⟩
def CE.reads{I a e Aa s}(h:CE I a e Aa s){need}:Reads I need s.sv a s.n Aa:=by let⟨f,d,g⟩:=s;rcases h.at_ with⟨q1,q2,q3⟩|⟨b,c,q1,q2,_⟩;simp only at q1 q2 q3;subst q1;subst q2;subst q3;have:Aa=[]:=Hm (by have:=h.n;simpa using this);subst this;exact NG;simp only at q1;subst q1;refine AWG q2.B0 ?_ h.n h.one;show((Aa++c).drop 0).take (d*a)=Aa;rw[Q6,<-h.n,RA]
def AO0(I)(xs)(s)(hc:s.n<=16777216)(h:CE I 8 63 xs s):Fn 45 [s.sv] [] I (Px I 8 s.n xs) none:=by have m:=λneed=>h.reads (need:=need);have d:=h.at_;have hlen:=h.n;have e:=h.one;let⟨a,n,c⟩:=s;simp only at d hlen hc;refine Iv 8 Tryz.func45 Tryz.ntmps45 rfl rfl kR Ya λρ key w j=> ?_;rcases d with⟨rfl,rfl,rfl⟩|⟨i,g,rfl,_⟩;have o:xs=[]:=Hm (by simpa using hlen);subst o;refine gg [(4,.op I _ (.v (.bool true)) (Ka (a:=none) (n:=0) (c:=0) (.tmp 3) (.const (.slice none 0 0)) ALn))] ?_;exact dn [] ⟨none,0,I,rfl,AB.le_refl _,BS _,by unfold maxLen;omega,Ch.nil⟩;refine gg [(4,.op I _ (.v (.bool false)) (Ka (a:=some ⟨i,0,none⟩) (n:=n) (c:=c) (.tmp 3) (.const (.slice none 0 0)) ALn))]<|act (need:=[(124,.Aa [] 63)]) [124] kR (JC A6 (n:=0) (cap:=0) (vs:=[]) (olds:=[]) (x:=.v (.slice (some ⟨i,0,none⟩) n c)) AEt kR sP rfl rfl sP (m _) (AZ _) (by unfold maxLen;omega) (by show 0+n<=16777216;omega)) ?_ (Oa (.inr ⟨_,_,_,rfl,rfl⟩)) ?_;rintro h ⟨cap,AC,_,_,_,rfl⟩ kb f;rw[AP.1 f];exact AP.2 rfl;rintro h' ⟨cap,AC,h1,k,p,rfl⟩;exact gG<|BW 140 I (vs:=xs++AC) (e:=63) kR λb J hle _ l=>gG<|dn [] ⟨_,cap,J,sP,hle,oG,k,Ch.NC l hlen e⟩ (h:={r:=.v (.slice (some ⟨b,0,none⟩) (0+n) cap),J:=J})
def ABf{ι:Type}{I:AB}{m:BJ}{im:Ak}{now:Nat}{S:ι->SV}{R:AB->ι->Prop}(hk: ∀x,(S x).keys=[]):CO (Pw I (BN m im now) S R) (BN m im now) I:=
 AMI hk (λkb a k hk=>by rcases(Dr (key:=0) (nb:=[]) kb a).2 k hk with h|h;simpa using h;cases h) sP
abbrev AEQ(I:AB)(m:BJ)(c:Ak)(b a n:Nat)(d:AA AE):Nat->AU->Prop:=Pw I (BN m c b) (λp:AK Ac×Nat=>.v (.slice p.1 n p.2)) (λJ p=>n<=p.2/\p.2<=maxLen/\Ch J a p.1 n d)
def AS3(I m g b e)(l:m.lk.n<=16777216)(h:CE I 8 63 e m.lk):Fn 13 [.p 1 0] (BN m g b) I (AEQ I m g b 8 m.lk.n e) none:=by have d:=AO0 I e m.lk l h;exact fo func13 (ABf λ_=>rfl) λo n w f=>gG<|Iq d kR λa c J hle i j k=>gG<|dn [] ⟨(a,c),J,rfl,hle,i,j,k⟩
def AKe(I L k m){A S N}(d:Bl I L k m)(h:KO A S k)(g:TJ k.im)(f:20<=A/\A+4<=800000)(i:S+1<=800000)(hF:BF N k)(hN:N+1<=800000)(b)(hid:BY b):
 Fn 14 [.p 1 0,.v (.string (AR b))] (BN m k.im k.now) I (Nf I (Bb L m) (runK k b)) none:=by
 cases c:Aw k.AD b with
 |none=>exact AWm I L k m d b hid c
 |some t=>
  have e:=GD c;subst e;by_cases a:t.status=0;exact AWp I L k m d h g f i hF hN t c a;exact AWi I L k m d t hid c a
def AVd(I L k m){A S N}(B:Bl I L k m)(c:KO A S k)(z:TJ k.im)(x:20<=A/\A+4<=800000)(K:S+A+1<=800000)(hF:BF N k)(hN:N+1<=800000)(d:k.now+1<=900000)(e)(hid:BY e):
 Fn 25 [.p 1 0,.v (.string (AR e))] (BN m k.im k.now) I (Nf I (Bb L m) (MR k e)) none:=by
 have C:=AE6 I L k m B c oG d;let⟨u,v,H,J⟩:=Tg k;let⟨g,h⟩:=AE5 c.bk hF c.kk;have f:KO A (S+A) (FF k):=⟨AE7 c.kk,g,c.a,oG,by rw[v];omega⟩;unfold MR;refine Bh func25 (Jy rfl) λM E w n=>gG<|Ag C [] [1,2,3,4,5] kR LX λy i=> ?_;obtain⟨F,s,p,rfl,j,a⟩:=i;have o:=AKe p s (FF k) F a f (by rw[u];exact z) x oG h hN e hid;generalize FF k=D at a o⊢;refine gG<|Ag o [] [1,2,3,4,5] kR LX λy i=> ?_;obtain⟨G,t,q,rfl,l,b⟩:=i;generalize runK D e=r at b⊢;exact gG<|dn [] ⟨G,t,q,rfl,j.trans l,b⟩
abbrev Vj(I:AB)(m:BJ)(b:Ak)(a:Nat)(t:AJ)(c:Bool):Nat->AU->Prop:=Pw I (BN m b a) (λq:CV=>.t [.g (CG t q),.v (.bool c)]) (λJ q=>Co J t q)
def ALT(I L k m)(d:Bl I L k m)(a)(hid:BY a)(e:Aw k.AD a=none):Fn 12 [.p 1 0,.v (.string (AR a))] (BN m k.im k.now) I (Vj I m k.im k.now NQ false) none:=by have c:=(d.tm.find (Ei hid)).1 (by rw[LM];exact e);exact fo func12 (ABf λ_=>rfl) λg f w b=>gg [(15,.hand (.lookup 104 (.tmp 13) (.tmp 14) true) [(13,.m 2),(14,.v (.string (AR a)))] [(2,.obj (.map m.es m.n))] I (.t [.g ((DV NQ NR).map .v),.v (.bool false)]) (SB A6 (L:=lay) (t:=104) (a:=13) (b:=14) (km:=2) (n:=m.n) (kt:=9) (et:=53) (d1:=.string) (es:=m.es) (kv:=.string (AR a)) (zs:=DV NQ NR) rfl Cm A0 AMd c))]<|dn [] ⟨NR,I,rfl,AB.le_refl _,AaE⟩
def AOz(I c):Fn 44 [.v (.slice none 0 c)] [] I (A1 (.v (.slice none 0 0)) I) none:=Iv 8 func44 ntmps44 rfl rfl kR (BZ rfl) λd b w a=>gg [(4,.op I _ (.v (.bool true)) (Ka (a:=none) (n:=0) (c:=c) (.tmp 3) (.const (.slice none 0 0)) Sp))]<|fi
structure TX where
 i:Nat
 J:AB
 fl:AA AE
def YI(t:AJ)(c:SV)(d:AK Ac)(e:Nat)(f:AK Ac)(g:Nat)(a:AK Ac)(b:Nat):AA SV:=
 [.v (.string (AR t.id)),.v (.string (AR t.path)),.v (.string (str t.g.cur.1)),.v (.string (str t.g.cur.2)),.v (.string (str t.g.Al.1)),.v (.string (str t.g.Al.2)),
  c,.v (.slice d t.c.stack.length e),.v (.slice f t.c.tries.length g),.v (.slice a t.scopes.length b),.v (.int .i64 t.made),.v (.int .i64 t.room),.v (.int .i64 t.status),.v (.string (AR t.on)),
  .v (.int .i64 t.v.kind),.v (.int .i64 t.v.n),.v (.string (AR t.v.name)),.v (.string (str t.v.l.1)),.v (.string (str t.v.l.2)),.v (.bool t.ex)]
def ALM(m:BJ)(im:Ak)(now:Nat)(t:AJ)(n cap:Nat)(sa:AK Ac)(sc:Nat)(ta:AK Ac)(tc:Nat)(ca:AK Ac)(cc:Nat)(AC:AA AE)(x:TX):Hd where
 By:=[(4,.p 6 0),(6,.p 7 0),(46,.v (.int .i64 (n:Int))),(47,.v (.int .i64 (x.i:Int)))]
 Bu:=[(1,.cells (m.row im now) 107),(2,.obj (.map m.es m.n)),(3,.cells [.m 4,.m 5] 178),(4,.obj (.map m.sm.es m.sm.n)),(5,.obj (.map m.sm.ns m.sm.m)),(6,.cells ((DV NQ NR).map .v) 53),(7,.cells (YI t (.s 8 0 n cap) sa sc ta tc ca cc) 53),(8,.Aa (x.fl++AC) 65)]
 J:=x.J
structure TP(I:AB)(fs:AA B7)(x:TX):Prop where
 i:x.i<=fs.length
 le:I.le x.J
 rows:Rows (E7 x.J) fs x.fl
def AYG(m:BJ)(im:Ak)(now:Nat)(t:AJ)(sa:AK Ac)(sc:Nat)(ta:AK Ac)(tc:Nat)(ca:AK Ac)(cc:Nat)(J:AB):Hd where
 By:=[(4,.p 6 0),(6,.p 7 0),(46,.v (.int .i64 0)),(47,.v (.int .i64 0))]
 Bu:=[(1,.cells (m.row im now) 107),(2,.obj (.map m.es m.n)),(3,.cells [.m 4,.m 5] 178),(4,.obj (.map m.sm.es m.sm.n)),(5,.obj (.map m.sm.ns m.sm.m)),(6,.cells ((DV NQ NR).map .v) 53),(7,.cells (YI t (.v (.slice none 0 0)) sa sc ta tc ca cc) 53)]
 J:=J
def AQw{J f c d a}(h:Aj J Ey 5 f.vars c d a):∀ {I:AB} (b:AA AE),E7 I f b->E7 J f (splice b 4 [.slice c f.vars.length d]):=by rintro I b ⟨e,g,i,rfl,q⟩;exact⟨c,d,a,rfl,h⟩
def ALV(I L k m)(hK:Bl I L k m)(t)(hid:BY t.id)(ht:Aw k.AD t.id=some t)(ap:t.scopes.length<=900000)(hle:Jd t.c)(hv:∀f∈t.c.AF,f.vars.length<=900000):
 Fn 12 [.p 1 0,.v (.string (AR t.id))] (BN m k.im k.now) I (Vj I m k.im k.now t true) none:=by
 let⟨j,⟨⟨fa,fc,K,ac,ae,z,af,ag,A⟩,ca0,cc0,cl0⟩,h1,ha,_⟩:=(hK.tm.find (Ei hid)).2 t (by rw[LM];exact ht);have l1:=hle.f;have l2:=hle.s;have l3:=hle.t;have ah:=AOt I ca0 t.scopes.length cc0 cl0 oG ha.s.sl;refine fo func12 (ABf λ_=>rfl) λρ aq w ao=>gg [(15,.hand _ [(13,.m 2),(14,.v (.string (AR t.id)))] [(2,.obj (.map m.es m.n))] I _ (O9 A6 (L:=lay) (t:=104) (a:=13) (b:=14) (km:=2) (n:=m.n) (kt:=9) (et:=53) (d1:=.string) (es:=m.es) (kv:=.string (AR t.id)) (j:=j) (xs:=DV t ⟨⟨fa,fc,K,ac,ae,z,af,ag,A⟩,ca0,cc0,cl0⟩) (I:=I) rfl Cm A0 h1))]<|Iq ah kR λF G J1 aa k1 k2 k3=>gG<|Iq (AAR J1 ac t.c.stack.length ae z oG (ha.up aa).c.s.sl) kR λQ R J2 ab s1 s2 s3=>gG ?_;have E:=aa.trans ab;refine Iq (AOw J2 af t.c.tries.length ag A oG (ha.up E).c.t.sl) kR λS U a P t1 t2 t3=>gG ?_;have y:=E.trans P;have W:=ha.up y;have B:∀J,a.le J->Aj J LY 14 t.scopes F G cl0:=λJ l=>⟨(k3.up ab).up (P.trans l),k1,k2,ha.s.rows⟩;have C:∀J,a.le J->Aj J Ey 5 t.c.stack Q R z:=λJ l=>⟨s3.up (P.trans l),s1,s2,ha.c.s.rows⟩;have D:∀J,a.le J->Aj J Pb 3 t.c.tries S U A:=λJ l=>⟨t3.up l,t1,t2,ha.c.t.rows⟩;cases fa with
 |none=>
  have hf:=W.c.f;have O:=hf.sl.UZ;have ak:t.c.AF=[]:=Hm O;have V:Fn 44 [.v (.slice none t.c.AF.length fc)] [] a (A1 (.v (.slice none 0 0)) a) none:=by rw[show t.c.AF.length=0 from O];exact AOz a fc
  refine call V kR<|gG<|loop (ι:=Unit) (λ_=>True) (λ_=>0) (λ_=>AYG m k.im k.now t Q R S U F G a) 300 [(6,100),(7,188)] () A0 kR kR ?_;rintro⟨⟩ _ _ T;refine gg [(48,hF ((0:Int)<(0:Int)) oG)] ?_;refine dn [] ⟨⟨⟨none,0,[],Q,R,z,S,U,A⟩,F,G,cl0⟩,a,?_,y,⟨⟨by rw[ak];exact Aj.empty,C a (AB.le_refl _),D a (AB.le_refl _)⟩,B a (AB.le_refl _)⟩⟩ (h:={r:=.t [.g (YI t (.v (.slice none 0 0)) Q R S U F G),.v (.bool true)],upd:=BN m k.im k.now,J:=a});unfold CG YI;rw[O]
 |some ad=>
  have hf:=W.c.f;refine Nl (WI a ad t.c.AF.length fc K oG hf.sl) kR λc AC ai aj hj=>gG<|loop (ι:=TX) (TP a t.c.AF) (λx=>t.c.AF.length-x.i) (ALM m k.im k.now t t.c.AF.length c Q R S U F G AC) 300 [(6,100),(7,188),(8,404)] ⟨0,a,K⟩ ⟨BS _,AB.le_refl _,hf.rows⟩ kR kR ?_;rintro⟨i,J,fl⟩ ⟨p1,p2,p3⟩ again T;simp only at p1 p2 p3;have N:fl.length=t.c.AF.length*5:=p3.len (HW _);by_cases p:i<t.c.AF.length;have hx:t.c.AF[i]? =some t.c.AF[i]:=A9 p;have am:=hv _ (DF p);generalize t.c.AF[i]=f at hx am;let⟨va,vc,H,e1,Z⟩:=p3.get (HW _) hx;have M:(fl++AC)[0+i*5+4]? =some (.slice va f.vars.length vc):=by
   have:((fl.drop (i*5)).take 5)[4]? =some (.slice va f.vars.length vc):=by rw[e1];rfl
   rw[GX,AW oG,II]at this;rw[D5,FT (by rw[N];omega)];exact this
  refine gg [(48,hT ((i:Int)<(t.c.AF.length:Int)) oG),
   (58,.hand (.indexAddr 45 (.tmp 56) (.tmp 57)) [(56,.s 8 0 t.c.AF.length c),(57,.v (.int .i64 (i:Int)))] [] J (.p 8 (0+i*5)) (Hb A6 (L:=lay) (t:=45) (a:=56) (b:=57) (k:=8) (off:=0) (n:=t.c.AF.length) (c:=c) (i:=i) (e:=65) (ty:=⟨5,_,_⟩) rfl rfl p)),
   (60,.hand (.load 29 (.tmp 59)) [(59,.p 8 (0+i*5+4))] [(8,.Aa (fl++AC) 65)] J (.v (.slice va f.vars.length vc)) (MM A6 (L:=lay) (t:=29) (a:=59) (k:=8) (off:=0+i*5+4) (ty:=⟨1,_,_⟩) (vs:=fl++AC) (e:=65) rfl rfl M))] ?_
  refine Iq (AAR J va f.vars.length vc H oG Z.sl) kR λn o g u q1 q2 q3=>gg [(62,.hand (.indexAddr 45 (.tmp 52) (.tmp 53)) [(52,.s 8 0 t.c.AF.length c),(53,.v (.int .i64 (i:Int)))] [] g (.p 8 (0+i*5)) (Hb A6 (L:=lay) (t:=45) (a:=52) (b:=53) (k:=8) (off:=0) (n:=t.c.AF.length) (c:=c) (i:=i) (e:=65) (ty:=⟨5,_,_⟩) rfl rfl p))]<|Bm (k:=8) (off:=0+i*5+4) (t:=29) (ad:=.tmp 63) (x:=.tmp 61) (e:=65) (vs:=fl++AC) (cs:=[.slice n f.vars.length o]) (ty:=⟨1,_,_⟩) (I':=g) kR kR kR rfl rfl (by rw[Bc,N];show 0+i*5+4+1<=_;omega) (by intro v hv;rw[AP.1 hv];rfl) kR ?_;have al:splice (fl++AC) (0+i*5+4) [.slice n f.vars.length o]=splice fl (i*5+4) [.slice n f.vars.length o]++AC:=by rw[D5,Se (by rw[N];show i*5+4+1<=_;omega)]
  rw[al];refine gg [(64,hW ((i:Int)+1) ((i+1:Nat):Int) oG oG)] ?_;refine back [] (ALM m k.im k.now t t.c.AF.length c Q R S U F G AC ⟨i+1,g,splice fl (i*5+4) [.slice n f.vars.length o]⟩) 300 kR kR kR λT'=>again ⟨i+1,g,splice fl (i*5+4) [.slice n f.vars.length o]⟩ ⟨by show i+1<=_;omega,p2.trans u,?_⟩ (by show t.c.AF.length-(i+1)<t.c.AF.length-i;omega) T';have Y:t.c.AF.set i f=t.c.AF:=by apply S3;intro q;rw[S4];by_cases e:i=q;subst e;rw[AW rfl,AW p,hx];rw[AN e]
  show Rows (E7 g) t.c.AF _;have:=Rows.upd (S:=E7 g) (HW _) (λx l h=>MF u x l h) p3 hx (x':=f) (cs:=[.slice n f.vars.length o]) (j:=4) (λan X=>AQw (J:=g) ⟨q3,q1,q2,Z.rows⟩ an X) sP;rw[Y]at this;exact this;have hi:i=t.c.AF.length:=oG;subst hi;refine BW 8 J (vs:=fl++AC) (e:=65) kR λb g u _ hJ=>gg [(48,hF ((t.c.AF.length:Int)<(t.c.AF.length:Int)) oG)] ?_;have d:=p2.trans u;have s:Rows (E7 g) t.c.AF fl:=p3.mono λx l h=>MF u x l h;exact dn [] ⟨⟨⟨some ⟨b,0,none⟩,c,fl,Q,R,z,S,U,A⟩,F,G,cl0⟩,g,rfl,y.trans d,⟨⟨Aj.JN hJ s (HW _) (Xg s) ai aj,C g d,D g d⟩,B g d⟩⟩
structure AD9(f:Lz.DT):Prop where
 a:f.args<=16
 v:f.args+f.vars<=16
 c:0<f.code.length/\f.code.length<=256
 o:∀o∈f.code,Gf o
def T8(f:Lz.DT)(a:AK Ac)(b:Nat):AA AE:=[.int .i64 f.args,.int .i64 f.vars,.slice a f.code.length b]
def AFm(I:AB)(ca:AK Ac)(n cc:Nat)(i:Nat):Hd where
 By:=[(38,.v (.slice ca n cc)),(39,.v (.int .i64 (n:Int))),(40,.v (.int .i64 (i:Int)))]
 J:=I
def AOf(I)(k:DK I)(f j)(g:Nat)(a)(h:AD9 f)(r:Aj I PI 2 f.code j g a):Fn 267 [.g ((T8 f j g).map .v)] [] I (A1 (.v (.int .i64 0)) I) none:=by let⟨h1,h2,⟨v,x⟩,h5⟩:=h;refine fo func267 (BZ rfl) λy s w m=>gg [(7,hF ((f.args:Int)<0) oG),(11,hF ((f.args:Int)>16) oG),(16,hF ((f.vars:Int)<0) oG),(21,hF ((f.vars:Int)>16) oG),(27,hW ((f.args:Int)+(f.vars:Int)) ((f.args+f.vars:Nat):Int) oG oG),(28,hF (((f.args+f.vars:Nat):Int)>16) oG),(32,hN (f.code.length:Int) 0 oG),(36,hF ((f.code.length:Int)>256) oG)]<|loop (ι:=Nat) (λi=>i<=f.code.length) (λi=>f.code.length-i) (AFm I j f.code.length g) 1000 [] 0 (BS _) kR kR ?_;intro i l again T;by_cases c:i<f.code.length;have p:f.code[i]? =some f.code[i]:=A9 c;have n:=h5 _ (DF c);generalize f.code[i]=o at p n;obtain⟨b,d,arr,e,u,t,rfl,q2,q3,q4,q5⟩:=r.cell Xj p;subst q3;exact gg [(41,hT ((i:Int)<(f.code.length:Int)) oG),(42,BM I Nq b d f.code.length g i c),(43,DR I Ut (d+i*2) (B8 o) rfl q2 q5)]<|call (Ur I k o n) kR<|gg [(47,hW ((i:Int)+1) ((i+1:Nat):Int) oG oG)]<|back [] (AFm I (some ⟨b,d,none⟩) f.code.length g (i+1)) 1000 kR kR kR λq=>again (i+1) oG oG q;have l:i=f.code.length:=oG;subst l;exact gg [(41,hF ((f.code.length:Int)<(f.code.length:Int)) oG)]<|fi
structure Nb(im:Ak):Prop where
 cs:im.consts.length<=64
 fs:0<im.Ad.length/\im.Ad.length<=16
 ck:∀v∈im.consts,(v=whole v.n\/(v=Cx v.l/\Ap v.l=v.l))
 fk:∀f∈im.Ad,AD9 f
def ABT(I:AB)(im:Ak)(ip:CY)(i:Nat):Hd where
 By:=[(1,.p 1 0),(19,.v (.slice ip.ka im.consts.length ip.kc)),(20,.v (.int .i64 (im.consts.length:Int))),(21,.v (.int .i64 (i:Int)))]
 Bu:=[(1,.cells (De im ip) 32)]
 J:=I
def AHU(I:AB)(im:Ak)(ip:CY)(i:Nat):Hd where
 By:=[(44,.v (.slice ip.ua im.Ad.length ip.uc)),(45,.v (.int .i64 (im.Ad.length:Int))),(46,.v (.int .i64 (i:Int)))]
 J:=I
def AOi{v}(h:v=whole v.n\/(v=Cx v.l/\Ap v.l=v.l)):v.right/\(v.kind=1\/v.kind=2)/\Ap v.l=v.l:=by rcases h with h|⟨h,a⟩;rw[h];exact⟨AKK _,.inl rfl,Xd⟩;refine⟨?_,.inr ?_,a⟩;rw[h,AKH];simpa using a;rw[h];rfl
def AHX(I)(A:DK I)(Q:Pow I)(a D)(j:D3 I a D)(h:Nb a):Fn 187 [.g (De a D)] [] I (A1 (.v (.int .i64 0)) I) none:=by
 let⟨h1,⟨U,V⟩,h4,h5⟩:=h;have K:=j.k;have M:=j.u;let⟨E,k,s,y,l,u⟩:=D;simp only at K M;refine fo func187 (BZ rfl) λz r w L=>gg [(11,hF ((a.consts.length:Int)>64) oG),(16,hF ((a.Ad.length:Int)>16) oG)]<|loop (ι:=Nat) (λi=>i<=a.consts.length) (λi=>a.consts.length-i) (ABT I a ⟨E,k,s,y,l,u⟩) 1000 [(1,100)] 0 (BS _) kR kR ?_;intro i j again T;by_cases d:i<a.consts.length;have p:a.consts[i]? =some a.consts[i]:=A9 d;let⟨N,x,R⟩:=AOi (h4 _ (DF d));have o:WV a.consts[i]:=⟨by rcases h4 _ (DF d)with q|q;exact .inl q;exact .inr (.inl q.1),H8 R⟩;generalize a.consts[i]=v at p N x o;obtain⟨b,c,arr,e,P,t,rfl,q2,q3,q4,q5⟩:=K.cell G6 p;have q3:t=Au v:=q3;subst q3;have B:=ADS I Q v o;rw[N]at B;have J:∀H:BU,At 187 f187 f187.ntmps I w z [] (Ends I z r w (A1 (.v (.int .i64 0)) I) none) H->At 187 f187 f187.ntmps I w z [] (Ends I z r w (A1 (.v (.int .i64 0)) I) none) H:=λ_ h=>h;rcases x with x|x;exact gg [(22,hT ((i:Int)<(a.consts.length:Int)) oG),(23,BM I E5 b c a.consts.length k i d),(24,DR I MX (c+i*5) (Au v) rfl q2 q5),(27,Ct (v.kind:Int) 1 oG)]<|call B kR<|gg [(38,hW ((i:Int)+1) ((i+1:Nat):Int) oG oG)]<|back [] (ABT I a ⟨some ⟨b,c,none⟩,k,s,y,l,u⟩ (i+1)) 1000 kR kR kR λm=>again (i+1) oG oG m
 exact gg [(22,hT ((i:Int)<(a.consts.length:Int)) oG),(23,BM I E5 b c a.consts.length k i d),(24,DR I MX (c+i*5) (Au v) rfl q2 q5),(27,FJ (v.kind:Int) 1 oG),(31,Ct (v.kind:Int) 2 oG)]<|call B kR<|gg [(38,hW ((i:Int)+1) ((i+1:Nat):Int) oG oG)]<|back [] (ABT I a ⟨some ⟨b,c,none⟩,k,s,y,l,u⟩ (i+1)) 1000 kR kR kR λm=>again (i+1) oG oG m;have j:i=a.consts.length:=oG;subst j;refine gg [(22,hF ((a.consts.length:Int)<(a.consts.length:Int)) oG),(42,hN (a.Ad.length:Int) 0 oG)]<|loop (ι:=Nat) (λi=>i<=a.Ad.length) (λi=>a.Ad.length-i) (AHU I a ⟨E,k,s,y,l,u⟩) 3000 [] 0 (BS _) kR kR ?_;intro i j g S;by_cases d:i<a.Ad.length;have p:a.Ad[i]? =some a.Ad[i]:=A9 d;have n:=h5 _ (DF d);generalize a.Ad[i]=f at p n;obtain⟨b,c,arr,e,P,t,rfl,q2,q3,q4,q5⟩:=M.cell (T7 I) p;obtain⟨F,G,O,rfl,C⟩:=q3;exact gg [(47,hT ((i:Int)<(a.Ad.length:Int)) oG),(48,BM I LI b c a.Ad.length l i d),(49,DR I AKS (c+i*3) (T8 f F G) rfl q2 q5)]<|call (AOf I A f F G O n C) kR<|gg [(55,hW ((i:Int)+1) ((i+1:Nat):Int) oG oG)]<|back [] (AHU I a ⟨E,k,s,some ⟨b,c,none⟩,l,u⟩ (i+1)) 3000 kR kR kR λm=>g (i+1) oG oG m;have j:i=a.Ad.length:=oG;subst j;exact gg [(47,hF ((a.Ad.length:Int)<(a.Ad.length:Int)) oG)]<|fi
def GA(I)(at_ e:Int):Fn 341 [.v (.bool true),.v (.int .i64 at_),.v (.int .i64 e)] [] I (A1 (.t []) I) none:=fo func341 (BZ rfl) λc b w a=>gG<|fi
def AMS(c:Ak)(d:CY)(f:Lz.DT)(a:AK Ac)(b:Nat):AA SV:=De c d++(T8 f a b).map .v++[.m 2,.m 3]
def IG(e:Ak)(g:CY)(f:Lz.DT)(a:AK Ac)(b:Nat)(d:AY Ah)(n:Nat)(c:AY Ah)(h:Nat):AA (Nat×AG):=[(1,.cells (AMS e g f a b) 380),(2,.obj (.map d n)),(3,.obj (.map c h))]
structure RU(I:AB)(im:Ak)(ip:CY)(f:Lz.DT)(ca:AK Ac)(cc:Nat)(cl:AA AE):Prop where
 tab:DK I
 img:D3 I im ip
 cs:im.consts.length<=64
 fs:im.Ad.length<=16
 fa:∀g∈im.Ad,g.args<=16
 code:Aj I PI 2 f.code ca cc cl
 len:f.code.length<=256
 a:f.args<=16
 v:f.args+f.vars<=16
def Zj(I:AB)(e:Ak)(g:CY)(f:Lz.DT)(a:AK Ac)(b:Nat)(d:AY Ah)(n:Nat)(c:AY Ah)(i:Nat):Nat->AU->Prop:=λ_ h=>h= {r:=.t [],upd:=IG e g f a b d n c i,J:=I}
def AMT{j l f d e es0 n0 eo0 no0 I}:CO (λ_ h=>∃i n g m,h= {r:=.t [],upd:=IG j l f d e i n g m,J:=I}) (IG j l f d e es0 n0 eo0 no0) I:=by refine⟨?_⟩;rintro p h ⟨i,n,g,m,rfl⟩;refine⟨⟨nA,λq c=> ?_,nA,sP,by simp[IG]⟩,AB.le_refl _⟩;simp[IG,mS]at c;rcases c with rfl|rfl|rfl;exact⟨by simp[IG],λk a=>by simp[AG.keys,AMS,De,T8,Ax,SV.keys]at a;rcases a with rfl|rfl<;>simp[IG]⟩;exact⟨by simp[IG],nA⟩;exact⟨by simp[IG],nA⟩
def AZx{k l f e g j n i o b m a c I}:CO (Zj I k l f e g j n i o) (IG k l f e g b m a c) I:=
 ⟨λd h p=>(AMT (es0:=b) (n0:=m) (eo0:=a) (no0:=c)).out d h ⟨j,n,i,o,p⟩⟩
def AJU{o}(h:Gf o=true):1<=o.code/\o.code<=47/\o.a<=65535:=by unfold Gf SI at h;simp only[Bt,D1]at h;refine⟨h.1.1,h.1.2,?_⟩;have:=h.2;split at this;have:=eq_of_beq this;omega;simpa using this
def AY9(I)(im)(ip)(f)(ca)(cc:Nat)(cl)(h:RU I im ip f ca cc cl)(es)(n:Nat)(s)(no:Nat)(i:Nat)(o)(v:f.code[i]? =some o)(h1:Gf o=true)(a:OG im f o=true):
 Fn 269 [.p 1 0,.v (.int .i64 (i:Int))] (IG im ip f ca cc es n s no) I (Zj I im ip f ca cc es n s no) none:=by
 let⟨m,hi,G,J,H,hs,K,ha,M⟩:=h;let⟨r,b2,b3⟩:=AJU h1;have hk:=hi.k;have hu:=hi.u;have q:i<f.code.length:=(B6.1 v).1;let⟨ka,kc,kl,ua,uc,ul⟩:=ip;simp only at hk hu;obtain⟨b,off,arr,e,fr,row,rfl,q2,q3,q4,q5⟩:=hs.cell Xj v;subst q3;refine fo Tryz.func269 AZx λρ key w u=>gg [(13,BM I Nq b off f.code.length cc i q),(14,DR I Ut (off+i*2) (B8 o) rfl q2 q5)]<|call (OZ I m o.code r b2) kR ?_;have hA:Bn o.code<=5:=(Xl o.code r b2).1;unfold OG at a;by_cases x:Bn o.code=1;rw[x]at a;have a:o.a<im.consts.length:=by simpa using a
 exact gg [(24,hE (Bn o.code:Int) 1 oG),(33,hT ((o.a:Int)<(im.consts.length:Int)) oG)]<|call (GA I (i:Int) 5) kR<|gG<|dn [] rfl;by_cases y:Bn o.code=2;rw[y]at a;have a:o.a<f.args+f.vars:=by simpa using a
 exact gg [(24,hN (Bn o.code:Int) 1 oG),(37,hE (Bn o.code:Int) 2 oG),(50,hW ((f.args:Int)+(f.vars:Int)) ((f.args+f.vars:Nat):Int) oG oG),(51,hT ((o.a:Int)<((f.args+f.vars:Nat):Int)) oG)]<|call (GA I (i:Int) 1) kR<|gG<|dn [] rfl;by_cases z:Bn o.code=3;rw[z]at a;have a:o.a<f.code.length:=by simpa using a
 exact gg [(24,hN (Bn o.code:Int) 1 oG),(37,hN (Bn o.code:Int) 2 oG),(55,hE (Bn o.code:Int) 3 oG),(64,hT ((o.a:Int)<(f.code.length:Int)) oG)]<|call (GA I (i:Int) 7) kR<|gG<|dn [] rfl;by_cases A:Bn o.code=4;rw[A]at a;simp only[Bt,Ig,D1,ZA,ne_eq,Gm]at a;let⟨a,d⟩:=a;refine gg [(24,hN (Bn o.code:Int) 1 oG),(37,hN (Bn o.code:Int) 2 oG),(55,hN (Bn o.code:Int) 3 oG),(68,hE (Bn o.code:Int) 4 oG),(77,hT ((o.a:Int)<(im.Ad.length:Int)) oG)]<|call (GA I (i:Int) 6) kR ?_;have p:im.Ad[o.a]? =some im.Ad[o.a]:=A9 a;rw[Cz,p,TB]at d;generalize im.Ad[o.a]=g at p d;obtain⟨fb,c,t,L,F,C,D,E,rfl,g2,_,g4,g5⟩:=My hu p;have go1:=g5 0 _ rfl;simp only[FD]at go1;by_cases k:o.code=38;have j:g.args=1:=by rcases d with d|d;exact absurd k oG;exact d
 exact gg [(82,hE (o.code:Int) 38 oG),(100,BM I LI fb c im.Ad.length uc o.a a),(102,C9 I Dj rfl (c+o.a*3) (.int .i64 g.args) g2 go1),(103,hE (g.args:Int) 1 oG)]<|call (GA I (i:Int) 6) kR<|gG<|dn [] rfl;by_cases c40:o.code=40;have j:g.args=1:=by rcases d with d|d;exact absurd c40 oG;exact d
 exact gg [(82,hN (o.code:Int) 38 oG),(86,hE (o.code:Int) 40 oG),(100,BM I LI fb c im.Ad.length uc o.a a),(102,C9 I Dj rfl (c+o.a*3) (.int .i64 g.args) g2 go1),(103,hE (g.args:Int) 1 oG)]<|call (GA I (i:Int) 6) kR<|gG<|dn [] rfl;by_cases l:o.code=45;have j:g.args=1:=by rcases d with d|d;exact absurd l oG;exact d
 exact gg [(82,hN (o.code:Int) 38 oG),(86,hN (o.code:Int) 40 oG),(91,hE (o.code:Int) 45 oG),(100,BM I LI fb c im.Ad.length uc o.a a),(102,C9 I Dj rfl (c+o.a*3) (.int .i64 g.args) g2 go1),(103,hE (g.args:Int) 1 oG)]<|call (GA I (i:Int) 6) kR<|gG<|dn [] rfl;exact gg [(82,hN (o.code:Int) 38 oG),(86,hN (o.code:Int) 40 oG),(91,hN (o.code:Int) 45 oG)]<|dn [] rfl;by_cases B:Bn o.code=5;rw[B]at a;have a:o.a<=63:=by simpa using a
 exact gg [(24,hN (Bn o.code:Int) 1 oG),(37,hN (Bn o.code:Int) 2 oG),(55,hN (Bn o.code:Int) 3 oG),(68,hN (Bn o.code:Int) 4 oG),(107,hE (Bn o.code:Int) 5 oG),(110,hT ((o.a:Int)<=63) oG)]<|call (GA I (i:Int) 1) kR<|gG<|dn [] rfl;exact gg [(24,hN (Bn o.code:Int) 1 oG),(37,hN (Bn o.code:Int) 2 oG),(55,hN (Bn o.code:Int) 3 oG),(68,hN (Bn o.code:Int) 4 oG),(107,hN (Bn o.code:Int) 5 oG)]<|dn [] rfl
def AYy:prog.underlying 332=some (.map 3 383):=kR
def YO:prog.underlying 378=some (.map 3 4):=kR
def AZ5:∀w,(zeroValue 383).run prog w=.ok (.agg ([.int .i64 0,.int .i64 0]:AA AE).toArray) w:=by have h:(prog.info? 383).map (λi=>i.zero)=some (some (.agg ([.int .i64 0,.int .i64 0]:AA AE).toArray)):=kR;let⟨i,a,b⟩:=KM.1 h;intro w;simp[zeroValue,typeInfo,a,b,Result.andThen]
abbrev Hj(s:Nat×Nat):AA AE:=[.int .i64 s.1,.int .i64 s.2]
structure F2(S:AA (Nat×Nat))(es:AY Ah)(n:Nat)(b:AY Ah)(no:Nat):Prop where
 st:MapKept.Stamped es n
 so:MapKept.Stamped b no
 seen:∀e∈es.toList,∃(a:Nat)(s:Nat×Nat),S[a]? =some s/\e.key=.int .i64 (a:Int)/\e.val=.agg (Hj s).toArray
 opn:∀e∈b.toList,∃a:Nat,e.key=.int .i64 (a:Int)/\e.val=.bool true/\∃e'∈es.toList,e'.key=e.key
def F2.keys{S b}{n:Nat}{c}{g:Nat}(h:F2 S b n c g):∀e∈b.toList,MapKept.IsKey (.int .i64) e.key:=λe d=>by let⟨a,s,_,f,_⟩:=h.seen e d;rw[f];exact rfl
def F2.AHu{S c}{n:Nat}{b}{g:Nat}(h:F2 S c n b g):∀e∈b.toList,MapKept.IsKey (.int .i64) e.key:=λe d=>by let⟨a,f,_⟩:=h.opn e d;rw[f];exact rfl
open Classical in
theorem XW{α:Type}: ∀ {l m:List α},l.Nodup->(∀x∈l,x∈m)->l.length<=m.length
 |[],_,_,_=>Nat.zero_le _
 |x::l,m,h,hs=>by
  have hx:=hs x sP
  have ih:=XW (m:=m.erase x) (List.nodup_cons.1 h).2 (λy hy=>(List.mem_erase_of_ne (λe:y=x=>(List.nodup_cons.1 h).1 (by rw[<-e];exact hy))).2 (hs y (by simp[hy])))
  rw[List.length_erase_of_mem hx]at ih
  have:=List.length_pos_of_mem hx
  simp only[List.length_cons];omega
def F2.size{S c n f l}(h:F2 S c n f l):c.size<=S.length:=by
 have i:=h.st.2.2;have b:∀k∈c.toList.map (·.key),k∈(List.range S.length).map (λa:Nat=>Value.int .i64 (a:Int)):=λk d=>by obtain⟨e,g,rfl⟩:=BG.1 d;let⟨a,s,j,d,_⟩:=h.seen e g;exact BG.2 ⟨a,NV.2 (B6.1 j).1,d.symm⟩
 have:=XW i b;simpa using this
def wμ(S:AA (Nat×Nat))(b a:AY Ah):Nat:=2*(S.length-b.size)+a.size
def F2.find{S c}{n:Nat}{l}{r:Nat}(h:F2 S c n l r)(a:Nat):
 (Instr.findNow (.int .i64) (.int .i64 (a:Int)) c.toList 0=some none/\∀e∈c.toList,e.key≠.int .i64 (a:Int))\/(∃j s,Instr.findNow (.int .i64) (.int .i64 (a:Int)) c.toList 0=some (some (j,.agg (Hj s).toArray))/\S[a]? =some s/\∃e∈c.toList,e.key=.int .i64 (a:Int)):=by
 rcases MapKept.findNow_spec (d:=.int .i64) (k:=.int .i64 (a:Int)) rfl c.toList 0 h.keys with q|⟨j,e,f,m,g⟩;exact .inl q;have i:=Cv m;let⟨b,s,o,k,p⟩:=h.seen e i;rw[g]at k;have d:a=b:=by have:=(Value.int.inj k).2;omega
 subst d;rw[p]at f;exact .inr ⟨_,s,f,o,e,i,g⟩
def F2.push{S}{es}{n:Nat}{c}{no:Nat}(h:F2 S es n c no){a:Nat}{s}(hs:S[a]? =some s)(f: ∀e∈es.toList,e.key≠.int .i64 (a:Int)):
 F2 S (es.push {key:=.int .i64 (a:Int),val:=.agg (Hj s).toArray,born:=n}) (n+1) (c.push {key:=.int .i64 (a:Int),val:=.bool true,born:=no}) (no+1)/\wμ S (es.push {key:=.int .i64 (a:Int),val:=.agg (Hj s).toArray,born:=n}) (c.push {key:=.int .i64 (a:Int),val:=.bool true,born:=no})<=wμ S es c/\Instr.findNow (.int .i64) (.int .i64 (a:Int)) c.toList 0=some none:=by
 have g: ∀e∈c.toList,e.key≠.int .i64 (a:Int):=λe he hk=>by let⟨_,_,_,e',d,q⟩:=h.opn e he;exact f e' d (q.trans hk)
 have hW:F2 S (es.push {key:=.int .i64 (a:Int),val:=.agg (Hj s).toArray,born:=n}) (n+1) (c.push {key:=.int .i64 (a:Int),val:=.bool true,born:=no}) (no+1):=by refine⟨MapKept.stamped_push h.st f,MapKept.stamped_push h.so g,λe he=> ?_,λe he=> ?_⟩;simp only[OM,BA,AP]at he;rcases he with he|rfl;exact h.seen e he;exact⟨a,s,hs,rfl,rfl⟩;simp only[OM,BA,AP]at he;rcases he with he|rfl;let⟨b,h1,i,e',d,k⟩:=h.opn e he;exact⟨b,h1,i,e',by simp[OM,Sx.1 d],k⟩;exact⟨a,rfl,rfl,{key:=.int .i64 (a:Int),val:=.agg (Hj s).toArray,born:=n},by simp[OM],rfl⟩
 refine⟨hW,?_,?_⟩;have:=hW.size;unfold wμ;simp only[Lj]at this⊢;omega;rcases MapKept.findNow_spec (d:=.int .i64) (k:=.int .i64 (a:Int)) rfl c.toList 0 h.AHu with q|⟨j,e,h1,i,k⟩;exact q.1;exact absurd k (g e (Cv i))
def Vp(I:AB)(g:Ak)(i:CY)(f:Lz.DT)(d:AK Ac)(e:Nat)(S:AA (Nat×Nat))(m:Nat):Nat->AU->Prop:=λ_ h=>∃(b:AY Ah)(n:Nat)(a:AY Ah)(c:Nat),F2 S b n a c/\wμ S b a<=m/\h= {r:=.t [],upd:=IG g i f d e b n a c,J:=I}
def AMP{I i j f e g S m b k a c}:CO (Vp I i j f e g S m) (IG i j f e g b k a c) I:=⟨λd h ⟨o,n,l,p,_,_,q⟩=>(AMT (es0:=b) (n0:=k) (eo0:=a) (no0:=c)).out d h ⟨o,n,l,p,q⟩⟩
def ACz:prog.underlying 383=some (.struct (prog.fieldsOf 383))/\prog.stoodInHeld 383=false/\prog.eqGuardType prog.depth 383=false:=by refine⟨?_,?_,?_⟩<;>kernel_rfl
def AQG(w)(a b c d:Int):(Op.equalIn (9996+4) 383 (.agg #[.int .i64 a,.int .i64 b]) (.agg #[.int .i64 c,.int .i64 d])).run prog w=.ok (decide (a=c/\b=d)) w:=by
 rw[run_equalIn_agg w (9996+3) 383 _ _ ACz.1 ACz.2.1];simp[Program.fieldsOf,underlying383];go_simp
 repeat apply Wb
 apply AP8
def ARG(I:AB)(x y:Nat)(s:Nat×Nat):Hint:=
 .hand (.binOp .eql 383 (.tmp x) (.tmp y) 383) [(x,.g ((Hj s).map .v)),(y,.g ((Hj s).map .v))] [] I (.v (.bool true)) (by intro key tm o b a;have ha:=Cy a (s:=x) (x:=.g ((Hj s).map .v)) sP;have hb:=Cy a (s:=y) (x:=.g ((Hj s).map .v)) sP;intro ρ ac w he _ _ _ _;refine⟨w,?_,BB.refl w⟩;have c:=he (.tmp x) (by simp[b,Op.operands]);have d:=he (.tmp y) (by simp[b,Op.operands]);simp only[ev,ha,hb,den,Fu]at c d;simp only[execOp,b,Sem.run_bind,c,d];rw[run_eqGuard_agg w .eql 383 _ _ _ _ ACz.2.2];simp only[Result.andThen_ok];rw[run_eql_struct w 383 _ _];have:=AQG w s.1 s.2 s.1 s.2;rw[show(9996+4:Nat)=10000 from rfl]at this;rw[this];simp[den,Result.andThen])
def OH(I)(im)(ip)(f)(ca)(cc:Nat)(S)(es)(n:Nat)(b)(no:Nat)(h:F2 S es n b no)(from_:Int)(a:Nat)(s)(hs:S[a]? =some s):
 Fn 270 [.p 1 0,.v (.int .i64 from_),.v (.int .i64 (a:Int)),.g ((Hj s).map .v)] (IG im ip f ca cc es n b no) I (Vp I im ip f ca cc S (wμ S es b)) none:=by
 let⟨ka,kc,kl,ua,uc,ul⟩:=ip;refine fo Tryz.func270 AMP λρ key w d=> ?_;rcases h.find a with⟨h1,c⟩|⟨j,s',h1,c,_⟩;let⟨g1,g2,g3⟩:=h.push hs c;refine gg [(16,.hand (.lookup 332 (.tmp 14) (.tmp 15) true) [(14,.m 2),(15,.v (.int .i64 (a:Int)))] [(2,.obj (.map es n))] I (.t [.g (([.int .i64 0,.int .i64 0]:AA AE).map .v),.v (.bool false)]) (SB A6 (L:=lay) (t:=332) (a:=14) (b:=15) (km:=2) (n:=n) (kt:=3) (et:=383) (d1:=.int .i64) (es:=es) (kv:=.int .i64 (a:Int)) (zs:=[.int .i64 0,.int .i64 0]) rfl Dj rfl AZ5 h1))]<|PD (t:=332) (km:=2) (m0:=n) (m1:=n+1) (es:=es) (es':=es.push {key:=.int .i64 (a:Int),val:=.agg (Hj s).toArray,born:=n}) (m:=.tmp 28) (k:=.tmp 29) (x:=.tmp 30) (kv:=.int .i64 (a:Int)) (v:=.agg (Hj s).toArray) (sk:=.v (.int .i64 (a:Int))) (sx:=.g ((Hj s).map .v)) (I':=I) kR kR kR (λ_=>rfl) kR (λρ=>by simp only[den];rw[Fu]) (λw r hb=>UT (kv:=.int .i64 (a:Int)) (v:=.agg (Hj s).toArray) AYy Dj rfl h1 w r hb) kR ?_;exact gG<|PD (t:=378) (km:=3) (m0:=no) (m1:=no+1) (es:=b) (es':=b.push {key:=.int .i64 (a:Int),val:=.bool true,born:=no}) (m:=.tmp 34) (k:=.tmp 35) (x:=.const (.bool true)) (kv:=.int .i64 (a:Int)) (v:=.bool true) (sk:=.v (.int .i64 (a:Int))) (sx:=.v (.bool true)) (I':=I) kR kR kR (λ_=>rfl) kR (λρ=>rfl) (λw r hb=>UT (kv:=.int .i64 (a:Int)) (v:=.bool true) YO Dj rfl g3 w r hb) kR<|gG<|dn [] ⟨_,_,_,_,g1,g2,rfl⟩;rw[hs]at c;cases c
 exact gg [(16,.hand (.lookup 332 (.tmp 14) (.tmp 15) true) [(14,.m 2),(15,.v (.int .i64 (a:Int)))] [(2,.obj (.map es n))] I (.t [.g ((Hj s).map .v),.v (.bool true)]) (O9 A6 (L:=lay) (t:=332) (a:=14) (b:=15) (km:=2) (n:=n) (kt:=3) (et:=383) (d1:=.int .i64) (es:=es) (kv:=.int .i64 (a:Int)) (j:=j) (xs:=Hj s) rfl Dj rfl h1)),(22,ARG I 20 21 s)]<|call (GA I from_ 8) kR<|gG<|dn [] ⟨_,_,_,_,h,AZ _,rfl⟩
def NN{I g i f d e S m}:∀b h,Vp I g i f d e S m b h->∀c∈h.upd,c.1∈[1,2,3]:=by rintro b h ⟨k,n,j,l,_,_,rfl⟩ c a;simp[IG,mS]at a;rcases a with rfl|rfl|rfl<;>simp
def Uh{c}(a:c≠15)(b:c≠18)(d:c≠19):Jp c=false:=by unfold Jp;simp[a,b,d]
def AJR{c}(h:c=15\/c=18\/c=19):Jp c:=by unfold Jp;rcases h with h|h|h<;>simp[h]
def Oy(a r:Bool)(h:(!a)=r):Hint:=.eq (Value.bool (!a)) (.bool r) (by rw[h])
def AYY(I i ip f ca)(B:Nat)(cl)(h:RU I i ip f ca B cl)(S)(hc:Lr i f S)(z)(n:Nat)(F)(J:Nat)(L:F2 S z n F J)(a:Nat)(af:∃e∈z.toList,e.key=.int .i64 (a:Int)):
 Fn 273 [.p 1 0,.v (.int .i64 (a:Int))] (IG i ip f ca B z n F J) I (Vp I i ip f ca B S (wμ S z F)) none:=by
 let⟨ac,hi,an,ao,ad,hs,ap,ha,hv⟩:=h;have hu:=hi.u;let⟨M,N,O,ua,K,R⟩:=ip;simp only at hu;rcases L.find a with⟨_,q⟩|⟨j,⟨d,t⟩,hf1,hSa,_⟩;let⟨e,he,hk⟩:=af;exact absurd hk (q e he);have halt:a<f.code.length:=by rw[<-hc.len];exact(B6.1 hSa).1
 have hx:f.code[a]? =some f.code[a]:=A9 halt;let⟨r1,r2⟩:=hc.op _ (DF halt);generalize f.code[a]=o at hx r1 r2;let⟨b1,b2,b3⟩:=AJU r1;let⟨P,Q,l3,l4,x⟩:=hc.at_ a o d t hx hSa;simp only at x;let⟨s1,s2,s3⟩:=Xl o.code b1 b2;have hlen:∀k s,S[k]? =some s->k<f.code.length:=λk s hk=>by rw[<-hc.len];exact(B6.1 hk).1
 obtain⟨b,v,arr,e,fr,au,rfl,q2,q3,q4,q5⟩:=hs.cell Xj hx;subst q3;refine fo func273 AMP λρ aq w ai=>gg [(16,BM I Nq b v f.code.length B a halt),(17,DR I Ut (v+a*2) (B8 o) rfl q2 q5),(23,.hand (.lookup 332 (.tmp 21) (.tmp 22) false) [(21,.m 2),(22,.v (.int .i64 (a:Int)))] [(2,.obj (.map z n))] I (.g ((Hj (d,t)).map .v)) (N0 A6 (L:=lay) (t:=332) (a:=21) (b:=22) (km:=2) (n:=n) (kt:=3) (et:=383) (d1:=.int .i64) (es:=z) (kv:=.int .i64 (a:Int)) (j:=j) (xs:=Hj (d,t)) rfl Dj rfl hf1))]<|call (OZ I ac o.code b1 b2) kR ?_;by_cases y:o.code=15;have c:Bi i o=A2 o.code:=by unfold Bi;rw[AN oG]
 have A:A2 o.code=0/\C4 o.code=0:=by rw[y];decide
 rw[c]at P Q;rw[AN oG,AW y]at x;have G:S[o.a]? =some (d-A2 o.code+C4 o.code,t):=by rw[x,A.1,A.2];rfl
 refine gg [(34,hN (o.code:Int) 17 oG),(50,hW ((d:Int)-((A2 o.code:Nat):Int)) ((d-A2 o.code:Nat):Int) oG oG),(53,hW (((d-A2 o.code:Nat):Int)+((C4 o.code:Nat):Int)) ((d-A2 o.code+C4 o.code:Nat):Int) oG oG),(60,hT ((d:Int)≥((A2 o.code:Nat):Int)) oG),(64,hT (((d-A2 o.code+C4 o.code:Nat):Int)<=32) oG)]<|call (GA I (a:Int) 8) kR<|gg [(71,hN (o.code:Int) 21 oG),(82,hN (o.code:Int) 20 oG),(98,hN (o.code:Int) 16 oG),(99,hE (o.code:Int) 15 oG)]<|Ag (OH I i ⟨M,N,O,ua,K,R⟩ f (some ⟨b,v,none⟩) B S z n F J L (a:Int) o.a _ G) [] [1,2,3] kR NN ?_;rintro _ ⟨m,E,l,u,r,p,rfl⟩;refine gg [(108,Oy (Jp o.code) false (by rw[AJR oG];rfl)),(128,hN (o.code:Int) 20 oG)] ?_;exact dn [] ⟨m,E,l,u,r,p,rfl⟩;by_cases C:o.code=16;have c:Bi i o=A2 o.code:=by unfold Bi;rw[AN oG]
 have A:A2 o.code=1/\C4 o.code=0:=by rw[C];decide
 rw[c]at P Q;rw[AN oG,AN y,AW C]at x;have G:S[o.a]? =some (d-A2 o.code+C4 o.code,t):=by rw[x.1,A.1,A.2];rfl
 have H:S[a+1]? =some (d-A2 o.code+C4 o.code,t):=by rw[x.2,A.1,A.2];rfl
 have X:=hlen _ _ H;refine gg [(34,hN (o.code:Int) 17 oG),(50,hW ((d:Int)-((A2 o.code:Nat):Int)) ((d-A2 o.code:Nat):Int) oG oG),(53,hW (((d-A2 o.code:Nat):Int)+((C4 o.code:Nat):Int)) ((d-A2 o.code+C4 o.code:Nat):Int) oG oG),(60,hT ((d:Int)≥((A2 o.code:Nat):Int)) oG),(64,hT (((d-A2 o.code+C4 o.code:Nat):Int)<=32) oG)]<|call (GA I (a:Int) 8) kR<|gg [(71,hN (o.code:Int) 21 oG),(82,hN (o.code:Int) 20 oG),(98,hE (o.code:Int) 16 oG)]<|Ag (OH I i ⟨M,N,O,ua,K,R⟩ f (some ⟨b,v,none⟩) B S z n F J L (a:Int) o.a _ G) [] [1,2,3] kR NN ?_;rintro _ ⟨m,E,l,u,r,p,rfl⟩;refine gg [(108,Oy (Jp o.code) true (by rw[Uh oG oG oG];rfl)),(110,hW ((a:Int)+1) ((a+1:Nat):Int) oG oG),(117,hT (((a+1:Nat):Int)<(f.code.length:Int)) oG)] ?_;refine call (GA I (a:Int) 9) kR<|gg [(123,hW ((a:Int)+1) ((a+1:Nat):Int) oG oG)]<|Ag (OH I i ⟨M,N,O,ua,K,R⟩ f (some ⟨b,v,none⟩) B S m E l u r (a:Int) (a+1) _ H) [] [1,2,3] kR NN ?_;rintro _ ⟨U,n2,T,Z,Y,W,rfl⟩;exact gg [(128,hN (o.code:Int) 20 oG)]<|dn [] ⟨U,n2,T,Z,Y,CB W p,rfl⟩;by_cases c20:o.code=20;have c:Bi i o=A2 o.code:=by unfold Bi;rw[AN oG]
 have A:A2 o.code=0/\C4 o.code=0:=by rw[c20];decide
 rw[c]at P Q;rw[AN oG,AN y,AN C,AW c20]at x;have G:S[a+1]? =some (d-A2 o.code+C4 o.code,t+1):=by rw[x.1,A.1,A.2];rfl
 have H:S[o.a]? =some (d+1,t):=x.2;have X:=hlen _ _ G;refine gg [(34,hN (o.code:Int) 17 oG),(50,hW ((d:Int)-((A2 o.code:Nat):Int)) ((d-A2 o.code:Nat):Int) oG oG),(53,hW (((d-A2 o.code:Nat):Int)+((C4 o.code:Nat):Int)) ((d-A2 o.code+C4 o.code:Nat):Int) oG oG),(60,hT ((d:Int)≥((A2 o.code:Nat):Int)) oG),(64,hT (((d-A2 o.code+C4 o.code:Nat):Int)<=32) oG)]<|call (GA I (a:Int) 8) kR<|gg [(71,hN (o.code:Int) 21 oG),(82,hE (o.code:Int) 20 oG),(85,hT ((t:Int)<16) oG),(89,hT ((d:Int)<32) oG)]<|call (GA I (a:Int) 8) kR<|gg [(95,hW ((t:Int)+1) ((t+1:Nat):Int) oG oG),(108,Oy (Jp o.code) true (by rw[Uh oG oG oG];rfl)),(110,hW ((a:Int)+1) ((a+1:Nat):Int) oG oG),(117,hT (((a+1:Nat):Int)<(f.code.length:Int)) oG)] ?_;refine call (GA I (a:Int) 9) kR<|gg [(123,hW ((a:Int)+1) ((a+1:Nat):Int) oG oG)]<|Ag (OH I i ⟨M,N,O,ua,K,R⟩ f (some ⟨b,v,none⟩) B S z n F J L (a:Int) (a+1) _ G) [] [1,2,3] kR NN ?_;rintro _ ⟨m,E,l,u,r,p,rfl⟩;refine gg [(128,hE (o.code:Int) 20 oG),(135,hW ((d:Int)+1) ((d+1:Nat):Int) oG oG)]<|Ag (OH I i ⟨M,N,O,ua,K,R⟩ f (some ⟨b,v,none⟩) B S m E l u r (a:Int) o.a _ H) [] [1,2,3] kR NN ?_;rintro _ ⟨U,n2,T,Z,Y,W,rfl⟩;exact gG<|dn [] ⟨U,n2,T,Z,Y,CB W p,rfl⟩;by_cases c21:o.code=21;have c:Bi i o=A2 o.code:=by unfold Bi;rw[AN oG]
 have A:A2 o.code=0/\C4 o.code=0:=by rw[c21];decide
 rw[c]at P Q;rw[AN oG,AN y,AN C,AN c20,AW c21]at x;have G:S[a+1]? =some (d-A2 o.code+C4 o.code,t-1):=by rw[x.2,A.1,A.2];rfl
 have ar:=x.1;have X:=hlen _ _ G;refine gg [(34,hN (o.code:Int) 17 oG),(50,hW ((d:Int)-((A2 o.code:Nat):Int)) ((d-A2 o.code:Nat):Int) oG oG),(53,hW (((d-A2 o.code:Nat):Int)+((C4 o.code:Nat):Int)) ((d-A2 o.code+C4 o.code:Nat):Int) oG oG),(60,hT ((d:Int)≥((A2 o.code:Nat):Int)) oG),(64,hT (((d-A2 o.code+C4 o.code:Nat):Int)<=32) oG)]<|call (GA I (a:Int) 8) kR<|gg [(71,hE (o.code:Int) 21 oG),(74,hT ((t:Int)>0) oG)]<|call (GA I (a:Int) 11) kR<|gg [(79,hW ((t:Int)-1) ((t-1:Nat):Int) oG oG),(108,Oy (Jp o.code) true (by rw[Uh oG oG oG];rfl)),(110,hW ((a:Int)+1) ((a+1:Nat):Int) oG oG),(117,hT (((a+1:Nat):Int)<(f.code.length:Int)) oG)] ?_;refine call (GA I (a:Int) 9) kR<|gg [(123,hW ((a:Int)+1) ((a+1:Nat):Int) oG oG)]<|Ag (OH I i ⟨M,N,O,ua,K,R⟩ f (some ⟨b,v,none⟩) B S z n F J L (a:Int) (a+1) _ G) [] [1,2,3] kR NN ?_;rintro _ ⟨m,E,l,u,r,p,rfl⟩;exact gg [(128,hN (o.code:Int) 20 oG)]<|dn [] ⟨m,E,l,u,r,p,rfl⟩;by_cases ab:o.code=18\/o.code=19;have c:Bi i o=A2 o.code:=by unfold Bi;rw[AN oG]
 rw[c]at P Q;refine gg [(34,hN (o.code:Int) 17 oG),(50,hW ((d:Int)-((A2 o.code:Nat):Int)) ((d-A2 o.code:Nat):Int) oG oG),(53,hW (((d-A2 o.code:Nat):Int)+((C4 o.code:Nat):Int)) ((d-A2 o.code+C4 o.code:Nat):Int) oG oG),(60,hT ((d:Int)≥((A2 o.code:Nat):Int)) oG),(64,hT (((d-A2 o.code+C4 o.code:Nat):Int)<=32) oG)]<|call (GA I (a:Int) 8) kR<|gg [(71,hN (o.code:Int) 21 oG),(82,hN (o.code:Int) 20 oG),(98,hN (o.code:Int) 16 oG),(99,hN (o.code:Int) 15 oG),(108,Oy (Jp o.code) false (by rw[AJR oG];rfl)),(128,hN (o.code:Int) 20 oG)] ?_;exact dn [] ⟨z,n,F,J,L,AZ _,rfl⟩;rw[AN ab,AN y,AN C,AN c20,AN c21]at x;have X:=hlen _ _ x;by_cases aa:o.code=17;have V:o.a<i.Ad.length:=by
  have ag:Bn o.code=4:=by rw[aa];rfl
  unfold OG at r2;rw[ag]at r2;simp[Bt,D1]at r2;exact r2.1
 have hg:i.Ad[o.a]? =some i.Ad[o.a]:=A9 V;have ae:=ad _ (DF V);have c:Bi i o=A2 o.code+i.Ad[o.a].args:=by unfold Bi;rw[AW aa,Cz,hg];rfl
 rw[c]at P Q x;generalize i.Ad[o.a]=g at hg ae c P Q x;obtain⟨fb,D,ah,fe,am,aj,ak,al,rfl,g2,_,g4,g5⟩:=My hu hg;have go1:=g5 0 _ rfl;simp[FD]at go1;refine gg [(34,hE (o.code:Int) 17 oG),(43,BM I LI fb D i.Ad.length K o.a V),(45,C9 I Dj rfl (D+o.a*3) (.int .i64 g.args) g2 go1),(46,hW (((A2 o.code:Nat):Int)+(g.args:Int)) ((A2 o.code+g.args:Nat):Int) oG oG),(50,hW ((d:Int)-((A2 o.code+g.args:Nat):Int)) ((d-(A2 o.code+g.args):Nat):Int) oG oG),(53,hW (((d-(A2 o.code+g.args):Nat):Int)+((C4 o.code:Nat):Int)) ((d-(A2 o.code+g.args)+C4 o.code:Nat):Int) oG oG),(60,hT ((d:Int)≥((A2 o.code+g.args:Nat):Int)) oG),(64,hT (((d-(A2 o.code+g.args)+C4 o.code:Nat):Int)<=32) oG)]<|call (GA I (a:Int) 8) kR<|gg [(71,hN (o.code:Int) 21 oG),(82,hN (o.code:Int) 20 oG),(98,hN (o.code:Int) 16 oG),(99,hN (o.code:Int) 15 oG),(108,Oy (Jp o.code) true (by rw[Uh oG oG oG];rfl)),(110,hW ((a:Int)+1) ((a+1:Nat):Int) oG oG),(117,hT (((a+1:Nat):Int)<(f.code.length:Int)) oG)] ?_;refine call (GA I (a:Int) 9) kR<|gg [(123,hW ((a:Int)+1) ((a+1:Nat):Int) oG oG)]<|Ag (OH I i ⟨M,N,O,some ⟨fb,D,none⟩,K,R⟩ f (some ⟨b,v,none⟩) B S z n F J L (a:Int) (a+1) _ x) [] [1,2,3] kR NN ?_;rintro _ ⟨m,E,l,u,r,p,rfl⟩;exact gg [(128,hN (o.code:Int) 20 oG)]<|dn [] ⟨m,E,l,u,r,p,rfl⟩;have c:Bi i o=A2 o.code:=by unfold Bi;rw[AN oG]
 rw[c]at P Q x;refine gg [(34,hN (o.code:Int) 17 oG),(50,hW ((d:Int)-((A2 o.code:Nat):Int)) ((d-A2 o.code:Nat):Int) oG oG),(53,hW (((d-A2 o.code:Nat):Int)+((C4 o.code:Nat):Int)) ((d-A2 o.code+C4 o.code:Nat):Int) oG oG),(60,hT ((d:Int)≥((A2 o.code:Nat):Int)) oG),(64,hT (((d-A2 o.code+C4 o.code:Nat):Int)<=32) oG)]<|call (GA I (a:Int) 8) kR<|gg [(71,hN (o.code:Int) 21 oG),(82,hN (o.code:Int) 20 oG),(98,hN (o.code:Int) 16 oG),(99,hN (o.code:Int) 15 oG),(108,Oy (Jp o.code) true (by rw[Uh oG oG oG];rfl)),(110,hW ((a:Int)+1) ((a+1:Nat):Int) oG oG),(117,hT (((a+1:Nat):Int)<(f.code.length:Int)) oG)] ?_;refine call (GA I (a:Int) 9) kR<|gg [(123,hW ((a:Int)+1) ((a+1:Nat):Int) oG oG)]<|Ag (OH I i ⟨M,N,O,ua,K,R⟩ f (some ⟨b,v,none⟩) B S z n F J L (a:Int) (a+1) _ x) [] [1,2,3] kR NN ?_;rintro _ ⟨m,E,l,u,r,p,rfl⟩;exact gg [(128,hN (o.code:Int) 20 oG)]<|dn [] ⟨m,E,l,u,r,p,rfl⟩
def G3(s:HM):AA AE:=[.string (str s.l.1),.string (str s.l.2),.int .i64 s.v]
def X8(s:HM)(l:AA AE):Prop:=l=G3 s
def ACp(s l)(h:X8 s l):l.length=3:=by rw[h];rfl
def FZ(b:Fq):AA AE:=[.int .i64 b.fn,.string (str b.l.1),.string (str b.l.2),.string (str b.c.1),.string (str b.c.2),.int .u8 b.AL.toNat,.int .i64 b.room,.int .i64 b.box,.int .i64 b.n]
def V1(b:Fq)(l:AA AE):Prop:=l=FZ b
def AFN(s l)(h:V1 s l):l.length=9:=by rw[h];rfl
structure Ii where
 ip:CY
 ba:AK Ac
 bc:Nat
 bl:AA AE
 ta:AK Ac
 tc:Nat
 tl:AA AE
structure Ja(I:AB)(c:DG)(q:Ii):Prop where
 im:D3 I c.im q.ip
 bx:Aj I X8 3 c.boxes q.ba q.bc q.bl
 th:Aj I V1 9 c.A3 q.ta q.tc q.tl
def KZ(c:DG)(q:Ii):AA SV:=De c.im q.ip++[.v (.slice q.ba c.boxes.length q.bc),.v (.slice q.ta c.A3.length q.tc)]
def Ja.up{I J c q}(h:Ja I c q)(hle:I.le J):Ja J c q:=⟨h.im.up hle,h.bx.up hle λ_ _ h=>h,h.th.up hle λ_ _ h=>h⟩
def Ja.A8{I J c q}(h:Ja I c q)(hle:I.Cd J):Ja J c q:=⟨D3.A8 hle h.im,Aj.A8 hle h.bx λ_ _ h=>h,Aj.A8 hle h.th λ_ _ h=>h⟩
structure TE(c:DG)(b:Fq):Prop where
 fn:b.fn<c.im.Ad.length
 args:∀f,c.im.Ad[b.fn]? =some f->f.args=1
 hl:Ap b.l=b.l
 hc:Ap b.c=b.c
 AL:b.AL.toNat<=63
 room:b.room<=999
 box:b.box<c.boxes.length
 fl:fl b.l b.c
def ACi:Gq 99 3:=by refine row_of ((prog.underlying 99).getD Af) ((prog.info? 99).getD Af) ?_ ?_ ?_ ?_<;>kernel_rfl
def AAm:GZ 33 99 3:=⟨kR,ACi.hi⟩
def ACe:Gq 103 9:=by refine row_of ((prog.underlying 103).getD Af) ((prog.info? 103).getD Af) ?_ ?_ ?_ ?_<;>kernel_rfl
def AGT:GZ 34 103 9:=⟨kR,ACe.hi⟩
def ABr(I l)(h:Ap l=l):Fn 136 [Cc l] [] I (A1 (.v (.bool true)) I) none:=by have:=XJ I l (H8 h);rw[show(Ap l==l)=true by simpa using h]at this;exact this
def AOe(I c q b)(s:Ja I c q)(h:TE c b)(r:c.boxes.length<=1000)(t:c.im.Ad.length<=1000):Fn 137 [.g (KZ c q),.g ((FZ b).map .v)] [] I (A1 (.v (.int .i64 0)) I) none:=by let⟨m,n,g,i,D,E,F,o⟩:=h;have k:c.im.Ad[b.fn]? =some c.im.Ad[b.fn]:=A9 m;have G:=n _ k;let⟨l,d,arr,e,C,z,A,B,f,p,_,u,v⟩:=My s.im.u k;have a:=LL I b.l b.c (H8 g) (H8 i);rw[o]at a;let⟨⟨H,J,K,L,y,M⟩,ba,bc,bl,ta,tc,tl⟩:=q;simp only at f;subst f;exact fo func137 (BZ rfl) λN x w j=>gg [(7,hF ((b.fn:Int)<0) oG),(15,hF ((b.fn:Int)≥(c.im.Ad.length:Int)) oG),(23,BM I LI l d c.im.Ad.length y b.fn u),(25,C9 I Dj rfl (d+b.fn*3) (.int .i64 (c.im.Ad[b.fn].args:Int)) p (v 0 _ rfl)),(26,Ct (c.im.Ad[b.fn].args:Int) 1 oG)]<|call (ABr I b.l g) kR<|gG<|call (ABr I b.c i) kR<|gg [(41,hF ((b.AL.toNat:Int)>63) oG),(45,hF ((b.room:Int)<0) oG),(49,hF ((b.room:Int)>999) oG),(57,hF (b.box≥(c.boxes.length:Int)) oG)]<|call a kR<|gG<|fi
abbrev Zi(I:AB):Nat->AU->Prop:=Ft I (λ_:Unit=>.t [.v (.int .i64 0),.v (.int .i64 0),.v (.int .i64 0)]) (λ_ _=>True)
structure TH(c:DG):Prop where
 nb:c.boxes.length<=8
 nt:0<c.A3.length/\c.A3.length<=8
 bx:∀b∈c.boxes,Ap b.l=b.l
 th:∀b∈c.A3,TE c b
 fs:c.im.Ad.length<=1000
def AFp(J:AB)(c:DG)(q:Ii)(i:Nat):Hd where
 By:=[(1,.p 1 0),(39,.v (.slice q.ba c.boxes.length q.bc)),(40,.v (.int .i64 (c.boxes.length:Int))),(41,.v (.int .i64 (i:Int)))]
 Bu:=[(1,.cells (KZ c q) 36)]
 J:=J
def AFq(J:AB)(c:DG)(q:Ii)(i:Nat):Hd where
 By:=[(1,.p 1 0),(53,.v (.slice q.ta c.A3.length q.tc)),(54,.v (.int .i64 (c.A3.length:Int))),(55,.v (.int .i64 (i:Int)))]
 Bu:=[(1,.cells (KZ c q) 36)]
 J:=J
abbrev AMy(I:AB):Nat->AU->Prop:=Ft I (λ_:Unit=>.t [.v (.int .i64 0),.v (.int .i64 0)]) (λ_ _=>True)
def ASM(I c q)(z:Ja I c q)(h:TH c)(B:Fn 135 [.g (De c.im q.ip)] [] I (Zi I) none):Fn 86 [.g (KZ c q)] [] I (AMy I) none:=by
 let⟨h1,⟨G,H⟩,h4,h5,h6⟩:=h;have m:=z.bx;have p:=z.th;let⟨t,v,j,l,x,k,u⟩:=q;simp only at m p B;refine fo func86 (EK λ_=>rfl) λK E w C=>gG<|CK B kR λ_ J hle _=>gg [(25,hF ((c.boxes.length:Int)>8) oG),(30,hN (c.A3.length:Int) 0 oG),(36,hF ((c.A3.length:Int)>8) oG)]<|loop (ι:=Nat) (λi=>i<=c.boxes.length) (λi=>c.boxes.length-i) (AFp J c ⟨t,v,j,l,x,k,u⟩) 2000 [(1,100)] 0 (BS _) kR kR ?_;intro i n again T;by_cases a:i<c.boxes.length;have r:c.boxes[i]? =some c.boxes[i]:=A9 a;have o:=h4 _ (DF a);generalize c.boxes[i]=s at r o;obtain⟨b,d,arr,e,D,g,rfl,q2,q3,q4,q5⟩:=(m.up hle λ_ _ h=>h).cell ACp r;have q3:g=G3 s:=q3;subst q3;exact gg [(42,hT ((i:Int)<(c.boxes.length:Int)) oG),(44,BM J AAm b d c.boxes.length j i a),(45,DR J ACi (d+i*3) (G3 s) rfl q2 q5)]<|call (ABr J s.l o) kR<|gg [(51,hW ((i:Int)+1) ((i+1:Nat):Int) oG oG)]<|back [] (AFp J c ⟨t,some ⟨b,d,none⟩,j,l,x,k,u⟩ (i+1)) 2000 kR kR kR λy=>again (i+1) oG oG y;have n:i=c.boxes.length:=oG;subst n;refine gg [(42,hF ((c.boxes.length:Int)<(c.boxes.length:Int)) oG)]<|loop (ι:=Nat) (λi=>i<=c.A3.length) (λi=>c.A3.length-i) (AFq J c ⟨t,v,j,l,x,k,u⟩) 4000 [] 0 (BS _) kR kR ?_;intro i n f F;by_cases a:i<c.A3.length;have r:c.A3[i]? =some c.A3[i]:=A9 a;have o:=h5 _ (DF a);generalize c.A3[i]=s at r o;have A:=AOe J c ⟨t,v,j,l,x,k,u⟩ s (z.up hle) o oG h6;obtain⟨b,d,arr,e,D,g,rfl,q2,q3,q4,q5⟩:=(p.up hle λ_ _ h=>h).cell AFN r;have q3:g=FZ s:=q3;subst q3
 exact gg [(56,hT ((i:Int)<(c.A3.length:Int)) oG),(58,BM J AGT b d c.A3.length k i a),(59,DR J ACe (d+i*9) (FZ s) rfl q2 q5)]<|call A kR<|gg [(67,hW ((i:Int)+1) ((i+1:Nat):Int) oG oG)]<|back [] (AFq J c ⟨t,v,j,l,some ⟨b,d,none⟩,k,u⟩ (i+1)) 4000 kR kR kR λy=>f (i+1) oG oG y;have n:i=c.A3.length:=oG;subst n;exact gg [(56,hF ((c.A3.length:Int)<(c.A3.length:Int)) oG)]<|dn [] ⟨(),J,rfl,hle,A0⟩
def ABu{x}(h:x<=999):Ix [x]=Cr [x]:=by unfold Ix;rw[AW (N4 h)]
def AOC(I c q b i)(x:Ja I c q)(h:TE c b)(Q:b.box<0):Fn 90 [.g (KZ c q),.g ((FZ b).map .v),.v (.string (AR i))] [] I (OW I (Dq c b i)) none:=by
 let⟨t,H,K,L,M,N,O,P⟩:=h;have o:c.im.Ad[b.fn]? =some c.im.Ad[b.fn]:=A9 t;let⟨s,j,arr,e,G,D,E,F,l,u,_,z,n⟩:=My x.im.u o;have d:(c.im.Ad.getD b.fn Af).vars=c.im.Ad[b.fn].vars:=by rw[Cz,o];rfl
 generalize c.im.Ad[b.fn]=f at n d;let⟨⟨R,S,T,U,C,V⟩,ba,bc,bl,ta,tc,tl⟩:=q;simp only at l;subst l;have k:Dq c b i=Iy i ⟨b.l,b.c⟩ {(⟨[],[],[]⟩:Ae)with AF:=[]++[⟨b.fn,0,0,b.AL,[whole b.n]++List.replicate (min f.vars 16) (whole 0)⟩]} b.room:=by unfold Dq;dsimp only;rw[AN oG,d];rfl
 rw[k];have y:=AAp I ⟨[],[],[]⟩ WM b.fn f.vars (whole b.n) b.AL ⟨Aj.empty,Aj.empty,Aj.empty⟩ (by show 0<16;decide) (by show 0<=1000000;decide);exact fo func90 (EK λ_=>by simp[SV.keys,Ax,CG]) λW B w m=>gg [(17,hF (b.box≥0) oG),(43,BM I LI s j c.im.Ad.length C b.fn z),(45,C9 I Dj rfl (j+b.fn*3+1) (.int .i64 (f.vars:Int)) u (n 1 _ rfl))]<|AAH 284 y kR λp J hle A=>gG<|CK (ACB J i ⟨b.l,b.c⟩ _ p b.room A) kR λa r g v=>gG<|dn [] ⟨a,r,rfl,hle.trans g,v⟩
def AOD(I)(hP:Pow I)(c q b y)(M:Ja I c q)(h:TE c b)(hb:0<=b.box)(aa:c.boxes.length<=900):Fn 90 [.g (KZ c q),.g ((FZ b).map .v),.v (.string (AR y))] [] I (OW I (Dq c b y)) none:=by
 let⟨L,U,V,W,X,Y,Z,h8⟩:=h;let⟨i,l,m,g,room,box,n⟩:=b;simp only at L U V W X Y Z h8 hb;obtain⟨x,rfl⟩:∃x:Nat,box=(x:Int):=⟨box.toNat,oG⟩;have E:x<=999:=oG;have P:c.im.Ad[i]? =some c.im.Ad[i]:=A9 L;let⟨S,z,arr,e,fr,ca,cc,cl,H,hI,_,hk,O⟩:=My M.im.u P;have d:(c.im.Ad.getD i Af).vars=c.im.Ad[i].vars:=by rw[Cz,P];rfl
 generalize c.im.Ad[i]=f at O d;have u:x<c.boxes.length:=oG;have D:c.boxes[x]? =some c.boxes[x]:=A9 u;have o:c.boxes.getD x Af=c.boxes[x]:=by rw[Cz,D];rfl
 generalize c.boxes[x]=s at D o;let⟨R,k,G,e2,T,F,K,q2,q3,q4,q5⟩:=M.bx.cell ACp D;have q3:F=G3 s:=q3;subst q3;let⟨⟨ka,kc,kl,ua,uc,ul⟩,ba,bc,bl,ta,tc,tl⟩:=q;simp only at H K;subst H;subst K;have A:Dq c ⟨i,l,m,g,room,(x:Int),n⟩ y=Iy y ⟨l,m⟩ {(⟨[],[],[]⟩:Ae)with AF:=[]++[⟨i,0,0,g,[hand 3 [x] s.l]++List.replicate (min f.vars 16) (whole 0)⟩]} room:=by unfold Dq;dsimp only;rw[AW oG,d,show((x:Int)).toNat=x by omega,o];rfl
 rw[A];have C:str (Ix [x])=AR [x]:=by rw[ABu E];rfl
 have t:=ACI I hP x 1;rw[C]at t;have he:=AAp I ⟨[],[],[]⟩ WM i f.vars (hand 3 [x] s.l) g ⟨Aj.empty,Aj.empty,Aj.empty⟩ (by show 0<16;decide) (by show 0<=1000000;decide);refine fo func90 (EK λ_=>by simp[SV.keys,Ax,CG]) λρ ab w N=>gg [(17,hT ((x:Int)≥0) oG)]<|P7 t [(1,204)] kR<|gg [(30,BM I AAm R k c.boxes.length bc x u),(32,DR I SS (k+x*3) [.string (str s.l.1),.string (str s.l.2)] rfl q2 (λj v B=>q5 j v (by
  match j with
  |0=>exact B
  |1=>exact B
  |j+2=>simp at B))),(43,BM I LI S z c.im.Ad.length uc i hk),(45,C9 I Dj rfl (z+i*3+1) (.int .i64 (f.vars:Int)) hI (O 1 _ rfl))] ?_
 exact AAH 436 he kR λp J hle hp=>gG<|CK (ACB J y ⟨l,m⟩ _ p room hp) kR λa Q r ha=>gG<|dn [] ⟨a,Q,rfl,hle.trans r,ha⟩
def AOB(I)(f:Pow I)(c q b a)(e:Ja I c q)(h:TE c b)(d:c.boxes.length<=900):Fn 90 [.g (KZ c q),.g ((FZ b).map .v),.v (.string (AR a))] [] I (OW I (Dq c b a)) none:=by by_cases g:0<=b.box;exact AOD I f c q b a e h g d;exact AOC I c q b a e h oG
def Lx(c:DG)(i:Nat):Ob:={Cb with kind:=3,l:=(c.boxes.getD i Af).l,v:=whole (c.boxes.getD i Af).v}
def Ju(c:DG)(n:Nat):Ao:=(List.range n).foldl (λs i=>C0 s [i] (Lx c i)) []
def NM(c:DG)(n:Nat):AA AJ:=(List.range n).foldl (λl i=>B5 l (Dq c (c.A3.getD i Af) [c.boxes.length+i])) []
def AC5(c n):Ju c (n+1)=C0 (Ju c n) [n] (Lx c n):=by unfold Ju;rw[Y2,OO];rfl
def ALQ(c n):NM c (n+1)=B5 (NM c n) (Dq c (c.A3.getD n Af) [c.boxes.length+n]):=by unfold NM;rw[Y2,OO];rfl
def AUV(c):ED c= {im:=c.im,now:=0,AD:=NM c c.A3.length,Ar:=Ju c c.boxes.length,facts:=[],BQ:=[]}:=rfl
def AC4(c):∀(n:Nat)(q:Nm)(o:Ob),Ai (Ju c n) q=some o->∃j,j<n/\q=[j]
 |0,q,o,h=>by cases h
 |n+1,q,o,h=>by
  rw[AC5]at h;cases e:Eg (Ju c n) [n] (Lx c n)with
  |false=>
   rw[RV e]at h;let⟨j,d,a⟩:=AC4 c n q o h;exact⟨j,oG,a⟩
  |true=>
   rw[JI e]at h;split at h;rename_i b;exact⟨n,oG,b⟩;let⟨j,d,a⟩:=AC4 c n q o h;exact⟨j,oG,a⟩
def AYS(c){n}(a:n<c.boxes.length)(f:n<=999)(k:∀b∈c.boxes,Ap b.l=b.l):Eg (Ju c n) [n] (Lx c n):=by
 have h:Ai (Ju c n) [n]=none:=by
  cases e:Ai (Ju c n) [n]with
  |none=>rfl
  |some o=>
   let⟨j,l,d⟩:=AC4 c n _ o e;have:n=j:=by simpa using d
   omega
 have g:Ap (Lx c n).l=(Lx c n).l:=by show Ap (c.boxes.getD n Af).l=(c.boxes.getD n Af).l;rw[Cz,A9 a];exact k _ (DF a)
 have i:(Lx c n).kind=3:=rfl;unfold Eg;rw[N4 f,h,g,i];simp
def ALN(c):∀n,(Ju c n).length<=n
 |0=>AZ _
 |n+1=>by rw[AC5];have:=R6 (Ju c n) [n] (Lx c n);have:=ALN c n;omega
def AK1{l}(h:FY l)(t):FY (B5 l t):=by
 unfold B5;cases e:Aw l t.id with
 |none=>simp[VV,Me,Gn];exact ACt h e
 |some u=>simp[VW,Lq];exact sorted_put h t
def ALP(c)(e:c.boxes.length<=8):∀n,n<=8->FY (NM c n)/\(∀x∈NM c n,BY x.id)/\(NM c n).length<=n
 |0,_=>⟨List.Pairwise.nil,λx a=>(by cases a),AZ _⟩
 |n+1,h=>by let⟨b,d,f⟩:=ALP c e n oG;rw[ALQ];refine⟨AK1 b _,λx a=> ?_,by have:=AG7 (NM c n) (Dq c (c.A3.getD n Af) [c.boxes.length+n]);omega⟩;rcases AIv a with rfl|a;exact N4 (show c.boxes.length+n<=999 by omega);exact d x a
def nw1(c:DG)(i:Nat):Ab:={im:=c.im,now:=0,AD:=[],Ar:=Ju c i,facts:=[],BQ:=[]}
def PG(c:DG)(i:Nat):Ab:={im:=c.im,now:=0,AD:=NM c i,Ar:=Ju c c.boxes.length,facts:=[],BQ:=[]}
def ALa{I}:DO I (D9 []) #[]:=⟨⟨[],List.Perm.nil,.nil⟩,NW,nA⟩
def AXp{I}:DJ I [] #[] 0:=⟨⟨[],List.Perm.nil,.nil⟩,NW,nA,.nil 0⟩
def AUJ{I}:EO I [] [] #[] 0:=⟨.nil,nA,NW,NW,nA,nA,λn l=>⟨(λ⟨r,h,_⟩=>by cases h),(λ⟨o,h,_⟩=>by cases h)⟩,.nil 0,nA,nA⟩
def ACj{I a e}:CE I a e [] ⟨none,0,0⟩:=⟨sP,λv h=>(by cases h),.inl ⟨rfl,rfl,rfl⟩⟩
def m0K(a:CY):BJ:=⟨a,#[],0,⟨none,0,0⟩,⟨none,0,0⟩,⟨none,0,0⟩,⟨#[],0,#[],0⟩⟩
def ASW{I c b}(a:DK I)(d:Pow I)(e:D3 I c.im b):Bl I [] (nw1 c 0) (m0K b):=
 ⟨a,d,e,ALa,AXp,AUJ,ACj,ACj,ACj,NW⟩
def Nw(a:Nat)(m:BJ)(c:Ak)(b:Nat):AA AG:=[.cells (De c m.ip++[.v (.int .i64 b),.m (a+1),m.BH.sv,.p (a+2) 0,m.CQ.sv,m.lk.sv]) 107,.obj (.map m.es m.n),.cells [.m (a+3),.m (a+4)] 178,.obj (.map m.sm.es m.sm.n),.obj (.map m.sm.ns m.sm.m)]
def ZY(I:AB)(k:Ab):Nat->AU->Prop:=λa h=>∃m L J,h= {r:=.t [.p (a+0) 0,.v (.int .i64 0),.v (.int .i64 0)],nb:=Nw a m k.im k.now,J:=J}/\Bq I [] J (Bb L m)/\Bl J L k m
def AMF{m im}{now key:Nat}{J}:AU.OJ {r:=.t [.p (key+0) 0,.v (.int .i64 0),.v (.int .i64 0)],nb:=Nw key m im now,J:=J} key []:=by
 have e:∀j,j<5->(Bf key (Nw key m im now) (key+j)).isSome:=λj f=>by
  rw[Gx]
  match j,f with
  |0,_=>rfl
  |1,_=>rfl
  |2,_=>rfl
  |3,_=>rfl
  |4,_=>rfl
 refine⟨λx a=>.inr ?_,nA,λb d x a=>.inr ?_,by simp[Nw],sP⟩;simp[SV.keys,Ax]at a;subst a;exact e 0 dC;simp[Nw,mS]at d;rcases d with rfl|rfl|rfl|rfl|rfl;simp[De,Aq.sv,AG.keys,Ax,SV.keys]at a;rcases a with rfl|rfl;exact e 1 dC;exact e 2 dC;cases a;simp[AG.keys,Ax,SV.keys]at a;rcases a with rfl|rfl;exact e 3 dC;exact e 4 dC;cases a;cases a
def AMH{I k}:E3 (ZY I k) [] I:=by refine⟨?_⟩;rintro b h ⟨m,L,J,rfl,a,_⟩;exact⟨AMF,a.le⟩
structure NX where
 i:Nat
 J:AB
 L:AA Rw
 m:BJ
def AJJ(c:DG)(q:Ii)(x:NX):Hd where
 By:=[(1,.p 6 0),(2,.p 1 0),(29,.v (.slice q.ba c.boxes.length q.bc)),(30,.v (.int .i64 (c.boxes.length:Int))),(31,.v (.int .i64 (x.i:Int)))]
 Bu:=[(1,.cells (x.m.row c.im 0) 107),(2,.obj (.map x.m.es x.m.n)),(3,.cells [.m 4,.m 5] 178),(4,.obj (.map x.m.sm.es x.m.sm.n)),(5,.obj (.map x.m.sm.ns x.m.sm.m)),(6,.cells (KZ c q) 36)]
 J:=x.J
def AJK(c:DG)(q:Ii)(x:NX):Hd where
 By:=[(1,.p 6 0),(2,.p 1 0),(56,.v (.slice q.ta c.A3.length q.tc)),(57,.v (.int .i64 (c.A3.length:Int))),(58,.v (.int .i64 (x.i:Int)))]
 Bu:=[(1,.cells (x.m.row c.im 0) 107),(2,.obj (.map x.m.es x.m.n)),(3,.cells [.m 4,.m 5] 178),(4,.obj (.map x.m.sm.es x.m.sm.n)),(5,.obj (.map x.m.sm.ns x.m.sm.m)),(6,.cells (KZ c q) 36)]
 J:=x.J
structure NP(I:AB)(n:Nat)(f:Nat->Ab)(x:NX):Prop where
 i:x.i<=n
 st:Bq I [] x.J (Bb x.L x.m)
 UG:Bl x.J x.L (f x.i) x.m
def AUZ(I)(aa:DK I)(hP:Pow I)(c q)(hc:Ja I c q)(h:TH c)(hV:Fn 135 [.g (De c.im q.ip)] [] I (Zi I) none):Fn 33 [.g (KZ c q)] [] I (ZY I (ED c)) none:=by
 have ad:=ASM I c q hc h hV;let⟨h1,⟨h2,h3⟩,h4,h5,h6⟩:=h;let⟨K,Z,H,N,ta,M,X⟩:=q;refine Bh func33 AMH λρ ah w ai=>gG<|CK ad kR λ_ J0 k _=>gG<|Ag (AUW J0) [] [] kR (λ_ h t kb n=>by rw[t]at n;cases n) λh' t=> ?_;subst t;refine gG<|NH 220 (b:=.DZ [] []) (b':=.obj (.map #[] 0)) kR (λρ=>rfl) nA rfl<|NH 228 (b:=.DZ [] []) (b':=.obj (.map #[] 0)) kR (λρ=>rfl) nA rfl<|NH 229 (b:=.DZ [] []) (b':=.obj (.map #[] 0)) kR (λρ=>rfl) nA rfl ?_;have ac:=hc.up k;refine loop (ι:=NX) (NP I c.boxes.length (nw1 c)) (λx=>c.boxes.length-x.i) (AJJ c ⟨K,Z,H,N,ta,M,X⟩) 3000 [(1,244),(2,220),(3,230),(4,228),(5,229),(6,100)] ⟨0,J0,[],m0K K⟩ ⟨BS _,.of k,ASW (aa.up k) (hP.up k) ac.im⟩ kR kR ?_;rintro⟨i,J,L,m⟩ ⟨p1,p2,p3⟩ again T;simp only at p1 p2 p3;have hle:=p2.le;have r:=hc.A8 hle;by_cases f:i<c.boxes.length;have F:c.boxes[i]? =some c.boxes[i]:=A9 f;have A:c.boxes.getD i Af=c.boxes[i]:=by rw[Cz,F];rfl
 have S:=h4 _ (DF f);have D:=AYS c f oG h4;have Q:Lx c i= {Cb with kind:=3,l:=c.boxes[i].l,v:=whole c.boxes[i].v}:=by unfold Lx;rw[A]
 rw[Q]at D;have j:=AC5 c i;rw[Q]at j;generalize c.boxes[i]=s at F S D j;let⟨b,g,arr,e,fr,G,O,q2,q3,q4,q5⟩:=r.bx.cell ACp F;have q3:G=G3 s:=q3;subst q3;simp only at O;subst O;have C:str (Ix [i])=AR [i]:=by rw[ABu oG];rfl
 have o:=ACI J p3.pow i 1;rw[C]at o;have z:=Vw J p3.pow (Ju c i) m.sm.es m.sm.ns m.sm.n m.sm.m L [i] {Cb with kind:=3,l:=s.l,v:=whole s.v} GI D (H8 S) (by show 0<=1000000;decide) Lg p3.Bm p3.Cq (by have:=ALN c i;omega);rw[<-j]at z;refine gg [(32,hT ((i:Int)<(c.boxes.length:Int)) oG),(34,BM J AAm b g c.boxes.length H i f),(35,DR J ACi (g+i*3) (G3 s) rfl q2 q5)]<|P7 o [(1,3064)] kR<|gG<|Ag z PU [1,2,3] kR (λah y t kb n=>by obtain⟨p,u,n',m',L',J,_,_,_,_,_,rfl⟩:=t;simp[mS]at n⊢;rcases n with rfl|rfl|rfl<;>simp) λy t=> ?_
 obtain⟨p,u,n',m',L',Y,d,V,U,B,E,rfl⟩:=t;refine gg [(54,hW ((i:Int)+1) ((i+1:Nat):Int) oG oG)] ?_;let⟨k1,k2⟩:=p3.U0 (k':=nw1 c (i+1)) (m':={m with sm:=⟨p,n',u,m'⟩}) ⟨d,B,E⟩ ⟨rfl,rfl⟩ ⟨rfl,rfl⟩ ⟨rfl,rfl⟩ ⟨rfl,rfl⟩ (DO.A8 d p3.tm) V U;exact back [] (AJJ c ⟨K,some ⟨b,g,none⟩,H,N,ta,M,X⟩ ⟨i+1,Y,L',{m with sm:=⟨p,n',u,m'⟩}⟩) 3000 kR kR kR λT'=>again ⟨i+1,Y,L',{m with sm:=⟨p,n',u,m'⟩}⟩ ⟨by show i+1<=_;omega,p2.trans k2,k1⟩ (by show c.boxes.length-(i+1)<c.boxes.length-i;omega) T';have hi:i=c.boxes.length:=oG;subst hi;refine gg [(32,hF ((c.boxes.length:Int)<(c.boxes.length:Int)) oG)] ?_;have k0:Bl J L (PG c 0) m:=p3;refine loop (ι:=NX) (NP I c.A3.length (PG c)) (λx=>c.A3.length-x.i) (AJK c ⟨K,Z,H,N,ta,M,X⟩) 6000 [] ⟨0,J,L,m⟩ ⟨BS _,p2,k0⟩ kR kR ?_;rintro⟨i,J,L,m⟩ ⟨p1,p2,p3⟩ again T;simp only at p1 p2 p3;have hle:=p2.le;have r:=hc.A8 hle;by_cases f:i<c.A3.length;have F:c.A3[i]? =some c.A3[i]:=A9 f;have A:c.A3.getD i Af=c.A3[i]:=by rw[Cz,F];rfl
 have P:=h5 _ (DF f);have j:=ALQ c i;rw[A]at j;generalize c.A3[i]=s at F P j;let⟨b,g,arr,e,fr,G,O,q2,q3,q4,q5⟩:=r.th.cell AFN F;have q3:G=FZ s:=q3;subst q3;simp only at O;subst O;have C:str (Ix [c.boxes.length+i])=AR [c.boxes.length+i]:=by rw[ABu oG];rfl
 have o:=ACI J p3.pow (c.boxes.length+i) 1;rw[C]at o;have ab:=AOB J p3.pow c ⟨K,Z,H,N,some ⟨b,g,none⟩,M,X⟩ s [c.boxes.length+i] r P oG;let⟨t1,t2,t3⟩:=ALP c h1 i oG;refine gg [(59,hT ((i:Int)<(c.A3.length:Int)) oG),(61,BM J AGT b g c.A3.length M i f),(62,DR J ACe (g+i*9) (FZ s) rfl q2 q5),(68,hW ((c.boxes.length:Int)+(i:Int)) ((c.boxes.length+i:Nat):Int) oG oG)]<|P7 o [(1,6096)] kR<|gG<|CK ab kR λa Y d ha=> ?_;have R:=AHw Y L (PG c i) m (Dq c s [c.boxes.length+i]) a ⟨p3.up d,ha,N4 (show c.boxes.length+i<=999 by omega),t2,t1,by show(NM c i).length<=900000;omega⟩;have ae:({PG c i with AD:=B5 (PG c i).AD (Dq c s [c.boxes.length+i])}:Ab)=PG c (i+1):=by unfold PG;rw[j]
 rw[ae]at R;refine gG<|Ag R [] [1,2,3,4,5] kR LX λy t=> ?_;obtain⟨m3,L3,J3,rfl,ag,af⟩:=t;refine gg [(79,hW ((i:Int)+1) ((i+1:Nat):Int) oG oG)] ?_;exact back [] (AJK c ⟨K,Z,H,N,some ⟨b,g,none⟩,M,X⟩ ⟨i+1,J3,L3,m3⟩) 6000 kR kR kR λT'=>again ⟨i+1,J3,L3,m3⟩ ⟨by show i+1<=_;omega,(p2.trans (.of d)).trans ag,af⟩ (by show c.A3.length-(i+1)<c.A3.length-i;omega) T';have hi:i=c.A3.length:=oG;subst hi;refine gg [(59,hF ((c.A3.length:Int)<(c.A3.length:Int)) oG)] ?_;have e:PG c c.A3.length=ED c:=(AUV c).symm;rw[e]at p3;exact dn [1,2,3,4,5] ⟨m,L,J,rfl,p2,p3⟩
end
section
open Go.AX Go.Maps Go.RowKit Go.Shelf Go.Sort Lz
def AZo{a:Nat}(h:a<=65535):(Lit.int .i64 (a:Int)).wf:=by simp[Lit.wf,IntKind.min,IntKind.max,IntKind.signed,IntKind.bits,Bt,D1,Lq];omega
def F2.owns{S:List (Nat×Nat)}{es:Array MapEntry}{n:Nat}{c:Array MapEntry}{no:Nat}(h:F2 S es n c no)(hS:S.length<=256){w:World}{b:Nat}(hb:w.heap[b]? =some (.map c no)):
 ∃D0:DataW Nat,w.ownsMap Tryz.prog 3 (plainElem Tryz.prog 4) b c.size D0/\Maps.size D0=c.size/\∀x,x∈intKeys D0->∃e∈c.toList,e.key=.int .i64 x:=by
 have ALm:Tryz.prog.underlying 4=some .bool:=kR;have f: ∀x∈c.toList,∃a:Nat,x.key=.int .i64 (a:Int)/\Go.WideElems.rd Tryz.prog 3 (plainElem (H:=Nat) Tryz.prog 4) x=some (.int .i64 (a:Int),.lit (.bool true)):=λx i=>by
  obtain⟨a,h1,j,e',d,m⟩:=h.opn x i;obtain⟨l,s,hs,hk,_⟩:=h.seen e' d;have o:a=l:=by have:=(Value.int.inj (hk.symm.trans (m.trans h1))).2;omega
  have r:=(List.getElem?_eq_some_iff.1 hs).1;refine⟨a,h1,?_⟩;obtain⟨k,v,y⟩:=x;simp only at h1 j;subst h1 j;exact Go.WideElems.rd_mk (keyOf_int_mk Dj (AZo oG)) (plainElem_bool ALm true)
 have u:c.size<=256:=by
  have t:=h.so.2.2;have g: ∀k∈c.toList.map (·.key),k∈es.toList.map (·.key):=λk hk=>by obtain⟨e,he,rfl⟩:=List.mem_map.1 hk;obtain⟨_,_,_,e',d,q⟩:=h.opn e he;exact List.mem_map.2 ⟨e',d,q⟩
  have h1:=XW t g;have j:=h.size;simp only[List.length_map,Array.length_toList]at h1;omega
 refine⟨.map ((c.toList.map (Go.WideElems.rg Tryz.prog 3 (plainElem Tryz.prog 4))).foldr DataW.insert []),⟨c,no,hb,⟨by unfold maxLen;omega,h.so,λx i=> ?_⟩,Nat.le_refl _,rfl⟩,?_,?_⟩;obtain⟨a,_,q⟩:=f x i;exact⟨_,q⟩;rw[Maps.size_eq,length_read];intro x i;obtain⟨p,hp,rfl⟩:=List.mem_map.1 i;have hp:=(Go.WideShapes.sorted_perm _).mem_iff.1 hp;obtain⟨e,he,rfl⟩:=List.mem_map.1 hp;obtain⟨a,hk,q⟩:=f e he;refine⟨e,he,?_⟩;rw[Go.WideElems.rg_of q];exact hk
def AM3(I:AB)(b:AY Ah)(c:Nat):Nat->AU->Prop:=λa h=>h= {r:=.fn (.func 344) [] [.p a 0],upd:=[(3,.obj (.map b c))],nb:=[.cells [.m 3] 378],J:=I}
def ASd(I e i):Fn 272 [.m 3] [(3,.obj (.map e i))] I (AM3 I e i) none:=by refine fo func272 ⟨?_⟩ λl d w g=> ?_;rintro d h rfl;refine⟨⟨λk a=> ?_,λj c=> ?_,λb f k a=> ?_,sP,sP⟩,AB.le_refl _⟩;simp[SV.keys,Ax]at a;subst a;right;show(Bf k [AG.cells [SV.m 3] 378] (k+0)).isSome;rw[Gx];rfl;simp at c;subst c;exact⟨sP,nA⟩;simp at f;subst f;simp[AG.keys,Ax,SV.keys]at a;subst a;left;simp;exact gG<|dn [100] rfl
def ANA(I:AB)(d:AY Ah):Nat->AU->Prop:=λ_ h=>∃(b m c:Nat)(a:AY AE)(J:AB)(x:Int),I.le J/\J.own=I.own/\J b=some (.cells a 3 (0,0))/\0<m/\a[0]? =some (.int .i64 x)/\(∃e∈d.toList,e.key=.int .i64 x)/\h= {r:=.v (.slice (some ⟨b,0,none⟩) m c),J:=J}
def AXS(I:AB){S:List (Nat×Nat)}{es:Array MapEntry}{n:Nat}{r:Array MapEntry}{no:Nat}(h:F2 S es n r no)(hS:S.length<=256)(X:0<r.size):
 Fn 271 [.fn (.func 344) [] [.p 9 0]] [(9,.cells [.m 3] 378),(3,.obj (.map r no))] I (ANA I r) none:=by
 refine⟨⟨?_,?_⟩,Hw Tryz.func271 kR kR⟩;rintro key h ⟨b,m,c,cells,J,x,h1,_,_,_,_,_,rfl⟩;exact⟨⟨(λk hk=>by cases hk),(λkb t=>by cases t),(λb hb=>by cases hb),sP,sP⟩,h1.Cg⟩;intro ρ key w O hN F U N;have E:=hN (9,.cells [.m 3] 378) sP _ rfl;have M:=hN (3,.obj (.map r no)) sP _ rfl;simp only[As,den]at E M;obtain⟨D0,Q,u,hk⟩:=h.owns hS M;have R:r.size<=256:=by
  have:=Q;have W:=h.so.2.2;have C: ∀k∈r.toList.map (·.key),k∈es.toList.map (·.key):=λk hk=>by obtain⟨e,he,rfl⟩:=List.mem_map.1 hk;obtain⟨_,_,_,e',K,q⟩:=h.opn e he;exact List.mem_map.2 ⟨e',K,q⟩
  have h1:=XW W C;have Z:=h.size;simp only[List.length_map,Array.length_toList]at h1;omega
 refine(AaC (ρ 9) (ρ 3) r.size D0 _ w (Dh E) (by simp[World.cell?,E]) Q (by rw[u];unfold maxLen;omega) (by rw[u];omega)).mono ?_;rintro e w' ⟨v,ss,rfl,hp,B,P,hb⟩;have hlen:ss.length=r.size:=by
  rw[hp.length_eq,<-u];cases D0 with
  |map l=>simp[intKeys,Maps.size]
  |_=>simp[intKeys,Maps.size]
 obtain⟨hl,Y⟩:=B;rcases Y with⟨_,hz⟩|⟨g,cap,cur,rfl,f,V,r1,r2,r3,T⟩;omega;have p:=Ns F f;let J:AB:=⟨λx=>match Nat.beq x g with|true=>some (.cells cur 3 (0,0))|false=>I.at_ x,I.own⟩;have z:J g=some (.cells cur 3 (0,0)):=by show(match Nat.beq g g with|true=>_|false=>_)=_;simp
 have s: ∀x,x≠g->J x=I x:=λx d=>by show(match Nat.beq x g with|true=>_|false=>_)=_;rw[P4 d]
 have hle:I.le J:=⟨λx o d=>by
  by_cases e:x=g;rw[e,p.1]at d;cases d;rw[s x e];exact d,λx o d=>⟨d.own,by
  by_cases e:x=g;have:=d.own;rw[e,p.2]at this;cases this;rw[s x e];exact d.at_⟩⟩
 have L:=(List.mergeSort_perm ss (λx y=>decide (x<=y))).trans hp;have A:(ss.mergeSort (λx y=>decide (x<=y))).length=ss.length:=(List.mergeSort_perm ss _).length_eq;obtain⟨x,l,d⟩: ∃x l,ss.mergeSort (λx y=>decide (x<=y))=x::l:=by
  cases q:ss.mergeSort (λx y=>decide (x<=y))with
  |nil=>rw[q]at A;simp at A;omega
  |cons x l=>exact⟨x,l,rfl⟩
 have D:=hk x (L.mem_iff.1 (by rw[d];simp));have H:cur[0]? =some (.int .i64 x):=by
  rw[d]at T;have h0:(cur.toList.take (ss.length*1))[0]? =some (encZ x):=by rw[T];rfl
  rw[List.getElem?_take]at h0;split at h0;simpa using h0;cases h0
 refine⟨_,λ_=>0,⟨g,ss.length,cap,cur,J,x,hle,rfl,z,oG,H,D,rfl⟩,⟨hb.os,hb.tape,hb.output,hb.size,λb G _ _=>hb.block b G,(λkb t=>by cases t),(λj b hj=>by simp at hj),(λi j hi=>by simp at hi),⟨λx' o a=> ?_,λx' o a=> ?_⟩,λx' o a=> ?_,λx' o a=> ?_⟩,rfl⟩;by_cases e:x'=g;subst e;have a:J x'=some o:=a;rw[z]at a;cases a;exact V;have a:J x'=some o:=a;rw[s x' e]at a;have h0:=F.1 x' o a;rw[hb.block x' (Dh h0)];exact h0;have h0:=F.2 x' o a;rw[hb.block x' (Dh h0)];exact h0;by_cases e:x'=g;right;exact⟨by rw[e];exact f,λj hj=>by simp at hj⟩;left;have a:J x'=some o:=a;rw[s x' e]at a;exact a;left;have a:I.own x'=some o:=a;rw[a];rfl
end
section
open Go.AX Lz
theorem AYi(u v w):CallsD prog 268 #[u,v] .returning w λe d g=>e=.returned (.tuple #[])/\d=.returning/\g=w:=by refine callsD_of_wpS func268 rfl λa h b=> ?_;apply wpS_seq;apply wpS_region;simp[wpOpsS,go_sem,recoverD,b,ntmps268,Exit.thenS];apply wpS_seq;apply wpS_region;simp[wpOpsS,go_sem,Exit.thenS];refine wpS_cond (t:=false) (by simp[Act.eval,Array.replicate]) ?_;simp[Me,Gn];refine wpS_of_wp (wp_skip ?_);cases a;simp_all[bodyPostS,results,results268]
def ABs{t v m d a:Nat}{e}{n:Nat}{I j}(u:prog.underlying t=some (.map v m))(r:j= {callee:=.builtin .len,args:=#[.tmp a],argTypes:=#[t]}):
 ∀b i (o:BP),o.op=.call j->(∀p∈[(a,SV.m d)],i p.1=p.2)->LS prog o i b [(d,.obj (.map e n))] I (.v (.int .i64 (e.size:Int))) none:=by
 subst r;intro b i o l h;have q:=Cy h (s:=a) (x:=.m d) sP;intro ρ x w s hN _ _ _;refine⟨w,?_,BB.refl w⟩;have k:=s (.tmp a) (by simp[l,Op.operands,Go.Call.operands]);simp[ev,q,den]at k;have g:=hN (d,.obj (.map e n)) sP _ rfl;simp[execOp,l,resolve,invoke,builtin,Builtin.len_,k,run_underlying u,MapKept.run_getObj_map g,Result.andThen,den,goInt]
def ARY{o}{tm}{key t kt km n}{m k}{kv}{es es'}{need}{I}{cl}(z:o.op=.call cl)(hc:cl= {callee:=.builtin .delete,args:=#[m,k],argTypes:=#[t,kt]})(hm:ev tm m=.m km)(hk:ev tm k=.v kv)(d:(km,.obj (.map es n))∈need)
 (q: ∀(w:World) r ty,w.heap[r]? =some (.map es n)->(Builtin.delete_ #[t,kt] ty #[.map (some r),kv]).run Tryz.prog w=.ok (.tuple #[]) {w with heap:=w.heap.setIfInBounds r (.map es' n)}):HS Tryz.prog o tm key need I (λh=>h= {r:=.t [],upd:=[(km,.obj (.map es' n))],J:=I}) none:=by
 subst hc;refine⟨?_⟩;intro ρ a w he G D x B E H next Q hnext _;have hb:=G _ d _ rfl;simp only at hb;have s:=he m (by simp[z,Op.operands,Go.Call.operands]);have u:=he k (by simp[z,Op.operands,Go.Call.operands]);rw[hm]at s;rw[hk]at u;simp only[den]at s u;have hs:=q w (ρ km) o.type hb;have hex:(execOp a.eval o).run Tryz.prog w=.ok (.value (.tuple #[])) {w with heap:=w.heap.setIfInBounds (ρ km) (.map es' n)}:=by simp[execOp,z,resolve,invoke,builtin,s,u,hs,Result.andThen]
 obtain⟨k1,k2⟩:=MapKept.heap_set (o':=.map es' n) hb;unfold Oper.wp;rw[hex,Oper.upon_value];refine hnext rfl {r:=.t [],upd:=[(km,.obj (.map es' n))],J:=I} _ (λ_=>0) rfl ⟨rfl,rfl,rfl,sP,λb g y _=>k2 b λe=>(y (km,.obj (.map es' n)) sP) ?_,?_,λj b hj=>by simp at hj,λi j hi=>by simp at hi,?_,λb o' g=>.inl g,λb o' g=>Gg g⟩;exact e.symm;intro kb l o' p;simp at l;subst l;have C:AU.Am {r:=.t [],upd:=[(km,AG.obj (.map es' n))],J:=I} ρ key (λ_=>0)=ρ:=by funext n;exact Ej (by unfold Bf;split<;>rfl)
 rw[C]at p⊢;cases p;exact k1;exact D.keep (x _ d rfl) λb _ v=>k2 b λe=>v e.symm
section
variable {ds:List Deferred} {F:FuncId} {c:Func} {n:Nat} {I:AB} {w:World} {ρ:Nat->Nat} {A:List Nat} {R:Dl} {f:BU}
def AT8{t kt km m0 m k kv es es' I' o}(s:(Lc f).op=.call o)(p:o= {callee:=.builtin .delete,args:=#[m,k],argTypes:=#[t,kt]})(q:ev f.σ.tm m=.m km)(e:ev f.σ.tm k=.v kv)
 (i:∀(w:AI) r ty,w.heap[r]? =some (.map es m0)->(Builtin.delete_ #[t,kt] ty #[.map (some r),kv]).run prog w=.ok (.tuple #[]) {w with heap:=w.heap.setIfInBounds r (.map es' m0)})
 (g:Lw f n [(km,.obj (.map es m0))] [km]=some ([some (.obj (.map es m0))],I')) (hnext:AtD ds F c n I w ρ A R (f.act {r:=.t [],upd:=[(km,.obj (.map es' m0))],J:=I'})):AtD ds F c n I w ρ A R f:=by
 refine act (need:=[(km,.obj (.map es m0))]) [km] g (ARY (I:=I') s p q e (AP.2 rfl) i) ?_ ?_ ?_;rintro h rfl v a;rw[AP.1 a];exact AP.2 rfl;rintro h rfl;refine{r:=nA,u:=λv a=> ?_,n:=nA,l:=by simp,le:=AB.Fa _,d:=by simp};rw[AP.1 a];exact⟨AP.2 rfl,λb j=>by rw[(GY (AP.1 j)).2];rfl,nA⟩;rintro h rfl;exact hnext
end
def AWh{t h o k d e n j kv old}(m:prog.underlying t=some (.map h k))(a:prog.underlying h=some d)(b:MapKept.IsKey d kv)(l:Instr.findNow d kv e.toList 0=some (some (j,old)))(w r)(i:w.heap[r]? =some (.map e n)):
 (Builtin.delete_ #[t,h] o #[.map (some r),kv]).run prog w=.ok (.tuple #[]) {w with heap:=w.heap.setIfInBounds r (.map (e.eraseIdxIfInBounds j) n)}:=by
 have g:=MapKept.run_findKey (P:=prog) (w:=w) a l;simp[Builtin.delete_,run_underlying m,MapKept.run_getObj_map i,MapKept.run_checkKey a b,g,Result.andThen,MapKept.run_setObj_map _ i]
def F2.erase{S i}{n:Nat}{b}{p:Nat}(h:F2 S i n b p){a:Nat}(k:∃e∈b.toList,e.key=.int .i64 (a:Int)):
 ∃j old,Instr.findNow (.int .i64) (.int .i64 (a:Int)) b.toList 0=some (some (j,old))/\F2 S i n (b.eraseIdxIfInBounds j) p/\wμ S i (b.eraseIdxIfInBounds j)<wμ S i b:=by
 rcases MapKept.findNow_spec (d:=.int .i64) (k:=.int .i64 (a:Int)) rfl b.toList 0 h.AHu with q|⟨j,e,m,r,u⟩;let⟨e,s,t⟩:=k;exact absurd t (q.2 e s);rw[D5]at m;have d:j<b.size:=by have:=(B6.1 r).1;simpa using this
 have g:(b.eraseIdxIfInBounds j).toList=b.toList.eraseIdx j:=by unfold Array.eraseIdxIfInBounds;rw[RH d];simp
 have l:(b.eraseIdxIfInBounds j).size=b.size-1:=by unfold Array.eraseIdxIfInBounds;rw[RH d];simp
 refine⟨j,e.val,m,⟨h.st,MapKept.stamped_erase h.so j,h.seen,λx o=> ?_⟩,?_⟩;rw[g]at o;exact h.opn x ((AMj _ _).subset o);unfold wμ;rw[l];omega
def RU.up{I J d e f a b cl}(h:RU I d e f a b cl)(hle:I.le J):RU J d e f a b cl:=
 ⟨h.tab.up hle,h.img.up hle,h.cs,h.fs,h.fa,h.code.up hle λ_ _ h=>h,h.len,h.a,h.v⟩
def Vo(I:AB):Nat->AU->Prop:=λa h=>∃(b:AY Ah)(n:Nat)(J:AB),I.le J/\h= {r:=.t [.m a,.g [.v (.int .i64 0),.v (.int .i64 0)]],nb:=[.obj (.map b n)],J:=J}
def AZu{I}:CO (Vo I) [] I:=by refine⟨?_⟩;rintro f h ⟨e,n,J,hle,rfl⟩;refine⟨⟨λk a=> ?_,nA,λb d k a=> ?_,sP,sP⟩,hle⟩;simp[SV.keys,Ax]at a;subst a;right;show(Bf k [AG.obj (Obj.map e n)] (k+0)).isSome;rw[Gx];rfl;simp at d;subst d;cases a
def trB(e:Ak)(g:CY)(f:Lz.DT)(a:AK Ac)(b:Nat)(d:AY Ah)(n:Nat)(c:AY Ah)(h:Nat):AA (Nat×AG):=IG e g f a b d n c h++[(4,.cells [.v (.map none)] 332),(5,.cells [.v (.int .i64 0),.v (.int .i64 0)] 334)]
def ALe(I:AB)(im:Ak)(ip:CY)(f:Lz.DT)(ca:AK Ac)(cc:Nat)(i:Nat):Hd where
 By:=[(4,.p 4 0),(5,.p 5 0),(6,.p 1 0),(22,.v (.int .i64 (f.code.length:Int))),(23,.v (.int .i64 (i:Int)))]
 Bu:=trB im ip f ca cc #[] 0 #[] 0
 J:=I
def ALf(im:Ak)(ip:CY)(f:Lz.DT)(ca:AK Ac)(cc:Nat)(q:AY Ah×Nat×AY Ah×Nat×AB):Hd where
 By:=[(4,.p 4 0),(5,.p 5 0),(6,.p 1 0)]
 Bu:=trB im ip f ca cc q.1 q.2.1 q.2.2.1 q.2.2.2.1
 J:=q.2.2.2.2
def AZJ(S):F2 S #[] 0 #[] 0:=⟨⟨sP,sP,sP⟩,⟨sP,sP,sP⟩,sP,sP⟩
def AY3{I j k f d e i n g l}:∀b h,Zj I j k f d e i n g l b h->∀c∈h.upd,c.1∈[1,2,3]:=by rintro b h rfl c a;simp[IG,mS]at a;rcases a with rfl|rfl|rfl<;>simp
def AYh(I)(ae:DK I)(d Z)(P:D3 I d Z)(ag:d.consts.length<=64)(ak:d.Ad.length<=16)(ai:∀g∈d.Ad,g.args<=16)(i:Nat)(f)(y:d.Ad[i]? =some f)(R:f.code.length<=256)(ha:f.args<=16)(hv:f.args+f.vars<=16)(S)(X:Lr d f S):
 Fn 188 [.g (De d Z),.v (.int .i64 (i:Int))] [] I (Vo I) none:=by
 have t:i<d.Ad.length:=(B6.1 y).1;have hS:S.length<=256:=by rw[X.len];exact R
 have hu:=P.u;let⟨fb,b,ax,fe,ay,az,U,q2,q3,q4,q5⟩:=hu.cell (T7 I) y;obtain⟨p,s,cl,rfl,z⟩:=q3;have O:RU I d Z f p s cl:=⟨ae,P,ag,ak,ai,z,R,ha,hv⟩;let⟨E,F,G,ua,C,H⟩:=Z;simp only at U;subst U;refine fo func188 AZu λρ k w Q=>go func188 [] 7 kR<|APW func188 9 268 4 5 #[] kR kR kR λu v=> ?_;have an:∀(k:Nat)(tmps:AY AE)(D:AI)(x:AE),(results f188 tmps).run prog D=.ok x D->Rf prog I ρ k w (Vo I) none (.returned x) D->Leaves prog f188 tmps (Rf prog I ρ k w (Vo I) none) [{target:=.fn (.func 268) #[u,v],args:=#[]}] .returning D:=λk tmps D x h1 h2=>by refine leaves_cons (f:=268) (args:=#[u,v]) sP ?_ ?_;have:=Hw func268 kR kR #[u,v] D;simpa[invoke]using this;refine(AYi u v D).mono ?_;rintro e u' a0 ⟨rfl,rfl,rfl⟩;exact⟨x,h1,h2⟩
 refine gg [(14,BM I LI fb b d.Ad.length C i t),(15,DR I AKS (b+i*3) (T8 f p s) rfl q2 q5)]<|NH 172 (b:=.DZ [] []) (b':=.obj (.map #[] 0)) kR (λρ=>rfl) nA rfl<|NH 180 (b:=.DZ [] []) (b':=.obj (.map #[] 0)) kR (λρ=>rfl) nA rfl<|loop (ι:=Nat) (λi=>i<=f.code.length) (λi=>f.code.length-i) (ALe I d ⟨E,F,G,some ⟨fb,b,none⟩,C,H⟩ f p s) 1000 [(1,196),(2,172),(3,180),(4,108),(5,116)] 0 (BS _) kR kR ?_;intro i P again T;by_cases t:i<f.code.length;have y:f.code[i]? =some f.code[i]:=A9 t;let⟨r1,r2⟩:=X.op _ (DF t);refine gg [(24,hT ((i:Int)<(f.code.length:Int)) oG)]<|Ag (AY9 I d _ f p s cl O #[] 0 #[] 0 i _ y r1 r2) [] [1,2,3] kR AY3 ?_;rintro _ rfl;exact gg [(28,hW ((i:Int)+1) ((i+1:Nat):Int) oG oG)]<|back [] (ALe I d ⟨E,F,G,some ⟨fb,b,none⟩,C,H⟩ f p s (i+1)) 1000 kR kR kR λT'=>again (i+1) oG oG T';have P:i=f.code.length:=oG;subst P;refine gg [(24,hF ((f.code.length:Int)<(f.code.length:Int)) oG)]<|Ag (OH I d ⟨E,F,G,some ⟨fb,b,none⟩,C,H⟩ f p s S #[] 0 #[] 0 (AZJ S) 0 0 (0,0) X.hd) [] [1,2,3] kR NN ?_;rintro _ ⟨ac,n1,ab,aw,ap,_,rfl⟩;refine gG<|loop (ι:=AY Ah×Nat×AY Ah×Nat×AB) (λq=>F2 S q.1 q.2.1 q.2.2.1 q.2.2.2.1/\I.le q.2.2.2.2) (λq=>wμ S q.1 q.2.2.1) (ALf d ⟨E,F,G,some ⟨fb,b,none⟩,C,H⟩ f p s) 3000 [] (ac,n1,ab,aw,I) ⟨ap,AB.le_refl _⟩ kR kR ?_;rintro⟨es,n,l,V,J⟩ ⟨Y,hle⟩ o T2;simp only at Y hle;by_cases h0:l.size=0
 exact gg [(33,.hand (.call {callee:=.builtin .len,args:=#[.tmp 32],argTypes:=#[378]}) [(32,.m 3)] [(3,.obj (.map l V))] J (.v (.int .i64 (l.size:Int))) (ABs YO rfl)),(34,hF ((l.size:Int)>0) oG)]<|doneD func188 Q [2] (h:={r:=.t [.m k,.g [.v (.int .i64 0),.v (.int .i64 0)]],nb:=[.obj (.map es n)],J:=J}) kR ⟨es,n,J,hle,rfl⟩ (an k);refine gg [(33,.hand (.call {callee:=.builtin .len,args:=#[.tmp 32],argTypes:=#[378]}) [(32,.m 3)] [(3,.obj (.map l V))] J (.v (.int .i64 (l.size:Int))) (ABs YO rfl)),(34,hT ((l.size:Int)>0) oG)]<|Ag (ASd J l V) [] [3] kR (λk h hh kb B=>by subst hh;rw[AP.1 B];exact AP.2 rfl) ?_;rintro _ rfl;refine gG<|Ag (AXS J Y hS oG) [(9,3048)] [] kR (λk h ⟨_,_,_,_,_,_,_,_,_,_,_,_,hh⟩ kb B=>by subst hh;cases B) ?_;rintro _ ⟨sb,m,c,aa,K,x,N,_,ad,hm,af,al,rfl⟩;let⟨e,he,hk⟩:=al;let⟨a,A,_,e',ah,am⟩:=Y.opn e he;have au:x=(a:Int):=(Value.int.inj (hk.symm.trans A)).2;subst au;let⟨j,old,aj,aq,av⟩:=Y.erase ⟨e,he,A⟩;refine gg [(39,BM K WW sb 0 m c 0 hm),(40,C9 K Dj rfl (0+0*1) (.int .i64 (a:Int)) ad af)]<|AT8 (t:=378) (kt:=3) (km:=3) (m0:=V) (m:=.tmp 42) (k:=.tmp 43) (kv:=.int .i64 (a:Int)) (es:=l) (es':=l.eraseIdxIfInBounds j) (I':=K) kR rfl kR kR (λw r ty hb=>AWh (kv:=.int .i64 (a:Int)) YO Dj rfl aj w r hb) kR<|gG<|Ag (AYY K d ⟨E,F,G,some ⟨fb,b,none⟩,C,H⟩ f p s cl (O.up (hle.trans N)) S X es n (l.eraseIdxIfInBounds j) V aq a ⟨e',ah,am.trans A⟩) [] [1,2,3] kR NN ?_;rintro _ ⟨M,n3,L,W,ar,ao,rfl⟩
 exact gG<|back [] (ALf d ⟨E,F,G,some ⟨fb,b,none⟩,C,H⟩ f p s (M,n3,L,W,K)) 3000 kR kR kR λT'=>o (M,n3,L,W,K) ⟨ar,hle.trans N⟩ (Nat.lt_of_le_of_lt ao av) T'
def AL2(im:Ak)(ip:CY)(q:Nat×AB):Hd where
 By:=[(1,.p 1 0),(16,.v (.int .i64 (im.Ad.length:Int))),(17,.v (.int .i64 (q.1:Int)))]
 Bu:=[(1,.cells (De im ip) 32)]
 J:=q.2
def AY5(I)(c:DK I)(z:Pow I)(a b)(e:D3 I a b)(h:Nb a)(k:∀f∈a.Ad,∃S,Lr a f S):Fn 135 [.g (De a b)] [] I (Zi I) none:=by have m:=AHX I c z a b e h;let⟨h1,⟨F,y⟩,h4,h5⟩:=h;refine fo func135 (EK λ_=>rfl) λH p w r=>gG<|call m kR<|gG<|loop (ι:=Nat×AB) (λq=>q.1<=a.Ad.length/\I.le q.2) (λq=>a.Ad.length-q.1) (AL2 a b) 1000 [(1,100)] (0,I) ⟨BS _,AB.le_refl _⟩ kR kR ?_;rintro⟨i,J⟩ ⟨l,hle⟩ again T;simp only at l hle;by_cases d:i<a.Ad.length;have D:a.Ad[i]? =some a.Ad[i]:=A9 d;have s:=DF d;let⟨S,A⟩:=k _ s;let⟨u,v,x,_⟩:=h5 _ s;refine gg [(18,hT ((i:Int)<(a.Ad.length:Int)) oG)]<|Ag (AYh J (c.up hle) a b (e.up hle) h1 y (λg B=>(h5 g B).a) i _ D x.2 u v S A) [] [] kR (λp h ⟨_,_,_,_,C⟩ G o=>by subst C;cases o) ?_;rintro _ ⟨E,n,K,j,rfl⟩;refine gg [(34,hW ((i:Int)+1) ((i+1:Nat):Int) oG oG)] ?_;exact back [] (AL2 a b (i+1,K)) 1000 kR kR kR λt=>again (i+1,K) ⟨by show i+1<=_;omega,hle.trans j⟩ (by show a.Ad.length-(i+1)<a.Ad.length-i;omega) t;have e:i=a.Ad.length:=oG;subst e;exact gg [(18,hF ((a.Ad.length:Int)<(a.Ad.length:Int)) oG)]<|dn [] ⟨(),J,rfl,hle,A0⟩
def AYM(a:Lz.AV):AA AH:=AC2 a.1++47::AC2 a.2
def ALA(x y):str x++str y=str (x++y):=by apply VM;simp[str]
def ATd(I:AB)(x y:Operand)(g:List (Nat×SV))(a b:ByteArray)(j:x=.const (.string a)\/∃t,x=.tmp t/\(t,SV.v (.string a))∈g)(k:y=.const (.string b)\/∃t,y=.tmp t/\(t,SV.v (.string b))∈g)(hl:a.size+b.size<=maxLen):
 ∀key tm (o:Oper),o.op=.binOp .add 9 x y 9->(∀p∈g,tm p.1=p.2)->LS Tryz.prog o tm key [] I (.v (.string (a++b))) none:=by
 intro key tm o f c;have h1:ev tm x=.v (.string a):=by rcases j with rfl|⟨t,rfl,h⟩;rfl;exact c _ h
 have i:ev tm y=.v (.string b):=by rcases k with rfl|⟨t,rfl,h⟩;rfl;exact c _ h
 intro ρ ac w he _ _ _ _;refine⟨w,?_,BB.refl w⟩;have d:=he x (by simp[f,Op.operands]);have e:=he y (by simp[f,Op.operands]);rw[h1]at d;rw[i]at e;simp only[den]at d e;simp only[execOp,f,Sem.run_bind,d,e];have hu:Tryz.prog.underlying 9=some .string:=Cm;go_simp;rw[if_neg (by unfold maxLen at hl;omega)];rfl
def ABI(I:AB)(x y:Operand)(c:AA (Nat×SV))(a b:Bp)(e:x=.const (.string a)\/∃t,x=.tmp t/\(t,SV.v (.string a))∈c)(f:y=.const (.string b)\/∃t,y=.tmp t/\(t,SV.v (.string b))∈c)(d:a.size+b.size<=maxLen):Hint:=
 .hand (.binOp .add 9 x y 9) c [] I (.v (.string (a++b))) (ATd I x y c a b e f d)
def UA(I:AB)(x y:Nat)(a b:Bp)(c:a.size+b.size<=maxLen):Hint:=ABI I (.tmp x) (.tmp y) [(x,.v (.string a)),(y,.v (.string b))] a b (.inr ⟨x,rfl,sP⟩) (.inr ⟨y,rfl,sP⟩) c
def ARE(I:AB)(y:Nat)(a b:Bp)(c:a.size+b.size<=maxLen):Hint:=ABI I (.const (.string a)) (.tmp y) [(y,.v (.string b))] a b (.inl rfl) (.inr ⟨y,rfl,sP⟩) c
def Rt(I:AB)(x:Nat)(a b:Bp)(c:a.size+b.size<=maxLen):Hint:=ABI I (.tmp x) (.const (.string b)) [(x,.v (.string a))] a b (.inr ⟨x,rfl,sP⟩) (.inl rfl) c
structure HF(I:AB):Prop where
 at_:∃arr e fr,I 2=some (.cells arr e fr)/\∀i,i<6->arr[i]? =some (.int .u8 (97+(i:Int)))
def HF.up{I J}(h:HF I)(hle:I.le J):HF J:=by let⟨arr,e,a,b,c⟩:=h.at_;exact⟨arr,e,a,hle _ _ b,c⟩
def HF.ATK{I}(h:HF I){w}(d:Db w I):I9 w:=λi c=>by let⟨arr,e,f,a,b⟩:=h.at_;have:=d _ _ a;simp[World.cell?,this,b i c]
def U1(l):(str l).size=l.length:=by simp[str,ByteArray.size]
def AUe(I):Fn 128 [.v (.string ⟨#[]⟩)] [] I (A1 (.v (.string ⟨#[]⟩)) I) none:=
 MB func128 kR kR (λ_=>rfl) (λ_=>rfl) rfl λw _=>by have:=NB ⟨#[]⟩ (BS _) w;rwa [show str (Lz.norm (⟨#[]⟩:Bp).data.toList)=⟨#[]⟩from kR]at this
def AF9(I):Fn 125 [.v (.string ⟨#[]⟩)] [] I (A1 (.v (.string ⟨#[84]⟩)) I) none:=
 fo func125 (BZ rfl) λb a w _=>gG (call (AUe I) kR (gG fi))
def tT:Bp:=(⟨#[84]⟩++⟨#[47]⟩)++⟨#[84]⟩
def AIi(I):Fn 70 [Cc EC] [] I (A1 (.v (.string tT)) I) none:=
 fo func70 (BZ rfl) λb a w _=>gG (call (AF9 I) kR (gg [(6,Rt I 5 ⟨#[84]⟩ ⟨#[47]⟩ (by decide))] (call (AF9 I) kR (gg [(10,UA I 6 9 (⟨#[84]⟩++⟨#[47]⟩) ⟨#[84]⟩ (by decide))] fi))))
def AZE(I)(a:Pow I):Fn 71 [Cn (whole 9)] [] I (A1 (.v (.string (str (Lib.itoa 9)))) I) none:=
 fo func71 (BZ rfl) λc b w _=>gG (call (ADS I a (whole 9) ⟨.inl rfl,dC,dC⟩) kR (gg [(6,Oy (whole 9).right false (by decide))] (call (AIi I) kR (gg [(10,ARE I 9 ⟨#[60]⟩ tT (by decide)),(11,Rt I 10 (⟨#[60]⟩++tT) ⟨#[62]⟩ (by decide))] (call (YH I a 9 dC dC) kR (gG fi))))))
def AEJ(I:AB)(k:Ab):Nat->AU->Prop:=λa h=>∃m L J,h= {r:=.p (a+0) 0,nb:=Nw a m k.im k.now,J:=J}/\Bq I [] J (Bb L m)/\Bl J L k m
def AZT{I k}:E3 (AEJ I k) [] I:=by refine⟨?_⟩;rintro a h ⟨m,L,J,rfl,e,d⟩;let⟨c,g⟩:=AMH.out a _ (show ZY I k a {r:=.t [.p (a+0) 0,.v (.int .i64 0),.v (.int .i64 0)],nb:=Nw a m k.im k.now,J:=J}from⟨m,L,J,rfl,e,d⟩);exact⟨⟨λx f=>c.r x (by simpa[SV.keys,Ax]using f),nA,c.n,c.l,sP⟩,g⟩
def Z9(I)(a:DK I)(k:Pow I)(c q)(l:Ja I c q)(h:TH c)(e:Nb c.im)(d:∀f∈c.im.Ad,∃S,Lr c.im f S):Fn 8 [.g (KZ c q)] [] I (AEJ I (ED c)) none:=by have t:=AUZ I a k c q l h (AY5 I a k c.im q.ip l.im e d);let⟨C,z,A,B,E,F,G⟩:=q;refine Bh func8 AZT λH i w o=>gG<|Ag t [] [] kR (λi h ⟨_,_,_,r,_⟩ D g=>by subst r;cases g) ?_;rintro _ ⟨m,L,J,rfl,u,s⟩;let⟨x,p,n,j,b,v,y⟩:=m;exact gG<|dn [124,125,126,127,128] ⟨⟨x,p,n,j,b,v,y⟩,L,J,rfl,u,s⟩
def OE(x:AH):AE:=.int .u8 (x.toNat:Int)
def Hk(x:AH)(l:AA AE):Prop:=l=[OE x]
def ADF(x l)(h:Hk x l):l.length=1:=by rw[h];rfl
def AAl:GZ 23 5 1:=⟨kR,by refine⟨(prog.info? 5).getD Af,?_,?_⟩<;>kernel_rfl⟩
def Nk(I)(l)(a)(c:Nat)(cells)(hs:Aj I Hk 1 l a c cells)(i:Nat)(hi:i<=1000000):Fn 35 [.v (.slice a l.length c),.v (.int .i64 (i:Int))] [] I (A1 (.v (.int .i64 (Be l i:Int))) I) none:=by
 refine fo Tryz.func35 (BZ rfl) λρ key w h=> ?_;by_cases d:i<l.length;have g:l[i]? =some l[i]:=A9 d;have f:Be l i=l[i].toNat:=by unfold Be;rw[g];rfl
 rw[f];generalize l[i]=x at g;have j:x.toNat<256:=x.toNat_lt;obtain⟨b,off,arr,e,fr,row,rfl,q2,q3,q4,q5⟩:=hs.cell ADF g;subst q3;have q0:=q5 0 _ rfl;simp only[FD]at q0;exact gg [(8,hT ((i:Int)<(l.length:Int)) oG),(11,BM I AAl b off l.length c i d),(12,C9 I Q1 rfl (off+i*1) (OE x) q2 q0),(13,.eq (.int .i64 (IntKind.i64.wrap (x.toNat:Int))) (.int .i64 (x.toNat:Int)) (iw rfl oG))]<|fi;have f:Be l i=0:=by unfold Be;rw[I7 oG];rfl
 rw[f];exact gg [(8,hF ((i:Int)<(l.length:Int)) oG)]<|fi
def Ki(l:AA AH)(a:AK Ac)(b at_:Nat)(s:Aq):AG:=.cells [.v (.slice a l.length b),.v (.int .i64 (at_:Int)),.v (.slice s.a s.n s.c)] 190
def TS(I:AB)(l:AA AH)(a:AK Ac)(b at_:Nat)(s:Aq):Nat->AU->Prop:=λ_ h=>h= {r:=.v (.int .i64 (Be l at_:Int)),upd:=[(1,Ki l a b (at_+1) s)],J:=I}
def AZe{I l f g at_ s b}:CO (TS I l f g at_ s) [(1,b)] I:=by refine⟨?_⟩;rintro e h rfl;refine⟨⟨nA,λi c=> ?_,nA,sP,sP⟩,AB.le_refl _⟩;rw[AP.1 c];exact⟨sP,λk a=>by simp[Ki,AG.keys,Ax,SV.keys]at a⟩
def AB4(I)(l)(la)(lc at_)(s)(cells)(hs:Aj I Hk 1 l la lc cells)(ha:at_<=1000000):
 Fn 93 [.p 1 0] [(1,Ki l la lc at_ s)] I (TS I l la lc at_ s) none:=by
 let⟨sa,h,sc⟩:=s;refine fo Tryz.func93 AZe λρ key w g=> ?_;by_cases a:at_<l.length;have d:l[at_]? =some l[at_]:=A9 a;have c:Be l at_=l[at_].toNat:=by unfold Be;rw[d];rfl
 have f:(l[at_]).toNat<256:=(l[at_]).toNat_lt;generalize l[at_]=x at d c f;obtain⟨b,off,arr,e,fr,row,rfl,q2,q3,q4,q5⟩:=hs.cell ADF d;subst q3;have q0:=q5 0 _ rfl;simp only[FD]at q0;exact gg [(7,hW ((at_:Int)+1) ((at_+1:Nat):Int) oG oG),(19,hF (((at_+1:Nat):Int)>(l.length:Int)) oG),(28,hW (((at_+1:Nat):Int)-1) ((at_:Nat):Int) oG oG),(29,BM I AAl b off l.length lc at_ a),(30,C9 I Q1 rfl (off+at_*1) (OE x) q2 q0),(31,.eq (.int .i64 (IntKind.i64.wrap (x.toNat:Int))) (.int .i64 (x.toNat:Int)) (iw rfl oG))]<|dn [] (by unfold TS;rw[c]) (h:={r:=.v (.int .i64 (x.toNat:Int)),upd:=[(1,Ki l (some ⟨b,off,none⟩) lc (at_+1) ⟨sa,h,sc⟩)],J:=I});have c:Be l at_=0:=by unfold Be;rw[I7 oG];rfl
 exact gg [(7,hW ((at_:Int)+1) ((at_+1:Nat):Int) oG oG),(19,hT (((at_+1:Nat):Int)>(l.length:Int)) oG)]<|dn [] (by unfold TS;rw[c]) (h:={r:=.v (.int .i64 (0:Nat)),upd:=[(1,Ki l la lc (at_+1) ⟨sa,h,sc⟩)],J:=I})
end
section
open Go.AX Go.ChangeAt Go.ChangeShapes Go.Joins Go.RowKit Go.WideShapes Lz
def UL{P w}:∀ {l:AA (String×DataW Unit)} {k:AA MemPlace},DataW.LaidVars P w l k->∀b∈l,∃g t c fuel p,P.globalNamed b.1=some g/\(P.globals[g]?).map (·.type)=some t/\w.var? P b.1=some c/\DataW.trod (λ_=>()) P w 0 (λ_=>true) false fuel t c.toList=some (b.2,p)
 |[],_,_,_,a=>by cases a
 |(n,d)::r,k,h,b,a=>by let⟨g,t,c,fuel,p,q,e,f,i,j,m,_⟩:=h;rcases BD.1 a with rfl|a;exact⟨g,t,c,fuel,p,e,f,i,j⟩;exact UL m b a
def YU{P:Program}{w:World}{n:String}{g:Nat}{cs:Array Value}(a:P.globalNamed n=some g)(h:w.var? P n=some cs): ∃e fr,w.heap[g]? =some (.cells cs e fr):=by simp only[World.var?,a,Option.bind_some]at h;split at h;rename_i c e fr b;cases h;exact⟨e,fr,b⟩;cases h
def JM:AA (String×DataW Unit):=[("math/bits.deBruijn32tab",Rows.laid_math_bits_deBruijn32tab),("math/bits.deBruijn64tab",Rows.laid_math_bits_deBruijn64tab),("internal/strconv.uint64pow10",Rows.laid_internal_strconv_uint64pow10),("unicode/utf8.acceptRanges",Rows.laid_unicode_utf8_acceptRanges),("strconv.ErrRange",Rows.laid_strconv_ErrRange),("strconv.ErrSyntax",Rows.laid_strconv_ErrSyntax),("lazaretto/op.table",Rows.laid_lazaretto_op_table),("lazaretto/prin.letters",Rows.laid_lazaretto_prin_letters),("unicode/utf8.first",Rows.laid_unicode_utf8_first)]
def Mo(W:AI):AB:=⟨λb=>W.heap[b]?,λ_=>none⟩
section
variable {W:World} {k:List MemPlace} (h:DataW.LaidVars Tryz.prog W JM k)
include h
theorem ASu:HF (Mo W):=by
 obtain⟨g,t,cs,f,p,b,ht,d,hd⟩:=UL h ("lazaretto/prin.letters",Rows.laid_lazaretto_prin_letters) (by simp[JM])
 obtain rfl:=Option.some.inj ((show Tryz.prog.globalNamed "lazaretto/prin.letters" =some 2 by kernel_rfl).symm.trans b)
 obtain rfl:=Option.some.inj ((show(Tryz.prog.globals[2]?).map (·.type)=some 368 by kernel_rfl).symm.trans ht)
 have a:=Lib.cells_of_tab (k:=.u8) (zs:=[97,98,99,100,101,102]) Tryz.underlying368 Tryz.underlying5 kR kR hd
 obtain⟨e,fr,c⟩:=YU b d
 refine⟨⟨cs,e,fr,c,λi hi=> ?_⟩⟩
 obtain⟨l0⟩:=cs
 simp only at a
 subst a
 match i,hi with
 |0,_=>rfl
 |1,_=>rfl
 |2,_=>rfl
 |3,_=>rfl
 |4,_=>rfl
 |5,_=>rfl
theorem ASv:Pow (Mo W):=by
 refine⟨?_,?_⟩
 ·obtain⟨g,t,cs,f,p,a,ht,d,hd⟩:=UL h ("internal/strconv.uint64pow10",Rows.laid_internal_strconv_uint64pow10) (by simp[JM]);obtain rfl:=Option.some.inj (ABE.symm.trans a);obtain rfl:=Option.some.inj ((show(Tryz.prog.globals[4]?).map (·.type)=some 422 by kernel_rfl).symm.trans ht);have b:=Lib.cells_of_tab (k:=.u64) (zs:=Lib.pow10Tab) Tryz.underlying422 Tryz.underlying227 kR kR (show DataW.trod _ _ _ _ _ _ _ _ _=some (Lib.tabData .u64 Lib.pow10Tab,p) by rw[hd];rfl);obtain⟨e,fr,c⟩:=YU a d;refine⟨e,fr,?_⟩;have:cs=(Lib.pow10Tab.map λz=>Value.int .u64 z).toArray:=by rw[<-b]
  rw[<-this];exact c
 ·obtain⟨g,t,cs,f,p,a,ht,d,hd⟩:=UL h ("strconv.ErrSyntax",Rows.laid_strconv_ErrSyntax) (by simp[JM]);obtain rfl:=Option.some.inj ((show Tryz.prog.globalNamed "strconv.ErrSyntax" =some (UM.g 15) by kernel_rfl).symm.trans a);obtain⟨e,fr,c⟩:=YU a d;obtain rfl:=Option.some.inj ((show(Tryz.prog.globals[UM.g 15]?).map (·.type)=some 252 by kernel_rfl).symm.trans ht);obtain⟨_,u,v,hc,_,_⟩:=iface_of_trod ALj hd;obtain⟨l⟩:=cs;simp only at hc;subst hc;exact⟨.iface u v,e,fr,c,.inr ⟨u,v,rfl⟩⟩
omit h in
theorem AX3:(Rows.laid_lazaretto_op_table:DataW Unit)=.agg ((List.range 47).map λi=>.agg [.lit (.string (Et.getD i [])),.lit (.int .u8 (Bn (i+1))),.lit (.int .u8 (A2 (i+1))),.lit (.int .u8 (C4 (i+1)))]):=kR
theorem ASw:DK (Mo W):=by
 obtain⟨g,t,cs,f,p,B,ht,I,hd⟩:=UL h ("lazaretto/op.table",Rows.laid_lazaretto_op_table) (by simp[JM])
 obtain rfl:=Option.some.inj ((show Tryz.prog.globalNamed "lazaretto/op.table" =some 1 by kernel_rfl).symm.trans B)
 obtain rfl:=Option.some.inj ((show(Tryz.prog.globals[1]?).map (·.type)=some 352 by kernel_rfl).symm.trans ht)
 obtain⟨e,fr,H⟩:=YU B I
 obtain⟨xs,m,_,J,hl,hlen,G⟩:=DataW.trod_array Qz hd
 refine⟨⟨cs,e,fr,H,λc h1 K j x hj=> ?_⟩⟩
 have o:Tryz.prog.cellsOf 351=4:=kR
 have hi:=G (c-1) oG
 rw[o]at hi
 obtain⟨y,C⟩: ∃y,xs[c-1]? =some y:=⟨_,List.getElem?_eq_getElem oG⟩
 rw[C]at hi
 have i:y.1=.agg [.lit (.string (Et.getD (c-1) [])),.lit (.int .u8 (Bn c)),.lit (.int .u8 (A2 c)),.lit (.int .u8 (C4 c))]:=by
  have q:=(Prod.mk.inj J).1
  have w:(Rows.laid_lazaretto_op_table:DataW Unit)=.agg (xs.map (·.1)):=q
  rw[AX3]at w
  have F:=DataW.agg.inj w
  have z:=congrArg (·[c-1]?) F
  simp only[List.getElem?_map,C,List.getElem?_range (show c-1<47 by omega),Option.map_some,Option.some.injEq]at z
  rw[<-z,show c-1+1=c by omega]
 obtain⟨O,P,Q,y3,n,v,l,t0,t1,t2,t3⟩:=trod_struct4 Tryz.underlying351 hi
 obtain⟨L,A⟩: ∃L,List.take 4 (List.drop ((c-1)*4) cs.toList)=L:=⟨_,rfl⟩
 rw[A]at l t0 t1 t2 t3
 rw[o]at l
 obtain⟨v0,v1,v2,v3,rfl⟩: ∃v0 v1 v2 v3,L=[v0,v1,v2,v3]:=by
  match L,l with
  |[a,b,c,d],_=>exact⟨a,b,c,d,rfl⟩
 have c9:Tryz.prog.cellsOf 9=1:=kR
 have c5:Tryz.prog.cellsOf 5=1:=kR
 obtain⟨s0,a0,D,_⟩:=DataW.trod_string Tryz.underlying9 t0
 obtain⟨M,a1,E,_⟩:=DataW.trod_int Tryz.underlying5 t1
 obtain⟨N,a2,b2,_⟩:=DataW.trod_int Tryz.underlying5 t2
 obtain⟨n3,a3,b3,_⟩:=DataW.trod_int Tryz.underlying5 t3
 simp only[c9,c5,List.drop_zero,List.drop_succ_cons,List.take_succ_cons,List.take_zero,List.cons.injEq,_root_.and_true]at a0 a1 a2 a3
 subst a0 a1 a2 a3 D E b2 b3
 rw[v]at i
 simp only[DataW.agg.injEq,List.cons.injEq,DataW.lit.injEq,Lit.string.injEq,Lit.int.injEq,_root_.true_and,_root_.and_true]at i
 obtain⟨r0,r1,r2,r3⟩:=i
 have u:s0=str (Et.getD (c-1) []):=by
  rw[<-r0]
  apply ByteArray.ext
  simp[str]
 subst u
 subst r1 r2 r3
 have s:j<4:=(List.getElem?_eq_some_iff.1 hj).1
 have r:cs[(c-1)*4+j]? =(ND c)[j]? :=by
  have q:=congrArg (·[j]?) A
  simp only[List.getElem?_take,s,if_true,List.getElem?_drop]at q
  rw[<-Array.getElem?_toList,q]
  rfl
 rw[r]
 exact hj
end
end
end Go.Proofs.YtomehhepbeiinaaGreatDoor
namespace Go.AX
def FC.B0{P F d I r}(z:r.keys=[])(h:FC P F d [] I.B0 (λ_ h=>h= {r:=r,J:=I.B0}) none):FC P F d [] I (λ_ h=>h= {r:=r,J:=I}) none:=by refine⟨?_,λC n w m hN g t l=> ?_⟩;rintro n h rfl;exact⟨⟨(λk f=>by rw[z]at f;cases f),nA,nA,sP,sP⟩,AB.Fa _⟩;have p:Holds w I.B0:=⟨g.B0,λb o a=>by cases a⟩;refine(h.2 C n w m hN p nA l).mono ?_;rintro e B ⟨x,q,rfl,A,u⟩;refine⟨{r:=r,J:=I},q,rfl,?_,u⟩;have f:∀b,b<w.heap.size->B.heap[b]? =w.heap[b]? :=λb a=>A.keep b a nA rfl;exact{os:=A.os,tape:=A.tape,output:=A.output,size:=A.size,keep:=λb a _ _=>f b a,upd:=nA,nb:=(λj b y=>by simp at y),qi:=(λi j v=>by simp at v),Gu:=⟨λb o a=>by rw[f b (Dh (g.1 b o a))];exact g.1 b o a,λb o a=>by rw[f b (Dh (g.2 b o a))];exact g.2 b o a⟩,fresh:=λb o a=>.inl a,Gz:=λb o a=>Gg a}
end Go.AX
namespace Go.Proofs.YtomehhepbeiinaaGreatDoor
open Go.Proofs.Tryz
open Go.AX Lz
def Fn.B0{F a I r}(b:r.keys=[])(h:Fn F a [] I.B0 (A1 r I.B0) none):Fn F a [] I (A1 r I) none:=⟨FC.B0 b h.out,h.JF⟩
def Tw(I:AB)(a:AK Ac)(ac:Nat)(b:AK Ac)(bc n m i:Nat):Hd where
 By:=[(0,.v (.slice a n ac)),(1,.v (.slice b m bc)),(12,.v (.int .i64 (n:Int))),(13,.v (.int .i64 (i:Int)))]
 J:=I
def MO(n:Nm):AA AE:=[A5 n]
def LV(f:Nm)(l:AA AE):Prop:=l=MO f
def Ua(f l)(h:LV f l):l.length=1:=by rw[h];rfl
def ACg:Gq 154 9:=by refine row_of ((prog.underlying 154).getD Af) ((prog.info? 154).getD Af) ?_ ?_ ?_ ?_<;>kernel_rfl
def AGS:GZ 105 154 9:=⟨kR,ACg.hi⟩
def AKV:Gq 63 8:=by refine row_of ((prog.underlying 63).getD Af) ((prog.info? 63).getD Af) ?_ ?_ ?_ ?_<;>kernel_rfl
def APz:GZ 56 63 8:=⟨kR,AKV.hi⟩
def AQE(I a h j f g q r)(u:Aj I LV 1 a h f q)(v:Aj I LV 1 a j g r)(E:a.length<=1000000):Fn 62 [.v (.slice h a.length f),.v (.slice j a.length g)] [] I (A1 (.v (.bool true)) I) none:=by refine fo func62 (BZ rfl) λG y w o=>gg [(10,Ct (a.length:Int) (a.length:Int) rfl)]<|loop (ι:=Nat) (λi=>i<=a.length) (λi=>a.length-i) (Tw I h f j g a.length a.length) 1000 [] 0 (BS _) kR kR ?_;intro i D again T;by_cases d:i<a.length;have e:a[i]? =some a[i]:=A9 d;generalize a[i]=x at e;obtain⟨m,b,k,B,s,_,rfl,q2,rfl,q4,q5⟩:=u.cell Ua e;obtain⟨n,c,l,C,t,_,rfl,z,rfl,F,A⟩:=v.cell Ua e;exact gg [(14,hT ((i:Int)<(a.length:Int)) oG),(18,BM I HV m b a.length f i d),(19,C9 I Cm rfl (b+i*1) (A5 x) q2 (q5 0 _ rfl)),(22,BM I HV n c a.length g i d),(23,C9 I Cm rfl (c+i*1) (A5 x) z (A 0 _ rfl)),(24,.eq (Value.bool (!((AR x).toList==(AR x).toList))) (.bool false) (by simp)),(25,hW ((i:Int)+1) ((i+1:Nat):Int) oG oG)]<|back [] (Tw I (some ⟨m,b,none⟩) f (some ⟨n,c,none⟩) g a.length a.length (i+1)) 1000 kR kR kR λp=>again (i+1) d oG p;exact gg [(14,hF ((i:Int)<(a.length:Int)) oG)] fi
theorem AAr{F:Nat}{fn:Func}(c:Tryz.prog.funcs[F]? =some fn)(hF:(F=121/\fn=Tryz.f121)\/(F=174/\fn=Tryz.f174)\/(F=175/\fn=Tryz.f175))(I:AB)(a ba:Option Addr)(ac bc:Nat):Fn F [.v (.slice a 0 ac),.v (.slice ba 0 bc)] [] I (A1 (.v (.bool true)) I) none:=by
 rcases hF with⟨rfl,rfl⟩|⟨rfl,rfl⟩|⟨rfl,rfl⟩<;>
 exact fo c (BZ rfl) λρ key w b=>gG (loop (ι:=Unit) (λ_=>True) (λ_=>0) (λ_=>Tw I a ac ba bc 0 0 0) 1000 [] () trivial kR kR λ_ _ _ _=>gG fi)
end Go.Proofs.YtomehhepbeiinaaGreatDoor
namespace Go.Proofs.YtomehhepbeiinaaGreatDoor
open Go.Proofs.Tryz
section
open Go.AX Lz
def AHH(I:AB){t a:Nat}(R:Gq t a){b:Nat}{arr:AY AE}{e:Av}{d:Nat×Nat}(o:Nat)(c:AA AE)(g:c.length=a)(f:I.B0 b=some (.cells arr e d))(h:∀j v,c[j]? =some v->arr[o+j]? =some v):Hint:=.Jq I _ _ (XE (I:=I.B0) (o:=o) R c g f h)
def CE.OB{d:Type}{I:AB}{size:Nat}{e:TypeId}{V:d->List Value}{xs:List d}{s:Aq}(h:CE I size e (xs.flatMap V) s)(a: ∀x,(V x).length=size)(h0:0<size):s.n=xs.length/\(xs.length<=maxLen->Aj I.B0 (λx l=>l=V x) size xs s.a s.c (xs.flatMap V)):=by
 have c:s.n=xs.length:=by have h1:=h.n;rw[F6 a]at h1;exact(Nat.eq_of_mul_eq_mul_right h0 h1).symm
 refine⟨c,λhm=> ?_⟩;rcases h.at_ with⟨q1,q2,q3⟩|⟨b,AC,q1,q2,q3,q4,q5⟩;exact⟨⟨by rw[F6 a],h.one,.inl (c▸q1)⟩,by rw[<-c,q1,q3];exact Nat.le_refl _,by rw[q3];exact Nat.zero_le _,Rows.flat.2 rfl⟩;refine⟨⟨by rw[F6 a],h.one,.inr ⟨b,0,_,e,_,q1,q2.B0,?_⟩⟩,by rw[<-c];exact q4,q5,Rows.flat.2 rfl⟩;rw[List.drop_zero];show(xs.flatMap V++AC).take _=_;rw[<-F6 a xs,List.take_left]
structure Told(I J:AB)(size:Nat)(e:Av)(Aa:AA AE)(s:Aq):Prop where
 st:Bq I [] J (A7 s.a).toList
 row:CE J size e Aa s
theorem Told.nil(I a e):Told I I a e [] ⟨none,0,0⟩:=⟨.refl I [],⟨sP,sP,.inl ⟨rfl,rfl,rfl⟩⟩⟩
def Told.app{I J d e a news s b c AC}(h:Told I J d e a s)(n:news.length=d)(m:∀v∈news,v.oneCell')
 (j:(a++news).length+AC.length=c*d) (k:s.n+1<=c) (l:c<=maxLen) (f:J b=none) (i:A7 s.a=some b\/J.free b):Told I (J.plus b (.cells (a++news++AC).toArray e (0,0))) d e (a++news) ⟨some ⟨b,0,none⟩,s.n+1,c⟩:=by
 refine⟨h.st.trans ((NF (P1:=[]) (P2:=[]) (o:=.cells (a++news++AC).toArray e (0,0)) f i).cast sP (by simp[A7])),⟨?_,?_,.inr ⟨b,AC,rfl,MS f,j,k,l⟩⟩⟩;rw[Bc,h.row.n,n,FU,Nat.one_mul];intro v g;rcases BA.1 g with g|g;exact h.row.one v g;exact m v g
def Bq.AKn{I J P}(h:Bq I [] J P){b o}(a:I.B0 b=some o):J.B0 b=some o:=by
 cases c:I b with
 |some x=>
  rw[AB.N9 c]at a;cases a;exact AB.N9 (h.le b _ c)
 |none=>
  have a:(match I b with|some o=>some o|none=>I.own b)=some o:=a;rw[c]at a;exact(h.keep b _ ⟨a,c⟩ sP).B0
def TV(I:AB)(a:AA (Nat×AG))(b:Nat)(e:Av)(c:AA AE):Nat->AU->Prop:=λ_ h=>∃s J,Told I J b e c s/\h= {r:=.v (.slice s.a s.n s.c),upd:=a,J:=J}
def Bq.none_le{I J P}(h:Bq I [] J P):I.le J:=⟨h.le,λx y a=>h.keep x y a sP⟩
def AMO{I m j a c e d}:CO (TV I (BN m j a) c e d) (BN m j a) I:=by refine⟨?_⟩;rintro i h ⟨s,J,p,rfl⟩;refine⟨⟨nA,λq g=> ?_,nA,sP,sP⟩,p.st.none_le⟩;let⟨l,n⟩:=Dr (key:=i) (nb:=[]) q g;exact⟨l,λk f=>(n k f).imp id id⟩
def ABq(m:BJ)(k:Ab)(l:Lz.AV)(q:Nat×Aq×AB):Hd where
 By:=[(0,.p 1 0),(3,.p 6 0),(5,.v (.slice q.2.1.a q.2.1.n q.2.1.c)),(11,.v (.slice m.CQ.a k.facts.length m.CQ.c)),(12,.v (.int .i64 (k.facts.length:Int))),(13,.v (.int .i64 (q.1:Int)))]
 Bu:=BN m k.im k.now++[(6,.cells [.v (.string (str l.1)),.v (.string (str l.2))] 42)]
 J:=q.2.2
def ATW(xs:List F0)(l){i}(h:i<xs.length):(xs.take (i+1)).filter (λf=>fl f.l l)=(xs.take i).filter (λf=>fl f.l l)++(if fl xs[i].l l=true then[xs[i]]else[]):=by rw[List.take_succ_eq_append_getElem h,List.filter_append];congr 1;by_cases q:fl xs[i].l l=true;rw[if_pos q];simp[q];rw[if_neg q];simp[q]
def AIb(I)(L)(k:Ab)(m)(G:Bl I L k m)(hl:k.facts.length<=1000000)(l)(A:Bo l)(H: ∀f∈k.facts,Bo f.l):
 Fn 60 [.p 1 0,Cc l] (BN m k.im k.now) I (TV I (BN m k.im k.now) 9 154 ((Fe k l).flatMap Dn)) none:=by
 obtain⟨E,o⟩:=G.CQ.OB (V:=Dn) (λ_=>rfl) dC;have hs:=o (by unfold maxLen;omega);obtain⟨ip,es,n,BH,⟨fa,fn,fc⟩,lk,sm⟩:=m;simp only at E hs;subst E;refine fo Tryz.func60 AMO λρ key w D=> ?_;refine gG<|loop (ι:=Nat×Aq×AB) (λq=>q.1<=k.facts.length/\Told I q.2.2 9 154 (((k.facts.take q.1).filter λf=>fl f.l l).flatMap Dn) q.2.1) (λq=>k.facts.length-q.1) (ABq ⟨ip,es,n,BH,⟨fa,k.facts.length,fc⟩,lk,sm⟩ k l) 1000 [(6,100)] (0,⟨none,0,0⟩,I) ⟨Nat.zero_le _,.nil I 9 154⟩ kR kR ?_;rintro⟨i,⟨sa,d,sc⟩,J⟩ ⟨hi,ht⟩ again T;simp only at hi ht;by_cases c:i<k.facts.length;have F:k.facts[i]? =some k.facts[i]:=List.getElem?_eq_getElem c;have j:=H _ (List.getElem_mem c);have a:=ATW k.facts l c;generalize k.facts[i]=f at F j a;obtain⟨b,off,arr,e,fr,row,s,q2,q3,q4,q5⟩:=hs.cell (λx l h=>by rw[h];rfl) F;subst q3;subst s;have B:J.B0 b=some (.cells arr e fr):=ht.st.AKn q2;refine gg [(14,hT ((i:Int)<(k.facts.length:Int)) oG),(15,BM J AGS b off k.facts.length fc i c),(16,AHH J ACg (off+i*9) (Dn f) rfl B q5)]<|call (LL J f.l l j A) kR ?_;cases g:fl f.l l with
 |false=>
  refine gg [(25,hW ((i:Int)+1) ((i+1:Nat):Int) oG oG)] ?_;rw[if_neg (by rw[g];simp),List.append_nil]at a;exact back [] (ABq ⟨ip,es,n,BH,⟨some ⟨b,off,none⟩,k.facts.length,fc⟩,lk,sm⟩ k l (i+1,⟨sa,d,sc⟩,J)) 1000 kR kR kR λT'=>again (i+1,⟨sa,d,sc⟩,J) ⟨by show i+1<=_;omega,by show Told I J 9 154 (((k.facts.take (i+1)).filter _).flatMap Dn) _;rw[a];exact ht⟩ (by show k.facts.length-(i+1)<k.facts.length-i;omega) T'
 |true=>
  rw[if_pos g]at a;have M:d<=1000000:=by have h1:=ht.row.n;rw[F6 (n:=9) (λ_=>rfl)]at h1;have N:=List.length_filter_le (λf=>fl f.l l) (k.facts.take i);have O:=List.length_take_le i k.facts;simp only at h1;omega
  refine gG<|act (need:=[(1088,.cells ((Dn f).map .v) 154)]) [] kR (Im (I:=J) A6 (s:=⟨sa,d,sc⟩) (x:=.s 1088 0 1 1) (m:=1) (olds:=((k.facts.take i).filter λf=>fl f.l l).flatMap Dn) (news:=Dn f) AEn kR ht.row (D2 (e:=154) sP rfl (Wg _)) dC (by show d+1<=16777216;omega)) (λh' K kb u=>by obtain⟨_,_,_,rfl,_⟩:=K;cases u) Il ?_
  rintro h' ⟨b',C,AC,rfl,v,y,z,r,t⟩;have p:=ht.app (AC:=AC) (news:=Dn f) rfl (Wg f) v y z r t;generalize J.plus b' (.cells (((k.facts.take i).filter λf=>fl f.l l).flatMap Dn++Dn f++AC).toArray 154 (0,0))=J2 at p⊢;refine gg [(25,hW ((i:Int)+1) ((i+1:Nat):Int) oG oG)] ?_;exact back [] (ABq ⟨ip,es,n,BH,⟨some ⟨b,off,none⟩,k.facts.length,fc⟩,lk,sm⟩ k l (i+1,⟨some ⟨b',0,none⟩,d+1,C⟩,J2)) 1000 kR kR kR λT'=>again (i+1,⟨some ⟨b',0,none⟩,d+1,C⟩,J2) ⟨by show i+1<=_;omega,by show Told I J2 9 154 (((k.facts.take (i+1)).filter _).flatMap Dn) _;rw[a,List.flatMap_append,show[f].flatMap Dn=Dn f from by simp];exact p⟩ (by show k.facts.length-(i+1)<k.facts.length-i;omega) T'
 have hi:i=k.facts.length:=oG;subst hi;refine gg [(14,Go.Proofs.YtomehhepbeiinaaGreatDoor.hF ((k.facts.length:Int)<(k.facts.length:Int)) oG)] ?_;rw[List.take_length]at ht;exact dn [] ⟨⟨sa,d,sc⟩,J,ht,rfl⟩
def AEp:FE prog lay 188 211 2:=⟨⟨_,rfl⟩,⟨_,_,rfl,rfl⟩,kR⟩
def RP(I:AB)(l:AA AH)(b:AK Ac)(c at_:Nat)(s:Aq)(ops:AA Lz.Op):Nat->AU->Prop:=λ_ h=>∃(a:Aq)(J:AB),Bq I (A7 s.a).toList J (A7 a.a).toList/\CE J 2 211 (ops.flatMap B8) a/\h= {r:=.t [],upd:=[(1,Ki l b c at_ a)],J:=J}
def YW{I l g i at_ s ops b}:E3 (RP I l g i at_ s ops) [(1,b)] I:=by refine⟨?_⟩;rintro f h ⟨m,J,d,_,rfl⟩;refine⟨⟨nA,λj c=> ?_,nA,sP,sP⟩,d.le⟩;rw[AP.1 c];exact⟨sP,λk a=>by simp[Ki,AG.keys,Ax,SV.keys]at a⟩
def Ug(o):∀v∈B8 o,v.oneCell':=by intro v a;simp[B8,mS]at a;rcases a with rfl|rfl<;>rfl
def WZ(I l t)(u at_:Nat)(s ops)(p:CE I 2 211 (ops.flatMap B8) s)(C:ops.length<=1000000)(o):
 Fn 92 [.p 1 0,.v (.int .i64 o.code),.v (.int .i64 o.a)] [(1,Ki l t u at_ s)] I (RP I l t u at_ s (ops++[o])) none:=by
 let⟨r,_⟩:=p.OB (V:=B8) (λ_=>rfl) dC;let⟨x,E,B⟩:=s;simp only at r;subst r;refine Bh func92 YW λF A w q=>gG<|act (need:=[(164,.cells ((B8 o).map .v) 211)]) [] kR (Im (I:=I) A6 (s:=⟨x,ops.length,B⟩) (x:=.s 164 0 1 1) (m:=1) (olds:=ops.flatMap B8) (news:=B8 o) AEp kR p (D2 (e:=211) sP rfl (Ug o)) dC (by show ops.length+1<=16777216;omega)) (λy z D j=>by obtain⟨_,_,_,rfl,_⟩:=z;cases j) Il ?_
 rintro y ⟨b,c,a,rfl,k,m,n,f,i⟩;have g:Bq I (A7 x).toList (I.plus b (.cells (ops.flatMap B8++B8 o++a).toArray 211 (0,0))) [b]:=(NF (P1:=[]) (P2:=[]) (o:=.cells (ops.flatMap B8++B8 o++a).toArray 211 (0,0)) f i).cast sP sP;have d:CE (I.plus b (.cells (ops.flatMap B8++B8 o++a).toArray 211 (0,0))) 2 211 ((ops++[o]).flatMap B8) ⟨some ⟨b,0,none⟩,ops.length+1,c⟩:=by
  have e:(ops++[o]).flatMap B8=ops.flatMap B8++B8 o:=by rw[Mf];simp
  rw[e];refine⟨?_,λv h=> ?_,.inr ⟨b,a,rfl,MS f,k,m,n⟩⟩;rw[Bc,F6 (n:=2) (λ_=>rfl)];show _+2=_;simp only;omega;rcases BA.1 h with h|h;exact p.one v h;exact Ug o v h
 generalize I.plus b (.cells (ops.flatMap B8++B8 o++a).toArray 211 (0,0))=J at g d⊢;exact gG<|dn [] ⟨⟨some ⟨b,0,none⟩,ops.length+1,c⟩,J,g,d,rfl⟩
def ADN{I l d e at_ s ops}:∀a h,RP I l d e at_ s ops a h->∀c∈h.upd,c.1∈[1]:=by rintro a h ⟨_,_,_,_,rfl⟩ c b;rw[AP.1 b];exact AP.2 rfl
def ALv{I l d e at_ s}:∀a h,TS I l d e at_ s a h->∀c∈h.upd,c.1∈[1]:=by rintro a h rfl c b;rw[AP.1 b];exact AP.2 rfl
def ATU(I l c)(d at_:Nat)(s ops)(g:CE I 2 211 (ops.flatMap B8) s)(f:ops.length<=1000000)(k:Nat):
 Fn 143 [.p 1 0,.v (.int .i64 (k:Int))] [(1,Ki l c d at_ s)] I (RP I l c d at_ s (ops++[⟨2,k⟩])) none:=by
 refine Bh func143 YW λj h w e=>gG<|Ag (WZ I l c d at_ s ops g f ⟨2,k⟩) [] [1] kR ADN ?_;rintro _ ⟨i,J,b,a,rfl⟩;exact gG<|dn [] ⟨i,J,b,a,rfl⟩
def ABt(I)(x:Nat)(a k:Nat)(m:a<=1000000)(n:0<k/\k<=1000):∀b e (o:BP),o.op=.binOp .rem 3 (.tmp x) (.const (.int .i64 (k:Int))) 3->(∀p∈[(x,SV.v (.int .i64 (a:Int)))],e p.1=p.2)->LS prog o e b [] I (.v (.int .i64 ((a%k:Nat):Int))) none:=by
 intro b e o c d;have i:=Cy d (s:=x) (x:=.v (.int .i64 (a:Int))) sP;intro s l w h _ _ _ _;refine⟨w,?_,BB.refl w⟩;have f:=h (.tmp x) xO;have g:=h (.const (.int .i64 (k:Int))) xO;simp[ev,i,den]at f g;simp[execOp,c,Sem.run_bind,f,g];have q:Int.tmod (a:Int) (k:Int)=((a%k:Nat):Int):=by rw[AMi oG];omega
 have j:(k:Int)≠0:=oG;have r:prog.underlying 3=some (.int .i64):=Dj;go_simp;rw[AN oG];rfl
def AUu(I l c d at_ s a)(k:Aj I Hk 1 l c d a)(g:at_<=1000000)(ops)(j:CE I 2 211 (ops.flatMap B8) s)(i:ops.length<=1000000):
 Fn 191 [.p 1 0] [(1,Ki l c d at_ s)] I (RP I l c d (at_+1) s (ops++[⟨1,Be l at_%8⟩])) none:=by
 refine Bh func191 YW λo m w f=>gG<|Ag (AB4 I l c d at_ s a k g) [] [1] kR ALv ?_;rintro _ rfl;have h:Be l at_<=1000000:=by
  unfold Be;cases l[at_]? with
  |none=>exact BS _
  |some x=>have:=x.toNat_lt;show x.toNat<=_;omega
 refine gg [(5,.hand (.binOp .rem 3 (.tmp 4) (.const (.int .i64 ((8:Nat):Int))) 3) [(4,.v (.int .i64 (Be l at_:Int)))] [] I (.v (.int .i64 ((Be l at_%8:Nat):Int))) (ABt I 4 (Be l at_) 8 h oG))]<|Ag (WZ I l c d (at_+1) s ops j i ⟨1,Be l at_%8⟩) [] [1] kR ADN ?_;rintro _ ⟨n,J,e,b,rfl⟩;exact gG<|dn [] ⟨n,J,e,b,rfl⟩
def AT5(I l c d at_ s a)(k:Aj I Hk 1 l c d a)(g:at_<=1000000)(ops)(j:CE I 2 211 (ops.flatMap B8) s)(i:ops.length<=1000000):
 Fn 192 [.p 1 0] [(1,Ki l c d at_ s)] I (RP I l c d (at_+1) s (ops++[⟨1,8+Be l at_%8⟩])) none:=by
 refine Bh func192 YW λo m w f=>gG<|Ag (AB4 I l c d at_ s a k g) [] [1] kR ALv ?_;rintro _ rfl;have h:Be l at_<=1000000:=by
  unfold Be;cases l[at_]? with
  |none=>exact BS _
  |some x=>have:=x.toNat_lt;show x.toNat<=_;omega
 refine gg [(5,.hand (.binOp .rem 3 (.tmp 4) (.const (.int .i64 ((8:Nat):Int))) 3) [(4,.v (.int .i64 (Be l at_:Int)))] [] I (.v (.int .i64 ((Be l at_%8:Nat):Int))) (ABt I 4 (Be l at_) 8 h oG)),(6,hW (8+((Be l at_%8:Nat):Int)) ((8+Be l at_%8:Nat):Int) oG oG)]<|Ag (WZ I l c d (at_+1) s ops j i ⟨1,8+Be l at_%8⟩) [] [1] kR ADN ?_;rintro _ ⟨n,J,e,b,rfl⟩;exact gG<|dn [] ⟨n,J,e,b,rfl⟩
section
structure FX(B:Nat)(I:AB)(d:AK Ac)(e:Nat)(cells:AA AE)(m:Mk)(s:Aq):Prop where
 Oe:Aj I Hk 1 m.l d e cells
 row:CE I 2 211 (m.code.flatMap B8) s
 at_:m.at_<=B
 len:m.code.length<=B
abbrev EI(m:Mk)(d:AK Ac)(e:Nat)(s:Aq):AG:=Ki m.l d e m.at_ s
def Je(I:AB)(d:AK Ac)(e:Nat)(cells:AA AE)(B:Nat)(m':Mk)(s:Aq):Nat->AU->Prop:=λ_ h=>∃(s':Aq)(J:AB),Bq I (A7 s.a).toList J (A7 s'.a).toList/\FX B J d e cells m' s'/\h= {r:=.t [],upd:=[(1,EI m' d e s')],J:=J}
variable {B:Nat} {I:AB} {d:Option Addr} {e:Nat} {cells:List Value} {m m':Mk} {s s':Aq}
def Ph{b}:E3 (Je I d e cells B m s) [(1,b)] I:=by refine⟨?_⟩;rintro i h ⟨s',J,f,_,rfl⟩;refine⟨⟨nA,λj c=> ?_,nA,sP,sP⟩,f.le⟩;rw[AP.1 c];exact⟨sP,λk a=>by simp[EI,Ki,AG.keys,Ax,SV.keys]at a⟩
def Jw:∀a h,Je I d e cells B m s a h->∀c∈h.upd,c.1∈[1]:=by rintro a h ⟨_,_,_,_,rfl⟩ c b;rw[AP.1 b];exact AP.2 rfl
def FX.next(h:FX B I d e cells m s):FX (B+1) I d e cells m.next.2 s:=⟨h.Oe,h.row,Na h.at_,JW h.len⟩
def FX.Fi{J}(h:FX B I d e cells m s)(a:Bq I (A7 s.a).toList J (A7 s'.a).toList)(b:m'.l=m.l)(f:m'.at_<=m.at_+1)(g:m'.code.length<=m.code.length+1)(c:CE J 2 211 (m'.code.flatMap B8) s'):FX (B+1) J d e cells m' s':=
 ⟨by rw[b];exact Aj.A8 a.le h.Oe (λ_ _ q=>q),c,by have:=h.at_;omega,by have:=h.len;omega⟩
def L9(l i):Be l i<=255:=by
 unfold Be;cases l[i]? with
 |none=>exact BS _
 |some x=>have:=x.toNat_lt;show x.toNat<=_;omega
def ACC(h:FX B I d e cells m s)(a:B<=999999):Fn 93 [.p 1 0] [(1,EI m d e s)] I (λ_ h=>h= {r:=.v (.int .i64 (m.next.1:Int)),upd:=[(1,EI m.next.2 d e s)],J:=I}) none:=
 AB4 I m.l d e m.at_ s cells h.Oe (by have:=h.at_;omega)
def ADP{x}:∀(b:Nat)(h:AU),(h= {r:=.v x,upd:=[(1,EI m d e s)],J:=I})->∀c∈h.upd,c.1∈[1]:=by rintro b h rfl c a;rw[AP.1 a];exact AP.2 rfl
def Nr(h:FX B I d e cells m s)(i:B<=999999)(c a:Nat):Fn 92 [.p 1 0,.v (.int .i64 (c:Int)),.v (.int .i64 (a:Int))] [(1,EI m d e s)] I (Je I d e cells (B+1) (m.emit c a) s) none:=
 Fn.to (WZ I m.l d e m.at_ s m.code h.row (by have:=h.len;omega) ⟨c,a⟩) Ph λg x=>by rintro⟨s',J,b,f,rfl⟩;exact⟨s',J,b,h.Fi (m':=m.emit c a) b rfl (B9 _) (by show(m.code++[_]).length<=_;simp) f,rfl⟩
def AIa(h:FX B I d e cells m s)(f:B<=999999)(k:Nat):Fn 143 [.p 1 0,.v (.int .i64 (k:Int))] [(1,EI m d e s)] I (Je I d e cells (B+1) (m.Cp k) s) none:=
 Fn.to (ATU I m.l d e m.at_ s m.code h.row (by have:=h.len;omega) k) Ph λc x=>by rintro⟨s',J,a,b,rfl⟩;exact⟨s',J,a,h.Fi (m':=m.Cp k) a rfl (B9 _) (by show(m.code++[_]).length<=_;simp) b,rfl⟩
def AUt(h:FX B I d e cells m s)(f:B<=999999):Fn 191 [.p 1 0] [(1,EI m d e s)] I (Je I d e cells (B+1) m.number s) none:=
 Fn.to (AUu I m.l d e m.at_ s cells h.Oe (by have:=h.at_;omega) m.code h.row (by have:=h.len;omega)) Ph λc x=>by rintro⟨s',J,a,b,rfl⟩;exact⟨s',J,a,h.Fi (m':=m.number) a rfl (AZ _) (by show(m.code++[_]).length<=_;simp) b,rfl⟩
def AT4(h:FX B I d e cells m s)(f:B<=999999):Fn 192 [.p 1 0] [(1,EI m d e s)] I (Je I d e cells (B+1) m.mark s) none:=
 Fn.to (AT5 I m.l d e m.at_ s cells h.Oe (by have:=h.at_;omega) m.code h.row (by have:=h.len;omega)) Ph λc x=>by rintro⟨s',J,a,b,rfl⟩;exact⟨s',J,a,h.Fi (m':=m.mark) a rfl (AZ _) (by show(m.code++[_]).length<=_;simp) b,rfl⟩
def FX.mono{C}(h:FX B I d e cells m s)(a:B<=C):FX C I d e cells m s:=⟨h.Oe,h.row,CB h.at_ a,CB h.len a⟩
def H3(I:AB)(x a k r:Nat)(f:a%k=r)(b:a<=1000000)(c:0<k/\k<=1000):Hint:=.hand (.binOp .rem 3 (.tmp x) (.const (.int .i64 (k:Int))) 3) [(x,.v (.int .i64 (a:Int)))] [] I (.v (.int .i64 (r:Int))) (by rw[<-f];exact ABt I x a k b c)
end
structure Vg(i:AB)(o:Aq)(B:Nat)(I:AB)(b:AK Ac)(g:Nat)(cells:AA AE)(m:Mk)(s:Aq):Prop where
 st:Bq i (A7 o.a).toList I (A7 s.a).toList
 ms:FX B I b g cells m s
section
variable {F:FuncId} {j:Func} {n B C:Nat} {I J i:AB} {w:World} {ρ:Nat->Nat} {A:List Nat} {R:Dl} {f:BU} {b:Option Addr} {g:Nat} {cells:List Value} {m m':Mk} {s o:Aq} {c a key:Nat} (h:Vg i o B J b g cells m s)
include h
def Dw(d:B<=999999:=by omega):Fn 92 [.p 1 0,.v (.int .i64 (c:Int)),.v (.int .i64 (a:Int))] [(1,EI m b g s)] J (Je J b g cells (B+1) (m.emit c a) s) none:=Nr h.ms d c a
def Kf(d:B<=999999:=by omega):Fn 143 [.p 1 0,.v (.int .i64 (c:Int))] [(1,EI m b g s)] J (Je J b g cells (B+1) (m.Cp c) s) none:=AIa h.ms d c
def nuT(d:B<=999999:=by omega):Fn 191 [.p 1 0] [(1,EI m b g s)] J (Je J b g cells (B+1) m.number s) none:=AUt h.ms d
def M7(d:B<=999999:=by omega):Fn 192 [.p 1 0] [(1,EI m b g s)] J (Je J b g cells (B+1) m.mark s) none:=AT4 h.ms d
def cE{G d}(k:Fn G d [(1,EI m b g s)] J (Je J b g cells C m' s) none)
 (t:∀e K,Vg i o C K b g cells m' e->At F j n I w ρ A R (CS prog lay [] n A 1000 (f.out (AT []) {r:=.t [],upd:=[(1,EI m' b g e)],J:=K})).f)
 (u:Ci f n G [] [(1,EI m b g s)] [1]=some (Bz (AT []) d,[some ((EI m b g s).Am (AT []))],J):=by kernel_rfl)
 (l:∀e K,(CS prog lay [] n A 1000 (f.out (AT []) {r:=.t [],upd:=[(1,EI m' b g e)],J:=K})).cl=(CS prog lay [] n A 1000 (f.out (AT []) {r:=.t [],upd:=[(1,EI m' b g e)],J:=K})).ac:=by intro _ _;kernel_rfl):At F j n I w ρ A R f:=
 Ag k [] [1] u Jw λ_ q=>by obtain⟨e,K,v,p,rfl⟩:=q;exact gG (t e K ⟨h.st.trans v,p⟩) (l e K)
def cN(sc:AB->Mk->F1 Tryz.prog)
 (e:Vg i o (B+1) J b g cells m.next.2 s->At F j n I w ρ A R (CS Tryz.prog lay (sc J m) n A 1000 (f.out (AT []) {r:=.v (.int .i64 (m.next.1:Int)),upd:=[(1,EI m.next.2 b g s)],J:=J})).f)
 (d:B<=999999:=by omega)
 (k:Ci f n 93 [] [(1,EI m b g s)] [1]=some (Bz (AT []) [.p 1 0],[some ((EI m b g s).Am (AT []))],J):=by kernel_rfl)
 (hc:(CS Tryz.prog lay (sc J m) n A 1000 (f.out (AT []) {r:=.v (.int .i64 (m.next.1:Int)),upd:=[(1,EI m.next.2 b g s)],J:=J})).cl=(CS Tryz.prog lay (sc J m) n A 1000 (f.out (AT []) {r:=.v (.int .i64 (m.next.1:Int)),upd:=[(1,EI m.next.2 b g s)],J:=J})).ac:=by kernel_rfl):At F j n I w ρ A R f:=
 Ag (ACC h.ms d) [] [1] k ADP λ_ q=>by subst q;exact gg _ (e ⟨h.st,h.ms.next⟩) hc
def fE(e:B<=C:=by omega)(hend:I3 lay j.results.toList A [] key f=some {r:=.t [],upd:=[(1,EI m b g s)],J:=J}:=by kernel_rfl)(d:100<=key:=by assumption):At F j n i w ρ A (Ends i ρ key w (Je i b g cells C m o) none) f:=
 dn [] ⟨s,J,h.st,h.ms.mono e,rfl⟩ hend d
end
def ACG(m:Mk):m.next.1<=255:=L9 _ _
def mR(s k:Nat)(hk:0<k/\k<=1000:=by decide):AB->Mk->F1 Tryz.prog:=λJ m=>[(s,H3 J (s-1) m.next.1 k (m.next.1%k) rfl (CB (ACG m) dC) hk)]
def mA(s c k:Nat)(d:(0<k/\k<=1000)/\c<=1000:=by decide):AB->Mk->F1 prog:=λJ m=>(s+1,hW (c+((m.next.1%k:Nat):Int)) ((c+m.next.1%k:Nat):Int) oG (by have:=IK m.next.1 d.1.1;omega))::mR s k d.1 J m
def mE(I:AB)(s d:Nat){n r:Nat}(e:n%d=r)(k:n<=255)(x:F1 prog:=[])(l:0<d/\d<=1000:=by decide):AB->Mk->F1 prog:=λ_ _=>(s,H3 I (s-1) n d r e (CB k dC) l)::x
def aB(n:Nat):F1 prog:=[157,194,248,274].map λs=>(s,hT (((n+1:Nat):Int)>0) oG)
def AAd{B:Nat}{I}{b}{g:Nat}{cells}{m}{s}(h:FX B I b g cells m s)(p:B<=999900)(above:Nat)(ha:above<3):
 Fn 142 [.p 1 0,.v (.int .i64 (above:Int))] [(1,EI m b g s)] I (Je I b g cells (B+16) (m.EG above) s) none:=by
 have hk:=Nat.mod_lt m.next.2.next.1 (show 32>0 from dC);have hl:=Nat.mod_lt m.next.2.next.2.next.1 (show 4>0 from dC);have hb:=ACG m.next.2.next.2;have hc:=ACG m.next.2;rw[show m.EG above=Mk.AAc m.next.2.next.2 (m.next.1%8) (m.next.2.next.1%32) (m.next.2.next.2.next.1%4) above from rfl];generalize d:m.next.2.next.1%32=k at hk⊢;generalize el:m.next.2.next.2.next.1%4=l at hl⊢;replace h:Vg I s B I b g cells m s:=⟨.refl _ _,h⟩;by_cases hs:k=16\/k=17\/k=19\/k=20\/k=21\/k=26\/k=28
 .obtain rfl|⟨n,rfl⟩:above=0\/∃n,above=n+1:=by cases above;exact .inl rfl;exact .inr ⟨_,rfl⟩
  .refine Bh Tryz.func142 Ph λρ key w e=>gG (cN h (mR 8 8) λh=> ?_);obtain(rfl|rfl|rfl|rfl|rfl)|(rfl|rfl):(k=16\/k=17\/k=19\/k=20\/k=21)\/(k=26\/k=28):=oG
   iterate 5 exact cN h (mE I 11 32 d hc) λh=>cE h (Kf h) λ_ _ h=>cE h (M7 h) λ_ _ h=>cE h (Dw h) λ_ _ h=>fE h
   iterate 2 exact cN h (mE I 11 32 d hc) λh=>cE h (Dw h) λ_ _ h=>cE h (Dw h) λ_ _ h=>fE h
  .refine Bh Tryz.func142 Ph λρ key w e=>gG (cN h (mR 8 8) λh=> ?_);obtain(rfl|rfl)|(rfl|rfl|rfl)|rfl|rfl:(k=16\/k=17)\/(k=19\/k=20\/k=21)\/k=26\/k=28:=oG
   iterate 2
    obtain rfl|rfl|rfl|rfl:l=0\/l=1\/l=2\/l=3:=oG
    iterate 4 exact cN h (mE I 11 32 d hc (aB n)) λh=>cN h (mE I 164 4 el hb) λh=>cE h (Kf h) λ_ _ h=>cN h (mR 171 4) λh=>cE h (Dw h) λ_ _ h=>cE h (M7 h) λ_ _ h=>cE h (Dw h) λ_ _ h=>cE h (Dw h) λ_ _ h=>fE h
   iterate 3
    obtain rfl|rfl|rfl|rfl:l=0\/l=1\/l=2\/l=3:=oG
    iterate 4 exact cN h (mE I 11 32 d hc (aB n)) λh=>cN h (mE I 200 4 el hb) λh=>cE h (Kf h) λ_ _ h=>cN h (mR 207 4) λh=>cE h (Dw h) λ_ _ h=>cN h (mA 212 4 4) λh=>cE h (Dw h) λ_ _ h=>cE h (M7 h) λ_ _ h=>cE h (Dw h) λ_ _ h=>cE h (Dw h) λ_ _ h=>fE h
   exact cN h (mE I 11 32 d hc (aB n)) λh=>cE h (M7 h) λ_ _ h=>cE h (Dw h) λ_ _ h=>cE h (Dw h) λ_ _ h=>fE h;exact cN h (mE I 11 32 d hc (aB n)) λh=>cE h (Kf h) λ_ _ h=>cE h (Dw h) λ_ _ h=>cE h (Dw h) λ_ _ h=>fE h
 .refine Bh Tryz.func142 Ph λρ key w e=>gG (cN h (mR 8 8) λh=> ?_);obtain rfl|rfl|(rfl|rfl)|(rfl|rfl|rfl)|(rfl|rfl|rfl)|(rfl|rfl|rfl)|(rfl|rfl|rfl)|rfl|(rfl|rfl|rfl)|rfl|rfl|rfl|rfl|rfl:k=0\/k=1\/(k=2\/k=3)\/(k=4\/k=5\/k=9)\/(k=6\/k=7\/k=8)\/(k=10\/k=13\/k=18)\/(k=11\/k=14\/k=15)\/k=12\/(k=22\/k=23\/k=24)\/k=25\/k=27\/k=29\/k=30\/k=31:=oG;exact cN h (mE I 11 32 d hc) λh=>cE h (nuT h) λ_ _ h=>cE h (Kf h) λ_ _ h=>cN h (mA 27 7 7) λh=>cE h (Dw h) λ_ _ h=>cE h (Dw h) λ_ _ h=>fE h;exact cN h (mE I 11 32 d hc) λh=>cN h (mA 38 25 2) λh=>cE h (Dw h) λ_ _ h=>cE h (M7 h) λ_ _ h=>cN h (mA 46 22 2) λh=>cE h (Dw h) λ_ _ h=>cE h (Dw h) λ_ _ h=>fE h
  iterate 2 exact cN h (mE I 11 32 d hc) λh=>cE h (M7 h) λ_ _ h=>cE h (Dw h) λ_ _ h=>fE h
  iterate 3 exact cN h (mE I 11 32 d hc) λh=>cE h (Kf h) λ_ _ h=>cE h (M7 h) λ_ _ h=>cE h (Dw h) λ_ _ h=>cE h (Dw h) λ_ _ h=>fE h
  iterate 3
   obtain rfl|rfl|rfl|rfl:l=0\/l=1\/l=2\/l=3:=oG
   iterate 4 exact cN h (mE I 11 32 d hc) λh=>cN h (mE I 85 4 el hb) λh=>cE h (Kf h) λ_ _ h=>cE h (Dw h) λ_ _ h=>cE h (Dw h) λ_ _ h=>fE h
  iterate 3 exact cN h (mE I 11 32 d hc) λh=>cE h (Kf h) λ_ _ h=>cE h (Dw h) λ_ _ h=>cE h (Dw h) λ_ _ h=>fE h
  iterate 3 exact cN h (mE I 11 32 d hc) λh=>cE h (Kf h) λ_ _ h=>cE h (Kf h) λ_ _ h=>cE h (Dw h) λ_ _ h=>fE h
  exact cN h (mE I 11 32 d hc) λh=>cE h (M7 h) λ_ _ h=>cE h (Dw h) λ_ _ h=>cE h (Dw h) λ_ _ h=>fE h
  iterate 3 exact cN h (mE I 11 32 d hc) λh=>cE h (Kf h) λ_ _ h=>cE h (M7 h) λ_ _ h=>cE h (Dw h) λ_ _ h=>fE h
  exact cN h (mE I 11 32 d hc) λh=>cE h (M7 h) λ_ _ h=>cN h (mA 240 42 2) λh=>cE h (Dw h) λ_ _ h=>fE h;exact cN h (mE I 11 32 d hc) λh=>cE h (Kf h) λ_ _ h=>cE h (Kf h) λ_ _ h=>cE h (Dw h) λ_ _ h=>cE h (Dw h) λ_ _ h=>fE h;exact cN h (mE I 11 32 d hc) λh=>cE h (nuT h) λ_ _ h=>cE h (Dw h) λ_ _ h=>fE h;exact cN h (mE I 11 32 d hc) λh=>cN h (mR 297 4) λh=>cE h (Dw h) λ_ _ h=>fE h;exact cN h (mE I 11 32 d hc) λh=>cE h (Dw h) λ_ _ h=>cE h (Dw h) λ_ _ h=>fE h
section
variable {F:FuncId} {g:Func} {n:Nat} {I:AB} {w:World} {ρ:Nat->Nat} {A:List Nat} {R:Dl} {f:BU}
def LU(b e o)(a:(f.rg.isNone,f.σ.im)=(true,e))(l:e.has b o)(i:I.own b=none)(h:At F g n I w ρ A R (f.AKp (e.never b o))):At F g n I w ρ A R f:=by let⟨j,k⟩:=GY a;subst k;exact⟨λhF=>AUT (c:=ctx prog F g n I w ρ A) b o j l i (h.out hF)⟩
variable {B:Nat} {c:Option Addr} {d:Nat} {cells:List Value} {m:Mk} {s:Aq}
def FX.cnt(h:FX B I c d cells m s):s.n=m.code.length:=(h.row.OB (V:=B8) (λ_=>rfl) dC).1
def AQc{l:List Lz.Op}{x:Nat}{AC:List Value}: ∀ {i:Nat},i<l.length->splice (l.flatMap B8++AC) (0+i*2+1) [Value.int .i64 (x:Int)]=(l.modify i λo=>{o with a:=x}).flatMap B8++AC:=by
 induction l with
 |nil=>intro i h;simp at h
 |cons y l b=>
  intro i h;cases i with
  |zero=>rfl
  |succ i=>
   have:=b (i:=i) (by simpa using h);rw[List.modify_succ_cons,List.flatMap_cons,List.flatMap_cons,List.append_assoc,List.append_assoc,<-this];rw[show 0+(i+1)*2+1=(0+i*2+1)+2 by omega];rfl
def AQb{l:List Lz.Op}{AC:List Value}: ∀ {i:Nat} {o:Lz.Op},l[i]? =some o->(l.flatMap B8++AC)[0+i*2+0]? =some (.int .i64 (o.code:Int)):=by
 induction l with
 |nil=>intro i o h;simp at h
 |cons y l a=>
  intro i o h;cases i with
  |zero=>simp at h;subst h;rfl
  |succ i=>
   have:=a (i:=i) (o:=o) (by simpa using h);rw[List.flatMap_cons,show 0+(i+1)*2+0=(0+i*2+0)+2 by omega];exact this
def ABS(h:FX B I c d cells m s){b:Nat}(j:s.a=some ⟨b,0,none⟩)(i x:Nat)(hi:i<m.code.length): ∃K,(∀ {o:Oper} {tm:Nat->SV} {key:Nat} {ad xo:Operand},o.op=.store 3 ad xo->ev tm ad=.v (.pointer (some ⟨b,0+i*2+1,none⟩))->ev tm xo=.v (.int .i64 (x:Int))->HS Tryz.prog o tm key [] I (λh=>h= {r:=.v undef,upd:=[],J:=K}) none)/\
 Bq I (A7 s.a).toList K (A7 s.a).toList/\FX B K c d cells (m.I5 i x) s/\I.Cd K:=by
 have z:=h.cnt;have hl:=F6 (n:=2) (f:=B8) (λ_=>rfl) m.code;rcases h.row.at_ with⟨_,q1,_⟩|⟨b',AC,q1,q2,q3,q4,q5⟩;rw[j]at q1;cases q1;rw[j]at q1;obtain rfl:b=b':=by simpa using q1
 have k:=AQc (x:=x) (AC:=AC) hi;have l:Bq I (A7 s.a).toList (I.plus b (.cells ((m.code.modify i λo=>{o with a:=x}).flatMap B8++AC).toArray 211 (0,0))) (A7 s.a).toList:=by refine⟨λ_ _ h=>h,λy o u p=>MU u λe=> ?_,λy u=>.inl u⟩;subst e;exact p (by rw[j];simp[A7])
 refine⟨I.plus b (.cells ((m.code.modify i λo=>{o with a:=x}).flatMap B8++AC).toArray 211 (0,0)),λ{o tm key ad xo} h1 h2 h3=> ?_,l,⟨Aj.A8 l.le h.Oe (λ_ _ q=>q),⟨?_,?_,.inr ⟨b,AC,j,MS q2.at_,?_,q4,q5⟩⟩,h.at_,?_⟩,λ_ _ h=>h⟩;have:=ARe (P:=Tryz.prog) (L:=lay) A6 (key:=key) (need:=[]) (cs:=[Value.int .i64 (x:Int)]) (e:=211) h1 h2 (by rw[h3];rfl) (by rfl) (by rfl) (by rw[List.length_append,hl];show 0+i*2+1+1<=_;omega) (by simp[Value.oneCell']) q2;rw[k]at this;exact this;show((m.code.modify i _).flatMap B8).length=_;rw[F6 (n:=2) (f:=B8) (λ_=>rfl),List.length_modify,z];intro v t;obtain⟨o,_,t⟩:=List.mem_flatMap.1 t;exact Ug o v t;show((m.code.modify i _).flatMap B8).length+AC.length=_;rw[F6 (n:=2) (f:=B8) (λ_=>rfl),List.length_modify,<-hl];exact q3;show(m.code.modify i _).length<=B;rw[List.length_modify];exact h.len
def ADY{K e}(hle:I.Cd K):∀h:AU,h= {r:=.v undef,upd:=[],J:=K}->h.wf I e [] []:=by rintro h rfl;exact⟨nA,nA,nA,sP,hle,sP⟩
def FX.place(h:FX B I c d cells m s)(a:m.code≠[]):∃b,s.a=some ⟨b,0,none⟩:=by have e:=h.cnt;rcases h.row.at_ with⟨q,_,_⟩|⟨b,_,q,_⟩;rw[q]at e;exact(a (List.length_eq_zero_iff.1 e.symm)).elim;exact⟨b,q⟩
def last_at{m:Mk}(a:m.code≠[]):m.code[m.code.length-1]? =some (m.code.getLast?.getD default):=by rw[List.getLast?_eq_getElem?];have:m.code.length-1<m.code.length:=Nat.sub_lt (List.length_pos_iff.2 a) dC;rw[List.getElem?_eq_getElem this];rfl
def AVQ(h:FX B I c d cells m s)(hB:B<=999000)(above:Nat)(y:above<3):Fn 91 [.p 1 0,.v (.int .i64 (above:Int))] [(1,EI m c d s)] I (Je I c d cells (B+24) (m.part above) s) none:=by
 have ar:m.next.1<=255:=L9 m.l m.at_;have h1:=h.next;have u:=h1.cnt;generalize hk:m.next.1%8=k;have a:m.part above=(if k<3 then(if((((m.next.2.emit 20 0).EG above).code.getLast?.getD default).code=19)then(((m.next.2.emit 20 0).EG above).I5 m.next.2.code.length ((m.next.2.emit 20 0).EG above).code.length).emit 3 1 else(((((m.next.2.emit 20 0).EG above).emit 21 0).emit 15 ((((m.next.2.emit 20 0).EG above).emit 21 0).code.length+2)).I5 m.next.2.code.length ((((m.next.2.emit 20 0).EG above).emit 21 0).emit 15 ((((m.next.2.emit 20 0).EG above).emit 21 0).code.length+2)).code.length).emit 3 1)
  else if k=3 then(((m.next.2.Cp 1).emit 16 0).EG above).I5 (m.next.2.code.length+1) (((m.next.2.Cp 1).emit 16 0).EG above).code.length else m.next.2.EG above):=by
  rw[<-hk];rfl
 refine Bh Tryz.func91 Ph λρ key w ao=> ?_;refine gG<|Ag (ACC h oG) [] [1] kR ADP ?_;rintro _ rfl;generalize aw:m.next.2=m1 at*;by_cases c3:k<3
 .rw[if_pos c3]at a;refine gg [(8,H3 I 7 m.next.1 8 k hk oG oG),(19,hT ((k:Int)<3) oG)]<|Ag (Nr h1 oG 20 0) [] [1] kR Jw ?_;rintro _ ⟨s2,J2,v,L,rfl⟩;refine gG<|Ag (AAd L oG above y) [] [1] kR Jw ?_;rintro _ ⟨⟨sa,j,sc⟩,P,O,l,rfl⟩;obtain⟨D,X,_,ag,_⟩:=Tu (m1.emit 20 0) y;have S:(m1.emit 20 0).code=m1.code++[⟨20,0⟩]:=rfl;rw[S]at X;generalize ap:(m1.emit 20 0).EG above=m3 at*;have E:m1.code.length+1<=m3.code.length:=by rw[X];simp
  have Q:m3.code≠[]:=λq=>by rw[q]at E;simp at E
  have ac:j=m3.code.length:=l.cnt;have av:=l.len;obtain⟨b,t⟩:=l.place Q;have t:sa=some ⟨b,0,none⟩:=t;subst t;rcases l.row.at_ with⟨_,q1,_⟩|⟨b',AC,q1,q2,_⟩
  .cases q1
  obtain rfl:b=b':=by simpa using q1
  have z:((m3.code.flatMap B8++AC).toArray:Array Value)[0+(j-1)*2+0]? =some (.int .i64 ((m3.code.getLast?.getD default).code:Int)):=by rw[List.getElem?_toArray,ac];exact AQb (last_at Q)
  by_cases W:(m3.code.getLast?.getD default).code=19
  .rw[if_pos W]at a;obtain⟨K,x,ad,i,Z⟩:=ABS l (b:=b) rfl s.n j (by rw[u];omega);refine gg [(34,hW ((j:Int)-1) ((j-1:Nat):Int) oG oG),(35,BM P Nq b 0 j sc (j-1) oG),(37,.Jq P _ _ (G5 (I:=P.B0) Dj rfl q2.B0 z)),(38,hE ((m3.code.getLast?.getD default).code:Int) 19 oG),(49,BM P Nq b 0 j sc s.n oG)]<|act (need:=[]) [] kR (x (ad:=.tmp 50) (xo:=.tmp 48) kR kR kR) (λh Y kb C=>by subst Y;cases C) (ADY Z) ?_;rintro _ rfl;refine gG<|Ag (Nr i oG 3 1) [] [1] kR Jw ?_;rintro _ ⟨s5,J5,V,p,rfl⟩;refine gG ?_;have e:m.part above=(m3.I5 s.n j).emit 3 1:=by rw[a,u,ac]
   exact dn [] ⟨s5,J5,((v.trans O).trans ad).trans V,by rw[e];exact p.mono oG,by rw[e]⟩ (h:={r:=.t [],upd:=[(1,EI ((m3.I5 s.n j).emit 3 1) c d s5)],J:=J5})
  .rw[if_neg W]at a;refine gg [(34,hW ((j:Int)-1) ((j-1:Nat):Int) oG oG),(35,BM P Nq b 0 j sc (j-1) oG),(37,.Jq P _ _ (G5 (I:=P.B0) Dj rfl q2.B0 z)),(38,hN ((m3.code.getLast?.getD default).code:Int) 19 oG)]<|Ag (Nr l oG 21 0) [] [1] kR Jw ?_;rintro _ ⟨⟨ax,o,ay⟩,J4,U,i,rfl⟩;have T:o=(m3.emit 21 0).code.length:=i.cnt;have ah:=i.len;refine gg [(61,hW ((o:Int)+2) ((o+2:Nat):Int) oG oG)]<|Ag (Nr i oG 15 (o+2)) [] [1] kR Jw ?_;rintro _ ⟨⟨am,N,an⟩,J5,V,p,rfl⟩;have ak:N=((m3.emit 21 0).emit 15 (o+2)).code.length:=p.cnt;have H:m1.code.length+1<=((m3.emit 21 0).emit 15 (o+2)).code.length:=by show _<=((m3.code++[_])++[_]).length;simp<;>omega
   obtain⟨b5,M⟩:=p.place (λq=>by rw[q]at H;simp at H);have M:am=some ⟨b5,0,none⟩:=M;subst M;obtain⟨K,x,af,ai,ab⟩:=ABS p (b:=b5) rfl s.n N (by rw[u];omega);refine gg [(73,BM J5 Nq b5 0 N an s.n oG)]<|act (need:=[]) [] kR (x (ad:=.tmp 74) (xo:=.tmp 72) kR kR kR) (λh Y kb C=>by subst Y;cases C) (ADY ab) ?_;rintro _ rfl;refine gG<|Ag (Nr ai oG 3 1) [] [1] kR Jw ?_;rintro _ ⟨s7,J7,al,aj,rfl⟩;refine gG ?_;have e:m.part above=(((m3.emit 21 0).emit 15 (o+2)).I5 s.n N).emit 3 1:=by rw[a,u,ak,T]
   exact dn [] ⟨s7,J7,((((v.trans O).trans U).trans V).trans af).trans al,by rw[e];exact aj.mono oG,by rw[e]⟩ (h:={r:=.t [],upd:=[(1,EI ((((m3.emit 21 0).emit 15 (o+2)).I5 s.n N).emit 3 1) c d s7)],J:=J7})
 .rw[if_neg c3]at a;by_cases c4:k=3
  .rw[if_pos c4]at a;refine gg [(8,H3 I 7 m.next.1 8 k hk oG oG),(19,Go.Proofs.YtomehhepbeiinaaGreatDoor.hF ((k:Int)<3) oG),(79,hE (k:Int) 3 oG)]<|Ag (AIa h1 oG 1) [] [1] kR Jw ?_;rintro _ ⟨s2,J2,v,L,rfl⟩;refine gG<|Ag (Nr L oG 16 0) [] [1] kR Jw ?_;rintro _ ⟨s3,P,O,l,rfl⟩;refine gG<|Ag (AAd l oG above y) [] [1] kR Jw ?_;rintro _ ⟨⟨sa,j,sc⟩,J4,U,i,rfl⟩;obtain⟨D,X,_,ag,_⟩:=Tu ((m1.Cp 1).emit 16 0) y;have S:((m1.Cp 1).emit 16 0).code=(m1.code++[⟨2,1⟩])++[⟨16,0⟩]:=rfl;rw[S]at X;generalize aq:((m1.Cp 1).emit 16 0).EG above=m4 at*;have G:m1.code.length+2<=m4.code.length:=by rw[X];simp
   have T:j=m4.code.length:=i.cnt;have ah:=i.len;have au:=h1.len;obtain⟨b,t⟩:=i.place (λq=>by rw[q]at G;simp at G);have t:sa=some ⟨b,0,none⟩:=t;subst t;obtain⟨K,x,ae,p,aa⟩:=ABS i (b:=b) rfl (s.n+1) j (by rw[u];omega);refine gg [(92,hW ((s.n:Int)+1) ((s.n+1:Nat):Int) oG oG),(98,BM J4 Nq b 0 j sc (s.n+1) oG)]<|act (need:=[]) [] kR (x (ad:=.tmp 99) (xo:=.tmp 97) kR kR kR) (λh Y kb C=>by subst Y;cases C) (ADY aa) ?_;rintro _ rfl;refine gG ?_;have e:m.part above=m4.I5 (s.n+1) j:=by rw[a,u,T]
   exact dn [] ⟨_,K,((v.trans O).trans U).trans ae,by rw[e];exact p.mono oG,by rw[e]⟩ (h:={r:=.t [],upd:=[(1,EI (m4.I5 (s.n+1) j) c d ⟨some ⟨b,0,none⟩,j,sc⟩)],J:=K})
  .rw[if_neg c4]at a;refine gg [(8,H3 I 7 m.next.1 8 k hk oG oG),(19,Go.Proofs.YtomehhepbeiinaaGreatDoor.hF ((k:Int)<3) oG),(79,hN (k:Int) 3 oG)]<|Ag (AAd h1 oG above y) [] [1] kR Jw ?_;rintro _ ⟨s2,J2,v,L,rfl⟩;refine gG ?_;exact dn [] ⟨s2,J2,v,by rw[a];exact L.mono oG,by rw[a]⟩ (h:={r:=.t [],upd:=[(1,EI (m1.EG above) c d s2)],J:=J2})
end
section
variable {F:FuncId} {a:Func} {n:Nat} {I:AB} {w:World} {ρ:Nat->Nat} {A:List Nat} {R:Dl} {f:BU}
def AVG(k d){vs e}(c:(QT f A k,f.σ.im)=(some (vs,e),d))(h:∀b,d.free b->At F a n I w ρ A R (f.BW k b (d.plus b (.cells vs.toArray e (0,0))))):At F a n I w ρ A R f:=by let⟨g,i⟩:=GY c;subst i;exact⟨λhF=>AVH (c:=ctx prog F a n I w ρ A) k g λb j=>(h b j).out hF⟩
def AJz{t kt et b m x es I'}(j:(Lc f).op=.range t x)(o:prog.underlying t=some (.map kt et))(p:ev f.σ.tm x=.v (.map (some b)))(g:I'.B0 b=some (.map es m))(e:Lw f n [] []=some ([],I'))
 (hnext:At F a n I w ρ A R (f.act {r:=.p (Cw f) 0,nb:=[.obj (.mapIter (some b) m #[] m)],J:=I'})):At F a n I w ρ A R f:=by
 refine act (need:=[]) [] e (ARc (I:=I') j o p g) ?_ ?_ ?_;rintro h rfl q c;cases c;rintro h rfl;refine{r:=λk i=> ?_,u:=nA,n:=λb g k i=> ?_,l:=by simp,le:=AB.Fa _,d:=by simp};simp[SV.keys]at i;subst i;right;show(Bf (Cw f) [AG.obj (.mapIter (some b) m #[] m)] (Cw f+0)).isSome;rw[Gx];rfl;simp at g;subst g;cases i;rintro h rfl;exact hnext
def AI7{b m k:Nat}{x:Operand}{es:Array MapEntry}{seen:Array Nat}{I':AB}{kS vS:MapEntry->SV}(s:(Lc f).op=.next x false)(v:ev f.σ.tm x=.p k 0)(hb:I'.B0 b=some (.map es m))(p: ∀e∈es.toList,e.born<m)(hk: ∀e∈es.toList,∀ρ,den ρ (kS e)=e.key)(t: ∀e∈es.toList,∀ρ,den ρ (vS e)=e.val)(o: ∀e∈es.toList,(kS e).keys=[])(q: ∀e∈es.toList,(vS e).keys=[])
 (j:Lw f n [(k,.obj (.mapIter (some b) m seen m))] [k]=some ([some (.obj (.mapIter (some b) m seen m))],I'))
 (hend:(leftOf es seen).size=0->At F a n I w ρ A R (f.act {r:=.t [.v (.bool false)],J:=I'}))
 (hnext: ∀e∈(leftOf es seen).toList,At F a n I w ρ A R (f.act {r:=.t [.v (.bool true),kS e,vS e],upd:=[(k,.obj (.mapIter (some b) m (seen.push e.born) m))],J:=I'})):At F a n I w ρ A R f:=by
 refine act (need:=[(k,.obj (.mapIter (some b) m seen m))]) [k] j (ARb (I:=I') s v hb p hk t) ?_ ?_ ?_;rintro h (⟨_,rfl⟩|⟨e,_,rfl⟩) kb c;cases c;rw[List.mem_singleton.1 c];exact List.mem_singleton.2 rfl;rintro h (⟨_,rfl⟩|⟨e,g,rfl⟩);exact{r:=(λk hk=>by cases hk),u:=(λkb c=>by cases c),n:=(λb hb=>by cases hb),l:=by simp,le:=AB.Fa _,d:=by simp};have i:e∈es.toList:=by unfold leftOf at g;simp only[Array.toList_filter,List.mem_filter]at g;exact g.1
 refine{r:=λk hk=> ?_,u:=λkb c=> ?_,n:=(λb hb=>by cases hb),l:=by simp,le:=AB.Fa _,d:=by simp};simp[SV.keys,Ax,o e i,q e i]at hk;rw[List.mem_singleton.1 c];exact⟨List.mem_singleton.2 rfl,λb hb=>by rw[(Prod.mk.inj (List.mem_singleton.1 hb)).2];rfl,λk hk=>by cases hk⟩;rintro h (⟨h0,rfl⟩|⟨e,g,rfl⟩);exact hend h0;exact hnext e g
def AGb{b m k:Nat}{x:Operand}{es:Array MapEntry}{seen:Array Nat}{I':AB}{kS vS:MapEntry->SV}{e:MapEntry}(q:(Lc f).op=.entry x)(t:ev f.σ.tm x=.p k 0)(hb:I'.B0 b=some (.map es m))(o:(es.toList.map (·.born)).Nodup)(i:e∈es.toList)(hk: ∀ρ,den ρ (kS e)=e.key)(s: ∀ρ,den ρ (vS e)=e.val)(j:(kS e).keys=[])(p:(vS e).keys=[])
 (g:Lw f n [(k,.obj (.mapIter (some b) m (seen.push e.born) m))] []=some ([some (.obj (.mapIter (some b) m (seen.push e.born) m))],I'))
 (hnext:At F a n I w ρ A R (f.act {r:=.t [kS e,vS e],J:=I'})):At F a n I w ρ A R f:=by
 refine act (need:=[(k,.obj (.mapIter (some b) m (seen.push e.born) m))]) [] g (ARX (I:=I') q t hb o i hk s) ?_ ?_ ?_;rintro h rfl kb c;cases c;rintro h rfl;exact{r:=(λk hk=>by simp[SV.keys,Ax,j,p]at hk),u:=(λkb c=>by cases c),n:=(λb hb=>by cases hb),l:=by simp,le:=AB.Fa _,d:=by simp};rintro h rfl;exact hnext
end
def AEU(I:AB)(e:AA Nm):Nat->AU->Prop:=λ_ h=>∃b c d,h= {r:=.v (.slice (some ⟨b,0,none⟩) e.length c),J:=I.plus b (Gh e d)}/\e.length+d.length=c/\c<=maxLen/\I.free b
def AZm{I m d}:E3 (AEU I m) d I:=by refine⟨?_⟩;rintro l h ⟨b,c,g,rfl,_⟩;exact⟨⟨nA,nA,nA,sP,sP⟩,λ_ _ h=>h⟩
def AOr(I)(ns)(d c0)(c)(hb:I.has d (Gh ns c))(hc:ns.length+c.length=c0)(hm:c0<=maxLen)(hl:ns.length<=16777216):Fn 118 [.v (.slice (some ⟨d,0,none⟩) ns.length c0)] [] I (AEU I ns) none:=by
 have k: ∀need,Reads I need (.v (.slice (some ⟨d,0,none⟩) ns.length c0)) 1 ns.length (ns.map A5):=λneed=>
  (show CE I 1 9 (ns.map A5) ⟨some ⟨d,0,none⟩,ns.length,c0⟩from⟨sP,Sg,.inr ⟨d,c,rfl,hb,by simp;omega,by show ns.length<=c0;omega,hm⟩⟩).reads (need:=need)
 have hlen:(ns.map A5).length=ns.length*1:=sP;refine ABB 8 Tryz.func118 Tryz.ntmps118 rfl rfl kR AZm λρ key w g=>gg [(4,.op I _ (.v (.bool false)) (Ka (a:=some ⟨d,0,none⟩) (n:=ns.length) (c:=c0) (.tmp 3) (.const (.slice none 0 0)) ALl))]<|act (need:=[(124,.Aa [] 9)]) [124] kR (JC A6 (n:=0) (cap:=0) (vs:=[]) (olds:=[]) (x:=.v (.slice (some ⟨d,0,none⟩) ns.length c0)) Tb kR sP rfl rfl sP (k _) (AZ _) (by unfold maxLen;omega) (by show 0+ns.length<=16777216;omega)) ?_ (Oa (.inr ⟨_,_,_,rfl,rfl⟩)) ?_;rintro h ⟨cap,AC,_,_,_,rfl⟩ kb e;rw[AP.1 e];exact AP.2 rfl;rintro h' ⟨cap,AC,h1,i,j,rfl⟩;refine gG<|AVG 140 I (vs:=ns.map A5++AC) (e:=9) kR λb hb=>gG ?_;exact dn [] ⟨b,cap,AC,by rw[D5];rfl,by simp at j⊢;omega,i,hb⟩ (h:={r:=.v (.slice (some ⟨b,0,none⟩) (0+ns.length) cap),J:=I.plus b (.cells (ns.map A5++AC).toArray 9 (0,0))})
def Bq.AYj{I J K P a}(h:Bq I [] J P)(k:Bq J [] K a):Bq I [] K a where
 le:=h.le.trans k.le
 keep x y hx _:=k.keep x y (h.keep x y hx sP) sP
 rows x hx:=by rcases k.rows x hx with q|q;cases q;exact .inr λy b=>q y (h.keep x y b sP)
def q1(n:Nat):Bp:=str (Lib.itoa n)++⟨#[32]⟩
def q2(n:Nat):Bp:=q1 n++AR [1]
def q3(n:Nat):Bp:=q2 n++⟨#[32]⟩
def q4(n:Nat):Bp:=q3 n++tT
def q5(n:Nat):Bp:=q4 n++⟨#[32]⟩
def JG(f:F0):Bp:=q5 f.now++str (Lib.itoa 9)
structure Vd(f:F0):Prop where
 now:f.now<=1000
 eq:f=⟨f.now,[1],EC,whole 9⟩
def AQJ(I)(d:Pow I)(f)(h:Vd f):Fn 68 [.g ((Dn f).map .v)] [] I (A1 (.v (.string (JG f))) I) none:=by
 let⟨i,he⟩:=h;have h1:=Lib.itoa_length_le f.now oG oG;rw[he];generalize f.now=n at i h1;have g:(str (Lib.itoa n)).size<=21:=by simpa[str,ByteArray.size]using h1
 have z {a b c:Bp} {x:Nat} (e:c=a++b) (h:a.size<=x):c.size<=x+b.size:=by rw[e,ADl];omega
 have w1:(⟨#[32]⟩:Bp).size=1:=rfl;have w2:(AR [1]).size=1:=kR;have w3:tT.size=3:=kR;have w4:(str (Lib.itoa 9)).size=1:=kR;have s1:=z (c:=q1 n) rfl g;have s2:=z (c:=q2 n) rfl s1;have j:=z (c:=q3 n) rfl s2;have k:=z (c:=q4 n) rfl j;have l:=z (c:=q5 n) rfl k;exact fo Tryz.func68 (BZ rfl) λρ key w _=>gG (call (YH I d n oG oG) kR (gg [(6,Rt I 5 (str (Lib.itoa n)) ⟨#[32]⟩ (by unfold maxLen;omega)),(9,UA I 6 8 (q1 n) (AR [1]) (by unfold maxLen;omega)),(10,Rt I 9 (q2 n) ⟨#[32]⟩ (by unfold maxLen;omega))] (call (AIi I) kR (gg [(14,UA I 10 13 (q3 n) tT (by unfold maxLen;omega)),(15,Rt I 14 (q4 n) ⟨#[32]⟩ (by unfold maxLen;omega))] (call (AZE I d) kR (gg [(19,UA I 15 18 (q5 n) (str (Lib.itoa 9)) (by unfold maxLen;omega))] fi))))))
def Is(a:AA F0):AA AE:=a.map λf=>.string (JG f)
def AGP(s:Aq)(n:Nat)(q:Nat×Aq×AB):Hd where
 By:=[(1,.v (.func (.func 68) #[] #[])),(5,.v (.slice q.2.1.a q.2.1.n q.2.1.c)),(8,.v (.slice s.a n s.c)),(9,.v (.int .i64 (n:Int))),(10,.v (.int .i64 (q.1:Int)))]
 J:=q.2.2
def AZt{I a e c}:CO (TV I [] a e c) [] I:=by refine⟨?_⟩;rintro j h ⟨s,J,i,rfl⟩;exact⟨⟨nA,nA,nA,sP,sP⟩,i.st.none_le⟩
def APs(I)(D:Pow I)(fs)(s)(G:CE I 9 154 (fs.flatMap Dn) s)(hl:fs.length<=1000000)(E: ∀f∈fs,Vd f):
 Fn 67 [.v (.slice s.a s.n s.c),.v (.func (.func 68) #[] #[])] [] I (TV I [] 1 9 (Is fs)) none:=by
 let⟨B,j⟩:=G.OB (V:=Dn) (λ_=>rfl) dC;have hs:=j (by unfold maxLen;omega);let⟨fa,fn,fc⟩:=s;simp only at B hs;subst B;refine fo Tryz.func67 AZt λρ key w A=>gG<|loop (ι:=Nat×Aq×AB) (λq=>q.1<=fs.length/\Told I q.2.2 1 9 (Is (fs.take q.1)) q.2.1) (λq=>fs.length-q.1) (AGP ⟨fa,fs.length,fc⟩ fs.length) 1000 [] (0,⟨none,0,0⟩,I) ⟨BS _,.nil I 1 9⟩ kR kR ?_;rintro⟨i,⟨sa,d,sc⟩,J⟩ ⟨hi,ht⟩ again T;simp only at hi ht;by_cases c:i<fs.length;have C:fs[i]? =some fs[i]:=A9 c;have g:=E _ (DF c);have a:Is (fs.take (i+1))=Is (fs.take i)++[.string (JG fs[i])]:=by unfold Is;rw[Mi c,EL];rfl
 generalize fs[i]=f at C g a;let⟨b,off,arr,e,fr,row,o,q2,q3,q4,q5⟩:=hs.cell (λx l h=>by rw[h];rfl) C;subst q3;subst o;have y:J.B0 b=some (.cells arr e fr):=ht.st.AKn q2;have hle:=ht.st.none_le;have H:d<=1000000:=by have h1:=ht.row.n;unfold Is at h1;rw[C6,CX]at h1;simp only at h1;omega
 refine gg [(11,hT ((i:Int)<(fs.length:Int)) oG),(12,BM J AGS b off fs.length fc i c),(13,AHH J ACg (off+i*9) (Dn f) rfl y q5)]<|call (AQJ J (D.up hle) f g) kR<|gG<|act (need:=[(1072,.cells ([Value.string (JG f)].map .v) 9)]) [] kR (Im (I:=J) A6 (s:=⟨sa,d,sc⟩) (x:=.s 1072 0 1 1) (m:=1) (olds:=Is (fs.take i)) (news:=[Value.string (JG f)]) Tb kR ht.row (D2 (e:=9) sP rfl (by simp[Value.oneCell'])) dC (by show d+1<=16777216;omega)) (λh' F kb r=>by obtain⟨_,_,_,rfl,_⟩:=F;cases r) Il ?_
 rintro h' ⟨b',z,AC,rfl,t,u,v,n,p⟩;have k:=ht.app (AC:=AC) (news:=[Value.string (JG f)]) rfl (by simp[Value.oneCell']) t u v n p;generalize J.plus b' (.cells (Is (fs.take i)++[Value.string (JG f)]++AC).toArray 9 (0,0))=m at k⊢;refine gg [(20,hW ((i:Int)+1) ((i+1:Nat):Int) oG oG)] ?_;exact back [] (AGP ⟨some ⟨b,off,none⟩,fs.length,fc⟩ fs.length (i+1,⟨some ⟨b',0,none⟩,d+1,z⟩,m)) 1000 kR kR kR λT'=>again (i+1,⟨some ⟨b',0,none⟩,d+1,z⟩,m) ⟨by show i+1<=_;omega,by show Told I m 1 9 (Is (fs.take (i+1))) _;rw[a];exact k⟩ (by show fs.length-(i+1)<fs.length-i;omega) T';have hi:i=fs.length:=oG;subst hi;refine gg [(11,Go.Proofs.YtomehhepbeiinaaGreatDoor.hF ((fs.length:Int)<(fs.length:Int)) oG)] ?_;rw[HB]at ht;exact dn [] ⟨⟨sa,d,sc⟩,J,ht,rfl⟩
def AGg(I L k m)(j:Bl I L k m)(q:k.facts.length<=1000000)(l)(g:Bo l)(o:∀f∈k.facts,Vd f):
 Fn 21 [.p 1 0,Cc l] (BN m k.im k.now) I (TV I (BN m k.im k.now) 1 9 (Is (Fe k l))) none:=by
 have c:=AIb I L k m j q l g (λf h=>by rw[(o f h).eq];exact⟨BS _,BS _⟩);have v:=j.pow;let⟨A,z,n,x,u,B,C⟩:=m;refine fo func21 AMO λD b w p=>gG ?_;refine Ag c [] [1,2,3,4,5] kR (λb h ⟨_,_,_,e⟩ r a=>by subst e;exact(Dr (key:=b) (nb:=[]) r a).1) ?_;rintro _ ⟨s,J,i,rfl⟩;refine gG ?_;have hle:=i.st.none_le;refine Ag (APs J (v.up hle) (Fe k l) s i.row (CB (VQ _ _) q) (λf h=>o f (VS.1 h).1)) [] [] kR (λb h ⟨_,_,_,e⟩ r a=>by subst e;cases a) ?_;rintro _ ⟨y,t,d,rfl⟩;exact gG<|dn [] ⟨y,t,⟨i.st.AYj d.st,d.row⟩,rfl⟩
end
end Go.Proofs.YtomehhepbeiinaaGreatDoor
