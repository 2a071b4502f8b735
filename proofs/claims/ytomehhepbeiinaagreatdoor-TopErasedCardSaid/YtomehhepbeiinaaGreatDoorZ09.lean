/- Part 9 of the proof of TopErased. No conditions. -/
import Derived.Test.YtomehhepbeiinaaGreatDoorZ08
set_option maxRecDepth 100000
set_option maxHeartbeats 4000000
set_option linter.all false
open List renaming length->lN
open Option renaming some->sM,none->nO
open Bool renaming true->tT,false->fF
open Go.Value renaming string->vS,bool->vB
open Go.IntKind renaming i64->iK
namespace Go.Proofs.YtomehhepbeiinaaGreatDoor
open Go.Proofs.Tryz
section
open Go.AX Go.ChangeAt Go.ChangeShapes Go.Joins Go.RowKit Go.WideShapes Lz
def AM5{W:AN}{ab ao n:Nat}{xs:AA AF}(g:lN xs=n)(f:0<n)(h:∀j,j<n->W.cell? ⟨ab,ao+j,nO⟩=xs[j]?):∃arr e a,W.heap[ab]? =sM (.cells arr e a)/\(arr.toList.drop ao).take n=xs:=by
 have c:=h 0 f;rw[BS oG]at c;cases b:W.heap[ab]? with
 |none=>simp[World.cell?,b]at c
 |some o=>
  cases o<;>simp[World.cell?,b]at c;rename_i arr e a;refine⟨arr,e,a,rfl,?_⟩;apply VJ;intro j;rw[GO];by_cases d:j<n;rw[Ac d,Jg,<-h j d];simp[World.cell?,b];rw[AY d,Jh oG]
variable{H:Type}{enc:TypeId×Value->H}{W:World}{K:Bool}
def Vv{a:Au}{v:AF}(h:W.cell? (a.add 0)=sM v):a.spot=nO:=by simpa[Addr.add]using World.cell?_spot h
def AHI{a b j}:(⟨a,b,nO⟩:Au).add j=⟨a,b+j,nO⟩:=Addr.add_mid _ _ _
def AA3{fuel v y}(h:DataW.trod enc Tryz.prog W 0 (λ_=>true) K fuel 23 [v]=some y):∃(l:AA AH)(a:AU Au)(c:Nat),v=.slice a (lN l) c/\lN l<=maxLen/\∃cells,Av (OG W) JC 1 l a c cells:=by
 rcases open_ints Tryz.underlying23 Tryz.underlying5 kR h with⟨d,k⟩|⟨a,len,cap,zs,d,_,w,A,B,k,b,i⟩;obtain rfl:v=.slice none 0 0:=by simpa using d
 exact⟨[],none,0,rfl,Bm _,[],Dk.nil,Ag _,Bm _,rfl⟩;obtain rfl:v=.slice (some a) len cap:=by simpa using d
 simp[ME]at B;have hlen:lN ((zs.take len).map λn=>UInt8.ofNat n.toNat)=len:=sO
 refine⟨(zs.take len).map λn=>UInt8.ofNat n.toNat,some a,cap,by rw[hlen],by rw[hlen];omega,((zs.take len).map λn=>UInt8.ofNat n.toNat).map Pv,⟨⟨by rw[DG];omega,?_,?_⟩,by rwa[hlen],A,?_⟩⟩;intro x k;obtain⟨z,_,rfl⟩:=BI.1 k;rfl;rw[hlen];rcases Nat.eq_zero_or_pos len with f|f;exact .inl f;right;let⟨m,o,D⟩:=a;have g:D=none:=Vv<|b 0 oG;subst g;let⟨arr,e,r,s,t⟩:=AM5 (W:=W) (ab:=m) (ao:=o) (n:=len) (xs:=((zs.take len).map λn=>UInt8.ofNat n.toNat).map Pv) (by rw[DG];omega) f (λj u=>by
  have q:=b j oG;rw[AHI]at q;rw[q];have p:=range_u8 i j;rw[GB,GB,GO,Ac u,BS<|show j<lN zs by omega];rw[BS<|show j<lN zs by omega]at p;rw[DK,BS<|show j<lN zs by omega];simp[TH,LN,QB]at p⊢;rw[Pv];congr 1;have:(UInt8.ofNat (zs[j]).toNat).toNat=(zs[j]).toNat:=by rw[UInt8.toNat_ofNat'];omega
  rw[this];omega)
 exact⟨m,o,arr,e,r,rfl,s,by rwa[TG]⟩;generalize((zs.take len).map λn=>UInt8.ofNat n.toNat)=l;induction l with
 |nil=>rfl
 |cons x l C=>exact⟨[Pv x],l.map Pv,rfl,rfl,C⟩
def AM7{a:Type}{R:a->AA AF->Prop}{f:Nat->a}{g:Nat->AF}:∀is:AA Nat,(∀i∈is,R (f i) [g i])->Rows R (is.map f) (is.map g)
 |[],_=>rfl
 |i::is,h=>⟨[g i],is.map g,rfl,h i DT,AM7 is λj b=>h j<|DY _ b⟩
def AdO{fuel v y}(h:DataW.trod enc Tryz.prog W 0 (λ_=>true) K fuel 22 [v]=some y):∃(l:AA<|AA AH)(a:AU Au)(c:Nat),v=.slice a (lN l) c/\lN l<=maxLen/\(∀x∈l,lN x<=maxLen)/\∃cells,Av (OG W) (QR<|OG W) 1 l a c cells:=by
 rcases Go.Deep.open_slice1 Tryz.underlying22 kR h with⟨d,g⟩|⟨a,len,cap,m,n,V,D,P,d,_,M,N,s,g,f⟩;obtain rfl:v=.slice none 0 0:=by simpa using d
 exact⟨[],none,0,rfl,Bm _,nA,[],Dk.nil,Ag _,Bm _,rfl⟩;obtain rfl:v=.slice (some a) len cap:=by simpa using d
 simp[ME]at s;have z:∀i,∃l:AA AH,i<len->lN l<=maxLen/\QR (OG W) l [V i]:=λi=>by by_cases b:i<len;let⟨l,o,p,B,C,cells,E⟩:=AA3 (f i oG).2;exact⟨l,λ_=>⟨C,o,p,cells,by rw[B],E⟩⟩;exact⟨[],λq=>absurd q b⟩
 have k:=λi=>Classical.choose_spec<|z i;generalize hF:(λi=>Classical.choose<|z i)=F;have k:∀i,i<len->lN (F i)<=maxLen/\QR (OG W) (F i) [V i]:=λi b=>by rw[<-hF];exact k i b
 refine⟨(List.range len).map F,some a,cap,sP,by simp;omega,λx g=> ?_,(List.range len).map V,⟨⟨sP,?_,?_⟩,by simpa using M,N,AM7 _ λi b=>(k i<|O4.1 b).2⟩⟩;obtain⟨i,b,rfl⟩:=BI.1 g;exact(k i<|O4.1 b).1;intro x g;obtain⟨i,b,rfl⟩:=BI.1 g;let⟨_,o,p,cells,e,_⟩:=k i<|O4.1 b;rw[show V i=.slice o (lN<|F i) p by simpa using e];rfl;rw[DG,List.length_range];rcases Nat.eq_zero_or_pos len with r|r;exact .inl r;right;let⟨u,w,O⟩:=a;have t:O=none:=Vv (f 0 oG).1;subst t;let⟨arr,e,G,I,J⟩:=AM5 (W:=W) (ab:=u) (ao:=w) (n:=len) (xs:=(List.range len).map V) sP r (λj L=>by have A:=(f j oG).1;rw[AHI]at A;rw[A,GB,AGV L];rfl)
 exact⟨u,w,arr,e,G,rfl,I,by rwa[TG]⟩
def AZL{r p v d g}(x:Value.okWide Tryz.prog W r p 25 v)(h:DataW.Trod enc Tryz.prog W 0 (λ_=>true) true 25 v d g):
 ∃(c:LP)(q:QD),v=.agg #[.slice q.fa (lN c.Ax) q.fc,.slice q.ba (lN c.BJ) q.bc,.slice q.ta (lN c.BM) q.tc]/\TL (OG W) c q:=by
 obtain⟨I,rfl,f⟩:=okWide_struct Tryz.underlying25 x;obtain⟨E,F,G,rfl⟩:=array3 (f.trans (show Tryz.prog.cellsOf 25=3 by kernel_rfl));let⟨fuel,w⟩:=h;have e:DataW.trod enc Tryz.prog W 0 (λ_=>true) true fuel 25 [E,F,G]=some (d,g):=by simpa[Value.cells]using w
 let⟨M,N,O,n,_,_,i,j,k⟩:=Go.Deep.trod_struct3 Tryz.underlying25 e;have a:Tryz.prog.cellsOf 22=1:=kR;have b:Tryz.prog.cellsOf 23=1:=kR;simp[a,b,S6,AGP,ABp,List.take_zero]at i j k;obtain⟨B,l,s,rfl,t,u,y⟩:=AdO i;obtain⟨C,m,c1,rfl,J,z⟩:=AA3 j;obtain⟨D,o,c2,rfl,L,A⟩:=AA3 k;exact⟨⟨B,C,D⟩,⟨l,s,m,c1,o,c2⟩,rfl,⟨y,z,A,t,u⟩⟩
def open_list{r i v d f}(n:Value.okWide Tryz.prog W r i 23 v)(h:DataW.Trod enc Tryz.prog W 0 (λ_=>true) true 23 v d f):
 ∃(l:AA AH)(a:AU Au)(c:Nat),v=.slice a (lN l) c/\∃cells,Av (OG W) JC 1 l a c cells:=by
 obtain⟨g,o,j,rfl⟩:=okWide_slice Tryz.underlying23 n;let⟨fuel,m⟩:=h;have b:DataW.trod enc Tryz.prog W 0 (λ_=>true) true fuel 23 [.slice g o j]=some (d,f):=by simpa[Value.cells]using m
 let⟨l,a,c,e,_,k⟩:=AA3 b;exact⟨l,a,c,e,k⟩
end
end Go.Proofs.YtomehhepbeiinaaGreatDoor
