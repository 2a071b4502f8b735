/- Part 5 of the proof of TopLeaks. No conditions. -/
import Derived.Test.YtomehhepbeiinaaGreatDoorZ04
import Derived.WideKeyRuns
import Derived.Tactics
import Derived.Tactics2
import Derived.Recover
import Derived.Laws.Pointers
set_option maxRecDepth 100000
set_option maxHeartbeats 4000000
set_option linter.all false
namespace Go.Proofs.YtomehhepbeiinaaGreatDoor
open Tryz
section
open Go.AX Go.RowKit Go.Shelf Lz
def AYz:prog.underlying 40=some .string:=kR
def AY0:prog.underlying 42=some (.struct (prog.fieldsOf 42)):=(U2 42 dC).1
section
variable {w:World}
def AFn(a:Bool)(l):(Instr.checkKey a 10000 42 (.agg (Fw l))).run prog w=.ok () w:=by have b:∀s:Bp,(Instr.checkKey a 9999 40 (.string s)).run prog w=.ok () w:=λs=>MapKept.run_checkKey (d:=.string) (k:=.string s) AYz A0 a 9998;rw[show(10000:Nat)=9998+2 from rfl];unfold Instr.checkKey;go_simp
structure Rw where
 l:AV
 ns:AA Nm
 b:Nat
 c:Nat
 AC:AA AE
def Rw.val(r:Rw):AE:=.slice (some ⟨r.b,0,none⟩) r.ns.length r.c
def IX(e:Ah)(r:Rw):Prop:=e.key=.agg (Fw r.l)/\e.val=r.val
def HQ(L:AA Rw)(l:AV)(i:Nat):AK (Nat×AE):=match L with
 |[]=>none
 |r::L=>if l=r.l then some (i,r.val)else HQ L l (i+1)
def AQF(a b):(Op.equal 42 (.agg (Fw a)) (.agg (Fw b))).run prog w=.ok (decide (a=b)) w:=eqL w
def AGq{l}:∀ {b:AA Ah} {L:AA Rw} (i:Nat),DD IX b L->(Instr.findAsking 42 (.agg (Fw l)) b i).run prog w=.ok (HQ L l i) w
 |_,_,i,.nil=>rfl
 |_,_,i,.cons (a:=e) (b:=r) ⟨c,d⟩ hr=>by unfold Instr.findAsking HQ;rw[c];simp[Sem.run_bind,AQF,Result.andThen_ok];by_cases a:l=r.l;rw[AW a];simp[a,d];rw[AN a];simp[a,decide_false,Me,Gn];exact AGq (i+1) hr
def AGm{l a L}(h:DD IX a L):(Instr.findKey 42 (.agg (Fw l)) a).run prog w=.ok (HQ L l 0) w:=by rw[run_findKey_eq w (by rw[AY0])];exact AGq 0 h
def Te:∀ {L:AA Rw} {l:AV} {i j:Nat} {v:AE},HQ L l i=some (j,v)->∃k r,j=i+k/\L[k]? =some r/\r.l=l/\v=r.val
 |[],_,_,_,_,h=>by cases h
 |r::L,l,i,j,v,h=>by unfold HQ at h;split at h;rename_i e;cases h;exact⟨0,r,rfl,rfl,e.symm,rfl⟩;let⟨k,c,d,a,b⟩:=Te h;exact⟨k+1,c,oG,by simpa using a,b⟩
def AEz:∀ {L:AA Rw} {l:AV} {i:Nat},HQ L l i=none->∀r∈L,r.l≠l
 |[],_,_,_=>λ_ h=>by cases h
 |r::L,l,i,h=>by unfold HQ at h;split at h;cases h;rename_i a;intro c b;rcases BD.1 b with e|e;subst e;exact λq=>a q.symm;exact AEz h c e
end
def ADH:prog.underlying 176=some (.map 42 38):=kR
def AZ4:∀w,(zeroValue 38).run prog w=.ok (.slice none 0 0) w:=zeroValue38
def ATo{a b f n j L l I}(h:DD IX j.toList L){v}(k:v=match HQ L l 0 with|some x=>x.2|none=>.slice none 0 0):
 ∀e u (o:BP),o.op=.lookup 176 (.tmp a) (.tmp b) false->(∀p∈[(a,SV.m f),(b,Cc l)],u p.1=p.2)->LS prog o u e [(f,.obj (.map j n))] I (.v v) none:=by
 intro e u o s d;have A:=Cy d (s:=a) (x:=.m f) sP;have B:=Cy d (s:=b) (x:=Cc l) sP;intro C y w z hN _ _ _;refine⟨w,?_,BB.refl w⟩;have g:=z (.tmp a) xO;have i:=z (.tmp b) xO;simp[ev,A,B]at g i;have i:y.eval (.tmp b)=.agg (Fw l):=i;have g:y.eval (.tmp a)=.map (some (C f)):=g;have m:=hN (f,.obj (.map j n)) sP _ rfl;have r:=AGm (w:=w) (l:=l) h;have q:=AFn (w:=w) j.isEmpty l;have t:=AZ4 w;simp[execOp,s,g,i,Instr.lookup,Sem.run_bind,run_underlying ADH,Result.andThen_ok,MapKept.run_getObj_map m,Sem.run_pure,q,r];cases c:HQ L l 0 with
 |none=>rw[c]at k;subst k;simp[t,Result.andThen,den]
 |some x=>rw[c]at k;subst k;simp[Result.andThen,den]
def AWq(l):Instr.sameBits 10000 (.agg (Fw l)) (.agg (Fw l)):=by rw[show(10000:Nat)=9998+2 from rfl];have a:∀s:Bp,(s==s):=λs=>MapKept.sameBits_self (d:=.string) (k:=.string s) A0 1;simp[Instr.sameBits,a]
def putRow(a:AY Ah)(n:Nat)(L:AA Rw)(l:AV)(v:AE):AY Ah×Nat:=match HQ L l 0 with
 |some x=>(a.modify x.1 λe=>{e with key:=.agg (Fw l),val:=v},n)
 |none=>(a.push {key:=.agg (Fw l),val:=v,born:=n},n+1)
def AI0{es}{n}{L}{l}{v}(h:DD IX es.toList L)(w)(r)(hb:w.heap[r]? =some (.map es n)):
 (Instr.mapUpdate 176 (.map (some r)) (.agg (Fw l)) v).run Tryz.prog w=.ok () {w with heap:=w.heap.setIfInBounds r (.map (putRow es n L l v).1 (putRow es n L l v).2)}:=by
 have g:=AGm (w:=w) (l:=l) h;have f:=AFn (w:=w) false l;simp only[Instr.mapUpdate,Sem.run_bind,run_underlying ADH,Result.andThen_ok,MapKept.run_getObj_map hb,f,g];unfold putRow;cases d:HQ L l 0 with
 |none=>simp[MapKept.run_setObj_map _ hb]
 |some x=>
  let⟨j,u⟩:=x;let⟨k,A,o,p,s,_⟩:=Te d;have hk:(es[j]?.map (·.key)).getD (.agg (Fw l))=.agg (Fw l):=by
   cases e:es[j]? with
   |none=>rfl
   |some y=>
    have: ∀ {a:AA Ah} {b:AA Rw} {i:Nat} {y:Ah} {q:Rw},DD IX a b->a[i]? =some y->b[i]? =some q->IX y q:=by
     intro a b i y q c;induction c generalizing i with
     |nil=>intro h;simp at h
     |cons h1 B z=>
      cases i with
      |zero=>intro h h';simp at h h';subst h h';exact h1
      |succ i=>intro h h';exact z (by simpa using h) (by simpa using h')
    have t:=this h (i:=j) (y:=y) (q:=A) (by simpa using e) (by rw[o,D5];exact p);simp only[Kz,TB];rw[t.1,s]
  have m:(Instr.keyThatStays (.agg (Fw l)) (.agg (Fw l))).run Tryz.prog w=.ok (.agg (Fw l)) w:=by simp[Instr.keyThatStays,AWq]
  simp only[hk];rw[Sem.run_bind,m,Result.andThen_ok,MapKept.run_setObj_map _ hb]
end
section
open Go.AX Lz
section
variable {I J:AB} (d:I.Cd J)
include d
def Ch.A8{c n a xs}(h:Ch I c a n xs):Ch J c a n xs:=
 ⟨h.len,h.one,h.at_.imp id λ⟨b,f,arr,e,g,i,j,k⟩=>⟨b,f,arr,e,g,i,d b _ j,k⟩⟩
def Aj.A8{b:Type}{R S:b->List Value->Prop}{size c:Nat}{xs:List b}{a:Option Addr}{cells:List Value}(h:Aj I R size xs a c cells)(e: ∀x l,R x l->S x l):Aj J S size xs a c cells:=
 ⟨Ch.A8 d h.sl,h.cap,h.max,h.rows.mono e⟩
def AQv(f l)(h:E7 I f l):E7 J f l:=by let⟨b,c,a,e,q⟩:=h;exact⟨b,c,a,e,Aj.A8 d q λ_ _ h=>h⟩
def CH.A8{c p}(h:CH I c p):CH J c p:=
 ⟨Aj.A8 d h.f (AQv d),Aj.A8 d h.s λ_ _ h=>h,Aj.A8 d h.t λ_ _ h=>h⟩
def Co.A8{t}{a}(h:Co I t a):Co J t a:=⟨CH.A8 d h.c,Aj.A8 d h.s λ_ _ h=>h⟩
def QU(f l)(h:Iu I f l):Iu J f l:=by unfold Iu at h⊢;let⟨b,c,a,e,q⟩:=h;exact⟨b,c,a,e,Aj.A8 d q λ_ _ h=>h⟩
def D3.A8{a p}(h:D3 I a p):D3 J a p:=⟨Aj.A8 d h.k λ_ _ h=>h,Aj.A8 d h.u (QU d)⟩
def DK.A8(h:DK I):DK J:=by let⟨arr,e,a,b,c⟩:=h.at_;exact⟨arr,e,a,d _ _ b,c⟩
def Pow.A8(h:Pow I):Pow J:=by let⟨⟨e,c,f⟩,⟨ev,b,a,g,i⟩⟩:=h;exact⟨⟨e,c,d _ _ f⟩,⟨ev,b,a,d _ _ g,i⟩⟩
def EZ.A8{o q}(h:EZ I o q):EZ J o q:=Aj.A8 d h λ_ _ h=>h
def Hv.A8{e}{p}(h:Hv I e p):Hv J e p:=⟨h.1,h.2.imp λq ⟨a,b⟩=>⟨a,EZ.A8 d b⟩⟩
theorem AEk: ∀ {es:List MapEntry} {l:Ao},DD (Hv I) es l->DD (Hv J) es l
 |_,_,.nil=>.nil
 |_,_,.cons h hr=>.cons (Hv.A8 d h) (AEk hr)
def DJ.A8{s}{es}{ck}(h:DJ I s es ck):DJ J s es ck:=⟨h.perm.imp λ_ ⟨a,b⟩=>⟨a,AEk d b⟩,h.nd,h.nm,h.bo⟩
end
structure EO(I:AB)(s:Ao)(L:AA Rw)(es:AY Ah)(ck:Nat):Prop where
 JF:DD IX es.toList L
 has:∀r∈L,I.has r.b (Gh r.ns r.AC)/\r.ns.length+r.AC.length=r.c/\r.c<=maxLen
 bl:(L.map (·.b)).Nodup
 lb:(L.map (·.l)).Nodup
 ok:∀r∈L,∀n∈r.ns,BY n
 len:∀r∈L,r.ns.length<=s.length
 mem:∀n l,(∃r∈L,r.l=l/\n∈r.ns)↔∃o,Ai s n=some o/\o.l=l
 bo:K0 es ck
 nds:∀r∈L,r.ns.Nodup
 ne:∀r∈L,r.ns≠[]
def EO.up{I J s L a ck}(h:EO I s L a ck)(hle:I.le J):EO J s L a ck:={h with has:=λr b=>⟨hle.own _ _ (h.has r b).1,(h.has r b).2⟩}
def Ko(L:AA Rw)(r:Rw):AA Rw:=match HQ L r.l 0 with
 |some x=>L.set x.1 r
 |none=>L++[r]
def GV(L:AA Rw)(l:AV):AA Nm×AK Ac×Nat:=match HQ L l 0 with
 |some x=>match L[x.1]? with|some r=>(r.ns,some ⟨r.b,0,none⟩,r.c)|none=>([],none,0)
 |none=>([],none,0)
def AWb(L l):(match HQ L l 0 with|some x=>x.2|none=>.slice none 0 0)=Value.slice (GV L l).2.1 (GV L l).1.length (GV L l).2.2:=by
 unfold GV;cases h:HQ L l 0 with
 |none=>rfl
 |some x=>
  let⟨j,v⟩:=x;let⟨k,r,a,b,d,c⟩:=Te h;have:L[j]? =some r:=by rw[a,D5];exact b
  simp[this];exact c
def AWa{I s L i c}(h:EO I s L i c)(l):OX I (GV L l).1 (GV L l).2.1 (GV L l).2.2/\(∀n∈(GV L l).1,BY n)/\(GV L l).1.length<=s.length:=by
 unfold GV;cases a:HQ L l 0 with
 |none=>exact⟨⟨.inl ⟨rfl,rfl,rfl⟩⟩,nA,BS _⟩
 |some x=>
  let⟨j,v⟩:=x;let⟨k,r,d,e,t,u⟩:=Te a;have:L[j]? =some r:=by rw[d,D5];exact e
  simp[this];have b:=Cv this;let⟨m,o,p⟩:=h.has r b;exact⟨⟨.inr ⟨r.b,r.AC,rfl,m,o,p⟩⟩,h.ok r b,h.len r b⟩
def ANN{a L}(h:DD IX a L){f r}(c:∀e,IX (f e) r):∀j:Nat,DD IX (a.modify j f) (L.set j r):=by
 induction h with
 |nil=>intro j;cases j<;>exact .nil
 |cons b d i=>
  intro j;cases j with
  |zero=>exact .cons (c _) d
  |succ j=>exact .cons b (i j)
def ANM{a L}(h:DD IX a L){e r}(c:IX e r):DD IX (a++[e]) (L++[r]):=by
 induction h with
 |nil=>exact .cons c .nil
 |cons b i d=>exact .cons b d
def AJt{a n L}(h:DD IX a.toList L){r}:DD IX (putRow a n L r.l r.val).1.toList (Ko L r):=by
 unfold putRow Ko;cases b:HQ L r.l 0 with
 |none=>
  simp[OM];exact ANM h ⟨rfl,rfl⟩
 |some x=>
  simp[ADg];exact ANN h (λe=>⟨rfl,rfl⟩) x.1
def AJD{r:Type}{l:AA r}(h:l.Nodup){j x}(p:∀i,i≠j->∀y,l[i]? =some y->y≠x):(l.set j x).Nodup:=by rw[AMm,Mh];intro a b c k d;rw[Yu]at c k;rw[ADx,ADx];split;split;omega;rename_i m o;exact λq=>p b (λe=>o e.symm) _ (A9 k) q.symm;split;rename_i m o;exact p a (λe=>m e.symm) _ (A9 c);exact Mh.1 h a b c k d
def AVs{a n L l v}(h:K0 a n):K0 (putRow a n L l v).1 (putRow a n L l v).2:=by unfold putRow;split;exact h.modify _ (λe=>{e with key:=.agg (Fw l),val:=v}) λ_=>rfl;exact h.push _ _
def EO.add{I}{s}{L}{es}{m}(h:EO I s L es m){nm}{o}(S:Eg s nm o=true)(V:BY nm=true){b c}{AC}{ns}(z: ∀x,x∈ns↔x∈(GV L o.l).1\/x=nm)(P:ns.length=(GV L o.l).1.length+1)(ah:ns.Perm (nm::(GV L o.l).1))(hc:ns.length+AC.length=c)(hm:c<=maxLen)(aa:I b=none)(hb:A7 (GV L o.l).2.1=some b\/I.free b):
 EO (I.plus b (Gh ns AC)) (C0 s nm o) (Ko L ⟨o.l,ns,b,c,AC⟩) (putRow es m L o.l (.slice (some ⟨b,0,none⟩) ns.length c)).1 (putRow es m L o.l (.slice (some ⟨b,0,none⟩) ns.length c)).2/\(∀x y,I.has x y->(∀r∈L,r.b≠x)->(I.plus b (Gh ns AC)).has x y)/\∀r∈Ko L ⟨o.l,ns,b,c,AC⟩,(∃r0∈L,r0.b=r.b)\/I.free r.b:=by
 have hlen:(C0 s nm o).length=s.length+1:=by unfold C0;rw[AW S];simp
 have U:=JI S;have Y:Ai s nm=none:=by unfold Eg at S;simp only[Bt]at S;exact Ml.1 S.2
 have p: ∀r∈L,nm∉r.ns:=λr a t=>by let⟨o',B,_⟩:=(h.mem nm r.l).1 ⟨r,a,rfl,t⟩;rw[Y]at B;cases B
 have M:DD IX (putRow es m L o.l (.slice (some ⟨b,0,none⟩) ns.length c)).1.toList (Ko L ⟨o.l,ns,b,c,AC⟩):=AJt (r:=⟨o.l,ns,b,c,AC⟩) h.JF;have hnew:ns.Nodup:=by
  rw[ah.nodup_iff,Gl];have ae:(GV L o.l).1=[]\/∃r∈L,(GV L o.l).1=r.ns:=by unfold GV;split;split;rename_i r a;exact .inr ⟨r,Cv a,rfl⟩;exact .inl rfl;exact .inl rfl
  rcases ae with e|⟨r,a,e⟩;rw[e];exact⟨sP,NW⟩;rw[e];exact⟨p r a,h.nds r a⟩
 have N: ∀r∈Ko L ⟨o.l,ns,b,c,AC⟩,r.ns.Nodup:=λr a=>by
  have:r∈L\/r=⟨o.l,ns,b,c,AC⟩:=by unfold Ko at a;split at a;exact Yz a;rcases BA.1 a with q|q;exact .inl q;exact .inr (AP.1 q)
  rcases this with q|q;exact h.nds r q;rw[q];exact hnew
 have O: ∀r∈Ko L ⟨o.l,ns,b,c,AC⟩,r.ns≠[]:=λr a=>by
  have:r∈L\/r=⟨o.l,ns,b,c,AC⟩:=by unfold Ko at a;split at a;exact Yz a;rcases BA.1 a with q|q;exact .inl q;exact .inr (AP.1 q)
  rcases this with q|q;exact h.ne r q;rw[q];intro e;have e:ns=[]:=e;rw[e]at P;simp at P
 have ab:=AVs (L:=L) (l:=o.l) (v:=.slice (some ⟨b,0,none⟩) ns.length c) h.bo;cases hL:HQ L o.l 0 with
 |none=>
  have Z:GV L o.l=([],none,0):=by unfold GV;rw[hL]
  rw[Z]at z P hb;have J:I.free b:=by rcases hb with hb|hb;cases hb;exact hb
  have K:Ko L ⟨o.l,ns,b,c,AC⟩=L++[⟨o.l,ns,b,c,AC⟩]:=by unfold Ko;simp only[hL]
  have D: ∀r∈L,r.b≠b:=λr a e=>by have:=(h.has r a).1.own;rw[e,J.2]at this;cases this
  rw[K]at M N O⊢;have ad:=AEz hL;refine⟨⟨M,λr a=> ?_,?_,?_,λr a=> ?_,λr a=> ?_,λn l=> ?_,ab,N,O⟩,λx y H u=> ?_,λr a=> ?_⟩;rcases BA.1 a with q|q;exact⟨MU (h.has r q).1 (D r q),(h.has r q).2⟩;rw[AP.1 q];exact⟨MS aa,hc,hm⟩;rw[EL,Fz];refine⟨h.bl,sP,λx H y hy=> ?_⟩;obtain⟨r,a,rfl⟩:=BG.1 H;have:y=b:=by simpa using hy
  rw[this];exact D r a;rw[EL,Fz];refine⟨h.lb,sP,λx H y hy=> ?_⟩;obtain⟨r,a,rfl⟩:=BG.1 H;have:y=o.l:=by simpa using hy
  rw[this];exact ad r a;rcases BA.1 a with q|q;exact h.ok r q;rw[AP.1 q];intro n X;rcases(z n).1 X with e|e;cases e;rw[e];exact V;rw[hlen];rcases BA.1 a with q|q;have:=h.len r q;omega;rw[AP.1 q];show ns.length<=_;simp at P;omega;rw[U];constructor;rintro⟨r,a,E,t⟩;rcases BA.1 a with q|q;have u:n≠nm:=λe=>p r q (by rw[<-e];exact t);rw[AN u];exact(h.mem n l).1 ⟨r,q,E,t⟩;rw[AP.1 q]at E t;rcases(z n).1 t with e|e;cases e;rw[AW e];exact⟨o,rfl,E⟩;rintro⟨o',B,Q⟩;split at B;rename_i e;cases B;exact⟨_,GJ _ (AP.2 rfl),Q,(z n).2 (.inr e)⟩;let⟨r,a,h1,h2⟩:=(h.mem n l).2 ⟨o',B,Q⟩;exact⟨r,E2 _ a,h1,h2⟩;exact MU H λe=>by rw[e]at H;have:=H.own;rw[J.2]at this;cases this
  rcases BA.1 a with q|q;exact .inl ⟨r,q,rfl⟩;rw[AP.1 q];exact .inr J
 |some x=>
  let⟨j,v⟩:=x;let⟨k,r0,e1,e2,e3,e4⟩:=Te hL;have hj:L[j]? =some r0:=by rw[e1,D5];exact e2
  have ag:=(B6.1 hj).1;have Z:GV L o.l=(r0.ns,some ⟨r0.b,0,none⟩,r0.c):=by unfold GV;rw[hL];simp only[hj]
  have C:=Cv hj;rw[Z]at z P hb;simp only at z P hb;have K:Ko L ⟨o.l,ns,b,c,AC⟩=L.set j ⟨o.l,ns,b,c,AC⟩:=by unfold Ko;simp only[hL]
  rw[K]at M N O⊢;have D: ∀i r,i≠j->L[i]? =some r->r.b≠b:=λi r d hi e=>by
   rcases hb with hb|hb;have hb:r0.b=b:=by simpa[A7]using hb
   have V:=Mh.1 h.bl;let⟨q1,q2⟩:=B6.1 hi;let⟨q3,q4⟩:=B6.1 hj;rcases Nat.lt_or_gt_of_ne d with q|q;have:=V i j (by simpa using q1) (by simpa using q3) q;simp only[S5]at this;rw[q2,q4,e,hb]at this;exact this rfl;have:=V j i (by simpa using q3) (by simpa using q1) q;simp only[S5]at this;rw[q2,q4,e,hb]at this;exact this rfl;have:=(h.has r (Cv hi)).1.own;rw[e,hb.2]at this;cases this
  have G: ∀r∈L.set j ⟨o.l,ns,b,c,AC⟩,r=⟨o.l,ns,b,c,AC⟩\/∃i,i≠j/\L[i]? =some r:=λr a=>by let⟨i,hi⟩:=S8.1 a;rw[S4]at hi;split at hi;exact .inl (GK hi).symm;rename_i u;exact .inr ⟨i,λe=>u e.symm,hi⟩
  have W:(⟨o.l,ns,b,c,AC⟩:Rw)∈L.set j ⟨o.l,ns,b,c,AC⟩:=S8.2 ⟨j,by rw[S4,AW rfl,AW ag]⟩;have af: ∀i r,i≠j->L[i]? =some r->r∈L.set j ⟨o.l,ns,b,c,AC⟩:=λi r d hi=>S8.2 ⟨i,by rw[S4,AN (λe=>d e.symm)];exact hi⟩;have ac: ∀i r,i≠j->L[i]? =some r->r.l≠o.l:=λi r d hi e=>by have V:=Mh.1 h.lb;let⟨q1,q2⟩:=B6.1 hi;let⟨q3,q4⟩:=B6.1 hj;rcases Nat.lt_or_gt_of_ne d with q|q;have:=V i j (by simpa using q1) (by simpa using q3) q;simp only[S5]at this;rw[q2,q4,e,e3]at this;exact this rfl;have:=V j i (by simpa using q3) (by simpa using q1) q;simp only[S5]at this;rw[q2,q4,e,e3]at this;exact this rfl
  refine⟨⟨M,λr a=> ?_,?_,?_,λr a=> ?_,λr a=> ?_,λn l=> ?_,ab,N,O⟩,λx y H u=> ?_,λr a=> ?_⟩;rcases G r a with e|⟨i,d,hi⟩;rw[e];exact⟨MS aa,hc,hm⟩;have T:=Cv hi;exact⟨MU (h.has r T).1 (D i r d hi),(h.has r T).2⟩;rw[List.map_set];refine AJD h.bl λi d x H e=> ?_;rw[E0]at H;obtain⟨r,a,rfl⟩:=KM.1 H;exact D i r d a e;rw[List.map_set];refine AJD h.lb λi d x H e=> ?_;rw[E0]at H;obtain⟨r,a,rfl⟩:=KM.1 H;exact ac i r d a e;rcases G r a with e|⟨i,d,hi⟩;rw[e];intro n X;rcases(z n).1 X with q|q;exact h.ok r0 C n q;rw[q];exact V;exact h.ok r (Cv hi);rw[hlen];rcases G r a with e|⟨i,d,hi⟩;rw[e];have:=h.len r0 C;show ns.length<=_;omega;have:=h.len r (Cv hi);omega;rw[U];constructor;rintro⟨r,a,E,t⟩;rcases G r a with e|⟨i,d,hi⟩;rw[e]at E t;rcases(z n).1 t with q|q;have u:n≠nm:=λe=>p r0 C (by rw[<-e];exact q);rw[AN u];exact(h.mem n l).1 ⟨r0,C,by rw[e3];exact E,q⟩;rw[AW q];exact⟨o,rfl,E⟩;have T:=Cv hi;have u:n≠nm:=λe=>p r T (by rw[<-e];exact t);rw[AN u];exact(h.mem n l).1 ⟨r,T,E,t⟩;rintro⟨o',B,Q⟩;split at B;rename_i e;cases B;exact⟨_,W,Q,(z n).2 (.inr e)⟩;let⟨r,a,h1,h2⟩:=(h.mem n l).2 ⟨o',B,Q⟩;let⟨i,hi⟩:=S8.1 a;by_cases d:i=j;subst d;rw[hj]at hi;cases hi;exact⟨_,W,by rw[<-h1];exact e3.symm,(z n).2 (.inl h2)⟩;exact⟨r,af i r d hi,h1,h2⟩;refine MU H λe=> ?_;rcases hb with hb|hb;have hb:r0.b=b:=by simpa[A7]using hb
  exact u r0 C (by rw[hb,e]);have:=H.own;rw[e,hb.2]at this;cases this;rcases G r a with e|⟨i,d,hi⟩;rw[e];rcases hb with hb|hb;exact .inl ⟨r0,C,by simpa[A7]using hb⟩;exact .inr hb;exact .inl ⟨r,Cv hi,rfl⟩
def DJ.ANI{I}{s}{es}{n}(h:DJ I s es n){nm}{o}(d:Eg s nm o=true)(m:Bg nm){q}(r:EZ I o q):DJ I (C0 s nm o) (es.push {key:=.string (AR nm),val:=.agg (FA o q).toArray,born:=n}) (n+1):=by
 have i:C0 s nm o=s++[(nm,o)]:=by unfold C0;rw[AW d]
 have c:Ai s nm=none:=by unfold Eg at d;simp only[Bt]at d;exact Ml.1 d.2
 let⟨l,hp,ha⟩:=h.perm;rw[i];refine⟨⟨l++[(nm,o)],hp.append_right _,?_⟩,?_,λp e=> ?_,h.bo.push _ _⟩;rw[OM];have: ∀ {a:AA Ah} {b:Ao},DD (Hv I) a b->DD (Hv I) (a++[{key:=.string (AR nm),val:=.agg (FA o q).toArray,born:=n}]) (b++[(nm,o)]):=by
  intro a b j;induction j with
  |nil=>exact .cons ⟨rfl,q,rfl,r⟩ .nil
  |cons h1 z v=>exact .cons h1 v
 exact this ha;rw[EL,Fz];refine⟨h.nd,sP,λx t y u=> ?_⟩;have:y=nm:=by simpa using u
 rw[this];rintro rfl;obtain⟨p,e,rfl⟩:=BG.1 t;unfold Ai at c;rw[AD5,ADt]at c;exact c p e sP;rcases BA.1 e with k|k;exact h.nm p k;rw[AP.1 k];exact m
def Ei{n}(h:BY n):Bg n:=by unfold BY at h;simp[Bt,Df,D1]at h;exact h.2
def AED(I:AB)(L:AA Rw)(i:Ao):Nat->AU->Prop:=λ_ h=>∃(a b:AY Ah)(e d:Nat)(c:AA Rw)(J:AB),I.Cd J/\DJ J i a e/\EO J i c b d/\(∀x y,I.has x y->(∀r∈L,r.b≠x)->J.has x y)/\(∀r∈c,(∃j∈L,j.b=r.b)\/∀y,¬I.has r.b y)/\h= {r:=.v (.int .i64 0),upd:=GC a b e d,J:=J}
def AZM{I L p d l n m}:E3 (AED I L p) (GC d l n m) I:=by refine⟨?_⟩;rintro j h ⟨e,o,t,s,q,J,hle,_,_,_,_,rfl⟩;refine⟨⟨nA,λr c=> ?_,nA,sP,sP⟩,hle⟩;simp[mS]at c;rcases c with rfl|rfl|rfl;exact⟨sP,λk a=>by simp[AG.keys,Ax,SV.keys]at a;rcases a with rfl|rfl<;>simp⟩;exact⟨sP,nA⟩;exact⟨sP,nA⟩
def ARa{P o D B t q n s m k x W v Y Z T c p I}(C:o.op=.mapUpdate t m k x)(hm:ev D m=.m q)(hk:ev D k=Y)(M:∀ρ,den ρ Y=W)(hx:ev D x=Z)(hv:∀ρ,den ρ Z=v)(d:(q,.obj (.map T n))∈p)
 (z:∀(w:World) r,w.heap[r]? =some (.map T n)->(Instr.mapUpdate t (.map (some r)) W v).run P w=.ok () {w with heap:=w.heap.setIfInBounds r (.map c s)}):HS P o D B p I (λh=>h= {r:=.v undef,upd:=[(q,.obj (.map c s))],J:=I}) none:=by
 refine⟨?_⟩;intro ρ a w L hh hI K U aa ab next Q hnext _;have G:=hh _ d _ rfl;simp only at G;have E:=L m xO;have O:=L k xO;have S:=L x xO;rw[hm]at E;rw[hk,M ρ]at O;rw[hx,hv ρ]at S;simp[den]at E;have hs:=z w (ρ q) G;have hex:(execOp a.eval o).run P w=.ok .skip {w with heap:=w.heap.setIfInBounds (ρ q) (.map c s)}:=by simp[execOp,C,E,O,S,hs]
 let⟨k1,V⟩:=MapKept.heap_set (o':=.map c s) G;unfold Oper.wp;rw[hex,Oper.upon_skip];refine hnext rfl _ _ (λ_=>0) rfl ⟨rfl,rfl,rfl,sP,λb l N _=>V b λe=>(N (q,.obj (.map c s)) sP) ?_,?_,λj b hj=>by simp at hj,λi j hi=>by simp at hi,?_,λb X l=>.inl l,λb X l=>Gg l⟩;exact e.symm;intro kb u X y;simp at u;subst u;have e0:AU.Am {r:=.v undef,upd:=[(q,AG.obj (.map c s))],J:=I} ρ B (λ_=>0)=ρ:=by funext n;exact Ej (by unfold Bf;split<;>rfl)
 rw[e0]at y⊢;cases y;exact k1;exact hI.keep (K _ d rfl) λb _ H=>V b λe=>H e.symm
section
variable {F:FuncId} {g:Func} {n:Nat} {I:AB} {w:World} {ρ:Nat->Nat} {A:List Nat} {R:Dl} {f:BU}
def PD{t km m0 m1 m k x kv v sk sx es es' I'}(q:(Lc f).op=.mapUpdate t m k x)(p:ev f.σ.tm m=.m km)(c:ev f.σ.tm k=sk)(o:∀ρ,den ρ sk=kv)(y:ev f.σ.tm x=sx)(s:∀ρ,den ρ sx=v)
 (i:∀(w:AI) r,w.heap[r]? =some (.map es m0)->(Instr.mapUpdate t (.map (some r)) kv v).run prog w=.ok () {w with heap:=w.heap.setIfInBounds r (.map es' m1)})
 (e:Lw f n [(km,.obj (.map es m0))] [km]=some ([some (.obj (.map es m0))],I')) (hnext:At F g n I w ρ A R (f.act {r:=.v undef,upd:=[(km,.obj (.map es' m1))],J:=I'})):At F g n I w ρ A R f:=by
 refine act (need:=[(km,.obj (.map es m0))]) [km] e (ARa (I:=I') q p c o y s (AP.2 rfl) i) ?_ ?_ ?_;rintro h rfl z a;rw[AP.1 a];exact AP.2 rfl;rintro h rfl;refine{r:=nA,u:=λz a=> ?_,n:=nA,l:=by simp,le:=AB.Fa _,d:=by simp};rw[AP.1 a];exact⟨AP.2 rfl,λb j=>by rw[(GY (AP.1 j)).2];rfl,nA⟩;rintro h rfl;exact hnext
end
def N2{a:Type}{l:AA a}{i x y}:x∈l.take i++y::l.drop i↔x∈l\/x=y:=by
 have h:x∈l↔x∈l.take i\/x∈l.drop i:=by rw[<-BA,Q9]
 rw[h,BA,BD];constructor;rintro(q|q|q);exact .inl (.inl q);exact .inr q;exact .inl (.inr q);rintro((q|q)|q);exact .inl q;exact .inr (.inr q);exact .inr (.inl q)
def Vw(I)(hP:Pow I)(s)(es ns)(n m)(L)(nm)(o)(q)(z:Eg s nm o=true)(W:Bo o.l)(Z:o.var.q.length<=1000000)(hq:EZ I o q)(h:DJ I s es n)(hN:EO I s L ns m)(hs:s.length<=900000):
 Fn 89 [.p 1 0,.v (.string (AR nm)),.g (Dy o q)] (GC es ns n m) I (AED I L (C0 s nm o)) none:=by
 have j:=z;unfold Eg at j;simp only[Bt,D1]at j;let⟨⟨⟨l,hk⟩,hnl⟩,hno⟩:=j;have v:=Ml.1 hno;have u:=Ei l;have i:=(h.find u).1 v;have E:=XJ I o.l W;rw[show(Lz.Ap o.l==o.l)=true by simpa using hnl]at E;refine Bh Tryz.func89 AZM λρ key w ab=>gG<|call (AJG I hP nm l) kR<|gg [(18,hF ((o.kind:Int)<3) oG),(23,hF ((o.kind:Int)>7) oG)]<|call E kR<|gg [(37,.hand (.lookup 175 (.tmp 35) (.tmp 36) true) [(35,.m 2),(36,.v (.string (AR nm)))] [(2,.obj (.map es n))] I (.t [.g ((FA Cb GI).map .v),.v (.bool false)]) (SB A6 (L:=lay) (t:=175) (a:=35) (b:=36) (km:=2) (n:=n) (kt:=9) (et:=87) (d1:=.string) (es:=es) (kv:=.string (AR nm)) (zs:=FA Cb GI) rfl Cm A0 ADf i))]<|CK (WL I o q Z hq) kR λM J hle Y=>gG<|PD (t:=175) (km:=2) (m0:=n) (m1:=n+1) (es:=es) (es':=es.push {key:=.string (AR nm),val:=.agg (FA o M).toArray,born:=n}) (m:=.tmp 44) (k:=.tmp 45) (x:=.tmp 47) (kv:=.string (AR nm)) (v:=.agg (FA o M).toArray) (sk:=.v (.string (AR nm))) (sx:=.g (Dy o M)) (I':=J) kR kR kR (λ_=>rfl) kR (λρ=>by rw[AJL];simp only[den];rw[Fu]) (λw r hb=>UT (kv:=.string (AR nm)) (v:=.agg (FA o M).toArray) U8 Cm A0 i w r hb) kR ?_;have D:=hN.up hle;let⟨e,B,G⟩:=AWa D o.l;have k:=AWb L o.l;generalize t:GV L o.l=aa at e B G k;let⟨a,ar,N⟩:=aa;simp only at e B G k;refine gg [(54,.hand (.lookup 176 (.tmp 51) (.tmp 53) false) [(51,.m 3),(53,Cc o.l)] [(3,.obj (.map ns m))] J (.v (.slice ar a.length N)) (ATo hN.JF k.symm))]<|CK (AGn J (hP.up hle) a ar N nm e.ns B l oG) kR λp C d hp=> ?_;let⟨pi,pf⟩:=p;have X:pi<=a.length:=hp.1
 refine gG<|Ag (AHf C a ar N pi nm (e.up d) X oG) [(2,636)] [] kR (λ_ h' T kb U=>by obtain⟨_,_,_,rfl,_⟩:=T;cases U) λh' T=> ?_;obtain⟨b,c,AC,rfl,Q,S,O,P⟩:=T;refine gG<|PD (t:=176) (km:=3) (m0:=m) (m1:=(putRow ns m L o.l (.slice (some ⟨b,0,none⟩) (a.take pi++nm::a.drop pi).length c)).2) (es:=ns) (es':=(putRow ns m L o.l (.slice (some ⟨b,0,none⟩) (a.take pi++nm::a.drop pi).length c)).1) (m:=.tmp 64) (k:=.tmp 66) (x:=.tmp 71) (kv:=.agg (Fw o.l)) (v:=.slice (some ⟨b,0,none⟩) (a.take pi++nm::a.drop pi).length c) (sk:=Cc o.l) (sx:=.v (.slice (some ⟨b,0,none⟩) (a.take pi++nm::a.drop pi).length c)) (I':=C.plus b (Gh (a.take pi++nm::a.drop pi) AC)) kR kR kR (λ_=>rfl) kR (λρ=>rfl) (λw r hb=>AI0 hN.JF w r hb) kR<|gG ?_;have H:=EO.add (D.up d) z l (b:=b) (c:=c) (AC:=AC) (ns:=a.take pi++nm::a.drop pi) (λx=>by rw[t];exact N2) (by rw[t];simp;omega) (by rw[t];exact List.perm_middle.trans (by rw[Q9])) Q S O (by rw[t];exact P);refine dn [] ?_ (h:={r:=.v (.int .i64 0),upd:=GC (es.push {key:=.string (AR nm),val:=.agg (FA o M).toArray,born:=n}) (putRow ns m L o.l (.slice (some ⟨b,0,none⟩) (a.take pi++nm::a.drop pi).length c)).1 (n+1) (putRow ns m L o.l (.slice (some ⟨b,0,none⟩) (a.take pi++nm::a.drop pi).length c)).2,J:=C.plus b (Gh (a.take pi++nm::a.drop pi) AC)})
 refine⟨_,_,_,_,_,C.plus b (Gh (a.take pi++nm::a.drop pi) AC),λx y K=>(hle.trans d).at_ x y K,DJ.A8 (I:=J) (J:=C.plus b (Gh (a.take pi++nm::a.drop pi) AC)) (λx y K=>d.at_ x y K) ((h.up hle).ANI z u Y),H.1,λx y K V=>H.2.1 x y ((hle.trans d).own x y K) V,λr hr=>(H.2.2 r hr).imp id λhf y hy=> ?_,rfl⟩;have:=((hle.trans d).own _ _ hy).own;rw[hf.2]at this;cases this
structure CU(I:AB)(L:AA Rw)(J:AB)(L':AA Rw):Prop where
 le:I.Cd J
 keep:∀x y,I.has x y->(∀r∈L,r.b≠x)->J.has x y
 rows:∀r∈L',(∃r0∈L,r0.b=r.b)\/∀y,¬I.has r.b y
def CU.of{I J L}(h:I.le J):CU I L J L:=⟨h.Cg,λx y b _=>h.own x y b,λr a=>.inl ⟨r,a,rfl⟩⟩
def CU.refl(I L):CU I L I L:=.of (AB.le_refl I)
def CU.trans{I J K L L' a}(h:CU I L J L')(k:CU J L' K a):CU I L K a where
 le:=h.le.trans k.le
 keep x y hx hne:=k.keep x y (h.keep x y hx hne) λr g e=>by rcases h.rows r g with⟨r0,h0,b⟩|c;exact hne r0 h0 (b.trans e);exact c y (by rw[e];exact hx)
 rows r g:=by rcases k.rows r g with⟨r0,h0,b⟩|c;rw[<-b];exact h.rows r0 h0;by_cases hex:∃r0∈L,r0.b=r.b;exact .inl hex;right;intro y i;exact c y (h.keep _ y i λr0 h0 e=>hex ⟨r0,h0,e⟩)
def DV(t:AJ)(a:CV):AA AE:=
 [.string (AR t.id),.string (AR t.path),.string (str t.g.cur.1),.string (str t.g.cur.2),.string (str t.g.Al.1),.string (str t.g.Al.2),
  .slice a.p.fa t.c.AF.length a.p.fc,.slice a.p.sa t.c.stack.length a.p.sc,.slice a.p.ta t.c.tries.length a.p.tc,.slice a.ca t.scopes.length a.cc,.int .i64 t.made,.int .i64 t.room,.int .i64 t.status,.string (AR t.on),
  .int .i64 t.v.kind,.int .i64 t.v.n,.string (AR t.v.name),.string (str t.v.l.1),.string (str t.v.l.2),.bool t.ex]
def AC6(t a):CG t a=(DV t a).map .v:=rfl
def OC(I:AB)(t:AJ)(l:AA AE):Prop:=∃a,l=DV t a/\Co I t a
def Uj(x:AV×Val):AA AE:=[.string (str x.1.1),.string (str x.1.2)]++Au x.2
def Ql(x:AV×Val)(l:AA AE):Prop:=l=Uj x
def QK(x:Gp):AA AE:=[.int .i64 x.op,.string (str x.H0.1),.string (str x.H0.2),.string (str x.to.1),.string (str x.to.2),.int .u8 x.AL.toNat]
def Rn(x:Gp)(l:AA AE):Prop:=l=QK x
def Md(I:AB)(x:Nm×AA Val)(l:AA AE):Prop:=∃a c b,l=[.string (AR x.1),.slice a x.2.length c]/\Aj I Ey 5 x.2 a c b
def AYW{I}(t l)(h:OC I t l):l.length=20:=by obtain⟨_,rfl,_⟩:=h;rfl
def AVB(t l)(h:Ql t l):l.length=7:=by rw[h];rfl
def AP0(t l)(h:Rn t l):l.length=6:=by rw[h];rfl
def AZz{I}(t l)(h:Md I t l):l.length=2:=by obtain⟨_,_,_,rfl,_⟩:=h;rfl
structure HG{a:Type}(I:AB)(R:a->AA AE->Prop)(size:Nat)(xs:AA a)(s:Aq):Prop where
 n:s.n=xs.length
 sl:∃cells,Aj I R size xs s.a s.c cells
def HG.A8{a:Type}{I J:AB}{R S:a->List Value->Prop}{size:Nat}{xs:List a}{s:Aq}(h:HG I R size xs s)(hle:I.Cd J)(b: ∀x l,R x l->S x l):HG J S size xs s:=⟨h.n,h.sl.imp λ_ q=>Aj.A8 hle q b⟩
theorem HG.nil{b:Type}{I R a}:HG I R a ([]:AA b) ⟨none,0,0⟩:=⟨rfl,[],Aj.empty⟩
structure FW{a:Type}(I:AB)(R:a->AA AE->Prop)(size:Nat)(xs:AA a)(s:Aq):Prop where
 ls:HG I R size xs s
 nil:xs=[]->s=⟨none,0,0⟩
def FW.A8{a:Type}{I J:AB}{R S:a->List Value->Prop}{size:Nat}{xs:List a}{s:Aq}(h:FW I R size xs s)(hle:I.Cd J)(b: ∀x l,R x l->S x l):FW J S size xs s:=⟨h.ls.A8 hle b,h.nil⟩
def FW.empty{b:Type}{I R a}:FW I R a ([]:AA b) ⟨none,0,0⟩:=⟨HG.nil,λ_=>rfl⟩
def FW.one{a:Type}{I:AB}{R:a->List Value->Prop}{size b cap:Nat}{x:a}{row AC:List Value}{e:TypeId}(c:I b=some (.cells (row++AC).toArray e (0,0)))(g:R x row)(hl:row.length=size)(h1: ∀v∈row,v.oneCell'=true)(hc:1<=cap)(hm:cap<=maxLen):FW I R size [x] ⟨some ⟨b,0,none⟩,1,cap⟩:=
 ⟨⟨rfl,row,Ch.NC c (by rw[hl];simp) h1,hc,hm,row,[],sP,g,rfl⟩,λh=>by cases h⟩
structure Env where
 im:Ak
 ip:CY
 now:Nat
 tries:Nat
 o:Lz.Op
 l:AA Val
 args:Aq
 AL:AH
structure CM where
 a:CV
 fork:Aq
 out:Aq
 log:Aq
 woken:Aq
 sm:Sm
 L:AA Rw
def KX(E:Env)(m:CM)(k:Lz.Call):Cl:={im:=E.im,ip:=E.ip,now:=E.now,t:=k.t,a:=m.a,tries:=E.tries,fork:=m.fork,out:=m.out,log:=m.log,woken:=m.woken,done:=k.e.done,o:=E.o,args:=E.args,AL:=E.AL}
abbrev A4(E:Env)(m:CM)(k:Lz.Call):AA (Nat×AG):=C3 (KX E m k) m.sm
structure BI(I:AB)(E:Env)(k:Lz.Call)(m:CM):Prop where
 tab:DK I
 pow:Pow I
 img:D3 I E.im E.ip
 args:HG I Ey 5 E.l E.args
 AD:Co I k.t m.a
 Bm:DJ I k.s m.sm.es m.sm.n
 Cq:EO I k.s m.L m.sm.ns m.sm.m
 fork:FW I (OC I) 20 k.e.fork m.fork
 out:FW I Ql 7 k.e.out m.out
 log:FW I Rn 6 k.e.log m.log
 woken:FW I (Md I) 2 k.e.woken m.woken
def AC9{I J}(hle:I.Cd J)(t l)(h:OC I t l):OC J t l:=by let⟨a,e,q⟩:=h;exact⟨a,e,Co.A8 hle q⟩
def Yd{I J}(hle:I.Cd J)(t l)(h:Md I t l):Md J t l:=by let⟨a,c,b,e,q⟩:=h;exact⟨a,c,b,e,Aj.A8 hle q λ_ _ h=>h⟩
def BI.move{I J E k k' m m'}(h:BI I E k m)(hle:I.Cd J)(he:k'.e.fork=k.e.fork/\k'.e.out=k.e.out/\k'.e.log=k.e.log/\k'.e.woken=k.e.woken)(hm:m'.fork=m.fork/\m'.out=m.out/\m'.log=m.log/\m'.woken=m.woken)(ht:Co J k'.t m'.a)(hs:DJ J k'.s m'.sm.es m'.sm.n)(a:EO J k'.s m'.L m'.sm.ns m'.sm.m):BI J E k' m' where
 tab:=DK.A8 hle h.tab
 pow:=Pow.A8 hle h.pow
 img:=D3.A8 hle h.img
 args:=h.args.A8 hle λ_ _ h=>h
 AD:=ht
 Bm:=hs
 Cq:=a
 fork:=by rw[he.1,hm.1];exact h.fork.A8 hle (AC9 hle)
 out:=by rw[he.2.1,hm.2.1];exact h.out.A8 hle λ_ _ h=>h
 log:=by rw[he.2.2.1,hm.2.2.1];exact h.log.A8 hle λ_ _ h=>h
 woken:=by rw[he.2.2.2,hm.2.2.2];exact h.woken.A8 hle (Yd hle)
def BI.Jv{I J E k m}(h:BI I E k m)(hle:I.le J){t a}(b:Co J t a):BI J E {k with t:=t} {m with a:=a}:=
 h.move hle.Cg ⟨rfl,rfl,rfl,rfl⟩ ⟨rfl,rfl,rfl,rfl⟩ b (h.Bm.up hle) (h.Cq.up hle)
def DU(I:AB)(L:AA Rw)(E:Env)(b:Lz.Call)(r:SV):Nat->AU->Prop:=λ_ h=>∃a J,h= {r:=r,upd:=A4 E a b,J:=J}/\CU I L J a.L/\BI J E b a
def HU{c s key nb}:∀e∈C3 c s,e.1∈[1,2,3,4]/\∀k∈e.2.keys,k∈[1,2,3,4]\/(Bf key nb k).isSome:=by intro e b;simp[C3,mS]at b;rcases b with rfl|rfl|rfl|rfl;refine⟨sP,λk a=> ?_⟩;simp[Cl.blk,Cl.row,De,CG,Aq.sv,AG.keys,Ax,SV.keys]at a;subst a;exact .inl sP;exact⟨sP,λk a=>by simp[AG.keys,Ax,SV.keys]at a;rcases a with rfl|rfl<;>exact .inl sP⟩;exact⟨sP,nA⟩;exact⟨sP,nA⟩
def EV{I L E l r c s}(i:r.keys=[]):E3 (DU I L E l r) (C3 c s) I:=by refine⟨?_⟩;rintro o h ⟨p,J,rfl,j,_⟩;exact⟨⟨(λk e=>by rw[i]at e;cases e),(λm a=>HU m a),nA,sP,by simp[C3]⟩,j.le⟩
def Fn.to{F j i I o k l}(h:Fn F j i I o l)(v:E3 k i I)(m:∀g x,o g x->k g x):Fn F j i I k l:=
 ⟨⟨v.out,λρ g w p r s t u=>(h.out.2 ρ g w p r s t u).mono λe y ⟨x,q,a,b,c⟩=>⟨x,q,m g x a,b,c⟩⟩,h.JF⟩
section
variable {F:FuncId} {d:Func} {n:Nat} {I:AB} {w:World} {ρ:Nat->Nat} {A:List Nat} {R:Dl} {f:BU}
def AFh{a e G E m k j L r}(h:Fn G a (A4 E m k) e (DU e L E j r) none)(_:r.keys=[])(c:Ci f n G [] (A4 E m k) [1,2,3,4]=some (Bz (AT []) a,(A4 E m k).map (λl=>some (l.2.Am (AT []))),e))(hnext:∀b J,CU e L J b.L->BI J E j b->At F d n I w ρ A R (f.out (AT []) {r:=r,upd:=A4 E b j,J:=J})):At F d n I w ρ A R f:=
 Ag h [] [1,2,3,4] c (λq h g l i=>by obtain⟨b,J,rfl,_⟩:=g;exact(HU (key:=0) (nb:=[]) l i).1) λh g=>by obtain⟨b,J,rfl,o,p⟩:=g;exact hnext b J o p
def Ip{a e G E m k j L}(h:Fn G a (A4 E m k) e (DU e L E j (.t [])) none)(c:Ci f n G [] (A4 E m k) [1,2,3,4]=some (Bz (AT []) a,(A4 E m k).map (λl=>some (l.2.Am (AT []))),e))(hnext:∀b J,CU e L J b.L->BI J E j b->At F d n I w ρ A R (f.out (AT []) {r:=.t [],upd:=A4 E b j,J:=J})):At F d n I w ρ A R f:=
 Ag h [] [1,2,3,4] c (λq h g l i=>by obtain⟨b,J,rfl,_⟩:=g;exact(HU (key:=0) (nb:=[]) l i).1) λh g=>by obtain⟨b,J,rfl,o,p⟩:=g;exact hnext b J o p
def P9{b j s G E m k e L t}{c:Int}{i:Nat}(h:Fn G b (A4 E m k) j (DU j L E e (.v undef)) (some (Fv c)))(p:CU s t j L)(g:Ci f n G [] (A4 E m k) [1,2,3,4]=some (Bz (AT []) b,(A4 E m k).map (λq=>some (q.2.Am (AT []))),j))
 (hend:∀a J,IF (f.σ.Dd none (Cw f) (({r:=.v undef,upd:=A4 E a e,J:=J}:AU).rn (AT []))) A=some (A4 E a e)/\Ew (Gy (A4 E a e)) A):At F d n I w ρ A (Ends I ρ i w (DU s t E e (.v undef)) (some (Fv c))) f:=
 JD h [] [1,2,3,4] g (λi h l q o=>by
  obtain⟨a,J,rfl,_⟩:=l;exact(HU (key:=0) (nb:=[]) q o).1) λh l=>by obtain⟨a,J,rfl,u,v⟩:=l;exact⟨A4 E a e,(hend a J).1,(hend a J).2,a,J,rfl,p.trans u,v⟩
end
section
variable {I:AB} {E:Env} {k:Lz.Call} {m:CM}
def Sf(h:BI I E k m)(v)(b:k.t.c.stack.length<=1000000):Fn 304 [.p 1 0,Cn v] (A4 E m k) I (DU I m.L E (k.push v) (.t [])) none:=by refine(AK6 I m.sm (KX E m k) v b h.AD.c).to (EV rfl) ?_;rintro d x ⟨q,J,rfl,hle,c⟩;exact⟨{m with a:={m.a with p:=q}},J,rfl,.of hle,h.Jv hle ⟨c,h.AD.s.up (hle) λ_ _ h=>h⟩⟩
def AW2(h:BI I E k m)(b:k.t.c.stack.length<=1000000):Fn 226 [.p 1 0] (A4 E m k) I (DU I m.L E (k.push (Cx k.t.g.cur)) (.t [])) none:=by refine(AW1 I m.sm (KX E m k) b h.AD.c).to (EV rfl) ?_;rintro d x ⟨q,J,rfl,hle,c⟩;exact⟨{m with a:={m.a with p:=q}},J,rfl,.of hle,h.Jv hle ⟨c,h.AD.s.up (hle) λ_ _ h=>h⟩⟩
def AWx(h:BI I E k m)(b:k.t.c.stack.length<=1000000):Fn 227 [.p 1 0] (A4 E m k) I (DU I m.L E (k.push (Cx k.t.g.Al)) (.t [])) none:=by refine(AWw I m.sm (KX E m k) b h.AD.c).to (EV rfl) ?_;rintro d x ⟨q,J,rfl,hle,c⟩;exact⟨{m with a:={m.a with p:=q}},J,rfl,.of hle,h.Jv hle ⟨c,h.AD.s.up (hle) λ_ _ h=>h⟩⟩
def BI.Bw(h:BI I E k m)(g):BI I E (k.Bw g) m:=h.move (λ_ _ h=>h) ⟨rfl,rfl,rfl,rfl⟩ ⟨rfl,rfl,rfl,rfl⟩ ⟨h.AD.c,h.AD.s⟩ h.Bm h.Cq
def ACv(h:BI I E k m)(l)(c:Kk k.t.g)(b:Bo l)(a:(EB k.t.g l).2=0):Fn 297 [.p 1 0,Cc l] (A4 E m k) I (DU I m.L E (k.Bw (EB k.t.g l).1) (.t [])) none:=by refine(AXh I m.sm (KX E m k) l c b a).to (EV rfl) ?_;rintro d x ⟨_,J,rfl,hle,_⟩;exact⟨m,J,rfl,.of hle,(h.Bw _).move hle.Cg ⟨rfl,rfl,rfl,rfl⟩ ⟨rfl,rfl,rfl,rfl⟩ (Co.up ⟨h.AD.c,h.AD.s⟩ hle) (h.Bm.up hle) (h.Cq.up hle)⟩
def ACw(h:BI I E k m)(l)(c:Kk k.t.g)(b:Bo l)(a:(EB k.t.g l).2≠0):Fn 297 [.p 1 0,Cc l] (A4 E m k) I (DU I m.L E k (.v undef)) (some (Fv (EB k.t.g l).2)):=by refine(AXi I m.sm (KX E m k) l c b a).to (EV rfl) ?_;rintro d x rfl;exact⟨m,I,rfl,.refl _ _,h⟩
def AFM(g l):P6 g l=if Cu g l=0 then(⟨Ap l,g.Al⟩,0)else(g,Cu g l):=by unfold P6 Cu;cases fl g.cur l<;>cases fl l g.Al<;>simp
def AKi(h:BI I E k m)(l)(e:Kk k.t.g)(d:Bo l)(c:Cu k.t.g l=0):Fn 307 [.p 1 0,Cc l] (A4 E m k) I (DU I m.L E (k.Bw ⟨Ap l,k.t.g.Al⟩) (.t [])) none:=by have b:=AFP I k.t.g l e d;rw[AFM,AW c]at b;exact Bh func307 (EV rfl) λg f w a=>gG<|call b kR<|gG<|call (SC I) kR<|gG<|dn [] ⟨m,I,rfl,.refl _ _,h.Bw _⟩
def AKj(h:BI I E k m)(l)(j:Kk k.t.g)(i:Bo l)(b:Cu k.t.g l≠0):Fn 307 [.p 1 0,Cc l] (A4 E m k) I (DU I m.L E k (.v undef)) (some (Fv (Cu k.t.g l))):=by
 have d:=AFP I k.t.g l j i;rw[AFM,AN b]at d;generalize Cu k.t.g l=e at d b;exact Bh func307 (EV rfl) λp n w f=>gG<|call d kR<|gG<|JD (XP I e b) [] [] kR (λ_ h c o a=>by rw[show h=_ from c]at a;cases a) λg c=>by rw[show g=_ from c];exact⟨A4 E m k,kR,kR,m,I,rfl,.refl _ _,h⟩
def AKz(h:BI I E k m)(g:BY k.t.path)(f:k.t.made<=1000000)(i:k.t.room<=1000000){t n}(b:FN k.t=some (t,n)):Fn 313 [.p 1 0] (A4 E m k) I (DU I m.L E {k with t:=t} (.v (.string (AR n)))) none:=by
 have c:=XV I h.pow k.t m.a g f i;have e:Hg k.t=(t,n,true):=by unfold Hg;rw[b]
 rw[e]at c;refine Bh func313 (EV rfl) λl j w a=>gG<|call c kR<|gG<|dn [] ⟨m,I,rfl,.refl _ _,?_⟩ (h:={r:=.v (.string (AR n)),upd:=A4 E m {k with t:=t},J:=I});have d:=(LR b).1;refine h.move (λ_ _ h=>h) ⟨rfl,rfl,rfl,rfl⟩ ⟨rfl,rfl,rfl,rfl⟩ ?_ h.Bm h.Cq;rw[d];exact⟨h.AD.c,h.AD.s⟩
def AK0(h:BI I E k m)(j:BY k.t.path)(g:k.t.made<=1000000)(l:k.t.room<=1000000)(i:FN k.t=none):Fn 313 [.p 1 0] (A4 E m k) I (DU I m.L E k (.v undef)) (some (Fv (-5))):=by
 have d:=XV I h.pow k.t m.a j g l;have e:Hg k.t=(k.t,[],false):=by unfold Hg;rw[i]
 rw[e]at d;exact Bh func313 (EV rfl) λp n w c=>gG<|call d kR<|gG<|JD (Rq I (-5)) [] [] kR (λ_ h b o a=>by rw[show h=_ from b]at a;cases a) λf b=>by rw[show f=_ from b];exact⟨A4 E m k,kR,kR,m,I,rfl,.refl _ _,h⟩
def U4(h:BI I E k m)(n):Fn 308 [.p 1 0,.v (.string (AR n))] (A4 E m k) I (DU I m.L E (FR k n) (.t [])) none:=Bh func308 (EV rfl) λc b w a=>gG<|dn [] ⟨m,I,rfl,.refl _ _,h.move (λ_ _ h=>h) ⟨rfl,rfl,rfl,rfl⟩ ⟨rfl,rfl,rfl,rfl⟩ ⟨h.AD.c,h.AD.s⟩ h.Bm h.Cq⟩
end
section
variable {I:AB} {E:Env} {k:Lz.Call} {m:CM}
def JS:AA (Nat×Nat):=[(1,2),(2,3),(3,4)]
def AKg(h:BI I E k m)(n o q)(f:Eg k.s n o)(g:Bo o.l)(l:o.var.q.length<=1000000)(F:EZ I o q)(G:k.s.length<=900000)(C:k.t.c.stack.length<=1000000):Fn 315 [.p 1 0,.v (.string (AR n)),.g (Dy o q)] (A4 E m k) I (DU I m.L E (Ni k n o) (.t [])) none:=by
 refine Bh func315 (EV rfl) λM p w r=>gG<|Ag (Vw I h.pow k.s m.sm.es m.sm.ns m.sm.n m.sm.m m.L n o q f g l F h.Bm h.Cq G) JS [1,2,3] kR (λp x e K b=>by obtain⟨a,c,u,t,L',J,_,_,_,_,_,rfl⟩:=e;simp[mS]at b⊢;rcases b with rfl|rfl|rfl<;>simp) λx e=> ?_
 obtain⟨a,c,u,t,L',J,hle,y,z,A,B,rfl⟩:=e;have D:BI J E {k with s:=C0 k.s n o} {m with sm:=⟨a,u,c,t⟩,L:=L'}:=h.move hle ⟨rfl,rfl,rfl,rfl⟩ ⟨rfl,rfl,rfl,rfl⟩ (Co.A8 hle h.AD) y z;have j:CU I m.L J L':=⟨hle,A,B⟩;exact gG<|Ip (Sf D (hand o.kind n o.l) C) kR λH v i d=>gG<|dn [] ⟨H,v,rfl,j.trans i,d⟩
structure Pu(k:Lz.Call)(o:Ob):Prop where
 g:Kk k.t.g
 l:Bo o.l
 path:BY k.t.path
 made:k.t.made<=1000000
 room:k.t.room<=1000000
 len:k.s.length<=900000
 MY:k.t.c.stack.length<=1000000
 kind:3<=o.kind/\o.kind<=7
 Ap:Ap o.l=o.l
 q:o.var.q=[]
 new:∀t n,FN k.t=some (t,n)->Ai k.s n=none
def AOh{p n}{i}(h:child p i=some n):BY n=true:=by unfold child at h;split at h;rename_i hc;cases h;simp only[Bt,D1]at hc;let⟨⟨h1,b⟩,h3⟩:=hc;unfold BY at h1⊢;simp only[Bt,D1,Df,Bc,NU,BA,AP]at h1⊢;refine⟨⟨oG,oG⟩,λx a=> ?_⟩;rcases a with a|a;exact h1.2 x a;rw[a];exact h3;cases h
def Pu.ok{o}(M:Pu k o){t n}(a:FN k.t=some (t,n)):Eg k.s n o:=by have b:=AOh (LR a).2.1;unfold Eg;rw[M.new t n a,b];simp[M.kind,M.Ap]
def AXN(h:BI I E k m)(o q)(l:EZ I o q)(M:Pu k o){t n}(j:Cu k.t.g o.l=0)(d:FN k.t=some (t,n)):Fn 300 [.p 1 0,.g (Dy o q)] (A4 E m k) I (DU I m.L E (Ni {k with t:=t} n o) (.t [])) none:=by have g:=OL I k.t.g o.l M.g M.l;rw[j]at g;refine Bh func300 (EV rfl) λx r w f=>gG<|call g kR<|gG<|call (SC I) kR<|gG<|AFh (AKz h M.path M.made M.room d) rfl kR λv u a b=>gG ?_;have p:=(LR d).1;refine Ip (AKg (k:={k with t:=t}) b n o q (M.ok d) M.l (by rw[M.q];simp) (EZ.A8 a.le l) M.len (by show t.c.stack.length<=_;rw[p];exact M.MY)) kR λs i e c=> ?_;exact gG<|dn [] ⟨s,i,rfl,a.trans e,c⟩
def AXO(h:BI I E k m)(o q)(M:Pu k o)(c:Cu k.t.g o.l≠0):Fn 300 [.p 1 0,.g (Dy o q)] (A4 E m k) I (DU I m.L E k (.v undef)) (some (Fv (Cu k.t.g o.l))):=by
 have f:=OL I k.t.g o.l M.g M.l;generalize Cu k.t.g o.l=e at f c;exact Bh func300 (EV rfl) λl i w d=>gG<|call f kR<|gG<|JD (XP I e c) [] [] kR (λ_ h b j a=>by rw[show h=_ from b]at a;cases a) λg b=>by rw[show g=_ from b];exact⟨A4 E m k,kR,kR,m,I,rfl,.refl _ _,h⟩
def AXP(h:BI I E k m)(o q)(M:Pu k o)(c:Cu k.t.g o.l=0)(d:FN k.t=none):Fn 300 [.p 1 0,.g (Dy o q)] (A4 E m k) I (DU I m.L E k (.v undef)) (some (Fv (-5))):=by have b:=OL I k.t.g o.l M.g M.l;rw[c]at b;exact Bh func300 (EV rfl) λg e w a=>gG<|call b kR<|gG<|call (SC I) kR<|gG<|P9 (AK0 h M.path M.made M.room d) (.refl _ _) kR λf J=>⟨kR,kR⟩
def NL(k:Lz.Call)(x:Val):Ob×Bool:=match IZ k x with|some o=>(o,true)|none=>(Cb,false)
def Zg(I:AB)(L:AA Rw)(E:Env)(k:Lz.Call)(r:Ob×Bool):Nat->AU->Prop:=λ_ h=>∃a q J,h= {r:=.t [.g (Dy r.1 q),.v (.bool r.2)],upd:=A4 E a k,J:=J}/\CU I L J a.L/\BI J E k a/\EZ J r.1 q
def AZr{L r c s}:E3 (Zg I L E k r) (C3 c s) I:=by refine⟨?_⟩;rintro i h ⟨j,q,J,rfl,f,_⟩;exact⟨⟨(λk e=>by simp[SV.keys,Ax,Dy]at e),(λg a=>HU g a),nA,sP,by simp[C3]⟩,f.le⟩
def AXm(h:BI I E k m)(x)(r:Bg x.name)(g:∀n o,Ai k.s n=some o->o.var.q.length<=1000000):Fn 306 [.p 1 0,Cn x] (A4 E m k) I (Zg I m.L E k (NL k x)) none:=by
 refine Bh func306 AZr λu i w p=>gG<|Ag (T9 I k.s m.sm.es m.sm.ns m.sm.n m.sm.m x.name r (λo s=>g _ o s) h.Bm) JS [1,2,3] kR (λi y f t b=>by obtain⟨q,J,rfl,_⟩:=f;simp[mS]at b⊢;rcases b with rfl|rfl|rfl<;>simp) λy f=> ?_
 obtain⟨q,J,rfl,hle,a⟩:=f;have d:BI J E k m:=h.move hle.Cg ⟨rfl,rfl,rfl,rfl⟩ ⟨rfl,rfl,rfl,rfl⟩ (h.AD.up hle) (h.Bm.up hle) (h.Cq.up hle);unfold NL IZ;unfold Ow at a⊢;cases j:Ai k.s x.name with
 |none=>
  rw[j]at a;simp only at a⊢;exact gG<|dn [] ⟨m,GI,J,rfl,.of hle,d,Lg⟩
 |some o=>
  rw[j]at a;simp only at a⊢;by_cases l:o.kind=x.kind;by_cases c:o.l=x.l;rw[AW ⟨l,c⟩];exact gg [(25,Ct (o.kind:Int) (x.kind:Int) oG),(32,Nt J 29 31 o.l x.l true (GL c))]<|dn [] ⟨m,q,J,rfl,.of hle,d,a⟩;rw[AN λe=>c e.2];exact gg [(25,Ct (o.kind:Int) (x.kind:Int) oG),(32,Nt J 29 31 o.l x.l false (IL c))]<|dn [] ⟨m,GI,J,rfl,.of hle,d,Lg⟩;rw[AN λe=>l e.1];exact gg [(25,FJ (o.kind:Int) (x.kind:Int) oG)]<|dn [] ⟨m,GI,J,rfl,.of hle,d,Lg⟩
end
def kI(n:Nat):AE:=.int .i64 (n:Int)
abbrev Ke(a:AA Nat):AG:=.Aa (a.map kI) 3
abbrev Jl(a:AA Nat):AG:=.cells ((a.map kI).map .v) 3
abbrev Bv(E:Env)(m:CM)(k:Lz.Call)(b:AG):AA (Nat×AG):=[(1,(KX E m k).blk),(2,Qu),(3,.obj (.map m.sm.es m.sm.n)),(4,.obj (.map m.sm.ns m.sm.m)),(5,b)]
def HJ(I:AB)(L:AA Rw)(E:Env)(c:Lz.Call)(b:AG)(r:SV):Nat->AU->Prop:=λ_ h=>∃a J,h= {r:=r,upd:=Bv E a c b,J:=J}/\CU I L J a.L/\BI J E c a
def QA{E m k b}(e:∀x∈b.keys,x∈[1,2,3,4,5]){key nb}:∀d∈Bv E m k b,d.1∈[1,2,3,4,5]/\∀k∈d.2.keys,k∈[1,2,3,4,5]\/(Bf key nb k).isSome:=by intro d c;simp[mS]at c;rcases c with rfl|rfl|rfl|rfl|rfl;refine⟨sP,λk a=> ?_⟩;simp[Cl.blk,Cl.row,De,CG,Aq.sv,AG.keys,Ax,SV.keys]at a;subst a;exact .inl sP;exact⟨sP,λk a=>by simp[AG.keys,Ax,SV.keys]at a;rcases a with rfl|rfl<;>exact .inl sP⟩;exact⟨sP,nA⟩;exact⟨sP,nA⟩;exact⟨sP,λk a=>.inl (e k a)⟩
def Mc{I L E k i m b e r}(f:r.keys=[])(a:∀x∈b.keys,x∈[1,2,3,4,5]):E3 (HJ I L E i b r) (Bv E m k e) I:=by refine⟨?_⟩;rintro l h ⟨n,J,rfl,g,_⟩;exact⟨⟨(λk d=>by rw[f]at d;cases d),(λj c=>QA a j c),nA,sP,sP⟩,g.le⟩
def AIW(b):∀x∈(Ke b).keys,x∈[1,2,3,4,5]:=λx a=>by cases a
def AIV(ks)(ρ):(Jl ks).den ρ=(Ke ks).den ρ:=by simp only[AG.den];rw[Fu]
def XI(b):(Jl b).keys=[]:=by
 have:∀l:AA AE,Ax (l.map SV.v)=[]:=λl=>by
  induction l with
  |nil=>rfl
  |cons x l a=>simp[Ax,SV.keys,a]
 exact this _
def Fn.AFI{F l I L E k C m b p r z}(h:Fn F l (Bv E m k b) I (HJ I L E C b r) z)(t:∀ρ,p.den ρ=b.den ρ)(hb:b.keys=[])(O:p.keys=[])(Y:r.keys=[]):Fn F l (Bv E m k p) I (HJ I L E C p r) z:=by
 refine⟨⟨(Mc Y λx K=>by rw[O]at K;cases K).out,λρ H w G hN T P D=> ?_⟩,h.JF⟩;have mem:∀g∈Bv E m k b,∃c∈Bv E m k p,c.1=g.1/\∀ρ,c.2.den ρ=g.2.den ρ:=λg a=>by simp[mS]at a;rcases a with rfl|rfl|rfl|rfl|rfl;exact⟨_,List.mem_cons_self,rfl,λ_=>rfl⟩;exact⟨(2,Qu),sP,rfl,λ_=>rfl⟩;exact⟨(3,.obj (.map m.sm.es m.sm.n)),sP,rfl,λ_=>rfl⟩;exact⟨(4,.obj (.map m.sm.ns m.sm.m)),sP,rfl,λ_=>rfl⟩;exact⟨(5,p),sP,rfl,t⟩
 refine(h.out.2 ρ H w G (λg a o v=> ?_) T (λg a=> ?_) (λx K y Q e=> ?_)).mono ?_;let⟨c,u,s,N⟩:=mem g a;rw[<-s];exact hN c u o (by rw[N];exact v);let⟨c,u,s,_⟩:=mem g a;rw[<-s];exact P c u;let⟨Z,u,s,_⟩:=mem x K;let⟨y',N,S,_⟩:=mem y Q;rw[<-s,<-S];exact D Z u y' N (by rw[s,S];exact e);rintro e w' ⟨x,q,⟨d,J,rfl,u,s⟩,A,V⟩;have M:∀R:AG,AU.Am {r:=r,upd:=Bv E d C R,J:=J} ρ H q=ρ:=λR=>by funext n;exact Ej (by unfold Bf;split<;>rfl)
 refine⟨{r:=r,upd:=Bv E d C p,J:=J},q,⟨d,J,rfl,u,s⟩,⟨A.os,A.tape,A.output,A.size,λy Q f U=>A.keep y Q (λg a=> ?_) U,?_,λj y X=>by simp at X,λi j W=>by simp at W,A.Gu,A.fresh,A.Gz⟩,?_⟩;simp[mS]at a;rcases a with rfl|rfl|rfl|rfl|rfl;exact f (1,(KX E d C).blk) sP;exact f (2,Qu) sP;exact f (3,.obj (.map d.sm.es d.sm.n)) sP;exact f (4,.obj (.map d.sm.ns d.sm.m)) sP;exact f (5,p) sP;have B:=A.upd;rw[M]at B⊢;intro g a o v;simp[mS]at a;rcases a with rfl|rfl|rfl|rfl|rfl;exact B (1,(KX E d C).blk) sP o v;exact B (2,Qu) sP o v;exact B (3,.obj (.map d.sm.es d.sm.n)) sP o v;exact B (4,.obj (.map d.sm.ns d.sm.m)) sP o v;exact B (5,b) sP o (by rw[<-t];exact v);rw[V];cases z with
 |some ch=>rfl
 |none=>simp only;rw[M,M]
section
variable {I:AB} {E:Env} {k:Lz.Call} {m:CM}
def R0(I:AB)(E:Env)(m:CM)(k:Lz.Call)(ks:AA Nat)(i:Nat):Hd where
 By:=[(0,.p 1 0),(6,.s 5 0 ks.length ks.length),(7,.v (.int .i64 (ks.length:Int))),(8,.v (.int .i64 (i:Int)))]
 Bu:=Bv E m k (Ke ks)
 J:=I
def AIX{b:AA Nat}{i a}(h:b[i]? =some a):(b.map kI)[0+i*1]? =some (kI a):=by rw[D5,RF,E0,h];rfl
def AXA(h:BI I E k m)(a:AA Nat)(hlen:a.length<=E.l.length)(H:a.length<=1000)(A:∀i kd,a[i]? =some kd->kd=0\/(E.l.getD i AO).kind=kd):Fn 296 [.p 1 0,.s 5 0 a.length a.length] (Bv E m k (Ke a)) I (HJ I m.L E k (Ke a) (.t [])) none:=by
 let⟨C,t,q⟩:=h.args;let⟨im,ip,now,tries,o,l,⟨z,L,r⟩,AL⟩:=E;simp only at hlen A C q;subst C;refine Bh func296 (Mc rfl (AIW a)) λO K w B=> ?_;refine gG<|loop (ι:=Nat) (λi=>i<=a.length) (λi=>a.length-i) (R0 I ⟨im,ip,now,tries,o,l,⟨z,l.length,r⟩,AL⟩ m k a) 300 [] 0 (BS _) kR kR ?_;rintro i N again T;by_cases f:i<a.length;have x:a[i]? =some a[i]:=A9 f;have n:=A i _ x;have u:=AIX x;generalize a[i]=kd at x n u;by_cases D:kd=0;exact gg [(9,hT ((i:Int)<(a.length:Int)) oG),(11,.hand _ [(6,SV.s 5 0 a.length a.length),(8,SV.v (.int .i64 (Int.ofNat i)))] [] I _ (Hb A6 (L:=lay) (t:=100) (a:=6) (b:=8) (k:=5) (off:=0) (n:=a.length) (c:=a.length) (i:=i) rfl rfl f)),(12,.hand _ [(11,SV.p 5 (0+i*1))] [(5,Ke a)] I _ (MM A6 (L:=lay) (t:=3) (a:=11) (k:=5) (off:=0+i*1) rfl rfl u)),(14,Ct (kd:Int) 0 oG),(28,hW ((i:Int)+1) ((i+1:Nat):Int) oG oG)]<|back [] (R0 I ⟨im,ip,now,tries,o,l,⟨z,l.length,r⟩,AL⟩ m k a (i+1)) 300 kR kR kR λs=>again (i+1) (by show i+1<=a.length;omega) oG s;have d:(l.getD i AO).kind=kd:=n.resolve_left D;have j:i<l.length:=oG;have v:l[i]? =some (l.getD i AO):=by rw[Cz,A9 j];rfl
 obtain⟨b,g,arr,e,M,y,rfl,F,G,_,J⟩:=q.cell G6 v;have p:y=Au (l.getD i AO):=G;have c:=J 0 (.int .i64 ((l.getD i AO).kind:Int)) (by rw[p];rfl);rw[d]at c;exact gg [(9,hT ((i:Int)<(a.length:Int)) oG),(11,.hand _ [(6,SV.s 5 0 a.length a.length),(8,SV.v (.int .i64 (Int.ofNat i)))] [] I _ (Hb A6 (L:=lay) (t:=100) (a:=6) (b:=8) (k:=5) (off:=0) (n:=a.length) (c:=a.length) (i:=i) rfl rfl f)),(12,.hand _ [(11,SV.p 5 (0+i*1))] [(5,Ke a)] I _ (MM A6 (L:=lay) (t:=3) (a:=11) (k:=5) (off:=0+i*1) rfl rfl u)),(14,FJ (kd:Int) 0 oG),(21,BM I E5 b g l.length r i j),(23,C9 I Dj rfl (g+i*5+0) (.int .i64 (kd:Int)) F c),(25,Ct (kd:Int) (kd:Int) rfl),(28,hW ((i:Int)+1) ((i+1:Nat):Int) oG oG)]<|back [] (R0 I ⟨im,ip,now,tries,o,l,⟨some ⟨b,g,none⟩,l.length,r⟩,AL⟩ m k a (i+1)) 300 kR kR kR λs=>again (i+1) (by show i+1<=a.length;omega) oG s;exact gg [(9,hF ((i:Int)<(a.length:Int)) oG)]<|dn [] ⟨m,I,rfl,.refl _ _,h⟩
def AXB(h:BI I E k m)(a:AA Nat)(hlen:a.length<=E.l.length)(V:a.length<=1000)(L:∃i kd,a[i]? =some kd/\kd≠0/\(E.l.getD i AO).kind≠kd):Fn 296 [.p 1 0,.s 5 0 a.length a.length] (Bv E m k (Ke a)) I (HJ I m.L E k (Ke a) (.v undef)) (some (Fv (-1))):=by
 let⟨N,B,x⟩:=h.args;let⟨im,ip,now,tries,o,l,⟨J,Z,r⟩,AL⟩:=E;simp only at hlen L N x;subst N;refine Bh func296 (Mc rfl (AIW a)) λρ X w M=> ?_;refine gG ?_;refine loop (ι:=Nat) (λi=>i<=a.length/\∃j kd,i<=j/\a[j]? =some kd/\kd≠0/\(l.getD j AO).kind≠kd) (λi=>a.length-i) (R0 I ⟨im,ip,now,tries,o,l,⟨J,l.length,r⟩,AL⟩ m k a) 300 [] 0 ⟨BS _,by let⟨i,kd,C,P⟩:=L;exact⟨i,kd,BS _,C,P⟩⟩ kR kR ?_;rintro i ⟨hi,j,Y,R,f,s,t⟩ again T;have S:=(B6.1 f).1;have g:i<a.length:=oG;have G:a[i]? =some a[i]:=A9 g;have z:=AIX G;generalize a[i]=kd at G z;have hnext:(kd=0\/(l.getD i AO).kind=kd)->i+1<=a.length/\∃j kd,i+1<=j/\a[j]? =some kd/\kd≠0/\(l.getD j AO).kind≠kd:=λq=>by refine⟨oG,j,Y,?_,f,s,t⟩;rcases Lp i j with y|y;exact y;have:i=j:=oG;subst this;rw[G]at f;cases f;rcases q with q|q;exact(s q).elim;exact(t q).elim
 by_cases O:kd=0;exact gg [(9,hT ((i:Int)<(a.length:Int)) oG),(11,.hand _ [(6,SV.s 5 0 a.length a.length),(8,SV.v (.int .i64 (Int.ofNat i)))] [] I _ (Hb A6 (L:=lay) (t:=100) (a:=6) (b:=8) (k:=5) (off:=0) (n:=a.length) (c:=a.length) (i:=i) rfl rfl g)),(12,.hand _ [(11,SV.p 5 (0+i*1))] [(5,Ke a)] I _ (MM A6 (L:=lay) (t:=3) (a:=11) (k:=5) (off:=0+i*1) rfl rfl z)),(14,Ct (kd:Int) 0 oG),(28,hW ((i:Int)+1) ((i+1:Nat):Int) oG oG)]<|back [] (R0 I ⟨im,ip,now,tries,o,l,⟨J,l.length,r⟩,AL⟩ m k a (i+1)) 300 kR kR kR λA=>again (i+1) (hnext (.inl O)) oG A;have n:i<l.length:=oG;have F:l[i]? =some (l.getD i AO):=by rw[Cz,A9 n];rfl
 obtain⟨b,d,arr,e,fr,H,rfl,K,Q,_,W⟩:=x.cell G6 F;have v:H=Au (l.getD i AO):=Q;have c:=W 0 (.int .i64 ((l.getD i AO).kind:Int)) (by rw[v];rfl);generalize U:(l.getD i AO).kind=p at c hnext;by_cases C:p=kd;subst C;exact gg [(9,hT ((i:Int)<(a.length:Int)) oG),(11,.hand _ [(6,SV.s 5 0 a.length a.length),(8,SV.v (.int .i64 (Int.ofNat i)))] [] I _ (Hb A6 (L:=lay) (t:=100) (a:=6) (b:=8) (k:=5) (off:=0) (n:=a.length) (c:=a.length) (i:=i) rfl rfl g)),(12,.hand _ [(11,SV.p 5 (0+i*1))] [(5,Ke a)] I _ (MM A6 (L:=lay) (t:=3) (a:=11) (k:=5) (off:=0+i*1) rfl rfl z)),(14,FJ (p:Int) 0 oG),(21,BM I E5 b d l.length r i n),(23,C9 I Dj rfl (d+i*5+0) (.int .i64 (p:Int)) K c),(25,Ct (p:Int) (p:Int) rfl),(28,hW ((i:Int)+1) ((i+1:Nat):Int) oG oG)]<|back [] (R0 I ⟨im,ip,now,tries,o,l,⟨some ⟨b,d,none⟩,l.length,r⟩,AL⟩ m k a (i+1)) 300 kR kR kR λA=>again (i+1) (hnext (.inr rfl)) oG A;exact gg [(9,hT ((i:Int)<(a.length:Int)) oG),(11,.hand _ [(6,SV.s 5 0 a.length a.length),(8,SV.v (.int .i64 (Int.ofNat i)))] [] I _ (Hb A6 (L:=lay) (t:=100) (a:=6) (b:=8) (k:=5) (off:=0) (n:=a.length) (c:=a.length) (i:=i) rfl rfl g)),(12,.hand _ [(11,SV.p 5 (0+i*1))] [(5,Ke a)] I _ (MM A6 (L:=lay) (t:=3) (a:=11) (k:=5) (off:=0+i*1) rfl rfl z)),(14,FJ (kd:Int) 0 oG),(21,BM I E5 b d l.length r i n),(23,C9 I Dj rfl (d+i*5+0) (.int .i64 (p:Int)) K c),(25,FJ (p:Int) (kd:Int) oG)]<|JD (Rq I (-1)) [] [] kR (λ_ h D kb u=>by rw[show h=_ from D]at u;cases u) λy D=>by
  rw[show y=_ from D];exact⟨Bv ⟨im,ip,now,tries,o,l,⟨some ⟨b,d,none⟩,l.length,r⟩,AL⟩ m k (Ke a),kR,kR,m,I,rfl,.refl _ _,h⟩
end
def HG.base{I l s}(h:HG I Ey 5 l s)(C:0<l.length):∃b g arr e r,s=⟨some ⟨b,g,none⟩,l.length,s.c⟩/\I b=some (.cells arr e r)/\∀i x,l[i]? =some x->∀j u,(Au x)[j]? =some u->arr[g+i*5+j]? =some u:=by let⟨y,o,q⟩:=h;let⟨b,g,arr,e,r,v,z,B⟩:=q.sl.open_ C;refine⟨b,g,arr,e,r,?_,z,λi x D j u p=> ?_⟩;let⟨a,n,c⟩:=s;simp only at v y⊢;rw[v,y];have t:=q.rows.get G6 D;have t:(o.drop (i*5)).take 5=Au x:=t;rw[<-t,GX]at p;split at p;rw[II]at p;rw[Mj];exact B _ u p;cases p
structure En(E:Env)(k:Lz.Call):Prop where
 g:Kk k.t.g
 len:Jd k.t.c
 path:BY k.t.path
 made:k.t.made<=1000000
 room:k.t.room<=1000000
 Uw:k.t.scopes.length<=900000
 Bm:k.s.length<=900000
 D8:∀n o,Ai k.s n=some o->Bo o.l/\o.var.q.length<=900000
 CC:∀v∈E.l,Bo v.l/\Bg v.name
 Ap:∀v∈E.l,Ap v.l=v.l
 new:∀t n,FN k.t=some (t,n)->Ai k.s n=none
 e:k.e=Ba
 now:E.now<=1000000
def rv:AK Int->SV
 |none=>.t []
 |some _=>.v undef
def px:AK Int->AK (AA PanicEntry)
 |none=>none
 |some c=>some (Fv c)
abbrev Ga(F:Ay)(I:AB)(E:Env)(m:CM)(k:Lz.Call)(r:CR):Prop:=Fn F [.p 1 0] (A4 E m k) I (DU I m.L E r.1 (rv r.2)) (px r.2)
section
variable {F:FuncId} {d:Func} {n:Nat} {I:AB} {w:World} {ρ:Nat->Nat} {A:List Nat} {R:Dl} {f:BU} {E:Env} {k:Lz.Call} {m:CM} {I':AB}
def ABg(a K)(h:BI I' E k m)(hlen:a.length<=E.l.length)(j:a.length<=1000)(t:∀i o,a[i]? =some o->o=0\/(E.l.getD i AO).kind=o)
 (c:Ci f n 296 [(5,K)] (Bv E m k (Jl a)) [1,2,3,4,5]=some (Bz (AT [(5,K)]) [.p 1 0,.s 5 0 a.length a.length],(Bv E m k (Jl a)).map (λl=>some (l.2.Am (AT [(5,K)]))),I'))
 (hnext:∀b J,CU I' m.L J b.L->BI J E k b->At F d n I w ρ A R (f.out (AT [(5,K)]) {r:=.t [],upd:=Bv E b k (Jl a),J:=J})):At F d n I w ρ A R f:=
 Ag ((AXA h a hlen j t).AFI (AIV a) rfl (XI a) rfl) [(5,K)] [1,2,3,4,5] c (λu h e l g=>by obtain⟨b,J,rfl,_⟩:=e;exact(QA (key:=0) (nb:=[]) (λx p=>by rw[XI]at p;cases p) l g).1) λh e=>by obtain⟨b,J,rfl,q,s⟩:=e;exact hnext b J q s
def AH0{s t e}(a K)(h:BI I' E k m)(o:CU s t I' m.L)(hlen:a.length<=E.l.length)(l:a.length<=1000)(z:∃i q,a[i]? =some q/\q≠0/\(E.l.getD i AO).kind≠q)
 (c:Ci f n 296 [(5,K)] (Bv E m k (Jl a)) [1,2,3,4,5]=some (Bz (AT [(5,K)]) [.p 1 0,.s 5 0 a.length a.length],(Bv E m k (Jl a)).map (λp=>some (p.2.Am (AT [(5,K)]))),I'))
 (hend:∀b J,IF (f.σ.Dd none (Cw f) (({r:=.v undef,upd:=Bv E b k (Jl a),J:=J}:AU).rn (AT [(5,K)]))) A=some (A4 E b k)/\Ew (Gy (A4 E b k)) A/\(f.σ.Dd none (Cw f) (({r:=.v undef,upd:=Bv E b k (Jl a),J:=J}:AU).rn (AT [(5,K)]))).im=J):At F d n I w ρ A (Ends I ρ e w (DU s t E k (.v undef)) (some (Fv (-1)))) f:=
 JD ((AXB h a hlen l z).AFI (AIV a) rfl (XI a) rfl) [(5,K)] [1,2,3,4,5] c (λe h g p j=>by
  obtain⟨b,J,rfl,_⟩:=g;exact(QA (key:=0) (nb:=[]) (λx u=>by rw[XI]at u;cases u) p j).1) λh g=>by obtain⟨b,J,rfl,v,y⟩:=g;exact⟨A4 E b k,(hend b J).1,(hend b J).2.1,b,J,by rw[(hend b J).2.2],o.trans v,y⟩
end
def ASj{l:AA Val}{a}(h:(l.getD 0 AO).kind=a):∀i kd,[a][i]? =some kd->kd=0\/(l.getD i AO).kind=kd:=by
 intro i kd b
 match i,b with
 |0,b=>cases b;exact .inr h
 |i+1,b=>simp at b
def kx{l:List Val}{ks:List Nat}(i kd:Nat)(h1:ks[i]? =some kd)(a:kd≠0)(b:(l.getD i AO).kind≠kd): ∃i kd,ks[i]? =some kd/\kd≠0/\(l.getD i AO).kind≠kd:=⟨i,kd,h1,a,b⟩
def getD_some{l:AA Val}{i}(h:i<l.length):l[i]? =some (l.getD i AO):=by rw[Cz,A9 h];rfl
def ABj{arr:Array Value}{o:Nat}{x:Val}(h: ∀j u,(Au x)[j]? =some u->arr[o+j]? =some u): ∀j v,[Value.string (str x.l.1),.string (str x.l.2)][j]? =some v->arr[o+3+j]? =some v:=by
 intro j v hj;rw[Nat.add_assoc];refine h (3+j) v ?_
 match j,hj with
 |0,hj=>exact hj
 |1,hj=>exact hj
 |j+2,hj=>simp at hj
section
variable {I:AB} {E:Env} {k:Lz.Call} {m:CM}
def AV3(h:BI I E k m)(P:En E k)(hl:E.l.length=1)(hc:E.o.code=27):Ga 228 I E m k (Br E.im E.now E.o E.AL E.l k):=by
 obtain⟨b,off,arr,e,fr,a,y,r⟩:=h.args.base oG;obtain⟨im,ip,now,tries,o,l,args,AL⟩:=E;simp only at hl hc a r h P;generalize args.c=ac at a;subst a;have v:=r 0 _ (getD_some oG);have p:=P.CC _ (List.mem_of_getElem? (getD_some (l:=l) (i:=0) oG));have j:=ASj (l:=l) (a:=2);have s:=kx (l:=l) (ks:=[2]) 0 2 rfl dC;have B:Br im now o AL l k=if(l.getD 0 AO).kind≠2 then(k,some (-1))else IC k (l.getD 0 AO).l λk=>(k,none):=by unfold Br;rw[hc];rfl
 rw[B];generalize l.getD 0 AO=x at v p j s;by_cases hk:x.kind=2
 .rw[if_neg (by simpa using hk)];unfold IC;by_cases h0:(EB k.t.g x.l).2=0
  .rw[if_neg (by simpa using h0)];refine Bh Tryz.func228 (EV rfl) λρ key w g=> ?_;refine gG<|ABg [2] 108 h (by simp[hl]) sP (j hk) kR λm1 q c i=> ?_;refine gg [(10,BM q E5 b off l.length ac 0 oG),(12,DR q SS (off+0*5+3) [.string (str x.l.1),.string (str x.l.2)] rfl (c.le _ _ y) (ABj v))]<|Ip (ACv i x.l P.g p.1 h0) kR λm2 z u t=> ?_;exact gG<|dn [] ⟨m2,z,rfl,c.trans u,t⟩
  .rw[if_pos h0];refine Bh Tryz.func228 (EV rfl) λρ key w g=> ?_;refine gG<|ABg [2] 108 h (by simp[hl]) sP (j hk) kR λm1 q c i=> ?_;exact gg [(10,BM q E5 b off l.length ac 0 oG),(12,DR q SS (off+0*5+3) [.string (str x.l.1),.string (str x.l.2)] rfl (c.le _ _ y) (ABj v))]<|P9 (ACw i x.l P.g p.1 h0) c kR λm' J=>⟨kR,kR⟩
 .rw[if_pos hk];refine Bh Tryz.func228 (EV rfl) λρ key w g=> ?_;exact gG<|AH0 [2] 108 h (.refl _ _) (by simp[hl]) sP (s hk) kR λm' J=>⟨kR,kR,kR⟩
end
abbrev CP:AG:=.cells [.p 1 0] 216
def Mq:∀x∈CP.keys,x∈[1,2,3,4,5]:=by intro x d;simp[AG.keys,Ax,SV.keys]at d;subst d;simp
section
variable {F:FuncId} {b:Func} {n:Nat} {I:AB} {w:World} {ρ:Nat->Nat} {A:List Nat} {R:Dl} {f:BU} {E:Env} {k k':Lz.Call} {m:CM} {I':AB}
def AFd{args G L}(g)(h:Fn G args (Bv E m k CP) I' (HJ I' L E k' CP (.t [])) none)(e:Ci f n G g (Bv E m k CP) [1,2,3,4,5]=some (Bz (AT g) args,(Bv E m k CP).map (λl=>some (l.2.Am (AT g))),I'))(hnext:∀d J,CU I' L J d.L->BI J E k' d->At F b n I w ρ A R (f.out (AT g) {r:=.t [],upd:=Bv E d k' CP,J:=J})):At F b n I w ρ A R f:=
 Ag h g [1,2,3,4,5] e (λkey h i l j=>by obtain⟨d,J,rfl,_⟩:=i;exact(QA (key:=0) (nb:=[]) Mq l j).1) λh i=>by obtain⟨d,J,rfl,o,p⟩:=i;exact hnext d J o p
def AOP{args G L c a}{e:Int}{key:Nat}(g)(h:Fn G args (Bv E m k CP) I' (HJ I' L E k' CP (.v undef)) (some (Fv e)))(o:CU a c I' L)(i:Ci f n G g (Bv E m k CP) [1,2,3,4,5]=some (Bz (AT g) args,(Bv E m k CP).map (λp=>some (p.2.Am (AT g))),I'))
 (hend:∀d J,IF (f.σ.Dd none (Cw f) (({r:=.v undef,upd:=Bv E d k' CP,J:=J}:AU).rn (AT g))) A=some (Bv E d k' CP)/\Ew (Gy (Bv E d k' CP)) A/\(f.σ.Dd none (Cw f) (({r:=.v undef,upd:=Bv E d k' CP,J:=J}:AU).rn (AT g))).im=J):At F b n I w ρ A (Ends I ρ key w (HJ a c E k' CP (.v undef)) (some (Fv e))) f:=
 JD h g [1,2,3,4,5] i (λkey h j p l=>by
  obtain⟨d,J,rfl,_⟩:=j;exact(QA (key:=0) (nb:=[]) Mq p l).1) λh j=>by obtain⟨d,J,rfl,s,t⟩:=j;exact⟨Bv E d k' CP,(hend d J).1,(hend d J).2.1,d,J,by rw[(hend d J).2.2],o.trans s,t⟩
def AOQ{args G L c a}{e:Int}{key:Nat}(g)(h:Fn G args (Bv E m k CP) I' (HJ I' L E k' CP (.v undef)) (some (Fv e)))(o:CU a c I' L)(i:Ci f n G g (Bv E m k CP) [1,2,3,4,5]=some (Bz (AT g) args,(Bv E m k CP).map (λp=>some (p.2.Am (AT g))),I'))
 (hend:∀d J,IF (f.σ.Dd none (Cw f) (({r:=.v undef,upd:=Bv E d k' CP,J:=J}:AU).rn (AT g))) A=some (A4 E d k')/\Ew (Gy (A4 E d k')) A/\(f.σ.Dd none (Cw f) (({r:=.v undef,upd:=Bv E d k' CP,J:=J}:AU).rn (AT g))).im=J):At F b n I w ρ A (Ends I ρ key w (DU a c E k' (.v undef)) (some (Fv e))) f:=
 JD h g [1,2,3,4,5] i (λkey h j p l=>by
  obtain⟨d,J,rfl,_⟩:=j;exact(QA (key:=0) (nb:=[]) Mq p l).1) λh j=>by obtain⟨d,J,rfl,s,t⟩:=j;exact⟨A4 E d k',(hend d J).1,(hend d J).2.1,d,J,by rw[(hend d J).2.2],o.trans s,t⟩
def AFi{args a G L c}{e:Int}{key:Nat}(h:Fn G args (A4 E m k) I' (DU I' L E k' (.v undef)) (some (Fv e)))(l:CU a c I' L)(g:Ci f n G [] (A4 E m k) [1,2,3,4]=some (Bz (AT []) args,(A4 E m k).map (λo=>some (o.2.Am (AT []))),I'))
 (hend:∀d J,IF (f.σ.Dd none (Cw f) (({r:=.v undef,upd:=A4 E d k',J:=J}:AU).rn (AT []))) A=some (Bv E d k' CP)/\Ew (Gy (Bv E d k' CP)) A):At F b n I w ρ A (Ends I ρ key w (HJ a c E k' CP (.v undef)) (some (Fv e))) f:=
 JD h [] [1,2,3,4] g (λkey h i o j=>by
  obtain⟨d,J,rfl,_⟩:=i;exact(HU (key:=0) (nb:=[]) o j).1) λh i=>by obtain⟨d,J,rfl,p,s⟩:=i;exact⟨Bv E d k' CP,(hend d J).1,(hend d J).2,d,J,rfl,l.trans p,s⟩
def AOZ{I' x}(h:Fn 306 [.p 1 0,Cn x] (A4 E m k) I' (Zg I' m.L E k (NL k x)) none)(e:Ci f n 306 [] (A4 E m k) [1,2,3,4]=some (Bz (AT []) [.p 1 0,Cn x],(A4 E m k).map (λj=>some (j.2.Am (AT []))),I'))(hnext:∀d q J,CU I' m.L J d.L->BI J E k d->EZ J (NL k x).1 q->At F b n I w ρ A R (f.out (AT []) {r:=.t [.g (Dy (NL k x).1 q),.v (.bool (NL k x).2)],upd:=A4 E d k,J:=J})):At F b n I w ρ A R f:=
 Ag h [] [1,2,3,4] e (λkey h g j i=>by obtain⟨d,q,J,rfl,_⟩:=g;exact(HU (key:=0) (nb:=[]) j i).1) λh g=>by obtain⟨d,q,J,rfl,l,o,p⟩:=g;exact hnext d q J l o p
end
def AYP{k x}(h:IZ k x=none):NL k x=(Cb,false):=by unfold NL;rw[h]
def AYQ{k x o}(h:IZ k x=some o):NL k x=(o,true):=by unfold NL;rw[h]
section
variable {F:FuncId} {b:Func} {n:Nat} {I a I':AB} {w:World} {ρ:Nat->Nat} {A:List Nat} {f:BU} {E:Env} {k:Lz.Call} {m:CM} {c:List Rw} {key:Nat} {args:List SV} {G:FuncId} {q:CR}
def fO(j:CU a c I' m.L)(h:Fn G args (A4 E m k) I' (DU I' m.L E q.1 (rv q.2)) (px q.2))
 (s:Ci f n G [] (A4 E m k) [1,2,3,4]=some (Bz (AT []) args,(A4 E m k).map (λu=>some (u.2.Am (AT []))),I'):=by kernel_rfl)
 (c1:∀(d:CM)(e:AB)(g:Lz.Call),(CS prog lay [] n A 1000 (f.out (AT []) {r:=.t [],upd:=A4 E d g,J:=e})).cl=(CS prog lay [] n A 1000 (f.out (AT []) {r:=.t [],upd:=A4 E d g,J:=e})).ac:=by intro _ _ _;kernel_rfl)
 (c2:∀(d:CM)(e:AB)(g:Lz.Call),I3 lay b.results.toList A [] key (CS prog lay [] n A 1000 (f.out (AT []) {r:=.t [],upd:=A4 E d g,J:=e})).f=some {r:=.t [],upd:=A4 E d g,J:=e}:=by intro _ _ _;kernel_rfl)
 (t:∀(d:CM)(e:AB)(g:Lz.Call),IF (f.σ.Dd none (Cw f) (({r:=.v undef,upd:=A4 E d g,J:=e}:AU).rn (AT []))) A=some (A4 E d g)/\Ew (Gy (A4 E d g)) A:=by intro _ _ _;exact⟨kR,kR⟩)
 (i:100<=key:=by assumption):At F b n I w ρ A (Ends I ρ key w (DU a c E q.1 (rv q.2)) (px q.2)) f:=by
 obtain⟨k',_|p⟩:=q;exact Ip h s λd e o l=>gG (dn [] ⟨d,e,rfl,j.trans o,l⟩ (c2 d e k') i) (c1 d e k');exact P9 h j s λd e=>t d e k'
def fBB(l:CU a c I' m.L)(i)(h:Fn G args (Bv E m k CP) I' (HJ I' m.L E q.1 CP (rv q.2)) (px q.2))
 (t:Ci f n G i (Bv E m k CP) [1,2,3,4,5]=some (Bz (AT i) args,(Bv E m k CP).map (λv=>some (v.2.Am (AT i))),I'):=by kernel_rfl)
 (c1:∀(d:CM)(e:AB)(g:Lz.Call),(CS prog lay [] n A 1000 (f.out (AT i) {r:=.t [],upd:=Bv E d g CP,J:=e})).cl=(CS prog lay [] n A 1000 (f.out (AT i) {r:=.t [],upd:=Bv E d g CP,J:=e})).ac:=by intro _ _ _;kernel_rfl)
 (c2:∀(d:CM)(e:AB)(g:Lz.Call),I3 lay b.results.toList A [] key (CS prog lay [] n A 1000 (f.out (AT i) {r:=.t [],upd:=Bv E d g CP,J:=e})).f=some {r:=.t [],upd:=Bv E d g CP,J:=e}:=by intro _ _ _;kernel_rfl)
 (u:∀(d:CM)(e:AB)(g:Lz.Call),IF (f.σ.Dd none (Cw f) (({r:=.v undef,upd:=Bv E d g CP,J:=e}:AU).rn (AT i))) A=some (Bv E d g CP)/\Ew (Gy (Bv E d g CP)) A/\(f.σ.Dd none (Cw f) (({r:=.v undef,upd:=Bv E d g CP,J:=e}:AU).rn (AT i))).im=e:=by intro _ _ _;exact⟨kR,kR,kR⟩)
 (j:100<=key:=by assumption):At F b n I w ρ A (Ends I ρ key w (HJ a c E q.1 CP (rv q.2)) (px q.2)) f:=by
 obtain⟨k',_|s⟩:=q;exact AFd i h t λd e p o=>gG (dn [] ⟨d,e,rfl,l.trans p,o⟩ (c2 d e k') j) (c1 d e k');exact AOP i h l t λd e=>u d e k'
def cg{R r}(h:Fn G args [] I' (A1 r I') none)(d)(g:At F b n I w ρ A R (CS prog lay d n A 1000 (f.out (AT []) {r:=r,J:=I'})).f)
 (i:Ci f n G [] [] []=some (Bz (AT []) args,[],I'):=by kernel_rfl) (e:(CS prog lay d n A 1000 (f.out (AT []) {r:=r,J:=I'})).cl=(CS prog lay d n A 1000 (f.out (AT []) {r:=r,J:=I'})).ac:=by kernel_rfl):At F b n I w ρ A R f:=
 call h i (gg d g e)
def Tr{R x}(s t:∀J,a.Cd J->F1 prog)(l:CU a c I' m.L)(z:BI I' E k m)(D:Bg x.name)(C:∀n o,Ai k.s n=some o->o.var.q.length<=1000000)
 (v:IZ k x=none->∀e q d (g:CU a c d e.L),BI d E k e->At F b n I w ρ A R (CS prog lay (s d g.le) n A 1000 (f.out (AT []) {r:=.t [.g (Dy Cb q),.v (.bool false)],upd:=A4 E e k,J:=d})).f)
 (y:∀h,IZ k x=some h->∀e q d (g:CU a c d e.L),BI d E k e->EZ d h q->At F b n I w ρ A R (CS prog lay (t d g.le) n A 1000 (f.out (AT []) {r:=.t [.g (Dy h q),.v (.bool true)],upd:=A4 E e k,J:=d})).f)
 (B:Ci f n 306 [] (A4 E m k) [1,2,3,4]=some (Bz (AT []) [.p 1 0,Cn x],(A4 E m k).map (λH=>some (H.2.Am (AT []))),I'):=by kernel_rfl)
 (u:∀e q d g,(CS prog lay (s d g) n A 1000 (f.out (AT []) {r:=.t [.g (Dy Cb q),.v (.bool false)],upd:=A4 E e k,J:=d})).cl=(CS prog lay (s d g) n A 1000 (f.out (AT []) {r:=.t [.g (Dy Cb q),.v (.bool false)],upd:=A4 E e k,J:=d})).ac:=by intro _ _ _ _;kernel_rfl)
 (c1:∀h e q d g,(CS prog lay (t d g) n A 1000 (f.out (AT []) {r:=.t [.g (Dy h q),.v (.bool true)],upd:=A4 E e k,J:=d})).cl=(CS prog lay (t d g) n A 1000 (f.out (AT []) {r:=.t [.g (Dy h q),.v (.bool true)],upd:=A4 E e k,J:=d})).ac:=by intro _ _ _ _ _;kernel_rfl):At F b n I w ρ A R f:=
 AOZ (AXm z x D C) B λe q d g i j=>by
  cases p:IZ k x with
  |none=>rw[AYP p];exact gg _ (v p e q d (l.trans g) i) (u e q d _)
  |some h=>rw[AYQ p]at j⊢;exact gg _ (y h p e q d (l.trans g) i j) (c1 h e q d _)
end
section
variable {I:AB} {E:Env} {k:Lz.Call} {m:CM}
def AK8(h:BI I E k m)(o q)(r:k.t.c.stack.length<=1000000):Fn 302 [.p 1 0,.g (Dy o q)] (A4 E m k) I (DU I m.L E (FP k o).1 (rv (FP k o).2)) (px (FP k o).2):=by
 unfold FP;cases hex:o.ex with
 |true=>
  rw[AW rfl];exact Bh func302 (EV rfl) λρ key w e=>gg [(5,.eq (Value.bool o.ex) (.bool true) (by rw[hex]))]<|JD (Rq I o.v.n) [] [] kR (λ_ h i t d=>by rw[show h=_ from i]at d;cases d) λp i=>by rw[show p=_ from i];exact⟨A4 E m k,kR,kR,m,I,rfl,.refl _ _,h⟩
 |false=>
  rw[AN sP];exact Bh func302 (EV rfl) λρ key w e=>gg [(5,.eq (Value.bool o.ex) (.bool false) (by rw[hex]))]<|Ip (Sf h o.v r) kR λs l j g=>gG<|dn [] ⟨s,l,rfl,j,g⟩
def AXe(h:BI I E k m)(o q)(j:k.t.c.stack.length<=1000000):Fn 303 [.g (Dy o q),.p 5 0] (Bv E m k CP) I (HJ I m.L E (k.push o.v) CP (.t [])) none:=Bh func303 (Mc rfl Mq) λρ key w g=>gG<|Ip (Sf h o.v j) kR λl i e d=>gG<|dn [] ⟨l,i,rfl,e,d⟩
end
structure ZJ(k:Lz.Call)(x:Val):Prop where
 g:Kk k.t.g
 l:Bo x.l
 n:Bg x.name
 q:∀n o,Ai k.s n=some o->o.var.q.length<=1000000
 MY:k.t.c.stack.length<=1000000
def ALG{k l f}(h:(EB k.t.g l).2=0):IC k l f=f (k.Bw (EB k.t.g l).1):=by unfold IC;rw[AN (by simpa using h)]
def ALF{k l f}(h:(EB k.t.g l).2≠0):IC k l f=(k,some (EB k.t.g l).2):=by unfold IC;rw[AW h]
section
variable {I:AB} {E:Env} {k:Lz.Call} {m:CM}
def AXf(h:BI I E k m)(x)(P:ZJ k x)
 (i:∀I k m o q,BI I E k m->EZ I o q->k.t.c.stack.length<=1000000->Fn 302 [.p 1 0,.g (Dy o q)] (A4 E m k) I (DU I m.L E (FP k o).1 (rv (FP k o).2)) (px (FP k o).2)):
 Fn 301 [.p 1 0,Cn x,.fn (.func 302) [.p 1 0] []] (A4 E m k) I (DU I m.L E (Fy k x FP).1 (rv (Fy k x FP).2)) (px (Fy k x FP).2):=by
 refine Bh func301 (EV (by cases(Fy k x FP).2<;>rfl)) λρ key w s=>gG ?_;unfold Fy;by_cases d:(EB k.t.g x.l).2=0;rw[ALG d];exact Ip (ACv h x.l P.g P.l d) kR λB y l g=>gG (Tr (λ_ _=>[]) (λ_ _=>[]) l g P.n P.q (λp t q r j e=>by rw[p];exact fO (q:=(_,none)) j (Sf e (whole 0) P.MY)) λv p t q r j e u=>by rw[p];exact fO j (i r _ t v q e u P.MY));rw[ALF d];exact P9 (ACw h x.l P.g P.l d) (.refl _ _) kR λz J=>⟨kR,kR⟩
def ACu{G}(B:G=303\/G=316\/G=321)(h:BI I E k m)(x)(P:ZJ k x)(g)
 (l:∀I k m o q,BI I E k m->EZ I o q->k.t.c.stack.length<=1000000->Fn G [.g (Dy o q),.p 5 0] (Bv E m k CP) I (HJ I m.L E (g k o).1 CP (rv (g k o).2)) (px (g k o).2)):
 Fn 301 [.p 1 0,Cn x,.fn (.func G) [] [.p 5 0]] (Bv E m k CP) I (HJ I m.L E (Fy k x g).1 CP (rv (Fy k x g).2)) (px (Fy k x g).2):=by
 rcases B with rfl|rfl|rfl<;>
 .refine Bh func301 (Mc (by cases(Fy k x g).2<;>rfl) Mq) λρ key w v=>gG ?_;unfold Fy;by_cases d:(EB k.t.g x.l).2=0;rw[ALG d];exact Ip (ACv h x.l P.g P.l d) kR λM K r i=>gG (Tr (λ_ _=>[]) (λ_ _=>[]) r i P.n P.q (λt y q u p e=>by rw[t];exact Ip (Sf e (whole 0) P.MY) kR λD z s j=>gG (dn [] ⟨D,z,rfl,p.trans s,j⟩)) λH t y q u p e C=>by rw[t];exact fBB p [] (l u _ y H q e C P.MY));rw[ALF d];exact AFi (ACw h x.l P.g P.l d) (.refl _ _) kR λL J=>⟨kR,kR⟩
end
section
variable {I:AB} {E:Env} {k:Lz.Call} {m:CM}
def X9(h:BI I E k m)(o q)(c:EZ I o q)(M:Pu k o):Fn 300 [.p 1 0,.g (Dy o q)] (A4 E m k) I (DU I m.L E (GU k o).1 (rv (GU k o).2)) (px (GU k o).2):=by
 unfold GU;by_cases a:Cu k.t.g o.l=0;rw[AN (by simpa using a)];cases b:FN k.t with
 |none=>exact AXP h o q M a b
 |some p=>exact AXN h o q c M a b
 rw[AW a];exact AXO h o q M a
def AMM{v c s}:E3 (λ_ h=>h= {r:=.v v,upd:=C3 c s,J:=I}) (C3 c s) I:=by refine⟨?_⟩;rintro g h rfl;exact⟨⟨nA,(λf a=>HU f a),nA,sP,by simp[C3]⟩,AB.Fa _⟩
def AC0(h:BI I E k m)(i:Nat)(s:E.im.Ad.length<=1000000):Fn 314 [.p 1 0,.v (.int .i64 (i:Int))] (A4 E m k) I (A1 (.v (.int .i64 (varsOf E.im i:Nat))) I) none:=by
 refine Fn.same (need:=A4 E m k) ?_ rfl;have j:=h.img.u;let⟨im,⟨C,D,F,G,t,H⟩,now,tries,o,l,args,AL⟩:=E;simp only at j s⊢;unfold varsOf;cases d:im.Ad[i]? with
 |some f=>
  have b:=(B6.1 d).1;obtain⟨n,a,g,z,p,v,x,y,rfl,q,A,B,r⟩:=My j d;exact Bh func314 (AMM) λu e w c=>gg [(6,hF ((i:Int)<0) oG),(15,hF ((i:Int)≥(im.Ad.length:Int)) oG),(23,BM I LI n a im.Ad.length t i b),(25,C9 I Dj rfl (a+i*3+1) _ q (r 1 _ rfl))]<|dn [] rfl
 |none=>
  have b:=List.getElem?_eq_none_iff.1 d;exact Bh func314 (AMM) λu e w c=>gg [(6,hF ((i:Int)<0) oG),(15,hT ((i:Int)≥(im.Ad.length:Int)) oG)]<|dn [] rfl
def Sr(n:Nm)(k:Lz.Call)(a:Ob):CR:=if a.done then FP k a else(FR k n,none)
def AXy(h:BI I E k m)(o q)(H:k.t.c.stack.length<=1000000)(x)(r:E.l[0]? =some x):Fn 316 [.g (Dy o q),.p 5 0] (Bv E m k CP) I (HJ I m.L E (Sr x.name k o).1 CP (rv (Sr x.name k o).2)) (px (Sr x.name k o).2):=by
 let⟨b,p,arr,e,L,a,G,i⟩:=h.args.base (VR (Cv r));let⟨M,N,K,A,Q,l,g,C⟩:=E;simp only at r a i h;generalize g.c=F at a;subst a;have u:=(B6.1 r).1;have v:=i 0 _ r 2 (.string (AR x.name)) rfl;unfold Sr;cases t:o.done with
 |true=>
  rw[AW rfl];have j:=AK8 h o q H;generalize FP k o=z at j⊢;obtain⟨O,_|B⟩:=z;simp[rv,px]at j⊢;exact Bh func316 (Mc rfl Mq) λD n w c=>gg [(4,.eq (Value.bool o.done) (.bool true) (by rw[t]))]<|Ip j kR λy s f d=>gG<|dn [] ⟨y,s,rfl,f,d⟩;simp[rv,px]at j⊢;exact Bh func316 (Mc rfl Mq) λD n w c=>gg [(4,.eq (Value.bool o.done) (.bool true) (by rw[t]))]<|AFi j (.refl _ _) kR λP J=>⟨kR,kR⟩
 |false=>
  rw[AN sP];exact Bh func316 (Mc rfl Mq) λD n w c=>gg [(4,.eq (Value.bool o.done) (.bool false) (by rw[t])),(13,BM I E5 b p l.length F 0 u),(15,C9 I Cm rfl (p+0*5+2) (.string (AR x.name)) G v)]<|Ip (U4 h x.name) kR λy s f d=>gG<|dn [] ⟨y,s,rfl,f,d⟩
def Ro(b:Ak)(x:Val)(k:Lz.Call)(a:Ob):CR:=match F5 k.t.c a.fn (varsOf b a.fn) [x] a.AL with
 |some c=>({k with t:={k.t with c:=c}},none)
 |none=>(k,some (-6))
def HG.one{I l s}(h:HG I Ey 5 l s){x}(d:l[0]? =some x):∃al,Aj I Ey 5 [x] s.a s.c al:=by
 let⟨f,b,a⟩:=h;have c:=(B6.1 d).1;have e:l.take 1=[x]:=by
  cases l with
  |nil=>cases d
  |cons y l=>simp at d;subst d;rfl
 refine⟨b.take (1*5),?_,CB c a.cap,a.max,?_⟩;exact a.sl.take c;have:=a.rows.take G6 1;rw[e]at this;exact this
def AW3(h:BI I E k m)(o q)(L:k.t.c.stack.length<=1000000)(r:E.im.Ad.length<=1000000)(x)(t:E.l[0]? =some x):Fn 321 [.g (Dy o q),.p 5 0] (Bv E m k CP) I (HJ I m.L E (Ro E.im x k o).1 CP (rv (Ro E.im x k o).2)) (px (Ro E.im x k o).2):=by
 let⟨b,i,arr,e,S,d,T,y⟩:=h.args.base (VR (Cv t));let⟨F,U,O,C,V,l,n,H⟩:=E;simp only at t d y h r⊢;let⟨Q,R,ac⟩:=n;simp only at d;cases d;have M:=(B6.1 t).1;have D:l.length<=ac:=by let⟨_,u,A⟩:=h.args;exact A.cap
 have j:=AC0 h o.fn r;simp only at j;unfold Ro F5;by_cases z:16<=k.t.c.AF.length;rw[AW z];simp[rv,px];refine Bh func321 (Mc rfl Mq) λP B w s=>gg [(21,.op I _ _ (Uz (t:=29) (e:=51) (a:=some ⟨b,i,none⟩) (n:=l.length) (c:=ac) (m:=1) Lf (O5.choose_spec.1) oG))]<|Ag j [] [] kR (λ_ g f G c=>by rw[show g=_ from f]at c;cases c) λg f=> ?_;rw[show g=_ from f];exact gG<|call (AGa I k.t.c m.a.p o.fn (varsOf F o.fn) (some ⟨b,i,none⟩) 1 ac o.AL z) kR<|gG<|JD (Rq I (-6)) [] [] kR (λ_ h f G c=>by rw[show h=_ from f]at c;cases c) λg f=>by rw[show g=_ from f];exact⟨Bv _ m k CP,kR,kR,m,I,rfl,.refl _ _,h⟩
 rw[AN z];simp[rv,px];let⟨K,v⟩:=HG.one h.args t;refine Bh func321 (Mc rfl Mq) λP B w s=>gg [(21,.op I _ _ (Uz (t:=29) (e:=51) (a:=some ⟨b,i,none⟩) (n:=l.length) (c:=ac) (m:=1) Lf (O5.choose_spec.1) oG))]<|Ag j [] [] kR (λ_ g f G c=>by rw[show g=_ from f]at c;cases c) λg f=> ?_;rw[show g=_ from f];exact gG<|CK (AAq I k.t.c m.a.p o.fn (varsOf F o.fn) [x] ⟨b,i,none⟩ ac K o.AL h.AD.c v oG sP L) kR λp J hle N=>gG<|dn [] ⟨{m with a:={m.a with p:=p}},J,rfl,.of hle,h.Jv hle ⟨N,h.AD.s.up hle λ_ _ h=>h⟩⟩
end
structure RI(J:AB)(l:AA Val)(b off:Nat):Prop where
 out:∃arr e fr,J b=some (.cells arr e fr)/\∀i x,l[i]? =some x->∀j u,(Au x)[j]? =some u->arr[off+i*5+j]? =some u
section
variable {J K:AB} {l:List Val} {b off:Nat} (A:RI J l b off) (d i:Nat) (B:i<l.length) (s:Nat)
def RI.up(A:RI J l b off)(h:J.Cd K):RI K l b off:=let⟨x,e,f,p,q⟩:=A.out;⟨x,e,f,h _ _ p,q⟩
include A B in
def ldA:∀w,Db w J->∃a,(Instr.loadAt 51 (.pointer (some ⟨b,off+i*5,none⟩))).run prog w=.ok (den id (Cn (l.getD i AO))) a/\BB w a:=by let⟨x,e,f,p,q⟩:=A.out;exact XE (o:=off+i*5) MX (Au _) rfl p (q i _ (getD_some B))
include A B in
def ldL:∀w,Db w J->∃a,(Instr.loadAt 42 (.pointer (some ⟨b,off+i*5+3,none⟩))).run prog w=.ok (den id (Cc (l.getD i AO).l)) a/\BB w a:=by let⟨x,e,f,p,q⟩:=A.out;exact XE (o:=off+i*5+3) SS [.string (str _),.string (str _)] rfl p (ABj (q i _ (getD_some B)))
def Kd:F1 prog:=[(s,BM J E5 b off l.length d i B),(s+1,.op J _ _ (ldA A i B))]
def M0:F1 prog:=[(s,BM J E5 b off l.length d i B),(s+2,.op J _ _ (ldL A i B))]
end
def bad(l:AA Val)(c:AA Nat)(j:Nat):Prop:=∃i a,c[i]? =some a/\a≠0/\(l.getD (j+i) AO).kind≠a
def ANl{l j}:bad l [] j↔False:=⟨λ⟨_,_,h,_⟩=>(by cases h),False.elim⟩
def ANk{l a j r}:bad l (a::r) j↔(a≠0/\(l.getD j AO).kind≠a)\/bad l r (j+1):=by constructor;rintro⟨_|i,o,c,e,p⟩;cases c;exact .inl ⟨e,p⟩;exact .inr ⟨i,o,c,e,by rwa [show j+1+i=j+(i+1) by omega]⟩;rintro(⟨h,k⟩|⟨i,o,c,e,p⟩);exact⟨0,a,rfl,h,k⟩;exact⟨i+1,o,c,e,by rwa [show j+(i+1)=j+1+i by omega]⟩
abbrev G0(E:Env)(b off d:Nat):Env:={E with args:=⟨some ⟨b,off,none⟩,E.l.length,d⟩}
abbrev MP:AA Nat:=[1,2,3,4]
section
variable {F:FuncId} {g:Func} {I:AB} {E:Env} {k:Lz.Call} {m:CM}
def En.make(P:En E k){o}(i)(B:i<E.l.length)(c:o.l=(E.l.getD i AO).l)(e:3<=o.kind/\o.kind<=7)(h:o.var.q=[]):Pu k o:=
 have a:=Cv (getD_some B)
 ⟨P.g,c▸(P.CC _ a).1,P.path,P.made,P.room,P.Bm,CB P.len.s dC,e,by rw[c];exact P.Ap _ a,h,P.new⟩
def En.ol(P:En E k)(i)(B:i<E.l.length):Bo (E.l.getD i AO).l:=(P.CC _ (Cv (getD_some B))).1
def En.read(P:En E k)(i)(B:i<E.l.length):ZJ k (E.l.getD i AO):=
 have a:=P.CC _ (Cv (getD_some B))
 ⟨P.g,a.1,a.2,λn o c=>CB (P.D8 n o c).2 dC,CB P.len.s dC⟩
def IW(X:prog.funcs[F]? =some g)(j K)(h:BI I E k m)(R:0<E.l.length/\j.length<=E.l.length){c:Prop}[Decidable c]{q r}(e:q=if c then(k,some (-1))else r)
 (hr:∀b off d N v,CU I m.L v N.L->BI v (G0 E b off d) k N->RI I E.l b off->¬c->∀ρ key w,100<=key->At F g g.ntmps I w ρ MP (Ends I ρ key w (DU I m.L (G0 E b off d) r.1 (rv r.2)) (px r.2)) ((CS prog lay [] g.ntmps (MP) 1000 (init [.p 1 0] (A4 (G0 E b off d) m k) I (Io g))).f.out (AT [(5,K)]) {r:=.t [],upd:=Bv (G0 E b off d) N k (Jl j),J:=v}))
 (T:bad E.l j 0↔c:=by simp[ANk,ANl]) (M:j.length<=1000:=by decide) (W:g.body.isSome:=by rfl) (L:(g.name== "runtime.NumGoroutine")=false:=by rfl) (hE:∀b off d,QL [.p 1 0] (A4 (G0 E b off d) m k) g.ntmps:=by intro _ _ _;kernel_rfl)
 (V:∀b off d,(CS prog lay [] g.ntmps (MP) 1000 (init [.p 1 0] (A4 (G0 E b off d) m k) I (Io g))).cl=(CS prog lay [] g.ntmps (MP) 1000 (init [.p 1 0] (A4 (G0 E b off d) m k) I (Io g))).ac:=by intro _ _ _;kernel_rfl)
 (Y:∀b off d,Ci (CS prog lay [] g.ntmps (MP) 1000 (init [.p 1 0] (A4 (G0 E b off d) m k) I (Io g))).f g.ntmps 296 [(5,K)] (Bv (G0 E b off d) m k (Jl j)) [1,2,3,4,5]=some (Bz (AT [(5,K)]) [.p 1 0,.s 5 0 j.length j.length],(Bv (G0 E b off d) m k (Jl j)).map (λkb=>some (kb.2.Am (AT [(5,K)]))),I):=by intro _ _ _;kernel_rfl)
 (he:∀b off d (O:CM)(J:AB),IF ((CS prog lay [] g.ntmps (MP) 1000 (init [.p 1 0] (A4 (G0 E b off d) m k) I (Io g))).f.σ.Dd none (Cw (CS prog lay [] g.ntmps (MP) 1000 (init [.p 1 0] (A4 (G0 E b off d) m k) I (Io g))).f) (({r:=.v undef,upd:=Bv (G0 E b off d) O k (Jl j),J:=J}:AU).rn (AT [(5,K)]))) MP=some (A4 (G0 E b off d) O k)/\Ew (Gy (A4 (G0 E b off d) O k)) MP/\((CS prog lay [] g.ntmps (MP) 1000 (init [.p 1 0] (A4 (G0 E b off d) m k) I (Io g))).f.σ.Dd none (Cw (CS prog lay [] g.ntmps (MP) 1000 (init [.p 1 0] (A4 (G0 E b off d) m k) I (Io g))).f) (({r:=.v undef,upd:=Bv (G0 E b off d) O k (Jl j),J:=J}:AU).rn (AT [(5,K)]))).im=J:=by intro _ _ _ _ _;exact⟨kR,kR,kR⟩):Ga F I E m k q:=by
 let⟨b,off,arr,x,Z,t,hI,P⟩:=h.args.base R.1;let⟨im,ip,now,tries,o,l,⟨aa,an,d⟩,AL⟩:=E;simp only at t;cases t;rw[e];by_cases H:bad l j 0;rw[AW (T.1 H)];refine Bh X (EV rfl) (λρ key w u=> ?_) W L (hE b off d);refine gG ?_ (V b off d);exact AH0 j K h (.refl _ _) R.2 M (let⟨i,U,p,q,s⟩:=H;⟨i,U,p,q,by rwa [D5]at s⟩) (Y b off d) (he b off d);rw[AN λy=>H (T.2 y)];refine Bh X (EV (by cases r.2<;>rfl)) (λρ key w u=> ?_) W L (hE b off d);refine gG ?_ (V b off d);exact ABg j K h R.2 M (λi U y=>Decidable.or_iff_not_imp_left.2 λa=>Decidable.byContradiction λz=>H ⟨i,U,y,a,by rwa [D5]⟩) (Y b off d) λN v S Q=>hr b off d N v S Q ⟨arr,x,Z,hI,P⟩ (λy=>H (T.2 y)) ρ key w u
end
section
variable {F:FuncId} {g:Func} {n:Nat} {I C I':AB} {w:World} {ρ:Nat->Nat} {A:List Nat} {f:BU} {E:Env} {k:Lz.Call} {m:CM} {D:List Rw} {key:Nat} {args:List SV} {G:FuncId} {q:CR}
def fB(p:CU C D I' m.L)(j)(h:Fn G args (Bv E m k CP) I' (HJ I' m.L E q.1 CP (rv q.2)) (px q.2))
 (y:Ci f n G j (Bv E m k CP) [1,2,3,4,5]=some (Bz (AT j) args,(Bv E m k CP).map (λH=>some (H.2.Am (AT j))),I'):=by kernel_rfl)
 (c1:∀(a:CM)(c:AB)(e:Lz.Call),(CS prog lay [] n A 1000 (f.out (AT j) {r:=.t [],upd:=Bv E a e CP,J:=c})).cl=(CS prog lay [] n A 1000 (f.out (AT j) {r:=.t [],upd:=Bv E a e CP,J:=c})).ac:=by intro _ _ _;kernel_rfl)
 (c2:∀(a:CM)(c:AB)(e:Lz.Call),I3 lay g.results.toList A [] key (CS prog lay [] n A 1000 (f.out (AT j) {r:=.t [],upd:=Bv E a e CP,J:=c})).f=some {r:=.t [],upd:=A4 E a e,J:=c}:=by intro _ _ _;kernel_rfl)
 (z:∀(a:CM)(c:AB)(e:Lz.Call),IF (f.σ.Dd none (Cw f) (({r:=.v undef,upd:=Bv E a e CP,J:=c}:AU).rn (AT j))) A=some (A4 E a e)/\Ew (Gy (A4 E a e)) A/\(f.σ.Dd none (Cw f) (({r:=.v undef,upd:=Bv E a e CP,J:=c}:AU).rn (AT j))).im=c:=by intro _ _ _;exact⟨kR,kR,kR⟩)
 (o:100<=key:=by assumption):At F g n I w ρ A (Ends I ρ key w (DU C D E q.1 (rv q.2)) (px q.2)) f:=by
 obtain⟨v,_|x⟩:=q;exact AFd j h y λa c u t=>gG (dn [] ⟨a,c,rfl,p.trans u,t⟩ (c2 a c v) o) (c1 a c v);exact AOQ j h p y λa c=>z a c v
def cM{r}(c)(p:CU C D I' m.L)(y:BI I' E k m)(x:Int)(H:x≠0->r=(k,some x))
 (z:x=0->At F g n I w ρ A (Ends I ρ key w (DU C D E r.1 (rv r.2)) (px r.2)) (CS prog lay c n A 1000 (f.out (AT []) {r:=.t [],J:=I'})).f)
 (t:Ci f n 299 [] [] []=some (Bz (AT []) [.v (.int .i64 x)],[],I'):=by kernel_rfl)
 (u:(CS prog lay c n A 1000 (f.out (AT []) {r:=.t [],J:=I'})).cl=(CS prog lay c n A 1000 (f.out (AT []) {r:=.t [],J:=I'})).ac:=by kernel_rfl)
 (e:IF (f.σ.Dd none (Cw f) (({r:=.v undef,J:=I'}:AU).rn (AT []))) A=some (A4 E m k)/\Ew (Gy (A4 E m k)) A/\(f.σ.Dd none (Cw f) (({r:=.v undef,J:=I'}:AU).rn (AT []))).im=I':=by exact⟨kR,kR,kR⟩):At F g n I w ρ A (Ends I ρ key w (DU C D E r.1 (rv r.2)) (px r.2)) f:=by
 by_cases j:x=0;subst j;exact cg (SC I') c (z rfl) t u;rw[H j];refine JD (XP I' x j) [] [] t (λ_ h o L a=>by rw[show h=_ from o]at a;cases a) λv o=> ?_;rw[show v=_ from o];exact⟨_,e.1,e.2.1,m,I',(by rw[e.2.2];rfl),p,y⟩
def BI.up{J}(h:BI I E k m)(hle:I.le J):BI J E k m:=h.move hle.Cg ⟨rfl,rfl,rfl,rfl⟩ ⟨rfl,rfl,rfl,rfl⟩ (h.AD.up hle) (h.Bm.up hle) (h.Cq.up hle)
def Qh{l:AA AE}(h:l.all (·.oneCell')):∀v∈l,v.oneCell':=Df.1 h
def cA1{R t e j}(K h)(y:FE prog lay t e j)(S:h.length=j)(x:h.all (·.oneCell'))
 (N:∀o J c a,I'.le J->J o=some (.cells (h++a).toArray e (0,0))->1<=c->c<=maxLen->At F g n I w ρ A R ((CS prog lay [] n A 1000 (f.act {r:=.s (Cw f) 0 1 c,nb:=[.Aa (h++a) e],J:=I'})).f.BW (K+8) o J))
 (O:Lw f n [(K,.cells (h.map .v) e)] []=some ([some (.cells (h.map .v) e)],I'):=by kernel_rfl) (H:Nj f.σ.tm (Lc f).op=some (t,.v (.slice none 0 0),.s K 0 1 1):=by kernel_rfl)
 (u:∀c a,(CS prog lay [] n A 1000 (f.act {r:=.s (Cw f) 0 1 c,nb:=[.Aa (h++a) e],J:=I'})).cl=(CS prog lay [] n A 1000 (f.act {r:=.s (Cw f) 0 1 c,nb:=[.Aa (h++a) e],J:=I'})).ac:=by intro _ _;kernel_rfl) (L:∀c a,(QT (CS prog lay [] n A 1000 (f.act {r:=.s (Cw f) 0 1 c,nb:=[.Aa (h++a) e],J:=I'})).f A (K+8),(CS prog lay [] n A 1000 (f.act {r:=.s (Cw f) 0 1 c,nb:=[.Aa (h++a) e],J:=I'})).f.σ.im)=(some (h++a,e),I'):=by intro _ _;kernel_rfl):At F g n I w ρ A R f:=by
 refine act (need:=[(K,.cells (h.map .v) e)]) [] O (KU (I:=I') A6 (n:=0) (cap:=0) (m:=1) (a:=none) (l:=.v (.slice none 0 0)) (x:=.s K 0 1 1) (olds:=[]) (news:=h) y H rfl NG (D2 (e:=e) (AP.2 rfl) (by omega) (Qh x)) (AZ _) oG (λ_=>rfl) oG) (λv M T p=>by obtain⟨c,a,_,_,_,rfl⟩:=M;cases p) LD ?_;rintro v ⟨c,a,P,Q,U,rfl⟩;exact gG (BW (K+8) I' (L c a) λo J hle _ z=>N o J c a hle z P Q) (u c a)
end
section
variable {I:AB} {E:Env} {k:Lz.Call} {m:CM}
def AI4{F o e f}(hF:F=230/\f=f230/\o=3/\e=29\/F=232/\f=f232/\o=4/\e=32)(j:prog.funcs[F]? =some f)(h:BI I E k m)(P:En E k)(n:E.l.length=2)(c:E.o.code=e):Ga F I E m k (Br E.im E.now E.o E.AL E.l k):=by rcases hF with⟨rfl,rfl,rfl,rfl⟩|⟨rfl,rfl,rfl,rfl⟩;exact IW (c:=(E.l.getD 1 AO).kind≠2) (r:=GU k {Cb with kind:=3,l:=(E.l.getD 1 AO).l,v:=(E.l.getD 0 AO)}) j [0,2] 108 h (by simp[n]) (by unfold Br;rw[c];rfl) λb i d r p a c A _ s g w q=>gg (M0 (A.up a.le) d 1 oG 10++Kd (A.up a.le) d 0 oG 17) (fO a (X9 c _ GI Lg (P.make 1 oG rfl ⟨sP,sP⟩ rfl)));exact IW (c:=(E.l.getD 1 AO).kind≠2) (r:=GU k {Cb with kind:=4,l:=(E.l.getD 1 AO).l,v:=(E.l.getD 0 AO)}) j [0,2] 108 h (by simp[n]) (by unfold Br;rw[c];rfl) λb i d r p a c A _ s g w q=>gg (M0 (A.up a.le) d 1 oG 10++Kd (A.up a.le) d 0 oG 17) (fO a (X9 c _ GI Lg (P.make 1 oG rfl ⟨sP,sP⟩ rfl)))
def AUX(h:BI I E k m)(P:En E k)(e:E.l.length=1)(a:E.o.code=35):Ga 235 I E m k (Br E.im E.now E.o E.AL E.l k):=
 IW (c:=(E.l.getD 0 AO).kind≠2) (r:=GU k {Cb with kind:=5,l:=(E.l.getD 0 AO).l}) func235 [2] 108 h (by simp[e]) (by unfold Br;rw[a];rfl) λb g d n i c a A _ o f w j=>gg (M0 (A.up c.le) d 0 oG 10) (fO c (X9 a _ GI Lg (P.make 0 oG rfl ⟨sP,sP⟩ rfl)))
def AUU(h:BI I E k m)(P:En E k)(e:E.l.length=1)(a:E.o.code=45):Ga 244 I E m k (Br E.im E.now E.o E.AL E.l k):=
 IW (c:=(E.l.getD 0 AO).kind≠2) (r:=GU k {Cb with kind:=7,l:=(E.l.getD 0 AO).l,fn:=E.o.a,AL:=E.AL}) func244 [2] 108 h (by simp[e]) (by unfold Br;rw[a];rfl) λb g d n i c a A _ o f w j=>gg (M0 (A.up c.le) d 0 oG 10) (fO c (X9 a _ GI Lg (P.make 0 oG rfl ⟨sP,sP⟩ rfl)))
def AU3(h:BI I E k m)(P:En E k)(e:E.l.length=1)(c:E.o.code=30):Ga 231 I E m k (Br E.im E.now E.o E.AL E.l k):=
 IW (c:=(E.l.getD 0 AO).kind≠3) (r:=Fy k (E.l.getD 0 AO) FP) func231 [3] 108 h (by simp[e]) (by unfold Br;rw[c];rfl) λb g d n i a c A _ p f w j=>gg (Kd (A.up a.le) d 0 oG 10) (fO a (AXf c _ (P.read 0 oG) λI k m o q h l a=>AK8 h o q a))
def AWD(h:BI I E k m)(P:En E k)(e:E.l.length=1)(c:E.o.code=33):Ga 233 I E m k (Br E.im E.now E.o E.AL E.l k):=
 IW (c:=(E.l.getD 0 AO).kind≠4) (r:=Fy k (E.l.getD 0 AO) λk o=>(k.push o.v,none)) func233 [4] 116 h (by simp[e]) (by unfold Br;rw[c];rfl) λb g d n i a c A _ p f w j=>gg (Kd (A.up a.le) d 0 oG 10) (fB a [(5,100)] (ACu (.inl rfl) c _ (P.read 0 oG) (λk o=>(k.push o.v,none)) λI k m o q h l a=>AXe h o q a))
def AZF(h:BI I E k m)(P:En E k)(e:E.l.length=1)(c:E.o.code=39):Ga 239 I E m k (Br E.im E.now E.o E.AL E.l k):=
 IW (c:=(E.l.getD 0 AO).kind≠6) (r:=Fy k (E.l.getD 0 AO) (Sr (E.l.getD 0 AO).name)) func239 [6] 116 h (by simp[e]) (by unfold Br;rw[c];rfl) λb g d n i a c A _ p f w j=>gg (Kd (A.up a.le) d 0 oG 10) (fB a [(5,100)] (ACu (.inr (.inl rfl)) c _ (P.read 0 oG) (Sr (E.l.getD 0 AO).name) λI k m o q h l a=>AXy h o q a _ (getD_some (show 0<E.l.length by omega))))
def AP6(h:BI I E k m)(P:En E k)(f:E.l.length=2)(c:E.o.code=46)(d:E.im.Ad.length<=1000000):Ga 245 I E m k (Br E.im E.now E.o E.AL E.l k):=
 IW (c:=(E.l.getD 1 AO).kind≠7) (r:=Fy k (E.l.getD 1 AO) (Ro E.im (E.l.getD 0 AO))) func245 [0,7] 116 h (by simp[f]) (by unfold Br;rw[c];rfl) λb i e p j a c A _ r g w l=>gg (Kd (A.up a.le) e 1 oG 10) (fB a [(5,100)] (ACu (.inr (.inr rfl)) c _ (P.read 1 oG) (Ro E.im (E.l.getD 0 AO)) λI k m o q h n a=>AW3 h o q a d _ (getD_some (show 0<E.l.length by omega))))
end
def ANV:FE prog lay 121 53 20:=⟨⟨_,rfl⟩,⟨_,_,rfl,rfl⟩,kR⟩
def ANW:FE prog lay 122 135 7:=⟨⟨_,rfl⟩,⟨_,_,rfl,rfl⟩,kR⟩
def ANX:FE prog lay 123 61 6:=⟨⟨_,rfl⟩,⟨_,_,rfl,rfl⟩,kR⟩
def AEo:FE prog lay 124 141 2:=⟨⟨_,rfl⟩,⟨_,_,rfl,rfl⟩,kR⟩
section
variable {I:AB} {E:Env} {k:Lz.Call} {m:CM}
def Qc(E:Env)(k:Lz.Call)(g:Lz.St)(b to:AV)(a:Bool):Lz.Call:={k.Bw g with e:=if a then{k.e with log:=k.e.log++[⟨E.o.code,b,to,E.AL⟩]}else k.e}
def AKu(h:BI I E k m)(j:k.e=Ba)(g d to)(b:Bool):Fn 319 [.p 1 0,IQ g,Cc d,Cc to,.v (.bool b)] (A4 E m k) I (DU I m.L E (Qc E k g d to b) (.t [])) none:=by
 cases b with
 |false=>
  exact Bh func319 (EV rfl) λu i w e=>gG<|dn [] ⟨m,I,rfl,.refl _ _,h.Bw g⟩
 |true=>
  have c:=h.log.nil (by rw[j];rfl);let⟨a,fork,out,log,woken,n,L⟩:=m;simp only at c;subst c;refine Bh func319 (EV rfl) λu i w e=>gG (cA1 (I':=I) 324 (QK ⟨E.o.code,d,to,E.AL⟩) ANX rfl rfl λo J f l hle q s t=> ?_);have p:=(h.Bw g).move (k':=k.Bw g) (m':=⟨a,fork,out,⟨none,0,0⟩,woken,n,L⟩) hle.Cg ⟨rfl,rfl,rfl,rfl⟩ ⟨rfl,rfl,rfl,rfl⟩ (Co.up ⟨h.AD.c,h.AD.s⟩ hle) (h.Bm.up hle) (h.Cq.up hle);exact dn [] ⟨_,J,rfl,.of hle,{p with log:=by rw[show(Qc E k g d to true).e.log=k.e.log++_ from rfl,j];exact FW.one (R:=Rn) (size:=6) (x:=(⟨E.o.code,d,to,E.AL⟩:Gp)) q rfl rfl (Qh rfl) s t}⟩ (h:={r:=.t [],upd:=A4 E ⟨a,fork,out,⟨some ⟨o,0,none⟩,1,f⟩,woken,n,L⟩ (Qc E k g d to true),J:=J})
def ATb(h:BI I E k m)(P:En E k)(g:E.l.length=1)(a:E.o.code=28):Ga 229 I E m k (Br E.im E.now E.o E.AL E.l k):=
 IW (c:=(E.l.getD 0 AO).kind≠2) (r:=if(Iw k.t.g (E.l.getD 0 AO).l).2≠0 then(k,some (Iw k.t.g (E.l.getD 0 AO).l).2)else(k.Bw (Iw k.t.g (E.l.getD 0 AO).l).1,none)) func229 [2] 108 h (by simp[g]) (by unfold Br;rw[a];rfl) λb l f j d c a A _ o i w n=>gg (M0 (A.up c.le) f 0 oG 17) (cg (ATa d k.t.g _ P.g (P.ol 0 oG)) [] (cM [] c a _ (λe=>AW e) λe=>by rw[AN λq=>q e];exact dn [] ⟨j,d,rfl,c,a.Bw _⟩))
def APj(h:BI I E k m)(P:En E k)(g:E.l.length=1)(a:E.o.code=42):Ga 242 I E m k (Br E.im E.now E.o E.AL E.l k):=
 IW (c:=(E.l.getD 0 AO).kind≠2) (r:=if(Gs k.t.g (E.l.getD 0 AO).l E.AL).2.1≠0 then(k,some (Gs k.t.g (E.l.getD 0 AO).l E.AL).2.1)else(Qc E k (Gs k.t.g (E.l.getD 0 AO).l E.AL).1 k.t.g.cur (E.l.getD 0 AO).l (Gs k.t.g (E.l.getD 0 AO).l E.AL).2.2,none)) func242 [2] 108 h (by simp[g]) (by unfold Br Qc;rw[a];rfl) λb j f n d c a A _ o i w l=>gg (M0 (A.up c.le) f 0 oG 20) (cg (APi d k.t.g _ E.AL P.g (P.ol 0 oG)) [] (cM [] c a _ (λe=>AW e) λe=>by rw[AN λq=>q e];exact fO (q:=(_,none)) c (AKu a P.e _ _ _ _)))
def ATN(h:BI I E k m)(P:En E k)(g:E.l.length=1)(a:E.o.code=43):Ga 243 I E m k (Br E.im E.now E.o E.AL E.l k):=
 IW (c:=(E.l.getD 0 AO).kind≠2) (r:=if(Gv k.t.g (E.l.getD 0 AO).l E.AL).2.1≠0 then(k,some (Gv k.t.g (E.l.getD 0 AO).l E.AL).2.1)else(Qc E k (Gv k.t.g (E.l.getD 0 AO).l E.AL).1 k.t.g.Al (E.l.getD 0 AO).l (Gv k.t.g (E.l.getD 0 AO).l E.AL).2.2,none)) func243 [2] 108 h (by simp[g]) (by unfold Br Qc;rw[a];rfl) λb j f n d c a A _ o i w l=>gg (M0 (A.up c.le) f 0 oG 20) (cg (ATM d k.t.g _ E.AL P.g (P.ol 0 oG)) [] (cM [] c a _ (λe=>AW e) λe=>by rw[AN λq=>q e];exact fO (q:=(_,none)) c (AKu a P.e _ _ _ _)))
end
def AW5(s n o):(Cf s n o).length=s.length:=by unfold Cf;split;rfl;split;rfl;simp
def EO.set{I s L g ck}(h:EO I s L g ck)(d o):EO I (Cf s d o) L g ck:=by
 refine{h with len:=λr p=>by rw[AW5];exact h.len r p,mem:=λn l=>(h.mem n l).trans ?_};rw[QW];cases j:Ai s d with
 |none=>exact Iff.rfl
 |some w=>
  simp only;split;rename_i i;by_cases e:n=d;subst e;rw[j,AW rfl];constructor;rintro⟨q,b,c⟩;cases b;exact⟨o,rfl,i.2.symm.trans c⟩;rintro⟨q,b,c⟩;cases b;exact⟨w,rfl,i.2.trans c⟩;rw[AN e];exact Iff.rfl
section
variable {F:FuncId} {a:Func} {n:Nat} {I:AB} {w:World} {ρ:Nat->Nat} {A:List Nat} {R:Dl} {f:BU} {E:Env} {k:Lz.Call} {m:CM} {I':AB}
def AAK{c o q}(h:BI I' E k m)(t:Bg c)(p:o.var.q.length<=1000000)(u:EZ I' o q)(e:Ci f n 145 JS (GC m.sm.es m.sm.ns m.sm.n m.sm.m) [1,2,3]=some (Bz (AT JS) [.p 1 0,.v (.string (AR c)),.g (Dy o q)],(GC m.sm.es m.sm.ns m.sm.n m.sm.m).map (λl=>some (l.2.Am (AT JS))),I'))
 (hnext:∀b g J,CU I' m.L J m.L->BI J E {k with s:=Cf k.s c o} {m with sm:=⟨b,g,m.sm.ns,m.sm.m⟩}->At F a n I w ρ A R (f.out (AT JS) {r:=.v (.int .i64 (SZ k.s c o)),upd:=GC b m.sm.ns g m.sm.m,J:=J})):At F a n I w ρ A R f:=
 Ag (AKq I' k.s m.sm.es m.sm.ns m.sm.n m.sm.m c o q t p u h.Bm) JS [1,2,3] e (λv h i l d=>by
  obtain⟨b,g,J,_,_,rfl⟩:=i;simp[mS]at d⊢;rcases d with rfl|rfl|rfl<;>simp) λx i=>by obtain⟨b,g,J,hle,j,rfl⟩:=i;exact hnext b g J (.of hle) (h.move hle.Cg ⟨rfl,rfl,rfl,rfl⟩ ⟨rfl,rfl,rfl,rfl⟩ (h.AD.up hle) j ((h.Cq.up hle).set c o))
def Tq{i j d o q}(g:CU i j I' m.L)(h:BI I' E k m)(u:Bg d)(t:o.var.q.length<=1000000)(v:EZ I' o q)
 (y:∀b c J,CU i j J ({m with sm:=⟨b,c,m.sm.ns,m.sm.m⟩}:CM).L->BI J E {k with s:=Cf k.s d o} {m with sm:=⟨b,c,m.sm.ns,m.sm.m⟩}->At F a n I w ρ A R (CS prog lay [] n A 1000 (f.out (AT JS) {r:=.v (.int .i64 (SZ k.s d o)),upd:=GC b m.sm.ns c m.sm.m,J:=J})).f)
 (e:Ci f n 145 JS (GC m.sm.es m.sm.ns m.sm.n m.sm.m) [1,2,3]=some (Bz (AT JS) [.p 1 0,.v (.string (AR d)),.g (Dy o q)],(GC m.sm.es m.sm.ns m.sm.n m.sm.m).map (λz=>some (z.2.Am (AT JS))),I'):=by kernel_rfl)
 (l:∀b c J,(CS prog lay [] n A 1000 (f.out (AT JS) {r:=.v (.int .i64 (SZ k.s d o)),upd:=GC b m.sm.ns c m.sm.m,J:=J})).cl=(CS prog lay [] n A 1000 (f.out (AT JS) {r:=.v (.int .i64 (SZ k.s d o)),upd:=GC b m.sm.ns c m.sm.m,J:=J})).ac:=by intro _ _ _;kernel_rfl):At F a n I w ρ A R f:=
 AAK h u t v e λb c J x p=>gG (y b c J (g.trans x) p) (l b c J)
end
section
variable {I:AB} {E:Env} {k:Lz.Call} {m:CM}
def En.qs(P:En E k):∀n o,Ai k.s n=some o->o.var.q.length<=1000000:=λn o b=>CB (P.D8 n o b).2 dC
def En.nm(P:En E k)(i)(b:i<E.l.length):Bg (E.l.getD i AO).name:=(P.CC _ (Cv (getD_some b))).2
def AVD(h:BI I E k m)(P:En E k)(D:E.l.length=2)(g:E.o.code=41):Ga 241 I E m k (Br E.im E.now E.o E.AL E.l k):=
 IW (c:=(E.l.getD 1 AO).kind≠2) (r:=if Cu k.t.g (E.l.getD 1 AO).l≠0 then(k,some (Cu k.t.g (E.l.getD 1 AO).l))else({k with e:={k.e with out:=k.e.out++[((E.l.getD 1 AO).l,(E.l.getD 0 AO))]}},none)) func241 [0,2] 108 h (by simp[D]) (by unfold Br;rw[g];rfl) λb K v H s o g A _ ρ G w N=>by have i:=g.out.nil (by rw[P.e];rfl);let⟨u,d,y,j,c,l,t⟩:=H;simp only at i;subst i;refine gg (M0 (A.up o.le) v 1 oG 10) (cg (OL s k.t.g _ P.g (P.ol 1 oG)) [] (cM (Kd (A.up o.le) v 0 oG 32) o g _ (λe=>AW e) λe=> ?_));rw[AN λq=>q e];refine cA1 (I':=s) 372 (Uj ((E.l.getD 1 AO).l,(E.l.getD 0 AO))) ANW rfl rfl λz J p x hle C L M=> ?_;have B:=g.move (k':=k) (m':=⟨u,d,⟨none,0,0⟩,j,c,l,t⟩) hle.Cg ⟨rfl,rfl,rfl,rfl⟩ ⟨rfl,rfl,rfl,rfl⟩ (g.AD.up hle) (g.Bm.up hle) (g.Cq.up hle);exact dn [] ⟨_,J,rfl,o.trans (.of hle),{B with out:=by show FW J Ql 7 (k.e.out++_) _;rw[P.e];exact FW.one (R:=Ql) (size:=7) (x:=((E.l.getD 1 AO).l,(E.l.getD 0 AO))) C rfl rfl (Qh rfl) L M}⟩ (h:={r:=.t [],upd:=A4 _ ⟨u,d,⟨some ⟨z,0,none⟩,1,p⟩,j,c,l,t⟩ {k with e:={k.e with out:=k.e.out++[((E.l.getD 1 AO).l,(E.l.getD 0 AO))]}},J:=J})
def AZ2(h:BI I E k m)(P:En E k)(C:E.l.length=2)(j:E.o.code=34):Ga 234 I E m k (Br E.im E.now E.o E.AL E.l k):=
 IW (c:=(E.l.getD 0 AO).kind≠4) (r:=if Cu k.t.g (E.l.getD 0 AO).l≠0 then(k,some (Cu k.t.g (E.l.getD 0 AO).l))else match IZ k (E.l.getD 0 AO)with|some i=>({k with s:=Cf k.s (E.l.getD 0 AO).name {i with v:=(E.l.getD 1 AO)}},none)|none=>(k,none)) func234 [4,0] 108 h (by simp[C]) (by unfold Br;rw[j];rfl) λb K z M B t j A _ ρ G w L=>gg (Kd (A.up t.le) z 0 oG 12) (cg (OL B k.t.g _ P.g (P.ol 0 oG)) [] (cM [] t j _ (λe=>if_pos e) λe=>by
  rw[if_neg λq=>q e]
  refine Tr (λ_ _=>[]) (λ_ h=>Kd (A.up h) z 1 (by omega) 34) t j (P.nm 0 oG) P.qs (λl g q x d c=> ?_) λi l g q x d c D=> ?_
  .rw[l]
   exact dn [] ⟨g,x,rfl,d,c⟩
  .rw[l]
   exact Tq (o:={i with v:=(E.l.getD 1 AO)}) d c (P.nm 0 oG) (show i.var.q.length<=_ from P.qs _ _ (IE l).1) D λo H y u p=>dn [] ⟨_,y,rfl,u,p⟩ (h:={r:=.t [],upd:=A4 _ {g with sm:=⟨o,H,g.sm.ns,g.sm.m⟩} {k with s:=Cf k.s (E.l.getD 0 AO).name {i with v:=(E.l.getD 1 AO)}},J:=y})))
end
def ACF(n):(!((AR n).toList==ByteArray.empty.toList))=decide (n≠[]):=by
 have d:(AR n).toList=Cr n:=IB _;have f:ByteArray.empty.toList=([]:AA AH):=by rw[show ByteArray.empty=str []from rfl,IB]
 rw[d,f];cases n with
 |nil=>rfl
 |cons x l=>
  have:Cr (x::l)≠[]:=by
   have c:dec x≠[]:=by unfold dec;split<;>(try split)<;>simp
   cases l with
   |nil=>exact c
   |cons y l=>simp[Cr,c]
  cases e:Cr (x::l)with
  |nil=>exact(this e).elim
  |cons a b=>simp
section
variable {I:AB} {E:Env} {k:Lz.Call} {m:CM}
def AXz(h:BI I E k m)(j:k.e.woken=[])(b):Fn 310 [.p 1 0,.v (.string (AR b)),.v (.slice none 0 0)] (A4 E m k) I (DU I m.L E (GW k b []) (.t [])) none:=by have f:=ACF b;unfold GW;by_cases d:b=[];rw[AW d];rw[show decide (b≠[])=false by simp[d]]at f;exact Bh func310 (EV rfl) λv i w c=>gg [(7,.eq (Value.bool (!((AR b).toList==ByteArray.empty.toList))) (.bool false) (by rw[f]))]<|dn [] ⟨m,I,rfl,.refl _ _,h⟩;rw[AN d];rw[show decide (b≠[])=true by simp[d]]at f;have l:=h.woken.nil j;let⟨a,fork,out,log,woken,u,L⟩:=m;simp only at l;subst l;refine Bh func310 (EV rfl) λv i w c=>gg [(7,.eq (Value.bool (!((AR b).toList==ByteArray.empty.toList))) (.bool true) (by rw[f]))]<|cA1 (I':=I) 188 [.string (AR b),.slice none 0 0] AEo rfl rfl λo J g n hle q s t=> ?_;have p:=h.up hle;exact dn [] ⟨_,J,rfl,.of hle,{p with woken:=by show FW J (Md J) 2 (k.e.woken++_) _;rw[j];exact FW.one (R:=Md J) (size:=2) (x:=(b,[])) q ⟨none,0,[],rfl,Aj.empty⟩ rfl (Qh rfl) s t}⟩ (h:={r:=.t [],upd:=A4 E ⟨a,fork,out,log,⟨some ⟨o,0,none⟩,1,g⟩,u,L⟩ {k with e:={k.e with woken:=k.e.woken++[(b,[])]}},J:=J})
def AFR{k l f}(h:Cu k.t.g l=0):Hu k l f=f (k.Bw ⟨Ap l,k.t.g.Al⟩):=by unfold Hu;rw[AN (by simpa using h)]
def AFQ{k l f}(h:Cu k.t.g l≠0):Hu k l f=(k,some (Cu k.t.g l)):=by unfold Hu;rw[AW h]
def take_len(x)(id):(Gi x id).1.q.length<=x.q.length+1:=by unfold Gi;split;simp;split;simp;simp only;have:=ADy x.q (by assumption);omega
def ALH(x:Val)(k:Lz.Call):CR:=match IZ k x with
 |none=>(FR k x.name,none)
 |some a=>
  let r:=Gi a.var k.t.id;let k:={k with s:=Cf k.s x.name {a with var:=r.1}}
  match r.2.1 with
  |none=>(FR k x.name,none)
  |some v=>(GW (k.push v) r.2.2 [],none)
def AX7(h:BI I E k m)(P:En E k)(H:E.l.length=1)(o:E.o.code=36):Ga 236 I E m k (Br E.im E.now E.o E.AL E.l k):=
 IW (c:=(E.l.getD 0 AO).kind≠5) (r:=Hu k (E.l.getD 0 AO).l (ALH (E.l.getD 0 AO))) func236 [5] 108 h (by simp[H]) (by unfold Br;rw[o];rfl) λb O G V Q u o A _ Y L w T=>gg (Kd (A.up u.le) G 0 oG 15)<|by
  by_cases n:Cu k.t.g (E.l.getD 0 AO).l=0;rw[AFR n];refine Ip (AKi o _ P.g (P.ol 0 oG) n) kR λW R x s=>gG (Tr (λ_ _=>[]) (λ_ _=>[]) (u.trans x) s (P.nm 0 oG) P.qs (λp M q B d c=> ?_) λl p M q B d c K=> ?_)<;>unfold ALH<;>rw[p];exact fO (q:=(_,none)) d (U4 c _);have j:=AX6 B l.var q k.t.id (P.D8 _ _ (IE p).1).2 K;have f:(Gi l.var k.t.id).1.q.length<=1000000:=by have:=take_len l.var k.t.id;have:=(P.D8 _ _ (IE p).1).2;omega
  simp only;rw[show(k.Bw ⟨Ap (E.l.getD 0 AO).l,k.t.g.Al⟩).t.id=k.t.id from rfl];generalize Gi l.var k.t.id=z at j f⊢;obtain⟨C,_|v,wid⟩:=z;exact CK j kR λq4 D a g=>gG (Tq (o:={l with var:=C}) (d.trans (.of a)) (c.up a) (P.nm 0 oG) f g λr N F i e=>fO (q:=(_,none)) i (U4 e _));exact CK j kR λq4 D a g=>gG (Tq (o:={l with var:=C}) (d.trans (.of a)) (c.up a) (P.nm 0 oG) f g λr N F i e=>Ip (Sf e v (CB P.len.s dC)) kR λX S y t=>gG (fO (q:=(_,none)) (i.trans y) (AXz t (by show k.e.woken=[];rw[P.e];rfl) wid)));rw[AFQ n];exact P9 (AKj o _ P.g (P.ol 0 oG) n) u kR λU J=>⟨kR,kR⟩
end
def AYv:prog.underlying 2=some (.int .i64):=kR
def AP2{t}{n vars:Nat}{arg f l}{a g:Int}{j:Nat}{e:Int}(h:IP t n vars arg f l a g j=.inr e):e≠0:=by unfold IP at h;split at h;cases h;decide;split at h;cases h;decide;split at h;rename_i o;cases h;exact o;split at h;cases h;decide;split at h;cases h;decide;split at h;cases h;decide;cases h
section
variable {J:AB} {l:List Val} {b off:Nat} (A:RI J l b off) (c i:Nat) (d:i<l.length) (s:Nat)
include A d in
def ldN:∀w,Db w J->∃a,(Instr.loadAt 2 (.pointer (some ⟨b,off+i*5+1,none⟩))).run prog w=.ok (den id (.v (.int .i64 (l.getD i AO).n))) a/\BB w a:=by let⟨x,e,f,p,q⟩:=A.out;exact G5 AYv rfl p (q i _ (getD_some d) 1 _ rfl)
def ABM:F1 prog:=[(s,BM J E5 b off l.length c i d),(s+2,.op J _ _ (ldN A i d))]
end
section
variable {I:AB} {E:Env} {k:Lz.Call} {m:CM}
def AWy(h:BI I E k m)(P:En E k)(D:E.l.length=4)(g:E.o.code=40)(x:E.im.Ad.length<=1000000):Ga 240 I E m k (Br E.im E.now E.o E.AL E.l k):=
 IW (c:=(E.l.getD 1 AO).kind≠1\/(E.l.getD 2 AO).kind≠1\/(E.l.getD 3 AO).kind≠2) (r:=match IP k.t E.o.a (varsOf E.im E.o.a) (E.l.getD 0 AO) E.AL (E.l.getD 3 AO).l (E.l.getD 2 AO).n (E.l.getD 1 AO).n E.now with| .inl t=>({k with t:=t},none)| .inr p=>(k,some p)) func240 [0,1,1,2] 108 h (by simp[D]) (by unfold Br;rw[g];rfl) λb off c r u j g A _ K F w G=>gg (ABM (A.up j.le) c 1 oG 13++ABM (A.up j.le) c 2 oG 20++Kd (A.up j.le) c 0 oG 44++M0 (A.up j.le) c 3 oG 54)<|by
  have n:ZE u k.t r.a (E.l.getD 3 AO).l:=⟨g.pow,g.AD,P.path,P.made,P.room,P.Uw,P.len,P.ol 3 oG,P.g⟩;refine Ag (AC0 g E.o.a x) [] [] kR (λ_ v y H o=>by rw[show v=_ from y]at o;cases o) λv y=> ?_;rw[show v=_ from y];cases B:IP k.t E.o.a (varsOf E.im E.o.a) (E.l.getD 0 AO) E.AL (E.l.getD 3 AO).l (E.l.getD 2 AO).n (E.l.getD 1 AO).n E.now with
  |inl t=>exact gG (CK (AYI u k.t t r.a E.o.a (varsOf E.im E.o.a) (E.l.getD 0 AO) E.AL (E.l.getD 3 AO).l (E.l.getD 2 AO).n (E.l.getD 1 AO).n E.now n P.now B) kR λq C f z=>gG (cg (SC C) [] (dn [] ⟨{r with a:=q},C,rfl,j.trans (.of f),g.Jv f z⟩)))
  |inr p=>exact gG (cg (AYH u k.t r.a E.o.a (varsOf E.im E.o.a) (E.l.getD 0 AO) E.AL (E.l.getD 3 AO).l (E.l.getD 2 AO).n (E.l.getD 1 AO).n E.now p n B) [] (cM [] j g p (λ_=>rfl) λe=>absurd e (AP2 B)))
end
def WM:CN:=⟨none,0,[],none,0,[],none,0,[]⟩
def APN{I}:CH I ⟨[],[],[]⟩ WM:=⟨Aj.empty,Aj.empty,Aj.empty⟩
section
variable {F:FuncId} {d:Func} {n:Nat} {I a I':AB} {w:World} {ρ:Nat->Nat} {A:List Nat} {f:BU} {E:Env} {k:Lz.Call} {m:CM} {c:List Rw} {key:Nat} {args:List SV} {G:FuncId} {q:CR}
def fX(i:CU a c I' m.L)(l:BI I' E k m)(x:Int)(o:Ci f n 312 [] [] []=some (Bz (AT []) [.v (.int .i64 x)],[],I'):=by kernel_rfl)
 (e:IF (f.σ.Dd none (Cw f) (({r:=.v undef,J:=I'}:AU).rn (AT []))) A=some (A4 E m k)/\Ew (Gy (A4 E m k)) A/\(f.σ.Dd none (Cw f) (({r:=.v undef,J:=I'}:AU).rn (AT []))).im=I':=by exact⟨kR,kR,kR⟩):At F d n I w ρ A (Ends I ρ key w (DU a c E k (.v undef)) (some (Fv x))) f:=by
 refine JD (Rq I' x) [] [] o (λ_ h g p b=>by rw[show h=_ from g]at b;cases b) λj g=> ?_;rw[show j=_ from g];exact⟨_,e.1,e.2.1,m,I',(by rw[e.2.2]),i,l⟩
end
section
variable {I:AB} {E:Env} {k:Lz.Call} {m:CM}
def QR(e:Ak)(o:Lz.Op)(x:Val)(b:AH):Ae:=⟨[⟨o.a,0,0,b,[x]++List.replicate (min (varsOf e o.a) 16) (whole 0)⟩],[],[]⟩
def AA7(h:Ak)(o:Lz.Op)(x:Val)(g:AH)(k:Lz.Call)(t:AJ)(b:Nm)(i:AV)(room:Nat):Lz.Call:=
 {k with t:={t with room:=t.room-room},e:={k.e with fork:=k.e.fork++[Iy b ⟨t.g.cur,Ap i⟩ (QR h o x g) room]}}
def AQs(h:BI I E k m)(P:En E k)(hl:E.l.length=3)(hc:E.o.code=38)(T:E.im.Ad.length<=1000000):Ga 238 I E m k (Br E.im E.now E.o E.AL E.l k):=
 IW (c:=(E.l.getD 1 AO).kind≠1\/(E.l.getD 2 AO).kind≠2) (r:=if Cu k.t.g (E.l.getD 2 AO).l≠0 then(k,some (Cu k.t.g (E.l.getD 2 AO).l))else if(E.l.getD 1 AO).n<0\/999<(E.l.getD 1 AO).n\/(k.t.room:Int)<=(E.l.getD 1 AO).n then(k,some (-5))else match FN k.t with|none=>(k,some (-5))|some (t,made)=>(Ni (AA7 E.im E.o (E.l.getD 0 AO) E.AL k t made (E.l.getD 2 AO).l (E.l.getD 1 AO).n.toNat) made {Cb with kind:=6,l:=(E.l.getD 2 AO).l},none)) Tryz.func238 [0,1,2] 108 h (by simp[hl]) (by unfold Br AA7 QR;rw[hc];rfl) λb off ac m1 J1 j o A _ ρ key w hk=>by
  have aa:E.l.length<=ac:=by let⟨_,cells,X⟩:=o.args;exact X.cap
  cases ea:decide ((E.l.getD 1 AO).n<0)<;>cases eb:decide ((E.l.getD 1 AO).n>999)<;>cases N:decide ((k.t.room:Int)<=(E.l.getD 1 AO).n)<;>
   refine gg (ABM (A.up j.le) ac 1 oG 15++M0 (A.up j.le) ac 2 oG 22) (cg (OL J1 k.t.g _ P.g (P.ol 2 oG)) [] (cM [(34,.eq _ _ (El Value.bool ea)),(37,.eq _ _ (El Value.bool eb)),(46,.eq _ _ (El Value.bool N))] j o _ (λe=>AW e) λe=> ?_))<;>rw[AN λq=>q e]
  rotate_left
  iterate 7
   rw[AW (by simp only[D1]at ea eb N;omega)];exact fX j o (-5)
  simp only[AMq]at ea eb N;rw[AN (by omega)];cases x:FN k.t with
  |none=>exact P9 (AK0 o P.path P.made P.room x) j kR λm' J=>⟨kR,kR⟩
  |some p=>
   let⟨t,made⟩:=p;have L:=(LR x).1;have ad:t.room=k.t.room-1:=by rw[L]
   have s:=(P.make (o:={Cb with kind:=6,l:=(E.l.getD 2 AO).l}) 2 oG rfl ⟨sP,sP⟩ rfl).ok x;obtain⟨rm,V⟩: ∃rm:Nat,(E.l.getD 1 AO).n=(rm:Int):=⟨(E.l.getD 1 AO).n.toNat,oG⟩;have K:(E.l.getD 1 AO).n.toNat=rm:=oG;simp only[K];refine AFh (AKz o P.path P.made P.room x) rfl kR λm2 Y W u=> ?_;have ab:=P.room;have B:=u.fork.nil (by show k.e.fork=[];rw[P.e];rfl);let⟨a2,O,z,log2,i,M,L2⟩:=m2;simp only at B;subst B;let⟨al,R⟩:=HG.one u.args (getD_some (show 0<E.l.length by omega));refine gg [(69,.op Y _ _ (Uz (t:=29) (e:=51) (a:=some ⟨b,off,none⟩) (n:=E.l.length) (c:=ac) (m:=1) Lf (O5.choose_spec.1) oG))]<|Ag (AC0 u E.o.a T) [] [] kR (λ_ h' C kb v=>by rw[show h'=_ from C]at v;cases v) λh' C=> ?_;rw[show h'=_ from C];refine gG (CK (AAq Y ⟨[],[],[]⟩ WM E.o.a (varsOf E.im E.o.a) [(E.l.getD 0 AO)] ⟨b,off,none⟩ ac al E.AL APN R sP sP sP) kR λpc Z y U=> ?_);have r:=u.up y;have H:=ACB Z made ⟨t.g.cur,Lz.Ap (E.l.getD 2 AO).l⟩ (QR E.im E.o (E.l.getD 0 AO) E.AL) pc rm U;rw[<-V]at H;refine gG (cg (SG Z _ (P.ol 2 oG)) [(92,hW ((t.room:Int)-(E.l.getD 1 AO).n) ((t.room-rm:Nat):Int) oG oG)] (CK H kR λa4 J4 D Q=>gG ?_))
   refine act (need:=[(964,.cells ((DV (Iy made ⟨t.g.cur,Lz.Ap (E.l.getD 2 AO).l⟩ (QR E.im E.o (E.l.getD 0 AO) E.AL) rm) a4).map .v) 53)]) [] kR (KU (I:=J4) A6 (n:=0) (cap:=0) (m:=1) (a:=none) (l:=.v (.slice none 0 0)) (x:=.s 964 0 1 1) (olds:=[]) (news:=(DV (Iy made ⟨t.g.cur,Lz.Ap (E.l.getD 2 AO).l⟩ (QR E.im E.o (E.l.getD 0 AO) E.AL) rm) a4)) ANV kR rfl NG (D2 (e:=53) (AP.2 rfl) rfl (Qh rfl)) (AZ _) oG (λ_=>rfl) oG) (λh' C kb v=>by obtain⟨cap,AC,_,_,_,rfl⟩:=C;cases v) LD ?_;rintro h' ⟨cap,AC,r1,r2,r3,rfl⟩;refine go Tryz.func238 [] 5 kR (BW 972 J4 (vs:=[]++(DV (Iy made ⟨t.g.cur,Lz.Ap (E.l.getD 2 AO).l⟩ (QR E.im E.o (E.l.getD 0 AO) E.AL) rm) a4)++AC) (e:=53) kR λbb J hle _ hJ=> ?_);have g:=D.trans hle;have h1:=r.move (k':={k with t:={t with room:=t.room-rm}}) (m':=⟨a2,⟨none,0,0⟩,z,log2,i,M,L2⟩) g.Cg ⟨rfl,rfl,rfl,rfl⟩ ⟨rfl,rfl,rfl,rfl⟩ (Co.up ⟨r.AD.c,r.AD.s⟩ g) (r.Bm.up g) (r.Cq.up g);have S:BI J (G0 E b off ac) (AA7 E.im E.o (E.l.getD 0 AO) E.AL k t made (E.l.getD 2 AO).l rm) ⟨a2,⟨some ⟨bb,0,none⟩,1,cap⟩,z,log2,i,M,L2⟩:={h1 with fork:=by show FW J (OC J) 20 (k.e.fork++[Iy made ⟨t.g.cur,Lz.Ap (E.l.getD 2 AO).l⟩ (QR E.im E.o (E.l.getD 0 AO) E.AL) rm]) _;rw[P.e];exact FW.one (R:=OC J) (size:=20) hJ ⟨a4,rfl,Q.up hle⟩ rfl (Qh rfl) r1 r2};exact gG (fO (q:=(_,none)) ((j.trans W).trans (.of (L:=L2) (y.trans g))) (AKg S made {Cb with kind:=6,l:=(E.l.getD 2 AO).l} GI s (P.ol 2 oG) (by show 0<=_;omega) Lg P.Bm (by show t.c.stack.length<=_;rw[L];exact CB P.len.s dC)))
end
def AXw{l r}(h:∀x∈l,x∈r):Ew l r:=by unfold Ew;exact Df.2 λx a=>UR (h x a)
def AJ4(b)(l:AA AE):Bz b (l.map SV.v)=l.map SV.v:=by
 induction l with
 |nil=>rfl
 |cons x l a=>simp[EM,Bz,SV.Am,a]
def AWH(a l r):Bz a (l++r)=Bz a l++Bz a r:=by
 induction l with
 |nil=>rfl
 |cons x l b=>simp[Fj,Bz,b]
def APf{F}{fn}{n}{I}{w}{ρ}{A}{key}{e}{f}(h:Tryz.prog.funcs[F]? =some fn)(a:100<=key)(k){r}{u}{b}{J}
 (h0:((f.rg.isNone&&AAo f.todo),Xx lay f.σ fn.results.toList,IF f.σ A,f.σ.hp k,f.σ.im)=(true,some r,some u,some b,J))
 (d:(Ew r.keys (A++[k])&&Ew (Gy u) (A++[k])&&(!M8 k A)&&JL 100 A)=true) (hk: ∀x∈b.keys,x∈A++[k]) (hl:b.live=true)
 (c:e key {r:=r.Am (Ex key [k]),upd:=u.map (λkb=>(kb.1,kb.2.Am (Ex key [k]))),nb:=[b.Am (Ex key [k])],J:=J}):At F fn n I w ρ A (Ends I ρ key w e none) f:=by
 simp only[OQ]at h0;obtain⟨a1,a2,a3,a4,rfl⟩:=h0;simp only[Bt]at d;let⟨⟨⟨g,b2⟩,b3⟩,b4⟩:=d;refine done h a [k] (h:=_) ?_ c;unfold I3;have hb:RZ f.σ [k]=some [b]:=by simp only[RZ,a4]
 have hc:Ew (([b]:AA AG).flatMap AG.keys) (A++[k])=true:=AXw (by simpa using hk);rw[a1,a2,a3,hb];simp only[g,b2,hc,b4,ADm,ADn,hl,b3,Yl,Sz,EM,Kv];rfl
def Cl.AKX(c:Cl)(a b:SV):AA SV:=De c.im c.ip++a::.v (.int .i64 c.now)::(CG c.t c.a++[.v (.int .i64 c.tries),c.fork.sv,c.out.sv,c.log.sv,b,.v (.bool c.done),.v (.int .i64 c.o.code),.v (.int .i64 c.o.a),c.args.sv,.v (.int .u8 c.AL.toNat)])
abbrev clW(E:Env)(m:CM)(k:Lz.Call)(a:SV)(b:AG):AA (Nat×AG):=[(1,.cells ((KX E m k).AKX (.p 2 0) a) 218),(2,Qu),(3,.obj (.map m.sm.es m.sm.n)),(4,.obj (.map m.sm.ns m.sm.m)),(5,b)]
abbrev VG(b:Nm)(a:AA AE):AG:=.cells (([.v (.string (AR b)),.s 5 0 1 1]:AA SV)++a.map SV.v) 141
def AEa(I:AB)(E:Env)(m:CM)(k:Lz.Call)(d:Nm)(y:Val):Nat->AU->Prop:=λc h=>∃(a:Nat)(b:AA AE),1<=a/\a<=maxLen/\b.length=(a-1)*2/\h= {r:=.t [],upd:=clW E m k (.s c 0 1 a) (E9 y),nb:=[VG d b],J:=I}
def AMR(b a):(VG b a).keys=[5]:=by show Ax _=_;rw[W8,Nx];rfl
def AZw{I E m k g y}:E3 (AEa I E m k g y) (Bv E m k (E9 y)) I:=by refine⟨?_⟩;rintro i h ⟨e,d,_,_,_,rfl⟩;refine⟨⟨nA,λj c=> ?_,λb f k a=> ?_,sP,sP⟩,AB.Fa _⟩;simp[mS]at c;rcases c with rfl|rfl|rfl|rfl|rfl;refine⟨sP,λk a=> ?_⟩;simp[Cl.AKX,De,CG,Aq.sv,AG.keys,Ax,SV.keys]at a;rcases a with rfl|rfl;exact .inl sP;exact .inr (MN _ _);exact⟨sP,λk a=>by simp[AG.keys,Ax,SV.keys]at a;rcases a with rfl|rfl<;>exact .inl sP⟩;exact⟨sP,nA⟩;exact⟨sP,nA⟩;exact⟨sP,nA⟩;rw[AP.1 f,AMR]at a;rw[AP.1 a];exact .inl sP
def ATR{I g i e l d}(o:∀x∈Ax l,x∈d.map (·.1)):∀h:AU,(∃(a:Nat)(c:AA AE),1<=a/\a<=maxLen/\c.length=(a-1)*i/\h= {r:=.s g 0 1 a,nb:=[.cells (l++c.map SV.v) e],J:=I})->h.wf I g d []:=by rintro p ⟨a,c,s,t,u,rfl⟩;refine⟨λk f=>.inr ?_,nA,λb n k f=>.inl ?_,sP,AB.Fa _,sP⟩;simp[SV.keys]at f;rw[f];exact MN _ _;rw[AP.1 n]at f;change k∈Ax _ at f;rw[W8,Nx,G9]at f;simpa using o k f
section
variable {I:AB} {E:Env} {k:Lz.Call} {m:CM}
def AX1(h:BI I E k m)(p:k.e.woken=[])(b)(r:b≠[])(y):Fn 310 [.p 1 0,.v (.string (AR b)),.s 5 0 1 1] (Bv E m k (E9 y)) I (AEa I E m k b y) none:=by
 have g:=ACF b;rw[show decide (b≠[])=true by simp[r]]at g;have j:=h.woken.nil p;let⟨a,fork,out,log,woken,z,L⟩:=m;simp only at j;subst j;refine Bh func310 AZw λA f w d=>gg [(7,.eq (Value.bool (!((AR b).toList==ByteArray.empty.toList))) (.bool true) (by rw[g]))] ?_;refine act (need:=[(188,.cells [.v (.string (AR b)),.s 5 0 1 1] 141),(5,E9 y)]) [] kR (ANa (I:=I) (k:=188) (l:=[.v (.string (AR b)),.s 5 0 1 1]) (e':=141) (size:=2) A6 AEo kR DX rfl (λA v i=>by simp[As,den]at i;rcases i with rfl|rfl<;>rfl)) (λo q B e=>by obtain⟨c,AC,_,_,_,rfl⟩:=q;cases e) (ATR (by simp[Ax,SV.keys])) ?_
 rintro o ⟨c,AC,s,t,u,rfl⟩;refine gG<|APf func310 d 196 (r:=.t []) (u:=clW E ⟨a,fork,out,log,⟨none,0,0⟩,z,L⟩ k (.s 196 0 1 c) (E9 y)) (b:=VG b AC) (J:=I) kR kR ?_ rfl ?_;intro x l;rw[AMR]at l;rw[AP.1 l];simp;refine⟨c,AC,s,t,u,?_⟩;have n:(VG b AC).Am (Ex f [196])=VG b AC:=by show AG.cells (Bz _ (_++_)) _=_;rw[AWH,AJ4];rfl
 rw[n];rfl
end
def PP(x)(id)(v):(Hi x id v).1.q.length<=x.q.length+1:=by unfold Hi;split;simp;split;simp;simp only;have:=ADy x.q (by assumption);omega
def AJr(x y:Val)(k:Lz.Call):CR:=match IZ k x with
 |none=>(FR k x.name,none)
 |some a=>
  let r:=Hi a.var k.t.id y;let k:={k with s:=Cf k.s x.name {a with var:=r.1}}
  if !r.2.1 then(FR k x.name,none)else(GW k r.2.2 [y],none)
section
variable {I:AB} {E:Env} {k:Lz.Call} {m:CM}
def AIU(y):(E9 y).keys=[]:=rfl
def AX0(h:BI I E k m)(y):Fn 310 [.p 1 0,.v (.string (AR [])),.s 5 0 1 1] (Bv E m k (E9 y)) I (HJ I m.L E k (E9 y) (.t [])) none:=by have b:=ACF [];rw[show decide (([]:Nm)≠[])=false by simp]at b;refine Bh func310 (Mc rfl λx c=>by rw[AIU]at c;cases c) λe d w a=> ?_;exact gg [(7,.eq (Value.bool (!((AR []).toList==ByteArray.empty.toList))) (.bool false) (by rw[b]))]<|dn [] ⟨m,I,rfl,.refl _ _,h⟩
def AVu(h:BI I E k m)(P:En E k)(hl:E.l.length=2)(hc:E.o.code=37):Ga 237 I E m k (Br E.im E.now E.o E.AL E.l k):=
 IW (c:=(E.l.getD 0 AO).kind≠5) (r:=Hu k (E.l.getD 0 AO).l (AJr (E.l.getD 0 AO) (E.l.getD 1 AO))) Tryz.func237 [5,0] 108 h (by simp[hl]) (by unfold Br;rw[hc];rfl) λb off ac m1 U hs hc A _ ρ key w hk=>gg (Kd (A.up hs.le) ac 0 oG 15++Kd (A.up hs.le) ac 1 oG 21)<|by
  by_cases h0:Cu k.t.g (E.l.getD 0 AO).l=0;rw[AFR h0];refine Ip (AKi hc _ P.g (P.ol 0 oG) h0) kR λm2 V H F=>gG (Tr (λ_ _=>[]) (λ_ _=>[]) (hs.trans H) F (P.nm 0 oG) P.qs (λht m3 q O g d=> ?_) λob ht m3 q O g d T=> ?_)<;>unfold AJr<;>rw[ht];exact fO (q:=(_,none)) g (U4 d _);have u:=AVt O ob.var q k.t.id (E.l.getD 1 AO) (P.D8 _ _ (IE ht).1).2 T;have t:(Hi ob.var k.t.id (E.l.getD 1 AO)).1.q.length<=1000000:=by have:=PP ob.var k.t.id (E.l.getD 1 AO);have:=(P.D8 _ _ (IE ht).1).2;omega
  have l:k.e.woken=[]:=by rw[P.e];rfl
  simp only;rw[show(k.Bw ⟨Ap (E.l.getD 0 AO).l,k.t.g.Al⟩).t.id=k.t.id from rfl];generalize Hi ob.var k.t.id (E.l.getD 1 AO)=M at u t⊢;obtain⟨N,_|_,wid⟩:=M;exact CK u kR λq4 Q a v=>gG (Tq (o:={ob with var:=N}) (g.trans (.of a)) (d.up a) (P.nm 0 oG) t v λes' n' B i c=>fO (q:=(_,none)) i (U4 c _));refine CK u kR λq4 Q a v=>gG (Tq (o:={ob with var:=N}) (g.trans (.of a)) (d.up a) (P.nm 0 oG) t v λes' n' B i c=> ?_);by_cases hw:wid=[];subst hw;refine Ag (AX0 c (E.l.getD 1 AO)) [(5,636)] [1,2,3,4,5] kR (λkey h p kb f=>by obtain⟨m',J,rfl,_⟩:=p;exact(QA (key:=0) (nb:=[]) (λx z=>by rw[AIU]at z;cases z) kb f).1) λh' p=> ?_
  obtain⟨m6,R,rfl,K,G⟩:=p;exact gG (dn [] ⟨m6,R,rfl,i.trans K,G⟩);refine Ag (AX1 c l wid hw (E.l.getD 1 AO)) [(5,636)] [1,2,3,4,5] kR (λkey h p kb f=>by obtain⟨cap,AC,_,_,_,rfl⟩:=p;simp[BD,B3,_root_.or_false]at f⊢;rcases f with rfl|rfl|rfl|rfl|rfl<;>simp) λh' p=> ?_
  obtain⟨cap,AC,r1,r2,r3,rfl⟩:=p;refine gG (BW 636 B (vs:=Au (E.l.getD 1 AO)) (e:=51) kR λo S y _ C=> ?_);refine NH 644 (b:=.cells (.v (.string (AR wid))::.v (.slice (some ⟨o,0,none⟩) 1 1)::F7 636 o (Bz (AT [(5,636)]) (AC.map SV.v))) 141) (b':=.Aa ([.string (AR wid),.slice (some ⟨o,0,none⟩) 1 1]++AC) 141) kR (λρ=> ?_) (λx z=>by cases z) rfl ?_;rw[AJ4,ABA];exact(ADQ ([.string (AR wid),.slice (some ⟨o,0,none⟩) 1 1]++AC) 141 ρ).symm;refine BW 644 S (vs:=[.string (AR wid),.slice (some ⟨o,0,none⟩) 1 1]++AC) (e:=141) kR λb2 n j _ D=> ?_;have hle:B.le n:=y.trans j;have h1:=c.up hle;let⟨cells,L⟩:=(FW.one (R:=Ey) (size:=5) (x:=(E.l.getD 1 AO)) (row:=Au (E.l.getD 1 AO)) (AC:=[]) (I:=n) (b:=o) (cap:=1) (e:=51) (by simpa using j _ _ C) rfl rfl (Xh (E.l.getD 1 AO)) oG (by unfold maxLen;omega)).ls.sl;unfold GW;rw[AN hw];exact dn [] ⟨_,n,rfl,i.trans (.of hle),{h1 with woken:=by show FW n (Md n) 2 (k.e.woken++[(wid,[(E.l.getD 1 AO)])]) _;rw[l];exact FW.one (R:=Md n) (size:=2) (x:=(wid,[(E.l.getD 1 AO)])) D ⟨some ⟨o,0,none⟩,1,cells,rfl,L⟩ rfl (Qh rfl) r1 r2}⟩ (h:={r:=.t [],upd:=A4 (G0 E b off ac) {m3 with sm:=⟨es',n',m3.sm.ns,m3.sm.m⟩,woken:=⟨some ⟨b2,0,none⟩,1,cap⟩} {k.Bw ⟨Ap (E.l.getD 0 AO).l,k.t.g.Al⟩with s:=Cf k.s (E.l.getD 0 AO).name {ob with var:=N},e:={k.e with woken:=k.e.woken++[(wid,[(E.l.getD 1 AO)])]}},J:=n});rw[AFQ h0];exact P9 (AKj hc _ P.g (P.ol 0 oG) h0) hs kR λm' J=>⟨kR,kR⟩
end
def AGl(s:Ao)(id:Nm)(v:Val)(ex:Bool):Ao:=match Ai s id with
 |some o=>if o.kind=6 then Cf s id {o with v:=v,ex:=ex,done:=true}else s
 |none=>s
def AQP(k)(v)(ex:Bool):Ea k v ex=if(E6 k.t v ex).status≠3/\(E6 k.t v ex).status≠4 then{k with t:=E6 k.t v ex}else⟨AGl k.s (E6 k.t v ex).id v ex,E6 k.t v ex,{k.e with done:=true}⟩:=rfl
section
variable {I:AB} {E:Env} {k:Lz.Call} {m:CM}
def ACr(h:BI I E k m)(v)(ex:Bool)(hid:Bg k.t.id)(H: ∀n o,Ai k.s n=some o->o.var.q.length<=1000000):Fn 103 [.p 1 0,Cn v,.v (.bool ex)] (A4 E m k) I (DU I m.L E (Ea k v ex) (.t [])) none:=by
 rw[AQP];have F:=λa (ha:Co I k.t a)=>AQQ I k.t a v ex ha;have j:Bg (E6 k.t v ex).id:=hid;generalize E6 k.t v ex=u at F j⊢;by_cases L:u.status=3\/u.status=4
 .rw[AN oG];have hend: ∀(J:AB) (m1:CM) (s':Ao),BI J E {k with s:=s',t:=u} m1->BI J E (⟨s',u,{k.e with done:=true}⟩:Lz.Call) m1:=λJ m1 s' d=>{tab:=d.tab,pow:=d.pow,img:=d.img,args:=d.args,AD:=d.AD,Bm:=d.Bm,Cq:=d.Cq,fork:=d.fork,out:=d.out,log:=d.log,woken:=d.woken};have K:(u.status=3)\/(u.status≠3/\u.status=4):=oG;unfold AGl;refine Bh Tryz.func103 (EV rfl) λρ key w C=>gG<|CK (F m.a h.AD) kR λa A e ha=> ?_;have c:BI A E {k with t:=u} {m with a:=a}:=h.Jv e ha;have D:CU I m.L A m.L:=.of e;have G:=T9 A k.s m.sm.es m.sm.ns m.sm.n m.sm.m u.id j (λo M=>H _ o M) c.Bm;unfold Ow at G;rcases K with L|⟨L,N⟩
  .refine gg [(23,Ct (u.status:Int) 3 oG)]<|Ag G JS [1,2,3] kR (λkey y d kb p=>by obtain⟨q,J,rfl,_⟩:=d;simp[BD,B3,_root_.or_false]at p⊢;rcases p with rfl|rfl|rfl<;>simp) λy d=> ?_
   obtain⟨q,l,rfl,b,g⟩:=d;have f:BI l E {k with t:=u} {m with a:=a}:=c.move b.Cg ⟨rfl,rfl,rfl,rfl⟩ ⟨rfl,rfl,rfl,rfl⟩ (c.AD.up b) (c.Bm.up b) (c.Cq.up b);have i:CU I m.L l m.L:=D.trans (.of b);cases hgo:Ai k.s u.id with
   |none=>
    simp[hgo]at g⊢;exact gG<|dn [] ⟨_,l,rfl,i,hend _ _ _ f⟩ (h:={r:=.t [],upd:=A4 E {m with a:=a} ⟨k.s,u,{k.e with done:=true}⟩,J:=l})
   |some o=>
    simp[hgo]at g⊢;by_cases hk:o.kind=6
    .rw[AW hk];exact gg [(49,hE (o.kind:Int) 6 oG)]<|AAK (k:={k with t:=u}) (o:={o with v:=v,ex:=ex,done:=true}) (q:=q) f j (show o.var.q.length<=1000000 from H _ _ hgo) g kR λes' n' B z x=>gG<|dn [] ⟨_,B,rfl,i.trans z,hend _ _ _ x⟩ (h:={r:=.t [],upd:=A4 E {m with a:=a,sm:=⟨es',n',m.sm.ns,m.sm.m⟩} ⟨Cf k.s u.id {o with v:=v,ex:=ex,done:=true},u,{k.e with done:=true}⟩,J:=B})
    .rw[AN hk];exact gg [(49,hN (o.kind:Int) 6 oG)]<|dn [] ⟨_,l,rfl,i,hend _ _ _ f⟩ (h:={r:=.t [],upd:=A4 E {m with a:=a} ⟨k.s,u,{k.e with done:=true}⟩,J:=l})
  .refine gg [(23,FJ (u.status:Int) 3 oG),(30,Ct (u.status:Int) 4 oG)]<|Ag G JS [1,2,3] kR (λkey y d kb p=>by obtain⟨q,J,rfl,_⟩:=d;simp[BD,B3,_root_.or_false]at p⊢;rcases p with rfl|rfl|rfl<;>simp) λy d=> ?_
   obtain⟨q,l,rfl,b,g⟩:=d;have f:BI l E {k with t:=u} {m with a:=a}:=c.move b.Cg ⟨rfl,rfl,rfl,rfl⟩ ⟨rfl,rfl,rfl,rfl⟩ (c.AD.up b) (c.Bm.up b) (c.Cq.up b);have i:CU I m.L l m.L:=D.trans (.of b);cases hgo:Ai k.s u.id with
   |none=>
    simp[hgo]at g⊢;exact gG<|dn [] ⟨_,l,rfl,i,hend _ _ _ f⟩ (h:={r:=.t [],upd:=A4 E {m with a:=a} ⟨k.s,u,{k.e with done:=true}⟩,J:=l})
   |some o=>
    simp[hgo]at g⊢;by_cases hk:o.kind=6
    .rw[AW hk];exact gg [(49,hE (o.kind:Int) 6 oG)]<|AAK (k:={k with t:=u}) (o:={o with v:=v,ex:=ex,done:=true}) (q:=q) f j (show o.var.q.length<=1000000 from H _ _ hgo) g kR λes' n' B z x=>gG<|dn [] ⟨_,B,rfl,i.trans z,hend _ _ _ x⟩ (h:={r:=.t [],upd:=A4 E {m with a:=a,sm:=⟨es',n',m.sm.ns,m.sm.m⟩} ⟨Cf k.s u.id {o with v:=v,ex:=ex,done:=true},u,{k.e with done:=true}⟩,J:=B})
    .rw[AN hk];exact gg [(49,hN (o.kind:Int) 6 oG)]<|dn [] ⟨_,l,rfl,i,hend _ _ _ f⟩ (h:={r:=.t [],upd:=A4 E {m with a:=a} ⟨k.s,u,{k.e with done:=true}⟩,J:=l})
 rw[AW oG];exact Bh Tryz.func103 (EV rfl) λρ key w C=>gG<|CK (F m.a h.AD) kR λa A e ha=>gg [(23,FJ (u.status:Int) 3 oG),(30,FJ (u.status:Int) 4 oG)]<|dn [] ⟨_,A,rfl,.of e,h.Jv e ha⟩ (h:={r:=.t [],upd:=A4 E {m with a:=a} {k with t:=u},J:=A})
def AV6(c)(a:Int)(b:Nat):(D4 c a b).2=.Ic\/∃v,(D4 c a b).2=.failed v:=by unfold D4;split<;>simp
def AK7(h:BI I E k m)(c p)(b:Int)(y:Jd c)(z:CH I c p)(hid:Bg k.t.id)(A:∀n o,Ai k.s n=some o->o.var.q.length<=1000000):Fn 159 [.p 1 0,.g (Cj c p),.v (.int .i64 b)] (A4 E m k) I (DU I m.L E (Ec k c b E.tries) (.t [])) none:=by have i:=AJx I c p b E.tries y z;have d:=AV6 c b E.tries;unfold Ec;generalize D4 c b E.tries=l at i d⊢;let⟨u,D⟩:=l;simp only at d;refine Bh func159 (EV rfl) λF B w s=>gG ?_;rcases d with rfl|⟨v,rfl⟩;exact CK i kR λq J hle e=>gG<|dn [] ⟨_,J,rfl,.of hle,h.Jv hle ⟨e,h.AD.s.up hle λ_ _ h=>h⟩⟩ (h:={r:=.t [],upd:=A4 E {m with a:={m.a with p:=q}} {k with t:={k.t with c:=u}},J:=J});refine CK i kR λq J hle e=>gG ?_;have f:BI J E {k with t:={k.t with c:=u}} {m with a:={m.a with p:=q}}:=h.Jv hle ⟨e,h.AD.s.up hle λ_ _ h=>h⟩;exact Ip (ACr f v true hid A) kR λC x j g=>gG<|dn [] ⟨C,x,rfl,CU.trans (L':=m.L) (.of hle) j,g⟩
end
theorem AX2(v w):(Instr.typeAssert (.iface 295 v) 20 295 true).run prog w=.ok (.tuple #[v,.bool true]) w:=by rfl
theorem AOc(p q)(n m:Int)(h:Bool)(a)(w)(hc:w.cell? p=some (.int .i64 m))(j:w.frozen? p=false)(b:w.cell? q=some (.bool h))(c:w.frozen? q=false)(f:p≠q):
 CallsD Tryz.prog 225 #[.pointer (some p),.pointer (some q)] (.panicking ({v:=.iface 295 (.agg #[.int .i64 n]),recovered:=false}::a)) w λe k l=>
  e=.returned (.tuple #[])/\k=.panicking ({v:=.iface 295 (.agg #[.int .i64 n]),recovered:=true}::a)/\l=(w.setCell p (.int .i64 n)).setCell q (.bool true):=by
 refine callsD_of_wpS Tryz.func225 rfl λi cs hu=> ?_;apply wpS_seq;apply wpS_region;simp[wpOpsS,go_sem,recoverD,hu,Tryz.ntmps225,Exit.thenS];apply wpS_seq;apply wpS_region;simp[wpOpsS,go_sem,Exit.thenS];refine wpS_cond (t:=true) (by simp[Act.eval,Array.replicate]) ?_;simp[Lq];apply wpS_seq;apply wpS_region;simp[wpOpsS,go_sem,Exit.thenS,hc,j,b,c,AX2];have d:(w.setCell p (.int .i64 n)).cell? q=some (.bool h):=by rw[World.cell?_setCell_other (h:=f)];exact b
 have g:(w.setCell p (.int .i64 n)).frozen? q=false:=by rw[World.frozen?_setCell];exact c
 apply wpS_region;simp[wpOpsS,go_sem,d,g,bodyPostS,results,Tryz.results225]
theorem AOb(p q w):
 CallsD prog 225 #[.pointer (some p),.pointer (some q)] .returning w λe c d=>e=.returned (.tuple #[])/\c=.returning/\d=w:=by
 refine callsD_of_wpS func225 rfl λa f b=> ?_;apply wpS_seq;apply wpS_region;simp[wpOpsS,go_sem,recoverD,b,ntmps225,Exit.thenS];apply wpS_seq;apply wpS_region;simp[wpOpsS,go_sem,Exit.thenS];refine wpS_cond (t:=false) (by simp[Act.eval,Array.replicate]) ?_;simp[Me,Gn];refine wpS_of_wp (wp_skip ?_);cases a;simp_all[bodyPostS,results,results225]
structure Vs(n:Nat)(w:AI):Prop where
 c:w.cell? ⟨n,0,none⟩=some (.int .i64 0)
 z:w.frozen? ⟨n,0,none⟩=false
 c2:w.cell? ⟨n+1,0,none⟩=some (.bool false)
 z2:w.frozen? ⟨n+1,0,none⟩=false
set_option maxRecDepth 100000 in
theorem ATF{G:FuncId}(hE:AX.Enters Tryz.prog G){p:Value}{w:World}{S:World->Prop}(h:Calls Tryz.prog G #[p] ((w.alloc (.cells #[.int .i64 0] 295)).alloc (.cells #[.bool false] 4)) λe a=>e=.returned (.tuple #[])/\Vs w.heap.size a/\S a):
 Calls Tryz.prog 157 #[p,.func (.func G) #[] #[]] w λe b=>∃a,S a/\e=.returned (.tuple #[.agg #[.int .i64 0],.bool false])/\b=(a.setCell ⟨w.heap.size,0,none⟩ (.int .i64 0)).setCell ⟨w.heap.size+1,0,none⟩ (.bool false):=by
 have i: ∀(fn:Go.Fn) (first cap:Array Value) (w:World),(Instr.makeFunc fn first cap).run Tryz.prog w=.ok (.func fn first cap) w:=λ_ _ _ _=>rfl
 go_enter_defers Tryz.func157,Tryz.ntmps157
 go_wp2
 rw[hE]
 simp only[Oper.upon]
 refine h.mono ?_
 rintro e a ⟨rfl,ht,hs⟩
 have hc:=ht.c
 have k:=ht.z
 have d:=ht.c2
 have j:=ht.z2
 go_wp2
 refine leaves_cons (f:=225) (args:=#[.pointer (some ⟨w.heap.size,0,none⟩),.pointer (some ⟨w.heap.size+1,0,none⟩)]) sP (by simp[go_sem]) ?_
 refine(AOb ⟨w.heap.size,0,none⟩ ⟨w.heap.size+1,0,none⟩ _).mono ?_
 have c:(⟨w.heap.size,0,none⟩:Addr)≠⟨w.heap.size+1,0,none⟩:=by intro e;simp at e
 have f:(a.setCell ⟨w.heap.size,0,none⟩ (.int .i64 0)).cell? ⟨w.heap.size,0,none⟩=some (.int .i64 0):=World.cell?_setCell_same _ _ _ hc
 have g:((a.setCell ⟨w.heap.size,0,none⟩ (.int .i64 0)).setCell ⟨w.heap.size+1,0,none⟩ (.bool false)).cell? ⟨w.heap.size+1,0,none⟩=some (.bool false):=World.cell?_setCell_same (u:=.bool false) _ _ _ (by rw[World.cell?_setCell_other (h:=c)];exact d)
 rintro e l b ⟨rfl,rfl,rfl⟩
 simp[Leaves,settle,results,Tryz.results157,go_sem,f,g]
 exact⟨a,hs,rfl⟩
set_option maxRecDepth 100000 in
theorem ATG{G:FuncId}(hE:AX.Enters Tryz.prog G){p:Value}{w:World}{n:Int}{S:World->Prop}(g:Calls Tryz.prog G #[p] ((w.alloc (.cells #[.int .i64 0] 295)).alloc (.cells #[.bool false] 4)) λe a=>e=.panicked (Fv n)/\Vs w.heap.size a/\S a):
 Calls Tryz.prog 157 #[p,.func (.func G) #[] #[]] w λe c=>∃a,S a/\e=.returned (.tuple #[.agg #[.int .i64 n],.bool true])/\c=(a.setCell ⟨w.heap.size,0,none⟩ (.int .i64 n)).setCell ⟨w.heap.size+1,0,none⟩ (.bool true):=by
 have h: ∀(fn:Go.Fn) (first cap:Array Value) (w:World),(Instr.makeFunc fn first cap).run Tryz.prog w=.ok (.func fn first cap) w:=λ_ _ _ _=>rfl
 go_enter_defers Tryz.func157,Tryz.ntmps157
 go_wp2
 rw[hE]
 simp only[Oper.upon]
 refine g.mono ?_
 rintro e a ⟨rfl,ht,hs⟩
 have b:(⟨w.heap.size,0,none⟩:Addr)≠⟨w.heap.size+1,0,none⟩:=by intro e;simp at e
 have d:(a.setCell ⟨w.heap.size,0,none⟩ (.int .i64 n)).cell? ⟨w.heap.size,0,none⟩=some (.int .i64 n):=World.cell?_setCell_same _ _ _ ht.c
 have f:((a.setCell ⟨w.heap.size,0,none⟩ (.int .i64 n)).setCell ⟨w.heap.size+1,0,none⟩ (.bool true)).cell? ⟨w.heap.size+1,0,none⟩=some (.bool true):=World.cell?_setCell_same (u:=.bool false) _ _ _ (by rw[World.cell?_setCell_other (h:=b)];exact ht.c2)
 go_wp2
 refine leaves_cons (f:=225) (args:=#[.pointer (some ⟨w.heap.size,0,none⟩),.pointer (some ⟨w.heap.size+1,0,none⟩)]) sP (by simp[go_sem]) ?_
 refine(AOc ⟨w.heap.size,0,none⟩ ⟨w.heap.size+1,0,none⟩ n 0 false [] _ ht.c ht.z ht.c2 ht.z2 b).mono ?_
 rintro e i c ⟨rfl,rfl,rfl⟩
 simp[Leaves,settle,results,Tryz.results157,go_sem,d,f]
 exact⟨a,hs,rfl⟩
abbrev Kr(w:AI):AI:=(w.alloc (.cells #[.int .i64 0] 295)).alloc (.cells #[.bool false] 4)
def Qy(w):(Kr w).heap.size=w.heap.size+2:=by show((w.heap.push _).push _).size=_;rw[Lj,Lj]
def YM(w){b}(h:b<w.heap.size):(Kr w).heap[b]? =w.heap[b]? :=by show((w.heap.push _).push _)[b]? =_;rw[Sw,AN (by rw[Lj];omega),Sw,AN oG]
def AYo(w):(Kr w).heap[w.heap.size]? =some (.cells #[.int .i64 0] 295 (0,0)):=by show((w.heap.push _).push _)[w.heap.size]? =_;rw[Sw,AN (by rw[Lj];omega),Sw,AW rfl]
def AYp(w):(Kr w).heap[w.heap.size+1]? =some (.cells #[.bool false] 4 (0,0)):=by show((w.heap.push _).push _)[w.heap.size+1]? =_;rw[Sw,AW (by rw[Lj])]
def AYn{n:Nat}{w}(h0:w.heap[n]? =some (.cells #[.int .i64 0] 295 (0,0)))(h1:w.heap[n+1]? =some (.cells #[.bool false] 4 (0,0))):Vs n w:=by refine⟨?_,?_,?_,?_⟩;unfold World.cell?;simp only[h0];rfl;unfold World.frozen?;simp only[h0];rfl;unfold World.cell?;simp only[h1];rfl;unfold World.frozen?;simp only[h1];rfl
def AKr(w:World)(n o)(v){b}(h:b≠n):(w.setCell ⟨n,o,none⟩ v).heap[b]? =w.heap[b]? :=by simp only[World.setCell,Array.getElem?_modify];rw[if_neg (λe=>h e.symm)]
def AKs(w:World)(a)(v):(w.setCell a v).heap.size=w.heap.size:=by simp only[World.setCell,Array.size_modify]
def AIP{I}{ρ}{w m}{key}{q}{h}{v}{v0 v1}(A:After I ρ (Kr w) m key q h)(a:h.nb=[])(u:Holds w I)(n: ∀kb∈h.upd,ρ kb.1<w.heap.size):
 After I ρ w ((m.setCell ⟨w.heap.size,0,none⟩ v0).setCell ⟨w.heap.size+1,0,none⟩ v1) key q {h with r:=v}:=by
 have hs:=A.size;rw[Qy]at hs;have l: ∀b,b≠w.heap.size->b≠w.heap.size+1->((m.setCell ⟨w.heap.size,0,none⟩ v0).setCell ⟨w.heap.size+1,0,none⟩ v1).heap[b]? =m.heap[b]? :=λb h1 x=>by rw[AKr _ _ _ _ x,AKr _ _ _ _ h1]
 have d: ∀k,AU.Am h ρ key q k=ρ k:=λk=>by unfold AU.Am Bf;rw[a];cases Nat.ble key k<;>simp
 have e:AU.Am {h with r:=v} ρ key q=AU.Am h ρ key q:=rfl;have g: ∀b,(∃o,h.J b=some o)\/(∃o,h.J.own b=some o)->b≠w.heap.size/\b≠w.heap.size+1:=by rintro b (⟨o,c⟩|⟨o,c⟩);rcases A.fresh b o c with h1|⟨h1,_⟩;have:=Dh (u.1 b o h1);omega;rw[Qy]at h1;omega;rcases A.Gz b o c with h1|⟨h1,_⟩;obtain⟨o',t⟩:=Option.isSome_iff_exists.1 h1;have:=Dh (u.2 b o' t);omega;rw[Qy]at h1;omega
 refine⟨A.os,A.tape,A.output,by rw[AKs,AKs];omega,λb hb s c=> ?_,λkb f o c=> ?_,λj b hj=> ?_,λi j hi=> ?_,⟨λb o hb=> ?_,λb o hb=> ?_⟩,λb o hb=> ?_,λb o hb=> ?_⟩;rw[l b oG oG,A.keep b (by rw[Qy];omega) s c,YM w hb];rw[e]at c⊢;have:=n kb f;rw[l _ (by rw[d];omega) (by rw[d];omega)];exact A.upd kb f o c;simp only[a]at hj;simp at hj;simp only[a]at hi;simp at hi;rw[l b (g b (.inl ⟨o,hb⟩)).1 (g b (.inl ⟨o,hb⟩)).2];exact A.Gu.1 b o hb;rw[l b (g b (.inr ⟨o,hb⟩)).1 (g b (.inr ⟨o,hb⟩)).2];exact A.Gu.2 b o hb;refine(A.fresh b o hb).imp id λ⟨p,r⟩=>⟨by rw[Qy]at p;omega,λj hj=>by simp only[a]at hj;simp at hj⟩;refine(A.Gz b o hb).imp id λ⟨p,r⟩=>⟨by rw[Qy]at p;omega,λj hj=>by simp only[a]at hj;simp at hj⟩
def AAM{E m k b w}(h:Has w b (A4 E m k)):∀x∈[1,2,3,4],b x<w.heap.size:=by intro x a;simp[mS]at a;rcases a with rfl|rfl|rfl|rfl;exact Dh (h (1,(KX E m k).blk) (by simp[C3]) _ rfl);exact Dh (h (2,Qu) (by simp[C3]) _ rfl);exact Dh (h (3,.obj (.map m.sm.es m.sm.n)) (by simp[C3]) _ rfl);exact Dh (h (4,.obj (.map m.sm.ns m.sm.m)) (by simp[C3]) _ rfl)
def AIQ{I}{E}{k k'}{m}{G}{r}{d}(h:Fn G [.p 1 0] (A4 E m k) I (DU I m.L E k' r) d)(ρ)(key)(w)(i:100<=key)(hN:Has w ρ (A4 E m k))(f:Holds w I)(t: ∀kb∈A4 E m k,I.free (ρ kb.1))(g: ∀x∈A4 E m k,∀y∈A4 E m k,ρ x.1=ρ y.1->x.1=y.1):
 Calls Tryz.prog G (As ρ [.p 1 0]).toArray (Kr w) λe n=>e=(match d with|none=>.returned (den ρ r)|some ch=>.panicked ch)/\Vs w.heap.size n/\∃m' J q,After I ρ (Kr w) n key q {r:=r,upd:=A4 E m' k',J:=J}/\CU I m.L J m'.L/\BI J E k' m':=by
 have j:=AAM hN;have s:Has (Kr w) ρ (A4 E m k):=λkb c o v=>by rw[YM w (j kb.1 (HU (key:=0) (nb:=[]) kb c).1)];exact hN kb c o v
 have p:Holds (Kr w) I:=⟨λb o hb=>by rw[YM w (Dh (f.1 b o hb))];exact f.1 b o hb,λb o hb=>by rw[YM w (Dh (f.2 b o hb))];exact f.2 b o hb⟩;refine(h.out.2 ρ key (Kr w) i s p t g).mono ?_;rintro e n ⟨y,q,⟨m',J,rfl,hs,hc⟩,A,rfl⟩;have l: ∀b,w.heap.size<=b->I.own b=none:=λb hb=>by
  cases e:I.own b with
  |none=>rfl
  |some o=>have:=Dh (f.2 b o e);omega
 have a: ∀b,w.heap.size<=b->b<w.heap.size+2->n.heap[b]? =(Kr w).heap[b]? :=λb h1 z=>A.keep b (by rw[Qy];omega) (λkb c=>by have:=j kb.1 (HU (key:=0) (nb:=[]) kb c).1;omega) (l b h1)
 have u:AU.Am {r:=r,upd:=A4 E m' k',J:=J} ρ key q=ρ:=by funext x;unfold AU.Am Bf;cases Nat.ble key x<;>simp
 refine⟨?_,AYn (by rw[a _ (Nat.le_refl _) oG,AYo]) (by rw[a _ oG oG,AYp]),m',J,q,A,hs,hc⟩;rw[u];cases d<;>rfl
def AXC{I E k f m G}(h:Fn G [.p 1 0] (A4 E m k) I (DU I m.L E f (.t [])) none):Fn 157 [.p 1 0,.v (.func (.func G) #[] #[])] (A4 E m k) I (DU I m.L E f (.t [.g [.v (.int .i64 0)],.v (.bool false)])) none:=by refine⟨⟨(EV rfl).out,λl c w b hN n g a=> ?_⟩,AX.Hw func157 kR kR⟩;refine(ATF h.JF (p:=.pointer (some ⟨l 1,0,none⟩)) (w:=w) (S:=λp=>∃d J q,After I l (Kr w) p c q {r:=.t [],upd:=A4 E d f,J:=J}/\CU I m.L J d.L/\BI J E f d) (AIQ h l c w b hN n g a)).mono ?_;rintro e u ⟨p,⟨d,J,q,A,t,s⟩,rfl,rfl⟩;have j:=AAM hN;exact⟨_,q,⟨d,J,rfl,t,s⟩,AIP A rfl n λo i=>j o.1 (HU (key:=0) (nb:=[]) o i).1,rfl⟩
def AXD{I E k f m G}{n:Int}(h:Fn G [.p 1 0] (A4 E m k) I (DU I m.L E f (.v undef)) (some (Fv n))):Fn 157 [.p 1 0,.v (.func (.func G) #[] #[])] (A4 E m k) I (DU I m.L E f (.t [.g [.v (.int .i64 n)],.v (.bool true)])) none:=by refine⟨⟨(EV rfl).out,λl c w b hN o g a=> ?_⟩,AX.Hw func157 kR kR⟩;refine(ATG h.JF (n:=n) (p:=.pointer (some ⟨l 1,0,none⟩)) (w:=w) (S:=λs=>∃d J q,After I l (Kr w) s c q {r:=.v undef,upd:=A4 E d f,J:=J}/\CU I m.L J d.L/\BI J E f d) (AIQ h l c w b hN o g a)).mono ?_;rintro e v ⟨s,⟨d,J,q,A,u,t⟩,rfl,rfl⟩;have j:=AAM hN;exact⟨_,q,⟨d,J,rfl,u,t⟩,AIP A rfl o λp i=>j p.1 (HU (key:=0) (nb:=[]) p i).1,rfl⟩
def FL(k:Lz.Call)(o:Lz.Op):Lz.Call:={k with t:={k.t with c:=Da (Ev k.t.c (A2 o.code)) λf=>{f with pc:=f.pc+1}}}
def Mv(E:Env)(k:Lz.Call)(o:Lz.Op)(f:B7)(a:Aq):Env:={E with o:=o,l:=CJ k.t.c (A2 o.code),args:=a,AL:=f.AL}
def AEG(I:AB)(L:AA Rw)(E:Env)(k:Lz.Call)(o:Lz.Op)(f:B7)(c:Lz.Call):Nat->AU->Prop:=λ_ h=>∃a b J,h= {r:=.t [],upd:=A4 (Mv E k o f a) b c,J:=J}/\CU I L J b.L/\BI J (Mv E k o f a) c b
def AZP{I L E k j o f c s}:E3 (AEG I L E k o f j) (C3 c s) I:=by refine⟨?_⟩;rintro m h ⟨a,n,J,rfl,i,_⟩;exact⟨⟨nA,(λl d=>HU l d),nA,sP,by simp[C3]⟩,i.le⟩
structure ZB(E:Env)(k:Lz.Call)(o:Lz.Op)(f:B7):Prop where
 top:k.t.c.top=some f
 pop:Fg k.t.c (A2 o.code)
 len:Jd k.t.c
 pc:f.pc<=1000000000
 QQ:E.im.Ad.length<=1000000
 op:∀a,En (Mv E k o f a) (FL k o)
 id:Bg (Br E.im E.now o f.AL (CJ k.t.c (A2 o.code)) (FL k o)).1.t.id
 q:∀n ob,Ai (Br E.im E.now o f.AL (CJ k.t.c (A2 o.code)) (FL k o)).1.s n=some ob->ob.var.q.length<=1000000
def AYU(t:AJ)(a:CV)(n:Nat):AA SV:=
 [.v (.string (AR t.id)),.v (.string (AR t.path)),.v (.string (str t.g.cur.1)),.v (.string (str t.g.cur.2)),.v (.string (str t.g.Al.1)),.v (.string (str t.g.Al.2)),
  .v (.slice a.p.fa n a.p.fc),.v (.slice a.p.sa t.c.stack.length a.p.sc),.v (.slice a.p.ta t.c.tries.length a.p.tc),.v (.slice a.ca t.scopes.length a.cc),.v (.int .i64 t.made),.v (.int .i64 t.room),.v (.int .i64 t.status),.v (.string (AR t.on)),
  .v (.int .i64 t.v.kind),.v (.int .i64 t.v.n),.v (.string (AR t.v.name)),.v (.string (str t.v.l.1)),.v (.string (str t.v.l.2)),.v (.bool t.ex)]
def Cl.AKO(c:Cl)(a:SV)(n:Nat):AA SV:=De c.im c.ip++a::.v (.int .i64 c.now)::(AYU c.t c.a n++[.v (.int .i64 c.tries),c.fork.sv,c.out.sv,c.log.sv,c.woken.sv,.v (.bool c.done),.v (.int .i64 c.o.code),.v (.int .i64 c.o.a),c.args.sv,.v (.int .u8 c.AL.toNat)])
def AKP(c:Cl){n}(h:n=c.t.c.AF.length):AG.cells (c.AKO (.p 2 0) n) 218=c.blk:=by subst h;rfl
def AHo(k o):(FL k o).t.c.AF.length=k.t.c.AF.length:=by simp[FL,Da,Ev]
section
variable {I:AB} {E:Env} {k:Lz.Call} {m:CM}
def Zs(c:Nat):Nat:=if c<31 then c+201 else if c<44 then c+200 else c+199
def ANf{J}(o f)(b:o.code∈[25,26,27,28,29,30,32,33,34,35,36,37,38,39,40,41,42,43,45,46])(A:ZB E k o f)(s:A2 o.code<=k.t.c.stack.length)(t a)(d:BI J (Mv E k o f a) (FL k o) t):
 Ga (Zs o.code) J (Mv E k o f a) t (FL k o) (Br E.im E.now o f.AL (CJ k.t.c (A2 o.code)) (FL k o)):=by
 simp[mS]at b;have u:∀n,A2 o.code=n->(CJ k.t.c (A2 o.code)).length=n:=λn q=>by rw[MV s,q]
 have p:o.code=25->Br E.im E.now o f.AL (CJ k.t.c (A2 o.code)) (FL k o)=((FL k o).push (Cx (FL k o).t.g.cur),none):=λq=>by unfold Br;rw[q];rfl
 have l:o.code=26->Br E.im E.now o f.AL (CJ k.t.c (A2 o.code)) (FL k o)=((FL k o).push (Cx (FL k o).t.g.Al),none):=λq=>by unfold Br;rw[q];rfl
 have i:=A.op a;have g:∀G,Zs o.code=G->Ga G J (Mv E k o f a) t (FL k o) (Br E.im E.now o f.AL (CJ k.t.c (A2 o.code)) (FL k o))->Ga (Zs o.code) J (Mv E k o f a) t (FL k o) (Br E.im E.now o f.AL (CJ k.t.c (A2 o.code)) (FL k o)):=λ_ e h=>by rw[e];exact h
 have j:∀n c,o.code=c->A2 c=n->(CJ k.t.c (A2 o.code)).length=n:=λn c q r=>u n (q▸r);rcases b with b|b|b|b|b|b|b|b|b|b|b|b|b|b|b|b|b|b|b|b;rw[p b,b];exact AW2 d (by have:=i.len.s;omega);rw[l b,b];exact AWx d (by have:=i.len.s;omega);exact g _ (by rw[b];rfl) (AV3 d i (j 1 _ b rfl) b);exact g _ (by rw[b];rfl) (ATb d i (j 1 _ b rfl) b);exact g _ (by rw[b];rfl) (AI4 (.inl ⟨rfl,rfl,rfl,rfl⟩) func230 d i (j 2 _ b rfl) b);exact g _ (by rw[b];rfl) (AU3 d i (j 1 _ b rfl) b);exact g _ (by rw[b];rfl) (AI4 (.inr ⟨rfl,rfl,rfl,rfl⟩) func232 d i (j 2 _ b rfl) b);exact g _ (by rw[b];rfl) (AWD d i (j 1 _ b rfl) b);exact g _ (by rw[b];rfl) (AZ2 d i (j 2 _ b rfl) b);exact g _ (by rw[b];rfl) (AUX d i (j 1 _ b rfl) b);exact g _ (by rw[b];rfl) (AX7 d i (j 1 _ b rfl) b);exact g _ (by rw[b];rfl) (AVu d i (j 2 _ b rfl) b);exact g _ (by rw[b];rfl) (AQs d i (j 3 _ b rfl) b A.QQ);exact g _ (by rw[b];rfl) (AZF d i (j 1 _ b rfl) b);exact g _ (by rw[b];rfl) (AWy d i (j 4 _ b rfl) b A.QQ);exact g _ (by rw[b];rfl) (AVD d i (j 2 _ b rfl) b);exact g _ (by rw[b];rfl) (APj d i (j 1 _ b rfl) b);exact g _ (by rw[b];rfl) (ATN d i (j 1 _ b rfl) b);exact g _ (by rw[b];rfl) (AUU d i (j 1 _ b rfl) b);exact g _ (by rw[b];rfl) (AP6 d i (j 2 _ b rfl) b A.QQ)
def ANd(h:BI I E k m)(o f)(hc:asks o.code)(A:ZB E k o f):Fn 104 [.p 1 0,.g [.v (.int .i64 o.code),.v (.int .i64 o.a)]] (A4 E m k) I (AEG I m.L E k o f (Hr E.im E.now E.tries o k)) none:=by
 let⟨b,ah,arr,e,fr,va,vc,ak,Z,al,a8,ar,S⟩:=Rs h.AD.c A.top;have a7:=A.pc;have l1:=A.len.f;have l2:=A.len.s;have ae:A2 o.code<=k.t.c.stack.length:=by have:=A.pop;simp[Fg,Bt,D1]at this;omega
 have hm:o.code∈[25,26,27,28,29,30,32,33,34,35,36,37,38,39,40,41,42,43,45,46]:=by unfold asks at hc;exact VO.1 hc
 have T:=λJ=>ANf (J:=J) o f hm A ae;have aa:Hr E.im E.now E.tries o k=(match Br E.im E.now o f.AL (CJ k.t.c (A2 o.code)) (FL k o)with|(P,none)=>P|(P,some a)=>Ec P k.t.c a E.tries):=by
  have hd:(k.t.c.top.getD Af).AL=f.AL:=by rw[A.top];rfl
  show(match Br E.im E.now o (k.t.c.top.getD Af).AL (CJ k.t.c (A2 o.code)) (FL k o)with|(P,none)=>P|(P,some a)=>Ec P k.t.c a E.tries)=_;rw[hd]
 rw[aa];have hid:=A.id;have hq:=A.q;generalize Br E.im E.now o f.AL (CJ k.t.c (A2 o.code)) (FL k o)=a0 at T hid hq⊢;have ab:=A.pop;have O:=A.top;have hp:=λJ (hle:I.le J)=>Xt J k.t.c m.a.p (A2 o.code) f A.top A.pop oG oG (h.AD.c.up hle);have Y:=h.AD.c;have af:=h.tab;let⟨a,C⟩:=o;simp only at hm T hp aa⊢;have X:1<=a/\a<=47:=by simp[mS]at hm;omega
 let⟨im,ip,V,n,o0,l0,j,l⟩:=E;let⟨⟨⟨fa,fc,fl,sa,sc,sl,ta,tc,tl⟩,ca,cc,cl⟩,fork,out,log,woken,sm,L⟩:=m;simp only at Z;subst Z;refine Bh func104 AZP λρ ag w a3=>gG<|call (OZ I af a X.1 X.2) kR<|gg [(28,hW ((k.t.c.AF.length:Int)-1) ((k.t.c.AF.length-1:Nat):Int) oG oG),(29,BM I Ol b ah k.t.c.AF.length fc (k.t.c.AF.length-1) oG),(31,C9 I Q1 rfl (ah+(k.t.c.AF.length-1)*5+3) _ al (S 3 _ rfl))]<|CK (hp I (AB.le_refl I)) kR λq J hle au=> ?_;let⟨s,ac⟩:=au;let⟨⟨a9,az,d,D,F,G,H,K,M⟩,qa,qc,ql⟩:=q;simp only at s ac;let⟨b1,ai,a1,a5,a6,h1,h2,h3⟩:=s.f.sl.open_ ar;simp only at h1;subst h1;refine gG<|Nl (WI J ⟨b1,ai,none⟩ k.t.c.AF.length az d oG s.f.sl) kR λg AC am t hj=> ?_;have R:EY J (Ev k.t.c (A2 a)) g d AC:=⟨s.f.rows,am,t,hj⟩;let⟨_,ba,bc,aj,a4,u⟩:=R.top (f:=f) O;have z:=u 1 _ rfl;refine gg [(76,hW ((k.t.c.AF.length:Int)-1) ((k.t.c.AF.length-1:Nat):Int) oG oG),
  (77,.hand (.indexAddr 45 (.tmp 68) (.tmp 76)) [(68,.s 572 0 k.t.c.AF.length g),(76,.v (.int .i64 (Int.ofNat (k.t.c.AF.length-1))))] [] J (.p 572 (0+(k.t.c.AF.length-1)*5)) (Hb A6 (L:=lay) (t:=45) (a:=68) (b:=76) (k:=572) (off:=0) (n:=k.t.c.AF.length) (c:=g) (i:=k.t.c.AF.length-1) (e:=65) (ty:=⟨5,_,_⟩) rfl rfl oG)),
  (79,.hand (.load 3 (.tmp 78)) [(78,.p 572 (0+(k.t.c.AF.length-1)*5+1))] [(572,.Aa (d++AC) 65)] J (.v (.int .i64 f.pc)) (MM A6 (L:=lay) (t:=3) (a:=78) (k:=572) (off:=0+(k.t.c.AF.length-1)*5+1) (ty:=⟨1,_,_⟩) (vs:=d++AC) (e:=65) rfl rfl z)),
  (80,hW ((f.pc:Int)+1) ((f.pc+1:Nat):Int) oG oG),
  (81,.hand (.indexAddr 45 (.tmp 68) (.tmp 76)) [(68,.s 572 0 k.t.c.AF.length g),(76,.v (.int .i64 (Int.ofNat (k.t.c.AF.length-1))))] [] J (.p 572 (0+(k.t.c.AF.length-1)*5)) (Hb A6 (L:=lay) (t:=45) (a:=68) (b:=76) (k:=572) (off:=0) (n:=k.t.c.AF.length) (c:=g) (i:=k.t.c.AF.length-1) (e:=65) (ty:=⟨5,_,_⟩) rfl rfl oG))] ?_
 have aq:=R.len;have a2:d.length=k.t.c.AF.length*5:=aq;refine Bm (k:=572) (off:=0+(k.t.c.AF.length-1)*5+1) (t:=3) (ad:=.tmp 82) (x:=.tmp 80) (e:=65) (vs:=d++AC) (cs:=[.int .i64 ((f.pc+1:Nat):Int)]) (ty:=⟨1,_,_⟩) (I':=J) kR kR kR rfl rfl (by simp[Bc,NU];omega) (by intro v hv;rw[AP.1 hv];rfl) kR ?_;refine go func104 [] 1 kR<|BW 572 J (vs:=splice (d++AC) (0+(k.t.c.AF.length-1)*5+1) [.int .i64 ((f.pc+1:Nat):Int)]) (e:=65) kR λbb Q i _ W=> ?_;let⟨B,ax⟩:=R.Fi (f:=f) O i (j:=1) (cs:=[.int .i64 ((f.pc+1:Nat):Int)]) (g:=λf=>{f with pc:=f.pc+1}) Wj sP;have ay:splice (d++AC) (0+(k.t.c.AF.length-1)*5+1) [.int .i64 ((f.pc+1:Nat):Int)]=splice d ((k.t.c.AF.length-1)*5+1) [.int .i64 ((f.pc+1:Nat):Int)]++AC:=ax;rw[ay]at W;have c:I.le Q:=hle.trans i;have ap:CH Q (FL k ⟨a,C⟩).t.c ⟨some ⟨bb,0,none⟩,g,splice d ((k.t.c.AF.length-1)*5+1) [.int .i64 ((f.pc+1:Nat):Int)],D,F,G,H,K,M⟩:=
  ⟨Aj.JN W B.rows (HW Q) (Xg B.rows) B.hc B.hm,(s.up i).s,(s.up i).t⟩
 have aw:A2 a<=k.t.c.stack.length:=by simp[Fg,Bt,D1]at ab;omega
 have ao:BI Q (Mv ⟨im,ip,V,n,o0,l0,j,l⟩ k ⟨a,C⟩ f ⟨qa,A2 a,qc⟩) (FL k ⟨a,C⟩) ⟨⟨⟨some ⟨bb,0,none⟩,g,splice d ((k.t.c.AF.length-1)*5+1) [.int .i64 ((f.pc+1:Nat):Int)],D,F,G,H,K,M⟩,ca,cc,cl⟩,fork,out,log,woken,sm,L⟩:=
  {
   tab:=DK.A8 c.Cg h.tab,pow:=Pow.A8 c.Cg h.pow,img:=D3.A8 c.Cg h.img,args:=⟨(MV aw).symm,ql,ac.up i λ_ _ h=>h⟩,AD:=⟨ap,h.AD.s.up c λ_ _ h=>h⟩,Bm:=h.Bm.up c,Cq:=h.Cq.up c,
   fork:=h.fork.A8 c.Cg (AC9 c.Cg),out:=h.out.A8 c.Cg λ_ _ h=>h,log:=h.log.A8 c.Cg λ_ _ h=>h,woken:=h.woken.A8 c.Cg (Yd c.Cg)}
 have p:=T Q _ _ ao;have ad:CU I L Q L:=.of c;refine NH 1 (b:=.cells ((KX (Mv ⟨im,ip,V,n,o0,l0,j,l⟩ k ⟨a,C⟩ f ⟨qa,A2 a,qc⟩) ⟨⟨⟨some ⟨bb,0,none⟩,g,splice d ((k.t.c.AF.length-1)*5+1) [.int .i64 ((f.pc+1:Nat):Int)],D,F,G,H,K,M⟩,ca,cc,cl⟩,fork,out,log,woken,sm,L⟩ (FL k ⟨a,C⟩)).AKO (.p 2 0) k.t.c.AF.length) 218)
  (b':=(KX (Mv ⟨im,ip,V,n,o0,l0,j,l⟩ k ⟨a,C⟩ f ⟨qa,A2 a,qc⟩) ⟨⟨⟨some ⟨bb,0,none⟩,g,splice d ((k.t.c.AF.length-1)*5+1) [.int .i64 ((f.pc+1:Nat):Int)],D,F,G,H,K,M⟩,ca,cc,cl⟩,fork,out,log,woken,sm,L⟩ (FL k ⟨a,C⟩)).blk) kR (λρ=>by rw[AKP _ (AHo k ⟨a,C⟩).symm]) (λx hx=>by rw[AKP _ (AHo k ⟨a,C⟩).symm];exact hx) rfl ?_
 refine gG<|Ag (ANh Q) [] [] kR (λ_ h y kb r=>by rw[show h=_ from y]at r;cases r) λh' y=> ?_;rw[show h'=_ from y];simp[mS]at hm;rcases hm with rfl|rfl|rfl|rfl|rfl|rfl|rfl|rfl|rfl|rfl|rfl|rfl|rfl|rfl|rfl|rfl|rfl|rfl|rfl|rfl
 all_goals(
  refine gG ?_;obtain⟨P,_|a⟩:=a0;simp[rv,px]at p⊢;refine Ag (AXC p) [] [1,2,3,4] kR (λag h y kb r=>by obtain⟨m',J,rfl,_⟩:=y;exact(HU (key:=0) (nb:=[]) kb r).1) λh' y=> ?_
  obtain⟨m2,J2,rfl,U,t⟩:=y;exact gG<|dn [] ⟨_,m2,J2,rfl,ad.trans U,t⟩;simp[rv,px]at p⊢;refine Ag (AXD p) [] [1,2,3,4] kR (λag h y kb r=>by obtain⟨m',J,rfl,_⟩:=y;exact(HU (key:=0) (nb:=[]) kb r).1) λh' y=> ?_
  obtain⟨m2,J2,rfl,U,t⟩:=y;refine gG ?_;have N:=ad.trans U;exact Ip (AK7 t k.t.c _ a A.len (CH.A8 N.le Y) hid hq) kR λm3 J3 av an=>gG<|dn [] ⟨_,m3,J3,rfl,N.trans av,an⟩)
end
def AGR(m:CM)(k:Lz.Call):AA SV:=[m.fork.sv,m.out.sv,m.log.sv,m.woken.sv,.v (.bool k.e.done)]
def ZO(I:AB)(L:AA Rw)(c:Lz.Call):Nat->AU->Prop:=λ_ h=>∃E b J,h= {r:=.t [.g (CG c.t b.a),.g (AGR b c)],upd:=GC b.sm.es b.sm.ns b.sm.n b.sm.m,J:=J}/\CU I L J b.L/\BI J E c b
def Q3{I L l g p n m}:E3 (ZO I L l) (GC g p n m) I:=by refine⟨?_⟩;rintro o h ⟨E,r,J,rfl,j,_⟩;refine⟨⟨(λk c=>by simp[SV.keys,Ax,CG,AGR,Aq.sv]at c),λq f=> ?_,nA,sP,sP⟩,j.le⟩;simp[mS]at f;rcases f with rfl|rfl|rfl;exact⟨sP,λk c=>by simp[AG.keys,Ax,SV.keys]at c;rcases c with rfl|rfl<;>exact .inl sP⟩;exact⟨sP,nA⟩;exact⟨sP,nA⟩
def IN(im:Ak)(d:CY)(now b:Nat):Env:=⟨im,d,now,b,⟨0,0⟩,[],⟨none,0,0⟩,0⟩
def M6(a:CV)(e:Sm)(L:AA Rw):CM:=⟨a,⟨none,0,0⟩,⟨none,0,0⟩,⟨none,0,0⟩,⟨none,0,0⟩,e,L⟩
structure AD7(I:AB)(im:Ak)(d:CY)(t:AJ)(a:CV)(s:Ao)(now:Nat)(e:Sm)(L:AA Rw):Prop where
 step:Nh I im d t.c a.p
 cl:BI I (IN im d now (CW t).2) ⟨s,t,Ba⟩ (M6 a e L)
 Uw:t.scopes.length<=1000000
 id:Bg t.id
 q:∀n o,Ai s n=some o->o.var.q.length<=1000000
 ask:∀o,(ET im t.c (CW t).1 (CW t).2).2=.asked o->asks o.code/\∃f,ZB (IN im d now (CW t).2) ⟨s,t,Ba⟩ o f
section
variable {I:AB} {im:Ak} {d:CY} {t:AJ} {a:CV} {s:Ao} {now:Nat} {e:Sm} {L:List Rw}
def APb(D:AD7 I im d t a s now e L):Fn 46 [.g (De im d),.g (CG t a),.p 1 0,.v (.int .i64 now)] (GC e.es e.ns e.n e.m) I (ZO I L (C8 im t s now)) none:=by
 have b:=D.cl;have x:=AGz I t a b.AD.s D.Uw;have hid:=D.id;have M:=D.q;by_cases P:t.status=0;have g:=AXl D.step (CW t).1 (CW t).2;have z:=D.ask;have H:C8 im t s now=(match(ET im t.c (CW t).1 (CW t).2)with
  |(c,.Ic)=>⟨s,{t with c:=c},Ba⟩
  |(c,.ended v)=>Ea ⟨s,{t with c:=c},Ba⟩ v false
  |(c,.failed v)=>Ea ⟨s,{t with c:=c},Ba⟩ v true
  |(_,.asked o)=>Hr im now (CW t).2 o ⟨s,t,Ba⟩):=by
  unfold C8;rw[AN oG];simp only;generalize ET im t.c (CW t).1 (CW t).2=B;obtain⟨c,_|_|_|_⟩:=B<;>rfl
 rw[H];generalize ET im t.c (CW t).1 (CW t).2=B at g z⊢;generalize CW t=fl at*;let⟨T,y⟩:=fl;obtain⟨c,_|v|v|o⟩:=B;simp only at g b⊢;refine Bh func46 Q3 λG k w l=>gg [(17,Ct (t.status:Int) 0 oG)]<|call x kR<|gG<|CK g kR λq J hle m=>gG ?_;have i:BI J (IN im d now y) ⟨s,{t with c:=c},Ba⟩ (M6 {a with p:=q} e L):=b.Jv hle ⟨m,b.AD.s.up hle λ_ _ h=>h⟩;exact dn [] ⟨_,_,J,rfl,.of hle,i⟩;simp only at g b⊢;refine Bh func46 Q3 λG k w l=>gg [(17,Ct (t.status:Int) 0 oG)]<|call x kR<|gG<|CK g kR λq J hle m=>gG ?_;have i:BI J (IN im d now y) ⟨s,{t with c:=c},Ba⟩ (M6 {a with p:=q} e L):=b.Jv hle ⟨m,b.AD.s.up hle λ_ _ h=>h⟩;refine Ag (ACr i v false hid M) [(1,364),(2,1),(3,2),(4,3)] [1,2,3,4] kR (λk h n F r=>by obtain⟨N,J,rfl,_⟩:=n;exact(HU (key:=0) (nb:=[]) F r).1) λK n=> ?_
 obtain⟨O,C,rfl,u,j⟩:=n;exact gG<|dn [] ⟨_,_,C,rfl,CU.trans (L':=L) (.of hle) u,j⟩;simp only at g b⊢;refine Bh func46 Q3 λG k w l=>gg [(17,Ct (t.status:Int) 0 oG)]<|call x kR<|gG<|CK g kR λq J hle m=>gG ?_;have i:BI J (IN im d now y) ⟨s,{t with c:=c},Ba⟩ (M6 {a with p:=q} e L):=b.Jv hle ⟨m,b.AD.s.up hle λ_ _ h=>h⟩;refine Ag (ACr i v true hid M) [(1,364),(2,1),(3,2),(4,3)] [1,2,3,4] kR (λk h n F r=>by obtain⟨N,J,rfl,_⟩:=n;exact(HU (key:=0) (nb:=[]) F r).1) λK n=> ?_
 obtain⟨O,C,rfl,u,j⟩:=n;exact gG<|dn [] ⟨_,_,C,rfl,CU.trans (L':=L) (.of hle) u,j⟩;let⟨Q,f,A⟩:=z o rfl;simp only at g b A⊢;refine Bh func46 Q3 λG k w l=>gg [(17,Ct (t.status:Int) 0 oG)]<|call x kR<|gG<|CK g kR λq J hle m=>gG ?_;have i:BI J (IN im d now y) ⟨s,t,Ba⟩ (M6 a e L):=b.move hle.Cg ⟨rfl,rfl,rfl,rfl⟩ ⟨rfl,rfl,rfl,rfl⟩ (b.AD.up hle) (b.Bm.up hle) (b.Cq.up hle);refine Ag (ANd i o f Q A) [(1,364),(2,1),(3,2),(4,3)] [1,2,3,4] kR (λk h n F r=>by obtain⟨R,N,J,rfl,_⟩:=n;exact(HU (key:=0) (nb:=[]) F r).1) λK n=> ?_
 obtain⟨S,O,C,rfl,u,j⟩:=n;have E:Hr (IN im d now y).im (IN im d now y).now (IN im d now y).tries o ⟨s,t,Ba⟩=Hr im now y o ⟨s,t,Ba⟩:=rfl;rw[E]at j;rw[E];generalize Hr im now y o ⟨s,t,Ba⟩=U at j⊢;exact gG<|dn [] ⟨_,_,C,rfl,CU.trans (L':=L) (.of hle) u,j⟩;have H:C8 im t s now=⟨s,t,Ba⟩:=by unfold C8;rw[AW P]
 rw[H];exact Bh func46 Q3 λG k w l=>gg [(17,FJ (t.status:Int) 0 oG)]<|dn [] ⟨_,_,I,rfl,.refl _ _,b⟩
end
def AZH(I t a v)(u:t.c.stack.length<=1000000)(h:Co I t a):Fn 108 [.g (CG t a),.s 1 0 1 1] [(1,E9 v)] I (ZK I (E9 v) (λa:CV=>.g (CG (DC t [v]) a)) (λJ a=>Co J (DC t [v]) a)) none:=by
 have o:=h.c.s.cap;have d:Rows Ey (t.c.stack++[v]) (a.p.sl++Au v):=h.c.s.rows.append (Rows.flat.2 sP);refine fo func108 (AMK rfl λ_=>by simp[SV.keys,Ax,CG]) λF x w l=>gG<|call (AAN I a.p.sa t.c.stack.length a.p.sc o) kR<|gG<|act (need:=[(1,E9 v)]) [] kR (KU (I:=I) A6 (n:=t.c.stack.length) (cap:=t.c.stack.length) (m:=1) (a:=a.p.sa) (l:=.v (.slice a.p.sa t.c.stack.length t.c.stack.length)) (x:=.s 1 0 1 1) (news:=Au v) Jf kR rfl h.c.s.sl.reads (D2 (e:=51) sP rfl (Xh v)) (AZ _) oG (λe=> ?_) oG) (λi q D j=> ?_) LD ?_;rcases h.c.s.sl.at_ with h|⟨b,y,arr,B,C,i,_⟩;exact h;rw[e]at i;cases i;obtain⟨f,g,_,_,_,rfl⟩:=q;cases j;rintro i ⟨f,g,z,A,E,rfl⟩;refine go func108 [] 4 kR<|BW 188 I (vs:=a.p.sl++Au v++g) (e:=51) kR λb J hle _ n=>gG ?_;have el:(t.c.stack++[v]).length=t.c.stack.length+1:=sP;have k:Aj J Ey 5 (t.c.stack++[v]) (some ⟨b,0,none⟩) f (a.p.sl++Au v):=Aj.JN n d G6 (λv m=>N6 v (by rw[Rows.flat.1 d]at m;exact m)) (by rw[el];exact z) A
 refine dn [] ⟨{a with p:={a.p with sa:=some ⟨b,0,none⟩,sc:=f,sl:=a.p.sl++Au v}},J,?_,hle,⟨⟨(h.up hle).c.f,k,(h.up hle).c.t⟩,(h.up hle).s⟩⟩ (h:={r:=.g [.v (.string (AR t.id)),.v (.string (AR t.path)),.v (.string (str t.g.cur.1)),.v (.string (str t.g.cur.2)),.v (.string (str t.g.Al.1)),.v (.string (str t.g.Al.2)),.v (.slice a.p.fa t.c.AF.length a.p.fc),.v (.slice (some ⟨b,0,none⟩) (t.c.stack.length+1) f),.v (.slice a.p.ta t.c.tries.length a.p.tc),.v (.slice a.ca t.scopes.length a.cc),.v (.int .i64 t.made),.v (.int .i64 t.room),.v (.int .i64 (0:Nat)),.v (.string (AR [])),.v (.int .i64 t.v.kind),.v (.int .i64 t.v.n),.v (.string (AR t.v.name)),.v (.string (str t.v.l.1)),.v (.string (str t.v.l.2)),.v (.bool t.ex)],upd:=[(1,E9 v)],J:=J});simp[DC,CG,el]
def Rz:CY:=⟨none,0,[],none,0,[]⟩
section
variable {I:AB} {t:AJ} {a:CV} {s:Ao} {c:Sm} {L:List Rw}
def AWL(b:BI I (IN ⟨[],[]⟩ Rz 0 (CW t).2) ⟨s,t,Ba⟩ (M6 a c L))(v)(z:Bool)(q:Jd t.c)(l:t.scopes.length<=1000000)(hid:Bg t.id)(K:∀n o,Ai s n=some o->o.var.q.length<=1000000):
 Fn 110 [.g (CG t a),.p 1 0,Cn v,.v (.bool z)] (GC c.es c.ns c.n c.m) I (ZO I L (EU t s v z)) none:=by
 have H:=q.s;cases z with
 |false=>
  have y:EU t s v false=⟨s,DC t [v],Ba⟩:=rfl;rw[y];refine Bh func110 Q3 λM m w k=>gG<|Ag (AZH I t a v oG b.AD) [(1,164)] [1] kR (λ_ h f E g=>by obtain⟨x,J,rfl,_⟩:=f;rw[AP.1 g];exact AP.2 rfl) λG f=> ?_
  obtain⟨p,J,rfl,hle,r⟩:=f;refine gG ?_;have d:BI J (IN ⟨[],[]⟩ Rz 0 (CW t).2) ⟨s,DC t [v],Ba⟩ (M6 p c L):=b.Jv hle r;exact dn [] ⟨_,_,J,rfl,.of hle,d⟩
 |true=>
  have y:EU t s v true=Ec ⟨s,DC t [],Ba⟩ (DC t []).c v.n (CW t).2:=rfl;have B:=AGz I t a b.AD.s l;have A:Jd (DC t []).c:=⟨q.f,by simpa[DC]using q.s,q.t⟩;have i:Bg (DC t []).id:=hid;rw[y];generalize CW t=fl at*;let⟨N,tr⟩:=fl;simp only at b⊢;have D:=AL6 I t a none 0 b.AD;refine Bh func110 Q3 λM m w k=>gG<|call B kR<|gG<|CK D kR λp J hle r=> ?_;have d:BI J (IN ⟨[],[]⟩ Rz 0 tr) ⟨s,DC t [],Ba⟩ (M6 p c L):=b.Jv hle r;generalize DC t []=u at*;refine gG<|Ag (AK7 d u.c p.p v.n A r.c i K) [(1,244),(2,1),(3,2),(4,3)] [1,2,3,4] kR (λm h f E g=>by obtain⟨P,J,rfl,_⟩:=f;exact(HU (key:=0) (nb:=[]) E g).1) λG f=> ?_
  obtain⟨Q,F,rfl,C,e⟩:=f;have j:Ec ⟨s,u,Ba⟩ u.c v.n (IN ⟨[],[]⟩ Rz 0 tr).tries=Ec ⟨s,u,Ba⟩ u.c v.n tr:=rfl;rw[j]at e;rw[j];generalize Ec ⟨s,u,Ba⟩ u.c v.n tr=O at e⊢;exact gG<|dn [] ⟨_,_,F,rfl,CU.trans (L':=L) (.of hle) C,e⟩
end
abbrev Tm:=AA (Nm×AJ)
def HY(s:Tm)(n:Nm):AK AJ:=(s.find? (·.1==n)).map (·.2)
def LJ(I:AB)(e:Ah)(p:Nm×AJ):Prop:=e.key=.string (AR p.1)/\∃q,e.val=.agg (DV p.2 q).toArray/\Co I p.2 q
def LJ.up{I J e p}(h:LJ I e p)(hle:I.le J):LJ J e p:=⟨h.1,h.2.imp λq ⟨a,b⟩=>⟨a,b.up hle⟩⟩
structure DO(I:AB)(s:Tm)(es:AY Ah):Prop where
 perm:∃l,l.Perm s/\DD (LJ I) es.toList l
 nd:(s.map (·.1)).Nodup
 nm:∀p∈s,Bg p.1
def AQ7{l s}(h:l.Perm s)(f:(s.map (·.1)).Nodup)(n):HY l n=HY s n:=by
 induction h with
 |nil=>rfl
 |cons x h e=>
  grind[HY]
 |swap x y l=>
  grind[HY]
 |trans c d a b=>
  grind
def AGp{I}{n}(d:Bg n): ∀ {es:List MapEntry} {l:Tm} (i:Nat),DD (LJ I) es l->(∀p∈l,Bg p.1)->
 (HY l n=none->Instr.findNow .string (.string (AR n)) es i=some none)/\(∀o,HY l n=some o->∃j q,Instr.findNow .string (.string (AR n)) es i=some (some (i+j,.agg (DV o q).toArray))/\Co I o q/\es[j]?.map (·.key)=some (.string (AR n)))
 |_,_,i,.nil,_=>⟨λ_=>rfl,λo h=>by cases h⟩
 |_,_,i,.cons (a:=e) (b:=p) (l:=es) (m:=l) ⟨h1,q,g,k⟩ c,hm=>by
  have f:=AGp d (i+1) c λp hp=>hm p (List.mem_cons_of_mem _ hp);have hp:=hm p sP;have hs:Instr.sameNow .string (.string (AR n)) e.key=some (decide (n=p.1)):=by
   obtain⟨r,c,a⟩:=MapKept.sameNow_of_keys (d:=.string) (a:=.string (AR n)) (b:=e.key) trivial (by rw[h1];trivial);rw[c];congr 1;have:r=true↔n=p.1:=by rw[a,h1];constructor;intro h;simp only[Value.string.injEq]at h;exact N3 d hp (str_inj.1 (congrArg ByteArray.toList h));rintro rfl;rfl
   by_cases h:n=p.1
   grind
   grind
  unfold Instr.findNow;rw[hs];unfold HY;rw[List.find?_cons];by_cases h:n=p.1;have hb:(p.1==n)=true:=by rw[h];simp
  rw[decide_eq_true h,hb];refine⟨λh=>(by simp at h),λo b=> ?_⟩;simp at b;subst b;exact⟨0,q,by rw[g];rfl,k,by simp[h1,h]⟩;have hb:(p.1==n)=false:=beq_eq_false_iff_ne.2 λe=>h e.symm;rw[decide_eq_false h,hb];refine⟨f.1,λo b=> ?_⟩;obtain⟨j,m,r1,r2,r3⟩:=f.2 o b;exact⟨j+1,m,by grind,r2,by simpa using r3⟩
def DO.find{I s a}(h:DO I s a){n}(e:Bg n):
 (HY s n=none->Instr.findNow .string (.string (AR n)) a.toList 0=some none)/\(∀o,HY s n=some o->∃j q,Instr.findNow .string (.string (AR n)) a.toList 0=some (some (j,.agg (DV o q).toArray))/\Co I o q/\a[j]?.map (·.key)=some (.string (AR n))):=by
 let⟨l,c,d⟩:=h.perm;have:=AGp (I:=I) e 0 d λp b=>h.nm p (c.mem_iff.1 b);rw[AQ7 c h.nd]at this
 grind
def AGX{I n}(b:Bg n):∀ {a:AA Ah} {l:Tm} {j:Nat},DD (LJ I) a l->(∀p∈l,Bg p.1)->a[j]?.map (·.key)=some (.string (AR n))->n∈l.map (·.1)
 |_,_,j,.nil,_,h=>by simp at h
 |_,_,0,.cons (a:=e) (b:=p) h1 hr,hm,h=>by simp at h;rw[h1.1]at h;simp[Value.string.injEq]at h;have:=N3 (hm p sP) b (str_inj.1 (El ByteArray.toList h));simp[this]
 |_,_,j+1,.cons h1 hr,hm,h=>by
  have:=AGX b hr (λp c=>hm p (DW _ c)) (by simpa using h)
  grind
def DD.upT{I J}(hle:I.le J):∀ {a:AA Ah} {l:Tm},DD (LJ I) a l->DD (LJ J) a l
 |_,_,.nil=>.nil
 |_,_,.cons h hr=>.cons (h.up hle) (hr.upT hle)
def DO.up{I J s es}(h:DO I s es)(hle:I.le J):DO J s es:=⟨h.perm.imp λ_ ⟨a,b⟩=>⟨a,b.upT hle⟩,h.nd,h.nm⟩
def Xu(n:Nm)(o:AJ)(q:CV)(e:Ah):Ah:={e with key:=.string (AR n),val:=.agg (DV o q).toArray}
def I1(n:Nm)(o:AJ)(x:Nm×AJ):Nm×AJ:=if x.1==n then(n,o)else x
theorem AEj{I J}{n}{o}{q}(hle:I.le J)(c:Bg n)(f:Co J o q): ∀ {es:AA Ah} {l:Tm} {j:Nat},DD (LJ I) es l->(l.map (·.1)).Nodup->(∀p∈l,Bg p.1)->es[j]?.map (·.key)=some (.string (AR n))->DD (LJ J) (es.modify j (Xu n o q)) (l.map (I1 n o))
 |_,_,j,.nil,_,_,h=>by simp at h
 |_,_,0,.cons (a:=e) (b:=p) (l:=es) (m:=l) h1 hr,nd,hm,h=>by
  simp at h;rw[h1.1]at h;simp only[Value.string.injEq]at h;have g:=N3 (hm p sP) c (str_inj.1 (El ByteArray.toList h));simp only[EM,Gl]at nd;have i:l.map (I1 n o)=l:=by
   have: ∀x∈l,I1 n o x=x:=by grind[I1]
   rw[Ih this];simp
  rw[EM,i];refine .cons ?_ (hr.upT hle);have:I1 n o p=(n,o):=by unfold I1;rw[AW (by rw[g];simp)]
  rw[this];exact⟨rfl,q,rfl,f⟩
 |_,_,j+1,.cons (a:=e) (b:=p) (l:=es) (m:=l) h1 hr,nd,hm,h=>by
  simp only[EM,Gl]at nd;have a: ∀p∈l,Bg p.1:=λp hp=>hm p (DW _ hp);have hk:es[j]?.map (·.key)=some (.string (AR n)):=by simpa using h
  have b:=AGX c hr a hk;have d:I1 n o p=p:=by unfold I1;rw[AN];intro hb;exact nd.1 (by rw[eq_of_beq hb];exact b)
  rw[EM,d];exact .cons (h1.up hle) (AEj hle c f hr nd.2 a hk)
theorem AJu{n o}(x):(I1 n o x).1=x.1:=by grind[I1]
theorem DO.put{I J s b n o q j}(h:DO I s b)(hle:I.le J)(i:Bg n)(k:Co J o q)(f:b[j]?.map (·.key)=some (.string (AR n))):DO J (s.map (I1 n o)) (b.modify j (Xu n o q)):=by
 let⟨l,c,e⟩:=h.perm;have g:∀p∈l,Bg p.1:=λp a=>h.nm p (c.mem_iff.1 a);have m:(l.map (·.1)).Nodup:=(c.map _).nodup_iff.2 h.nd;have d:(s.map (I1 n o)).map (·.1)=s.map (·.1):=by rw[HA];exact Ih λx _=>AJu x
 refine⟨⟨l.map (I1 n o),c.map _,?_⟩,by rw[d];exact h.nd,λp a=> ?_⟩
 grind[AEj]
 grind[AJu]
def ADG:prog.underlying 104=some (.map 9 53):=kR
def LW(s:Tm)(n:Nm)(t:AJ):Tm:=match HY s n with
 |none=>s++[(n,t)]
 |some _=>s.map (I1 n t)
def DO.AEf{I s i}(h:DO I s i){f t}(c:HY s f=none)(o:Bg f){a}(r:Co I t a)(n):DO I (s++[(f,t)]) (i.push {key:=.string (AR f),val:=.agg (DV t a).toArray,born:=n}):=by
 let⟨l,q,m⟩:=h.perm;refine⟨⟨l++[(f,t)],q.append_right _,?_⟩,?_,λp d=> ?_⟩;rw[OM];have:∀ {x:AA Ah} {b:Tm},DD (LJ I) x b->DD (LJ I) (x++[{key:=.string (AR f),val:=.agg (DV t a).toArray,born:=n}]) (b++[(f,t)]):=by
  intro x b g;induction g with
  |nil=>exact .cons ⟨rfl,a,rfl,r⟩ .nil
  |cons k w v=>exact .cons k v
 exact this m;rw[EL,Fz];refine⟨h.nd,sP,λx u y j e=> ?_⟩;simp at j;subst j;subst e;obtain⟨p,d,rfl⟩:=BG.1 u;unfold HY at c;rw[AD5,ADt]at c;exact c p d sP;rcases BA.1 d with d|d;exact h.nm p d;rw[AP.1 d];exact o
structure BJ where
 ip:CY
 es:AY Ah
 n:Nat
 BH:Aq
 CQ:Aq
 lk:Aq
 sm:Sm
def BJ.row(k:BJ)(b:Ak)(a:Nat):AA SV:=De b k.ip++[.v (.int .i64 a),.m 2,k.BH.sv,.p 3 0,k.CQ.sv,k.lk.sv]
abbrev BN(k:BJ)(b:Ak)(a:Nat):AA (Nat×AG):=[(1,.cells (k.row b a) 107),(2,.obj (.map k.es k.n)),(3,.cells [.m 4,.m 5] 178),(4,.obj (.map k.sm.es k.sm.n)),(5,.obj (.map k.sm.ns k.sm.m))]
def Dr{k f d key nb}:∀c∈BN k f d,c.1∈[1,2,3,4,5]/\∀x∈c.2.keys,x∈[1,2,3,4,5]\/(Bf key nb x).isSome:=by intro c b;simp[mS]at b;rcases b with rfl|rfl|rfl|rfl|rfl;refine⟨sP,λx e=> ?_⟩;simp[BJ.row,De,Aq.sv,AG.keys,Ax,SV.keys]at e;rcases e with rfl|rfl<;>exact .inl sP;exact⟨sP,nA⟩;exact⟨sP,λk a=>by simp[AG.keys,Ax,SV.keys]at a;rcases a with rfl|rfl<;>exact .inl sP⟩;exact⟨sP,nA⟩;exact⟨sP,nA⟩
def AEO(I:AB)(k:BJ)(c:Ak)(b:Nat)(e:Tm):Nat->AU->Prop:=λ_ h=>∃(a:AY Ah)(d:Nat),DO I e a/\h= {r:=.t [],upd:=BN {k with es:=a,n:=d} c b,J:=I}
def AZb{I k d a l}:CO (AEO I k d a l) (BN k d a) I:=by refine⟨?_⟩;rintro j h ⟨e,m,_,rfl⟩;exact⟨⟨nA,(λi c=>Dr i c),nA,sP,sP⟩,AB.le_refl _⟩
def Qb(I k d b s t a)(g:Bg t.id)(l:Co I t a)(h:DO I s k.es):Fn 47 [.p 1 0,.g (CG t a)] (BN k d b) I (AEO I k d b (LW s t.id t)) none:=by
 have m:=h.find g;refine fo func47 AZb λp key w o=> ?_;unfold LW;refine gG ?_;cases f:HY s t.id with
 |none=>
  have c:=m.1 f;refine PD (t:=104) (km:=2) (m0:=k.n) (m1:=k.n+1) (es:=k.es) (es':=k.es.push {key:=.string (AR t.id),val:=.agg (DV t a).toArray,born:=k.n}) (m:=.tmp 7) (k:=.tmp 9) (x:=.tmp 10) (kv:=.string (AR t.id)) (v:=.agg (DV t a).toArray) (sk:=.v (.string (AR t.id))) (sx:=.g (CG t a)) (I':=I) kR kR kR (λ_=>rfl) kR (λp=>by rw[AC6];simp[den];rw[Fu]) (λw r e=>UT (kv:=.string (AR t.id)) (v:=.agg (DV t a).toArray) ADG Cm A0 c w r e) kR ?_;exact gG<|dn [] ⟨_,_,h.AEf f g l k.n,rfl⟩ (h:={r:=.t [],upd:=BN {k with es:=k.es.push {key:=.string (AR t.id),val:=.agg (DV t a).toArray,born:=k.n},n:=k.n+1} d b,J:=I})
 |some u=>
  let⟨j,x,q,v,i⟩:=m.2 u f;refine PD (t:=104) (km:=2) (m0:=k.n) (m1:=k.n) (es:=k.es) (es':=k.es.modify j (Xu t.id t a)) (m:=.tmp 7) (k:=.tmp 9) (x:=.tmp 10) (kv:=.string (AR t.id)) (v:=.agg (DV t a).toArray) (sk:=.v (.string (AR t.id))) (sx:=.g (CG t a)) (I':=I) kR kR kR (λ_=>rfl) kR (λp=>by rw[AC6];simp[den];rw[Fu]) (λw r e=>AIz (kv:=.string (AR t.id)) (v:=.agg (DV t a).toArray) ADG Cm A0 q i w r e) kR ?_;exact gG<|dn [] ⟨_,_,h.put (AB.le_refl I) g l i,rfl⟩ (h:={r:=.t [],upd:=BN {k with es:=k.es.modify j (Xu t.id t a)} d b,J:=I})
abbrev PU:AA (Nat×Nat):=[(1,3),(2,4),(3,5)]
def AER(I:AB)(k:BJ)(d:Ak)(b:Nat)(e:Ao):Nat->AU->Prop:=λ_ h=>∃(a:AY Ah)(c:Nat)(J:AB),I.le J/\DJ J e a c/\h= {r:=.t [],upd:=BN {k with sm:=⟨a,c,k.sm.ns,k.sm.m⟩} d b,J:=J}
def AZd{I k d a l}:CO (AER I k d a l) (BN k d a) I:=by refine⟨?_⟩;rintro j h ⟨e,m,J,hle,_,rfl⟩;exact⟨⟨nA,(λi c=>Dr i c),nA,sP,sP⟩,hle⟩
def AQp(I)(k)(im)(now)(s)(on id)(z:Bg on)(hi:Bg id)(t: ∀n o,Ai s n=some o->∀y∈o.var.q,Bg y.id)(r: ∀n o,Ai s n=some o->o.var.q.length<=900000)(h:DJ I s k.sm.es k.sm.n):Fn 99 [.p 1 0,.v (.string (AR on)),.v (.string (AR id))] (BN k im now) I (AER I k im now (Gt s on id)) none:=by
 have e:=T9 I s k.sm.es k.sm.ns k.sm.n k.sm.m on z (λo B=>CB (r _ o B) dC) h;unfold Ow at e;refine fo Tryz.func99 AZd λρ key w v=> ?_;unfold Gt;refine gG<|Ag e PU [1,2,3] kR (λkey y f kb c=>by obtain⟨q,J,rfl,_⟩:=f;simp[BD,B3,_root_.or_false]at c⊢;rcases c with rfl|rfl|rfl<;>simp) λy f=> ?_
 obtain⟨q,J,rfl,hle,g⟩:=f;cases hgo:Ai s on with
 |none=>
  simp[hgo]at g⊢;exact gG<|dn [] ⟨k.sm.es,k.sm.n,J,hle,h.up hle,rfl⟩
 |some o=>
  simp[hgo]at g⊢;by_cases hk:o.kind=5;rw[AW hk];refine gg [(24,Ct (o.kind:Int) 5 oG)] ?_;have b:=AS8 J o.var q id hi (t _ _ hgo) (r _ _ hgo) g;cases i:Jk o.var id with
  |none=>
   rw[i]at b;simp[Option.getD_none,VV]at b⊢;exact CK b kR λq2 p a l=>gG<|dn [] ⟨k.sm.es,k.sm.n,p,hle.trans a,h.up (hle.trans a),rfl⟩
  |some x=>
   rw[i]at b;simp[TB,VW]at b⊢;have u:x.q.length<=1000000:=by have h1:=r _ _ hgo;unfold Jk at i;split at i;cases i;cases i;simp only;have:=ADy o.var.q (by assumption);omega
   refine CK b kR λq2 p a l=>gG ?_;have d:=hle.trans a
   refine Ag (AKq p s k.sm.es k.sm.ns k.sm.n k.sm.m on {o with var:=x} q2 z u l (h.up d)) PU [1,2,3] kR (λkey y f kb c=>by obtain⟨es',n',J,_,_,rfl⟩:=f;simp[BD,B3,_root_.or_false]at c⊢;rcases c with rfl|rfl|rfl<;>simp) λy f=> ?_
   obtain⟨es',n',A,j,m,rfl⟩:=f;exact gG<|dn [] ⟨es',n',A,d.trans j,m,rfl⟩
  rw[AN hk];exact gg [(24,FJ (o.kind:Int) 5 oG)]<|dn [] ⟨k.sm.es,k.sm.n,J,hle,h.up hle,rfl⟩
def DD.mono{c d:Type}{R S}(h:∀a b,R a b->S a b):∀ {l:AA c} {m:AA d},DD R l m->DD S l m
 |_,_,.nil=>.nil
 |_,_,.cons a b=>.cons (h _ _ a) (b.mono h)
def DO.A8{I J}(hle:I.Cd J){s es}(h:DO I s es):DO J s es:=⟨h.perm.imp λ_ ⟨a,b⟩=>⟨a,b.mono λ_ _ ⟨x,q,y,z⟩=>⟨x,q,y,Co.A8 hle z⟩⟩,h.nd,h.nm⟩
def EO.forget{I s L a ck}(h:EO I s L a ck)(on b):EO I (Gt s on b) L a ck:=by unfold Gt;split;split;split;exact h.set _ _;exact h;exact h;exact h
def TQ(I:AB)(L:AA Rw)(k:BJ)(g:Ak)(c:Nat)(f:Tm)(e:Ao):Nat->AU->Prop:=λ_ h=>∃(b:AY Ah)(i:Nat)(a:Sm)(d:AA Rw)(J:AB),CU I L J d/\DO J f b/\DJ J e a.es a.n/\EO J e d a.ns a.m/\h= {r:=.t [],upd:=BN {k with es:=b,n:=i,sm:=a} g c,J:=J}
def AMD{I L k d a e n}:E3 (TQ I L k d a e n) (BN k d a) I:=by refine⟨?_⟩;rintro m h ⟨f,q,o,p,J,j,_,_,_,rfl⟩;exact⟨⟨nA,(λl c=>Dr l c),nA,sP,sP⟩,j.le⟩
structure AEB(I:AB)(T:Tm)(s s1:Ao)(L:AA Rw)(k:BJ)(t:AJ)(a:CV)(i:Nat):Prop where
 pow:Pow I
 AD:Co I t a
 id:Bg t.id
 sc:i<t.scopes.length
 X7:t.scopes.length<=900000
 MY:t.c.stack.length<=900000
 g:Bo t.g.cur
 gs:∀s∈t.scopes,Bo s.l
 ok:Eg s1 (t.scopes.getD i Af).name (GR t i)
 ol:Bo (GR t i).l
 len:s1.length<=900000
 tm:DO I T k.es
 Bm:DJ I s k.sm.es k.sm.n
 Cq:EO I s L k.sm.ns k.sm.m
def ASf(I T s L k x)(h:Nat)(t a)(i:Nat)(G:t.status≠1)(D:AEB I T s s L k t a i):
 Fn 40 [.p 1 0,.g (CG t a),.v (.int .i64 (i:Int))] (BN k x h) I (TQ I L k x h (LW T t.id (Ha t i)) (C0 s (t.scopes.getD i Af).name (GR t i))) none:=by
 have u:=AIN I t a i D.sc D.X7 D.MY D.g D.gs D.AD;refine Bh func40 AMD λH o w A=>gg [(11,hN (t.status:Int) 1 oG)]<|CK u kR λC J hle E=>gG<|Ag (Vw J (Pow.A8 hle.Cg D.pow) s k.sm.es k.sm.ns k.sm.n k.sm.m L (t.scopes.getD i Af).name (GR t i) GI D.ok D.ol (by show(0:Nat)<=_;omega) Lg (D.Bm.up hle) (D.Cq.up hle) D.len) PU [1,2,3] kR (λo y e B d=>by obtain⟨c,j,p,z,L',J,_,_,_,_,_,rfl⟩:=e;simp[mS]at d⊢;rcases d with rfl|rfl|rfl<;>simp) λy e=> ?_
 obtain⟨c,j,p,z,L',q,b,m,l,f,g,rfl⟩:=e;have v:CU I L q L':=CU.trans (L':=L) (.of hle) ⟨b,f,g⟩
 refine gG<|Ag (Qb q {k with sm:=⟨c,p,j,z⟩} x h T (Ha t i) C D.id (Co.A8 b E) (DO.A8 (hle.Cg.trans b) D.tm)) [] [1,2,3,4,5] kR (λo y e B d=>by obtain⟨c,p,_,rfl⟩:=e;exact(Dr (key:=0) (nb:=[]) B d).1) λy e=> ?_
 obtain⟨r,F,n,rfl⟩:=e;exact gG<|dn [] ⟨r,F,⟨c,p,j,z⟩,L',q,v,n,m,l,rfl⟩
def ASg(I T s L k B)(f:Nat)(t a)(i:Nat)(Z:t.status=1)(M:Bg t.on)(N:∀n o,Ai s n=some o->∀y∈o.var.q,Bg y.id)(V:∀n o,Ai s n=some o->o.var.q.length<=900000)(D:AEB I T s (Gt s t.on t.id) L k t a i):
 Fn 40 [.p 1 0,.g (CG t a),.v (.int .i64 (i:Int))] (BN k B f) I (TQ I L k B f (LW T t.id (Ha t i)) (C0 (Gt s t.on t.id) (t.scopes.getD i Af).name (GR t i))) none:=by
 have H:=AQp I k B f s t.on t.id M D.id N V D.Bm;have r:=D.Cq.forget t.on t.id;refine Bh func40 AMD λρ p w Q=>gg [(11,hE (t.status:Int) 1 oG)]<|Ag H [] [1,2,3,4,5] kR (λp y d C b=>by obtain⟨c,A,J,_,_,rfl⟩:=d;exact(Dr (key:=0) (nb:=[]) C b).1) λy d=> ?_
 obtain⟨F,W,R,g,j,rfl⟩:=d;have v:=D.ok;have hlen:=D.len;generalize Gt s t.on t.id=Y at v hlen r j⊢;have K:=AIN R t a i D.sc D.X7 D.MY D.g D.gs (D.AD.up g);refine gG<|CK K kR λS J h U=> ?_;have hle:=g.trans h;refine gG<|Ag (Vw J (Pow.A8 hle.Cg D.pow) Y F k.sm.ns W k.sm.m L (t.scopes.getD i Af).name (GR t i) GI v D.ol (by show(0:Nat)<=_;omega) Lg (j.up h) (r.up hle) hlen) PU [1,2,3] kR (λp y d C b=>by obtain⟨c,q,A,P,L',J,_,_,_,_,_,rfl⟩:=d;simp[mS]at b⊢;rcases b with rfl|rfl|rfl<;>simp) λy d=> ?_
 obtain⟨c,q,A,P,L',E,e,x,u,l,m,rfl⟩:=d;have O:CU I L E L':=CU.trans (L':=L) (.of hle) ⟨e,l,m⟩
 refine gG<|Ag (Qb E {k with sm:=⟨c,A,q,P⟩} B f T (Ha t i) S D.id (Co.A8 e U) (DO.A8 (hle.Cg.trans e) D.tm)) [] [1,2,3,4,5] kR (λp y d C b=>by obtain⟨c,A,_,rfl⟩:=d;exact(Dr (key:=0) (nb:=[]) C b).1) λy d=> ?_
 obtain⟨G,X,z,rfl⟩:=d;exact gG<|dn [] ⟨G,X,⟨c,A,q,P⟩,L',E,O,z,x,u,rfl⟩
def N0{P:Program}{L:Lay}(s:Dg P L){t a b km n n0:Nat}{z0:List Value}{kt et:TypeId}{d1:TypeDesc}{es:Array MapEntry}{kv:Value}{j:Nat}{xs:List Value}{I:AB}(m:L.get t=some ⟨n0,z0,.map kt et⟩)(c:P.underlying kt=some d1)(d:MapKept.IsKey d1 kv)
 (u:Instr.findNow d1 kv es.toList 0=some (some (j,.agg xs.toArray))):
 ∀key tm (o:Oper),o.op=.lookup t (.tmp a) (.tmp b) false->(∀p∈[(a,SV.m km),(b,SV.v kv)],tm p.1=p.2)->LS P o tm key [(km,.obj (.map es n))] I (.g (xs.map .v)) none:=by
 intro key tm o l e;have ha:=Cy e (s:=a) (x:=.m km) sP;have hb:=Cy e (s:=b) (x:=.v kv) sP;obtain⟨i0,A,z,v,h,y,k,x,f⟩:=Ca (s.get m);have:=U5 k;subst this;intro ρ ac w he hN _ _ _;refine⟨w,?_,BB.refl w⟩;have q:=he (.tmp a) (by simp[l,Op.operands]);have r:=he (.tmp b) (by simp[l,Op.operands]);simp only[ev,ha,hb,den]at q r;have g:=hN (km,.obj (.map es n)) sP _ rfl;have i:=MapKept.run_findKey (P:=P) (w:=w) c u;simp[execOp,l,q,r,Instr.lookup,run_underlying h,MapKept.run_getObj_map g,MapKept.run_checkKey c d,i,Result.andThen,den,Fu]
abbrev W6(k:BJ)(b:Ak)(a:Nat):AA (Nat×AG):=[(1,.cells (k.row b a) 107),(2,.obj (.map k.es k.n)),(3,.cells [.m 4,.m 5] 178),(4,.obj (.map k.sm.es k.sm.n)),(5,.obj (.map k.sm.ns k.sm.m)),(6,.cells [.p 1 0] 27)]
def ZU(I:AB)(L:AA Rw)(k:BJ)(g:Ak)(c:Nat)(f:Tm)(e:Ao):Nat->AU->Prop:=λ_ h=>∃(b:AY Ah)(i:Nat)(a:Sm)(d:AA Rw)(J:AB),CU I L J d/\DO J f b/\DJ J e a.es a.n/\EO J e d a.ns a.m/\h= {r:=.t [],upd:=W6 {k with es:=b,n:=i,sm:=a} g c,J:=J}
def AME{I L k i c o v}:E3 (ZU I L k i c o v) (W6 k i c) I:=by refine⟨?_⟩;rintro j h ⟨f,u,l,w,J,t,_,_,_,rfl⟩;refine⟨⟨nA,(λm g=> ?_),nA,sP,sP⟩,t.le⟩;rcases BA.1 (show m∈BN {k with es:=f,n:=u,sm:=l} i c++[(6,.cells [.p 1 0] 27)]from g)with q|q;let⟨a,p⟩:=Dr (key:=j) (nb:=[]) m q;refine⟨?_,λx d=> ?_⟩;simp[mS]at a;rcases a with e|e|e|e|e<;>rw[e]<;>simp;rcases p x d with a|a;simp[mS]at a;left;rcases a with e|e|e|e|e<;>rw[e]<;>simp;exact .inr a;rw[AP.1 q];exact⟨sP,λx d=>.inl (by simp[AG.keys,Ax,SV.keys]at d;rw[d];simp)⟩
def ANs(I:AB)(T:Tm)(s:Ao)(L:List Rw)(k:BJ)(im:Ak)(now:Nat)(t:AJ)(id:Nm)(hid:Bg id)(d:HY T id=some t)(hd:Np t now=none)(hl:t.scopes.length<=1000000)(hT:DO I T k.es)(hS:DJ I s k.sm.es k.sm.n)(hN:EO I s L k.sm.ns k.sm.m):
 Fn 38 [.v (.string (AR id)),.p 6 0] (W6 k im now) I (ZU I L k im now T s) none:=by
 obtain⟨j,a,h1,ha,_⟩:=(hT.find hid).2 t d;have b:=AGO I t a now hl ha;rw[hd]at b;refine Bh Tryz.func38 AME λρ key w c=> ?_;refine gg [(10,.hand _ [(8,.m 2),(9,.v (.string (AR id)))] [(2,.obj (.map k.es k.n))] I _ (N0 A6 (L:=lay) (t:=104) (a:=8) (b:=9) (km:=2) (n:=k.n) (kt:=9) (et:=53) (d1:=.string) (es:=k.es) (kv:=.string (AR id)) (j:=j) (xs:=DV t a) (I:=I) rfl Cm trivial h1))] ?_;refine call b kR ?_;refine gG ?_;exact dn [] ⟨k.es,k.n,k.sm,L,I,.refl _ _,hT,hS,hN,rfl⟩
def ANt(I:AB)(T T':Tm)(s':Ao)(L:List Rw)(k:BJ)(im:Ak)(now:Nat)(t:AJ)(id:Nm)(i:Nat)(hid:Bg id)(p:HY T id=some t)(hd:Np t now=some i)(hl:t.scopes.length<=1000000)(e:DO I T k.es)
 (h: ∀a,Co I t a->Fn 40 [.p 1 0,.g (CG t a),.v (.int .i64 (i:Int))] (BN k im now) I (TQ I L k im now T' s') none):
 Fn 38 [.v (.string (AR id)),.p 6 0] (W6 k im now) I (ZU I L k im now T' s') none:=by
 obtain⟨j,a,h1,ha,_⟩:=(e.find hid).2 t p;have b:=AGO I t a now hl ha;rw[hd]at b;have c:=h a ha;refine Bh Tryz.func38 AME λρ key w o=> ?_;refine gg [(10,.hand _ [(8,.m 2),(9,.v (.string (AR id)))] [(2,.obj (.map k.es k.n))] I _ (N0 A6 (L:=lay) (t:=104) (a:=8) (b:=9) (km:=2) (n:=k.n) (kt:=9) (et:=53) (d1:=.string) (es:=k.es) (kv:=.string (AR id)) (j:=j) (xs:=DV t a) (I:=I) rfl Cm trivial h1))] ?_;refine call b kR ?_;refine gg [(18,hT ((i:Int)≥0) oG)] ?_;refine Ag c [] [1,2,3,4,5] kR (λkey y f kb g=>by obtain⟨es',n',d,L',J,_,_,_,_,rfl⟩:=f;exact(Dr (key:=0) (nb:=[]) kb g).1) λy f=> ?_
 obtain⟨es',n',d,L',J,hs,n,m,l,rfl⟩:=f;refine gG ?_;exact dn [] ⟨es',n',d,L',J,hs,n,m,l,rfl⟩
def AEP(I:AB)(k:BJ)(c:Ak)(b:Nat)(e:Tm):Nat->AU->Prop:=λ_ h=>∃(a:AY Ah)(d:Nat)(J:AB),I.le J/\DO J e a/\h= {r:=.t [],upd:=BN {k with es:=a,n:=d} c b,J:=J}
def AZc{I k d a l}:CO (AEP I k d a l) (BN k d a) I:=by refine⟨?_⟩;rintro j h ⟨e,m,J,hle,_,rfl⟩;exact⟨⟨nA,(λi c=>Dr i c),nA,sP,sP⟩,hle⟩
def ASm(I k s c T t e b f g B)(hid:Bg e)(p:Bg t.id)(E:HY T e=some t)(o:t.c.stack.length<=1000000)(r:b.length<=1000000)(F:EE I b f g B)(h:DO I T k.es):
 Fn 55 [.p 1 0,.g [.v (.string (AR e)),.v (.slice f b.length g)]] (BN k s c) I (AEP I k s c (LW T t.id (DC t b))) none:=by
 let⟨j,a,D,v,_⟩:=(h.find hid).2 t E;have G:Fn 108 [.g (CG t a),.v (.slice f b.length g)] [] I (OW I (DC t b)) none:=by
  cases b with
  |nil=>exact AL6 I t a f g v
  |cons x l=>exact AZI I t a (x::l) f g B sP r o F v
 refine fo func55 AZc λK u w z=>gg [(13,.hand _ [(10,.m 2),(12,.v (.string (AR e)))] [(2,.obj (.map k.es k.n))] I _ (O9 A6 (L:=lay) (t:=104) (a:=10) (b:=12) (km:=2) (n:=k.n) (kt:=9) (et:=53) (d1:=.string) (es:=k.es) (kv:=.string (AR e)) (j:=j) (xs:=DV t a) (I:=I) rfl Cm A0 D))]<|CK G kR λC J hle i=>gG<|Ag (Qb J k s c T (DC t b) C p i (DO.A8 hle.Cg h)) [] [1,2,3,4,5] kR (λu y m H n=>by obtain⟨d,A,_,rfl⟩:=m;exact(Dr (key:=0) (nb:=[]) H n).1) λy m=> ?_
 obtain⟨d,A,q,rfl⟩:=m;exact gG<|dn [] ⟨d,A,J,hle,q,rfl⟩
structure Bq(I:AB)(P:AA Nat)(J:AB)(a:AA Nat):Prop where
 le:I.Cd J
 keep:∀x y,I.has x y->x∉P->J.has x y
 rows:∀x∈a,x∈P\/∀y,¬I.has x y
def Bq.of{I J P}(h:I.le J):Bq I P J P:=⟨h.Cg,λx y a _=>h.own x y a,λ_ a=>.inl a⟩
def Bq.refl(I P):Bq I P I P:=.of (AB.le_refl I)
def Bq.trans{I J K P c a}(h:Bq I P J c)(k:Bq J c K a):Bq I P K a where
 le:=h.le.trans k.le
 keep x y hx hne:=k.keep x y (h.keep x y hx hne) λd=>by rcases h.rows x d with h0|b;exact hne h0;exact b y hx
 rows x hx:=by rcases k.rows x hx with h0|b;exact h.rows x h0;by_cases hex:x∈P;exact .inl hex;exact .inr λy e=>b y (h.keep x y e hex)
def Bq.cast{I J P a Q b}(h:Bq I P J a)(e:P=Q)(c:a=b):Bq I Q J b:=by subst e;subst c;exact h
def CU.toP{I J L L'}(h:CU I L J L')(E):Bq I (L.map (·.b)++E) J (L'.map (·.b)++E) where
 le:=h.le
 keep x y a hne:=h.keep x y a λr b e=>hne (E2 _ (BG.2 ⟨r,b,e⟩))
 rows x a:=by rcases BA.1 a with a|a;let⟨r,b,e⟩:=BG.1 a;rcases h.rows r b with⟨r0,h0,c⟩|hn;exact .inl (E2 _ (BG.2 ⟨r0,h0,c.trans e⟩));exact .inr (by rw[<-e];exact hn);exact .inl (GJ _ a)
structure CE(I:AB)(size:Nat)(e:Av)(Aa:AA AE)(s:Aq):Prop where
 n:Aa.length=s.n*size
 one:∀v∈Aa,v.oneCell'
 at_:(s.n=0/\s.a=none/\s.c=0)\/∃b AC,s.a=some ⟨b,0,none⟩/\I.has b (.cells (Aa++AC).toArray e (0,0))/\Aa.length+AC.length=s.c*size/\s.n<=s.c/\s.c<=maxLen
def AD6(I:AB)(a:AK Ac)(g:Nat)(e:Av)(n:Nat)(f:AA AE):AU->Prop:=λh=>
 ∃b c d,h= {r:=.v (.slice (some ⟨b,0,none⟩) n c),J:=I.plus b (.cells (f++d).toArray e (0,0))}/\f.length+d.length=c*g/\n<=c/\c<=maxLen/\I b=none/\(A7 a=some b\/I.free b)
def Il{I a f e n j g d}:∀h,AD6 I a f e n g h->h.wf I j d []:=by rintro h ⟨b,c,l,rfl,_⟩;exact⟨nA,nA,nA,sP,λ_ _ h=>h,sP⟩
def Im{P}{L}(hL:Dg P L){o}{tm}{key}{need}{I}{t e size}{x}{s}{m}{olds news}(hT:FE P L t e size)(G:Nj tm o.op=some (t,.v (.slice s.a s.n s.c),x))
 (M:CE I size e olds s) (H:Reads I need x size m news) (hm:0<m) (hB:s.n+m<=16777216):HS P o tm key need I (AD6 I s.a size e (s.n+m) (olds++news)) none:=by
 obtain⟨sa,n,cap⟩:=s;obtain⟨l,af,p⟩:=M;simp only at G l af p hB⊢;refine⟨?_⟩;intro ρ ac w he hN O al aj am aq next Q hnext _;obtain⟨⟨z0,ag⟩,⟨ze,ke,Z,ai⟩,hb⟩:=hT;obtain⟨i,d,z,hi,hd,hz,aa,ar,hzero⟩:=Ca (hL.get ag);obtain⟨k,de,F,B,ak,U,an,y,D⟩:=Ca (hL.get Z);have Y:=Ib aa;subst Y;simp only at y;subst y;unfold V6 at hb;rw[B]at hb;simp only[Bool.and_eq_true]at hb;have W:=Nat.le_of_ble_eq_true hb.1;have fits:(n+m)*k.bytes<=140737488355328:=by have:=Nat.mul_le_mul hB W;omega
 have cm: ∀w:World,grownCap w (n+m) cap e<=maxLen:=λw=>grownCap_le_maxLen w (n+m) cap e (by unfold maxLen;omega);have V:F.cells.size=k.size:=by rw[<-Array.length_toList,<-D];exact ai
 have hlen:(olds++news).length=(n+m)*k.size:=by rw[List.length_append,l,H.len,Nat.add_mul]
 have fin: ∀(E:World) (f q:Nat) (AC:List Value),n+m<=f->f<=maxLen->AC.length=(f-(n+m))*k.size->E.os=w.os->E.tape=w.tape->E.output=w.output->w.heap.size<=E.heap.size->(∀b,b<w.heap.size->b≠q->E.heap[b]? =w.heap[b]?)->
  E.heap[q]? =some (.cells ((olds++news)++AC).toArray e (0,0))->I q=none->((I.own q).isSome=true\/w.heap.size<=q)->(A7 sa=some q\/I.free q)->(Builtin.append_ #[t,t] o.type #[den ρ (.v (.slice sa n cap)),den ρ x]).run P w=.ok (.slice (some ⟨q,0,none⟩) (n+m) f) E->o.wp P ac w next Q:=by
  intro E f q AC h1 h2 hj N V e3 e4 K hq p hnew C S;have hex:=Td (P:=P) G he S;unfold Oper.wp;rw[hex,Oper.upon_value];have hA:=TZ (ρ:=ρ) (key:=key) (r:=.v (.slice (some ⟨q,0,none⟩) (n+m) f)) O N V e3 e4 hq p hnew K;refine hnext rfl _ E (λ_=>0) ⟨q,f,AC,rfl,?_,h1,h2,p,C⟩ hA;rw[hlen,hj,<-Nat.add_mul];congr 1;omega
 rcases H.at_ ρ w hN O with⟨c,N,rfl⟩|⟨ad,c,N,g⟩;omega;rcases p with⟨rfl,rfl,rfl⟩|⟨b,a,rfl,v,ah,ap,X⟩;have ae:olds=[]:=List.eq_nil_of_length_eq_zero (by rw[l];simp);subst ae;have M:=run_append_nil (P:=P) w t o.type e k F hd B U ad m c news H.len g oG oG (by have:=fits;rw[Nat.zero_add]at this;omega);have r:=Ns O (Nat.le_refl w.heap.size);refine fin (w.drew.alloc (.cells (([]:List Value).toArray++news.toArray++Builtin.zeroCells F.cells (grownCap w m 0 e-m)) e)) (grownCap w m 0 e) w.heap.size (Builtin.zeroCells F.cells (grownCap w m 0 e-m)).toList (by rw[Nat.zero_add];exact grownCap_ge w m 0 e) (by have:=cm w;rw[Nat.zero_add]at this;exact this) (by rw[Array.length_toList,size_zeroCells,V,Nat.zero_add]) rfl rfl rfl ?_ (λb hb _=>heap_alloc_old w.drew _ hb) ?_ r.1 (.inr (Nat.le_refl _)) (.inr r) ?_;show w.heap.size<=(w.heap.push _).size;rw[Array.size_push];omega;have:=Qn w.drew (.cells (([]:List Value).toArray++news.toArray++Builtin.zeroCells F.cells (grownCap w m 0 e-m)) e);refine Eq.trans this ?_;congr 2;apply Array.ext';simp;rw[N];simp only[den];simpa using M;have A:=O.2 b _ v.own;have ao:=Dh A;have J: ∀j u,olds[j]? =some u->w.cell? ((⟨b,0,none⟩:Addr).add j)=some u:=by have:=Re (off:=0) (n:=n*k.size) A;simp only[List.drop_zero]at this;rw[List.take_append_of_le_length oG,List.take_of_length_le oG]at this;exact this
 have T:(olds++a).length=cap*k.size:=by rw[List.length_append];exact ah
 by_cases h:n+m<=cap;have R:n*k.size+news.length<=(olds++a).toArray.size:=by have:=Nat.mul_le_mul_right k.size h;rw[H.len];simp only[List.size_toArray,T];rw[Nat.add_mul]at this;exact this
 have M:=run_append_room (P:=P) w t o.type e k hd B b n cap (olds++a).toArray A ad m c news H.len g H.one h R;refine fin (w.setRow b ((olds++a).toArray.toList.take (n*k.size)++news++(olds++a).toArray.toList.drop (n*k.size+news.length)).toArray) cap b ((olds++a).drop (n*k.size+news.length)) h X ?_ rfl rfl rfl (by rw[BB.setRow];exact Nat.le_refl _) (λb' _ ab=>G4 λq=>ab q.symm) ?_ v.at_ (.inl (by rw[v.own];rfl)) (.inl rfl) (by rw[N];exact M);rw[List.length_drop,T,H.len,<-Nat.add_mul,Nat.sub_mul];rw[Js A];have:(olds++a).take (n*k.size)=olds:=by rw[List.take_append_of_le_length oG,List.take_of_length_le oG]
 simp[this];have M:=run_append_grow (P:=P) w t o.type e k F hd B U ⟨b,0,none⟩ n cap olds l J ad m c news H.len g oG oG (growslice_fits oG fits);have r:=Ns O (Nat.le_refl w.heap.size);refine fin (w.drew.alloc (.cells (olds.toArray++news.toArray++Builtin.zeroCells F.cells (grownCap w (n+m) cap e-(n+m))) e)) (grownCap w (n+m) cap e) w.heap.size (Builtin.zeroCells F.cells (grownCap w (n+m) cap e-(n+m))).toList (grownCap_ge w _ _ e) (cm w) (by rw[Array.length_toList,size_zeroCells,V]) rfl rfl rfl ?_ (λb hb _=>heap_alloc_old w.drew _ hb) ?_ r.1 (.inr (Nat.le_refl _)) (.inr r) (by rw[N];exact M);show w.heap.size<=(w.heap.push _).size;rw[Array.size_push];omega;have:=Qn w.drew (.cells (olds.toArray++news.toArray++Builtin.zeroCells F.cells (grownCap w (n+m) cap e-(n+m))) e);refine Eq.trans this ?_;congr 2;apply Array.ext';simp[List.append_assoc]
def NF{I}{b}{o}{a}{P1 P2}(hb:I b=none)(hw:A7 a=some b\/I.free b):Bq I (P1++(A7 a).toList++P2) (I.plus b o) (P1++[b]++P2) where
 le:=λ_ _ h=>h
 keep x y hx hne:=by refine MU hx λe=> ?_;subst e;rcases hw with h|h;exact hne (by rw[h];simp);have:=hx.own;rw[h.2]at this;cases this
 rows x hx:=by
  simp only[BA,AP]at hx;rcases hx with(hx|hx)|hx;exact .inl (by simp[hx]);subst hx;rcases hw with h|h;exact .inl (by rw[h];simp);exact .inr λy c=>by have:=c.own;rw[h.2]at this;cases this
  exact .inl (by simp[hx])
def D9(l:AA AJ):Tm:=l.map λt=>(t.id,t)
def LM(l id):HY (D9 l) id=Aw l id:=by unfold HY D9 Aw;rw[ADu];show Option.map _ (Option.map _ (l.find? λt=>t.id==id))=_;cases l.find? (λt=>t.id==id)<;>rfl
def DO.SK{I T T' es}(h:DO I T es)(p:T.Perm T'):DO I T' es:=by let⟨l,a,b⟩:=h.perm;exact⟨⟨l,a.trans p,b⟩,((p.map _).nodup_iff).1 h.nd,λx c=>h.nm x ((p.mem_iff).2 c)⟩
def SO(l t):(LW (D9 l) t.id t).Perm (D9 (B5 l t)):=by
 unfold LW B5;rw[LM];cases h:Aw l t.id with
 |none=>
  simp[VV,Me,Gn];refine List.Perm.trans ?_ ((ABa l t).map _).symm;show(D9 l++[(t.id,t)]).Perm ((t.id,t)::D9 l);exact List.perm_append_singleton _ _
 |some u=>
  simp[VW,Lq];refine List.Perm.of_eq ?_;unfold D9 Az;rw[HA,HA];apply Ih;intro x _;show I1 t.id t (x.id,x)=((if x.id==t.id then t else x).id,if x.id==t.id then t else x);unfold I1;split<;>rfl
def Qo(l t):(Az l t).map (·.id)=l.map (·.id):=by unfold Az;rw[HA];apply Ih;intro x _;show(if x.id==t.id then t else x).id=x.id;split;rename_i e;exact(eq_of_beq e).symm;rfl
def Dn(f:F0):AA AE:=[.int .i64 f.now,.string (AR f.id),.string (str f.l.1),.string (str f.l.2)]++Au f.v
def FM(x:Lk):AA AE:=[.int .i64 x.now,.string (AR x.id)]++QK x.e
def Bb(L:AA Rw)(m:BJ):AA Nat:=L.map (·.b)++((A7 m.BH.a).toList++((A7 m.CQ.a).toList++(A7 m.lk.a).toList))
structure Bl(I:AB)(L:AA Rw)(k:Ab)(m:BJ):Prop where
 tab:DK I
 pow:Pow I
 img:D3 I k.im m.ip
 tm:DO I (D9 k.AD) m.es
 Bm:DJ I k.Ar m.sm.es m.sm.n
 Cq:EO I k.Ar L m.sm.ns m.sm.m
 BH:CE I 1 9 ((k.AD.map (·.id)).map A5) m.BH
 CQ:CE I 9 154 (k.facts.flatMap Dn) m.CQ
 lk:CE I 8 63 (k.BQ.flatMap FM) m.lk
 nd:(Bb L m).Nodup
def CE.has{I a e c s}(h:CE I a e c s):∀x∈(A7 s.a).toList,∃y,I.has x y:=λx d=>by
 rcases h.at_ with⟨_,q,_⟩|⟨b,f,q,g,_⟩;rw[q]at d;cases d;rw[q]at d;have:x=b:=by simpa[A7]using d
 exact⟨_,by rw[this];exact g⟩
def Bl.hasAll{I}{L}{k}{m}(h:Bl I L k m): ∀x∈Bb L m,∃y,I.has x y:=λx a=>by unfold Bb at a;simp only[BA]at a;rcases a with a|a|a|a;let⟨r,b,e⟩:=BG.1 a;exact⟨_,by rw[<-e];exact(h.Cq.has r b).1⟩;exact h.BH.has x a;exact h.CQ.has x a;exact h.lk.has x a
def CE.keep{I J a e c s}(h:CE I a e c s)(k:∀b∈(A7 s.a).toList,∀y,I.has b y->J.has b y):CE J a e c s:=by refine⟨h.n,h.one,?_⟩;rcases h.at_ with q|⟨b,d,f,g,i⟩;exact .inl q;exact .inr ⟨b,d,f,k b (by rw[f];simp[A7]) _ g,i⟩
def EO.keep{I J s L c ck}(h:EO I s L c ck)(k:∀b∈L.map (·.b),∀y,I.has b y->J.has b y):EO J s L c ck:={h with has:=λr a=>⟨k r.b (BG.2 ⟨r,a,rfl⟩) _ (h.has r a).1,(h.has r a).2⟩}
def Bl.keep{I J}{L}{k}{m}(h:Bl I L k m)(hle:I.Cd J)(hk: ∀b∈Bb L m,∀y,I.has b y->J.has b y):Bl J L k m where
 tab:=DK.A8 hle h.tab
 pow:=Pow.A8 hle h.pow
 img:=D3.A8 hle h.img
 tm:=DO.A8 hle h.tm
 Bm:=DJ.A8 hle h.Bm
 Cq:=h.Cq.keep λb hb=>hk b (by unfold Bb;exact E2 _ hb)
 BH:=h.BH.keep λb hb=>hk b (by unfold Bb;simp only[BA];exact .inr (.inl hb))
 CQ:=h.CQ.keep λb hb=>hk b (by unfold Bb;simp only[BA];exact .inr (.inr (.inl hb)))
 lk:=h.lk.keep λb hb=>hk b (by unfold Bb;simp only[BA];exact .inr (.inr (.inr hb)))
 nd:=h.nd
def Bl.up{I J L k m}(h:Bl I L k m)(hle:I.le J):Bl J L k m:=h.keep hle.Cg λb _ y a=>hle.own b y a
def HH(I:AB)(P:AA Nat)(r:SV)(a:Ab):Nat->AU->Prop:=λ_ h=>∃b c J,h= {r:=r,upd:=BN b a.im a.now,J:=J}/\Bq I P J (Bb c b)/\Bl J c a b
def Jy{I P r j m i c}(f:r.keys=[]):E3 (HH I P r j) (BN m i c) I:=by refine⟨?_⟩;rintro n h ⟨p,o,J,rfl,g,_⟩;exact⟨⟨(λk d=>by rw[f]at d;cases d),(λl a=>Dr l a),nA,sP,sP⟩,g.le⟩
def LX{I P r d}:∀(a:Nat)(h:AU),HH I P r d a h->∀c∈h.upd,c.1∈[1,2,3,4,5]:=by rintro a h ⟨f,e,J,rfl,_⟩ c b;exact(Dr (key:=0) (nb:=[]) c b).1
def ZV(I:AB)(P:AA Nat)(o:Aq)(b:Ab):Nat->AU->Prop:=λ_ h=>∃a c J,h= {r:=.t [],upd:=BN a b.im b.now,J:=J}/\Bq I P J (Bb c a)/\Bl J c b a/\a.BH=o
def AZZ{I P o i m g c}:E3 (ZV I P o i) (BN m g c) I:=by refine⟨?_⟩;rintro l h ⟨p,n,J,rfl,f,_⟩;exact⟨⟨nA,(λj a=>Dr j a),nA,sP,sP⟩,f.le⟩
def AKB{I P o d}:∀(a:Nat)(h:AU),ZV I P o d a h->∀c∈h.upd,c.1∈[1,2,3,4,5]:=by rintro a h ⟨f,e,J,rfl,_⟩ c b;exact(Dr (key:=0) (nb:=[]) c b).1
def AB8{A B:List Nat}{a:Option Nat}{b:Nat}(h:(A++(a.toList++B)).Nodup)(hw:a=some b\/(b∉A/\b∉B)):(A++([b]++B)).Nodup:=by rcases hw with rfl|⟨h1,f⟩;exact h;rw[List.nodup_append]at h⊢;obtain⟨i,d,n3⟩:=h;rw[List.nodup_append]at d;refine⟨i,List.nodup_cons.2 ⟨f,d.2.1⟩,λx c y g e=> ?_⟩;rcases List.mem_cons.1 g with q|q;subst q;subst e;exact h1 c;exact n3 x c y (List.mem_append_right _ q) e
def ACM{I c s}(h:CE I 1 9 (c.map A5) s):OX I c s.a s.c/\s.n=c.length:=by
 have i:s.n=c.length:=by have:=h.n;rw[C6]at this;omega
 refine⟨⟨?_⟩,i⟩;rcases h.at_ with⟨q1,q2,q3⟩|⟨b,a,d,e,f,j,g⟩;exact .inl ⟨Hm oG,q2,q3⟩;exact .inr ⟨b,a,d,e,by rw[C6]at f;omega,g⟩
def AWf{J d b c a}(h:J.has b (Gh d a))(f:d.length+a.length=c)(e:c<=maxLen):CE J 1 9 (d.map A5) ⟨some ⟨b,0,none⟩,d.length,c⟩:=
 ⟨sP,Sg,.inr ⟨b,a,rfl,h,by rw[C6];show d.length+a.length=c*1;omega,by show d.length<=c;omega,e⟩⟩
def AJq{a}:∀ {b:AA Nm},OY b->a∈b->b[Km b a]? =some a
 |[],_,h=>by cases h
 |x::l,hs,h=>by
  let⟨d,f⟩:=JV.1 hs;unfold Km;rw[Po];by_cases e:x=a;subst e;rw[N1];rfl;have c:a∈l:=by rcases BD.1 h with q|q;exact absurd q.symm e;exact q
  rw[d a c];exact AJq f c
def AVn{a}(c:FY a)(b):decide ((a.map (·.id))[Km (a.map (·.id)) b]? =some b)=(Aw a b).isSome:=by
 have f:OY (a.map (·.id)):=Y1.2 c;cases h:Aw a b with
 |none=>
  rw[IL];rfl;intro e;let⟨t,g,d⟩:=BG.1 (Cv e);have:=MZ c g;rw[d,h]at this;cases this
 |some t=>
  rw[GL (AJq f (BG.2 ⟨t,Ed h,GD h⟩))];rfl
def AR9(AD)(t):(AD.map (·.id)).take (Km (AD.map (·.id)) t.id)++t.id::(AD.map (·.id)).drop (Km (AD.map (·.id)) t.id)=(Ji AD t).map (·.id):=by
 unfold Ji Km;induction AD with
 |nil=>rfl
 |cons x l a=>
  rw[EM,Po,Po,List.dropWhile_cons];split;simp only[EW,Y4,ADp,Fj,EM];rw[a];rfl
structure AMs(I:AB)(L:AA Rw)(k:Ab)(m:BJ)(t:AJ)(a:CV):Prop where
 UG:Bl I L k m
 AD:Co I t a
 id:BY t.id
 ids:∀x∈k.AD,BY x.id
 FB:FY k.AD
 len:k.AD.length<=900000
def AHw(I)(L)(k)(m)(t)(a)(D:AMs I L k m t a):
 Fn 49 [.p 1 0,.g (CG t a)] (BN m k.im k.now) I (HH I (Bb L m) (.t []) {k with AD:=B5 k.AD t}) none:=by
 obtain⟨l,ha,hid,O,C,hlen⟩:=D;obtain⟨v,T⟩:=ACM l.BH;have K:=l.nd;have hP:=l.hasAll;have S:(k.AD.map (·.id)).length<=1000000:=by rw[C6];omega
 have i:=AGn I l.pow (k.AD.map (·.id)) m.BH.a m.BH.c t.id v.ns (λn Y=>by obtain⟨x,d,e⟩:=BG.1 Y;rw[<-e];exact O x d) hid S;have B:=AVn C t.id;have P:=AR9 k.AD t;have hS:OY (k.AD.map (·.id)):=Y1.2 C;obtain⟨ip,es,n,⟨oa,on,oc⟩,CQ,lk,sm⟩:=m;simp only at v T i;subst T;cases A:Aw k.AD t.id with
 |some u=>
  have H:B5 k.AD t=Az k.AD t:=by unfold B5;rw[A];rfl
  have R:(Az k.AD t).map (·.id)=k.AD.map (·.id):=Qo _ _;refine Bh Tryz.func49 (Jy rfl) λρ key w Q=>gG<|CK i kR λp J hle hp=> ?_;obtain⟨pi,Z⟩:=p;obtain⟨U,g⟩:=hp;have g:=g hS;rw[B,A]at g;obtain⟨rfl,rfl⟩:=GY g;refine gG<|Ag (Qb J ⟨ip,es,n,⟨oa,(k.AD.map (·.id)).length,oc⟩,CQ,lk,sm⟩ k.im k.now (D9 k.AD) t a (Ei hid) (Co.A8 hle.Cg ha) (DO.A8 hle.Cg l.tm)) [] [1,2,3,4,5] kR (λkey y o kb s=>by obtain⟨es',n',_,rfl⟩:=o;exact(Dr (key:=0) (nb:=[]) kb s).1) λy o=> ?_
  obtain⟨E,n3,z,rfl⟩:=o;refine gG ?_;have h:=l.up hle;refine dn [] ⟨_,L,J,rfl,.of hle,{h with tm:=z.SK (SO _ _),BH:= ?_,nd:=K}⟩ (h:={r:=.t [],upd:=BN ⟨ip,E,n3,⟨oa,(k.AD.map (·.id)).length,oc⟩,CQ,lk,sm⟩ k.im k.now,J:=J});show CE J 1 9 (((B5 k.AD t).map (·.id)).map A5) _;rw[H,R];exact h.BH
 |none=>
  have H:B5 k.AD t=Ji k.AD t:=by unfold B5;rw[A];rfl
  refine Bh Tryz.func49 (Jy rfl) λρ key w Q=>gG<|CK i kR λp J hle hp=> ?_;obtain⟨pi,Z⟩:=p;obtain⟨U,g⟩:=hp;have g:=g hS;rw[B,A]at g;obtain⟨rfl,rfl⟩:=GY g;refine gG<|Ag (AHf J (k.AD.map (·.id)) oa oc (Km (k.AD.map (·.id)) t.id) t.id (v.up hle) U S) [(2,284)] [] kR (λ_ h' o kb s=>by obtain⟨_,_,_,rfl,_⟩:=o;cases s) λh' o=> ?_;obtain⟨b,c,AC,rfl,N,W,M,F⟩:=o;rw[P,<-H]at N⊢;refine gG ?_;have f:I.Cd (J.plus b (Gh ((B5 k.AD t).map (·.id)) AC)):=hle.Cg;refine Ag (Qb (J.plus b (Gh ((B5 k.AD t).map (·.id)) AC)) ⟨ip,es,n,⟨some ⟨b,0,none⟩,((B5 k.AD t).map (·.id)).length,c⟩,CQ,lk,sm⟩ k.im k.now (D9 k.AD) t a (Ei hid) (Co.A8 f ha) (DO.A8 f l.tm)) [] [1,2,3,4,5] kR (λkey y o kb s=>by obtain⟨es',n',_,rfl⟩:=o;exact(Dr (key:=0) (nb:=[]) kb s).1) λy o=> ?_
  obtain⟨E,n3,z,rfl⟩:=o;refine gG ?_;have h:=l.up hle;have V:=h.hasAll;have G: ∀x∈L.map (·.b)++((A7 CQ.a).toList++(A7 lk.a).toList),x≠b:=λx d e=>by
   subst e;rcases F with q|q;have:(L.map (·.b)++((A7 oa).toList++((A7 CQ.a).toList++(A7 lk.a).toList))).Nodup:=K;rw[q,Fz]at this;obtain⟨_,q2,q3⟩:=this;rcases BA.1 d with d|d;exact q3 x d x sP rfl;exact(Gl.1 q2).1 d;obtain⟨y,X⟩:=V x (by unfold Bb;simp only[BA]at d⊢;rcases d with d|d|d;exact .inl d;exact .inr (.inr (.inl d));exact .inr (.inr (.inr d)))
   have:=X.own;rw[q.2]at this;cases this
  have j: ∀x∈L.map (·.b)++((A7 CQ.a).toList++(A7 lk.a).toList),∀y,J.has x y->(J.plus b (Gh ((B5 k.AD t).map (·.id)) AC)).has x y:=λx d y X=>MU X (G x d);refine dn [] ⟨_,L,_,rfl,Bq.trans (.of hle) ?_,?_⟩ (h:={r:=.t [],upd:=BN ⟨ip,E,n3,⟨some ⟨b,0,none⟩,((B5 k.AD t).map (·.id)).length,c⟩,CQ,lk,sm⟩ k.im k.now,J:=J.plus b (Gh ((B5 k.AD t).map (·.id)) AC)});have:=NF (P1:=L.map (·.b)) (P2:=(A7 CQ.a).toList++(A7 lk.a).toList) (o:=Gh ((B5 k.AD t).map (·.id)) AC) M F;simp only[Dk]at this;exact this
  exact{tab:=DK.A8 f l.tab,pow:=Pow.A8 f l.pow,img:=D3.A8 f l.img,tm:=z.SK (SO _ _),Bm:=DJ.A8 f l.Bm,Cq:=h.Cq.keep λx d=>j x (E2 _ d),BH:=AWf (MS M) N W,CQ:=h.CQ.keep λx d=>j x (by simp only[BA];exact .inr (.inl d)),lk:=h.lk.keep λx d=>j x (by simp only[BA];exact .inr (.inr d)),nd:=AB8 (a:=A7 oa) K (by rcases F with q|q;exact .inl q;exact .inr ⟨λd=>G b (E2 _ d) rfl,λd=>G b (GJ _ d) rfl⟩)}
end
end Go.Proofs.YtomehhepbeiinaaGreatDoor
