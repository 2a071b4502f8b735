/- Part 3 of the proof of TopHidden. No conditions. -/
import Derived.Test.YtomehhepbeiinaaGreatDoorZ02
set_option maxRecDepth 100000
set_option maxHeartbeats 4000000
set_option linter.all false
open Go renaming run_underlying->rU
open Go.Result renaming andThen_ok->aK,andThen->aT
open Go.Builtin renaming zeroCells->zC
open Go.Sem renaming run_bind->rB
open UInt8 renaming ofNat->uN
open Nat renaming beq->bQ
open List renaming replicate->lP,range->lR
open List renaming length->lN
open Option renaming some->sM,none->nO
open Bool renaming true->tT,false->fF
open Go.Value renaming string->vS,bool->vB
open Go.IntKind renaming i64->iK
namespace Go.AX
def BA:AA (Nat×Nat)->Nat->Nat
 |[],k=>k
 |(a,b)::l,k=>match bQ k a with|true=>b|false=>BA l k
def AFg:∀ {c:AA<|Nat×Nat},Kv 100 (c.map (·.1))->∀k,100<=k->BA c k=k
 |[],_,_,_=>rfl
 |(a,b)::l,h,k,hk=>by
  simp[E4,Kv,CJ,TE]at h;simp[BA];have:bQ k a=fF:=by
   cases e:bQ k a with
   |false=>rfl
   |true=>have:=Ha e;omega
  rw[this];exact AFg h.2 k hk
def Ab.rn(a:Nat->Nat)(h:Ab):Ab:={r:=h.r.Bh a,AV:=h.AV.map λb=>(a b.1,b.2.Bh a),nb:=h.nb.map<|AK.Bh a,J:=h.J}
def JU(c:Nat->Nat)(a:AA<|Nat×AK):AA (Nat×AK):=a.map λb=>(c b.1,b.2.Bh c)
def AEr{b:Type}(a:Ae b):Bool:=AAD a.toList
def Yd(c:Nat->SV)(o:Op):AU (Ba×AA SV):=
 match o with
 | .call {callee:=.value f,args:=args,..}=>match ev c f with
   | .v (.func (.func F) a b)=>match AEr a&&AEr b with
     |true=>sM (F,NA c args.toList)
     |false=>nO
   | .fn (.func F) a b=>sM (F,a++NA c args.toList++b)
   |_=>nO
 |_=>nO
def Enters(P:B7)(F:Ba):Prop:=∀a w,(callFunc F a).run P w=.ok (.enter F a) w
def JL{P F a}(g:P.funcs[F]? =sM a)(c:a.body.isSome)(h:(a.name== "runtime.NumGoroutine")=fF):Enters P F:=by
 intro b w;have d: ¬a.name= "runtime.NumGoroutine" :=by simpa using h
 have f: ¬a.body=nO:=by intro e;rw[e]at c;cases c
 simp[callFunc,program,Sem.run,g,d,f]
def ALd{b:Type}{a:Ae b}(h:AEr a):a=#[]:=Lu.1<|AEs h
def ARR{P}{o:Bw}{g F c}(h:Yd g o.op=sM (F,c))(hE:Enters P F){i}{a:Act}(l:∀x∈o.op.operands,a.eval x=AO i (ev g x))(w):
 (execOp a.eval o).run P w=.ok (.enter F (BB i c).toArray) w:=by
 unfold Yd at h;split at h;rename_i f k t j;have m:f∈o.op.operands:=by simp[j,Op.operands,Call.operands]
 have e:(k.map a.eval)=(BB i<|NA g k.toList).toArray:=by apply Lu.1;rw[VG,Hw,Y3,Gk];exact JD λp s=>l p (by simp[j,Op.operands,Call.operands];grind)
 split at h;rename_i n x y d;split at h;rename_i b;cases h;simp[CJ]at b;have q:=ALd b.1;have r:=ALd b.2;subst q r;simp[execOp,j,resolve,l f m,d,AO,Deferred.ofValue,e,rB,Sem.run_pure,aK,invoke];simpa using hE (BB i<|NA g k.toList).toArray w;cases h;rename_i n x y d;cases h;simp[execOp,j,resolve,l f m,d,AO,Deferred.ofValue,e,rB,Sem.run_pure,aK,invoke];have:=hE (BB i<|x++NA g k.toList++y).toArray w
 grind[Ru]
 cases h;cases h
theorem ALS{a b f k}:CX a (b.map f) k=(CX a b k).map f:=by grind[CX]
def ART{P}{o:Bw}{tm F n}{need:AA<|Nat×AK}{I:AB}{Φ C}{d:AA<|Nat×Nat}{c}(t:Yd tm o.op=sM (F,IN (BA d) n))(hE:Enters P F)(M:FC P F n need I Φ C)
 (H:100<=c) (T:Kv 100 (d.map (·.1))) (z:Kv 100 (need.map (·.1))) (v:SL need) (R:nodupB ((JU (BA d) need).map (·.1))):
 HS P o tm c (JU (BA d) need) I (λh'=>∃h,(Φ c h/\h.LD c (need.map (·.1))/\I.Da h.J)/\h'=h.rn (BA d)) C:=by
 refine⟨?_⟩;intro s a w he hN hI ac Z ad af next Q hnext aa;have ab:=AFg T;have ae:=UF z;have N:=UT R;have lv:∀g∈need,g.2.live:=λg f=>EQ.1 v g f;have J:∀g∈need,(BA d g.1,g.2.Bh<|BA d)∈JU (BA d) need:=λg f=>BI.2 ⟨g,f,rfl⟩;have X:∀x∈need,∀y∈need,BA d x.1=BA d y.1->x.1=y.1:=by
  have:(need.map λg=>BA d g.1).Nodup:=by
   have e:(JU (BA d) need).map (·.1)=need.map λg=>BA d g.1:=by simp[JU,Gk,Function.comp_def]
   rwa [e]at N
  intro x hx y hy e;obtain⟨i,Y,rfl⟩:=Kc hx;obtain⟨j,E,rfl⟩:=Kc hy;have:=Wu this (i:=i) (j:=j) (by simpa using Y) (by simpa using E) (by simpa using e);subst this;rfl
 have hc:=M (λk=>s<|BA d k) c w H (λg f B m=>hN _ (J g f) B<|by grind[AK.PH]) hI ((by grind[AK.UJ]))
  ((by grind[AK.UJ]))
 have r:=ARR (P:=P) t hE he w;rw[QV]at r;have K:∀k∈need.map (·.1),¬E8 c (BA d k):=by grind
 unfold Oper.wp;rw[r,Oper.upon_enter];refine hc.mono λe w' O=> ?_;obtain⟨h,q,⟨U,D,hle⟩,A,rfl⟩:=O;have hR:∀k,(k∈need.map (·.1)\/(CX c h.nb k).isSome)->(h.rn<|BA d).Bh s c q (BA d k)=h.Bh (λk=>s<|BA d k) c q k:=by
  intro k L;unfold Ab.Bh Ab.rn;simp[ALS];rcases L with L|L;have h1:CX c h.nb k=nO:=Qw D.l (by grind[E8]);have h2:CX c h.nb (BA d k)=nO:=Qw D.l<|K k L;rw[h1,h2];rfl
  grind[Wo]
 have u:∀x:SV,(∀k∈x.A3,k∈need.map (·.1)\/(CX c h.nb k).isSome)->AO ((h.rn<|BA d).Bh s c q) (x.Bh<|BA d)=AO (h.Bh (λk=>s<|BA d k) c q) x:=by grind[PH,Ko]
 have l:∀b:AK,(∀k∈b.A3,k∈need.map (·.1)\/(CX c h.nb k).isSome)->(b.Bh<|BA d).AO ((h.rn<|BA d).Bh s c q)=b.AO (h.Bh (λk=>s<|BA d k) c q):=by grind[AK.PH,AK.Ko]
 have A':After I s w w' c q (h.rn<|BA d):=by
  refine⟨A.os,A.tape,A.output,A.size,λb p S hO=>A.A2 b p (λg f=>S _<|BI.2 ⟨g,f,rfl⟩) hO,?_,?_,?_,A.H2,?_,?_⟩;intro ag G B m;obtain⟨g,f,rfl⟩:=BI.1 G;let⟨u1,u2⟩:=D.u g f;simp only at m⊢;rw[l g.2 u2]at m;rw[hR g.1<|.inl u1];exact A.AV g f B m;intro j b' E;simp[Ab.rn,GB,L9]at E;obtain⟨b,p,rfl⟩:=E;let⟨n1,n2,V⟩:=A.nb j b p;refine⟨by rwa[l b<|D.n b<|De p],by rwa[AK.UJ],?_⟩;rcases V with V|⟨g,f,e1,e2⟩;exact .inl V;exact .inr ⟨_,BI.2 ⟨g,f,rfl⟩,by simp[e1,AK.Bh],e2⟩;intro i j Y E e;exact A.qi i j (by grind[Ab.rn]) (by grind[Ab.rn]) e;intro b B p;rcases A.fresh b B p with W|⟨q1,q2⟩;exact .inl W
  grind[Ab.rn]
  intro b B p;rcases A.IX b B p with W|⟨q1,q2⟩;exact .inl W
  grind[Ab.rn]
 cases C with
 |none=>
  simp only;rw[<-u h.r D.r];exact hnext rfl (h.rn<|BA d) w' q ⟨h,⟨U,D,hle⟩,rfl⟩ A'
 |some ch=>
  grind
def AMv{h:Ab}{f}{a:List<|Nat×AK}{I:AB}{c:List<|Nat×Nat}(o:h.LD f (a.map (·.1)))(hle:I.Da h.J)(D:100<=f)(B:Kv 100 (c.map (·.1)))(m:SL a)(A:nodupB ((JU (BA c) a).map (·.1))):
 (h.rn<|BA c).wf I f (JU (BA c) a) []:=by
 have F:=UT A;have M:(JU (BA c) a).map (·.1)=a.map λi=>BA c i.1:=by simp[JU,List.map_map,Function.comp_def]
 have s:∀k,k∈a.map (·.1)->BA c k∈(JU (BA c) a).map (·.1):=by grind
 have P:∀k,(k∈a.map (·.1)\/(CX f h.nb k).isSome)->BA c k∈(JU (BA c) a).map (·.1)++[]\/(CX f (h.rn<|BA c).nb<|BA c k).isSome:=λk g=>by
  rcases g with g|g
  grind
  right;let⟨b,p⟩:=Option.isSome_iff_exists.1 g;let⟨j,e,_⟩:=Wo p;rw[(AFg B) k oG];show(CX f (h.nb.map<|AK.Bh<|BA c) k).isSome;rw[ALS,p];rfl
 have trL:∀ {E:List Nat},(∀k∈E,k∈a.map (·.1)\/(CX f h.nb k).isSome)->∀k∈E.map (BA c),k∈(JU (BA c) a).map (·.1)++[]\/(CX f (h.rn<|BA c).nb k).isSome:=by grind
 refine{r:= ?_,u:= ?_,n:= ?_,l:=by simpa[Ab.rn]using o.l,le:=hle,d:= ?_};intro k g;rw[show(h.rn<|BA c).r=h.r.Bh (BA c)from rfl,Qp]at g;exact trL o.r k g;intro J q;obtain⟨i,z,rfl⟩:=List.mem_map.1 q;let⟨K,Q⟩:=o.u i z;refine⟨s _ K,λb p=> ?_,λk g=> ?_⟩;let⟨x,C,e⟩:=List.mem_map.1 p;have:b=x.2.Bh (BA c):=(Prod.mk.inj e).2.symm;rw[this,AK.UJ];exact List.all_eq_true.1 m x C
 grind[AK.Qp]
 intro L v k g;obtain⟨b,p,rfl⟩:=List.mem_map.1 v;rw[AK.Qp]at g;exact trL (o.n b p) k g;show((h.AV.map λi=>(BA c i.1,i.2.Bh<|BA c)).map (·.1)).Nodup;rw[List.map_map];show(h.AV.map λi=>BA c i.1).Nodup;have w:=o.d;rw[List.nodup_iff_pairwise_ne]at w⊢;rw[List.pairwise_map]at w⊢;refine w.imp_of_mem λ{x y} C hy hne e=>hne ?_;let⟨R,G,N⟩:=List.mem_map.1 (o.u x C).1;let⟨S,H,O⟩:=List.mem_map.1 (o.u y hy).1
 grind[List.getElem_of_mem,Wu]
def ACj(f:Bv)(n F:Nat)(b:AA<|Nat×Nat)(a:AA<|Nat×AK)(d:AA Nat):AU (AA SV×AA (AU AK)×AB):=
 match f.rg with
 |some ⟨g,i::_,c⟩=>match g.Aj[i]? with
  |some o=>match want g.Aj f.σ.tm o,Yd f.σ.tm o.op with
   |some tT,sM (F',args)=>match bQ F F'&&LX o.op&&To n o.dst&&OY g i ((JU (BA b) a).map (·.1))&&(!g.drawn||d.all (λk=>Q8 g i (BA b k) c))&&nodupB ((JU (BA b) a).map (·.1))&&SL a&&Kv 100 (a.map (·.1))&&Kv 100 (b.map (·.1))&&Nat.ble 100 g.Cp with
    |true=>sM (args,a.map λe=>f.σ.hp<|BA b e.1,f.σ.im)
    |false=>nO
   |_,_=>nO
  |none=>nO
 |_=>nO
def EL(f:Bv):Nat:=match f.rg with
 |some ⟨g,i::_,_⟩=>g.key i
 |_=>0
def Bv.out(f:Bv)(b:Nat->Nat)(h:Ab):Bv:=match f.rg with
 |some ⟨g,i::is,a⟩=>match g.Aj[i]? with
  |some o=>⟨f.σ.EV o.dst (g.key i)<|h.rn b,f.todo,sM ⟨g,is,a⟩,f.Bq⟩
  |none=>f
 |_=>f
def ACl{c:Ctx}{R}{f:Bv}{F x}{d:AA<|Nat×AK}{I O v}(V:FC c.P F x d I O v)(hE:Enters c.P F)(m C)
 (a:ACj f c.n F m d C=sM (IN (BA m) x,d.map λp=>sM<|p.2.Bh<|BA m,I)) (K:∀M h,O M h->h.LD M (d.map (·.1))->∀p∈h.AV,p.1∈C)
 (hnext:v=nO->∀h,O (EL f) h->GG c R (f.out (BA m) h)) (G:∀N,v=sM N->∀h,O (EL f) h->M1 c R N (f.σ.EV nO (EL f)<|h.rn<|BA m)):GG c R f:=by
 let⟨w,ae,rg,af⟩:=f;rw[ACj]at a;split at a
 case h_2=>cases a
 rename_i g i is ac H;simp only at H;subst H;split at a
 case h_2=>cases a
 rename_i o ho;split at a
 case h_2=>cases a
 rename_i F' P hw z;split at a
 case h_2=>cases a
 rename_i y;simp only[QB,QC]at a;let⟨e1,e2,e3⟩:=a;simp only[CJ]at y;let⟨⟨⟨⟨⟨⟨⟨⟨⟨c1,c2⟩,c3⟩,c4⟩,c5⟩,Q⟩,S⟩,c8⟩,T⟩,c10⟩:=y;have eF:=Ha c1;subst eF e1 e3;have X:=LL c10;have u:100<=g.key i:=by rw[ES.key];omega
 intro A hwf;simp only at A hwf;have D:∀p∈JU (BA m) d,w.hp p.1=sM p.2:=λab t=>by obtain⟨p,l,rfl⟩:=BI.1 t;exact(VP.1 e2) p l
 refine⟨o,ho,c3,A.Tv,.inr ⟨JU (BA m) d,[],_,v,⟨hw,c2,ART z hE V u T c8 S Q,D,nA,?_,?_,?_⟩,?_,?_⟩⟩;rw[Hn];exact Wc c4;rintro hd ik Z U ⟨h,⟨q,aa,_⟩,rfl⟩ hm;let⟨ab,t,e⟩:=BI.1 hm;obtain⟨p,l,rfl⟩:=BI.1 t;have h5:C.all (λk=>Q8 g i (BA m k) ac):=by rw[hd]at c5;simpa using c5
 exact AAX (EQ.1 h5 p.1<|K _ h q aa p l) ik Z e.symm;rintro U ⟨h,⟨q,wf,hle⟩,rfl⟩;exact AMv wf hle u T S Q;rintro hp U ⟨h,⟨q,wf,hle⟩,rfl⟩;have hG:=hnext hp h q;simp only[Bv.out,ho]at hG;have W:=AMv (I:=w.im) wf hle u T S Q;have hs:∀k∈(JU (BA m) d).map (·.1),(w.hp k).isSome:=λk n=>by obtain⟨p,l,rfl⟩:=BI.1 n;rw[D p l];rfl
 have B:∀k,(k∈(JU (BA m) d).map (·.1)++[]\/(CX (g.key i) (h.rn<|BA m).nb k).isSome)->((h.rn<|BA m).hp (g.key i) w.hp k).isSome:=λk n=>by rcases n with n|n;rw[Hn]at n;exact Nn<|hs k n;let⟨b,r⟩:=Mz.1 n;rw[Qi r];rfl
 have ad:WF ⟨w.tm,(h.rn<|BA m).hp (g.key i) w.hp,(h.rn<|BA m).J⟩:=by
  refine⟨λs k n=>Nn<|hwf.1 s k n,λk b L r n=> ?_⟩;have r:(h.rn<|BA m).hp (g.key i) w.hp k=sM b:=r;cases hn:CX (g.key i) (h.rn<|BA m).nb k with
  |some b'=>
   rw[Qi hn]at r;cases r;let⟨j,_,hj⟩:=Wo hn;exact B L<|W.n b (De hj) L n
  |none=>
   rw[ADu hn]at r;by_cases J:k∈(h.rn<|BA m).AV.map (·.1);obtain⟨p,l,rfl⟩:=BI.1 J;rw[WE l W.d]at r;cases r;exact B L<|(W.u p l).2.2 L n;rw[WG J]at r;exact Nn<|hwf.2 k b L r n
 refine hG (A.tail λk=> ?_)<|ad.put λk n=>B k<|W.r k n;show(St.put _ _ _).hp k=_\/_;rw[Lj];show(h.rn<|BA m).hp (g.key i) w.hp k=w.hp k\/_;by_cases E:E8 (g.key i) k;exact .inr<|.inl E;by_cases J:k∈(h.rn<|BA m).AV.map (·.1);obtain⟨p,l,rfl⟩:=BI.1 J;exact .inr<|.inr<|hs _ (W.u p l).1;exact .inl<|ZP W.l E J;rintro N Y U ⟨h,⟨q,_⟩,rfl⟩;exact G N Y h q
def Mo(f:Bv):Bw:=match f.rg with
 |some ⟨g,i::_,_⟩=>(g.Aj[i]?).getD Al
 |_=>Al
def ACE(f:Bv)(n:Nat)(a:AA<|Nat×AK)(c:AA Nat):AU (AA (AU AK)×AB):=
 match f.rg with
 |some ⟨g,i::_,b⟩=>match g.Aj[i]? with
  |some o=>match want g.Aj f.σ.tm o with
   |some tT=>match LX o.op&&To n o.dst&&OY g i (a.map (·.1))&&(!g.drawn||c.all (λk=>Q8 g i k b))&&Nat.ble 100 g.Cp with
    |true=>sM (a.map λd=>f.σ.hp d.1,f.σ.im)
    |false=>nO
   |_=>nO
  |none=>nO
 |_=>nO
def Bv.act(f:Bv)(h:Ab):Bv:=match f.rg with
 |some ⟨g,i::is,a⟩=>match g.Aj[i]? with
  |some o=>⟨f.σ.EV o.dst (g.key i) h,f.todo,sM ⟨g,is,a⟩,f.Bq⟩
  |none=>f
 |_=>f
def ALr(w:AN)(o i)(h:i<w.heap.size):(w.alloc o).heap[i]? =w.heap[i]? :=by
 show(w.heap.push o)[i]? =_
 grind
def AP5{c R f d I J}(y)(a:ACE f c.n d y=sM (d.map λn=>sM n.2,I))(z:HS c.P (Mo f) f.σ.tm (EL f) d I J nO)
 (E:∀h,J h->∀n∈h.AV,n.1∈y) (hwf:∀h,J h->h.wf I (EL f) d []) (hnext:∀h,J h->GG c R (f.act h)):GG c R f:=by
 let⟨u,H,rg,K⟩:=f;rw[ACE]at a;split at a
 case h_2=>cases a
 rename_i g i is G C;simp only at C;subst C;split at a
 case h_2=>cases a
 rename_i o N;split at a
 case h_2=>cases a
 rename_i hw;split at a
 case h_2=>cases a
 rename_i v;simp only[QB,QC]at a;let⟨T,U⟩:=a;simp only[CJ]at v;let⟨⟨⟨⟨c2,S⟩,c4⟩,c5⟩,c10⟩:=v;subst U;have r:Mo ⟨u,H,sM ⟨g,i::is,G⟩,K⟩=o:=by simp[Mo,N]
 rw[r]at z;intro w q;simp only at w q;have A:∀n∈d,u.hp n.1=sM n.2:=λn l=>(VP.1 T) n l;refine⟨o,N,S,w.Tv,.inr ⟨d,[],J,nO,⟨hw,c2,z,A,(λk m=>by cases m),?_,?_,hwf⟩,?_,(λ_ e=>by cases e)⟩⟩;rw[Hn];exact Wc c4;intro X ik L h t Z;let⟨n,l,e⟩:=BI.1 Z;have V:y.all (λk=>Q8 g i k G):=by rw[X]at c5;simpa using c5
 exact AAX (EQ.1 V n.1<|E h t n l) ik L e.symm;intro _ h t;have P:=hnext h t;simp only[Bv.act,N]at P;have W:=hwf h t;have Q:∀k∈d.map (·.1),(u.hp k).isSome:=λk m=>by obtain⟨n,l,rfl⟩:=BI.1 m;rw[A n l];rfl
 have x:∀k,(k∈d.map (·.1)++[]\/(CX (g.key i) h.nb k).isSome)->(h.hp (g.key i) u.hp k).isSome:=λk m=>by rcases m with m|m;rw[Hn]at m;exact Nn<|Q k m;let⟨b,p⟩:=Mz.1 m;rw[Qi p];rfl
 have O:WF ⟨u.tm,h.hp (g.key i) u.hp,h.J⟩:=by
  refine⟨λs k m=>Nn<|q.1 s k m,λk b F p m=> ?_⟩;have p:h.hp (g.key i) u.hp k=sM b:=p;cases M:CX (g.key i) h.nb k with
  |some b'=>
   rw[Qi M]at p;cases p;let⟨j,_,Y⟩:=Wo M;exact x F<|W.n b (De Y) F m
  |none=>
   rw[ADu M]at p;by_cases D:k∈h.AV.map (·.1);obtain⟨n,l,rfl⟩:=BI.1 D;rw[WE l W.d]at p;cases p;exact x F<|(W.u n l).2.2 F m;rw[WG D]at p;exact Nn<|q.2 k b F p m
 refine P (w.tail λk=> ?_)<|O.put λk m=>x k<|W.r k m;show(St.put _ _ _).hp k=_\/_;rw[Lj];show h.hp (g.key i) u.hp k=u.hp k\/_;by_cases B:E8 (g.key i) k;exact .inr<|.inl B;by_cases D:k∈h.AV.map (·.1);obtain⟨n,l,rfl⟩:=BI.1 D;exact .inr<|.inr<|Q _ (W.u n l).1;exact .inl<|ZP W.l B D
structure Reads(I:AB)(need:AA (Nat×AK))(x:SV)(size m:Nat)(xs:AA AF):Prop where
 len:lN xs=m*size
 one:∀v∈xs,v.oneCell'
 at_:∀(ρ:Nat->Nat)(w:AN),Has w ρ need->Holds w I->(∃c,AO ρ x=.slice nO 0 c/\m=0)\/(∃ad c,AO ρ x=.slice (sM ad) m c/\∀j u,xs[j]? =sM u->w.cell? (ad.add j)=sM u)
def Te{w:AN}{b off}{arr:Ae AF}{e c n}(h:w.heap[b]? =sM (.cells arr e c)):∀j u,((arr.toList.drop off).take n)[j]? =sM u->w.cell? ((⟨b,off,nO⟩:Au).add j)=sM u:=λj u a=>by rw[Addr.add_mid];rw[GO]at a;split at a;rw[Jg]at a;simpa[World.cell?,h]using a;cases a
def Aah{I d a m c b f arr e g xs}(h:I b=sM (.cells arr e g))(l:(arr.toList.drop f).take (m*a)=xs)(k:lN xs=m*a)(i:∀v∈xs,v.oneCell'):
 Reads I d (.v<|.slice (aO b f) m c) a m xs:=
 ⟨k,i,λn w _ j=>.inr ⟨_,c,rfl,by rw[<-l];exact Te<|j.1 b _ h⟩⟩
def Aaj{I d a m c b f arr e g xs}(h:I.CW b=sM (.cells arr e g))(l:(arr.toList.drop f).take (m*a)=xs)(k:lN xs=m*a)(i:∀v∈xs,v.oneCell'):
 Reads I d (.v<|.slice (aO b f) m c) a m xs:=
 ⟨k,i,λn w _ j=>.inr ⟨_,c,rfl,by rw[<-l];exact Te<|j.CW b _ h⟩⟩
def Ol{I b d c a}:Reads I b (.v<|.slice a 0 c) d 0 []:=
 ⟨sP,nA,λg w _ _=>by
   cases a with
   |none=>exact .inl ⟨c,rfl,rfl⟩
   |some a=>exact .inr ⟨a,c,rfl,λj u e=>by simp at e⟩⟩
def Ez{I b a m c k e}{xs:AA AF}(h:(k,AK.cells (xs.map .v) e)∈b)(f:lN xs=m*a)(d:∀v∈xs,v.oneCell'):Reads I b (.s k 0 m c) a m xs:=
 ⟨f,d,λg w hN _=>.inr ⟨_,c,rfl,by
   have:=Te (off:=0) (n:=m*a)<|hN _ h _ rfl
   grind[Gw]⟩⟩
def O9(a:Nat->SV)(o:Op):AU (BN×SV×SV):=
 match o with
 | .call {callee:=.builtin .append,args:=args,argTypes:=ts}=>match args.toList,ts.toList with
   |[l,x],[t,t']=>match bQ t t' with
    |true=>sM (t,ev a l,ev a x)
    |false=>nO
   |_,_=>nO
 |_=>nO
def Vg{P}{o:Bw}{k t l x}(h:O9 k o.op=sM (t,l,x)){g}{a:Act}(i:∀x∈o.op.operands,a.eval x=AO g (ev k x)){w m v}(s:(Builtin.append_ #[t,t] o.type #[AO g l,AO g x]).run P w=.ok v m):
 (execOp a.eval o).run P w=.ok (.value v) m:=by
 unfold O9 at h;split at h;rename_i c A e;split at h;rename_i j n B z b f;split at h;rename_i r;cases h;have d:c=#[j,n]:=Lu.1 (by rw[b]);have p:A=#[t,z]:=Lu.1 (by rw[f]);have q:=Ha r;have u:=i j (by simp[e,Op.operands,Call.operands,d]);have y:=i n (by simp[e,Op.operands,Call.operands,d]);simp[execOp,e,resolve,invoke,builtin,d,p,<-q,u,y,s];cases h;cases h;cases h
def Yc(P:B7)(e:BN):Bool:=match P.info? e with|some i=>Nat.ble i.bytes 1024&&Nat.blt 0 i.size|none=>fF
def VU(I:AB)(d n c:Nat)(e:BN)(AV:AA<|Nat×AK)(f:AA AF):Ab->Prop:=λh=>
 ∃a b,n<=a/\a<=maxLen/\lN b=(a-n)*c/\h= {r:=.s d 0 n a,AV:=AV,nb:=[.As (f++b) e],J:=I}
structure Gq(P:B7)(L:Lay)(t e size:Nat):Prop where
 ty:∃z,L.get t=sM ⟨1,z,.slice e⟩
 el:∃z k,L.get e=sM ⟨size,z,k⟩/\lN z=size
 b:Yc P e
def MM{P L}(hL:Ed P L){o tm key need I t e size l x n m cap a CQ news}(hT:Gq P L t e size)(G:O9 tm o.op=sM (t,l,x))
 (hl:l=.v (.slice a n cap)) (ho:Reads I need l size n CQ) (hx:Reads I need x size m news) (ao:n<=cap) (u:cap<n+m) (aa:a=nO->cap=0) (hB:n+m<=16777216):HS P o tm key need I (VU I key (n+m) size e []<|CQ++news) nO:=by
 refine⟨?_⟩;intro C ac w he hN D aj ah ak ap next Q hnext _;let⟨⟨z0,af⟩,⟨ze,ke,Y,ag⟩,g⟩:=hT;let⟨i,d,z,hi,hd,hz,hk,ae,hzero⟩:=Dg<|hL.get af;let⟨O,de,y,B,ai,N,am,q,s⟩:=Dg<|hL.get Y;have X:=KE hk;subst X;simp only at q;subst q;rw[Yc]at g;rw[B]at g;simp only[CJ]at g;have an:0<n+m:=oG;have fits:(n+m)*O.bytes<=140737488355328:=by have:=VR hB<|LL g.1;omega
 have cm:∀w:AN,grownCap w (n+m) cap e<=maxLen:=λw=>grownCap_le_maxLen w (n+m) cap e lO;have Bz:∀(v:AN)(f:Nat),n+m<=f->f<=maxLen->v=(w.drew.alloc<|.cells (CQ.toArray++news.toArray++zC y.cells (f-(n+m))) e)->(Builtin.append_ #[t,t] o.type #[AO C l,AO C x]).run P w=.ok (.slice (aP w.heap.size) (n+m) f) v->o.wp P ac w next Q:=by
  intro v f h1 h2 k M;rw[Oper.wp];rw[Vg (P:=P) G he M,Oper.upon_value];have F:y.cells.size=O.size:=by rwa[<-Lt,<-s]
  have Z:lN (zC y.cells<|f-(n+m)).toList=(f-(n+m))*O.size:=by rw[Lt,size_zeroCells,F]
  have hq:v.heap[w.heap.size]? =sM (.cells (CQ.toArray++news.toArray++zC y.cells (f-(n+m))) e (0,0)):=by rw[k];exact SY w.drew _
  have ae:v.heap.size=w.heap.size+1:=by rw[k];show(w.heap.push _).size=_;rw[NZ]
  have hold:∀b,b<w.heap.size->v.heap[b]? =w.heap[b]? :=λb g=>by rw[k];exact ALr w.drew _ b g
  obtain⟨H,R⟩:∃H:Ab,H= {r:=.s key 0 (n+m) f,AV:=[],nb:=[.As ((CQ++news)++(zC y.cells<|f-(n+m)).toList) e],J:=I}:=⟨_,rfl⟩;have K:H.nb=[.As ((CQ++news)++(zC y.cells<|f-(n+m)).toList) e]:=by rw[R]
  have hA:After I C w v key (λ_=>w.heap.size) H:=by
   refine⟨by rw[k];rfl,by rw[k];rfl,by rw[k];rfl,oG,λb g _ _=>hold b g,(λkb al=>by grind),?_,(gR),?_,gR,λb E g=>by grind⟩;intro j b S;rw[K]at S;cases j with
   |zero=>
    simp at S;subst S;refine⟨?_,rfl,.inl<|Ag _⟩;simp_all[AK.AO]
   |succ j=>simp at S
   rw[R];exact⟨λb E g=>by rw[hold b<|Eg<|D.1 b E g];exact D.1 b E g,λb E g=>by rw[hold b<|Eg<|D.2 b E g];exact D.2 b E g⟩
  have A:AO (H.Bh C key λ_=>w.heap.size) H.r=.slice (aP w.heap.size) (n+m) f:=by have:=Mm (h:=H) (ρ:=C) (key:=key) (j:=0) (q:=λ_=>w.heap.size) (by rw[K];rfl);rw[show H.r=.s key 0 (n+m) f by rw[R]];simp only[AO];simp only[IB]at this;rw[this]
  have h:=hnext rfl H v (λ_=>w.heap.size) ⟨f,_,h1,h2,Z,R⟩ hA;rw[A]at h;exact h
 subst hl;rcases hx.at_ C w hN D with⟨c,F,rfl⟩|⟨ad,c,F,p⟩;omega;rcases ho.at_ C w hN D with⟨c',A,U⟩|⟨T,c',A,Eo⟩;simp only[AO,Value.slice.injEq]at A;obtain⟨rfl,rfl,rfl⟩:=A;have W:=aa rfl;subst W;have ab:CQ=[]:=Ib (by rw[ho.len,U];simp);subst ab;have hr:=run_append_nil (P:=P) w t o.type e O y hd B N ad m c news hx.len p oG oG gR;refine Bz _ (grownCap w m 0 e) (by grind[grownCap_ge]) gR ?_ (by rw[F];simp only[AO];rw[U];simpa using hr);rw[U];simp;simp only[AO,Value.slice.injEq]at A;obtain⟨rfl,-,rfl⟩:=A;exact Bz _ (grownCap w (n+m) cap e) (grownCap_ge w _ _ e) (cm w) rfl (by rw[F];exact run_append_grow (P:=P) w t o.type e O y hd B N T n cap CQ ho.len Eo ad m c news hx.len p u oG<|growslice_fits u fits)
def Kk{P L}(hL:Ed P L){o tm i k A I t e f x n m cap vs CQ news}(hT:Gq P L t e f)(T:O9 tm o.op=sM (t,.s k 0 n cap,x))
 (hk:(k,.As vs e)∈A) (M:lN vs=cap*f) (ho:vs.take (n*f)=CQ) (av:∀v∈CQ,v.oneCell') (N:Reads I A x f m news) (K:n<=cap) (U:cap<=maxLen) (hB:n+m<=16777216):HS P o tm i A I (VU I i (n+m) f e [(k,.gone)]<|CQ++news) nO:=by
 refine⟨?_⟩;intro p ac w he hN hI ae an ap au next Q hnext _;let⟨⟨z0,aj⟩,⟨ze,ke,af,am⟩,E⟩:=hT;have hd:=Aeg hL aj;let⟨l,de,Z,C,ao,al,aq,z,D⟩:=Dg<|hL.get af;simp only at z;subst z;rw[Yc]at E;rw[C]at E;simp only[Bool.and_eq_true]at E;have fits:(n+m)*l.bytes<=140737488355328:=by have:=Nat.mul_le_mul hB<|Nat.le_of_ble_eq_true E.1;omega
 have cm:∀w:World,grownCap w (n+m) cap e<=maxLen:=λw=>grownCap_le_maxLen w (n+m) cap e lO;have s:=hN _ hk _ rfl;simp only at s;have Y:lN CQ=n*l.size:=by rw[<-ho,List.length_take,M];have:=Nat.mul_le_mul_right l.size K;omega
 have Bz:∀(B:World)(a q:Nat)(d:List Value),n+m<=a->a<=maxLen->lN d=(a-(n+m))*l.size->B.os=w.os->B.tape=w.tape->B.output=w.output->w.heap.size<=B.heap.size->(∀b,b<w.heap.size->p k≠b->B.heap[b]? =w.heap[b]?)->
  B.heap[q]? =sM (.cells ((CQ++news)++d).toArray e (0,0))->(w.heap.size<=q\/q=p k)->(Builtin.append_ #[t,t] o.type #[AO p<|.s k 0 n cap,AO p x]).run P w=.ok (.slice (aP q) (n+m) a) B->o.wp P ac w next Q:=by
  intro B a q d h1 h2 R O e2 e3 e4 G hq aa X;rw[Oper.wp];rw[Vg (P:=P) T he X,Oper.upon_value];obtain⟨H,S⟩:∃H:Ab,H= {r:=.s i 0 (n+m) a,AV:=[(k,.gone)],nb:=[.As ((CQ++news)++d) e],J:=I}:=⟨_,rfl⟩;have W:H.nb=[.As ((CQ++news)++d) e]:=by rw[S]
  have ak:H.AV=[(k,.gone)]:=by rw[S]
  have hA:After I p w B i (λ_=>q) H:=by
   refine⟨O,e2,e3,e4,(by simp_all),?_,?_,(gR),?_,gR,λb o' E=>by grind⟩;intro kb F o' ai;rw[ak]at F;simp at F;subst F;cases ai;intro j b R;rw[W]at R;cases j with
   |zero=>
    simp at R;subst R;exact⟨by grind[AK.AO],rfl,(by simp_all)⟩
   |succ j=>simp at R
   rw[S];exact hI.A2 (ae _ hk rfl) G
  have e5:AO (H.Bh p i λ_=>q) H.r=.slice (aP q) (n+m) a:=by have:=Mm (h:=H) (ρ:=p) (key:=i) (j:=0) (q:=λ_=>q) (by rw[W];rfl);rw[show H.r=.s i 0 (n+m) a by rw[S]];simp only[AO];simp only[Nat.add_zero]at this;rw[this]
  have h:=hnext rfl H B (λ_=>q) ⟨a,d,h1,h2,R,S⟩ hA;rw[e5]at h;exact h
 have ar:=Eg s;rcases N.at_ p w hN hI with⟨c,O,rfl⟩|⟨ad,c,O,y⟩;have ag:news=[]:=List.eq_nil_of_length_eq_zero (by rw[N.len];simp);subst ag;refine Bz w cap (p k) (vs.drop<|n*l.size) K U (by grind[Nat.sub_mul]) rfl rfl rfl (Nat.le_refl _) (λ_ _ _=>rfl) (by grind[List.take_append_drop]) (.inr rfl) ?_;rw[O];simp[AO,Builtin.append_,rU hd,sizeOf,typeInfo,C,Builtin.lenOf,K,Builtin.firstCells,storeCells];by_cases g:n+m<=cap;have V:n*l.size+lN news<=vs.toArray.size:=by have:=Nat.mul_le_mul_right l.size g;rw[N.len];simp only[List.size_toArray,M];rw[Nat.add_mul]at this;exact this
 have hr:=run_append_room (P:=P) w t o.type e l hd C (p k) n cap vs.toArray s ad m c news N.len y N.one g V;refine Bz (w.setRow (p k) (vs.toArray.toList.take (n*l.size)++news++vs.toArray.toList.drop (n*l.size+lN news)).toArray) cap (p k) (vs.drop<|n*l.size+lN news) g U ?_ rfl rfl rfl (by rw[Bl.setRow];exact Nat.le_refl _) (λb _ ah=>Ir ah) ?_ (.inr rfl) (by rwa[O]);rw[List.length_drop,M,N.len,<-Nat.add_mul,Nat.sub_mul];rw[Lm s];simp[ho];have Eo:∀j u,CQ[j]? =sM u->w.cell? ((⟨p k,0,nO⟩:Addr).add j)=sM u:=by have:=Te (off:=0) (n:=n*l.size) s;simp only[List.drop_zero]at this;rwa[<-ho]
 have e2:Z.cells.size=l.size:=by rwa[<-Array.length_toList,<-D]
 refine Bz (w.drew.alloc<|.cells (CQ.toArray++news.toArray++zC Z.cells (grownCap w (n+m) cap e-(n+m))) e) (grownCap w (n+m) cap e) w.heap.size (zC Z.cells<|grownCap w (n+m) cap e-(n+m)).toList (grownCap_ge w _ _ e) (cm w) (by rw[Array.length_toList,size_zeroCells,e2]) rfl rfl rfl ?_ (λb E _=>ALr w.drew _ b E) ?_ (.inl<|Nat.le_refl _) (by rw[O];exact run_append_grow (P:=P) w t o.type e l Z hd C al ⟨p k,0,nO⟩ n cap CQ Y Eo ad m c news N.len y oG oG<|growslice_fits oG fits);show w.heap.size<=(w.heap.push _).size;rw[Array.size_push];omega;have:=SY w.drew<|.cells (CQ.toArray++news.toArray++zC Z.cells (grownCap w (n+m) cap e-(n+m))) e;refine Eq.trans this ?_;congr 2;apply Array.ext';simp[List.append_assoc]
mutual
def SV.B4(k b:Nat):SV->SV
 | .v x=>.v x
 | .p j o=>match bQ j k with|true=>.v (.pointer<|aO b o)|false=>.p j o
 | .s j o n c=>match bQ j k with|true=>.v (.slice (aO b o) n c)|false=>.s j o n c
 | .m j=>match bQ j k with|true=>.v (.map<|sM b)|false=>.m j
 | .g l=>.g<|Hz k b l
 | .t l=>.t<|Hz k b l
 | .fn f x y=>.fn f (Hz k b x)<|Hz k b y
def Hz(k b:Nat):AA SV->AA SV
 |[]=>[]
 |x::l=>x.B4 k b::Hz k b l
end
mutual
theorem Tk{a k b}(h:a k=b):∀x,AO a (x.B4 k b)=AO a x
 | .v _=>rfl
 | .p j o=>by grind[SV.B4,AO,Nat.eq_of_beq_eq_true]
 | .s j o n c=>by grind[SV.B4,AO,Nat.eq_of_beq_eq_true]
 | .m j=>by grind[SV.B4,AO,Nat.eq_of_beq_eq_true]
 | .g l=>by simp only[SV.B4,AO];rw[Rv h l]
 | .t l=>by simp only[SV.B4,AO];rw[Rv h l]
 | .fn f x y=>by simp only[SV.B4,AO];rw[Rv h x,Rv h y]
theorem Rv{a k b}(h:a k=b):∀l,BB a (Hz k b l)=BB a l
 |[]=>rfl
 |x::l=>by simp only[Hz,BB];rw[Tk h x,Rv h l]
end
mutual
theorem UE{k b}:∀x:SV,∀j∈(x.B4 k b).A3,j∈x.A3
 | .v _,j,h=>h
 | .p i o,j,h=>by simp[SV.B4]at h;split at h;cases h;exact h
 | .s i o n c,j,h=>by simp[SV.B4]at h;split at h;cases h;exact h
 | .m i,j,h=>by simp[SV.B4]at h;split at h;cases h;exact h
 | .g l,j,h=>SH l j h
 | .t l,j,h=>SH l j h
 | .fn f x y,j,h=>by simp[SV.B4,SV.A3,Bc]at h⊢;exact h.imp (SH x j)<|SH y j
theorem SH{k b}:∀l:AA SV,∀j∈DF (Hz k b l),j∈DF l
 |[],j,h=>h
 |x::l,j,h=>by simp[Hz,DF,Bc]at h⊢;exact h.imp (UE x j)<|SH l j
end
def AK.B4(k b:Nat):AK->AK
 | .cells l e=>.cells (Hz k b l) e
 | .As l e=>.As l e
 | .Aq o=>.Aq o
 | .Ey a vs=>.Ey a<|Hz k b vs
 | .gone=>.gone
theorem AK.Tk{ρ k b}(h:ρ k=b)(x:AK):(x.B4 k b).AO ρ=x.AO ρ:=by
 cases x with
 |cells l e=>grind[AK.B4,AK.AO,Rv]
 |Ey a c=>grind[AK.B4,AK.AO,Rv]
 |_=>rfl
theorem AK.UE{k b}(x:AK):∀j∈(x.B4 k b).A3,j∈x.A3:=by
 cases x with
 |cells l e=>exact SH l
 |Ey c a=>exact SH a
 |_=>exact λj h=>h
theorem AK.AKs{k b}(x:AK):(x.B4 k b).live=x.live:=by cases x<;>rfl
def St.B4(a:St)(k b:Nat)(J:AB):St:=
 {tm:=λs=>(a.tm s).B4 k b,hp:=λj=>match bQ j k with|true=>sM .gone|false=>match a.hp j with|some x=>sM (x.B4 k b)|none=>nO,im:=J}
def Vm:AK->AU (AA AF×BN)
 | .As l e=>sM (l,e)
 | .cells l e=>match valsOf l with|some a=>sM (a,e)|none=>nO
 |_=>nO
where valsOf:AA SV->AU (AA AF)
 |[]=>sM []
 | .v x::l=>match valsOf l with|some r=>sM (x::r)|none=>nO
 |_=>nO
theorem AOZ:∀ {l:AA SV} {a:AA AF},Vm.valsOf l=sM a->l=a.map .v
 |[],a,h=>by cases h;rfl
 |x::l,a,h=>by cases x<;>simp[Vm.valsOf]at h;split at h;rename_i r b;cases h;rw[AOZ b];rfl;cases h
theorem AHt{b a e}(h:Vm b=sM (a,e))(f):b.AO f=sM (.cells a.toArray e (0,0))/\b.live:=by cases b<;>simp[Vm]at h;rename_i l g;split at h;rename_i d c;simp at h;obtain⟨rfl,rfl⟩:=h;rw[AOZ c];exact⟨by simp[AK.AO,Gw],rfl⟩;cases h;obtain⟨rfl,rfl⟩:=h;exact⟨rfl,rfl⟩
def AQD(a:St)(A:AA Nat):Bool:=A.all λk=>match a.hp k with|some b=>b.live|none=>fF
def SB(f:Bv)(A:AA Nat)(k:Nat):AU (AA AF×BN):=
 match f.rg,f.σ.hp k,AQD f.σ A&& !Oc k A with
 |none,sM b,tT=>Vm b
 |_,_,_=>nO
def Bv.B4(f:Bv)(k b:Nat)(J:AB):Bv:={f with σ:=f.σ.B4 k b J}
theorem Afd{σ:St}{k b:Nat}{J:AB}:(∀j x,(σ.B4 k b J).hp j=sM x->(j=k/\x=.gone)\/(j≠k/\∃y,σ.hp j=sM y/\x=y.B4 k b))/\(∀j,(σ.hp j).isSome->((σ.B4 k b J).hp j).isSome)/\∀j,HJ (σ.B4 k b J).hp j->j≠k/\HJ σ.hp j:=by
 have f:∀j x,(σ.B4 k b J).hp j=sM x->(j=k/\x=.gone)\/(j≠k/\∃y,σ.hp j=sM y/\x=y.B4 k b):=λj x a=>by
  simp[St.B4]at a;split at a;rename_i e;cases a;exact .inl ⟨Ha e,rfl⟩;rename_i e;have c:j≠k:=λq=>by rw[q]at e;simp at e
  split at a;rename_i y g;cases a;exact .inr ⟨c,y,g,rfl⟩;cases a
 have d:∀j,(σ.hp j).isSome->((σ.B4 k b J).hp j).isSome:=λj l=>by simp[St.B4];split;rfl;let⟨y,g⟩:=Mz.1 l;rw[g];rfl
 have i:∀j,HJ (σ.B4 k b J).hp j->j≠k/\HJ σ.hp j:=λj ⟨x,a,h⟩=>by rcases f j x a with⟨_,rfl⟩|⟨c,y,g,rfl⟩;cases h;exact⟨c,y,g,by rw[AK.AKs]at h;exact h⟩
 exact⟨f,d,i⟩
theorem AUc{c R f}(k){P e}(p:SB f c.A k=sM (P,e))(h:∀b J,f.σ.im.le J->J.Ak=f.σ.im.Ak->J b=sM (.cells P.toArray e (0,0))->GG c R (f.B4 k b J)):GG c R f:=by
 let⟨r,aa,rg,ab⟩:=f;unfold SB at p;split at p
 case h_2=>cases p
 rename_i b0 L N m;simp only at L N m;subst L;simp[Bool.and_eq_true,Bool.not_eq_true']at m;have K:k∉c.A:=λhm=>by have:=Wl hm;rw[this]at m;cases m.2
 intro F l a w d;let⟨G,B⟩:=AHt p l;have t:HJ r.hp k:=⟨b0,N,B⟩;have T:=d.hp k b0 _ N G;have S:r.im (l k)=nO:=(d.dj k t).1;have V:c.w0.heap.size<=l k:=by
  rcases d.nw k t with q|⟨O,A,q⟩;exact q;exfalso;have M:=List.all_eq_true.1 m.1 O A;cases U:r.hp O with
  |none=>rw[U]at M;cases M
  |some b1=>
   rw[U]at M;have:=d.inj k O t ⟨b1,U,M⟩ (by rw[q,<-d.ad O A]);rw[this]at K;exact K A
 let J:AB:=⟨λn=>match Nat.beq n (l k)with|true=>sM (.cells P.toArray e (0,0))|false=>r.im n,r.im.Ak⟩;have E:J (l k)=sM (.cells P.toArray e (0,0)):=by show(match Nat.beq (l k) (l k)with|true=>_|false=>_)=_;simp
 have D:∀n,n≠l k->J n=r.im n:=λn g=>by
  have:Nat.beq n (l k)=fF:=by
   cases e:Nat.beq n (l k)with
   |false=>rfl
   |true=>exact(g<|Nat.eq_of_beq_eq_true e).elim
  show(match Nat.beq n (l k)with|true=>_|false=>_)=_;rw[this]
 have hle:r.im.le J:=⟨λn o g=>by
  rw[D n λe=>by rw[e,S]at g;cases g];exact g,λn o g=>⟨g.Ak,by
  rw[D n λe=>by have:=(d.dj k t).2;rw[<-e,g.Ak]at this;cases this];exact g.at_⟩⟩
 let⟨H,u,z⟩:=Afd (σ:=r) (k:=k) (b:=l k) (J:=J);refine h (l k) J hle rfl E ⟨λj v=> ?_,F.2⟩ l a w ?_;show(r.B4 k (l k) J).hp j=nO;have Q:r.hp j=nO:=F.1 j v;simp[St.B4];split;rename_i e;rw[Nat.eq_of_beq_eq_true e,N]at Q;cases Q;rw[Q];refine{hp:= ?_,inj:= ?_,kb:= ?_,im:=⟨?_,d.im.2⟩,lm:=d.lm.trans hle.EA,na:=d.na,fs:= ?_,GV:=d.GV,dj:= ?_,ad:=d.ad,nw:=λj v=>d.nw j (z j v).2,fr:=d.fr,sz:=d.sz,os:=d.os,tape:=d.tape,output:=d.output,size:=d.size,nd:=d.nd,tm:= ?_,kd:= ?_};intro j x o Y X;rcases H j x Y with⟨_,rfl⟩|⟨C,y,Z,rfl⟩;cases X;rw[AK.Tk rfl]at X;exact d.hp j y o Z X;intro i j hi v e;exact d.inj i j (z i hi).2 (z j v).2 e;intro j x j' Y I;rcases H j x Y with⟨_,rfl⟩|⟨C,y,Z,rfl⟩;cases I;exact u j'<|d.kb j y j' Z<|AK.UE y j' I;intro n o g;have g:J n=sM o:=g;by_cases e:n=l k;rw[e,E]at g;cases g;rw[e];exact T;rw[D n e]at g;exact d.im.1 n o g;intro n o g;have g:J n=sM o:=g;by_cases e:n=l k;right;rw[e];exact V;rw[D n e]at g;exact d.fs n o g;intro j v;let⟨C,W⟩:=z j v;refine⟨?_,(d.dj j W).2⟩;show J (l j)=nO;rw[D _ λe=>C<|d.inj j k W t e];exact(d.dj j W).1;intro s;rw[d.tm s];exact(AX.Tk rfl<|r.tm s).symm;intro s j v;exact u j<|d.kd s j<|AX.UE (r.tm s) j v
def Pr:AA (Nat×SV)->(Nat->AF)->Nat->SV
 |[],T=>λs=>.v<|T s
 |(i,x)::l,T=>AV (Pr l T) i x
def Zc:AA (Nat×SV)->AA Nat
 |[]=>[]
 |(_,x)::l=>x.A3++Zc l
theorem AFT:∀(l:AA<|Nat×SV)(T:Nat->AF)(s:Nat),(Pr l T s=.v (T s))\/∃p∈l,p.1=s/\Pr l T s=p.2
 |[],T,s=>.inl rfl
 |(i,x)::l,T,s=>by
  simp[Pr];by_cases e:s=i;simp_all[Eu];rw[D3 _ _ e];rcases AFT l T s with h|⟨p,c,a,b⟩;exact .inl h
  grind
theorem AKJ:∀ {l:AA<|Nat×SV} {p:Nat×SV} {k:Nat},p∈l->k∈p.2.A3->k∈Zc l
 |[],_,_,h,_=>by cases h
 |(i,x)::l,p,k,h,hk=>by
  simp[Zc,Bc];rcases Co.1 h with e|e
  grind
  exact .inr<|AKJ e hk
def AMf(a:AA<|Nat×Nat)(l:AA<|Nat×SV):AA SV:=l.map λp=>p.2.Bh<|BA a
def Qx(A:AA Nat)(d:AA<|Nat×Nat)(b:AA<|Nat×SV)(a:AA<|Nat×AK)(c:Nat):Bool:=
 GM (Zc b) (a.map (·.1))&&GM (Ip a) (a.map (·.1))&&Kv c (a.map (·.1))&&Kv c A&&nodupB (a.map λe=>BA d e.1)&&A.all (λk=>bQ (BA d k) k)&&liveOr a
where liveOr (_:AA<|Nat×AK):Bool:=tT
theorem Ad8{c R f}(n d g J v){t}
 (A:f.rg.isNone) (O:d.map (λp=>f.σ.tm p.1)=AMf n d) (M:g.map (λkb=>f.σ.hp<|BA n kb.1)=g.map (λkb=>sM<|kb.2.Bh<|BA n)) (L:f.σ.im=J) (m:f.todo=t) (z:Qx c.A n d g v)
 (h:∀T,GG c R ⟨⟨Pr d T,JP g,J⟩,t,nO,v⟩):GG c R f:=by
 let⟨u,H,rg,I⟩:=f;simp only[Nc]at A;simp only at O M L m;subst A L m;simp only[Qx,CJ]at z;let⟨⟨⟨⟨⟨⟨o1,o2⟩,o3⟩,o4⟩,o5⟩,o6⟩,_⟩:=z;intro W B a w l;have r:∀ {P:AA Nat},GM P (g.map (·.1))->∀k∈P,(JP g k).isSome:=λZ k i=>ADs<|UQ<|EQ.1 Z k i;have y:∀k b,JP g k=sM b->u.hp (BA n k)=sM (b.Bh<|BA n):=λk b i=>(VP.1 M) (k,b)<|Qh i;have D:=UT o5;have V:∀k∈c.A,BA n k=k:=λk i=>Ha<|EQ.1 o6 k i;have q:∀k,HJ (JP g) k->HJ u.hp (BA n k):=λk ⟨b,i,X⟩=>⟨_,y k b i,by rwa[AK.UJ]⟩;refine h (λs=>AO B<|u.tm s) ⟨λk i=> ?_,UF o4⟩ (λk=>B<|BA n k) a w ?_;show JP g k=nO;cases e:JP g k with
 |none=>rfl
 |some b=>
  have:=UF o3 k<|BI.2 ⟨_,Qh e,rfl⟩
  grind
 refine{hp:= ?_,inj:= ?_,kb:= ?_,im:=l.im,lm:=l.lm,na:=l.na,fs:=l.fs,GV:=l.GV,dj:=λk i=>l.dj _<|q k i,ad:=λk i=>by rw[V k i];exact l.ad k i,nw:=λk i=>l.nw _<|q k i,fr:=l.fr,sz:=l.sz,os:=l.os,tape:=l.tape,output:=l.output,size:=l.size,nd:=l.nd,tm:= ?_,kd:= ?_};intro k b o i Y;exact l.hp _ _ o (y k b i) (by rwa[AK.PH]);intro j k N i e;have x:=l.inj _ _ (q j N) (q k i) e;let⟨bj,E,_⟩:=N;let⟨bk,F,_⟩:=i;let⟨i1,C,Q⟩:=Kc<|Qh E;let⟨i2,U,S⟩:=Kc<|Qh F;have:=Wu D (i:=i1) (j:=i2) (by simpa using C) (by simpa using U) (by simp[Q,S,x])
 grind
 intro k b k' i G;exact r o2 k'<|SN (Qh i) G;intro s;rcases AFT d (λs=>AO B<|u.tm s) s with e|⟨p,hp,K,x⟩;show _=AO _ (Pr d _ s);rw[e,l.tm s];rfl;show _=AO _ (Pr d _ s);have C:u.tm p.1=p.2.Bh (BA n):=(VP.1 O) p hp;rw[x,l.tm s,<-K,C,PH];intro s k i;have i:k∈(Pr d (λs=>AO B<|u.tm s) s).A3:=i;rcases AFT d (λs=>AO B<|u.tm s) s with e|⟨p,hp,K,x⟩;rw[e]at i;cases i;rw[x]at i;exact r o1 k<|AKJ hp i
def Pe:AA Item->AA Item
 | .code (.loop b)::k=>.code b::.inLoop b::k
 |t=>t
def UM:AA Item->AA Item
 | .inLoop b::k=>.code b::.inLoop b::k
 |t=>t
def Bv.to(f:Bv)(t:AA Item):Bv:=⟨f.σ,t,f.rg,f.Bq⟩
theorem AXi{c R f}(b:f.rg.isNone)(h:GG c R<|f.to<|Pe f.todo):GG c R f:=by let⟨l,d,k,e⟩:=f;simp[Nc]at b;subst b;simp[Bv.to]at h;unfold Pe at h;split at h;intro g i a w r;exact M0.steps (λj=>.one step_loop)<|h g i a w r;exact h
theorem AXj{c R f}(b:f.rg.isNone)(h:GG c R<|f.to<|UM f.todo):GG c R f:=by let⟨l,d,k,e⟩:=f;simp[Nc]at b;subst b;simp[Bv.to]at h;unfold UM at h;split at h;intro g i a w r;exact M0.steps (λj=>.one step_inLoop)<|h g i a w r;exact h
structure Hd where
 Cd:AA (Nat×SV)
 Cc:AA (Nat×AK):=[]
 J:AB
def Hd.PF(s:Hd)(T:Nat->AF)(a:AA Item)(b:Nat):Bv:=⟨⟨Pr s.Cd T,JP s.Cc,s.J⟩,a,nO,b⟩
def PS(f:Bv)(b:AA<|Nat×Nat)(s:Hd):Bool×AA SV×AA (AU AK)×AB:=(f.rg.isNone,s.Cd.map λp=>f.σ.tm p.1,s.Cc.map λa=>f.σ.hp<|BA b a.1,f.σ.im)
def PT(a:AA<|Nat×Nat)(s:Hd):Bool×AA SV×AA (AU AK)×AB:=(tT,AMf a s.Cd,s.Cc.map λb=>sM<|b.2.Bh<|BA a,s.J)
theorem AJM{c R f}(e s b){todo}(a:PS f e s=PT e s)(d:f.todo=todo)(g:Qx c.A e s.Cd s.Cc b)(h:∀T,GG c R<|s.PF T todo b):GG c R f:=by simp only[PS,PT,QC]at a;let⟨i,j,k,l⟩:=a;exact Ad8 e s.Cd s.Cc s.J b i j k l d g h
theorem AXk{c R f}{h:Type}(P:h->Prop)(o:h->Nat)(d:h->Hd)(a:Nat)(g:AA<|Nat×Nat)(e:h)(p:P e)(b:PS f g (d e)=PT g (d e))(k:Qx c.A g (d e).Cd (d e).Cc a)
 (round:∀i,P i->(∀j,P j->o j<o i->∀T,GG c R<|(d j).PF T (Pe f.todo) a)->∀T,GG c R<|(d i).PF T (Pe f.todo) a):GG c R f:=by
 have l:f.rg.isNone:=by simp only[PS,PT,QC]at b;exact b.1
 refine AXi l<|AJM g (d e) a (todo:=Pe f.todo) (f:=f.to<|Pe f.todo) b rfl k ?_;have m:∀n i,o i=n->P i->∀T,GG c R ((d i).PF T (Pe f.todo) a):=by
  intro n;induction n using Nat.strongRecOn with
  |_ n q=>grind
 exact m _ e rfl p
theorem AQf{c R f}(g s d){b}(a:PS f g s=PT g s)(e:UM f.todo=b)(i:Qx c.A g s.Cd s.Cc d)(h:∀T,GG c R<|s.PF T b d):GG c R f:=by
 have j:f.rg.isNone:=by simp only[PS,PT,QC]at a;exact a.1
 exact AXj j<|AJM g s d (f:=f.to<|UM f.todo) a e i h
theorem AZa{P F E n I w v A g D y σ u J}
 (B:Is σ A=sM u) (G:σ.im=J) (l:GM (Ip u) A) (t:D g {r:=.v undef,AV:=u,J:=J}):M1 (ctx P F E n I w v A) (Rf P I v g w A D<|sM y) y σ:=by
 refine⟨rfl,λx O R=> ?_⟩;let⟨C,N⟩:=AF0 B;subst G;have d:∀k,CX g ([]:AA AK) k=nO:=λk=>by grind[CX]
 refine⟨_,λ_=>0,⟨t,⟨λk l=>(by cases l),λc a=>⟨(C c a).1,λk f=>.inl<|UQ<|EQ.1 l k<|SN a f⟩,λb e=>(by cases e),Bm _,by rw[AFz B];exact R.na⟩,R.lm⟩,⟨R.os,R.tape,R.output,R.sz,?_,?_,λj b h=>by simp at h,λi j K=>by simp at K,R.im,?_,?_⟩,rfl⟩;intro b e s H;refine R.fr b e (λk p=> ?_) H;let⟨bk,m⟩:=N k p;exact s _ m;intro c a o L;let⟨z,M⟩:=C c a;rw[F7<|d _];rw[show v c.1=x c.1 from(R.ad c.1 z).symm];refine R.hp c.1 z c.2 o M ?_;rw[<-L];exact(AK.Ko c.2 λk f=>by rw[F7<|d _];exact(R.ad k<|UQ<|EQ.1 l k<|SN a f).symm).symm
 intro b o e;rcases R.fs b o e with q|q;exact .inl q;exact .inr ⟨q,λj h=>by simp at h⟩;intro b o e;exact(R.GV b o e).imp id λq=>⟨q,λj h=>by simp at h⟩
def I5{P}{L:Lay}(m:Ed P L){t a b A k d n c i:Nat}{e B}{p:Ty}{I}(l:L.get t=sM ⟨A,B,.slice e⟩)(j:L.get e=sM p)(v:i<n):
 HL P (.indexAddr t (.tmp a)<|.tmp b) [(a,SV.s k d n c),(b,SV.v<|.int iK<|Int.ofNat i)] [] I (.p k<|d+i*p.n):=by
 have s:=Aeg m l;let⟨E,D,F,g,u,z,x,h,f⟩:=Dg<|m.get j;refine .of ?_;rintro G C w ⟨q,r,_⟩ _ _ _ o y;have:(0:Int)<=(i:Int)/\(i:Int)<(n:Int):=oG;simp[execOp,y,Instr.indexAt,q,r,AO,asIntOf,rU s,v,sizeOf,typeInfo,g,h,Addr.add_mid]
def AOa{w b k a e}(h:Has w b [(k,.As a e)])(j):w.cell? ⟨b k,j,nO⟩=a[j]? :=by have:=h (k,.As a e) sP _ rfl;simp only at this;simp[World.cell?,this]
def AK0{P}{L:Lay}(s:Ed P L){t a k b}{f:Ty}{m xs:AA AF}{e I}(l:L.get t=sM f)(g:f.k.agg)(q:(m.drop b).take f.n=xs)(E:b+f.n<=lN m):
 HL P (.load t<|.tmp a) [(a,SV.p k b)] [(k,.As m e)] I (.g<|xs.map .v):=by
 let⟨i,d,z,A,x,F,B,p,hzero⟩:=Dg<|s.get l;refine .of ?_;rintro r D w ⟨n,_⟩ _ y _ o C;simp only[AO]at n;have u:w.rangeAt (r k) b xs:=λj v c=>by rw[AOa y];rw[<-q,GO]at c;split at c;rw[Jg]at c;exact c;cases c
 have h:d.isRow:=by rw[<-RF B]at g;cases d<;>simp_all[TypeDesc.isRow]
 have:=run_loadVar_mid (P:=P) w (r k) b t _ d u x h (by rw[A];simp[<-q,p];rw[<-p];omega);simp only[execOp,C,rB,n,Instr.loadAt,Instr.sureAddr,Sem.run_pure,aK,this];simp[AO,Gw]
def Nu{P}{L:Lay}(p:Ed P L){t a k c}{l:Ty}{m x e I}(h:L.get t=sM l)(g:l.k.agg=fF)(v:m[c]? =sM x):
 HL P (.load t<|.tmp a) [(a,SV.p k c)] [(k,.As m e)] I (.v x):=by
 let⟨i,d,z,B,q,D,s,C,hzero⟩:=Dg<|p.get h;refine .of ?_;rintro y A w ⟨j,_⟩ _ r _ o u;simp only[AO]at j;have f:(isAgg t).run P w=.ok fF w:=by have n:=RF s;rw[g]at n;simp only[isAgg,rB,rU q,aK];cases d<;>simp_all
 have b:w.cell? ⟨y k,c,nO⟩=sM x:=by rw[AOa r,v]
 simp only[execOp,u,rB,j,Instr.loadAt,Instr.sureAddr,Sem.run_pure,aK,loadVar,f];simp[load,Sem.run,b,AO]
def Aee{P:B7}{L:Lay}(l:Ed P L)(I:AB)(t a b k d n c i h:Nat){o:Nat}{e:BN}{p:AA AF}(g:L.get t=sM ⟨o,p,.slice e⟩)(f:(L.get e).map (·.n)=sM h)(m:i<n):It P:=.BZ (.indexAddr t (.tmp a)<|.tmp b) [(a,.s k d n c),(b,.v<|.int iK<|Int.ofNat i)] [] I (.p k<|d+i*h) (by obtain⟨q,j,rfl⟩:=L9.1 f;exact I5 l g j m)
def Aen{P:B7}{L:Lay}(h:Ed P L)(I:AB)(t a k b:Nat)(e:BN){f:Ty}{g:AA AF}{x:AF}(d:L.get t=sM f)(c:f.k.agg=fF)(i:g[b]? =sM x):It P:=.BZ (.load t<|.tmp a) [(a,.p k b)] [(k,.As g e)] I (.v x)<|Nu h d c i
def Aff{P:B7}{L:Lay}(i:Ed P L)(I:AB)(t a k b:Nat)(e:BN){c:Ty}{g h:AA AF}(f:L.get t=sM c)(d:c.k.agg)(l:(g.drop b).take c.n=h)(j:b+c.n<=lN g):It P:=.BZ (.load t<|.tmp a) [(a,.p k b)] [(k,.As g e)] I (.g<|h.map .v)<|AK0 i f d l j
def AJu{P L}(X:Ed P L){o u s t k off ad x ty vs cs e g I}(F:o.op=.store t ad x)(Y:ev u ad=.p k off)(hx:(ev u x).cs=sM (cs.map .v))(K:L.get t=sM ty)(hn:lN cs=ty.n)(hl:off+lN cs<=lN vs)
 (V:∀v∈cs,v.oneCell') (R:(k,.As vs e)∈g):HS P o u s g I (λh=>h= {r:=.v undef,AV:=[(k,.As (BX vs off cs) e)],J:=I}) nO:=by
 let⟨i,d,z,E,hd,hz,aa,ab,hzero⟩:=Dg<|X.get K;refine⟨?_⟩;intro ρ a w N hh W D O Z ac next Q hnext _;have B:=hh _ R _ rfl;simp only at B;have A:ad∈o.op.operands:=xO
 have M:x∈o.op.operands:=xO
 have f:(AO ρ<|ev u x).cells=cs.toArray:=by rw[SV.Tf hx ρ,Gw]
 have U:(w.setRow (ρ k) (vs.take (off+0)++cs++vs.drop (off+0+lN cs)).toArray)=w.setRow (ρ k) (BX vs off cs).toArray:=by rw[IB];rfl
 have G:(storeVar t ⟨ρ k,off,nO⟩<|AO ρ<|ev u x).run P w=.ok () (w.setRow (ρ k) (BX vs off cs).toArray):=by
  rw[<-U];rw[storeVar];rw[f];have H:(sizeOf t).run P w=.ok i.size w:=by simp[sizeOf,typeInfo,E]
  have l: ¬cs.toArray.size≠i.size:=sO
  simp only[rB,H,aK,l,Hq];exact run_storeCells_at P (ρ k) off e cs 0 vs.toArray w B sO V
 have hex:(execOp a.eval o).run P w=.ok .skip (w.setRow (ρ k) (BX vs off cs).toArray):=by have y:=N ad A;rw[Y]at y;simp only[AO]at y;simp[execOp,F,Instr.storeAt,y,N x M,Instr.sureAddr,G]
 rw[Oper.wp];rw[hex,Oper.upon_skip];refine hnext rfl _ _ (λ_=>0) rfl ⟨rfl,rfl,rfl,by rw[Bl.setRow];exact Ag _,λb c l _=>Ir<|l (k,.As (BX vs off cs) e) sP,?_,λj b hj=>by simp at hj,λi j E=>by simp at E,?_,λb S c=>.inl c,λb S c=>IM c⟩;intro kb m S p;simp at m;subst m;have T:Ab.Bh {r:=.v undef,AV:=[(k,AK.As (BX vs off cs) e)],J:=I} ρ s (λ_=>0)=ρ:=by funext n;exact F7 (by rw[CX];split<;>rfl)
 rw[T]at p⊢;cases p;exact Lm B;exact W.A2 (D _ R rfl) λb _ C=>Ir C
def AKy{P L}(p:Ed P L){t a b A k n c i:Nat}{e B ty I}(l:L.get t=sM ⟨A,B,.slice e⟩)(j:L.get e=sM ty)(v:i<=n):
 HL P (.slice t (.tmp a) (sM<|.tmp b) nO nO) [(a,SV.s k 0 n c),(b,SV.v<|.int iK<|Int.ofNat i)] [] I (.s k (if c=i then 0 else i*ty.n) (n-i)<|c-i):=by
 have s:=Aeg p l;let⟨E,D,F,f,u,z,x,g,d⟩:=Dg<|p.get j;refine .of ?_;rintro G C w ⟨q,r,_⟩ _ _ _ o y;have m:(0:Int)<=(i:Int)/\(i:Int)<=(n:Int):=oG;simp[execOp,y,Instr.sliceAt,Instr.slice,q,r,AO,rU s,Instr.sliceBounds,run_sliceBound,m.1,m.2,v,sizeOf,typeInfo,f,g,aT];split<;>simp[Addr.add];intro h;exact h.symm
def AK4{P L}(m:Ed P L){t a b y k n c i:Nat}{e z ty I}(j:L.get t=sM ⟨y,z,.slice e⟩)(h:L.get e=sM ty)(C:i<=c):
 HL P (.slice t (.tmp a) nO (sM<|.tmp b) nO) [(a,SV.s k 0 n c),(b,SV.v<|.int iK<|Int.ofNat i)] [] I (.s k 0 i c):=by
 have r:=Aeg m j;let⟨D,B,E,f,s,x,u,g,d⟩:=Dg<|m.get h;refine .of ?_;rintro F A w ⟨p,q,_⟩ _ _ _ o v;have l:(0:Int)<=(i:Int)/\(i:Int)<=(c:Int):=oG;simp[execOp,v,Instr.sliceAt,Instr.slice,p,q,AO,rU r,Instr.sliceBounds,run_sliceBound,l.1,l.2,sizeOf,typeInfo,f,g,aT,Addr.add]
def ABN(z n):lN (zC z n).toList=n*z.size:=by simp[zC]
def AeR{z n}(h:∀v∈z.toList,v.oneCell')(b:0<z.size):∀v∈(zC z n).toList,v.oneCell':=by intro v a;simp[zC,VG,BI]at a;obtain⟨i,_,rfl⟩:=a;have c:i%z.size<z.size:=JE _ b;rw[getElem!_pos z _ c];exact h _ sP
def AJt{P L}(Y:Ed P L){o tm F t k off n c n0 x z0 ty vs e e' p I}(s:o.op=.call {callee:=.builtin .clear,args:=#[x],argTypes:=#[t]})(hx:ev tm x=.s k off n c)
 (S:L.get t=sM ⟨n0,z0,.slice e'⟩) (R:L.get e'=sM ty) (h1:∀v∈ty.zero,v.oneCell') (E:lN ty.zero=ty.n) (h0:0<ty.n) (hl:off+n*ty.n<=lN vs) (hk:(k,.As vs e)∈p):
 HS P o tm F p I (λh=>∃H:AA AF,lN H=n*ty.n/\(∀v∈H,v.oneCell')/\h= {r:=.t [],AV:=[(k,.As (BX vs off H) e)],J:=I}) nO:=by
 have Z:=Aeg Y S;let⟨ie,de,g,N,ac,V,ae,B,d⟩:=Dg<|Y.get R;have W:g.cells.size=ty.n:=by rw[d]at E;simpa using E
 refine⟨?_⟩;intro ρ a w he z hI M aa ad af next Q hnext _;have y:=z _ hk _ rfl;simp only at y;have T:x∈o.op.operands:=by simp[s,Op.operands,Call.operands]
 have G:=he x T;rw[hx]at G;simp only[AO]at G;have hlen:lN (zC g.cells n).toList=n*ty.n:=by rw[ABN,W]
 have m:∀v∈(zC g.cells n).toList,v.oneCell':=AeR (λv hv=>h1 v<|by rwa[d]) oG;have U:∀w,(zeroValue e').run P w=.ok g w:=λw=>by simp[zeroValue,typeInfo,N,V,aT]
 have ab:w.heap[ρ k]? =sM (.cells vs.toArray e (0,0)):=y;have hex:(execOp a.eval o).run P w=.ok (.value<|.tuple #[]) (w.setRow (ρ k) (BX vs off (zC g.cells n).toList).toArray):=by
  by_cases O:n=0;subst O;have C:(zC g.cells 0).toList=[]:=Ib (by rw[hlen];simp);have u:w.setRow (ρ k) vs.toArray=w:=by
   have z:(w.setRow (ρ k) vs.toArray).heap=w.heap:=by apply Array.ext_getElem?;intro i;by_cases X:ρ k=i;subst X;rw[Lm y,y];exact Ir X
   rw[World.setRow]at z⊢;simp only at z;rw[z]
  rw[C];have:BX vs off ([]:AA AF)=vs:=by rw[BX];simp
  rw[this,u];simp[execOp,s,resolve,invoke,builtin,G,Builtin.clear_,rU Z,aT];have f:=run_storeCells_at P (ρ k) off e (zC g.cells n).toList 0 vs.toArray w y (by simp only[hlen];simp;omega) m;have e3:(w.setRow (ρ k) (vs.take (off+0)++(zC g.cells n).toList++vs.drop (off+0+lN (zC g.cells n).toList)).toArray)=w.setRow (ρ k) (BX vs off (zC g.cells n).toList).toArray:=by rw[IB];rfl
  simp only at f;rw[e3]at f;obtain⟨n',rfl⟩:∃n',n=n'+1:=⟨n-1,oG⟩;simp[execOp,s,resolve,invoke,builtin,G,Builtin.clear_,rU Z,U,f,aT]
 rw[Oper.wp];rw[hex,Oper.upon_value];refine hnext rfl _ _ (λ_=>0) ⟨_,hlen,m,rfl⟩ ⟨rfl,rfl,rfl,by rw[Bl.setRow];exact Ag _,λb l B _=>Ir<|B _<|A9.2 rfl,?_,λj b hj=>by simp at hj,λi j hi=>by simp at hi,?_,λb o' l=>.inl l,λb o' l=>IM l⟩;intro kb A o' D;simp at A;subst A;have e0:∀q,Ab.Bh {r:=.t [],AV:=[(k,AK.As (BX vs off (zC g.cells n).toList) e)],J:=I} ρ F q=ρ:=by intro q;funext n;exact F7 (by rw[CX];split<;>rfl)
 rw[e0]at D⊢;cases D;exact Lm y;exact hI.A2 (M _ hk rfl) λb _ K=>Ir K
def AFD(f:Bv)(k:Nat):AU AK:=match f.rg with|none=>f.σ.hp k|some _=>nO
def Bv.re(f:Bv)(k:Nat)(b:AK):Bv:={f with σ:={f.σ with hp:=AV f.σ.hp k<|sM b}}
def Aae{c R f}(k){b p}(d:AFD f k=sM b)(u:∀A,p.AO A=b.AO A)(q:∀x∈p.A3,x∈b.A3)(t:p.live=b.live)(h:GG c R<|f.re k p):GG c R f:=by
 let⟨z,F,I,G⟩:=f;rw[AFD]at d;split at d
 case h_2=>cases d
 rename_i y;simp only at y d;subst y;intro B A a w r;have n:∀j,HJ (AV z.hp k<|sM p) j->HJ z.hp j:=λj ⟨x,g,D⟩=>by by_cases e:j=k;subst e;rw[Eu]at g;cases g;exact⟨b,d,by rwa[<-t]⟩;rw[D3 _ _ e]at g;exact⟨x,g,D⟩
 have l:∀j,(z.hp j).isSome->(AV z.hp k (sM p) j).isSome:=λj m=>by by_cases e:j=k;subst e;rw[Eu];rfl;rwa[D3 _ _ e]
 refine h ?_ A a w ?_;refine⟨λj m=> ?_,B.2⟩;have e:j≠k:=λe=>by have:=B.1 j m;simp only at this;rw[e,d]at this;cases this
 show AV z.hp k (sM p) j=nO;rw[D3 _ _ e];exact B.1 j m
 exact{
  hp:=λj x o g C=>by simp[Bv.re]at g;by_cases e:j=k;subst e;rw[Eu]at g;cases g;rw[u]at C;exact r.hp _ b o d C;rw[D3 _ _ e]at g;exact r.hp j x o g C
  inj:=λi j H m=>r.inj i j (n i H)<|n j m
  kb:=λj x E g v=>by simp[Bv.re]at g⊢;by_cases e:j=k;subst e;rw[Eu]at g;cases g;exact l _<|r.kb _ b E d<|q _ v;rw[D3 _ _ e]at g;exact l _<|r.kb j x E g v
  im:=r.im
  lm:=r.lm
  na:=r.na
  fs:=r.fs
  GV:=r.GV
  dj:=λj m=>r.dj j<|n j m
  ad:=r.ad
  nw:=λj m=>r.nw j<|n j m
  fr:=r.fr
  sz:=r.sz
  os:=r.os
  tape:=r.tape
  output:=r.output
  size:=r.size
  nd:=r.nd
  tm:=r.tm
  kd:=λs j m=>l j<|r.kd s j m}
def AIK{w a k l e}(h:Has w a [(k,.cells l e)])(j):w.cell? ⟨a k,j,nO⟩=(BB a l)[j]? :=by have:=h (k,.cells l e) sP _ rfl;simp only at this;simp[World.cell?,this]
def Zn{P L}(n:Ed P L){t a k off ty l x e I}(g:L.get t=sM ty)(f:ty.k.agg=fF)(u:l[off]? =sM x):
 HL P (.load t<|.tmp a) [(a,SV.p k off)] [(k,.cells l e)] I x:=by
 let⟨i,d,z,y,p,B,r,A,hzero⟩:=Dg<|n.get g;refine .of ?_;rintro j v w ⟨h,_⟩ _ q _ o s;simp[AO]at h;have c:(isAgg t).run P w=.ok fF w:=by have m:=RF r;rw[f]at m;simp[isAgg,rB,rU p,aK];cases d<;>simp_all
 have b:w.cell? ⟨j k,off,nO⟩=sM (AO j x):=by rw[AIK q,Hw,GB,u];rfl
 simp[execOp,s,rB,h,Instr.loadAt,Instr.sureAddr,Sem.run_pure,aK,loadVar,c];simp[load,Sem.run,b]
def Afe{P:B7}{L:Lay}(g:Ed P L)(I:AB)(t a k b:Nat)(e:BN){f:Ty}{l:AA SV}{x:SV}(d:L.get t=sM f)(c:f.k.agg=fF)(h:l[b]? =sM x):It P:=.BZ (.load t<|.tmp a) [(a,.p k b)] [(k,.cells l e)] I x<|Zn g d c h
def AXu{P L}(r:Ed P L){t a k off c l xs e I}(h:L.get t=sM c)(f:c.k.agg)(q:(l.drop off).take c.n=xs)(D:off+c.n<=lN l):
 HL P (.load t<|.tmp a) [(a,SV.p k off)] [(k,.cells l e)] I (.g xs):=by
 let⟨i,d,z,y,u,E,A,p,hzero⟩:=Dg<|r.get h;refine .of ?_;rintro m C w ⟨n,_⟩ _ x _ o B;simp[AO]at n;have s:w.rangeAt (m k) off (BB m xs):=λj v b=>by rw[AIK x];rw[<-q,Tj,Ti,GO]at b;split at b;rw[Jg]at b;exact b;cases b
 have g:d.isRow:=by rw[<-RF A]at f;cases d<;>simp_all[TypeDesc.isRow]
 have:=run_loadVar_mid (P:=P) w (m k) off t _ d s u g (by rw[y];simp[<-q,p,Jp];rw[<-p];omega);simp[execOp,B,rB,n,Instr.loadAt,Instr.sureAddr,Sem.run_pure,aK,this];simp[AO]
def AXq{P L}(r:Ed P L){t a b b2 E k n c i j:Nat}{e F ty I}(m:L.get t=sM ⟨E,F,.slice e⟩)(l:L.get e=sM ty)(z:i<=j)(A:j<=c):
 HL P (.slice t (.tmp a) (sM<|.tmp b) (sM<|.tmp b2) nO) [(a,SV.s k 0 n c),(b,SV.v<|.int iK<|Int.ofNat i),(b2,SV.v<|.int iK<|Int.ofNat j)] [] I (.s k (if c=i then 0 else i*ty.n) (j-i)<|c-i):=by
 have x:=Aeg r m;let⟨J,H,K,f,y,D,B,g,d⟩:=Dg<|r.get l;refine .of ?_;rintro M G w ⟨s,u,v,_⟩ _ _ _ o C;have p:(0:Int)<=(i:Int)/\(i:Int)<=(j:Int):=oG;have q:(0:Int)<=(j:Int)/\(j:Int)<=(c:Int):=oG;simp[execOp,C,Instr.sliceAt,Instr.slice,s,u,v,AO,rU x,Instr.sliceBounds,run_sliceBound,p.1,p.2,q.1,q.2,z,A,sizeOf,typeInfo,f,g,aT];split<;>simp[Addr.add];intro h;exact h.symm
def AXr{P L}(u:Ed P L){t a b b2 b3 J k n c i j m:Nat}{e K ty I}(p:L.get t=sM ⟨J,K,.slice e⟩)(l:L.get e=sM ty)(C:i<=j)(D:j<=m)(F:m<=c):
 HL P (.slice t (.tmp a) (sM<|.tmp b) (sM<|.tmp b2)<|sM<|.tmp b3) [(a,SV.s k 0 n c),(b,SV.v<|.int iK<|Int.ofNat i),(b2,SV.v<|.int iK<|Int.ofNat j),(b3,SV.v<|.int iK<|Int.ofNat m)] [] I (.s k (if m=i then 0 else i*ty.n) (j-i)<|m-i):=by
 have A:=Aeg u p;let⟨O,N,Q,f,B,H,E,g,d⟩:=Dg<|u.get l;refine .of ?_;rintro R M w ⟨v,x,y,z,_⟩ _ _ _ o G;have q:(0:Int)<=(i:Int)/\(i:Int)<=(j:Int):=oG;have r:(0:Int)<=(j:Int)/\(j:Int)<=(m:Int):=oG;have s:(0:Int)<=(m:Int)/\(m:Int)<=(c:Int):=oG;simp[execOp,G,Instr.sliceAt,Instr.slice,v,x,y,z,AO,rU A,Instr.sliceBounds,run_sliceBound,q.1,q.2,r.1,r.2,s.1,s.2,C,D,F,sizeOf,typeInfo,f,g,aT];split<;>simp[Addr.add];intro h;exact h.symm
def Aai{I b a m c k d e f xs}(h:(k,AK.As f e)∈b)(j:(f.drop d).take (m*a)=xs)(i:lN xs=m*a)(g:∀v∈xs,v.oneCell'):Reads I b (.s k d m c) a m xs:=
 ⟨i,g,λl w hN _=>.inr ⟨_,c,rfl,by
   have:=Te (off:=d) (n:=m*a)<|hN _ h _ rfl;rw[<-j];simpa using this⟩⟩
def AQO{P L}(hL:Ed P L){o tm C k q I t e a x n m cap vs news}(hT:Gq P L t e a)(F:O9 tm o.op=sM (t,.s k 0 n cap,x))
 (hk:(k,.As vs e)∈q) (X:lN vs=cap*a) (D:Reads I q x a m news) (l:n+m<=cap):HS P o tm C q I (λh=>h= {r:=.s k 0 (n+m) cap,AV:=[(k,.As (vs.take (n*a)++news++vs.drop (n*a+m*a)) e)],J:=I}) nO:=by
 refine⟨?_⟩;intro ρ ac w he hN Z T aa ae ah next Q hnext _;let⟨⟨z0,W⟩,⟨ze,ke,U,aj⟩,u⟩:=hT;have hd:=Aeg hL W;let⟨d,de,z',K,ab,ai,af,p,S⟩:=Dg<|hL.get U;simp only at p;subst p;have f:=hN _ hk _ rfl;simp only at f;obtain⟨H,v⟩:∃H:Ab,H= {r:=.s k 0 (n+m) cap,AV:=[(k,.As (vs.take (n*d.size)++news++vs.drop (n*d.size+m*d.size)) e)],J:=I}:=⟨_,rfl⟩;have R:H.AV=[(k,.As (vs.take (n*d.size)++news++vs.drop (n*d.size+m*d.size)) e)]:=by rw[v]
 have z:H.nb=[]:=by rw[v]
 have Bz:∀s:AN,s.os=w.os->s.tape=w.tape->s.output=w.output->w.heap.size<=s.heap.size->(∀b,b<w.heap.size->ρ k≠b->s.heap[b]? =w.heap[b]?)->
  s.heap[ρ k]? =sM (.cells (vs.take (n*d.size)++news++vs.drop (n*d.size+m*d.size)).toArray e (0,0))->(Builtin.append_ #[t,t] o.type #[AO ρ<|.s k 0 n cap,AO ρ x]).run P w=.ok (.slice (aP<|ρ k) (n+m) cap) s->o.wp P ac w next Q:=by
  intro s E e2 e3 e4 g hq O;rw[Oper.wp];rw[Vg (P:=P) F he O,Oper.upon_value];have Y:Ab.Bh H ρ C (λ_=>0)=ρ:=by funext y;exact F7 (by rw[z];rw[CX];split<;>rfl)
  have hA:After I ρ w s C (λ_=>0) H:=by refine⟨E,e2,e3,e4,λb u A _=>g b u<|A (k,.As (vs.take (n*d.size)++news++vs.drop (n*d.size+m*d.size)) e)<|by rw[R];exact A9.2 rfl,?_,(λj b hj=>by rw[z]at hj;simp at hj),(λi j hi=>by rw[z]at hi;simp at hi),?_,λb o' u=>.inl<|by rw[v]at u;exact u,λb o' u=>by rw[v]at u;exact IM u⟩;intro kb M o' N;rw[R]at M;rw[A9.1 M]at N⊢;cases N;rwa[Y];rw[v];exact Z.A2 (T _ hk rfl) g
  have h:=hnext rfl H s (λ_=>0) v hA;rw[Y,show H.r=.s k 0 (n+m) cap by rw[v]]at h;exact h
 have ag:=Eg f;rcases D.at_ ρ w hN Z with⟨c,E,rfl⟩|⟨ad,c,E,B⟩;have V:news=[]:=Ib (by rw[D.len];simp);subst V;refine Bz w rfl rfl rfl (Ag _) (λ_ _ _=>rfl) (by rw[f];simp) ?_;rw[E];have:n<=cap:=oG;simp[AO,Builtin.append_,rU hd,sizeOf,typeInfo,K,Builtin.lenOf,this,Builtin.firstCells,storeCells];have G:n*d.size+lN news<=vs.toArray.size:=by have:=TF d.size l;rw[D.len];simp[Iv,X];rw[Gm]at this;exact this
 refine Bz (w.setRow (ρ k) (vs.toArray.toList.take (n*d.size)++news++vs.toArray.toList.drop (n*d.size+lN news)).toArray) rfl rfl rfl (by rw[Bl.setRow];exact Ag _) (λb _ A=>Ir A) ?_ (by rw[E];exact run_append_room (P:=P) w t o.type e d hd K (ρ k) n cap vs.toArray f ad m c news D.len B D.one l G);rw[Lm f,D.len]
def AQQ{P L}(D:Ed P L){o G A d I t e f x n cap a}(hT:Gq P L t e f)(g:O9 G o.op=sM (t,.v<|.slice a n cap,x))
 (U:Reads I d x f 0 []) (m:n<=cap):HS P o G A d I (λh=>h= {r:=.v<|.slice a n cap,J:=I}) nO:=by
 refine⟨?_⟩;intro B X w M hN C K F N T next Q hnext _;let⟨⟨z0,z⟩,⟨ze,ke,u,W⟩,k⟩:=hT;have E:=Aeg D z;let⟨ie,Z,z',l,H,V,S,y,q⟩:=Dg<|D.get u;have p:(Builtin.append_ #[t,t] o.type #[AO B<|.v<|.slice a n cap,AO B x]).run P w=.ok (.slice a n cap) w:=by rcases U.at_ B w hN C with⟨c,s,_⟩|⟨Y,c,s,_⟩;rw[s];cases a<;>simp[AO,Builtin.append_,rU E,sizeOf,typeInfo,l,Builtin.lenOf,m,Builtin.firstCells,storeCells];rw[s];cases a<;>simp[AO,Builtin.append_,rU E,sizeOf,typeInfo,l,Builtin.lenOf,m,Builtin.firstCells,storeCells,loadCells,loadCellsFrom,aT]
 rw[Oper.wp];rw[Vg (P:=P) g M p,Oper.upon_value];exact hnext rfl {r:=.v<|.slice a n cap,J:=I} w (λ_=>0) rfl ⟨rfl,rfl,rfl,Ag _,λb k _ _=>rfl,nA,(λj b R=>by simp at R),(λi j O=>by simp at O),C,λb o k=>.inl k,λb o k=>IM k⟩
def AfA{P t a b m n A y h x kv v B f}(c:Bool)(p){I}(k:P.underlying t=sM (.map A y))(d:P.underlying A=sM h)(e:MapKept.IsKey h kv)(C:∀g,B.AO g=sM (.map x n))(D:Instr.findNow h kv x.toList 0=sM f)(z:f.elim (∀w,(zeroValue y).run P w=.ok v w) λq=>q.2=v)(F:∀g,AO g p=v):
 HL P (.lookup t (.tmp a) (.tmp b) c) [(a,SV.m m),(b,SV.v kv)] [(m,B)] I (cond c (.t [p,.v<|vB f.isSome]) p):=by
 refine .of ?_;rintro g G w ⟨r,s,_⟩ _ hN _ o E;simp[AO]at r s;rcases f with _|⟨j,u⟩<;>simp[Option.elim]at z<;>cases c<;>simp[execOp,E,r,s,Instr.lookup,rU k,MapKept.run_getObj_map<|hN (m,B) sP _<|C g,MapKept.run_checkKey d e,MapKept.run_findKey (P:=P) (w:=w) d D,z,F,aT,AO,BB]
def AVT{P o A y t l n p m k x R v T U M c g I}(z:o.op=.mapUpdate t m k x)(hm:ev A m=.m l)(hk:ev A k=T)(G:∀ρ,AO ρ T=R)(hx:ev A x=U)(hv:∀ρ,AO ρ U=v)(d:(l,.Aq<|.map M n)∈g)
 (u:∀(w:AN) r,w.heap[r]? =sM (.map M n)->(Instr.mapUpdate t (.map<|sM r) R v).run P w=.ok () {w with heap:=w.heap.setIfInBounds r<|.map c p}):HS P o A y g I (λh=>h= {r:=.v undef,AV:=[(l,.Aq<|.map c p)],J:=I}) nO:=by
 refine⟨?_⟩;intro ρ a w F Y W E N X aa next Q hnext _;have C:=Y _ d _ rfl;simp only at C;have B:=F m xO;have K:=F k xO;have L:=F x xO;rw[hm]at B;rw[hk,G ρ]at K;rw[hx,hv ρ]at L;simp[AO]at B;have hex:(execOp a.eval o).run P w=.ok .skip {w with heap:=w.heap.setIfInBounds (ρ l)<|.map c p}:=by simp[execOp,z,B,K,L,u w (ρ l) C]
 let⟨k1,O⟩:=MapKept.heap_set (o':=.map c p) C;rw[Oper.wp];rw[hex,Oper.upon_skip];refine hnext rfl _ _ (λ_=>0) rfl ⟨rfl,rfl,rfl,sP,λb f H _=>O b λe=>(H (l,.Aq<|.map c p) sP) ?_,?_,λj b hj=>by simp at hj,λi j Z=>by simp at Z,?_,λb S f=>.inl f,λb S f=>IM f⟩;exact e.symm;intro kb q S s;simp at q;subst q;have V:Ab.Bh {r:=.v undef,AV:=[(l,AK.Aq<|.map c p)],J:=I} ρ y (λ_=>0)=ρ:=by funext n;exact F7 (by rw[CX];split<;>rfl)
 rw[V]at s⊢;cases s;exact k1;exact W.A2 (E _ d rfl) λb _ D=>O b λe=>D e.symm
def Wn{P t g h c d n kv v}(j:P.underlying t=sM (.map g h))(a:P.underlying g=sM c)(b:MapKept.IsKey c kv)(i:Instr.findNow c kv d.toList 0=sM nO)(w r)(f:w.heap[r]? =sM (.map d n)):
 (Instr.mapUpdate t (.map<|sM r) kv v).run P w=.ok () {w with heap:=w.heap.setIfInBounds r<|.map (d.push {key:=kv,val:=v,born:=n})<|n+1}:=by
 have e:=MapKept.run_findKey (P:=P) (w:=w) a i;simp[Instr.mapUpdate,rU j,MapKept.run_getObj_map f,MapKept.run_checkKey a b,e,aT,MapKept.run_setObj_map _ f]
def ALP{P t i k d c n j kv v old}(o:P.underlying t=sM (.map i k))(b:P.underlying i=sM d)(a:MapKept.IsKey d kv)(l:Instr.findNow d kv c.toList 0=sM (sM (j,old)))(m:c[j]?.map (·.key)=sM kv)(w r)(h:w.heap[r]? =sM (.map c n)):
 (Instr.mapUpdate t (.map<|sM r) kv v).run P w=.ok () {w with heap:=w.heap.setIfInBounds r<|.map (c.modify j λe=>{e with key:=kv,val:=v}) n}:=by
 have f:=MapKept.run_findKey (P:=P) (w:=w) b l;have g:=MapKept.run_keyThatStays (P:=P) (w:=w) a;simp[Instr.mapUpdate,rU o,MapKept.run_getObj_map h,MapKept.run_checkKey b a,f,aT,m,g,MapKept.run_setObj_map _ h]
mutual
theorem Tz{ρ σ K b}(d:σ K=b)(a:∀k,k≠K->σ k=ρ k):∀x,AO ρ (x.B4 K b)=AO σ x
 | .v _=>rfl
 | .p k o=>by
   by_cases e:k=K;subst e;simp[SV.B4,AO,d];have:bQ k K=fF:=by cases q:bQ k K with|false=>rfl|true=>exact(e<|Ha q).elim
   simp[SV.B4,this,AO,a k e]
 | .s k o n c=>by
   by_cases e:k=K;subst e;simp[SV.B4,AO,d];have:bQ k K=fF:=by cases q:bQ k K with|false=>rfl|true=>exact(e<|Ha q).elim
   simp[SV.B4,this,AO,a k e]
 | .m k=>by
   by_cases e:k=K;subst e;simp[SV.B4,AO,d];have:bQ k K=fF:=by cases q:bQ k K with|false=>rfl|true=>exact(e<|Ha q).elim
   simp[SV.B4,this,AO,a k e]
 | .g l=>by simp only[SV.B4,AO];rw[SA d a l]
 | .t l=>by simp only[SV.B4,AO];rw[SA d a l]
 | .fn f x y=>by simp only[SV.B4,AO];rw[SA d a x,SA d a y]
theorem SA{e c K b}(d:c K=b)(a:∀k,k≠K->c k=e k):∀l,BB e (Hz K b l)=BB c l
 |[]=>rfl
 |x::l=>by simp only[Hz,BB];rw[Tz d a x,SA d a l]
end
theorem AK.Tz{ρ σ K b}(c:σ K=b)(a:∀k,k≠K->σ k=ρ k)(x:AK):(x.B4 K b).AO ρ=x.AO σ:=by
 cases x with
 |cells l e=>simp[AK.B4,AK.AO];rw[SA c a]
 |Ey d f=>simp[AK.B4,AK.AO];rw[SA c a]
 |_=>rfl
def AHd(h:Ab)(K:Nat)(o:Obj):AU Obj:=match h.AV.find? (λa=>bQ a.1 K)with
 |some a=>a.2.AO λ_=>0
 |none=>sM o
def Ab.Aec(h:Ab)(K a b q:Nat)(o:Obj):Ab:=
 {
  r:=(h.r.B4 K b).B4 a q
  AV:=(h.AV.filter λc=> !bQ c.1 K).map λc=>(c.1,(c.2.B4 K b).B4 a q)
  nb:=[]
  J:=⟨h.J.at_,λx=>match h.nb with
   |y::_=>(match bQ x q with|true=>y.AO (λ_=>0)|false=>match bQ x b with|true=>AHd h K o|false=>h.J.Ak x)
   |[]=>match bQ x b with|true=>AHd h K o|false=>h.J.Ak x⟩}
theorem OH{a b}(h:a≠b):bQ a b=fF:=by
 cases q:bQ a b with
 |false=>rfl
 |true=>exact(h<|Ha q).elim
def AB.plus(I:AB)(b:Nat)(o:Obj):AB:=⟨I.at_,λx=>match bQ x b with|true=>sM o|false=>I.Ak x⟩
theorem Ua(I:AB)(b o):(I.plus b o).Ak b=sM o:=by simp[AB.plus]
theorem NN(I:AB){b x}(o)(h:x≠b):(I.plus b o).Ak x=I.Ak x:=by simp[AB.plus,OH h]
def AYd(a x y k):(CX a [x] k).isSome=(CX a [y] k).isSome:=by
 unfold CX;cases Nat.ble a k with
 |false=>rfl
 |true=>
  simp only;cases k-a with
  |zero=>rfl
  |succ n=>rfl
def AQP{P L}(hL:Ed P L){o W c k B I t e e' size l}(hT:Gq P L t e size)(D:O9 W o.op=sM (t,.v zS,.s k 0 1 1))(S:(k,.cells l e')∈B)(hl:lN l=size)(H:∀g,∀v∈BB g l,v.oneCell'):
 HS P o W c B I (λh=>∃(f:Nat)(AE:AA AF),1<=f/\f<=maxLen/\lN AE=(f-1)*size/\h= {r:=.s c 0 1 f,nb:=[.cells (l++AE.map SV.v) e],J:=I}) nO:=by
 refine⟨?_⟩;intro g a w O hN hI N Z R U next Q hnext _;have hlen:lN (BB g l)=1*size:=by rw[Hw,DG,hl];omega
 have E:=U _ S;refine (MM hL (o:=o) (tm:=W) (key:=c) (need:=[(k,.cells ((BB g l).map .v) e')]) (I:=I) (t:=t) (e:=e) (size:=size) (n:=0) (cap:=0) (m:=1) (a:=nO) (l:=.v zS) (x:=.s k 0 1 1) (CQ:=[]) (news:=BB g l) hT D rfl Ol (Ez (e:=e') (A9.2 rfl) hlen<|H g) (Ag _) oG (λ_=>rfl) oG).out g a w O ?_ hI ?_ ?_ R ?_ next Q ?_ ?_;intro F d G C;rw[A9.1 d]at C⊢;refine hN _ S G ?_;simp only[AK.AO,Gw]at C⊢;exact C;intro F d aa;rw[A9.1 d];exact N (k,.cells l e') S rfl;intro x hx y V _ _ _;rw[A9.1 hx,A9.1 V];intro F d;rw[A9.1 d];refine⟨λk' u=> ?_,E.2⟩;simp only[AK.A3]at u;let⟨y,V,T⟩:=Mc.1 u;obtain⟨v,_,rfl⟩:=BI.1 V;cases T;rintro _ h w' q ⟨f,AE,r1,r2,r3,rfl⟩ A;have z:Ab.Bh {r:=.s c 0 1 f,nb:=[.cells (l++AE.map SV.v) e],J:=I} g c q=Ab.Bh {r:=.s c 0 (0+1) f,AV:=[],nb:=[AK.As ([]++BB g l++AE) e],J:=I} g c q:=by funext n;unfold Ab.Bh;have Y:=AYd c (.cells (l++AE.map SV.v) e) (.As ([]++BB g l++AE) e) n;simp only;cases e1:CX c [AK.cells (l++AE.map SV.v) e] n<;>cases e2:CX c [AK.As ([]++BB g l++AE) e] n<;>rw[e1,e2]at Y<;>first|rfl|cases Y
 have m:=hnext rfl {r:=.s c 0 1 f,nb:=[.cells (l++AE.map SV.v) e],J:=I} w' q ⟨f,AE,oG,r2,by simpa using r3,rfl⟩ ?_;rw[z]at m;exact m;refine⟨A.os,A.tape,A.output,A.size,λb H _ h3=>A.A2 b H nA h3,?_,?_,λi j hi s e=>A.qi i j (by simpa using hi) (by simpa using s) e,A.H2,λb G K=>(A.fresh b G K).imp id λ⟨p,r⟩=>⟨p,λj s=>r j<|by simpa using s⟩,λb G K=>(A.IX b G K).imp id λ⟨p,r⟩=>⟨p,λj s=>r j<|by simpa using s⟩⟩;intro F d;cases d;intro j x s;cases j with
 |succ j=>simp at s
 |zero=>
  simp at s;subst s;have X:=A.nb 0 (.As ([]++BB g l++AE) e) rfl;refine⟨?_,rfl,?_⟩;rw[z,X.1];simp only[AK.AO];have hd:BB (Ab.Bh {r:=.s c 0 (0+1) f,AV:=[],nb:=[AK.As ([]++BB g l++AE) e],J:=I} g c q) (l++AE.map SV.v)=[]++BB g l++AE:=by rw[Hw,E3,<-Hw,<-Hw,Gw,F2];congr 1;exact QU l λk' u=>F7<|Qw sP<|E.1 k' u
  rw[hd];rcases X.2.2 with h'|⟨F,d,_⟩;exact .inl h';cases d
 intro ch M;cases M
def Aaq{P F d n I w k A b s L}(Q:Ed P L)(K:P.funcs[F]? =sM d){f}(M){h ds}
 (hend:KY L d.results.toList A M b f=sM h) (o:100<=b) (D:s b h)
 (z:∀(tmps:Ae AF)(c:AN)(v:AF),(results d tmps).run P c=.ok v c->Rf P I k b w A s nO (.returned v) c->Leaves P d tmps (Rf P I k b w A s nO) ds .returning c):GG (Kn P F d n I w k A ds) (Rf P I k b w A s nO) f:=by
 have S:=AMm (F:=F) (n:=n) (w:=w) (ρ:=k) (I:=I) (ds:=ds) Q M hend o D;let⟨T,r,E,O⟩:=f;have B:E=nO\/∃g,E=sM g:=by cases E with|none=>exact .inl rfl|some g=>exact .inr ⟨g,rfl⟩
 rcases B with rfl|⟨g,rfl⟩;intro _ G a c R H;let⟨J,_,v,q,Bz⟩:=S G a c R;have m:=z a.tmps c v q Bz;have p:a.defers=ds:=R.nd;cases r with
 |nil=>
  let⟨t,j,e,y,C,i,m⟩:=leaves_steps ds .returning c {(M5<|Kn P F d n I w k A ds).at a []with mode:=.returning} H rfl p rfl K rfl m;exact⟨t,j,e,y,Comes.of_steps (.one step_end) C,i,m⟩
 |cons x l=>
  cases x with
  |code N=>
   cases N with
   |ret=>
    let⟨t,j,e,y,C,i,m⟩:=leaves_steps ds .returning c {(M5<|Kn P F d n I w k A ds).at a (.code .ret::l)with mode:=.returning} H rfl p rfl K rfl m;exact⟨t,j,e,y,Comes.of_steps (.one step_ret) C,i,m⟩
   |_=>cases J
  |_=>cases J
 .exfalso;rw[KY]at hend;split at hend
  case h_2=>cases hend
  rename_i u _ _ _;simp at u
def ASW{c}(O:c.P.funcs[c.f]? =sM c.fn)(N:c.Rx=[]){R f tag Aj k s b x y n l o1}
 (m:f.rg.isNone) (i:f.todo=.code (.region tag Aj fF)::k) (t:Aj.size=2) (L:Aj[0]? =sM l) (M:Aj[1]? =sM o1) (J:l.guard=nO) (K:o1.guard=nO) (C:l.dst=sM s) (D:o1.dst=nO) (P:Nat.blt s c.n)
 (Q:l.op=.makeFunc (.func b) #[] #[.tmp x,.tmp y]) (S:o1.op=.defer n) (U:n.callee=.value (.tmp s)) (T:n.args=#[])
 (h:∀u v:AF,GG {c with Rx:=[{target:=.fn (.func b) #[u,v],args:=#[]}]} R ⟨f.σ.put (sM s) (.fn (.func b) [] [f.σ.tm x,f.σ.tm y]),k,nO,f.Bq⟩):GG c R f:=by
 let⟨d,A,V,B⟩:=f;simp[Nc]at m i h;subst m i;intro z g a w r;refine ADl O (wp_region ?_);rw[t];show wpOps c.P Aj (Qk c R k) [0,1] a w;rw[wpOps_cons];rw[wpOp];rw[L];dsimp only;rw[show Region.wanted l (yielded Aj a.tmps)=tT from by rw[Region.wanted];rw[J],Ac rfl];left;have E:(execOp a.eval l).run c.P w=.ok (.value (.func (.func b) #[] #[a.eval (.tmp x),a.eval (.tmp y)])) w:=by simp[execOp,Q,Instr.makeFunc]
 rw[Oper.wp];rw[E,Oper.upon_value,C];have p:∀k∈(SV.fn (.func b) [] [d.tm x,d.tm y]).A3,(d.hp k).isSome:=λk j=>by simp[SV.A3,DF,F2,Hn,Bc]at j;rcases j with j|j;exact r.kd x k j;exact r.kd y k j
 have e:=r.put (d:=sM s) (by show Nat.blt s c.n;exact P) (x:=.fn (.func b) [] [d.tm x,d.tm y]) p;have H:a.eval (.tmp x)=AO g (d.tm x):=r.ev (.tmp x);have I:a.eval (.tmp y)=AO g (d.tm y):=r.ev (.tmp y);have o:(Value.func (.func b) #[] #[a.eval (.tmp x),a.eval (.tmp y)])=AO g (.fn (.func b) [] [d.tm x,d.tm y]):=by rw[H,I];rfl
 rw[o];rw[wpOps_cons];rw[wpOp];rw[M];dsimp only;rw[show Region.wanted o1 (yielded Aj (a.put (sM s) (AO g (.fn (.func b) [] [d.tm x,d.tm y]))).tmps)=tT from by rw[Region.wanted];rw[K],Ac rfl];left;have G:(a.put (sM s) (AO g (.fn (.func b) [] [d.tm x,d.tm y]))).eval (.tmp s)=.func (.func b) #[] #[AO g (d.tm x),AO g (d.tm y)]:=by rw[e.ev (.tmp s)];show AO g (AV d.tm s _ s)=_;rw[Eu];rfl
 have F:(execOp (a.put (sM s) (AO g (.fn (.func b) [] [d.tm x,d.tm y]))).eval o1).run c.P w=.ok (.defer {target:=.fn (.func b) #[AO g (d.tm x),AO g (d.tm y)],args:=#[]}) w:=by simp[execOp,S,resolve,U,T,G,Deferred.ofValue]
 rw[Oper.wp];rw[F,Oper.upon_defer,D];show M0 c R k _ w;refine h (AO g (d.tm x)) (AO g (d.tm y)) ⟨z.1,z.2⟩ g _ w ?_;have q:(a.put (sM s) (AO g (.fn (.func b) [] [d.tm x,d.tm y]))).defers=[]:=e.nd.trans N;exact{hp:=e.hp,inj:=e.inj,kb:=e.kb,im:=e.im,lm:=e.lm,na:=e.na,fs:=e.fs,GV:=e.GV,dj:=e.dj,ad:=e.ad,nw:=e.nw,fr:=e.fr,sz:=e.sz,os:=e.os,tape:=e.tape,output:=e.output,size:=e.size,nd:=Dt (List.cons _) q,tm:=e.tm,kd:=e.kd}
def AB.minus(I:AB)(b:Nat):AB:=⟨I.at_,λx=>match bQ x b with|true=>nO|false=>I.Ak x⟩
def ALN(I:AB)(b):(I.minus b).Ak b=nO:=by simp[AB.minus]
def Zx(I:AB){b x}(h:x≠b):(I.minus b).Ak x=I.Ak x:=by simp[AB.minus,OH h]
def Ab.off(h:Ab)(b:Nat):Ab:={h with J:=h.J.minus b}
def FC.place{P:B7}{F:Ba}{args:AA SV}{need:AA<|Nat×AK}{I:AB}{N:zP}(K:Nat)(o:Obj){Ψ:Nat->zP}(B:K∉need.map (·.1))
 (S:∀b,I.free b->FC P F (args.map (·.B4 K b)) (need.map λm=>(m.1,m.2.B4 K b)) (I.plus b o) (Ψ b) nO) (H:∀b g h,I.free b->Ψ b g h->h.J.Ak b=sM o/\N g (h.off b)):FC P F args ((K,.Aq o)::need) I N nO:=by
 intro c g w u hN L t p;have i:I.free (c K):=t (K,.Aq o) sP;have s:w.heap[c K]? =sM o:=hN (K,.Aq o) sP _ rfl;have r:BB c (args.map (·.B4 K (c K)))=BB c args:=by rw[Hw,Hw,Gk];exact JD λx _=>Tz rfl (λ_ _=>rfl) x
 have z:Holds w (I.plus (c K) o):=by refine⟨L.1,λx y a=> ?_⟩;by_cases e:x=c K;subst e;rw[Ua]at a;cases a;exact s;rw[NN _ _ e]at a;exact L.2 x y a
 have C:∀m∈need,c m.1≠c K:=λm f e=>B (by have:=p m (DY _ f) (K,.Aq o) sP e;simp only at this;rw[<-this];exact BI.2 ⟨m,f,rfl⟩)
 have:=(S (c K) i) c g w u (λm f x a=>by
  obtain⟨n,d,rfl⟩:=BI.1 f;simp only at a⊢;rw[AK.Tz (ρ:=c) (σ:=c) rfl λ_ _=>rfl]at a;exact hN n (DY _ d) x a) z (λm f=>by
  obtain⟨n,d,rfl⟩:=BI.1 f;have J:=t n<|DY _ d;exact⟨J.1,by rw[NN _ _<|C n d];exact J.2⟩) (λx a y U e=>by
  obtain⟨W,D,rfl⟩:=BI.1 a;obtain⟨X,E,rfl⟩:=BI.1 U;exact p W (DY _ D) X (DY _ E) e)
 rw[r]at this;refine this.mono ?_;rintro e Y ⟨h,q,⟨G,V,hle⟩,A,T⟩;obtain⟨O,Q⟩:=H _ g h i G;have j:h.LD g (((K,AK.Aq o)::need).map (·.1)):=V.mono λk M=>by rw[Gk]at M;exact DY _ M
 refine⟨h.off<|c K,q,⟨Q,⟨j.r,j.u,j.n,j.l,j.d⟩,hle⟩,⟨A.os,A.tape,A.output,A.size,λx a v R=> ?_,A.AV,A.nb,A.qi,⟨A.H2.1,λx y a=> ?_⟩,A.fresh,λx y a=> ?_⟩,T⟩;by_cases l:x=c K;subst l;rw[A.H2.2 _ _ O,s];exact A.A2 x a v (by rwa[NN _ _ l]);have a:(h.J.minus<|c K).Ak x=sM y:=a;by_cases l:x=c K;rw[l,ALN]at a;cases a;rw[Zx _ l]at a;exact A.H2.2 x y a;have a:(h.J.minus<|c K).Ak x=sM y:=a;by_cases l:x=c K;rw[l,ALN]at a;cases a;rw[Zx _ l]at a;have:=A.IX x y a;rw[NN _ _ l]at this;exact this
def AVV{P o v c t K A b n x z I}(u:o.op=.range t x)(H:P.underlying t=sM (.map K A))(g:ev v x=.v (.map<|sM b))(e:I.CW b=sM (.map z n)):
 HS P o v c [] I (λh=>h= {r:=.p c 0,nb:=[.Aq<|.mapIter (sM b) n #[] n],J:=I}) nO:=by
 refine⟨?_⟩;intro y a w C M q B s D F next Q hnext _;have l:=C x xO;rw[g]at l;simp only[AO]at l;have hex:(execOp a.eval o).run P w=.ok (.value<|.pointer<|aP w.heap.size) (w.alloc<|.mapIter (sM b) n #[] n):=by
  have G:(Instr.range t<|.map<|sM b).run P w=.ok (.pointer<|aP w.heap.size) (w.alloc<|.mapIter (sM b) n #[] n):=by simp only[Instr.range,rB,rU H,aK,MapKept.run_getObj_map<|q.CW b _ e];rfl
  simp[execOp,u,l,G,aT]
 rw[Oper.wp];rw[hex,Oper.upon_value];have d:Bl w (w.alloc<|.mapIter (sM b) n #[] n):=⟨rfl,rfl,rfl,by show _<=(w.heap.push _).size;rw[NZ];exact Cv _,λx g=>(MapKept.heap_alloc w _).2 x g⟩;have f:Ab.Bh {r:=.p c 0,nb:=[.Aq<|.mapIter (sM b) n #[] n],J:=I} y c (λ_=>w.heap.size) c=w.heap.size:=by have:=Mm (h:={r:=.p c 0,nb:=[.Aq<|.mapIter (sM b) n #[] n],J:=I}) (ρ:=y) (key:=c) (j:=0) (q:=λ_=>w.heap.size) (b:=.Aq<|.mapIter (sM b) n #[] n) rfl;rw[IB]at this;exact this
 have:=hnext rfl {r:=.p c 0,nb:=[.Aq<|.mapIter (sM b) n #[] n],J:=I} (w.alloc<|.mapIter (sM b) n #[] n) (λ_=>w.heap.size) rfl ⟨d.os,d.tape,d.output,d.size,λx g _ _=>d.block x g,nA,λj L k=>by
  cases j with
  |zero=>cases k;exact⟨(MapKept.heap_alloc w _).1,rfl,.inl<|Ag _⟩
  |succ j=>simp at k,λi j E k _=>by simp at E k;omega,d.Eo q,λb o e=>.inl e,λb o e=>IM e⟩
 simp only[AO,f]at this;exact this
def AVU{P:B7}{o:Bw}{X:Nat->SV}{C b n k:Nat}{x:Operand}{q:Ae Ar}{c:Ae Nat}{I:AB}{B vS:Ar->SV}(R:o.op=.next x fF)(v:ev X x=.p k 0)(l:I.CW b=sM (.map q n))(N:∀e∈q.toList,e.born<n)(hk:∀e∈q.toList,∀ρ,AO ρ (B e)=e.key)(hv:∀e∈q.toList,∀ρ,AO ρ (vS e)=e.val):
 HS P o X C [(k,.Aq<|.mapIter (sM b) n c n)] I (λh=>((leftOf q c).size=0/\h= {r:=.t [.v fV],J:=I})\/∃e∈(leftOf q c).toList,h= {r:=.t [.v tV,B e,vS e],AV:=[(k,.Aq<|.mapIter (sM b) n (c.push e.born) n)],J:=I}) nO:=by
 refine⟨?_⟩;intro ρ a w he hh E H V aa ab next Q hnext _;have S:=hh (k,.Aq<|.mapIter (sM b) n c n) sP _ rfl;simp only at S;have D:=he x xO;rw[v]at D;simp only[AO]at D;rcases run_next_at (P:=P) w o.type (ρ k) b n n c q n S (E.CW b _ l) N (Ag _)with⟨h0,g⟩|⟨e,m,u,f,g⟩;have hex:(execOp a.eval o).run P w=.ok (.value<|.tuple #[vB fF]) w:=by simp[execOp,R,D,g,aT]
 rw[Oper.wp];rw[hex,Oper.upon_value];exact hnext rfl {r:=.t [.v fV],J:=I} w (λ_=>0) (.inl ⟨h0,rfl⟩) ⟨rfl,rfl,rfl,Ag _,λ_ _ _ _=>rfl,nA,(λj Y M=>by simp at M),(λi j L=>by simp at L),E,λb o l=>.inl l,λb o l=>IM l⟩;have s:e∈q.toList:=by rw[leftOf]at m;simp only[P4,Ho]at m;exact m.1
 have hex:(execOp a.eval o).run P w=.ok (.value<|.tuple #[vB tT,e.key,e.val]) (Go.ChangeMaps.setBlock u (ρ k)<|.mapIter (sM b) n (c.push e.born) n):=by simp[execOp,R,D,g,aT]
 rw[Oper.wp];rw[hex,Oper.upon_value];have T:u.heap[ρ k]? =sM (.mapIter (sM b) n c n):=by rcases f with rfl|rfl<;>exact S
 obtain⟨k1,W⟩:=MapKept.heap_set (w:=u) (o':=.mapIter (sM b) n (c.push e.born) n) T;have d:∀x:Nat,u.heap[x]? =w.heap[x]? :=λx=>by rcases f with rfl|rfl<;>rfl
 have U:u.heap.size=w.heap.size:=by rcases f with rfl|rfl<;>rfl
 have z:AO ρ (.t [.v tV,B e,vS e])=.tuple #[vB tT,e.key,e.val]:=by simp[AO,BB,hk e s ρ,hv e s ρ]
 have K:=H (k,.Aq<|.mapIter (sM b) n c n) sP rfl;have t:Ab.Bh {r:=.t [.v tV,B e,vS e],AV:=[(k,.Aq<|.mapIter (sM b) n (c.push e.born) n)],J:=I} ρ C (λ_=>0)=ρ:=by funext n;exact F7 (by rw[CX];split<;>rfl)
 have:=hnext rfl {r:=.t [.v tV,B e,vS e],AV:=[(k,.Aq<|.mapIter (sM b) n (c.push e.born) n)],J:=I} (Go.ChangeMaps.setBlock u (ρ k)<|.mapIter (sM b) n (c.push e.born) n) (λ_=>0) (.inr ⟨e,m,rfl⟩)
  ⟨by rcases f with rfl|rfl<;>rfl,by rcases f with rfl|rfl<;>rfl,by rcases f with rfl|rfl<;>rfl,by show _<=(u.heap.setIfInBounds _ _).size;rw[Array.size_setIfInBounds,U];exact Ag _,λx v O _=>(W x λZ=>O (k,.Aq<|.mapIter (sM b) n (c.push e.born) n) sP Z.symm).trans<|d x,λkb p o' A=> ?_,(λj Y M=>by simp at M),(λi j L=>by simp at L),?_,λb o l=>.inl l,λb o l=>IM l⟩
 rw[t,z]at this;exact this;simp at p;subst p;rw[t]at A⊢;cases A;exact k1;have F:Holds u I:=⟨λx y v=>(d x).trans<|E.1 x y v,λx y v=>(d x).trans<|E.2 x y v⟩;exact F.A2 K λx _ G=>W x λe=>G e.symm
def AVP{P:B7}{o:Bw}{B:Nat->SV}{p b n k:Nat}{x:Operand}{q:Ae Ar}{c:Ae Nat}{I:AB}{m vS:Ar->SV}{e:Ar}(z:o.op=.entry x)(R:ev B x=.p k 0)(d:I.CW b=sM (.map q n))(M:(q.toList.map (·.born)).Nodup)(t:e∈q.toList)(K:∀ρ,AO ρ (m e)=e.key)(O:∀ρ,AO ρ (vS e)=e.val):
 HS P o B p [(k,.Aq<|.mapIter (sM b) n (c.push e.born) n)] I (λh=>h= {r:=.t [m e,vS e],J:=I}) nO:=by
 refine⟨?_⟩;intro ρ a w D F v C y E N next Q hnext _;have A:=F (k,.Aq<|.mapIter (sM b) n (c.push e.born) n) sP _ rfl;simp only at A;have s:=D x xO;rw[R]at s;simp only[AO]at s;have hex:(execOp a.eval o).run P w=.ok (.value<|.tuple #[e.key,e.val]) w:=by simp[execOp,z,s,run_entry_at (P:=P) w (ρ k) b n c q n e A (v.CW b _ d) t M,aT]
 rw[Oper.wp];rw[hex,Oper.upon_value];have f:AO ρ (.t [m e,vS e])=.tuple #[e.key,e.val]:=by simp[AO,BB,K ρ,O ρ]
 have:=hnext rfl {r:=.t [m e,vS e],J:=I} w (λ_=>0) rfl ⟨rfl,rfl,rfl,Ag _,λ_ _ _ _=>rfl,nA,(λj S H=>by simp at H),(λi j G=>by simp at G),v,λb o d=>.inl d,λb o d=>IM d⟩;have g:Ab.Bh {r:=.t [m e,vS e],J:=I} ρ p (λ_=>0)=ρ:=by funext n;exact F7 (by rw[CX];split<;>rfl)
 rw[g,f]at this;exact this
def AZZ{c R f}(k){F e}(l:SB f c.A k=sM (F,e))(h:∀b,f.σ.im.free b->GG c R (f.B4 k b<|f.σ.im.plus b<|.cells F.toArray e (0,0))):GG c R f:=by
 let⟨p,aa,rg,ab⟩:=f;rw[SB]at l;split at l
 case h_2=>cases l
 rename_i b0 N P g;simp only at N P g;subst N;simp[CJ,Jf]at g;have M:k∉c.A:=λhm=>by have:=Wl hm;rw[this]at g;cases g.2
 intro H m a w d;let⟨I,D⟩:=AHt l m;have v:HJ p.hp k:=⟨b0,P,D⟩;have T:=d.hp k b0 _ P I;have B:p.im.free (m k):=d.dj k v;have V:c.w0.heap.size<=m k:=by
  rcases d.nw k v with q|⟨Q,C,q⟩;exact q;exfalso;have O:=EQ.1 g.1 Q C;cases U:p.hp Q with
  |none=>rw[U]at O;cases O
  |some b1=>
   rw[U]at O;have:=d.inj k Q v ⟨b1,U,O⟩ (by rw[q,<-d.ad Q C]);rw[this]at M;exact M C
 generalize G:p.im.plus (m k) (.cells F.toArray e (0,0))=J at*;let⟨K,t,z⟩:=Afd (σ:=p) (k:=k) (b:=m k) (J:=J);have hG:=h (m k) B;simp[G]at hG;refine hG ⟨λj u=> ?_,H.2⟩ m a w ?_;show(p.B4 k (m k) J).hp j=nO;have S:p.hp j=nO:=H.1 j u;simp[St.B4];split;rename_i e;rw[Ha e,P]at S;cases S;rw[S];subst G;refine{hp:= ?_,inj:= ?_,kb:= ?_,im:=⟨d.im.1,?_⟩,lm:=d.lm,na:=d.na,fs:=d.fs,GV:= ?_,dj:= ?_,ad:=d.ad,nw:=λj u=>d.nw j (z j u).2,fr:=d.fr,sz:=d.sz,os:=d.os,tape:=d.tape,output:=d.output,size:=d.size,nd:=d.nd,tm:= ?_,kd:= ?_};intro j x o Y X;rcases K j x Y with⟨_,rfl⟩|⟨E,y,Z,rfl⟩;cases X;rw[AK.Tk rfl]at X;exact d.hp j y o Z X;intro i j hi u e;exact d.inj i j (z i hi).2 (z j u).2 e;intro j x j' Y L;rcases K j x Y with⟨_,rfl⟩|⟨E,y,Z,rfl⟩;cases L;exact t j'<|d.kb j y j' Z<|AK.UE y j' L;intro n o r;have r:(p.im.plus (m k)<|.cells F.toArray e (0,0)).Ak n=sM o:=r;by_cases A:n=m k;subst A;rw[Ua]at r;cases r;exact T;rw[NN _ _ A]at r;exact d.im.2 n o r;intro n o r;have r:(p.im.plus (m k)<|.cells F.toArray e (0,0)).Ak n=sM o:=r;by_cases A:n=m k;right;rwa[A];rw[NN _ _ A]at r;exact d.GV n o r;intro j u;let⟨E,W⟩:=z j u;refine⟨(d.dj j W).1,?_⟩;show(p.im.plus (m k)<|.cells F.toArray e (0,0)).Ak (m j)=nO;rw[NN _ _ λA=>E<|d.inj j k W v A];exact(d.dj j W).2;intro s;rw[d.tm s];exact(AX.Tk rfl<|p.tm s).symm;intro s j u;exact t j<|d.kd s j<|AX.UE (p.tm s) j u
def AVX{P L}(X:Ed P L){o y key t b c A x U g cs e need I}(G:o.op=.store t A x)(Y:ev y A=.v (.pointer<|aO b c))(f:(ev y x).cs=sM (cs.map .v))(M:L.get t=sM U)(hn:lN cs=U.n)(hl:c+lN cs<=lN g)
 (W:∀v∈cs,v.oneCell') (k:I.B8 b<|.cells g.toArray e (0,0)):HS P o y key need I (λh=>h= {r:=.v undef,AV:=[],J:=I.plus b<|.cells (BX g c cs).toArray e (0,0)}) nO:=by
 let⟨i,d,z,E,hd,hz,ab,ac,hzero⟩:=Dg<|X.get M;refine⟨?_⟩;intro O a w S hh C Z T aa ae next Q hnext _;have R:=C.2 b _ k.Ak;have D:A∈o.op.operands:=xO
 have N:x∈o.op.operands:=xO
 have l:(AO O<|ev y x).cells=cs.toArray:=by have:=SV.Tf f O;rw[Gw]at this;exact this
 have V:(w.setRow b (g.toArray.toList.take (c+0)++cs++g.toArray.toList.drop (c+0+lN cs)).toArray)=w.setRow b (BX g c cs).toArray:=by rw[IB];rfl
 have H:(storeVar t ⟨b,c,nO⟩<|AO O<|ev y x).run P w=.ok () (w.setRow b (BX g c cs).toArray):=by
  rw[<-V];rw[storeVar];rw[l];have K:(sizeOf t).run P w=.ok i.size w:=by simp[sizeOf,typeInfo,E]
  have n: ¬cs.toArray.size≠i.size:=sO
  simp only[rB,K,aK,n,Hq];exact run_storeCells_at P b c e cs 0 g.toArray w R sO W
 have hex:(execOp a.eval o).run P w=.ok .skip (w.setRow b (BX g c cs).toArray):=by have B:=S A D;rw[Y]at B;simp only[AO]at B;simp[execOp,G,Instr.storeAt,B,S x N,Instr.sureAddr,H]
 rw[Oper.wp];rw[hex,Oper.upon_skip];have n:∀x o,I x=sM o->x≠b:=λx o f e=>by rw[e,k.at_]at f;cases f
 refine hnext rfl _ _ (λ_=>0) rfl ⟨rfl,rfl,rfl,by rw[Bl.setRow];exact Ag _,λb' s _ m=>Ir λe=> ?_,?_,λj b hj=>by simp at hj,λi j E=>by simp at E,⟨λx o f=> ?_,λx o f=> ?_⟩,λb o' s=>.inl s,λx o' f=> ?_⟩;rw[<-e,k.Ak]at m;cases m;intro kb F;cases F;rw[Ir λe=>n x o f e.symm];exact C.1 x o f;by_cases p:x=b;subst p;rw[Ua]at f;cases f;exact Lm R;have f:(I.plus b<|.cells (BX g c cs).toArray e (0,0)).Ak x=sM o:=f;rw[NN _ _ p]at f;rw[Ir λq=>p q.symm];exact C.2 x o f;left;by_cases p:x=b;subst p;rw[k.Ak];rfl;have f:(I.plus b<|.cells (BX g c cs).toArray e (0,0)).Ak x=sM o':=f;rw[NN _ _ p]at f;rw[f];rfl
def AB.never(I:AB)(b:Nat)(o:Obj):AB:=⟨λx=>match bQ x b with|true=>sM o|false=>I x,λx=>match bQ x b with|true=>nO|false=>I.Ak x⟩
theorem Nw(I:AB)(b o):(I.never b o) b=sM o:=by show(match bQ b b with|true=>sM o|false=>I b)=sM o;simp
def US(I:AB){b x}(o)(h:x≠b):(I.never b o) x=I x:=by show(match bQ x b with|true=>sM o|false=>I x)=I x;simp[OH h]
def ALY(I:AB)(b o):(I.never b o).Ak b=nO:=by simp[AB.never]
def AAB(I:AB){b x}(o)(h:x≠b):(I.never b o).Ak x=I.Ak x:=by simp[AB.never,OH h]
def Bv.ANR(f:Bv)(J:AB):Bv:=⟨{f.σ with im:=J},f.todo,f.rg,f.Bq⟩
def AYh{c R f}(b o)(r:f.rg.isNone)(m:f.σ.im.B8 b o)(v:c.I0.Ak b=nO)(h:GG c R<|f.ANR<|f.σ.im.never b o):GG c R f:=by
 let⟨i,t,B,u⟩:=f;cases B with
 |some _=>cases r
 |none=>
  intro p n a w g;have l:∀j,HJ i.hp j->n j≠b:=λj k e=>by have:=(g.dj j k).2;rw[e]at this;have z:i.im.Ak b=sM o:=m.Ak;rw[z]at this;cases this
  refine h p n a w {hp:=g.hp,inj:=g.inj,kb:=g.kb,im:=⟨λx y d=> ?_,λx y d=> ?_⟩,lm:=λx y d=> ?_,na:=g.na,fs:=λx y d=> ?_,GV:=λx y d=> ?_,dj:=λj k=>⟨?_,?_⟩,ad:=g.ad,nw:=g.nw,fr:=g.fr,sz:=g.sz,os:=g.os,tape:=g.tape,output:=g.output,size:=g.size,nd:=g.nd,tm:=g.tm,kd:=g.kd};have d:(i.im.never b o) x=sM y:=d;by_cases e:x=b;subst e;rw[Nw]at d;cases d;exact g.im.2 x o m.Ak;rw[US _ _ e]at d;exact g.im.1 x y d;have d:(i.im.never b o).Ak x=sM y:=d;by_cases e:x=b;subst e;rw[ALY]at d;cases d;rw[AAB _ _ e]at d;exact g.im.2 x y d;show(i.im.never b o) x=sM y;by_cases e:x=b;subst e;have s:=g.lm x y d;rw[show i.im x=nO from m.at_]at s;cases s;rw[US _ _ e];exact g.lm x y d;have d:(i.im.never b o) x=sM y:=d;by_cases e:x=b;subst e;right;rcases g.GV x o m.Ak with q|q;rw[v]at q;cases q;exact q;rw[US _ _ e]at d;exact g.fs x y d;have d:(i.im.never b o).Ak x=sM y:=d;by_cases e:x=b;subst e;rw[ALY]at d;cases d;rw[AAB _ _ e]at d;exact g.GV x y d;show(i.im.never b o) (n j)=nO;rw[US _ _<|l j k];exact(g.dj j k).1;show(i.im.never b o).Ak (n j)=nO;rw[AAB _ _<|l j k];exact(g.dj j k).2
variable{P:Program}{l n:Nat}{Q:Exit->Act->World->Prop}{Aj:Array Oper}
theorem Ag4{o:Bw}{a:Act}{w:AN}{K:Act->AN->Prop}(g:∀c,o.op≠.defer c)(h:o.wp P a w K Q):o.wpIn (Fence.wide.inRound l) n P a w K Q:=by
 refine⟨λ_ _=>trivial,?_⟩;rw[show(Fence.wide.inRound l).round=sM l from rfl,Oper.semAt_some l _ _ g];rw[Oper.wp]at h;generalize(execOp a.eval o).run P w=r at h⊢;cases r with
 |ok x b=>
  cases x
  case enter f args=>exact⟨λh=>(by cases h),((show CallsIn (Fence.wide.inRound l) _ P f args _ _ from callsIn_wide.2 h)).mono λe j i=>by cases e<;>exact i⟩
  case row r args=>exact⟨λh=>(by cases h),λc d _=>let⟨v,b,r,s⟩:=h c d;⟨v,b,r,stepsIn_wide.2 s⟩⟩
  all_goals first|exact h|exact h.elim
 |halt x b=>cases x<;>exact h
theorem AfD(f:∀(i:Nat)(o:Bw),Aj[i]? =sM o->∀c,o.op≠.defer c)(d: ¬LetsOut Q):∀(fuel:Nat)(listed:Ae Bool)(a:Act)(w:AN),wpAny P .any Aj Q fuel listed a w->wpAnyIn (Fence.wide.inRound l) n P .any Aj Q fuel listed a w
 |0,_,_,_,h=>h
 |fuel+1,listed,a,w,h=>⟨h.1,λi j=>by have b:=h.2 i j;rw[wpOp]at b;rw[wpOpIn];split;rename_i e;rw[e]at b;exact AfD f d fuel _ _ _ b;rename_i o e;rw[e]at b;dsimp only at b;split at b;rename_i g;rw[Ac g];rcases b with b|b;exact Oper.wpIn_mono (λa w q=>AfD f d fuel _ a w q)<|Ag4 (f i o e) b;exact(d b.2).elim;rename_i g;rw[AY g];exact⟨λ_ _=>trivial,AfD f d fuel _ _ _ b⟩⟩
theorem AgI{c}(s:c.P.funcs[c.f]? =sM c.fn)(t:c.P.inits.idxOf? c.f=nO){R}(A:(∀g w,¬R (.panicked g) w)/\∀w,¬R .outgrown w){a w}(r:a.defers=[])(d:∃v,(results c.fn a.tmps).run c.P w=.ok v w)(h:M0 c R [] a w):∃v,R (.returned v) w:=by
 let⟨e,y,k,B,p,z,o⟩:=h [];cases e with
 |panicked g=>grind
 |outgrown=>grind
 |returned v=>
  let⟨m,b⟩:=p;let⟨j,f⟩:=d;cases m with
  |zero=>
   have i:k=(M5 c).at a []:=by simp[runN,lone]at b;exact b.2.symm
   exact absurd o.1 (by rw[i];exact λq=>by cases q)
  |succ m=>
   have x:runN c.P (m+1) (lone ((M5 c).at a []) [] w)=runN c.P m (lone {(M5 c).at a []with mode:=.returning} [] w):=by simp[runN,step_end]
   rw[x]at b;cases m with
   |zero=>
    have i:w=y:=by simp[runN,lone]at b;exact b.1
    grind
   |succ m=>
    have u:({(M5 c).at a []with mode:=.returning}:Frame).leaving c.P w (.returned j):=⟨rfl,r,rfl,c.fn,s,f⟩;have:=step_leave_done u t;have C:runN c.P (m+1) (lone {(M5 c).at a []with mode:=.returning} [] w)=.ended (.done j) w:=by simp[runN,this]
    grind
theorem Agb{c}(H:c.P.funcs[c.f]? =sM c.fn)(x:c.P.inits.idxOf? c.f=nO)(g:c.P.follows .mixedOrders){R}(C:(∀B w,¬R (.panicked B) w)/\∀w,¬R .outgrown w)(u:c.Rx=[])
 (p:∀(a:Act)(w:AN),a.tmps.size=c.n->∃v,(results c.fn a.tmps).run c.P w=.ok v w) {Aj} (m:AE2 Aj<|eager Aj (Aj.size+1)<|lR Aj.size) (E:∀(i:Nat)(o:Bw),Aj[i]? =sM o->∀c,o.op≠.defer c)
 {d} {s} {a} {w} {b f} (D:Bd c b d) (r:Rel c d s a w) (I:GG c R ⟨d,[],sM ⟨⟨Aj,b,tT⟩,eager Aj (Aj.size+1)<|lR Aj.size,[]⟩,f⟩) (K l n):
 (Code.region K Aj tT).wpIn (Fence.wide.inRound l) n c.P (λe _ q=>e=.normal/\∃v,R (.returned v) q) a w:=by
 let⟨L,o1,o2,M⟩:=AZS m;have t:∀k,b<=k->d.hp k=nO:=D.1;have N:Rel c d s a {w with drawn:=w.drawn+1}:=r.grow<|Bl.drew w;have z:(eager Aj (Aj.size+1)<|lR Aj.size).Nodup:=o1.imp λh=>h.2;refine wpIn_region_any g (AfD (Q:=λe _ q=>e=.normal/\∃v,R (.returned v) q) E (by rintro⟨_,_,h,_⟩;cases h) _ _ _ _ ?_);refine AQK (c:=c) (g:=⟨Aj,b,tT⟩) (KP:=M1 c R) (K:=G c R []) M1.congr rfl (λd s a w F r=>⟨rfl,AgI H x C (r.nd.trans u) (p a w r.size)<|F s a w r⟩) (λB O A a q J W E=>(C.1 _ _<|J.2 A q W.toA).elim) Aj.size (Array.replicate Aj.size fF) _ [] d s a _ sP ?_ ?_ o1 M ?_ N<|I ?_ r.wf;exact L;simp_all;intro j o T y;exfalso;rw[VD]at y
 grind
 exact⟨(by grind[E8,ES.key]),λn S=>t n gR,z,λi x=>(o2 i).1 x,D.2⟩
def Aes(i:Nat):Code->AU (Ae Bw)
 | .region j Aj _=>match bQ i j with|true=>sM Aj|false=>nO
 | .seq a b=>match Aes i a with|some x=>sM x|none=>Aes i b
 | .cond _ a b=>match Aes i a with|some x=>sM x|none=>Aes i b
 | .block _ a=>Aes i a
 | .loop a=>Aes i a
 | .rangeFunc _ _ a b=>match Aes i a with|some x=>sM x|none=>Aes i b
 |_=>nO
theorem Af4{P:B7}{F:Ba}{fn:Func}{n:Nat}(S:P.funcs[F]? =sM fn)(V:P.inits.idxOf? F=nO)(t:P.follows .mixedOrders)(A:∀(a:Act)(w:AN),a.tmps.size=n->∃v,(results fn a.tmps).run P w=.ok v w)
 {Aj:Ae Bw} (z:AE2 Aj<|eager Aj (Aj.size+1)<|List.range Aj.size) (O:∀(i:Nat)(o:Bw),Aj[i]? =sM o->∀c,o.op≠.defer c) {s:Hd} {Φ:Nat->Ab->Prop} (u:Qx (s.Cc.map (·.1)) [] s.Cd s.Cc 100)
 {f:Nat->Nat} {W:AN} {a:Act} (hN:Has W f s.Cc) (M:Holds W s.J) (C:∀kb∈s.Cc,s.J.free<|f kb.1) (r:∀x∈s.Cc,∀y∈s.Cc,f x.1=f y.1->x.1=y.1) (E:a.tmps.size=n) (B:a.defers=[]) (Z:∀p∈s.Cd,a.tmps.getD p.1 undef=AO f p.2)
 (U:∀T,GG (Kn P F fn n s.J W f (s.Cc.map (·.1)) []) (Rf P s.J f 100 W (s.Cc.map (·.1)) Φ nO) ⟨⟨Pr s.Cd T,JP s.Cc,s.J⟩,[],sM ⟨⟨Aj,100,tT⟩,eager Aj (Aj.size+1)<|List.range Aj.size,[]⟩,100+8*Aj.size⟩) (J l m:Nat):
 (Code.region J Aj tT).wpIn (Fence.wide.inRound l) m P (λe _ G=>e=.normal/\∃h q,(Φ 100 h/\h.LD 100 (s.Cc.map (·.1))/\s.J.Da h.J)/\After s.J f W G 100 q h) a W:=by
 simp only[Qx,CJ]at u;let⟨⟨⟨⟨⟨⟨o1,o2⟩,o3⟩,o4⟩,o5⟩,o6⟩,_⟩:=u;have g:∀ {K:AA Nat},GM K (s.Cc.map (·.1))->∀k∈K,(JP s.Cc k).isSome:=λY k d=>ADs<|UQ<|EQ.1 Y k d;have R:Rel (Kn P F fn n s.J W f (s.Cc.map (·.1)) []) ⟨Pr s.Cd λi=>a.tmps.getD i undef,JP s.Cc,s.J⟩ f a W:=by
  refine{hp:=λk b o d X=>hN (k,b) (Qh d) o X,inj:= ?_,kb:=λk b k' d D=>g o2 k'<|SN (Qh d) D,im:=M,lm:=AB.Hj _,na:=UT o5,fs:=λb o h=>.inl h,GV:=λb o h=>IM h,dj:= ?_,ad:=λk _=>rfl,nw:= ?_,fr:=λ_ _ _ _=>rfl,sz:=Ag _,os:=rfl,tape:=rfl,output:=rfl,size:=E,nd:=B,tm:= ?_,kd:= ?_};rintro j k ⟨b1,H,_⟩ ⟨b2,I,_⟩ e;exact r _ (Qh H) _ (Qh I) e;rintro k ⟨b,h,_⟩;exact C _<|Qh h;rintro k ⟨b,h,_⟩;exact .inr ⟨k,BI.2 ⟨_,Qh h,rfl⟩,rfl⟩
  grind[AO,Pr,AFT]
  intro i k d;have d:k∈(Pr s.Cd (λi=>a.tmps.getD i undef) i).A3:=d;rcases AFT s.Cd (λi=>a.tmps.getD i undef) i with e|⟨p,hp,e1,L⟩;rw[e]at d;cases d;rw[L]at d;exact g o1 k<|AKJ hp d
 have N:Bd (Kn P F fn n s.J W f (s.Cc.map (·.1)) []) 100 ⟨Pr s.Cd λi=>a.tmps.getD i undef,JP s.Cc,s.J⟩:=⟨λk d=>by
  show JP s.Cc k=nO;cases e:JP s.Cc k with
  |none=>rfl
  |some b=>have:=UF o3 k<|BI.2 ⟨_,Qh e,rfl⟩;omega,λk d=>UF o4 k d⟩
 refine wpIn_mono (Agb (c:=Kn P F fn n s.J W f (s.Cc.map (·.1)) []) S V t ⟨λch w=> ?_,λw=> ?_⟩ rfl A z O N R (U _) J l m) ?_;rintro⟨h,q,_,_,e⟩;cases e;rintro⟨h,q,_,_,e⟩;cases e;rintro e a' G ⟨rfl,v,h,q,H,I,_⟩
 grind
end Go.AX
namespace Lz
abbrev Nm:=AA Nat
structure AW where
 kind:Nat
 n:Int
 name:Nm
 l:AT
deriving DecidableEq,Inhabited,Repr
def FW:AT:=([],[])
def AZ:AW:=⟨0,0,[],FW⟩
def BH(n:Int):AW:=⟨1,n,[],FW⟩
def D1(l:AT):AW:=⟨2,0,[],l⟩
def BZ(kind:Nat)(name:Nm)(l:AT):AW:=⟨kind,0,name,l⟩
def NV(b:Bool):AW:=if b then BH 1 else BH 0
structure Op where
 code:Nat
 a:Nat
deriving DecidableEq,Inhabited,Repr
structure Ev where
 args:Nat
 Ai:Nat
 code:AA Op
deriving DecidableEq,Inhabited,Repr
structure A6 where
 DN:AA AW
 Ax:AA Ev
deriving DecidableEq,Inhabited,Repr
structure Cw where
 fn:Nat
 pc:Nat
 Cp:Nat
 AR:AH
 Ai:AA AW
deriving DecidableEq,Inhabited,Repr
structure Fj where
 AG:Nat
 Cg:Nat
 at_:Nat
deriving DecidableEq,Inhabited,Repr
structure Ay where
 AG:AA Cw
 stack:AA AW
 AP:AA Fj
deriving DecidableEq,Inhabited,Repr
deriving instance DecidableEq,Inhabited,Repr for St
structure Dc where
 name:Nm
 l:AT
 RE:Nat
 AG:Nat
 Cg:Nat
 AP:Nat
 g:St
 Bg:Nm
 A7:Nat
 Ao:Nat
deriving DecidableEq,Inhabited,Repr
structure AL where
 id:Nm
 Bg:Nm
 g:St
 c:Ay
 AI:AA Dc
 A7:Nat
 Ao:Nat
 Aw:Nat
 on:Nm
 v:AW
 ex:Bool
deriving DecidableEq,Inhabited,Repr
structure Wt where
 id:Nm
 put:Bool
 v:AW
deriving DecidableEq,Inhabited,Repr
structure Vr where
 full:Bool
 v:AW
 q:AA Wt
deriving DecidableEq,Inhabited,Repr
structure Ob where
 kind:Nat
 l:AT
 v:AW
 ex:Bool
 done:Bool
 var:Vr
 fn:Nat
 AR:AH
deriving DecidableEq,Inhabited,Repr
def Aea:Vr:=⟨fF,AZ,[]⟩
def Db:Ob:=⟨0,FW,AZ,fF,fF,Aea,0,0⟩
structure FU where
 AD:Nat
 id:Nm
 l:AT
 v:AW
deriving DecidableEq,Inhabited,Repr
structure Gr where
 op:Nat
 Qa:AT
 to:AT
 AR:AH
deriving DecidableEq,Inhabited,Repr
structure Lk where
 AD:Nat
 id:Nm
 e:Gr
deriving DecidableEq,Inhabited,Repr
structure Ap where
 im:A6
 AD:Nat
 AC:AA AL
 Ah:AA (Nm×Ob)
 Bj:AA FU
 B5:AA Lk
deriving DecidableEq,Inhabited,Repr
def CB(n:Nm):Bool:=decide (0<lN n)&&decide (lN n<=24)&&n.all (λx=>decide<|x<=999)
def child(p:Nm)(n:Nat):AU Nm:=if CB p&&decide (lN p<24)&&decide (n<=999)then sM (p++[n])else nO
def Dz:Nm->Nm->Bool
 |[],[]=>fF
 |[],_::_=>tT
 |_::_,[]=>fF
 |x::a,y::b=>if x<y then tT else if x=y then Dz a b else fF
def Cf(c:Nat):Nat:=if c=1 then 1 else if c=2\/c=3 then 2 else if c=15\/c=16\/c=20 then 3 else if c=17\/c=38\/c=40\/c=45 then 4 else if c=44 then 5 else 0
def BP(c:Nat):Nat:=[0,0,0,1,1,1,2,2,2,2,2,2,2,2,1,0,1,0,1,1,0,0,2,2,2,0,0,1,1,2,1,1,2,1,2,1,1,2,3,1,4,2,1,1,0,1,2,0].getD c 0
def D5(c:Nat):Nat:=[0,1,1,0,0,2,2,1,1,1,1,1,1,1,1,0,0,1,0,0,0,0,1,1,1,1,1,0,0,1,1,1,1,1,0,1,1,0,1,1,1,0,0,0,0,1,1,1].getD c 0
def Lf(c:Nat):Bool:=c==15||c==18||c==19
def UX(c:Nat):Bool:=decide (1<=c)&&decide (c<=47)
def IY(o:Op):Bool:=UX o.code&&(if Cf o.code=0 then o.a==0 else decide<|o.a<=65535)
def asks(c:Nat):Bool:=[25,26,27,28,29,30,32,33,34,35,36,37,38,39,40,41,42,43,45,46].contains c
def Ay.top(c:Ay):AU Cw:=c.AG.getLast?
def Gc(c:Ay)(e d:Nat)(a:AA AW)(b:AH):AU Ay:=
 if 16<=lN c.AG then nO
 else sM {c with AG:=c.AG++[⟨e,0,lN c.stack,b,a++lP (min d 16) (BH 0)⟩]}
def Df(c:Ay)(v:AW):Ay:={c with stack:=c.stack++[v]}
def MN(c:Ay):Nat:=match c.top with|some f=>f.Cp|none=>0
def HQ(c:Ay)(n:Nat):Bool:=decide (MN c<=lN c.stack)&&decide (n<=lN c.stack-MN c)
def FR(c:Ay)(n:Nat):Ay:={c with stack:=c.stack.take<|lN c.stack-n}
def Ct(c:Ay)(n:Nat):AA AW:=c.stack.drop<|lN c.stack-n
def Ei(c:Ay):Ay:=
 let left:=lN c.AG-1
 {AG:=c.AG.take left,stack:=c.stack.take<|MN c,AP:=c.AP.filter λt=>decide<|t.AG<=left}
def KC(l:AA Cw)(k pc:Nat):AA Cw:=l.modify k λf=>{f with pc:=pc}
def NU(c:Ay)(a:Int)(b:Nat):AU Ay:=
 match c.AP.getLast? with
 |none=>nO
 |some t=>if lN c.AP-1<b then nO
  else if t.AG<1\/lN c.AG<t.AG\/lN c.stack<t.Cg then nO
  else sM {AG:=KC (c.AG.take t.AG) (t.AG-1) t.at_,stack:=c.stack.take t.Cg++[BH a],AP:=c.AP.take<|lN c.AP-1}
def Ee(c:Ay)(a b d:Nat):Ay:=⟨c.AG.take a,c.stack.take b,c.AP.take d⟩
inductive Out where
 |Iu
 |ended (v:AW)
 |failed (v:AW)
 |asked (o:Op)
deriving DecidableEq,Inhabited,Repr
def Iq(a:A6)(f:Cw)(o:Op):Bool:=
 match Cf o.code with
 |1=>decide<|o.a<lN a.DN
 |2=>decide<|o.a<lN f.Ai
 |3=>decide<|o.a<lN (a.Ax.getD f.fn Al).code
 |4=>decide<|o.a<lN a.Ax
 |_=>tT
def CU(a:A6)(o:Op):Nat:=if o.code=17 then BP o.code+(a.Ax.getD o.a Al).args else BP o.code
def JM(a:A6)(c:Ay):AU Op:=
 match c.top with
 |none=>nO
 |some f=>match a.Ax[f.fn]? with
  |none=>nO
  |some b=>match b.code[f.pc]? with
   |none=>nO
   |some o=>if IY o&&Iq a f o&&HQ c (CU a o)then sM o else nO
def FF(c:Ay)(a:Int)(b:Nat):Ay×Out:=
 match NU c a b with
 |some u=>(u,.Iu)
 |none=>(c,.failed<|BH a)
def wrap64(n:Int):Int:=(n+9223372036854775808)%18446744073709551616-9223372036854775808
def HN(c:Nat)(a b:Int):AU Int:=
 if c=7 then sM<|wrap64<|a+b
 else if c=8 then sM<|wrap64<|a-b
 else if c=9 then sM<|wrap64<|a*b
 else if c=10 then(if b=0 then nO else sM<|wrap64<|a.tdiv b)
 else if c=11 then(if b=0 then nO else sM<|a.tmod b)
 else if c=12 then sM<|if a=b then 1 else 0
 else if c=13 then sM<|if a<b then 1 else 0
 else nO
def AW.right(v:AW):Bool:=
 if v.kind=1 then v==BH v.n
 else if v.kind=2 then v==D1 v.l&&decide (A4 v.l=v.l)
 else if 3<=v.kind/\v.kind<=7 then v.n==0&&CB v.name&&decide (A4 v.l=v.l)
 else fF
def Qf(v:AW):Bool:=decide (3<=v.kind)&&v.right
def D4(c:Ay)(f:Cw->Cw):Ay:={c with AG:=c.AG.modify (lN c.AG-1) f}
def HU(a:A6)(c:Ay)(o:Op)(l:AA AW)(AP:Nat):Ay ⊕ Int:=
 let x:=l.getD 0 AZ;let y:=l.getD 1 AZ
 match o.code with
 |1=>.inl<|Df c<|a.DN.getD o.a AZ
 |2=>.inl<|Df c<|(c.top.getD Al).Ai.getD o.a AZ
 |3=>.inl<|D4 c λf=>{f with Ai:=f.Ai.set o.a x}
 |4=>.inl c
 |5=>.inl<|Df (Df c x) x
 |6=>.inl<|Df (Df c y) x
 |12=>.inl<|Df c<|NV<|x==y
 |7|8|9|10|11|13=>
  if x.kind=1/\y.kind=1 then match HN o.code x.n y.n with
   |some n=>.inl<|Df c<|BH n
   |none=>.inr (-2)
  else .inr (-1)
 |14=>if x.kind=1 then .inl (Df c<|NV<|x.n==0)else .inr (-1)
 |15=>.inl<|D4 c λf=>{f with pc:=o.a}
 |16=>if x.kind=1 then(if x.n≠0 then .inl (D4 c λf=>{f with pc:=o.a})else .inl c)else .inr (-1)
 |17=>match Gc c o.a (a.Ax.getD o.a Al).Ai l (c.top.getD Al).AR with
  |some u=>.inl u
  |none=>.inr (-6)
 |19=>if x.kind=1 then .inr x.n else .inr (-1)
 |20=>.inl {c with AP:=c.AP++[⟨lN c.AG,lN c.stack,o.a⟩]}
 |21=>.inl<|if AP<lN c.AP then{c with AP:=c.AP.take<|lN c.AP-1}else c
 |22=>if x.kind=2/\y.kind=2 then .inl (Df c<|D1<|jn x.l y.l)else .inr (-1)
 |23=>if x.kind=2/\y.kind=2 then .inl (Df c<|D1<|mt x.l y.l)else .inr (-1)
 |24=>if x.kind=2/\y.kind=2 then .inl (Df c<|NV<|fl x.l y.l)else .inr (-1)
 |31=>if Qf x then .inl (Df c<|D1 x.l)else .inr (-1)
 |44=>.inl<|D4 c λf=>{f with AR:=f.AR&&&uN (o.a%256)}
 |47=>.inl<|Df c<|BH (c.top.getD Al).AR.toNat
 |_=>.inl c
def Fl(a:A6)(c:Ay)(o:Op):Ay:=D4 (FR c<|CU a o) λf=>{f with pc:=f.pc+1}
def Es(e:A6)(c:Ay)(b a:Nat):Ay×Out:=
 match JM e c with
 |none=>(c,.failed<|BH (-6))
 |some o=>
  if asks o.code then(c,.asked o)
  else if o.code=18 then
   let u:=Ei c;let v:=(Ct c 1).getD 0 AZ
   if lN u.AG<=b then(u,.ended v)else(Df u v,.Iu)
  else match HU e (Fl e c o) o (Ct c<|CU e o) a with
   | .inl u=>(u,.Iu)
   | .inr d=>FF c d a
def Jw(b:Nm)(g:St)(c:Ay)(a:Nat):AL:=⟨b,b,g,c,[],0,a,0,[],AZ,fF⟩
def GI(t:AL):AU (AL×Nm):=
 if t.Ao<1 then nO else match child t.Bg t.A7 with
 |some n=>sM ({t with A7:=t.A7+1,Ao:=t.Ao-1},n)
 |none=>nO
def CV(t:AL):Nat×Nat:=match t.AI.getLast? with|some s=>(s.AG,s.AP)|none=>(0,0)
def Fq(t:AL)(v:AW)(ex:Bool):AL:=
 {t with Aw:=if 0<lN t.AI then 2 else if ex then 4 else 3,v:=v,ex:=ex,on:=[]}
def DX(t:AL)(l:AA AW):AL:={t with Aw:=0,on:=[],c:={t.c with stack:=t.c.stack++l}}
def IU(t:AL)(a:Nat):AU Nat:=t.AI.findIdx? λs=>decide<|s.RE<=a
def IF(t:AL)(k:Nat):AW×Bool:=
 if t.Aw≠2\/k+1≠lN t.AI then(BH (-7),tT)
 else if !fl t.g.Ad (t.AI.getD k Al).l then(BH (-3),tT)
 else(t.v,t.ex)
def GH(t:AL)(k:Nat):AL:=
 let s:=t.AI.getD k Al
 {
  t with
  AI:=t.AI.take k,g:=s.g,Bg:=s.Bg,A7:=s.A7,Ao:=s.Ao,
  c:=Df (Ee t.c s.AG s.Cg s.AP)<|BZ 3 s.name s.l,Aw:=0,on:=[],v:=AZ,ex:=fF}
def GF(t:AL)(k:Nat):Ob:={Db with kind:=3,l:=(t.AI.getD k Al).l,v:=(IF t k).1,ex:=(IF t k).2}
def EF(t:AL)(i:Nat):AT:=match t.AI[i]? with|some s=>s.g.Ad|none=>t.g.Ad
def LZ(t:AL)(m:AT):Nat->Nat->Nat
 |0,i=>i
 |n+1,i=>if fl (EF t i) m then LZ t m n (i+1)else i
def CF(t:AL)(m:AT):Nat:=LZ t m (lN t.AI+1) 0
def C4(t:AL)(m:AT):AU AL:=
 let k:=CF t m
 if k=lN t.AI+1 then sM t
 else if k=0 then nO
 else
  let s:=t.AI.getD (k-1) Al
  sM {t with AI:=t.AI.take k,c:=Ee t.c s.AG s.Cg s.AP,g:=⟨s.l,s.l⟩,Bg:=s.name,A7:=0,Ao:=0,Aw:=2,on:=[],v:=BH 0,ex:=fF}
def Js(t:AL)(f d:Nat)(arg:AW)(b:AH)(l:AT)(a Ao:Int)(e:Nat):AL ⊕ Int:=
 if a<1\/1000<a then .inr (-7)
 else if Ao<0\/999<Ao then .inr (-5)
 else if Dh t.g l≠0 then .inr<|Dh t.g l
 else match GI t with
  |none=>.inr (-5)
  |some (u,A7)=>
   if(t.Ao:Int)<=Ao then .inr (-5)
   else match Gc t.c f d [arg] b with
    |none=>.inr (-6)
    |some c=>
     let s:Dc:=⟨A7,A4 l,e+a.toNat,lN t.c.AG,lN t.c.stack,lN t.c.AP,t.g,t.Bg,u.A7,u.Ao-Ao.toNat⟩
     .inl {u with AI:=t.AI++[s],c:=c,g:=⟨u.g.Ad,s.l⟩,Bg:=A7,A7:=0,Ao:=Ao.toNat}
def GN(x:Vr)(a:Nm):Vr×AU AW×Nm:=
 if !x.full then(⟨x.full,x.v,x.q++[⟨a,fF,AZ⟩]⟩,nO,[])
 else match x.q.findIdx? (·.put)with
  |none=>(⟨fF,AZ,x.q⟩,sM x.v,[])
  |some i=>(⟨tT,(x.q.getD i Al).v,x.q.eraseIdx i⟩,sM x.v,(x.q.getD i Al).id)
def Gg(x:Vr)(a:Nm)(v:AW):Vr×Bool×Nm:=
 if x.full then(⟨x.full,x.v,x.q++[⟨a,tT,v⟩]⟩,fF,[])
 else match x.q.findIdx? (λw=> !w.put)with
  |none=>(⟨tT,v,x.q⟩,tT,[])
  |some i=>(⟨x.full,x.v,x.q.eraseIdx i⟩,tT,(x.q.getD i Al).id)
def KV(x:Vr)(a:Nm):AU Vr:=
 match x.q.findIdx? (λw=>w.id==a)with
 |none=>nO
 |some i=>sM ⟨x.full,x.v,x.q.eraseIdx i⟩
abbrev Az:=AA<|Nm×Ob
def Am(s:Az)(n:Nm):AU Ob:=(s.find? (·.1==n)).map (·.2)
def Ew(s:Az)(n:Nm)(o:Ob):Bool:=CB n&&decide (3<=o.kind/\o.kind<=7)&&decide (A4 o.l=o.l)&&(Am s n).isNone
def Cy(s:Az)(n:Nm)(o:Ob):Az:=if Ew s n o then s++[(n,o)]else s
def Cn(s:Az)(n:Nm)(o:Ob):Az:=
 match Am s n with
 |none=>s
 |some w=>if w.kind≠o.kind\/w.l≠o.l then s else s.map λx=>if x.1==n then(n,o)else x
def GU(s:Az)(m:AT):Az:=s.filter λx=>fl x.2.l m
structure Eff where
 BU:AA AL
 out:AA (AT×AW)
 Bo:AA Gr
 BY:AA (Nm×AA AW)
 done:Bool
deriving DecidableEq,Inhabited,Repr
def A8:Eff:=⟨[],[],[],[],fF⟩
structure Call where
 s:Az
 t:AL
 e:Eff
deriving DecidableEq,Inhabited,Repr
def Call.push(k:Call)(v:AW):Call:={k with t:={k.t with c:=Df k.t.c v}}
def Call.Bp(k:Call)(g:St):Call:={k with t:={k.t with g:=g}}
abbrev CR:=Call×AU Int
def G1(k:Call)(l:AT)(f:Call->CR):CR:=if(Et k.t.g l).2≠0 then(k,sM (Et k.t.g l).2)else f<|k.Bp (Et k.t.g l).1
def Ga(k:Call)(l:AT)(f:Call->CR):CR:=if Dh k.t.g l≠0 then(k,sM<|Dh k.t.g l)else f<|k.Bp ⟨A4 l,k.t.g.A5⟩
def OE(k:Call)(n:Nm)(o:Ob):Call:=Call.push {k with s:=Cy k.s n o}<|BZ o.kind n o.l
def Fv(k:Call)(o:Ob):CR:=
 if Dh k.t.g o.l≠0 then(k,sM<|Dh k.t.g o.l)
 else match GI k.t with
  |none=>(k,sM (-5))
  |some (t,n)=>(OE {k with t:=t} n o,nO)
def EY(k:Call)(h:AW):AU Ob:=
 match Am k.s h.name with
 |some o=>if o.kind=h.kind/\o.l=h.l then sM o else nO
 |none=>nO
def Ff(k:Call)(h:AW)(f:Call->Ob->CR):CR:=
 G1 k h.l λk=>match EY k h with
  |none=>(k.push<|BH 0,nO)
  |some o=>f k o
def Ej(k:Call)(o:Ob):CR:=if o.ex then(k,sM o.v.n)else(k.push o.v,nO)
def FG(k:Call)(on:Nm):Call:={k with t:={k.t with Aw:=1,on:=on}}
def EO(k:Call)(a:Nm)(l:AA AW):Call:=if a=[]then k else{k with e:={k.e with BY:=k.e.BY++[(a,l)]}}
def varsOf(b:A6)(a:Nat):Nat:=match b.Ax[a]? with|some f=>f.Ai|none=>0
def CO(b:A6)(d:Nat)(o:Op)(AR:AH)(l:AA AW)(k:Call):CR:=
 let x:=l.getD 0 AZ;let y:=l.getD 1 AZ;let z:=l.getD 2 AZ
 match o.code with
 |25=>(k.push<|D1 k.t.g.Ad,nO)
 |26=>(k.push<|D1 k.t.g.A5,nO)
 |27=>if x.kind≠2 then(k,sM (-1))else G1 k x.l λk=>(k,nO)
 |28=>if x.kind≠2 then(k,sM (-1))else
  if(KW k.t.g x.l).2≠0 then(k,sM (KW k.t.g x.l).2)else(k.Bp (KW k.t.g x.l).1,nO)
 |29=>if y.kind≠2 then(k,sM (-1))else Fv k {Db with kind:=3,l:=y.l,v:=x}
 |30=>if x.kind≠3 then(k,sM (-1))else Ff k x Ej
 |32=>if y.kind≠2 then(k,sM (-1))else Fv k {Db with kind:=4,l:=y.l,v:=x}
 |33=>if x.kind≠4 then(k,sM (-1))else Ff k x λk o=>(k.push o.v,nO)
 |34=>if x.kind≠4 then(k,sM (-1))else
  if Dh k.t.g x.l≠0 then(k,sM<|Dh k.t.g x.l)else
  match EY k x with
  |some a=>({k with s:=Cn k.s x.name {a with v:=y}},nO)
  |none=>(k,nO)
 |35=>if x.kind≠2 then(k,sM (-1))else Fv k {Db with kind:=5,l:=x.l}
 |36=>if x.kind≠5 then(k,sM (-1))else Ga k x.l λk=>match EY k x with
  |none=>(FG k x.name,nO)
  |some a=>
   let r:=GN a.var k.t.id;let k:={k with s:=Cn k.s x.name {a with var:=r.1}}
   match r.2.1 with
   |none=>(FG k x.name,nO)
   |some v=>(EO (k.push v) r.2.2 [],nO)
 |37=>if x.kind≠5 then(k,sM (-1))else Ga k x.l λk=>match EY k x with
  |none=>(FG k x.name,nO)
  |some a=>
   let r:=Gg a.var k.t.id y;let k:={k with s:=Cn k.s x.name {a with var:=r.1}}
   if !r.2.1 then(FG k x.name,nO)else(EO k r.2.2 [y],nO)
 |38=>if y.kind≠1\/z.kind≠2 then(k,sM (-1))else
  if Dh k.t.g z.l≠0 then(k,sM<|Dh k.t.g z.l)else
  if y.n<0\/999<y.n\/(k.t.Ao:Int)<=y.n then(k,sM (-5))else
  match GI k.t with
  |none=>(k,sM (-5))
  |some (t,A7)=>
   let c:=(Gc ⟨[],[],[]⟩ o.a (varsOf b o.a) [x] AR).getD ⟨[],[],[]⟩;let u:=Jw A7 ⟨t.g.Ad,A4 z.l⟩ c y.n.toNat
   (OE {k with t:={t with Ao:=t.Ao-y.n.toNat},e:={k.e with BU:=k.e.BU++[u]}} A7 {Db with kind:=6,l:=z.l},nO)
 |39=>if x.kind≠6 then(k,sM (-1))else Ff k x λk a=>if a.done then Ej k a else(FG k x.name,nO)
 |40=>if y.kind≠1\/z.kind≠1\/(l.getD 3 AZ).kind≠2 then(k,sM (-1))else
  match Js k.t o.a (varsOf b o.a) x AR (l.getD 3 AZ).l z.n y.n d with
  | .inl t=>({k with t:=t},nO)
  | .inr f=>(k,sM f)
 |41=>if y.kind≠2 then(k,sM (-1))else
  if Dh k.t.g y.l≠0 then(k,sM<|Dh k.t.g y.l)else({k with e:={k.e with out:=k.e.out++[(y.l,x)]}},nO)
 |42=>if x.kind≠2 then(k,sM (-1))else
  let r:=Ih k.t.g x.l AR
  if r.2.1≠0 then(k,sM r.2.1)else
  ({k.Bp r.1 with e:=if r.2.2 then{k.e with Bo:=k.e.Bo++[⟨42,k.t.g.Ad,x.l,AR⟩]}else k.e},nO)
 |43=>if x.kind≠2 then(k,sM (-1))else
  let r:=Il k.t.g x.l AR
  if r.2.1≠0 then(k,sM r.2.1)else
  ({k.Bp r.1 with e:=if r.2.2 then{k.e with Bo:=k.e.Bo++[⟨43,k.t.g.A5,x.l,AR⟩]}else k.e},nO)
 |45=>if x.kind≠2 then(k,sM (-1))else Fv k {Db with kind:=7,l:=x.l,fn:=o.a,AR:=AR}
 |46=>if y.kind≠7 then(k,sM (-1))else Ff k y λk a=>match Gc k.t.c a.fn (varsOf b a.fn) [x] a.AR with
  |some c=>({k with t:={k.t with c:=c}},nO)
  |none=>(k,sM (-6))
 |_=>(k,nO)
def E7(k:Call)(v:AW)(ex:Bool):Call:=
 let t:=Fq k.t v ex
 if t.Aw≠3/\t.Aw≠4 then{k with t:=t}
 else{
  s:=match Am k.s t.id with
   |some o=>if o.kind=6 then Cn k.s t.id {o with v:=v,ex:=ex,done:=tT}else k.s
   |none=>k.s,
  t:=t,e:={k.e with done:=tT}}
def EH(k:Call)(c:Ay)(b:Int)(a:Nat):Call:=
 match FF c b a with
 |(u,.failed v)=>E7 {k with t:={k.t with c:=u}} v tT
 |(u,_)=>{k with t:={k.t with c:=u}}
def Gt(e:A6)(d:Nat)(a:Nat)(o:Op)(k:Call):Call:=
 let was:=k.t.c;let b:=(was.top.getD Al).AR;let n:=BP o.code;let g:Call:={k with t:={k.t with c:=D4 (FR was n) λf=>{f with pc:=f.pc+1}}}
 match CO e d o b (Ct was n) g with
 |(k2,nO)=>k2
 |(k2,sM code)=>EH k2 was code a
def C6(b:A6)(t:AL)(s:Az)(a:Nat):Call:=
 if t.Aw≠0 then⟨s,t,A8⟩
 else
  let f:=CV t;let r:=Es b t.c f.1 f.2;let k:Call:=⟨s,{t with c:=r.1},A8⟩
  match r.2 with
  | .Iu=>k
  | .ended v=>E7 k v fF
  | .failed v=>E7 k v tT
  | .asked o=>Gt b a f.2 o ⟨s,t,A8⟩
def Dv(t:AL)(s:Az)(v:AW)(a:Bool):Call:=
 if !a then⟨s,DX t [v],A8⟩
 else EH ⟨s,DX t [],A8⟩ (DX t []).c v.n (CV t).2
def Af(l:AA AL)(a:Nm):AU AL:=l.find? (·.id==a)
def A1(l:AA AL)(t:AL):AA AL:=l.map λx=>if x.id==t.id then t else x
def LY(l:AA AL)(t:AL):AA AL:=l.takeWhile (λx=>Dz x.id t.id)++t::l.dropWhile (λx=>Dz x.id t.id)
def CC(l:AA AL)(t:AL):AA AL:=if(Af l t.id).isSome then A1 l t else LY l t
def Gy(s:Az)(on a:Nm):Az:=
 match Am s on with
 |some o=>if o.kind=5 then(match KV o.var a with|some x=>Cn s on {o with var:=x}|none=>s)else s
 |none=>s
def I4(k:Ap)(t:AL)(i:Nat):Ap:=
 let s:=if t.Aw=1 then Gy k.Ah t.on t.id else k.Ah
 {k with Ah:=Cy s (t.AI.getD i Al).name<|GF t i,AC:=A1 k.AC<|GH t i}
def Fp(k:Ap)(a:Nm):Ap:=
 match Af k.AC a with
 |some t=>match IU t k.AD with
  |some i=>I4 k t i
  |none=>k
 |none=>k
def Fo(k:Ap):Ap:=(k.AC.map (·.id)).foldl Fp {k with AD:=k.AD+1}
def RI(k:Ap)(w:Nm×AA AW):Ap:=
 match Af k.AC w.1 with
 |some t=>{k with AC:=A1 k.AC<|DX t w.2}
 |none=>k
def GD:Nat->Ap->Nm->Ap
 |0,k,_=>k
 |n+1,k,id=>(k.AC.map (·.id)).foldl (λk other=>
  match Af k.AC other with
  |none=>k
  |some t=>
   if t.Aw≠1\/t.on≠id then k
   else match Am k.Ah id with
    |none=>k
    |some o=>if o.kind≠6\/ !o.done then k
     else
      let r:=Dv t k.Ah o.v o.ex;let k:={k with Ah:=r.s,AC:=A1 k.AC r.t}
      if r.e.done then GD n k other else k) k
def runK(k:Ap)(a:Nm):Ap×Bool:=
 match Af k.AC a with
 |none=>(k,fF)
 |some t=>
  if t.Aw≠0 then(k,fF)
  else
   let r:=C6 k.im t k.Ah k.AD;let k:={k with Ah:=r.s,AC:=A1 k.AC r.t};let k:={k with AC:=r.e.BU.foldl CC k.AC};let k:={k with Bj:=k.Bj++r.e.out.map λx:AT×AW=>(⟨k.AD,a,x.1,x.2⟩:FU)};let k:={k with B5:=k.B5++r.e.Bo.map λx:Gr=>(⟨k.AD,a,x⟩:Lk)};let k:=r.e.BY.foldl RI k
   (if r.e.done then GD (lN k.AC+1) k a else k,tT)
def F6(k:Ap)(a:Nm):Ap×Bool:=runK (Fo k) a
def D9(k:Ap)(m:AT):AA FU:=k.Bj.filter λf=>fl f.l m
def Hh(k:Ap)(m:AT):Ap:=
 {k with AC:=k.AC.filterMap (C4 · m),Ah:=GU k.Ah m,Bj:=D9 k m,B5:=[]}
def JZ(a b:Az):Bool:=decide (lN a=lN b)&&a.all λx=>match Am b x.1 with|some o=>o==x.2|none=>fF
def LA(a b:Ap):Bool:=a.AD==b.AD&&a.AC==b.AC&&JZ a.Ah b.Ah&&a.Bj==b.Bj&&a.B5==b.B5
structure Gs where
 l:AT
 v:Int
deriving DecidableEq,Inhabited,Repr
structure FO where
 fn:Nat
 l:AT
 c:AT
 AR:AH
 Ao:Nat
 box:Int
 n:Int
deriving DecidableEq,Inhabited,Repr
structure Dj where
 im:A6
 BJ:AA Gs
 BM:AA FO
deriving DecidableEq,Inhabited,Repr
def D7(c:Dj)(b:FO)(a:Nm):AL:=
 let arg:=if 0<=b.box then BZ 3 [b.box.toNat] (c.BJ.getD b.box.toNat Al).l else BH b.n
 Jw a ⟨b.l,b.c⟩ ((Gc ⟨[],[],[]⟩ b.fn (c.im.Ax.getD b.fn Al).Ai [arg] b.AR).getD ⟨[],[],[]⟩) b.Ao
def EG(c:Dj):Ap:=
 {
  im:=c.im,AD:=0,
  AC:=(lR<|lN c.BM).foldl (λl i=>CC l<|D7 c (c.BM.getD i Al) [lN c.BJ+i]) [],
  Ah:=(lR<|lN c.BJ).foldl (λs i=>Cy s [i] {Db with kind:=3,l:=(c.BJ.getD i Al).l,v:=BH (c.BJ.getD i Al).v}) [],
  Bj:=[],B5:=[]}
def JR:AA AT:=[([],[]),([1],[]),([2],[]),([1,2],[]),([3],[]),([],[1]),([1],[1]),([0],[])]
def EW(i:Nat):AT:=JR.getD i FW
structure Mk where
 l:AA AH
 at_:Nat
 code:AA Op
deriving DecidableEq,Inhabited,Repr
def Mk.next(m:Mk):Nat×Mk:=((m.l[m.at_]?).elim 0 UInt8.toNat,{m with at_:=m.at_+1})
def Mk.BD(m:Mk)(c a:Nat):Mk:={m with code:=m.code++[⟨c,a⟩]}
def Mk.number(m:Mk):Mk:=let r:=m.next;r.2.BD 1<|r.1%8
def Mk.mark(m:Mk):Mk:=let r:=m.next;r.2.BD 1<|8+r.1%8
def Mk.Dq(m:Mk)(k:Nat):Mk:=m.BD 2 k
def Mk.AC2(m:Mk)(any k l a:Nat):Mk:=
 if k=0 then
  let m:=m.number.Dq any;let r:=m.next
  (r.2.BD (7+r.1%7) 0).BD 3 1
 else if k=1 then
  let r:=m.next;let m:=(r.2.BD (25+r.1%2) 0).mark;let r:=m.next
  (r.2.BD (22+r.1%2) 0).BD 3 7
 else if k=2 then m.mark.BD 27 0
 else if k=3 then m.mark.BD 28 0
 else if k<6 then(((m.Dq any).mark).BD 29 0).BD 3 2
 else if k<9 then
  let r:=m.next
  ((r.2.Dq<|[0,2,2,any].getD l 0).BD 30 0).BD 3 1
 else if k=9 then(((m.Dq any).mark).BD 32 0).BD 3 3
 else if k=10 then((m.Dq 3).BD 33 0).BD 3 1
 else if k=11 then((m.Dq 3).Dq any).BD 34 0
 else if k=12 then(m.mark.BD 35 0).BD 3 4
 else if k=13 then((m.Dq 4).BD 36 0).BD 3 1
 else if k<16 then((m.Dq 4).Dq any).BD 37 0
 else if k<18/\0<a then
  let r:=m.next;let m:=r.2.Dq<|[4,2,3,any].getD l 0;let r:=m.next;let m:=(r.2.BD 1<|r.1%4).mark
  (m.BD 38 a).BD 3 5
 else if k=18 then((m.Dq 5).BD 39 0).BD 3 1
 else if k<22/\0<a then
  let r:=m.next;let m:=r.2.Dq<|[2,0,3,4].getD l 0;let r:=m.next;let m:=r.2.BD 1<|r.1%4;let r:=m.next;let m:=(r.2.BD 1<|4+r.1%4).mark
  (m.BD 40 a).BD 3 2
 else if k<25 then((m.Dq any).mark).BD 41 0
 else if k=25 then
  let m:=m.mark;let r:=m.next
  r.2.BD (42+r.1%2) 0
 else if k=26/\0<a then(m.mark.BD 45 a).BD 3 6
 else if k=27 then(((m.Dq any).Dq 6).BD 46 0).BD 3 1
 else if k=28/\0<a then((m.Dq any).BD 17 a).BD 3 1
 else if k=29 then m.number.BD 19 0
 else if k=30 then let r:=m.next;r.2.BD 44<|r.1%4
 else(m.BD 47 0).BD 3 1
def Mk.FZ(m:Mk)(c:Nat):Mk:=
 let a:=m.next;let b:=a.2.next
 b.2.AC2 (a.1%8) (b.1%32) (b.2.next.1%4) c
def Mk.KZ(m:Mk)(i a:Nat):Mk:={m with code:=m.code.modify i λo=>{o with a:=a}}
def Mk.part(m:Mk)(a:Nat):Mk:=
 let r:=m.next;let k:=r.1%8;let m:=r.2;let b:=lN m.code
 if k<3 then
  let m:=(m.BD 20 0).FZ a
  if(m.code.getLast?.getD Al).code=19 then(m.KZ b<|lN m.code).BD 3 1
  else
   let m:=m.BD 21 0;let m:=m.BD 15<|lN m.code+2
   (m.KZ b<|lN m.code).BD 3 1
 else if k=3 then
  let m:=((m.Dq 1).BD 16 0).FZ a
  m.KZ (b+1)<|lN m.code
 else m.FZ a
def Mk.Er(a:Nat):Nat->Nat->Mk->Mk
 |0,_,m=>m
 |n+1,k,m=>if k<1+m.at_/\k<2+lN m.l/6/\k<12 then Mk.Er a n (k+1) (m.part a)else m
def H4(l:AA<|AA AH)(i:Nat):Ev:=
 let m:=Mk.Er ((i+1)%3) 12 0 ⟨l.getD i [],0,[]⟩;let r:=m.next
 ⟨1,7,((r.2.BD 2<|r.1%8).BD 18 0).code⟩
def Mb:AA AW:=([0,1,2,3,4,5,9,14]:AA Int).map BH++JR.map D1
def Io(l:AA<|AA AH):A6:=⟨Mb,[H4 l 0,H4 l 1,H4 l 2]⟩
structure LP where
 Ax:AA (AA AH)
 BJ:AA AH
 BM:AA AH
deriving DecidableEq,Inhabited,Repr
def CN(l:AA AH)(i:Nat):Nat:=(l[i]?).elim 0 UInt8.toNat
def Jo(c:LP)(none_:Bool):Dj where
 im:=Io c.Ax
 BJ:=(lR 2).map λi=>⟨EW<|CN c.BJ (2*i)%8,(CN c.BJ (2*i+1)%4:Nat)⟩
 BM:=(lR 3).map λi=>
  let b:=λj=>CN c.BM<|6*i+j;let l:=EW<|[0,0,1,2,4,5,1,3].getD (b 0%8) 0
  {fn:=b 1%3,l:=l,c:=jn l<|EW<|[7,7,3,1].getD (b 2%4) 0,AR:=if none_ then 0 else uN<|b 2/4%4,Ao:=b 3%12,box:=(b 4%3:Nat)-1,n:=(b 5%4:Nat)}
def blank(c:Dj)(m:AT)(n:Int):Dj:=
 {c with BJ:=c.BJ.map λs=>if fl s.l m then s else{s with v:=n},BM:=c.BM.map λb=>if fl b.l m then b else{b with n:=n}}
def Kt:AA Nm:=[[2],[3],[4],[2,0],[2,1],[3,0],[2,0,0],[9]]
def H0(l:AA AH)(a:Nat):AA Nm:=(l.take a).map λb=>Kt.getD (b.toNat%8) []
def Fe(k:Ap)(l:AA Nm):Ap:=l.foldl (λk a=>(F6 k a).1) k
def O0(k:Ap)(p:AH):Bool:=k.B5.all λx=>sub x.e.AR p
def sameAt(a b:Ap)(m:AT):Bool:=LA (Hh a m)<|Hh b m
def EC:A6 where
 DN:=[D1 FW,D1 ([1],[]),BH 2,BH 9,BH 1]
 Ax:=[⟨1,1,[⟨2,0⟩,⟨1,2⟩,⟨1,3⟩,⟨1,1⟩,⟨40,1⟩,⟨4,0⟩,⟨1,3⟩,⟨3,1⟩,⟨2,1⟩,⟨16,12⟩,⟨1,4⟩,⟨18,0⟩,⟨1,3⟩,⟨1,0⟩,⟨41,0⟩,⟨2,1⟩,⟨1,4⟩,⟨8,0⟩,⟨3,1⟩,⟨15,8⟩]⟩,
  ⟨1,1,[⟨2,0⟩,⟨30,0⟩,⟨3,1⟩,⟨2,1⟩,⟨16,7⟩,⟨2,1⟩,⟨18,0⟩,⟨2,1⟩,⟨1,4⟩,⟨8,0⟩,⟨3,1⟩,⟨15,3⟩]⟩]
def EU(v:Int):Dj:=⟨EC,[⟨([1],[]),v⟩],[⟨0,FW,high,0,5,0,0⟩,⟨0,([1],[]),high,0,5,0,0⟩]⟩
def AHP:Bool:=
 let p:=lP 120 [1];let k:=Fe (EG<|EU 0) p;let j:=Fe (EG<|EU 100) p;let f:=D9 k FW;let g:=D9 j FW;decide (lN f=9)&&(match Af k.AC [1]with|some t=>t.Aw==3&&t.v.n==1|none=>fF)&&f==g&&(match Am j.Ah [1,0]with|some o=>o.ex&&o.v==BH (-7)|none=>fF)&& !sameAt k j high
def Dp(c:Ay)(s:Dc):Ay:=Ee c s.AG s.Cg s.AP
structure On(c:Ay)(s:Dc):Prop where
 fr:s.AG<lN c.AG
 bs:∀f∈c.AG.drop s.AG,s.Cg<=f.Cp
 ht:s.Cg<=lN c.stack
 tl:s.AP<=lN c.AP
 tr:∀t∈c.AP.drop s.AP,s.AG<t.AG/\s.Cg<=t.Cg
 tp:∀t∈c.AP.take s.AP,t.AG<=s.AG
structure GQ(s:Dc)(c d:Ay):Prop where
 on:On d s
 eq:Dp d s=Dp c s
theorem GQ.refl{s c}(h:On c s):GQ s c c:=⟨h,rfl⟩
def GQ.trans{s a b c}(h:GQ s a b)(k:GQ s b c):GQ s a c:=⟨k.on,k.eq.trans h.eq⟩
def No{s c}(h:On c s)(v):GQ s c (Df c v):=
 ⟨⟨h.fr,h.bs,by simp[Df,CK];have:=h.ht;omega,h.tl,h.tr,h.tp⟩,by
   simp[Dp,Ee,Df,Ji h.ht]⟩
def AOD{s c}(h:On c s):s.Cg<=MN c:=by
 rw[MN,Ay.top];have a:=h.fr;cases e:c.AG.getLast? with
 |none=>rw[S8]at e;rw[e]at a;simp at a
 |some f=>
  refine h.bs f ?_;rw[P8]at e;let⟨d,b⟩:=Ci.1 e;rw[P9];exact⟨lN c.AG-1-s.AG,by simp;omega,by rw[<-b,List.getElem_drop];congr 1;omega⟩
def UB{s c}(h:On c s){n}(b:HQ c n):GQ s c (FR c n):=by simp[HQ,CJ,ER]at b;have d:=AOD h;have a:s.Cg<=lN c.stack-n:=oG;refine⟨⟨h.fr,h.bs,by simp[FR,Cu];omega,h.tl,h.tr,h.tp⟩,?_⟩;simp[Dp,Ee,FR,IA,Gn a]
def mem_modify{b:Type}{l:AA b}{k f x}(h:x∈l.modify k f):x∈l\/∃y∈l,x=f y:=by
 rw[S9]at h;let⟨i,a⟩:=h;rw[RP]at a;cases e:l[i]? with
 |none=>rw[e]at a;simp at a
 |some y=>
  rw[e]at a;have d:y∈l:=S9.2 ⟨i,e⟩;by_cases c:k=i;simp[c,ME,Option.map_eq_map,LN,QB]at a;exact .inr ⟨y,d,a.symm⟩;simp[c,Hq,Option.map_eq_map,LN,QB]at a;exact .inl<|a▸d
def AIv{a:Type}{l:AA a}{k n f}(h:n<=k):(l.modify k f).drop n=(l.drop n).modify (k-n) f:=by apply VJ;intro i;simp[Jg,RP];by_cases e:k=n+i;simp[Ac e,Ac<|show k-n=i by omega];simp[AY e,AY<|show¬k-n=i by omega]
def take_modify{a:Type}{l:AA a}{k n f}(h:n<=k):(l.modify k f).take n=l.take n:=by apply VJ;intro i;rw[GO,GO];split;rename_i b;rw[RP];simp only[AY<|show¬k=i by omega];cases l[i]? <;>rfl;rfl
def Wa{s c}(h:On c s){f}(b:∀x,(f x).Cp=x.Cp):GQ s c (D4 c f):=by have d:=h.fr;refine⟨⟨by simpa[D4]using d,?_,h.ht,h.tl,h.tr,h.tp⟩,?_⟩;intro x a;simp[D4]at a;rw[AIv oG]at a;rcases mem_modify a with a|⟨y,e,rfl⟩;exact h.bs x a;rw[b];exact h.bs y e;simp[Dp,Ee,D4,take_modify (l:=c.AG) (k:=lN c.AG-1) (n:=s.AG) (f:=f) oG]
def AEA{s c u}(h:On c s){i d a b}(e:Gc c i d a b=sM u):GQ s c u:=by rw[Gc]at e;split at e;cases e;cases e;have g:=h.fr;refine⟨⟨by simp;omega,?_,h.ht,h.tl,h.tr,h.tp⟩,?_⟩;intro x f;simp[VI<|Ly g,Bc,A9]at f;rcases f with f|rfl;exact h.bs x f;exact h.ht;simp[Dp,Ee,Ji<|Ly g]
def AWV{s c}(h:On c s)(a):GQ s c {c with AP:=c.AP++[⟨lN c.AG,lN c.stack,a⟩]}:=by refine⟨⟨h.fr,h.bs,h.ht,by simp;have:=h.tl;omega,?_,by rw[Ji h.tl];exact h.tp⟩,?_⟩;intro x b;simp[VI h.tl,Bc,A9]at b;rcases b with b|rfl;exact h.tr x b;exact⟨h.fr,h.ht⟩;simp[Dp,Ee,Ji h.tl]
def Ry{c:Type}{l:AA c}{a b x}(h:x∈(l.take b).drop a):x∈l.drop a:=by rw[AGQ]at h;exact Fg h
def AWP{s c}(h:On c s){n}(d:s.AP<=n)(b:n<lN c.AP):GQ s c {c with AP:=c.AP.take<|lN c.AP-1}:=by refine⟨⟨h.fr,h.bs,h.ht,by simp[Cu];omega,λx a=>h.tr x<|Ry a,by rw[IA,Gn<|show s.AP<=lN c.AP-1 by omega];exact h.tp⟩,?_⟩;simp[Dp,Ee,IA,Gn<|show s.AP<=lN c.AP-1 by omega]
def AWU{s c u}(h:On c s){f:Int}{b:Nat}(o:s.AP<=b)(a:NU c f b=sM u):GQ s c u:=by
 rw[NU]at a;cases e:c.AP.getLast? with
 |none=>rw[e]at a;cases a
 |some t=>
  rw[e]at a;simp only at a;split at a;cases a;rename_i l;split at a;cases a;rename_i m;cases a;have j:0<lN c.AP:=by
   cases g:c.AP with
   |nil=>rw[g]at e;cases e
   |cons _ _=>simp
  have i:t∈c.AP.drop s.AP:=by rw[P8]at e;let⟨n,g⟩:=Ci.1 e;rw[P9];exact⟨lN c.AP-1-s.AP,by simp;omega,by rw[<-g,List.getElem_drop];congr 1;omega⟩
  let⟨q1,q2⟩:=h.tr t i;have q3:t.AG<=lN c.AG:=oG;have q4:t.Cg<=lN c.stack:=oG;refine⟨⟨?_,?_,?_,?_,?_,?_⟩,?_⟩;simp only[KC,N8,Cu];omega;intro x d;simp only[KC]at d;rw[AIv oG]at d;rcases mem_modify d with d|⟨y,k,rfl⟩;exact h.bs x<|Ry d;exact h.bs y<|Ry k;simp only[CK,Cu];omega;simp only[Cu];omega;exact λx d=>h.tr x<|Ry d;rw[IA,Gn oG];exact h.tp;simp only[Dp,Ee,KC];congr 1;rw[take_modify oG,IA,Gn oG];rw[Ji<|by simp only[Cu];omega,IA,Gn q2];rw[IA,Gn oG]
structure At(c:Ay)(s:Dc):Prop where
 fr:s.AG<=lN c.AG
 bs:∀f∈c.AG.drop s.AG,s.Cg<=f.Cp
 ht:s.Cg<=lN c.stack
 tl:s.AP<=lN c.AP
 tr:∀t∈c.AP.drop s.AP,s.AG<t.AG/\s.Cg<=t.Cg
 tp:∀t∈c.AP.take s.AP,t.AG<=s.AG
def On.at_{c s}(h:On c s):At c s:=⟨Ly h.fr,h.bs,h.ht,h.tl,h.tr,h.tp⟩
def At.on{c s}(h:At c s)(k:s.AG<lN c.AG):On c s:=⟨k,h.bs,h.ht,h.tl,h.tr,h.tp⟩
def AWS{s c}(h:On c s)(j:MN c<=lN c.stack):Dp (Ei c) s=Dp c s/\At (Ei c) s:=by
 have k:=h.fr;have f:=AOD h;have a:c.AP=c.AP.take s.AP++c.AP.drop s.AP:=(TB _ _).symm;have d:(Ei c).AP=c.AP.take s.AP++(c.AP.drop s.AP).filter (λt=>decide<|t.AG<=lN c.AG-1):=by
  simp only[Ei]
  conv=>lhs;rw[a]
  rw[VK];congr 1;rw[RO];intro t g;have:=h.tp t g;exact G5 oG
 have i:lN (c.AP.take s.AP)=s.AP:=by rw[Cu];exact Gn h.tl
 have e:(Ei c).AP.take s.AP=c.AP.take s.AP:=by rw[d,Ji oG,IA,Xw]
 refine⟨?_,⟨?_,?_,?_,?_,?_,?_⟩⟩;simp only[Dp,Ee,e];congr 1;simp only[Ei,IA,Gn<|show s.AG<=lN c.AG-1 by omega];simp only[Ei,IA,Gn f];simp only[Ei,Cu];omega;exact λx b=>h.bs x<|Ry b;simp only[Ei,Cu];omega;rw[d,CK];omega;intro x b;rw[d,VI oG,RN oG,F2]at b;exact h.tr x (Ho.1 b).1;rw[e];exact h.tp
def AZ4{c n}(h:HQ c n):MN c<=lN c.stack:=by simp[HQ,CJ,ER]at h;exact h.1
def AWO{s b c o}(h:On c s)(a:HQ c<|CU b o):GQ s c (Fl b c o):=
 (UB h a).trans<|Wa (UB h a).on λ_=>rfl
def AWR{s f c u o l b}(h:On c s)(d:s.AP<=b)(a:HU f c o l b=.inl u):GQ s c u:=by
 unfold HU at a;dsimp only at a;split at a
 all_goals first
  |(cases a;exact No h _)
  |(cases a;exact Wa h λ_=>rfl)
  |(cases a;exact GQ.refl h)
  |(cases a;exact(No h _).trans<|No (No h _).on _)
  |(cases a;exact AWV h _)
  |(
   cases a;split;exact AWP h d aS;exact GQ.refl h)
  |(
   split at a;split at a;cases a;exact No h _;cases a;cases a)
  |(
   split at a;cases a;exact No h _;cases a)
  |(
   split at a;split at a;cases a;exact Wa h λ_=>rfl;cases a;exact GQ.refl h;cases a)
  |(
   split at a;rename_i e;cases a;exact AEA h e;cases a)
  |(split at a<;>cases a)
def ADY{b c o}(h:JM b c=sM o):HQ c (CU b o):=by rw[JM]at h;split at h;cases h;split at h;cases h;split at h;cases h;split at h;rename_i a;cases h;simp[CJ]at a;exact a.2;cases h
def AKA{s c}{code:Int}{a:Nat}(h:On c s)(b:s.AP<=a):GQ s c (FF c code a).1:=by rw[FF];split;rename_i d;exact AWU h b d;exact GQ.refl h
def Out.goes:Out->Bool
 | .Iu=>tT
 | .asked _=>tT
 |_=>fF
def AWT{s im c AG AP}(h:On c s)(n:s.AG<=AG)(d:s.AP<=AP):
 Dp (Es im c AG AP).1 s=Dp c s/\At (Es im c AG AP).1 s/\((Es im c AG AP).2.goes->On (Es im c AG AP).1 s):=by
 rw[Es];split;exact⟨rfl,h.at_,λ_=>h⟩;rename_i o j;have b:=ADY j;split;exact⟨rfl,h.at_,λ_=>h⟩;split;let⟨e,f⟩:=AWS h<|AZ4 b;dsimp only;split;exact⟨e,f,λh=>by cases h⟩;rename_i i;have a:=No (f.on oG)<|(Ct c 1).getD 0 AZ;exact⟨a.eq.trans e,a.on.at_,λ_=>a.on⟩;have g:=AWO h b;split;rename_i u l;have k:=g.trans<|AWR g.on d l;exact⟨k.eq,k.on.at_,λ_=>k.on⟩;have k:=AKA (code:=by assumption) h d;exact⟨k.eq,k.on.at_,λ_=>k.on⟩
variable{m:AT}
def Cx(t:AL)(m:AT)(i:Nat):Bool:=fl (EF t i) m
def Zd(t m):∀n i,i<=LZ t m n i/\LZ t m n i<=i+n/\(∀j,i<=j->j<LZ t m n i->Cx t m j)/\(LZ t m n i<i+n->Cx t m (LZ t m n i)=fF)
 |0,i=>⟨Ag _,Ag _,λj b a=>by simp only[LZ]at a;omega,λh=>by simp only[LZ]at h;omega⟩
 |n+1,i=>by rw[LZ];split;rename_i h;let⟨b,a,d,f⟩:=Zd t m n<|i+1;refine⟨oG,oG,λj g c=> ?_,λc=>f oG⟩;by_cases e:j=i;rwa[e];exact d j oG c;rename_i h;exact⟨Ag _,oG,λj b a=>oG,λ_=>by simpa[Cx]using h⟩
def AKQ(t m):CF t m<=lN t.AI+1:=by have:=(Zd t m (lN t.AI+1) 0).2.1;rw[CF];omega
def Ze(t m){j}(h:j<CF t m):Cx t m j:=(Zd t m (lN t.AI+1) 0).2.2.1 j (Bm _) h
theorem Qq(t m)(h:CF t m<=lN t.AI):Cx t m (CF t m)=fF:=(Zd t m (lN t.AI+1) 0).2.2.2 (by rw[CF]at h;omega)
def AED{t m k}(d:k<=lN t.AI+1)(b:∀j,j<k->Cx t m j)(c:k<=lN t.AI->Cx t m k=fF):CF t m=k:=by rcases Nat.lt_trichotomy (CF t m) k with h|h|h;have a:=Qq t m oG;rw[b _ h]at a;cases a;exact h;have a:=Ze t m h;have:=AKQ t m;rw[c oG]at a;cases a
structure VX(t:AL)(m:AT):Prop where
 out:∀i j,i<=j->j<=lN t.AI->Cx t m j->Cx t m i
theorem Ik(t):EF t (lN t.AI)=t.g.Ad:=by rw[EF];rw[Jh<|Ag _]
theorem ZN{t}(h:VX t m)(a:fl t.g.Ad m):C4 t m=sM t:=by have e:CF t m=lN t.AI+1:=AED (Ag _) (λj b=>h.out j (lN t.AI) oG (Ag _)<|by rw[Cx];rwa[Ik]) λh=>oG;rw[C4];simp[e,ME]
def AVE{t}(b:fl t.g.Ad m=fF):CF t m<=lN t.AI:=by have h:=AKQ t m;rcases Jj (lN t.AI) (CF t m)with a|a;have:=Ze t m a;rw[Cx]at this;rw[Ik,b]at this;cases this;exact a
def WO{t u n}(hid:u.id=t.id)(x:n<=lN t.AI)(y:n<=lN u.AI)(p:u.AI.take n=t.AI.take n)(k:Cx t m n=fF)(r:Cx u m n=fF)(v:∀s∈t.AI.take n,Dp u.c s=Dp t.c s):
 C4 u m=C4 t m:=by
 have b:∀j,j<n->Cx u m j=Cx t m j:=λj c=>by
  have e:u.AI[j]? =t.AI[j]? :=by have:=Dt (λl=>l[j]?) p;simpa[GO,c]using this
  unfold Cx EF;rw[e];cases h:t.AI[j]? with
  |none=>rw[AO3]at h;omega
  |some s=>rfl
 have d:CF t m<=n:=by rcases Jj n (CF t m)with h|h;rw[Ze t m h]at k;cases k;exact h
 have f:CF u m=CF t m:=AED oG (λj c=>by rw[b j oG];exact Ze t m c) (λ_=>by by_cases e:CF t m=n;rw[e];exact r;rw[b _ oG];exact Qq t m oG)
 unfold C4;rw[f];simp only[show¬CF t m=lN t.AI+1 by omega,show¬CF t m=lN u.AI+1 by omega,Hq];by_cases g:CF t m=0;simp only[g,ME];simp only[g,Hq];have i:u.AI.take (CF t m)=t.AI.take (CF t m):=by have:=Dt (λl=>l.take<|CF t m) p;simpa[IA,Gn d]using this
 have q:u.AI.getD (CF t m-1) Al=t.AI.getD (CF t m-1) Al:=by have:=Dt (λl=>l[CF t m-1]?) i;simp only[GO,Ac<|show CF t m-1<CF t m by omega]at this;simp only[DK,this]
 have w:t.AI.getD (CF t m-1) Al∈t.AI.take n:=by have o:CF t m-1<lN t.AI:=oG;rw[DK,BS o];exact S9.2 ⟨CF t m-1,by rw[GO,Ac oG,BS o];rfl⟩
 have a:=v _ w;unfold Dp at a;rw[i,q,a,hid]
theorem Qg{t u}(h:C4 t m=sM u):u.id=t.id:=by rw[C4]at h;simp only at h;split at h;cases h;rfl;split at h;cases h;cases h;rfl
def WQ{t u}(h:C4 t m=sM u)(a:fl t.g.Ad m=fF):0<CF t m/\CF t m<=lN t.AI/\u.AI=t.AI.take (CF t m)/\u.Aw=2/\u.g=⟨(t.AI.getD (CF t m-1) Al).l,(t.AI.getD (CF t m-1) Al).l⟩/\u.c=Dp t.c (t.AI.getD (CF t m-1) Al)/\u.Bg=(t.AI.getD (CF t m-1) Al).name:=by have b:=AVE (t:=t) a;rw[C4]at h;simp only[show¬CF t m=lN t.AI+1 by omega,Hq]at h;split at h;cases h;cases h;exact⟨oG,b,rfl,rfl,rfl,rfl,rfl⟩
theorem AUm(s r q):Am (s++r) q=(Am s q).or (Am r q):=by grind[Am]
theorem AUo(n o q):Am [(n,o)] q=if q=n then sM o else nO:=by grind[Am]
theorem I3{s n o}(h:Ew s n o)(q):Am (Cy s n o) q=if q=n then sM o else Am s q:=by
 rw[Cy];rw[Ac h,AUm,AUo];simp[Ew,CJ,Nc]at h
 grind
theorem OF{s n o}(h:Ew s n o=fF):Cy s n o=s:=by grind[Cy]
theorem AUn(s n o q):Am (s.map λx=>if x.1==n then(n,o)else x) q=if q=n then(Am s q).map (λ_=>o)else Am s q:=by
 unfold Am;rw[AGU];have e:((λx:Nm×Ob=>x.1==q)∘ λx=>if x.1==n then(n,o)else x)=λx=>x.1==q:=by funext x;simp only[Function.comp];by_cases a:x.1==n;rw[Ac a,GP.1 a];rw[AY a]
 rw[e];cases b:s.find? (·.1==q)with
 |none=>simp
 |some x=>
  grind
theorem PV(s n o q):Am (Cn s n o) q=match Am s n with
 |some w=>if w.kind=o.kind/\w.l=o.l then(if q=n then sM o else Am s q)else Am s q
 |none=>Am s q:=by
 rw[Cn];cases h:Am s n with
 |none=>rfl
 |some w=>
  simp only;by_cases a:w.kind=o.kind/\w.l=o.l;rw[AY<|by rintro(e|e);exact e a.1;exact e a.2,Ac a,AUn]
  grind
  grind
theorem ADj{s n w o}(h:Am s n=sM w)(a:w.kind=o.kind)(b:w.l=o.l)(q):Am (Cn s n o) q=if q=n then sM o else Am s q:=by grind[PV]
def Je(m:AT)(s:Az)(n:Nm):AU Ob:=(Am s n).filter λo=>fl o.l m
theorem U5{s n o}:Je m s n=sM o↔Am s n=sM o/\fl o.l m:=by simp_all[Je]
theorem AOc{s n o}(h:Am s n=sM o)(a:fl o.l m):Je m s n=sM o:=U5.2 ⟨h,a⟩
theorem Agz{s n}(h:Am s n=nO):Je m s n=nO:=by grind[Je]
theorem ABF{s n o}(a:fl o.l m=fF)(q):Je m (Cy s n o) q=Je m s q:=by
 cases h:Ew s n o with
 |false=>rw[OF h]
 |true=>
  unfold Je;rw[I3 h];split;simp_all[Ew];rfl
theorem Xe{s n o}(a:fl o.l m=fF)(q):Je m (Cn s n o) q=Je m s q:=by grind[Je,PV]
def Ca(m:AT)(s r:Az):Prop:=∀n,Je m s n=Je m r n
theorem Ca.refl(s):Ca m s s:=λ_=>rfl
def Ca.symm{s r}(h:Ca m s r):Ca m r s:=λn=>(h n).symm
def Ca.trans{a b c}(h:Ca m a b)(k:Ca m b c):Ca m a c:=λn=>(h n).trans<|k n
def Ca.some_{s r}(h:Ca m s r){n o}(b:Am s n=sM o)(a:fl o.l m):Am r n=sM o:=(U5.1<|(h n).symm.trans<|AOc b a).1
def Ca.add{s r}(h:Ca m s r){n o}(a:Ew s n o)(b:Ew r n o):Ca m (Cy s n o) (Cy r n o):=by intro q;unfold Je;rw[I3 a,I3 b];split;rfl;exact h q
def Ca.AHH{s r}(h:Ca m s r){n o b}(c:fl o.l m=fF)(a:fl b.l m=fF):Ca m (Cy s n o) (Cy r n b):=λq=>by rw[ABF c,ABF a,h q]
def Ca.set{s r}(h:Ca m s r){n w o}(a:Am s n=sM w)(c:fl w.l m)(d:w.l=o.l):Ca m (Cn s n o) (Cn r n o):=by intro q;unfold Je;rw[PV,PV,a,h.some_ a c];simp only;split;split;rfl;exact h q;exact h q
def Ca.AAy{s r}(h:Ca m s r){k k'}(j:k.s=s)(i:k'.s=r){v}(l:fl v.l m):EY k v=EY k' v:=by
 subst j;subst i;rw[EY];have d:∀ {a b:Az},Ca m a b->∀o,(match Am a v.name with|some o=>if o.kind=v.kind/\o.l=v.l then sM o else nO|none=>nO)=sM o->(match Am b v.name with|some o=>if o.kind=v.kind/\o.l=v.l then sM o else nO|none=>nO)=sM o:=by intro a b e o c;split at c;rename_i n f;split at c;rename_i g;cases c;rw[e.some_ f<|by rwa[g.2]];simp[g];cases c;cases c
 apply Option.ext;intro o;exact⟨d h o,d h.symm o⟩
theorem E2{l id t}(h:Af l id=sM t):t.id=id:=by have:=List.find?_some h;simpa using this
def D2{l a t}(h:Af l a=sM t):t∈l:=AO7 h
theorem N4(l t id):Af (A1 l t) id=if id=t.id then(Af l id).map (λ_=>t)else Af l id:=by
 unfold Af A1;rw[AGU];have e:((λx:AL=>x.id==id)∘ λx=>if x.id==t.id then t else x)=λx=>x.id==id:=by funext x;simp only[Function.comp];by_cases a:x.id==t.id;rw[Ac a,GP.1 a];rw[AY a]
 rw[e];cases b:l.find? (·.id==id)with
 |none=>simp
 |some x=>
  grind
theorem ZR(l t):(A1 l t).map (·.id)=l.map (·.id):=by rw[A1];ext;grind
theorem XX{l a}:(Af l a).isSome↔a∈l.map (·.id):=by grind[Af]
theorem AN5{l t}(h:Af l t.id=nO)(id):Af (LY l t) id=if id=t.id then sM t else Af l id:=by
 have a:l=l.takeWhile (λx=>Dz x.id t.id)++l.dropWhile (λx=>Dz x.id t.id):=(ABo).symm
 grind[LY,Af,Dz,or]
theorem Mp(l t id):Af (CC l t) id=if id=t.id then sM t else Af l id:=by
 rw[CC];cases h:Af l t.id with
 |none=>grind[AN5]
 |some x=>
  grind[N4]
theorem Ma:∀a:Nm,Dz a a=fF
 |[]=>rfl
 |x::a=>by simp[Dz,Ma a]
theorem UO:∀ {a b c:Nm},Dz a b->Dz b c->Dz a c
 |[],[],_,h,_=>by cases h
 |[],_::_,[],_,k=>by cases k
 |[],_::_,_::_,_,_=>rfl
 |_::_,[],_,h,_=>by cases h
 |_::_,_::_,[],_,k=>by cases k
 |x::a,y::b,z::c,h,k=>by
  simp only[Dz]at*;by_cases d:x<y
  grind
  rw[AY d]at h;by_cases e:x=y;rw[Ac e]at h;by_cases f:y<z;rw[Ac oG];rw[AY f]at k;by_cases g:y=z;rw[Ac g]at k;rw[AY oG,Ac oG];exact UO h k
  grind
  grind
theorem AEV:∀ {a b:Nm},a≠b->Dz a b=fF->Dz b a
 |[],[],h,_=>absurd rfl h
 |[],_::_,_,k=>by cases k
 |_::_,[],_,_=>rfl
 |x::a,y::b,h,k=>by
  simp only[Dz]at*;by_cases d:x<y
  grind
  rw[AY d]at k;by_cases c:x=y;rw[Ac c]at k;rw[AY oG,Ac c.symm];exact AEV (λe=>h<|by rw[c,e]) k;rw[Ac oG]
abbrev Fi(l:AA AL):Prop:=l.Pairwise λa b=>Dz a.id b.id
theorem sorted_put{l}(h:Fi l)(t):Fi (A1 l t):=by rw[Fi,A1];grind
theorem AEe{a:Type}{p}:∀ {l:AA a} {x:a},x∈l.takeWhile p->p x/\x∈l
 |y::l,x,h=>by
  rw[RR]at h;split at h;rcases Co.1 h with rfl|h
  grind
  exact⟨(AEe h).1,DY _ (AEe h).2⟩;cases h
theorem Abw{l:List AL}{t:AL}(h:Fi l)(b:Af l t.id=nO):∀x∈l.dropWhile (λx=>Dz x.id t.id),Dz t.id x.id:=by
 induction l with
 |nil=>intro x a;cases a
 |cons y l c=>
  grind[Af,Dz,List.dropWhile_cons,XX,List.pairwise_cons,List.mem_cons_of_mem,AEV,UO]
theorem AFU{l t}(h:Fi l)(g:Af l t.id=nO):Fi (LY l t):=by
 rw[LY,Fi];have f:l=l.takeWhile (λx=>Dz x.id t.id)++l.dropWhile (λx=>Dz x.id t.id):=(ABo).symm;have c:(l.takeWhile (λx=>Dz x.id t.id)++l.dropWhile (λx=>Dz x.id t.id)).Pairwise λa b=>Dz a.id b.id:=by rwa[<-f]
 rw[ABm]at c⊢;refine⟨c.1,G4.2 ⟨Abw h g,c.2.1⟩,λa e b d=> ?_⟩;rcases Co.1 d with rfl|d;exact(AEe e).1
 grind
theorem ANd{l}(h:Fi l)(t):Fi (CC l t):=by
 rw[CC];cases a:Af l t.id with
 |none=>grind[AFU]
 |some x=>grind[sorted_put]
theorem NT{l}(h:Fi l){t}(a:t∈l):Af l t.id=sM t:=by
 induction l with
 |nil=>cases a
 |cons y l b=>
  grind[Af,List.pairwise_cons,beq_eq_false_iff_ne,Ma]
theorem Abx:∀ {l r:List AL},Fi l->Fi r->(∀b,Af l b=Af r b)->l=r:=by
 intro l r c d h;have e:∀x,x∈l↔x∈r:=λx=>
  ⟨λa=>D2<|(h x.id).symm.trans<|NT c a,λa=>D2<|(h x.id).trans<|NT d a⟩
 clear h;induction l generalizing r with
 |nil=>
  cases r with
  |nil=>rfl
  |cons y r=>grind[List.mem_cons_self]
 |cons x l f=>
  cases r with
  |nil=>grind
  |cons y r=>
   grind[List.pairwise_cons,List.mem_cons_self,UO,Ma,List.mem_cons_of_mem]
end Lz
