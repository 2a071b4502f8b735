/- Part 3 of the proof of TopErased. No conditions. -/
import Derived.Test.YtomehhepbeiinaaGreatDoorZ02
set_option maxRecDepth 100000
set_option maxHeartbeats 4000000
set_option linter.all false
open List renaming length->lN
open Option renaming some->sM,none->nO
open Bool renaming true->tT,false->fF
open Go.Value renaming string->vS,bool->vB
open Go.IntKind renaming i64->iK
namespace Go.AX
def AYd(a x y k):(CX a [x] k).isSome=(CX a [y] k).isSome:=by
 unfold CX;cases Nat.ble a k with
 |false=>rfl
 |true=>
  simp only;cases k-a with
  |zero=>rfl
  |succ n=>rfl
def AQP{P L}(hL:Ed P L){o W c k B I t e e' size l}(hT:Gq P L t e size)(D:O9 W o.op=sM (t,.v zS,.s k 0 1 1))(S:(k,.cells l e')∈B)(hl:lN l=size)(H:∀g,∀v∈BB g l,v.oneCell'):
 HS P o W c B I (λh=>∃(f:Nat)(AE:AA AF),1<=f/\f<=maxLen/\lN AE=(f-1)*size/\h= {r:=.s c 0 1 f,nb:=[.cells (l++AE.map SV.v) e],J:=I}) nO:=by
 refine⟨?_⟩;intro g a w O hN hI N Z R U next Q hnext _;have hlen:lN (BB g l)=1*size:=by rw[Hw,DG,hl];omega
 have E:=U _ S;refine (MM hL (o:=o) (tm:=W) (key:=c) (need:=[(k,.cells ((BB g l).map .v) e')]) (I:=I) (t:=t) (e:=e) (size:=size) (n:=0) (cap:=0) (m:=1) (a:=nO) (l:=.v zS) (x:=.s k 0 1 1) (CQ:=[]) (news:=BB g l) hT D rfl Ol (Ez (e:=e') (A9.2 rfl) hlen<|H g) (Ag _) oG (λ_=>rfl) oG).out g a w O ?_ hI ?_ ?_ R ?_ next Q ?_ ?_;intro F d G C;rw[A9.1 d]at C⊢;refine hN _ S G ?_;simp only[AK.AO,Gw]at C⊢;exact C;intro F d aa;rw[A9.1 d];exact N (k,.cells l e') S rfl;intro x hx y V _ _ _;rw[A9.1 hx,A9.1 V];intro F d;rw[A9.1 d];refine⟨λk' u=> ?_,E.2⟩;simp only[AK.A3]at u;let⟨y,V,T⟩:=Mc.1 u;obtain⟨v,_,rfl⟩:=BI.1 V;cases T;rintro _ h w' q ⟨f,AE,r1,r2,r3,rfl⟩ A;have z:Ab.Bh {r:=.s c 0 1 f,nb:=[.cells (l++AE.map SV.v) e],J:=I} g c q=Ab.Bh {r:=.s c 0 (0+1) f,AV:=[],nb:=[AK.As ([]++BB g l++AE) e],J:=I} g c q:=by funext n;unfold Ab.Bh;have Y:=AYd c (.cells (l++AE.map SV.v) e) (.As ([]++BB g l++AE) e) n;simp only;cases e1:CX c [AK.cells (l++AE.map SV.v) e] n<;>cases e2:CX c [AK.As ([]++BB g l++AE) e] n<;>rw[e1,e2]at Y<;>first|rfl|cases Y
 have m:=hnext rfl {r:=.s c 0 1 f,nb:=[.cells (l++AE.map SV.v) e],J:=I} w' q ⟨f,AE,oG,r2,by simpa using r3,rfl⟩ ?_;rw[z]at m;exact m;refine⟨A.os,A.tape,A.output,A.size,λb H _ h3=>A.A2 b H nA h3,?_,?_,λi j hi s e=>A.qi i j (by simpa using hi) (by simpa using s) e,A.H2,λb G K=>(A.fresh b G K).imp id λ⟨p,r⟩=>⟨p,λj s=>r j<|by simpa using s⟩,λb G K=>(A.IX b G K).imp id λ⟨p,r⟩=>⟨p,λj s=>r j<|by simpa using s⟩⟩;intro F d;cases d;intro j x s;cases j with
 |succ j=>simp at s
 |zero=>
  simp at s;subst s;have X:=A.nb 0 (.As ([]++BB g l++AE) e) rfl;refine⟨?_,rfl,?_⟩;rw[z,X.1];simp only[AK.AO];have hd:BB (Ab.Bh {r:=.s c 0 (0+1) f,AV:=[],nb:=[AK.As ([]++BB g l++AE) e],J:=I} g c q) (l++AE.map SV.v)=[]++BB g l++AE:=by rw[Hw,E3,<-Hw,<-Hw,Gw,F2];congr 1;exact QU l λk' u=>F7<|Qw sP<|E.1 k' u
  rw[hd];rcases X.2.2 with h'|⟨F,d,_⟩;exact .inl h';cases d
 intro ch M;cases M
def Aaq{P F d n I w k A b s L}(Q:Ed P L)(K:P.funcs[F]? =sM d){f}(M){h ds}
 (hend:KY L d.results.toList A M b f=sM h) (o:100<=b) (D:s b h)
 (z:∀(tmps:Ae AF)(c:AN)(v:AF),(results d tmps).run P c=.ok v c->Rf P I k b w A s nO (.returned v) c->Leaves P d tmps (Rf P I k b w A s nO) ds .returning c):GG (Kn P F d n I w k A ds) (Rf P I k b w A s nO) f:=by
 have S:=AMm (F:=F) (n:=n) (w:=w) (ρ:=k) (I:=I) (ds:=ds) Q M hend o D;let⟨T,r,E,O⟩:=f;have B:E=nO\/∃g,E=sM g:=by cases E with|none=>exact .inl rfl|some g=>exact .inr ⟨g,rfl⟩
 rcases B with rfl|⟨g,rfl⟩;intro _ G a c R H;let⟨J,_,v,q,Bz⟩:=S G a c R;have m:=z a.tmps c v q Bz;have p:a.defers=ds:=R.nd;cases r with
 |nil=>
  let⟨t,j,e,y,C,i,m⟩:=leaves_steps ds .returning c {(M5<|Kn P F d n I w k A ds).at a []with mode:=.returning} H rfl p rfl K rfl m;exact⟨t,j,e,y,Comes.of_steps (.one step_end) C,i,m⟩
 |cons x l=>
  cases x with
  |code N=>
   cases N with
   |ret=>
    let⟨t,j,e,y,C,i,m⟩:=leaves_steps ds .returning c {(M5<|Kn P F d n I w k A ds).at a (.code .ret::l)with mode:=.returning} H rfl p rfl K rfl m;exact⟨t,j,e,y,Comes.of_steps (.one step_ret) C,i,m⟩
   |_=>cases J
  |_=>cases J
 .exfalso;rw[KY]at hend;split at hend
  case h_2=>cases hend
  rename_i u _ _ _;simp at u
def ASW{c}(O:c.P.funcs[c.f]? =sM c.fn)(N:c.Rx=[]){R f tag Aj k s b x y n l o1}
 (m:f.rg.isNone) (i:f.todo=.code (.region tag Aj fF)::k) (t:Aj.size=2) (L:Aj[0]? =sM l) (M:Aj[1]? =sM o1) (J:l.guard=nO) (K:o1.guard=nO) (C:l.dst=sM s) (D:o1.dst=nO) (P:Nat.blt s c.n)
 (Q:l.op=.makeFunc (.func b) #[] #[.tmp x,.tmp y]) (S:o1.op=.defer n) (U:n.callee=.value (.tmp s)) (T:n.args=#[])
 (h:∀u v:AF,GG {c with Rx:=[{target:=.fn (.func b) #[u,v],args:=#[]}]} R ⟨f.σ.put (sM s) (.fn (.func b) [] [f.σ.tm x,f.σ.tm y]),k,nO,f.Bq⟩):GG c R f:=by
 let⟨d,A,V,B⟩:=f;simp[Nc]at m i h;subst m i;intro z g a w r;refine ADl O (wp_region ?_);rw[t];show wpOps c.P Aj (Qk c R k) [0,1] a w;rw[wpOps_cons];rw[wpOp];rw[L];dsimp only;rw[show Region.wanted l (yielded Aj a.tmps)=tT from by rw[Region.wanted];rw[J],Ac rfl];left;have E:(execOp a.eval l).run c.P w=.ok (.value (.func (.func b) #[] #[a.eval (.tmp x),a.eval (.tmp y)])) w:=by simp[execOp,Q,Instr.makeFunc]
 rw[Oper.wp];rw[E,Oper.upon_value,C];have p:∀k∈(SV.fn (.func b) [] [d.tm x,d.tm y]).A3,(d.hp k).isSome:=λk j=>by simp[SV.A3,DF,F2,Hn,Bc]at j;rcases j with j|j;exact r.kd x k j;exact r.kd y k j
 have e:=r.put (d:=sM s) (by show Nat.blt s c.n;exact P) (x:=.fn (.func b) [] [d.tm x,d.tm y]) p;have H:a.eval (.tmp x)=AO g (d.tm x):=r.ev (.tmp x);have I:a.eval (.tmp y)=AO g (d.tm y):=r.ev (.tmp y);have o:(Value.func (.func b) #[] #[a.eval (.tmp x),a.eval (.tmp y)])=AO g (.fn (.func b) [] [d.tm x,d.tm y]):=by rw[H,I];rfl
 rw[o];rw[wpOps_cons];rw[wpOp];rw[M];dsimp only;rw[show Region.wanted o1 (yielded Aj (a.put (sM s) (AO g (.fn (.func b) [] [d.tm x,d.tm y]))).tmps)=tT from by rw[Region.wanted];rw[K],Ac rfl];left;have G:(a.put (sM s) (AO g (.fn (.func b) [] [d.tm x,d.tm y]))).eval (.tmp s)=.func (.func b) #[] #[AO g (d.tm x),AO g (d.tm y)]:=by rw[e.ev (.tmp s)];show AO g (AV d.tm s _ s)=_;rw[Eu];rfl
 have F:(execOp (a.put (sM s) (AO g (.fn (.func b) [] [d.tm x,d.tm y]))).eval o1).run c.P w=.ok (.defer {target:=.fn (.func b) #[AO g (d.tm x),AO g (d.tm y)],args:=#[]}) w:=by simp[execOp,S,resolve,U,T,G,Deferred.ofValue]
 rw[Oper.wp];rw[F,Oper.upon_defer,D];show M0 c R k _ w;refine h (AO g (d.tm x)) (AO g (d.tm y)) ⟨z.1,z.2⟩ g _ w ?_;have q:(a.put (sM s) (AO g (.fn (.func b) [] [d.tm x,d.tm y]))).defers=[]:=e.nd.trans N;exact{hp:=e.hp,inj:=e.inj,kb:=e.kb,im:=e.im,lm:=e.lm,na:=e.na,fs:=e.fs,GV:=e.GV,dj:=e.dj,ad:=e.ad,nw:=e.nw,fr:=e.fr,sz:=e.sz,os:=e.os,tape:=e.tape,output:=e.output,size:=e.size,nd:=Dt (List.cons _) q,tm:=e.tm,kd:=e.kd}
def AB.minus(I:AB)(b:Nat):AB:=⟨I.at_,λx=>match Nat.beq x b with|true=>nO|false=>I.Ak x⟩
def ALN(I:AB)(b):(I.minus b).Ak b=nO:=by simp[AB.minus]
def Zx(I:AB){b x}(h:x≠b):(I.minus b).Ak x=I.Ak x:=by simp[AB.minus,OH h]
def Ab.off(h:Ab)(b:Nat):Ab:={h with J:=h.J.minus b}
def FC.place{P:B7}{F:Ba}{args:AA SV}{need:AA<|Nat×AK}{I:AB}{N:zP}(K:Nat)(o:Obj){Ψ:Nat->zP}(B:K∉need.map (·.1))
 (S:∀b,I.free b->FC P F (args.map (·.B4 K b)) (need.map λm=>(m.1,m.2.B4 K b)) (I.plus b o) (Ψ b) nO) (H:∀b g h,I.free b->Ψ b g h->h.J.Ak b=sM o/\N g (h.off b)):FC P F args ((K,.Aq o)::need) I N nO:=by
 intro c g w u hN L t p;have i:I.free (c K):=t (K,.Aq o) sP;have s:w.heap[c K]? =sM o:=hN (K,.Aq o) sP _ rfl;have r:BB c (args.map (·.B4 K (c K)))=BB c args:=by rw[Hw,Hw,Gk];exact JD λx _=>Tz rfl (λ_ _=>rfl) x
 have z:Holds w (I.plus (c K) o):=by refine⟨L.1,λx y a=> ?_⟩;by_cases e:x=c K;subst e;rw[Ua]at a;cases a;exact s;rw[NN _ _ e]at a;exact L.2 x y a
 have C:∀m∈need,c m.1≠c K:=λm f e=>B (by have:=p m (DY _ f) (K,.Aq o) sP e;simp only at this;rw[<-this];exact BI.2 ⟨m,f,rfl⟩)
 have:=(S (c K) i) c g w u (λm f x a=>by
  obtain⟨n,d,rfl⟩:=BI.1 f;simp only at a⊢;rw[AK.Tz (ρ:=c) (σ:=c) rfl λ_ _=>rfl]at a;exact hN n (DY _ d) x a) z (λm f=>by
  obtain⟨n,d,rfl⟩:=BI.1 f;have J:=t n<|DY _ d;exact⟨J.1,by rw[NN _ _<|C n d];exact J.2⟩) (λx a y U e=>by
  obtain⟨W,D,rfl⟩:=BI.1 a;obtain⟨X,E,rfl⟩:=BI.1 U;exact p W (DY _ D) X (DY _ E) e)
 rw[r]at this;refine this.mono ?_;rintro e Y ⟨h,q,⟨G,V,hle⟩,A,T⟩;obtain⟨O,Q⟩:=H _ g h i G;have j:h.LD g (((K,AK.Aq o)::need).map (·.1)):=V.mono λk M=>by rw[Gk]at M;exact DY _ M
 refine⟨h.off<|c K,q,⟨Q,⟨j.r,j.u,j.n,j.l,j.d⟩,hle⟩,⟨A.os,A.tape,A.output,A.size,λx a v R=> ?_,A.AV,A.nb,A.qi,⟨A.H2.1,λx y a=> ?_⟩,A.fresh,λx y a=> ?_⟩,T⟩;by_cases l:x=c K;subst l;rw[A.H2.2 _ _ O,s];exact A.A2 x a v (by rwa[NN _ _ l]);have a:(h.J.minus<|c K).Ak x=sM y:=a;by_cases l:x=c K;rw[l,ALN]at a;cases a;rw[Zx _ l]at a;exact A.H2.2 x y a;have a:(h.J.minus<|c K).Ak x=sM y:=a;by_cases l:x=c K;rw[l,ALN]at a;cases a;rw[Zx _ l]at a;have:=A.IX x y a;rw[NN _ _ l]at this;exact this
def AVV{P o v c t K A b n x z I}(u:o.op=.range t x)(H:P.underlying t=sM (.map K A))(g:ev v x=.v (.map<|sM b))(e:I.CW b=sM (.map z n)):
 HS P o v c [] I (λh=>h= {r:=.p c 0,nb:=[.Aq<|.mapIter (sM b) n #[] n],J:=I}) nO:=by
 refine⟨?_⟩;intro y a w C M q B s D F next Q hnext _;have l:=C x xO;rw[g]at l;simp only[AO]at l;have hex:(execOp a.eval o).run P w=.ok (.value<|.pointer<|aP w.heap.size) (w.alloc<|.mapIter (sM b) n #[] n):=by
  have G:(Instr.range t<|.map<|sM b).run P w=.ok (.pointer<|aP w.heap.size) (w.alloc<|.mapIter (sM b) n #[] n):=by simp only[Instr.range,Sem.run_bind,run_underlying H,Result.andThen_ok,MapKept.run_getObj_map<|q.CW b _ e];rfl
  simp[execOp,u,l,G,Result.andThen]
 rw[Oper.wp];rw[hex,Oper.upon_value];have d:Bl w (w.alloc<|.mapIter (sM b) n #[] n):=⟨rfl,rfl,rfl,by show _<=(w.heap.push _).size;rw[NZ];exact Cv _,λx g=>(MapKept.heap_alloc w _).2 x g⟩;have f:Ab.Bh {r:=.p c 0,nb:=[.Aq<|.mapIter (sM b) n #[] n],J:=I} y c (λ_=>w.heap.size) c=w.heap.size:=by have:=Mm (h:={r:=.p c 0,nb:=[.Aq<|.mapIter (sM b) n #[] n],J:=I}) (ρ:=y) (key:=c) (j:=0) (q:=λ_=>w.heap.size) (b:=.Aq<|.mapIter (sM b) n #[] n) rfl;rw[IB]at this;exact this
 have:=hnext rfl {r:=.p c 0,nb:=[.Aq<|.mapIter (sM b) n #[] n],J:=I} (w.alloc<|.mapIter (sM b) n #[] n) (λ_=>w.heap.size) rfl ⟨d.os,d.tape,d.output,d.size,λx g _ _=>d.block x g,nA,λj L k=>by
  cases j with
  |zero=>cases k;exact⟨(MapKept.heap_alloc w _).1,rfl,.inl<|Ag _⟩
  |succ j=>simp at k,λi j E k _=>by simp at E k;omega,d.Eo q,λb o e=>.inl e,λb o e=>IM e⟩
 simp only[AO,f]at this;exact this
def AVU{P:B7}{o:Bw}{X:Nat->SV}{C b n k:Nat}{x:Operand}{q:Ae Ar}{c:Ae Nat}{I:AB}{B vS:Ar->SV}(R:o.op=.next x fF)(v:ev X x=.p k 0)(l:I.CW b=sM (.map q n))(N:∀e∈q.toList,e.born<n)(hk:∀e∈q.toList,∀ρ,AO ρ (B e)=e.key)(hv:∀e∈q.toList,∀ρ,AO ρ (vS e)=e.val):
 HS P o X C [(k,.Aq<|.mapIter (sM b) n c n)] I (λh=>((leftOf q c).size=0/\h= {r:=.t [.v fV],J:=I})\/∃e∈(leftOf q c).toList,h= {r:=.t [.v tV,B e,vS e],AV:=[(k,.Aq<|.mapIter (sM b) n (c.push e.born) n)],J:=I}) nO:=by
 refine⟨?_⟩;intro ρ a w he hh E H V aa ab next Q hnext _;have S:=hh (k,.Aq<|.mapIter (sM b) n c n) sP _ rfl;simp only at S;have D:=he x xO;rw[v]at D;simp only[AO]at D;rcases run_next_at (P:=P) w o.type (ρ k) b n n c q n S (E.CW b _ l) N (Ag _)with⟨h0,g⟩|⟨e,m,u,f,g⟩;have hex:(execOp a.eval o).run P w=.ok (.value<|.tuple #[vB fF]) w:=by simp[execOp,R,D,g,Result.andThen]
 rw[Oper.wp];rw[hex,Oper.upon_value];exact hnext rfl {r:=.t [.v fV],J:=I} w (λ_=>0) (.inl ⟨h0,rfl⟩) ⟨rfl,rfl,rfl,Ag _,λ_ _ _ _=>rfl,nA,(λj Y M=>by simp at M),(λi j L=>by simp at L),E,λb o l=>.inl l,λb o l=>IM l⟩;have s:e∈q.toList:=by rw[leftOf]at m;simp only[P4,Ho]at m;exact m.1
 have hex:(execOp a.eval o).run P w=.ok (.value<|.tuple #[vB tT,e.key,e.val]) (Go.ChangeMaps.setBlock u (ρ k)<|.mapIter (sM b) n (c.push e.born) n):=by simp[execOp,R,D,g,Result.andThen]
 rw[Oper.wp];rw[hex,Oper.upon_value];have T:u.heap[ρ k]? =sM (.mapIter (sM b) n c n):=by rcases f with rfl|rfl<;>exact S
 obtain⟨k1,W⟩:=MapKept.heap_set (w:=u) (o':=.mapIter (sM b) n (c.push e.born) n) T;have d:∀x:Nat,u.heap[x]? =w.heap[x]? :=λx=>by rcases f with rfl|rfl<;>rfl
 have U:u.heap.size=w.heap.size:=by rcases f with rfl|rfl<;>rfl
 have z:AO ρ (.t [.v tV,B e,vS e])=.tuple #[vB tT,e.key,e.val]:=by simp[AO,BB,hk e s ρ,hv e s ρ]
 have K:=H (k,.Aq<|.mapIter (sM b) n c n) sP rfl;have t:Ab.Bh {r:=.t [.v tV,B e,vS e],AV:=[(k,.Aq<|.mapIter (sM b) n (c.push e.born) n)],J:=I} ρ C (λ_=>0)=ρ:=by funext n;exact F7 (by rw[CX];split<;>rfl)
 have:=hnext rfl {r:=.t [.v tV,B e,vS e],AV:=[(k,.Aq<|.mapIter (sM b) n (c.push e.born) n)],J:=I} (Go.ChangeMaps.setBlock u (ρ k)<|.mapIter (sM b) n (c.push e.born) n) (λ_=>0) (.inr ⟨e,m,rfl⟩)
  ⟨by rcases f with rfl|rfl<;>rfl,by rcases f with rfl|rfl<;>rfl,by rcases f with rfl|rfl<;>rfl,by show _<=(u.heap.setIfInBounds _ _).size;rw[Array.size_setIfInBounds,U];exact Ag _,λx v O _=>(W x λZ=>O (k,.Aq<|.mapIter (sM b) n (c.push e.born) n) sP Z.symm).trans<|d x,λkb p o' A=> ?_,(λj Y M=>by simp at M),(λi j L=>by simp at L),?_,λb o l=>.inl l,λb o l=>IM l⟩
 rw[t,z]at this;exact this;simp at p;subst p;rw[t]at A⊢;cases A;exact k1;have F:Holds u I:=⟨λx y v=>(d x).trans<|E.1 x y v,λx y v=>(d x).trans<|E.2 x y v⟩;exact F.A2 K λx _ G=>W x λe=>G e.symm
def AVP{P:B7}{o:Bw}{B:Nat->SV}{p b n k:Nat}{x:Operand}{q:Ae Ar}{c:Ae Nat}{I:AB}{m vS:Ar->SV}{e:Ar}(z:o.op=.entry x)(R:ev B x=.p k 0)(d:I.CW b=sM (.map q n))(M:(q.toList.map (·.born)).Nodup)(t:e∈q.toList)(K:∀ρ,AO ρ (m e)=e.key)(O:∀ρ,AO ρ (vS e)=e.val):
 HS P o B p [(k,.Aq<|.mapIter (sM b) n (c.push e.born) n)] I (λh=>h= {r:=.t [m e,vS e],J:=I}) nO:=by
 refine⟨?_⟩;intro ρ a w D F v C y E N next Q hnext _;have A:=F (k,.Aq<|.mapIter (sM b) n (c.push e.born) n) sP _ rfl;simp only at A;have s:=D x xO;rw[R]at s;simp only[AO]at s;have hex:(execOp a.eval o).run P w=.ok (.value<|.tuple #[e.key,e.val]) w:=by simp[execOp,z,s,run_entry_at (P:=P) w (ρ k) b n c q n e A (v.CW b _ d) t M,Result.andThen]
 rw[Oper.wp];rw[hex,Oper.upon_value];have f:AO ρ (.t [m e,vS e])=.tuple #[e.key,e.val]:=by simp[AO,BB,K ρ,O ρ]
 have:=hnext rfl {r:=.t [m e,vS e],J:=I} w (λ_=>0) rfl ⟨rfl,rfl,rfl,Ag _,λ_ _ _ _=>rfl,nA,(λj S H=>by simp at H),(λi j G=>by simp at G),v,λb o d=>.inl d,λb o d=>IM d⟩;have g:Ab.Bh {r:=.t [m e,vS e],J:=I} ρ p (λ_=>0)=ρ:=by funext n;exact F7 (by rw[CX];split<;>rfl)
 rw[g,f]at this;exact this
def AZZ{c R f}(k){K e}(r:SB f c.A k=sM (K,e))(h:∀b,f.σ.im.free b->GG c R (f.B4 k b<|f.σ.im.plus b<|.cells K.toArray e (0,0))):GG c R f:=by
 let⟨m,aa,rg,ab⟩:=f;rw[SB]at r;split at r
 case h_2=>cases r
 rename_i b0 Q T g;simp only at Q T g;subst Q;simp[CJ,Jf]at g;have P:k∉c.A:=λhm=>by have:=Wl hm;rw[this]at g;cases g.2
 intro M l a w d;let⟨N,I⟩:=AHt r l;have A:HJ m.hp k:=⟨b0,T,I⟩;have W:=d.hp k b0 _ T N;have E:m.im.free (l k):=d.dj k A;have Y:c.w0.heap.size<=l k:=by
  rcases d.nw k A with q|⟨U,G,q⟩;exact q;exfalso;have S:=EQ.1 g.1 U G;cases X:m.hp U with
  |none=>rw[X]at S;cases S
  |some b1=>
   rw[X]at S;have:=d.inj k U A ⟨b1,X,S⟩ (by rw[q,<-d.ad U G]);rw[this]at P;exact P G
 generalize L:m.im.plus (l k) (.cells K.toArray e (0,0))=J at*;have F:∀j x,(m.B4 k (l k) J).hp j=sM x->(j=k/\x=.gone)\/(j≠k/\∃y,m.hp j=sM y/\x=y.B4 k (l k)):=λj x t=>by
  simp[St.B4]at t;split at t;rename_i e;cases t;exact .inl ⟨Ha e,rfl⟩;rename_i e;have p:j≠k:=λq=>by rw[q]at e;simp at e
  split at t;rename_i y C;cases t;exact .inr ⟨p,y,C,rfl⟩;cases t
 have z:∀j,(m.hp j).isSome->((m.B4 k (l k) J).hp j).isSome:=λj u=>by simp[St.B4];split;rfl;let⟨y,C⟩:=Mz.1 u;rw[C];rfl
 have B:∀j,HJ (m.B4 k (l k) J).hp j->j≠k/\HJ m.hp j:=λj ⟨x,t,H⟩=>by rcases F j x t with⟨_,rfl⟩|⟨p,y,C,rfl⟩;cases H;exact⟨p,y,C,by rw[AK.AKs]at H;exact H⟩
 have hG:=h (l k) E;simp[L]at hG;refine hG ⟨λj u=> ?_,M.2⟩ l a w ?_;show(m.B4 k (l k) J).hp j=nO;have V:m.hp j=nO:=M.1 j u;simp[St.B4];split;rename_i e;rw[Ha e,T]at V;cases V;rw[V];subst L;refine{hp:= ?_,inj:= ?_,kb:= ?_,im:=⟨d.im.1,?_⟩,lm:=d.lm,na:=d.na,fs:=d.fs,GV:= ?_,dj:= ?_,ad:=d.ad,nw:=λj u=>d.nw j (B j u).2,fr:=d.fr,sz:=d.sz,os:=d.os,tape:=d.tape,output:=d.output,size:=d.size,nd:=d.nd,tm:= ?_,kd:= ?_};intro j x o t Z;rcases F j x t with⟨_,rfl⟩|⟨p,y,C,rfl⟩;cases Z;rw[AK.Tk rfl]at Z;exact d.hp j y o C Z;intro i j hi u e;exact d.inj i j (B i hi).2 (B j u).2 e;intro j x j' t O;rcases F j x t with⟨_,rfl⟩|⟨p,y,C,rfl⟩;cases O;exact z j'<|d.kb j y j' C<|AK.UE y j' O;intro n o v;have v:(m.im.plus (l k)<|.cells K.toArray e (0,0)).Ak n=sM o:=v;by_cases D:n=l k;subst D;rw[Ua]at v;cases v;exact W;rw[NN _ _ D]at v;exact d.im.2 n o v;intro n o v;have v:(m.im.plus (l k)<|.cells K.toArray e (0,0)).Ak n=sM o:=v;by_cases D:n=l k;right;rwa[D];rw[NN _ _ D]at v;exact d.GV n o v;intro j u;let⟨p,H⟩:=B j u;refine⟨(d.dj j H).1,?_⟩;show(m.im.plus (l k)<|.cells K.toArray e (0,0)).Ak (l j)=nO;rw[NN _ _ λD=>p<|d.inj j k H A D];exact(d.dj j H).2;intro s;rw[d.tm s];exact(AX.Tk rfl<|m.tm s).symm;intro s j u;exact z j<|d.kd s j<|AX.UE (m.tm s) j u
def AVX{P L}(X:Ed P L){o y key t b c A x U g cs e need I}(G:o.op=.store t A x)(Y:ev y A=.v (.pointer<|aO b c))(f:(ev y x).cs=sM (cs.map .v))(M:L.get t=sM U)(hn:lN cs=U.n)(hl:c+lN cs<=lN g)
 (W:∀v∈cs,v.oneCell') (k:I.B8 b<|.cells g.toArray e (0,0)):HS P o y key need I (λh=>h= {r:=.v undef,AV:=[],J:=I.plus b<|.cells (BX g c cs).toArray e (0,0)}) nO:=by
 let⟨i,d,z,E,hd,hz,ab,ac,hzero⟩:=Dg<|X.get M;refine⟨?_⟩;intro O a w S hh C Z T aa ae next Q hnext _;have R:=C.2 b _ k.Ak;have D:A∈o.op.operands:=xO
 have N:x∈o.op.operands:=xO
 have l:(AO O<|ev y x).cells=cs.toArray:=by have:=SV.Tf f O;rw[Gw]at this;exact this
 have V:(w.setRow b (g.toArray.toList.take (c+0)++cs++g.toArray.toList.drop (c+0+lN cs)).toArray)=w.setRow b (BX g c cs).toArray:=by rw[IB];rfl
 have H:(storeVar t ⟨b,c,nO⟩<|AO O<|ev y x).run P w=.ok () (w.setRow b (BX g c cs).toArray):=by
  rw[<-V];rw[storeVar];rw[l];have K:(sizeOf t).run P w=.ok i.size w:=by simp[sizeOf,typeInfo,E]
  have n: ¬cs.toArray.size≠i.size:=sO
  simp only[Sem.run_bind,K,Result.andThen_ok,n,Hq];exact run_storeCells_at P b c e cs 0 g.toArray w R sO W
 have hex:(execOp a.eval o).run P w=.ok .skip (w.setRow b (BX g c cs).toArray):=by have B:=S A D;rw[Y]at B;simp only[AO]at B;simp[execOp,G,Instr.storeAt,B,S x N,Instr.sureAddr,H]
 rw[Oper.wp];rw[hex,Oper.upon_skip];have n:∀x o,I x=sM o->x≠b:=λx o f e=>by rw[e,k.at_]at f;cases f
 refine hnext rfl _ _ (λ_=>0) rfl ⟨rfl,rfl,rfl,by rw[Bl.setRow];exact Ag _,λb' s _ m=>Ir λe=> ?_,?_,λj b hj=>by simp at hj,λi j E=>by simp at E,⟨λx o f=> ?_,λx o f=> ?_⟩,λb o' s=>.inl s,λx o' f=> ?_⟩;rw[<-e,k.Ak]at m;cases m;intro kb F;cases F;rw[Ir λe=>n x o f e.symm];exact C.1 x o f;by_cases p:x=b;subst p;rw[Ua]at f;cases f;exact Lm R;have f:(I.plus b<|.cells (BX g c cs).toArray e (0,0)).Ak x=sM o:=f;rw[NN _ _ p]at f;rw[Ir λq=>p q.symm];exact C.2 x o f;left;by_cases p:x=b;subst p;rw[k.Ak];rfl;have f:(I.plus b<|.cells (BX g c cs).toArray e (0,0)).Ak x=sM o':=f;rw[NN _ _ p]at f;rw[f];rfl
def AB.never(I:AB)(b:Nat)(o:Obj):AB:=⟨λx=>match Nat.beq x b with|true=>sM o|false=>I x,λx=>match Nat.beq x b with|true=>nO|false=>I.Ak x⟩
def Nw(I:AB)(b o):(I.never b o) b=sM o:=by show(match Nat.beq b b with|true=>sM o|false=>I b)=sM o;simp
def US(I:AB){b x}(o)(h:x≠b):(I.never b o) x=I x:=by show(match Nat.beq x b with|true=>sM o|false=>I x)=I x;simp[OH h]
def ALY(I:AB)(b o):(I.never b o).Ak b=nO:=by simp[AB.never]
def AAB(I:AB){b x}(o)(h:x≠b):(I.never b o).Ak x=I.Ak x:=by simp[AB.never,OH h]
def Bv.ANR(f:Bv)(J:AB):Bv:=⟨{f.σ with im:=J},f.todo,f.rg,f.Bq⟩
def AYh{c R f}(b o)(r:f.rg.isNone)(m:f.σ.im.B8 b o)(v:c.I0.Ak b=nO)(h:GG c R<|f.ANR<|f.σ.im.never b o):GG c R f:=by
 let⟨i,t,B,u⟩:=f;cases B with
 |some _=>cases r
 |none=>
  intro p n a w g;have l:∀j,HJ i.hp j->n j≠b:=λj k e=>by have:=(g.dj j k).2;rw[e]at this;have z:i.im.Ak b=sM o:=m.Ak;rw[z]at this;cases this
  refine h p n a w {hp:=g.hp,inj:=g.inj,kb:=g.kb,im:=⟨λx y d=> ?_,λx y d=> ?_⟩,lm:=λx y d=> ?_,na:=g.na,fs:=λx y d=> ?_,GV:=λx y d=> ?_,dj:=λj k=>⟨?_,?_⟩,ad:=g.ad,nw:=g.nw,fr:=g.fr,sz:=g.sz,os:=g.os,tape:=g.tape,output:=g.output,size:=g.size,nd:=g.nd,tm:=g.tm,kd:=g.kd};have d:(i.im.never b o) x=sM y:=d;by_cases e:x=b;subst e;rw[Nw]at d;cases d;exact g.im.2 x o m.Ak;rw[US _ _ e]at d;exact g.im.1 x y d;have d:(i.im.never b o).Ak x=sM y:=d;by_cases e:x=b;subst e;rw[ALY]at d;cases d;rw[AAB _ _ e]at d;exact g.im.2 x y d;show(i.im.never b o) x=sM y;by_cases e:x=b;subst e;have s:=g.lm x y d;rw[show i.im x=nO from m.at_]at s;cases s;rw[US _ _ e];exact g.lm x y d;have d:(i.im.never b o) x=sM y:=d;by_cases e:x=b;subst e;right;rcases g.GV x o m.Ak with q|q;rw[v]at q;cases q;exact q;rw[US _ _ e]at d;exact g.fs x y d;have d:(i.im.never b o).Ak x=sM y:=d;by_cases e:x=b;subst e;rw[ALY]at d;cases d;rw[AAB _ _ e]at d;exact g.GV x y d;show(i.im.never b o) (n j)=nO;rw[US _ _<|l j k];exact(g.dj j k).1;show(i.im.never b o).Ak (n j)=nO;rw[AAB _ _<|l j k];exact(g.dj j k).2
end Go.AX
namespace Lz
abbrev Nm:=AA Nat
structure AW where
 kind:Nat
 n:Int
 name:Nm
 l:AT
deriving DecidableEq,Inhabited,Repr
def FW:AT:=([],[])
def AZ:AW:=⟨0,0,[],FW⟩
def BH(n:Int):AW:=⟨1,n,[],FW⟩
def D1(l:AT):AW:=⟨2,0,[],l⟩
def BZ(kind:Nat)(name:Nm)(l:AT):AW:=⟨kind,0,name,l⟩
def NV(b:Bool):AW:=if b then BH 1 else BH 0
structure Op where
 code:Nat
 a:Nat
deriving DecidableEq,Inhabited,Repr
structure Ev where
 args:Nat
 Ai:Nat
 code:AA Op
deriving DecidableEq,Inhabited,Repr
structure A6 where
 DN:AA AW
 Ax:AA Ev
deriving DecidableEq,Inhabited,Repr
structure Cw where
 fn:Nat
 pc:Nat
 Cp:Nat
 AR:AH
 Ai:AA AW
deriving DecidableEq,Inhabited,Repr
structure Fj where
 AG:Nat
 Cg:Nat
 at_:Nat
deriving DecidableEq,Inhabited,Repr
structure Ay where
 AG:AA Cw
 stack:AA AW
 AP:AA Fj
deriving DecidableEq,Inhabited,Repr
deriving instance DecidableEq,Inhabited,Repr for St
structure Dc where
 name:Nm
 l:AT
 RE:Nat
 AG:Nat
 Cg:Nat
 AP:Nat
 g:St
 Bg:Nm
 A7:Nat
 Ao:Nat
deriving DecidableEq,Inhabited,Repr
structure AL where
 id:Nm
 Bg:Nm
 g:St
 c:Ay
 AI:AA Dc
 A7:Nat
 Ao:Nat
 Aw:Nat
 on:Nm
 v:AW
 ex:Bool
deriving DecidableEq,Inhabited,Repr
structure Wt where
 id:Nm
 put:Bool
 v:AW
deriving DecidableEq,Inhabited,Repr
structure Vr where
 full:Bool
 v:AW
 q:AA Wt
deriving DecidableEq,Inhabited,Repr
structure Ob where
 kind:Nat
 l:AT
 v:AW
 ex:Bool
 done:Bool
 var:Vr
 fn:Nat
 AR:AH
deriving DecidableEq,Inhabited,Repr
def Aea:Vr:=⟨fF,AZ,[]⟩
def Db:Ob:=⟨0,FW,AZ,fF,fF,Aea,0,0⟩
structure FU where
 AD:Nat
 id:Nm
 l:AT
 v:AW
deriving DecidableEq,Inhabited,Repr
structure Gr where
 op:Nat
 Qa:AT
 to:AT
 AR:AH
deriving DecidableEq,Inhabited,Repr
structure Lk where
 AD:Nat
 id:Nm
 e:Gr
deriving DecidableEq,Inhabited,Repr
structure Ap where
 im:A6
 AD:Nat
 AC:AA AL
 Ah:AA (Nm×Ob)
 Bj:AA FU
 B5:AA Lk
deriving DecidableEq,Inhabited,Repr
def CB(n:Nm):Bool:=decide (0<lN n)&&decide (lN n<=24)&&n.all (λx=>decide<|x<=999)
def child(p:Nm)(n:Nat):AU Nm:=if CB p&&decide (lN p<24)&&decide (n<=999)then sM (p++[n])else nO
def Dz:Nm->Nm->Bool
 |[],[]=>fF
 |[],_::_=>tT
 |_::_,[]=>fF
 |x::a,y::b=>if x<y then tT else if x=y then Dz a b else fF
def Cf(c:Nat):Nat:=if c=1 then 1 else if c=2\/c=3 then 2 else if c=15\/c=16\/c=20 then 3 else if c=17\/c=38\/c=40\/c=45 then 4 else if c=44 then 5 else 0
def BP(c:Nat):Nat:=[0,0,0,1,1,1,2,2,2,2,2,2,2,2,1,0,1,0,1,1,0,0,2,2,2,0,0,1,1,2,1,1,2,1,2,1,1,2,3,1,4,2,1,1,0,1,2,0].getD c 0
def D5(c:Nat):Nat:=[0,1,1,0,0,2,2,1,1,1,1,1,1,1,1,0,0,1,0,0,0,0,1,1,1,1,1,0,0,1,1,1,1,1,0,1,1,0,1,1,1,0,0,0,0,1,1,1].getD c 0
def Lf(c:Nat):Bool:=c==15||c==18||c==19
def UX(c:Nat):Bool:=decide (1<=c)&&decide (c<=47)
def IY(o:Op):Bool:=UX o.code&&(if Cf o.code=0 then o.a==0 else decide<|o.a<=65535)
def asks(c:Nat):Bool:=[25,26,27,28,29,30,32,33,34,35,36,37,38,39,40,41,42,43,45,46].contains c
def Ay.top(c:Ay):AU Cw:=c.AG.getLast?
def Gc(c:Ay)(e d:Nat)(a:AA AW)(b:AH):AU Ay:=
 if 16<=lN c.AG then nO
 else sM {c with AG:=c.AG++[⟨e,0,lN c.stack,b,a++List.replicate (min d 16) (BH 0)⟩]}
def Df(c:Ay)(v:AW):Ay:={c with stack:=c.stack++[v]}
def MN(c:Ay):Nat:=match c.top with|some f=>f.Cp|none=>0
def HQ(c:Ay)(n:Nat):Bool:=decide (MN c<=lN c.stack)&&decide (n<=lN c.stack-MN c)
def FR(c:Ay)(n:Nat):Ay:={c with stack:=c.stack.take<|lN c.stack-n}
def Ct(c:Ay)(n:Nat):AA AW:=c.stack.drop<|lN c.stack-n
def Ei(c:Ay):Ay:=
 let left:=lN c.AG-1
 {AG:=c.AG.take left,stack:=c.stack.take<|MN c,AP:=c.AP.filter λt=>decide<|t.AG<=left}
def KC(l:AA Cw)(k pc:Nat):AA Cw:=l.modify k λf=>{f with pc:=pc}
def NU(c:Ay)(a:Int)(b:Nat):AU Ay:=
 match c.AP.getLast? with
 |none=>nO
 |some t=>if lN c.AP-1<b then nO
  else if t.AG<1\/lN c.AG<t.AG\/lN c.stack<t.Cg then nO
  else sM {AG:=KC (c.AG.take t.AG) (t.AG-1) t.at_,stack:=c.stack.take t.Cg++[BH a],AP:=c.AP.take<|lN c.AP-1}
def Ee(c:Ay)(a b d:Nat):Ay:=⟨c.AG.take a,c.stack.take b,c.AP.take d⟩
inductive Out where
 |Iu
 |ended (v:AW)
 |failed (v:AW)
 |asked (o:Op)
deriving DecidableEq,Inhabited,Repr
def Iq(a:A6)(f:Cw)(o:Op):Bool:=
 match Cf o.code with
 |1=>decide<|o.a<lN a.DN
 |2=>decide<|o.a<lN f.Ai
 |3=>decide<|o.a<lN (a.Ax.getD f.fn Al).code
 |4=>decide<|o.a<lN a.Ax
 |_=>tT
def CU(a:A6)(o:Op):Nat:=if o.code=17 then BP o.code+(a.Ax.getD o.a Al).args else BP o.code
def JM(a:A6)(c:Ay):AU Op:=
 match c.top with
 |none=>nO
 |some f=>match a.Ax[f.fn]? with
  |none=>nO
  |some b=>match b.code[f.pc]? with
   |none=>nO
   |some o=>if IY o&&Iq a f o&&HQ c (CU a o)then sM o else nO
def FF(c:Ay)(a:Int)(b:Nat):Ay×Out:=
 match NU c a b with
 |some u=>(u,.Iu)
 |none=>(c,.failed<|BH a)
def wrap64(n:Int):Int:=(n+9223372036854775808)%18446744073709551616-9223372036854775808
def HN(c:Nat)(a b:Int):AU Int:=
 if c=7 then sM<|wrap64<|a+b
 else if c=8 then sM<|wrap64<|a-b
 else if c=9 then sM<|wrap64<|a*b
 else if c=10 then(if b=0 then nO else sM<|wrap64<|a.tdiv b)
 else if c=11 then(if b=0 then nO else sM<|a.tmod b)
 else if c=12 then sM<|if a=b then 1 else 0
 else if c=13 then sM<|if a<b then 1 else 0
 else nO
def AW.right(v:AW):Bool:=
 if v.kind=1 then v==BH v.n
 else if v.kind=2 then v==D1 v.l&&decide (A4 v.l=v.l)
 else if 3<=v.kind/\v.kind<=7 then v.n==0&&CB v.name&&decide (A4 v.l=v.l)
 else fF
def Qf(v:AW):Bool:=decide (3<=v.kind)&&v.right
def D4(c:Ay)(f:Cw->Cw):Ay:={c with AG:=c.AG.modify (lN c.AG-1) f}
def HU(a:A6)(c:Ay)(o:Op)(l:AA AW)(AP:Nat):Ay ⊕ Int:=
 let x:=l.getD 0 AZ;let y:=l.getD 1 AZ
 match o.code with
 |1=>.inl<|Df c<|a.DN.getD o.a AZ
 |2=>.inl<|Df c<|(c.top.getD Al).Ai.getD o.a AZ
 |3=>.inl<|D4 c λf=>{f with Ai:=f.Ai.set o.a x}
 |4=>.inl c
 |5=>.inl<|Df (Df c x) x
 |6=>.inl<|Df (Df c y) x
 |12=>.inl<|Df c<|NV<|x==y
 |7|8|9|10|11|13=>
  if x.kind=1/\y.kind=1 then match HN o.code x.n y.n with
   |some n=>.inl<|Df c<|BH n
   |none=>.inr (-2)
  else .inr (-1)
 |14=>if x.kind=1 then .inl (Df c<|NV<|x.n==0)else .inr (-1)
 |15=>.inl<|D4 c λf=>{f with pc:=o.a}
 |16=>if x.kind=1 then(if x.n≠0 then .inl (D4 c λf=>{f with pc:=o.a})else .inl c)else .inr (-1)
 |17=>match Gc c o.a (a.Ax.getD o.a Al).Ai l (c.top.getD Al).AR with
  |some u=>.inl u
  |none=>.inr (-6)
 |19=>if x.kind=1 then .inr x.n else .inr (-1)
 |20=>.inl {c with AP:=c.AP++[⟨lN c.AG,lN c.stack,o.a⟩]}
 |21=>.inl<|if AP<lN c.AP then{c with AP:=c.AP.take<|lN c.AP-1}else c
 |22=>if x.kind=2/\y.kind=2 then .inl (Df c<|D1<|jn x.l y.l)else .inr (-1)
 |23=>if x.kind=2/\y.kind=2 then .inl (Df c<|D1<|mt x.l y.l)else .inr (-1)
 |24=>if x.kind=2/\y.kind=2 then .inl (Df c<|NV<|fl x.l y.l)else .inr (-1)
 |31=>if Qf x then .inl (Df c<|D1 x.l)else .inr (-1)
 |44=>.inl<|D4 c λf=>{f with AR:=f.AR&&&UInt8.ofNat (o.a%256)}
 |47=>.inl<|Df c<|BH (c.top.getD Al).AR.toNat
 |_=>.inl c
def Fl(a:A6)(c:Ay)(o:Op):Ay:=D4 (FR c<|CU a o) λf=>{f with pc:=f.pc+1}
def Es(e:A6)(c:Ay)(b a:Nat):Ay×Out:=
 match JM e c with
 |none=>(c,.failed<|BH (-6))
 |some o=>
  if asks o.code then(c,.asked o)
  else if o.code=18 then
   let u:=Ei c;let v:=(Ct c 1).getD 0 AZ
   if lN u.AG<=b then(u,.ended v)else(Df u v,.Iu)
  else match HU e (Fl e c o) o (Ct c<|CU e o) a with
   | .inl u=>(u,.Iu)
   | .inr d=>FF c d a
def Jw(b:Nm)(g:St)(c:Ay)(a:Nat):AL:=⟨b,b,g,c,[],0,a,0,[],AZ,fF⟩
def GI(t:AL):AU (AL×Nm):=
 if t.Ao<1 then nO else match child t.Bg t.A7 with
 |some n=>sM ({t with A7:=t.A7+1,Ao:=t.Ao-1},n)
 |none=>nO
def CV(t:AL):Nat×Nat:=match t.AI.getLast? with|some s=>(s.AG,s.AP)|none=>(0,0)
def Fq(t:AL)(v:AW)(ex:Bool):AL:=
 {t with Aw:=if 0<lN t.AI then 2 else if ex then 4 else 3,v:=v,ex:=ex,on:=[]}
def DX(t:AL)(l:AA AW):AL:={t with Aw:=0,on:=[],c:={t.c with stack:=t.c.stack++l}}
def IU(t:AL)(a:Nat):AU Nat:=t.AI.findIdx? λs=>decide<|s.RE<=a
def IF(t:AL)(k:Nat):AW×Bool:=
 if t.Aw≠2\/k+1≠lN t.AI then(BH (-7),tT)
 else if !fl t.g.Ad (t.AI.getD k Al).l then(BH (-3),tT)
 else(t.v,t.ex)
def GH(t:AL)(k:Nat):AL:=
 let s:=t.AI.getD k Al
 {
  t with
  AI:=t.AI.take k,g:=s.g,Bg:=s.Bg,A7:=s.A7,Ao:=s.Ao,
  c:=Df (Ee t.c s.AG s.Cg s.AP)<|BZ 3 s.name s.l,Aw:=0,on:=[],v:=AZ,ex:=fF}
def GF(t:AL)(k:Nat):Ob:={Db with kind:=3,l:=(t.AI.getD k Al).l,v:=(IF t k).1,ex:=(IF t k).2}
def EF(t:AL)(i:Nat):AT:=match t.AI[i]? with|some s=>s.g.Ad|none=>t.g.Ad
def LZ(t:AL)(m:AT):Nat->Nat->Nat
 |0,i=>i
 |n+1,i=>if fl (EF t i) m then LZ t m n (i+1)else i
def CF(t:AL)(m:AT):Nat:=LZ t m (lN t.AI+1) 0
def C4(t:AL)(m:AT):AU AL:=
 let k:=CF t m
 if k=lN t.AI+1 then sM t
 else if k=0 then nO
 else
  let s:=t.AI.getD (k-1) Al
  sM {t with AI:=t.AI.take k,c:=Ee t.c s.AG s.Cg s.AP,g:=⟨s.l,s.l⟩,Bg:=s.name,A7:=0,Ao:=0,Aw:=2,on:=[],v:=BH 0,ex:=fF}
def Js(t:AL)(f d:Nat)(arg:AW)(b:AH)(l:AT)(a Ao:Int)(e:Nat):AL ⊕ Int:=
 if a<1\/1000<a then .inr (-7)
 else if Ao<0\/999<Ao then .inr (-5)
 else if Dh t.g l≠0 then .inr<|Dh t.g l
 else match GI t with
  |none=>.inr (-5)
  |some (u,A7)=>
   if(t.Ao:Int)<=Ao then .inr (-5)
   else match Gc t.c f d [arg] b with
    |none=>.inr (-6)
    |some c=>
     let s:Dc:=⟨A7,A4 l,e+a.toNat,lN t.c.AG,lN t.c.stack,lN t.c.AP,t.g,t.Bg,u.A7,u.Ao-Ao.toNat⟩
     .inl {u with AI:=t.AI++[s],c:=c,g:=⟨u.g.Ad,s.l⟩,Bg:=A7,A7:=0,Ao:=Ao.toNat}
def GN(x:Vr)(a:Nm):Vr×AU AW×Nm:=
 if !x.full then(⟨x.full,x.v,x.q++[⟨a,fF,AZ⟩]⟩,nO,[])
 else match x.q.findIdx? (·.put)with
  |none=>(⟨fF,AZ,x.q⟩,sM x.v,[])
  |some i=>(⟨tT,(x.q.getD i Al).v,x.q.eraseIdx i⟩,sM x.v,(x.q.getD i Al).id)
def Gg(x:Vr)(a:Nm)(v:AW):Vr×Bool×Nm:=
 if x.full then(⟨x.full,x.v,x.q++[⟨a,tT,v⟩]⟩,fF,[])
 else match x.q.findIdx? (λw=> !w.put)with
  |none=>(⟨tT,v,x.q⟩,tT,[])
  |some i=>(⟨x.full,x.v,x.q.eraseIdx i⟩,tT,(x.q.getD i Al).id)
def KV(x:Vr)(a:Nm):AU Vr:=
 match x.q.findIdx? (λw=>w.id==a)with
 |none=>nO
 |some i=>sM ⟨x.full,x.v,x.q.eraseIdx i⟩
abbrev Az:=AA<|Nm×Ob
def Am(s:Az)(n:Nm):AU Ob:=(s.find? (·.1==n)).map (·.2)
def Ew(s:Az)(n:Nm)(o:Ob):Bool:=CB n&&decide (3<=o.kind/\o.kind<=7)&&decide (A4 o.l=o.l)&&(Am s n).isNone
def Cy(s:Az)(n:Nm)(o:Ob):Az:=if Ew s n o then s++[(n,o)]else s
def Cn(s:Az)(n:Nm)(o:Ob):Az:=
 match Am s n with
 |none=>s
 |some w=>if w.kind≠o.kind\/w.l≠o.l then s else s.map λx=>if x.1==n then(n,o)else x
def GU(s:Az)(m:AT):Az:=s.filter λx=>fl x.2.l m
structure Eff where
 BU:AA AL
 out:AA (AT×AW)
 Bo:AA Gr
 BY:AA (Nm×AA AW)
 done:Bool
deriving DecidableEq,Inhabited,Repr
def A8:Eff:=⟨[],[],[],[],fF⟩
structure Call where
 s:Az
 t:AL
 e:Eff
deriving DecidableEq,Inhabited,Repr
def Call.push(k:Call)(v:AW):Call:={k with t:={k.t with c:=Df k.t.c v}}
def Call.Bp(k:Call)(g:St):Call:={k with t:={k.t with g:=g}}
abbrev CR:=Call×AU Int
def G1(k:Call)(l:AT)(f:Call->CR):CR:=if(Et k.t.g l).2≠0 then(k,sM (Et k.t.g l).2)else f<|k.Bp (Et k.t.g l).1
def Ga(k:Call)(l:AT)(f:Call->CR):CR:=if Dh k.t.g l≠0 then(k,sM<|Dh k.t.g l)else f<|k.Bp ⟨A4 l,k.t.g.A5⟩
def OE(k:Call)(n:Nm)(o:Ob):Call:=Call.push {k with s:=Cy k.s n o}<|BZ o.kind n o.l
def Fv(k:Call)(o:Ob):CR:=
 if Dh k.t.g o.l≠0 then(k,sM<|Dh k.t.g o.l)
 else match GI k.t with
  |none=>(k,sM (-5))
  |some (t,n)=>(OE {k with t:=t} n o,nO)
def EY(k:Call)(h:AW):AU Ob:=
 match Am k.s h.name with
 |some o=>if o.kind=h.kind/\o.l=h.l then sM o else nO
 |none=>nO
def Ff(k:Call)(h:AW)(f:Call->Ob->CR):CR:=
 G1 k h.l λk=>match EY k h with
  |none=>(k.push<|BH 0,nO)
  |some o=>f k o
def Ej(k:Call)(o:Ob):CR:=if o.ex then(k,sM o.v.n)else(k.push o.v,nO)
def FG(k:Call)(on:Nm):Call:={k with t:={k.t with Aw:=1,on:=on}}
def EO(k:Call)(a:Nm)(l:AA AW):Call:=if a=[]then k else{k with e:={k.e with BY:=k.e.BY++[(a,l)]}}
def varsOf(b:A6)(a:Nat):Nat:=match b.Ax[a]? with|some f=>f.Ai|none=>0
def CO(b:A6)(d:Nat)(o:Op)(AR:AH)(l:AA AW)(k:Call):CR:=
 let x:=l.getD 0 AZ;let y:=l.getD 1 AZ;let z:=l.getD 2 AZ
 match o.code with
 |25=>(k.push<|D1 k.t.g.Ad,nO)
 |26=>(k.push<|D1 k.t.g.A5,nO)
 |27=>if x.kind≠2 then(k,sM (-1))else G1 k x.l λk=>(k,nO)
 |28=>if x.kind≠2 then(k,sM (-1))else
  if(KW k.t.g x.l).2≠0 then(k,sM (KW k.t.g x.l).2)else(k.Bp (KW k.t.g x.l).1,nO)
 |29=>if y.kind≠2 then(k,sM (-1))else Fv k {Db with kind:=3,l:=y.l,v:=x}
 |30=>if x.kind≠3 then(k,sM (-1))else Ff k x Ej
 |32=>if y.kind≠2 then(k,sM (-1))else Fv k {Db with kind:=4,l:=y.l,v:=x}
 |33=>if x.kind≠4 then(k,sM (-1))else Ff k x λk o=>(k.push o.v,nO)
 |34=>if x.kind≠4 then(k,sM (-1))else
  if Dh k.t.g x.l≠0 then(k,sM<|Dh k.t.g x.l)else
  match EY k x with
  |some a=>({k with s:=Cn k.s x.name {a with v:=y}},nO)
  |none=>(k,nO)
 |35=>if x.kind≠2 then(k,sM (-1))else Fv k {Db with kind:=5,l:=x.l}
 |36=>if x.kind≠5 then(k,sM (-1))else Ga k x.l λk=>match EY k x with
  |none=>(FG k x.name,nO)
  |some a=>
   let r:=GN a.var k.t.id;let k:={k with s:=Cn k.s x.name {a with var:=r.1}}
   match r.2.1 with
   |none=>(FG k x.name,nO)
   |some v=>(EO (k.push v) r.2.2 [],nO)
 |37=>if x.kind≠5 then(k,sM (-1))else Ga k x.l λk=>match EY k x with
  |none=>(FG k x.name,nO)
  |some a=>
   let r:=Gg a.var k.t.id y;let k:={k with s:=Cn k.s x.name {a with var:=r.1}}
   if !r.2.1 then(FG k x.name,nO)else(EO k r.2.2 [y],nO)
 |38=>if y.kind≠1\/z.kind≠2 then(k,sM (-1))else
  if Dh k.t.g z.l≠0 then(k,sM<|Dh k.t.g z.l)else
  if y.n<0\/999<y.n\/(k.t.Ao:Int)<=y.n then(k,sM (-5))else
  match GI k.t with
  |none=>(k,sM (-5))
  |some (t,A7)=>
   let c:=(Gc ⟨[],[],[]⟩ o.a (varsOf b o.a) [x] AR).getD ⟨[],[],[]⟩;let u:=Jw A7 ⟨t.g.Ad,A4 z.l⟩ c y.n.toNat
   (OE {k with t:={t with Ao:=t.Ao-y.n.toNat},e:={k.e with BU:=k.e.BU++[u]}} A7 {Db with kind:=6,l:=z.l},nO)
 |39=>if x.kind≠6 then(k,sM (-1))else Ff k x λk a=>if a.done then Ej k a else(FG k x.name,nO)
 |40=>if y.kind≠1\/z.kind≠1\/(l.getD 3 AZ).kind≠2 then(k,sM (-1))else
  match Js k.t o.a (varsOf b o.a) x AR (l.getD 3 AZ).l z.n y.n d with
  | .inl t=>({k with t:=t},nO)
  | .inr f=>(k,sM f)
 |41=>if y.kind≠2 then(k,sM (-1))else
  if Dh k.t.g y.l≠0 then(k,sM<|Dh k.t.g y.l)else({k with e:={k.e with out:=k.e.out++[(y.l,x)]}},nO)
 |42=>if x.kind≠2 then(k,sM (-1))else
  let r:=Ih k.t.g x.l AR
  if r.2.1≠0 then(k,sM r.2.1)else
  ({k.Bp r.1 with e:=if r.2.2 then{k.e with Bo:=k.e.Bo++[⟨42,k.t.g.Ad,x.l,AR⟩]}else k.e},nO)
 |43=>if x.kind≠2 then(k,sM (-1))else
  let r:=Il k.t.g x.l AR
  if r.2.1≠0 then(k,sM r.2.1)else
  ({k.Bp r.1 with e:=if r.2.2 then{k.e with Bo:=k.e.Bo++[⟨43,k.t.g.A5,x.l,AR⟩]}else k.e},nO)
 |45=>if x.kind≠2 then(k,sM (-1))else Fv k {Db with kind:=7,l:=x.l,fn:=o.a,AR:=AR}
 |46=>if y.kind≠7 then(k,sM (-1))else Ff k y λk a=>match Gc k.t.c a.fn (varsOf b a.fn) [x] a.AR with
  |some c=>({k with t:={k.t with c:=c}},nO)
  |none=>(k,sM (-6))
 |_=>(k,nO)
def E7(k:Call)(v:AW)(ex:Bool):Call:=
 let t:=Fq k.t v ex
 if t.Aw≠3/\t.Aw≠4 then{k with t:=t}
 else{
  s:=match Am k.s t.id with
   |some o=>if o.kind=6 then Cn k.s t.id {o with v:=v,ex:=ex,done:=tT}else k.s
   |none=>k.s,
  t:=t,e:={k.e with done:=tT}}
def EH(k:Call)(c:Ay)(b:Int)(a:Nat):Call:=
 match FF c b a with
 |(u,.failed v)=>E7 {k with t:={k.t with c:=u}} v tT
 |(u,_)=>{k with t:={k.t with c:=u}}
def Gt(e:A6)(d:Nat)(a:Nat)(o:Op)(k:Call):Call:=
 let was:=k.t.c;let b:=(was.top.getD Al).AR;let n:=BP o.code;let g:Call:={k with t:={k.t with c:=D4 (FR was n) λf=>{f with pc:=f.pc+1}}}
 match CO e d o b (Ct was n) g with
 |(k2,nO)=>k2
 |(k2,sM code)=>EH k2 was code a
def C6(b:A6)(t:AL)(s:Az)(a:Nat):Call:=
 if t.Aw≠0 then⟨s,t,A8⟩
 else
  let f:=CV t;let r:=Es b t.c f.1 f.2;let k:Call:=⟨s,{t with c:=r.1},A8⟩
  match r.2 with
  | .Iu=>k
  | .ended v=>E7 k v fF
  | .failed v=>E7 k v tT
  | .asked o=>Gt b a f.2 o ⟨s,t,A8⟩
def Dv(t:AL)(s:Az)(v:AW)(a:Bool):Call:=
 if !a then⟨s,DX t [v],A8⟩
 else EH ⟨s,DX t [],A8⟩ (DX t []).c v.n (CV t).2
def Af(l:AA AL)(a:Nm):AU AL:=l.find? (·.id==a)
def A1(l:AA AL)(t:AL):AA AL:=l.map λx=>if x.id==t.id then t else x
def LY(l:AA AL)(t:AL):AA AL:=l.takeWhile (λx=>Dz x.id t.id)++t::l.dropWhile (λx=>Dz x.id t.id)
def CC(l:AA AL)(t:AL):AA AL:=if(Af l t.id).isSome then A1 l t else LY l t
def Gy(s:Az)(on a:Nm):Az:=
 match Am s on with
 |some o=>if o.kind=5 then(match KV o.var a with|some x=>Cn s on {o with var:=x}|none=>s)else s
 |none=>s
def I4(k:Ap)(t:AL)(i:Nat):Ap:=
 let s:=if t.Aw=1 then Gy k.Ah t.on t.id else k.Ah
 {k with Ah:=Cy s (t.AI.getD i Al).name<|GF t i,AC:=A1 k.AC<|GH t i}
def Fp(k:Ap)(a:Nm):Ap:=
 match Af k.AC a with
 |some t=>match IU t k.AD with
  |some i=>I4 k t i
  |none=>k
 |none=>k
def Fo(k:Ap):Ap:=(k.AC.map (·.id)).foldl Fp {k with AD:=k.AD+1}
def RI(k:Ap)(w:Nm×AA AW):Ap:=
 match Af k.AC w.1 with
 |some t=>{k with AC:=A1 k.AC<|DX t w.2}
 |none=>k
def GD:Nat->Ap->Nm->Ap
 |0,k,_=>k
 |n+1,k,id=>(k.AC.map (·.id)).foldl (λk other=>
  match Af k.AC other with
  |none=>k
  |some t=>
   if t.Aw≠1\/t.on≠id then k
   else match Am k.Ah id with
    |none=>k
    |some o=>if o.kind≠6\/ !o.done then k
     else
      let r:=Dv t k.Ah o.v o.ex;let k:={k with Ah:=r.s,AC:=A1 k.AC r.t}
      if r.e.done then GD n k other else k) k
def runK(k:Ap)(a:Nm):Ap×Bool:=
 match Af k.AC a with
 |none=>(k,fF)
 |some t=>
  if t.Aw≠0 then(k,fF)
  else
   let r:=C6 k.im t k.Ah k.AD;let k:={k with Ah:=r.s,AC:=A1 k.AC r.t};let k:={k with AC:=r.e.BU.foldl CC k.AC};let k:={k with Bj:=k.Bj++r.e.out.map λx:AT×AW=>(⟨k.AD,a,x.1,x.2⟩:FU)};let k:={k with B5:=k.B5++r.e.Bo.map λx:Gr=>(⟨k.AD,a,x⟩:Lk)};let k:=r.e.BY.foldl RI k
   (if r.e.done then GD (lN k.AC+1) k a else k,tT)
def F6(k:Ap)(a:Nm):Ap×Bool:=runK (Fo k) a
def D9(k:Ap)(m:AT):AA FU:=k.Bj.filter λf=>fl f.l m
def Hh(k:Ap)(m:AT):Ap:=
 {k with AC:=k.AC.filterMap (C4 · m),Ah:=GU k.Ah m,Bj:=D9 k m,B5:=[]}
def JZ(a b:Az):Bool:=decide (lN a=lN b)&&a.all λx=>match Am b x.1 with|some o=>o==x.2|none=>fF
def LA(a b:Ap):Bool:=a.AD==b.AD&&a.AC==b.AC&&JZ a.Ah b.Ah&&a.Bj==b.Bj&&a.B5==b.B5
structure Gs where
 l:AT
 v:Int
deriving DecidableEq,Inhabited,Repr
structure FO where
 fn:Nat
 l:AT
 c:AT
 AR:AH
 Ao:Nat
 box:Int
 n:Int
deriving DecidableEq,Inhabited,Repr
structure Dj where
 im:A6
 BJ:AA Gs
 BM:AA FO
deriving DecidableEq,Inhabited,Repr
def D7(c:Dj)(b:FO)(a:Nm):AL:=
 let arg:=if 0<=b.box then BZ 3 [b.box.toNat] (c.BJ.getD b.box.toNat Al).l else BH b.n
 Jw a ⟨b.l,b.c⟩ ((Gc ⟨[],[],[]⟩ b.fn (c.im.Ax.getD b.fn Al).Ai [arg] b.AR).getD ⟨[],[],[]⟩) b.Ao
def EG(c:Dj):Ap:=
 {
  im:=c.im,AD:=0,
  AC:=(List.range<|lN c.BM).foldl (λl i=>CC l<|D7 c (c.BM.getD i Al) [lN c.BJ+i]) [],
  Ah:=(List.range<|lN c.BJ).foldl (λs i=>Cy s [i] {Db with kind:=3,l:=(c.BJ.getD i Al).l,v:=BH (c.BJ.getD i Al).v}) [],
  Bj:=[],B5:=[]}
def JR:AA AT:=[([],[]),([1],[]),([2],[]),([1,2],[]),([3],[]),([],[1]),([1],[1]),([0],[])]
def EW(i:Nat):AT:=JR.getD i FW
structure Mk where
 l:AA AH
 at_:Nat
 code:AA Op
deriving DecidableEq,Inhabited,Repr
def Mk.next(m:Mk):Nat×Mk:=((m.l[m.at_]?).elim 0 UInt8.toNat,{m with at_:=m.at_+1})
def Mk.BD(m:Mk)(c a:Nat):Mk:={m with code:=m.code++[⟨c,a⟩]}
def Mk.number(m:Mk):Mk:=let r:=m.next;r.2.BD 1<|r.1%8
def Mk.mark(m:Mk):Mk:=let r:=m.next;r.2.BD 1<|8+r.1%8
def Mk.Dq(m:Mk)(k:Nat):Mk:=m.BD 2 k
def Mk.AC2(m:Mk)(any k l a:Nat):Mk:=
 if k=0 then
  let m:=m.number.Dq any;let r:=m.next
  (r.2.BD (7+r.1%7) 0).BD 3 1
 else if k=1 then
  let r:=m.next;let m:=(r.2.BD (25+r.1%2) 0).mark;let r:=m.next
  (r.2.BD (22+r.1%2) 0).BD 3 7
 else if k=2 then m.mark.BD 27 0
 else if k=3 then m.mark.BD 28 0
 else if k<6 then(((m.Dq any).mark).BD 29 0).BD 3 2
 else if k<9 then
  let r:=m.next
  ((r.2.Dq<|[0,2,2,any].getD l 0).BD 30 0).BD 3 1
 else if k=9 then(((m.Dq any).mark).BD 32 0).BD 3 3
 else if k=10 then((m.Dq 3).BD 33 0).BD 3 1
 else if k=11 then((m.Dq 3).Dq any).BD 34 0
 else if k=12 then(m.mark.BD 35 0).BD 3 4
 else if k=13 then((m.Dq 4).BD 36 0).BD 3 1
 else if k<16 then((m.Dq 4).Dq any).BD 37 0
 else if k<18/\0<a then
  let r:=m.next;let m:=r.2.Dq<|[4,2,3,any].getD l 0;let r:=m.next;let m:=(r.2.BD 1<|r.1%4).mark
  (m.BD 38 a).BD 3 5
 else if k=18 then((m.Dq 5).BD 39 0).BD 3 1
 else if k<22/\0<a then
  let r:=m.next;let m:=r.2.Dq<|[2,0,3,4].getD l 0;let r:=m.next;let m:=r.2.BD 1<|r.1%4;let r:=m.next;let m:=(r.2.BD 1<|4+r.1%4).mark
  (m.BD 40 a).BD 3 2
 else if k<25 then((m.Dq any).mark).BD 41 0
 else if k=25 then
  let m:=m.mark;let r:=m.next
  r.2.BD (42+r.1%2) 0
 else if k=26/\0<a then(m.mark.BD 45 a).BD 3 6
 else if k=27 then(((m.Dq any).Dq 6).BD 46 0).BD 3 1
 else if k=28/\0<a then((m.Dq any).BD 17 a).BD 3 1
 else if k=29 then m.number.BD 19 0
 else if k=30 then let r:=m.next;r.2.BD 44<|r.1%4
 else(m.BD 47 0).BD 3 1
def Mk.FZ(m:Mk)(c:Nat):Mk:=
 let a:=m.next;let b:=a.2.next
 b.2.AC2 (a.1%8) (b.1%32) (b.2.next.1%4) c
def Mk.KZ(m:Mk)(i a:Nat):Mk:={m with code:=m.code.modify i λo=>{o with a:=a}}
def Mk.part(m:Mk)(a:Nat):Mk:=
 let r:=m.next;let k:=r.1%8;let m:=r.2;let b:=lN m.code
 if k<3 then
  let m:=(m.BD 20 0).FZ a
  if(m.code.getLast?.getD Al).code=19 then(m.KZ b<|lN m.code).BD 3 1
  else
   let m:=m.BD 21 0;let m:=m.BD 15<|lN m.code+2
   (m.KZ b<|lN m.code).BD 3 1
 else if k=3 then
  let m:=((m.Dq 1).BD 16 0).FZ a
  m.KZ (b+1)<|lN m.code
 else m.FZ a
def Mk.Er(a:Nat):Nat->Nat->Mk->Mk
 |0,_,m=>m
 |n+1,k,m=>if k<1+m.at_/\k<2+lN m.l/6/\k<12 then Mk.Er a n (k+1) (m.part a)else m
def H4(l:AA<|AA AH)(i:Nat):Ev:=
 let m:=Mk.Er ((i+1)%3) 12 0 ⟨l.getD i [],0,[]⟩;let r:=m.next
 ⟨1,7,((r.2.BD 2<|r.1%8).BD 18 0).code⟩
def Mb:AA AW:=([0,1,2,3,4,5,9,14]:AA Int).map BH++JR.map D1
def Io(l:AA<|AA AH):A6:=⟨Mb,[H4 l 0,H4 l 1,H4 l 2]⟩
structure LP where
 Ax:AA (AA AH)
 BJ:AA AH
 BM:AA AH
deriving DecidableEq,Inhabited,Repr
def CN(l:AA AH)(i:Nat):Nat:=(l[i]?).elim 0 UInt8.toNat
def Jo(c:LP)(none_:Bool):Dj where
 im:=Io c.Ax
 BJ:=(List.range 2).map λi=>⟨EW<|CN c.BJ (2*i)%8,(CN c.BJ (2*i+1)%4:Nat)⟩
 BM:=(List.range 3).map λi=>
  let b:=λj=>CN c.BM<|6*i+j;let l:=EW<|[0,0,1,2,4,5,1,3].getD (b 0%8) 0
  {fn:=b 1%3,l:=l,c:=jn l<|EW<|[7,7,3,1].getD (b 2%4) 0,AR:=if none_ then 0 else UInt8.ofNat<|b 2/4%4,Ao:=b 3%12,box:=(b 4%3:Nat)-1,n:=(b 5%4:Nat)}
def Kt:AA Nm:=[[2],[3],[4],[2,0],[2,1],[3,0],[2,0,0],[9]]
def H0(l:AA AH)(a:Nat):AA Nm:=(l.take a).map λb=>Kt.getD (b.toNat%8) []
def Fe(k:Ap)(l:AA Nm):Ap:=l.foldl (λk a=>(F6 k a).1) k
def sameAt(a b:Ap)(m:AT):Bool:=LA (Hh a m)<|Hh b m
def EC:A6 where
 DN:=[D1 FW,D1 ([1],[]),BH 2,BH 9,BH 1]
 Ax:=[⟨1,1,[⟨2,0⟩,⟨1,2⟩,⟨1,3⟩,⟨1,1⟩,⟨40,1⟩,⟨4,0⟩,⟨1,3⟩,⟨3,1⟩,⟨2,1⟩,⟨16,12⟩,⟨1,4⟩,⟨18,0⟩,⟨1,3⟩,⟨1,0⟩,⟨41,0⟩,⟨2,1⟩,⟨1,4⟩,⟨8,0⟩,⟨3,1⟩,⟨15,8⟩]⟩,
  ⟨1,1,[⟨2,0⟩,⟨30,0⟩,⟨3,1⟩,⟨2,1⟩,⟨16,7⟩,⟨2,1⟩,⟨18,0⟩,⟨2,1⟩,⟨1,4⟩,⟨8,0⟩,⟨3,1⟩,⟨15,3⟩]⟩]
def EU(v:Int):Dj:=⟨EC,[⟨([1],[]),v⟩],[⟨0,FW,high,0,5,0,0⟩,⟨0,([1],[]),high,0,5,0,0⟩]⟩
def AHP:Bool:=
 let p:=List.replicate 120 [1];let k:=Fe (EG<|EU 0) p;let j:=Fe (EG<|EU 100) p;let f:=D9 k FW;let g:=D9 j FW;decide (lN f=9)&&(match Af k.AC [1]with|some t=>t.Aw==3&&t.v.n==1|none=>fF)&&f==g&&(match Am j.Ah [1,0]with|some o=>o.ex&&o.v==BH (-7)|none=>fF)&& !sameAt k j high
def Dp(c:Ay)(s:Dc):Ay:=Ee c s.AG s.Cg s.AP
structure On(c:Ay)(s:Dc):Prop where
 fr:s.AG<lN c.AG
 bs:∀f∈c.AG.drop s.AG,s.Cg<=f.Cp
 ht:s.Cg<=lN c.stack
 tl:s.AP<=lN c.AP
 tr:∀t∈c.AP.drop s.AP,s.AG<t.AG/\s.Cg<=t.Cg
 tp:∀t∈c.AP.take s.AP,t.AG<=s.AG
structure GQ(s:Dc)(c d:Ay):Prop where
 on:On d s
 eq:Dp d s=Dp c s
def GQ.refl{s c}(h:On c s):GQ s c c:=⟨h,rfl⟩
def GQ.trans{s a b c}(h:GQ s a b)(k:GQ s b c):GQ s a c:=⟨k.on,k.eq.trans h.eq⟩
def No{s c}(h:On c s)(v):GQ s c (Df c v):=
 ⟨⟨h.fr,h.bs,by simp[Df,CK];have:=h.ht;omega,h.tl,h.tr,h.tp⟩,by
   simp[Dp,Ee,Df,Ji h.ht]⟩
def AOD{s c}(h:On c s):s.Cg<=MN c:=by
 rw[MN,Ay.top];have a:=h.fr;cases e:c.AG.getLast? with
 |none=>rw[S8]at e;rw[e]at a;simp at a
 |some f=>
  refine h.bs f ?_;rw[P8]at e;let⟨d,b⟩:=Ci.1 e;rw[P9];exact⟨lN c.AG-1-s.AG,by simp;omega,by rw[<-b,List.getElem_drop];congr 1;omega⟩
def UB{s c}(h:On c s){n}(b:HQ c n):GQ s c (FR c n):=by simp[HQ,CJ,ER]at b;have d:=AOD h;have a:s.Cg<=lN c.stack-n:=oG;refine⟨⟨h.fr,h.bs,by simp[FR,Cu];omega,h.tl,h.tr,h.tp⟩,?_⟩;simp[Dp,Ee,FR,IA,Gn a]
def mem_modify{b:Type}{l:AA b}{k f x}(h:x∈l.modify k f):x∈l\/∃y∈l,x=f y:=by
 rw[S9]at h;let⟨i,a⟩:=h;rw[RP]at a;cases e:l[i]? with
 |none=>rw[e]at a;simp at a
 |some y=>
  rw[e]at a;have d:y∈l:=S9.2 ⟨i,e⟩;by_cases c:k=i;simp[c,ME,ABr,LN,QB]at a;exact .inr ⟨y,d,a.symm⟩;simp[c,Hq,ABr,LN,QB]at a;exact .inl<|a▸d
def AIv{a:Type}{l:AA a}{k n f}(h:n<=k):(l.modify k f).drop n=(l.drop n).modify (k-n) f:=by apply VJ;intro i;simp[Jg,RP];by_cases e:k=n+i;simp[Ac e,Ac<|show k-n=i by omega];simp[AY e,AY<|show¬k-n=i by omega]
def take_modify{a:Type}{l:AA a}{k n f}(h:n<=k):(l.modify k f).take n=l.take n:=by apply VJ;intro i;rw[GO,GO];split;rename_i b;rw[RP];simp only[AY<|show¬k=i by omega];cases l[i]? <;>rfl;rfl
def Wa{s c}(h:On c s){f}(b:∀x,(f x).Cp=x.Cp):GQ s c (D4 c f):=by have d:=h.fr;refine⟨⟨by simpa[D4]using d,?_,h.ht,h.tl,h.tr,h.tp⟩,?_⟩;intro x a;simp[D4]at a;rw[AIv oG]at a;rcases mem_modify a with a|⟨y,e,rfl⟩;exact h.bs x a;rw[b];exact h.bs y e;simp[Dp,Ee,D4,take_modify (l:=c.AG) (k:=lN c.AG-1) (n:=s.AG) (f:=f) oG]
def AEA{s c u}(h:On c s){i d a b}(e:Gc c i d a b=sM u):GQ s c u:=by rw[Gc]at e;split at e;cases e;cases e;have g:=h.fr;refine⟨⟨by simp;omega,?_,h.ht,h.tl,h.tr,h.tp⟩,?_⟩;intro x f;simp[VI<|Ly g,Bc,A9]at f;rcases f with f|rfl;exact h.bs x f;exact h.ht;simp[Dp,Ee,Ji<|Ly g]
def AWV{s c}(h:On c s)(a):GQ s c {c with AP:=c.AP++[⟨lN c.AG,lN c.stack,a⟩]}:=by refine⟨⟨h.fr,h.bs,h.ht,by simp;have:=h.tl;omega,?_,by rw[Ji h.tl];exact h.tp⟩,?_⟩;intro x b;simp[VI h.tl,Bc,A9]at b;rcases b with b|rfl;exact h.tr x b;exact⟨h.fr,h.ht⟩;simp[Dp,Ee,Ji h.tl]
def Ry{c:Type}{l:AA c}{a b x}(h:x∈(l.take b).drop a):x∈l.drop a:=by rw[AGQ]at h;exact Fg h
def AWP{s c}(h:On c s){n}(d:s.AP<=n)(b:n<lN c.AP):GQ s c {c with AP:=c.AP.take<|lN c.AP-1}:=by refine⟨⟨h.fr,h.bs,h.ht,by simp[Cu];omega,λx a=>h.tr x<|Ry a,by rw[IA,Gn<|show s.AP<=lN c.AP-1 by omega];exact h.tp⟩,?_⟩;simp[Dp,Ee,IA,Gn<|show s.AP<=lN c.AP-1 by omega]
def AWU{s c u}(h:On c s){f:Int}{b:Nat}(o:s.AP<=b)(a:NU c f b=sM u):GQ s c u:=by
 rw[NU]at a;cases e:c.AP.getLast? with
 |none=>rw[e]at a;cases a
 |some t=>
  rw[e]at a;simp only at a;split at a;cases a;rename_i l;split at a;cases a;rename_i m;cases a;have j:0<lN c.AP:=by
   cases g:c.AP with
   |nil=>rw[g]at e;cases e
   |cons _ _=>simp
  have i:t∈c.AP.drop s.AP:=by rw[P8]at e;let⟨n,g⟩:=Ci.1 e;rw[P9];exact⟨lN c.AP-1-s.AP,by simp;omega,by rw[<-g,List.getElem_drop];congr 1;omega⟩
  let⟨q1,q2⟩:=h.tr t i;have q3:t.AG<=lN c.AG:=oG;have q4:t.Cg<=lN c.stack:=oG;refine⟨⟨?_,?_,?_,?_,?_,?_⟩,?_⟩;simp only[KC,N8,Cu];omega;intro x d;simp only[KC]at d;rw[AIv oG]at d;rcases mem_modify d with d|⟨y,k,rfl⟩;exact h.bs x<|Ry d;exact h.bs y<|Ry k;simp only[CK,Cu];omega;simp only[Cu];omega;exact λx d=>h.tr x<|Ry d;rw[IA,Gn oG];exact h.tp;simp only[Dp,Ee,KC];congr 1;rw[take_modify oG,IA,Gn oG];rw[Ji<|by simp only[Cu];omega,IA,Gn q2];rw[IA,Gn oG]
structure At(c:Ay)(s:Dc):Prop where
 fr:s.AG<=lN c.AG
 bs:∀f∈c.AG.drop s.AG,s.Cg<=f.Cp
 ht:s.Cg<=lN c.stack
 tl:s.AP<=lN c.AP
 tr:∀t∈c.AP.drop s.AP,s.AG<t.AG/\s.Cg<=t.Cg
 tp:∀t∈c.AP.take s.AP,t.AG<=s.AG
def On.at_{c s}(h:On c s):At c s:=⟨Ly h.fr,h.bs,h.ht,h.tl,h.tr,h.tp⟩
def At.on{c s}(h:At c s)(k:s.AG<lN c.AG):On c s:=⟨k,h.bs,h.ht,h.tl,h.tr,h.tp⟩
def AWS{s c}(h:On c s)(j:MN c<=lN c.stack):Dp (Ei c) s=Dp c s/\At (Ei c) s:=by
 have k:=h.fr;have f:=AOD h;have a:c.AP=c.AP.take s.AP++c.AP.drop s.AP:=(TB _ _).symm;have d:(Ei c).AP=c.AP.take s.AP++(c.AP.drop s.AP).filter (λt=>decide<|t.AG<=lN c.AG-1):=by
  simp only[Ei]
  conv=>lhs;rw[a]
  rw[VK];congr 1;rw[RO];intro t g;have:=h.tp t g;exact G5 oG
 have i:lN (c.AP.take s.AP)=s.AP:=by rw[Cu];exact Gn h.tl
 have e:(Ei c).AP.take s.AP=c.AP.take s.AP:=by rw[d,Ji oG,IA,Xw]
 refine⟨?_,⟨?_,?_,?_,?_,?_,?_⟩⟩;simp only[Dp,Ee,e];congr 1;simp only[Ei,IA,Gn<|show s.AG<=lN c.AG-1 by omega];simp only[Ei,IA,Gn f];simp only[Ei,Cu];omega;exact λx b=>h.bs x<|Ry b;simp only[Ei,Cu];omega;rw[d,CK];omega;intro x b;rw[d,VI oG,RN oG,F2]at b;exact h.tr x (Ho.1 b).1;rw[e];exact h.tp
def Afg(s c):Dp (Dp c s) s=Dp c s:=by simp[Dp,Ee,IA,Xw]
def AZ4{c n}(h:HQ c n):MN c<=lN c.stack:=by simp[HQ,CJ,ER]at h;exact h.1
def AWO{s b c o}(h:On c s)(a:HQ c<|CU b o):GQ s c (Fl b c o):=
 (UB h a).trans<|Wa (UB h a).on λ_=>rfl
def AWR{s f c u o l b}(h:On c s)(d:s.AP<=b)(a:HU f c o l b=.inl u):GQ s c u:=by
 unfold HU at a;dsimp only at a;split at a
 all_goals first
  |(cases a;exact No h _)
  |(cases a;exact Wa h λ_=>rfl)
  |(cases a;exact GQ.refl h)
  |(cases a;exact(No h _).trans<|No (No h _).on _)
  |(cases a;exact AWV h _)
  |(
   cases a;split;exact AWP h d aS;exact GQ.refl h)
  |(
   split at a;split at a;cases a;exact No h _;cases a;cases a)
  |(
   split at a;cases a;exact No h _;cases a)
  |(
   split at a;split at a;cases a;exact Wa h λ_=>rfl;cases a;exact GQ.refl h;cases a)
  |(
   split at a;rename_i e;cases a;exact AEA h e;cases a)
  |(split at a<;>cases a)
def ADY{b c o}(h:JM b c=sM o):HQ c (CU b o):=by rw[JM]at h;split at h;cases h;split at h;cases h;split at h;cases h;split at h;rename_i a;cases h;simp[CJ]at a;exact a.2;cases h
def AKA{s c}{code:Int}{a:Nat}(h:On c s)(b:s.AP<=a):GQ s c (FF c code a).1:=by rw[FF];split;rename_i d;exact AWU h b d;exact GQ.refl h
def Out.goes:Out->Bool
 | .Iu=>tT
 | .asked _=>tT
 |_=>fF
def AWT{s im c AG AP}(h:On c s)(n:s.AG<=AG)(d:s.AP<=AP):
 Dp (Es im c AG AP).1 s=Dp c s/\At (Es im c AG AP).1 s/\((Es im c AG AP).2.goes->On (Es im c AG AP).1 s):=by
 rw[Es];split;exact⟨rfl,h.at_,λ_=>h⟩;rename_i o j;have b:=ADY j;split;exact⟨rfl,h.at_,λ_=>h⟩;split;let⟨e,f⟩:=AWS h<|AZ4 b;dsimp only;split;exact⟨e,f,λh=>by cases h⟩;rename_i i;have a:=No (f.on oG)<|(Ct c 1).getD 0 AZ;exact⟨a.eq.trans e,a.on.at_,λ_=>a.on⟩;have g:=AWO h b;split;rename_i u l;have k:=g.trans<|AWR g.on d l;exact⟨k.eq,k.on.at_,λ_=>k.on⟩;have k:=AKA (code:=by assumption) h d;exact⟨k.eq,k.on.at_,λ_=>k.on⟩
variable{m:AT}
def Cx(t:AL)(m:AT)(i:Nat):Bool:=fl (EF t i) m
def Zd(t m):∀n i,i<=LZ t m n i/\LZ t m n i<=i+n/\(∀j,i<=j->j<LZ t m n i->Cx t m j)/\(LZ t m n i<i+n->Cx t m (LZ t m n i)=fF)
 |0,i=>⟨Ag _,Ag _,λj b a=>by simp only[LZ]at a;omega,λh=>by simp only[LZ]at h;omega⟩
 |n+1,i=>by rw[LZ];split;rename_i h;let⟨b,a,d,f⟩:=Zd t m n<|i+1;refine⟨oG,oG,λj g c=> ?_,λc=>f oG⟩;by_cases e:j=i;rwa[e];exact d j oG c;rename_i h;exact⟨Ag _,oG,λj b a=>oG,λ_=>by simpa[Cx]using h⟩
def AKQ(t m):CF t m<=lN t.AI+1:=by have:=(Zd t m (lN t.AI+1) 0).2.1;rw[CF];omega
def Ze(t m){j}(h:j<CF t m):Cx t m j:=(Zd t m (lN t.AI+1) 0).2.2.1 j (Bm _) h
theorem Qq(t m)(h:CF t m<=lN t.AI):Cx t m (CF t m)=fF:=(Zd t m (lN t.AI+1) 0).2.2.2 (by rw[CF]at h;omega)
def AED{t m k}(d:k<=lN t.AI+1)(b:∀j,j<k->Cx t m j)(c:k<=lN t.AI->Cx t m k=fF):CF t m=k:=by rcases Nat.lt_trichotomy (CF t m) k with h|h|h;have a:=Qq t m oG;rw[b _ h]at a;cases a;exact h;have a:=Ze t m h;have:=AKQ t m;rw[c oG]at a;cases a
structure VX(t:AL)(m:AT):Prop where
 out:∀i j,i<=j->j<=lN t.AI->Cx t m j->Cx t m i
theorem Ik(t):EF t (lN t.AI)=t.g.Ad:=by rw[EF];rw[Jh<|Ag _]
theorem ZN{t}(h:VX t m)(a:fl t.g.Ad m):C4 t m=sM t:=by have e:CF t m=lN t.AI+1:=AED (Ag _) (λj b=>h.out j (lN t.AI) oG (Ag _)<|by rw[Cx];rwa[Ik]) λh=>oG;rw[C4];simp[e,ME]
def AVE{t}(b:fl t.g.Ad m=fF):CF t m<=lN t.AI:=by have h:=AKQ t m;rcases Jj (lN t.AI) (CF t m)with a|a;have:=Ze t m a;rw[Cx]at this;rw[Ik,b]at this;cases this;exact a
def WO{t u n}(hid:u.id=t.id)(x:n<=lN t.AI)(y:n<=lN u.AI)(p:u.AI.take n=t.AI.take n)(k:Cx t m n=fF)(r:Cx u m n=fF)(v:∀s∈t.AI.take n,Dp u.c s=Dp t.c s):
 C4 u m=C4 t m:=by
 have b:∀j,j<n->Cx u m j=Cx t m j:=λj c=>by
  have e:u.AI[j]? =t.AI[j]? :=by have:=Dt (λl=>l[j]?) p;simpa[GO,c]using this
  unfold Cx EF;rw[e];cases h:t.AI[j]? with
  |none=>rw[AO3]at h;omega
  |some s=>rfl
 have d:CF t m<=n:=by rcases Jj n (CF t m)with h|h;rw[Ze t m h]at k;cases k;exact h
 have f:CF u m=CF t m:=AED oG (λj c=>by rw[b j oG];exact Ze t m c) (λ_=>by by_cases e:CF t m=n;rw[e];exact r;rw[b _ oG];exact Qq t m oG)
 unfold C4;rw[f];simp only[show¬CF t m=lN t.AI+1 by omega,show¬CF t m=lN u.AI+1 by omega,Hq];by_cases g:CF t m=0;simp only[g,ME];simp only[g,Hq];have i:u.AI.take (CF t m)=t.AI.take (CF t m):=by have:=Dt (λl=>l.take<|CF t m) p;simpa[IA,Gn d]using this
 have q:u.AI.getD (CF t m-1) Al=t.AI.getD (CF t m-1) Al:=by have:=Dt (λl=>l[CF t m-1]?) i;simp only[GO,Ac<|show CF t m-1<CF t m by omega]at this;simp only[DK,this]
 have w:t.AI.getD (CF t m-1) Al∈t.AI.take n:=by have o:CF t m-1<lN t.AI:=oG;rw[DK,BS o];exact S9.2 ⟨CF t m-1,by rw[GO,Ac oG,BS o];rfl⟩
 have a:=v _ w;unfold Dp at a;rw[i,q,a,hid]
def Qg{t u}(h:C4 t m=sM u):u.id=t.id:=by rw[C4]at h;simp only at h;split at h;cases h;rfl;split at h;cases h;cases h;rfl
def WQ{t u}(h:C4 t m=sM u)(a:fl t.g.Ad m=fF):0<CF t m/\CF t m<=lN t.AI/\u.AI=t.AI.take (CF t m)/\u.Aw=2/\u.g=⟨(t.AI.getD (CF t m-1) Al).l,(t.AI.getD (CF t m-1) Al).l⟩/\u.c=Dp t.c (t.AI.getD (CF t m-1) Al)/\u.Bg=(t.AI.getD (CF t m-1) Al).name:=by have b:=AVE (t:=t) a;rw[C4]at h;simp only[show¬CF t m=lN t.AI+1 by omega,Hq]at h;split at h;cases h;cases h;exact⟨oG,b,rfl,rfl,rfl,rfl,rfl⟩
def AUm(s r q):Am (s++r) q=(Am s q).or (Am r q):=by unfold Am;rw[List.find?_append];cases s.find? (·.1==q)<;>rfl
def AUo(n o q):Am [(n,o)] q=if q=n then sM o else nO:=by
 rw[Am];by_cases h:q=n;subst h;simp;have:(n==q)=fF:=by rw[Nf];exact λe=>h e.symm
 simp[this,h]
theorem I3{s n o}(h:Ew s n o)(q):Am (Cy s n o) q=if q=n then sM o else Am s q:=by rw[Cy];rw[Ac h,AUm,AUo];simp[Ew,CJ,Nc]at h;by_cases e:q=n;subst e;rw[h.2];simp;rw[AY e,AY e];cases Am s q<;>rfl
theorem OF{s n o}(h:Ew s n o=fF):Cy s n o=s:=by rw[Cy];rw[h];rfl
def AUn(s n o q):Am (s.map λx=>if x.1==n then(n,o)else x) q=if q=n then(Am s q).map (λ_=>o)else Am s q:=by
 unfold Am;rw[AGU];have e:((λx:Nm×Ob=>x.1==q)∘ λx=>if x.1==n then(n,o)else x)=λx=>x.1==q:=by funext x;simp only[Function.comp];by_cases a:x.1==n;rw[Ac a,GP.1 a];rw[AY a]
 rw[e];cases b:s.find? (·.1==q)with
 |none=>simp
 |some x=>
  have:=ABb b;simp only[GP]at this;simp only[LN];by_cases h:q=n;rw[Ac h,Ac<|by rw[this,h];simp];rw[AY h,AY<|by rw[this];simpa using h]
theorem PV(s n o q):Am (Cn s n o) q=match Am s n with
 |some w=>if w.kind=o.kind/\w.l=o.l then(if q=n then sM o else Am s q)else Am s q
 |none=>Am s q:=by
 rw[Cn];cases h:Am s n with
 |none=>rfl
 |some w=>
  simp only;by_cases a:w.kind=o.kind/\w.l=o.l;rw[AY<|by rintro(e|e);exact e a.1;exact e a.2,Ac a,AUn];by_cases e:q=n;subst e;rw[Ac rfl,Ac rfl,h];rfl;rw[AY e,AY e];rw[Ac (by rcases Classical.not_and_iff_not_or_not.1 a with e|e;exact .inl e;exact .inr e),AY a]
def ADj{s n w o}(h:Am s n=sM w)(a:w.kind=o.kind)(b:w.l=o.l)(q):Am (Cn s n o) q=if q=n then sM o else Am s q:=by rw[PV,h];simp[a,b]
def Je(m:AT)(s:Az)(n:Nm):AU Ob:=(Am s n).filter λo=>fl o.l m
def U5{s n o}:Je m s n=sM o↔Am s n=sM o/\fl o.l m:=by rw[Je];rw[Option.filter_eq_some_iff]
def AOc{s n o}(h:Am s n=sM o)(a:fl o.l m):Je m s n=sM o:=U5.2 ⟨h,a⟩
def Af6{s n}(h:Am s n=nO):Je m s n=nO:=by rw[Je];rw[h];rfl
def ABF{s n o}(a:fl o.l m=fF)(q):Je m (Cy s n o) q=Je m s q:=by
 cases h:Ew s n o with
 |false=>rw[OF h]
 |true=>
  unfold Je;rw[I3 h];split;rename_i e;subst e;simp[Ew,CJ,Nc]at h;rw[h.2];simp[Option.filter,a];rfl
def Xe{s n o}(b:fl o.l m=fF)(q):Je m (Cn s n o) q=Je m s q:=by unfold Je;rw[PV];split;rename_i w c;split;rename_i a;split;rename_i e;subst e;rw[c];simp[Option.filter,b,a.2];rfl;rfl;rfl
def Ca(m:AT)(s r:Az):Prop:=∀n,Je m s n=Je m r n
def Ca.refl(s):Ca m s s:=λ_=>rfl
def Ca.symm{s r}(h:Ca m s r):Ca m r s:=λn=>(h n).symm
def Ca.trans{a b c}(h:Ca m a b)(k:Ca m b c):Ca m a c:=λn=>(h n).trans<|k n
def Ca.some_{s r}(h:Ca m s r){n o}(b:Am s n=sM o)(a:fl o.l m):Am r n=sM o:=(U5.1<|(h n).symm.trans<|AOc b a).1
def Ca.add{s r}(h:Ca m s r){n o}(a:Ew s n o)(b:Ew r n o):Ca m (Cy s n o) (Cy r n o):=by intro q;unfold Je;rw[I3 a,I3 b];split;rfl;exact h q
def Ca.AHH{s r}(h:Ca m s r){n o b}(c:fl o.l m=fF)(a:fl b.l m=fF):Ca m (Cy s n o) (Cy r n b):=λq=>by rw[ABF c,ABF a,h q]
def Ca.set{s r}(h:Ca m s r){n w o}(a:Am s n=sM w)(c:fl w.l m)(d:w.l=o.l):Ca m (Cn s n o) (Cn r n o):=by intro q;unfold Je;rw[PV,PV,a,h.some_ a c];simp only;split;split;rfl;exact h q;exact h q
def Ca.AAy{s r}(h:Ca m s r){k k'}(j:k.s=s)(i:k'.s=r){v}(l:fl v.l m):EY k v=EY k' v:=by
 subst j;subst i;rw[EY];have d:∀ {a b:Az},Ca m a b->∀o,(match Am a v.name with|some o=>if o.kind=v.kind/\o.l=v.l then sM o else nO|none=>nO)=sM o->(match Am b v.name with|some o=>if o.kind=v.kind/\o.l=v.l then sM o else nO|none=>nO)=sM o:=by intro a b e o c;split at c;rename_i n f;split at c;rename_i g;cases c;rw[e.some_ f<|by rwa[g.2]];simp[g];cases c;cases c
 apply Option.ext;intro o;exact⟨d h o,d h.symm o⟩
theorem E2{l id t}(h:Af l id=sM t):t.id=id:=by have:=ABb h;simpa using this
def D2{l a t}(h:Af l a=sM t):t∈l:=AO7 h
theorem N4(l t id):Af (A1 l t) id=if id=t.id then(Af l id).map (λ_=>t)else Af l id:=by
 unfold Af A1;rw[AGU];have e:((λx:AL=>x.id==id)∘ λx=>if x.id==t.id then t else x)=λx=>x.id==id:=by funext x;simp only[Function.comp];by_cases a:x.id==t.id;rw[Ac a,GP.1 a];rw[AY a]
 rw[e];cases b:l.find? (·.id==id)with
 |none=>simp
 |some x=>
  have:=ABb b;simp only[GP]at this;simp only[LN];by_cases h:id=t.id;rw[Ac h,Ac<|by rw[this,h];simp];rw[AY h,AY<|by rw[this];simpa using h]
theorem ZR(l t):(A1 l t).map (·.id)=l.map (·.id):=by rw[A1];rw[Gk];apply JD;intro x _;simp only[Function.comp];split;rename_i h;exact(GP.1 h).symm;rfl
def AN4(l r a):Af (l++r) a=(Af l a).or (Af r a):=List.find?_append
def XX{l a}:(Af l a).isSome↔a∈l.map (·.id):=by rw[Af];rw[List.find?_isSome,BI];simp
theorem AN5{l t}(h:Af l t.id=nO)(id):Af (LY l t) id=if id=t.id then sM t else Af l id:=by
 have d:l=l.takeWhile (λx=>Dz x.id t.id)++l.dropWhile (λx=>Dz x.id t.id):=(ABo).symm;unfold LY;rw[AN4];have a:Af l id=(Af (l.takeWhile λx=>Dz x.id t.id) id).or (Af (l.dropWhile λx=>Dz x.id t.id) id):=by
  conv=>lhs;rw[d]
  exact AN4 _ _ _
 have b:Af (t::l.dropWhile (λx=>Dz x.id t.id)) id=if id=t.id then sM t else Af (l.dropWhile λx=>Dz x.id t.id) id:=by
  unfold Af;rw[KH];by_cases e:id=t.id;subst e;simp;rw[AY e];have:(t.id==id)=fF:=by rw[Nf];exact λq=>e q.symm
  simp[this]
 rw[b];by_cases e:id=t.id;rw[Ac e,Ac e];rw[e]at a⊢;rw[h]at a;cases c:Af (l.takeWhile λx=>Dz x.id t.id) t.id with
 |none=>rfl
 |some x=>rw[c]at a;cases a
 rw[AY e,AY e,<-a]
theorem Mp(l t id):Af (CC l t) id=if id=t.id then sM t else Af l id:=by
 rw[CC];cases h:Af l t.id with
 |none=>simp[X0,N7,Hq];exact AN5 h id
 |some x=>
  simp[VS,ME];rw[N4];by_cases e:id=t.id;subst e;rw[Ac rfl,Ac rfl,h];rfl;rw[AY e,AY e]
theorem Ma:∀a:Nm,Dz a a=fF
 |[]=>rfl
 |x::a=>by simp[Dz,Ma a]
theorem UO:∀ {a b c:Nm},Dz a b->Dz b c->Dz a c
 |[],[],_,h,_=>by cases h
 |[],_::_,[],_,k=>by cases k
 |[],_::_,_::_,_,_=>rfl
 |_::_,[],_,h,_=>by cases h
 |_::_,_::_,[],_,k=>by cases k
 |x::a,y::b,z::c,h,k=>by simp only[Dz]at*;by_cases g:x<y;by_cases d:y<z;rw[Ac oG];rw[AY d]at k;by_cases e:y=z;rw[Ac oG];rw[AY e]at k;cases k;rw[AY g]at h;by_cases d:x=y;rw[Ac d]at h;by_cases e:y<z;rw[Ac oG];rw[AY e]at k;by_cases f:y=z;rw[Ac f]at k;rw[AY oG,Ac oG];exact UO h k;rw[AY f]at k;cases k;rw[AY d]at h;cases h
def AEV:∀ {a b:Nm},a≠b->Dz a b=fF->Dz b a
 |[],[],h,_=>absurd rfl h
 |[],_::_,_,k=>by cases k
 |_::_,[],_,_=>rfl
 |x::a,y::b,h,k=>by simp only[Dz]at*;by_cases d:x<y;rw[Ac d]at k;cases k;rw[AY d]at k;by_cases c:x=y;rw[Ac c]at k;rw[AY oG,Ac c.symm];exact AEV (λe=>h<|by rw[c,e]) k;rw[Ac oG]
abbrev Fi(l:AA AL):Prop:=l.Pairwise λa b=>Dz a.id b.id
def sorted_put{l}(h:Fi l)(t):Fi (A1 l t):=by
 rw[Fi,A1];rw[Xs];refine h.imp λ{a b} hab=> ?_;have e:∀x:AL,(if x.id==t.id then t else x).id=x.id:=λx=>by split;rename_i h;exact(GP.1 h).symm;rfl
 rwa[e,e]
def AEe{a:Type}{p}:∀ {l:AA a} {x:a},x∈l.takeWhile p->p x/\x∈l
 |y::l,x,h=>by rw[RR]at h;split at h;rcases Co.1 h with rfl|h;exact⟨by assumption,DT⟩;exact⟨(AEe h).1,DY _ (AEe h).2⟩;cases h
def Abw{l:AA AL}{t:AL}(h:Fi l)(d:Af l t.id=nO):∀x∈l.dropWhile (λx=>Dz x.id t.id),Dz t.id x.id:=by
 induction l with
 |nil=>intro x a;cases a
 |cons y l i=>
  rw[List.dropWhile_cons];have g:y.id≠t.id:=by intro e;have:(Af (y::l) t.id).isSome:=XX.2 (by simp[e]);rw[d]at this;cases this
  split;refine i (G4.1 h).2 ?_;cases f:Af l t.id with
  |none=>rfl
  |some z=>
   have:(Af (y::l) t.id).isSome:=XX.2 (by have:=XX.1 (show(Af l t.id).isSome=tT by rw[f];rfl);exact DY _ this)
   rw[d]at this;cases this
  rename_i b;have c:Dz t.id y.id:=AEV g (by simpa using b);intro x a;rcases Co.1 a with rfl|a;exact c;exact UO c<|(G4.1 h).1 x a
def AFU{l t}(h:Fi l)(g:Af l t.id=nO):Fi (LY l t):=by
 rw[LY,Fi];have f:l=l.takeWhile (λx=>Dz x.id t.id)++l.dropWhile (λx=>Dz x.id t.id):=(ABo).symm;have c:(l.takeWhile (λx=>Dz x.id t.id)++l.dropWhile (λx=>Dz x.id t.id)).Pairwise λa b=>Dz a.id b.id:=by rwa[<-f]
 rw[ABm]at c⊢;refine⟨c.1,G4.2 ⟨Abw h g,c.2.1⟩,λa e b d=> ?_⟩;rcases Co.1 d with rfl|d;exact(AEe e).1;exact c.2.2 a e b d
def ANd{l}(h:Fi l)(t):Fi (CC l t):=by
 rw[CC];cases a:Af l t.id with
 |none=>simp[X0,N7,Hq];exact AFU h a
 |some x=>simp[VS,ME];exact sorted_put h t
theorem NT{l}(h:Fi l){t}(b:t∈l):Af l t.id=sM t:=by
 induction l with
 |nil=>cases b
 |cons y l c=>
  rw[Af];rw[KH];rcases Co.1 b with e|e;subst e;simp;have:=(G4.1 h).1 t e;have a:(y.id==t.id)=fF:=by rw[Nf];intro q;rw[q,Ma]at this;cases this
  simp[a];exact c (G4.1 h).2 e
def Abx:∀ {l r:AA AL},Fi l->Fi r->(∀j,Af l j=Af r j)->l=r:=by
 intro l r f g h;have a:∀x,x∈l↔x∈r:=λx=>
  ⟨λb=>D2<|(h x.id).symm.trans<|NT f b,λb=>D2<|(h x.id).trans<|NT g b⟩
 clear h;induction l generalizing r with
 |nil=>
  cases r with
  |nil=>rfl
  |cons y r=>exact absurd ((a y).2 DT) sP
 |cons x l k=>
  cases r with
  |nil=>exact absurd ((a x).1 DT) sP
  |cons y r=>
   have b:=(G4.1 f).1;have i:=(G4.1 g).1;have e:x=y:=by rcases Co.1 ((a x).1 DT)with e|e;exact e;rcases Co.1 ((a y).2 DT)with d|d;exact d.symm;have:=UO (i x e)<|b y d;rw[Ma]at this;cases this
   subst e;congr 1;refine k (G4.1 f).2 (G4.1 g).2 λz=>⟨λc=> ?_,λc=> ?_⟩;rcases Co.1 ((a z).1<|DY _ c)with e|e;subst e;have:=b z c;rw[Ma]at this;cases this;exact e;rcases Co.1 ((a z).2<|DY _ c)with e|e;subst e;have:=i z c;rw[Ma]at this;cases this;exact e
def Ak(t:AL):AA Nm:=t.id::t.AI.map (·.name)
def Fu(t:AL):AA (Nm×Nat):=t.AI.map (λs=>(s.Bg,s.A7))++(if t.Aw=2 then[]else[(t.Bg,t.A7)])
def Hv(t:AL)(i:Nat):AT:=match t.AI[i]? with|some s=>s.g.A5|none=>t.g.A5
def OD(s r:Az):Prop:=∀n o,Am s n=sM o->∃a,Am r n=sM a/\a.kind=o.kind/\a.l=o.l
def OD.add(s n o):OD s (Cy s n o):=λq w a=>by
 cases h:Ew s n o with
 |false=>rw[OF h];exact⟨w,a,rfl,rfl⟩
 |true=>
  rw[I3 h];by_cases e:q=n;subst e;simp[Ew,CJ,Nc]at h;rw[h.2]at a;cases a;rw[AY e];exact⟨w,a,rfl,rfl⟩
def OD.set(s n o):OD s (Cn s n o):=λq w a=>by rw[PV];split;rename_i d b;split;rename_i c;by_cases e:q=n;subst e;rw[b]at a;cases a;exact⟨o,by rw[Ac rfl],c.1.symm,c.2.symm⟩;rw[AY e];exact⟨w,a,rfl,rfl⟩;exact⟨w,a,rfl,rfl⟩;exact⟨w,a,rfl,rfl⟩
def Nm9(n:Nm):Prop:=∀x∈n,x<=999
def AAE:Nm9 []:=λ_ h=>by cases h
def Pm{n}(h:CB n):Nm9 n:=by rw[CB]at h;simp[CJ,EQ,ER]at h;exact h.2
structure DC(m:AT)(s:Az)(v:AW):Prop where
 Cj:A4 v.l=v.l
 kind:v.kind<=7/\Nm9 v.name
 BZ:3<=v.kind->fl v.l m->∃o,Am s v.name=sM o/\o.kind=v.kind/\o.l=v.l
def DC.up{m s r v}(h:DC m s v)(k:OD s r):DC m r v:=⟨h.Cj,h.kind,λa b=>by let⟨o,c,d,e⟩:=h.BZ a b;let⟨j,f,g,i⟩:=k _ o c;exact⟨j,f,g.trans d,i.trans e⟩⟩
def AAF:A4 FW=FW:=AAd.2 ⟨AMs,AMs⟩
def H7{m s}(n:Int):DC m s (BH n):=⟨AAF,⟨by simp[BH],AAE⟩,λh=>by simp[BH]at h⟩
def Ia{m s}:DC m s AZ:=⟨AAF,⟨by simp[AZ],AAE⟩,λh=>by simp[AZ]at h⟩
def Xf{m s l}(h:A4 l=l):DC m s (D1 l):=⟨h,⟨by simp[D1],AAE⟩,λh=>by simp[D1]at h⟩
def AF3{m s}(b:Bool):DC m s (NV b):=by cases b<;>exact H7 _
structure FP(P:AW->Prop)(M:AH->Prop)(c:Ay):Prop where
 fr:∀f∈c.AG,M f.AR/\∀v∈f.Ai,P v
 st:∀v∈c.stack,P v
 tr:∀x∈c.AP,x.AG<=lN c.AG
 tm:c.AP.Pairwise λa b=>a.AG<=b.AG
def FP.up{P Q M c}(h:FP P M c)(k:∀v,P v->Q v):FP Q M c:=
 ⟨λf b=>⟨(h.fr f b).1,λv a=>k v<|(h.fr f b).2 v a⟩,λv a=>k v<|h.st v a,h.tr,h.tm⟩
structure TI(m:AT)(P:AW->Prop)(M:AH->Prop)(t:AL):Prop where
 NO:t.AI.map (·.Bg)++[t.Bg]=t.id::t.AI.map (·.name)
 HM:∀n∈Ak t,CB n
 nest:t.AI.Pairwise λa b=>a.AG<b.AG/\a.Cg<=b.Cg/\a.AP<=b.AP
 Ux:t.Aw<=4
 idle:t.Aw=2->0<lN t.AI
 over:3<=t.Aw->t.AI=[]
 at_:∀s∈t.AI,At t.c s
 JW:t.Aw<2->∀s∈t.AI,On t.c s
 mono:VX t m
 cap:∀i,i<=lN t.AI->fl (EF t i) (Hv t i)
 A5:∀i s,t.AI[i]? =sM s->fl s.l m->fl (Hv t (i+1)) m
 Cj:(A4 t.g.Ad=t.g.Ad/\A4 t.g.A5=t.g.A5)/\∀s∈t.AI,A4 s.l=s.l/\A4 s.g.Ad=s.g.Ad/\A4 s.g.A5=s.g.A5
 FL:FP P M t.c
 val:P t.v
def TI.up{m P Q M t}(h:TI m P M t)(k:∀v,P v->Q v):TI m Q M t:={h with FL:=h.FL.up k,val:=k _ h.val}
structure OI(P:AW->Prop)(M:AH->Prop)(o:Ob):Prop where
 Cj:A4 o.l=o.l
 kind:3<=o.kind/\o.kind<=7
 val:P o.v
 Lr:P o.var.v
 Dn:∀w∈o.var.q,P w.v
 Zz:o.kind=7->M o.AR
def OI.up{P Q M o}(h:OI P M o)(k:∀v,P v->Q v):OI Q M o:={h with val:=k _ h.val,Lr:=k _ h.Lr,Dn:=λw a=>k _<|h.Dn w a}
def MK(AC:AA AL)(s:Az)(q:Nm):Prop:=(∃o,Am s q=sM o)\/∃t∈AC,q∈Ak t
structure KI(m:AT)(M:AH->Prop)(AC:AA AL)(s:Az):Prop where
 E0:Fi AC
 G3:∀t∈AC,TI m (DC m s) M t
 Ep:∀n o,Am s n=sM o->OI (DC m s) M o
 Jy:(AC.flatMap Ak).Nodup
 FQ:∀t∈AC,∀pm∈Fu t,∀j,pm.2<=j->∀q,MK AC s q->¬(pm.1++[j])<+:q
 Ja:∀t∈AC,∀x∈t.AI,Am s x.name=nO
 Km:∀t∈AC,∀o,Am s t.id=sM o->o.kind=6->fl o.l m->fl (Hv t 0) m
 Dn:∀n o,Am s n=sM o->(o.var.q.map (·.id)).Nodup/\∀w∈o.var.q,∃t,Af AC w.id=sM t/\t.Aw=1/\t.on=n/\t.g.Ad=o.l
 H8:∀t∈AC,t.Aw=1->fl t.g.Ad m->∃o,Am s t.on=sM o/\fl o.l m
 B0:(s.map (·.1)).Nodup
variable{M:UInt8->Prop}{AC:List AL}{s:Az}
def KI.of(h:KI m M AC s){b t}(a:Af AC b=sM t):TI m (DC m s) M t:=h.G3 t<|D2 a
structure YI(m:AT)(M:AH->Prop)(AC:AA AL)(s:Az)(t u:AL):Prop where
 id:u.id=t.id
 EI:u.AI=t.AI
 Bg:u.Bg=t.Bg
 A7:t.A7<=u.A7
 idle:t.Aw=2->u.Aw=2
 ti:TI m (DC m s) M u
 A5:fl t.g.A5 m->fl u.g.A5 m
 Dn:(∀n o,Am s n=sM o->∀w∈o.var.q,w.id≠t.id)\/(u.Aw=t.Aw/\u.on=t.on/\u.g.Ad=t.g.Ad)
 H8:u.Aw=1->fl u.g.Ad m->∃o,Am s u.on=sM o/\fl o.l m
def I6{l u x}(h:x∈A1 l u):x=u\/(x∈l/\x.id≠u.id):=by rw[A1]at h;let⟨y,b,e⟩:=BI.1 h;split at e;exact .inl e.symm;rename_i a;subst e;exact .inr ⟨b,λq=>a<|by simp[q]⟩
def AUH{a d:Type}{l:AA a}{f g:a->AA d}(h:∀x∈l,f x=g x):l.flatMap f=l.flatMap g:=by
 induction l with
 |nil=>rfl
 |cons x l c=>rw[Kb,Kb,h x DT,c λy b=>h y<|DY _ b]
def AaH{l:AA AL}{t u:AL}(b:Fi l)(c:Af l t.id=sM t)(hid:u.id=t.id)(a:Ak u=Ak t):(A1 l u).flatMap Ak=l.flatMap Ak:=by
 rw[A1];rw[List.flatMap_map];apply AUH;intro x d;split
 .rename_i h;have:=NT b d;rw[GP.1 h,hid,c]at this;cases this;exact a
 .rfl
def AOV{l s t u}(d:Af l t.id=sM t)(c:∀q∈Ak u,q∈Ak t){q}(h:MK (A1 l u) s q):MK l s q:=by rcases h with h|⟨x,a,b⟩;exact .inl h;rcases I6 a with rfl|⟨a,_⟩;exact .inr ⟨t,D2 d,c q b⟩;exact .inr ⟨x,a,b⟩
def KI.HW(h:KI m M AC s){t u}(r:Af AC t.id=sM t)(k:YI m M AC s t u):KI m M (A1 AC u) s:=by
 have G:Ak u=Ak t:=by unfold Ak;rw[k.id,k.EI]
 have c:=D2 r;refine{E0:=sorted_put h.E0 u,G3:=λx a=> ?_,Ep:=h.Ep,Jy:=by rw[AaH h.E0 r k.id G];exact h.Jy,FQ:=λx a I b j v q p=> ?_,Ja:=λx a y d=> ?_,Km:=λx a o f E F=> ?_,Dn:=λn o z=>⟨(h.Dn n o z).1,λw H=> ?_⟩,H8:=λx a=> ?_,B0:=h.B0};rcases I6 a with rfl|⟨a,_⟩;exact k.ti;exact h.G3 x a;have g:=AOV (u:=u) r (λq p=>by rw[G]at p;exact p) p;rcases I6 a with rfl|⟨a,_⟩;unfold Fu at b;rw[k.EI,k.Bg]at b;rcases Bc.1 b with l|l;exact h.FQ t c I (GC _ l) j v q g;split at l;cases l;rename_i A;have e:=A9.1 l;subst e;refine h.FQ t c (t.Bg,t.A7) (HZ _ ?_) j (Ch k.A7 v) q g;rw[AY λe=>A<|k.idle e];simp;exact h.FQ x a I b j v q g;rcases I6 a with rfl|⟨a,_⟩;rw[k.EI]at d;exact h.Ja t c y d;exact h.Ja x a y d;rcases I6 a with rfl|⟨a,_⟩;rw[k.id]at f;have:=h.Km t c o f E F;unfold Hv at this⊢;rw[k.EI];split;rename_i J i;rw[i]at this;exact this;rename_i i;rw[i]at this;exact k.A5 this;exact h.Km x a o f E F;let⟨y,d,B,C,D⟩:=(h.Dn n o z).2 w H;rw[N4];by_cases e:w.id=u.id;rw[Ac e,d];rw[e,k.id]at d;rw[r]at d;cases d;rcases k.Dn with q|⟨q1,q2,q3⟩;exact absurd (e.trans k.id)<|q n o z w H;exact⟨u,rfl,q1.trans B,q2.trans C,q3.trans D⟩;rw[AY e];exact⟨y,d,B,C,D⟩;rcases I6 a with rfl|⟨a,_⟩;exact k.H8;exact h.H8 x a
def Cr(m:AT)(l:AA AL)(a:Nm):AU AL:=(Af l a).bind (C4 · m)
theorem U4{l t u}(b:Af l t.id=sM t)(hid:u.id=t.id)(a:C4 u m=C4 t m)(id):Cr m (A1 l u) id=Cr m l id:=by unfold Cr;rw[N4];by_cases e:id=u.id;rw[Ac e,e,hid,b];exact a;rw[AY e]
def AYa{s n o}(h:(s.map (·.1)).Nodup):((Cy s n o).map (·.1)).Nodup:=by
 cases e:Ew s n o with
 |false=>rwa[OF e]
 |true=>
  rw[Cy];rw[Ac e,E3,Gl];refine⟨h,sP,λa f b d=> ?_⟩;simp[E4,Mw,A9]at d;subst d;rintro rfl;simp[Ew,CJ,Nc]at e;obtain⟨x,g,rfl⟩:=BI.1 f;have c:=e.2;rw[Am]at c;rw[AGe,ABa]at c;exact c x g sP
def AYc{s n o}(h:(s.map (·.1)).Nodup):((Cn s n o).map (·.1)).Nodup:=by
 have e:(Cn s n o).map (·.1)=s.map (·.1):=by rw[Cn];split;rfl;split;rfl;rw[Gk];apply JD;intro x _;simp only[Function.comp];split;rename_i a;exact(GP.1 a).symm;rfl
 rwa[e]
def YN{s n o P}(c:CB n)(a:OI P M o)(b:Am s n=nO):Ew s n o:=by rw[Ew];rw[c,b];simp[a.Cj,a.kind]
def KI.add(h:KI m M AC s){n o}(D:CB n)(r:Am s n=nO)(d:∀t∈AC,n∉Ak t)(B:∀t∈AC,∀i∈Fu t,∀j,i.2<=j->¬(i.1++[j])<+:n)
 (u:OI (DC m s) M o) (E:o.var.q=[]):KI m M AC (Cy s n o):=by
 have b:=YN D u r;have g:∀v,DC m s v->DC m (Cy s n o) v:=λv F=>F.up<|OD.add s n o;refine{E0:=h.E0,G3:=λt c=>(h.G3 t c).up g,Ep:=λq w a=> ?_,Jy:=h.Jy,FQ:=λt c i p j k q f=> ?_,Ja:=λt c x y=> ?_,Km:=λt c w a C l=> ?_,Dn:=λq w a=> ?_,H8:=λt c z A=> ?_,B0:=AYa h.B0};rw[I3 b]at a;split at a;cases a;exact u.up g;exact(h.Ep q w a).up g;rcases f with⟨w,a⟩|f;rw[I3 b]at a;split at a;rename_i e;rw[e];exact B t c i p j k;exact h.FQ t c i p j k q<|.inl ⟨w,a⟩;exact h.FQ t c i p j k q<|.inr f;rw[I3 b,AY];exact h.Ja t c x y;intro e;exact d t c (by rw[<-e];exact DY _<|BI.2 ⟨x,y,rfl⟩);rw[I3 b]at a;split at a;rename_i e;exact absurd (by rw[<-e];exact DT)<|d t c;exact h.Km t c w a C l;rw[I3 b]at a;split at a;cases a;rw[E];exact⟨sP,nA⟩;exact h.Dn q w a;let⟨w,a,l⟩:=h.H8 t c z A;refine⟨w,?_,l⟩;rw[I3 b,AY];exact a;intro e;rw[e,r]at a;cases a
def KI.set(h:KI m M AC s){n w o}(u:Am s n=sM w)(B:w.kind=o.kind)(p:w.l=o.l)(I:OI (DC m s) M o)
 (J:(o.var.q.map (·.id)).Nodup/\∀x∈o.var.q,∃t,Af AC x.id=sM t/\t.Aw=1/\t.on=n/\t.g.Ad=o.l):KI m M AC (Cn s n o):=by
 have k:=ADj u B p;have f:∀v,DC m s v->DC m (Cn s n o) v:=λv K=>K.up<|OD.set s n o;have b:∀q x,Am (Cn s n o) q=sM x->∃y,Am s q=sM y/\y.kind=x.kind/\y.l=x.l:=λq x a=>by rw[k]at a;split at a;rename_i e;cases a;rw[e];exact⟨w,u,B,p⟩;exact⟨x,a,rfl,rfl⟩
 refine{E0:=h.E0,G3:=λt c=>(h.G3 t c).up f,Ep:=λq x a=> ?_,Jy:=h.Jy,FQ:=λt c E C j A q d=> ?_,Ja:=λt c x a=> ?_,Km:=λt c x a l r=> ?_,Dn:=λq x a=> ?_,H8:=λt c F G=> ?_,B0:=AYc h.B0};rw[k]at a;split at a;cases a;exact I.up f;exact(h.Ep q x a).up f;rcases d with⟨x,a⟩|d;let⟨y,g,_⟩:=b q x a;exact h.FQ t c E C j A q<|.inl ⟨y,g⟩;exact h.FQ t c E C j A q<|.inr d;cases e:Am (Cn s n o) x.name with
 |none=>rfl
 |some y=>let⟨z,D,_⟩:=b _ _ e;rw[h.Ja t c x a]at D;cases D
 let⟨y,g,i,H⟩:=b _ _ a;exact h.Km t c y g (i.trans l) (by rwa[H]);rw[k]at a;split at a;rename_i e;cases a;subst e;exact J;exact h.Dn q x a;let⟨y,g,i⟩:=h.H8 t c F G;rw[k];split;rename_i e;rw[e,u]at g;cases g;exact⟨o,rfl,by rwa[<-p]⟩;exact⟨y,g,i⟩
structure Kh(AC:AA AL)(s:Az)(n:Nm):Prop where
 ok:CB n
 Ak:∀t∈AC,n∉Ak t
 low:∀q,MK AC s q->n<+:q->q=n
 FQ:∀t∈AC,∀pm∈Fu t,∀j,pm.2<=j->¬(pm.1++[j])<+:n
def AZ8{a:Type}{l r:AA a}{x:a}(h:l<+:r++[x]):l=r++[x]\/l<+:r:=by rcases List.prefix_concat_iff.1 h with h|h;exact .inl h;exact .inr h
def Abu{a:Type}{l r:AA a}{x y:a}(h:l++[x]=r++[y]):l=r/\x=y:=by have:=List.append_inj' h rfl;exact⟨this.1,by simpa using this.2⟩
def AK7{P t}(h:TI m P M t){b}(a:b∈Fu t):b.1∈Ak t:=by rw[Ak];rw[<-h.NO];rw[Fu]at a;rcases Bc.1 a with a|a;obtain⟨x,c,rfl⟩:=BI.1 a;exact GC _<|BI.2 ⟨x,c,rfl⟩;split at a;cases a;rw[A9.1 a];simp
def AIL{p n k}(h:child p k=sM n):n=p++[k]/\CB n:=by rw[child]at h;split at h;rename_i a;cases h;simp only[CB,CJ,ER]at a;refine⟨rfl,?_⟩;simp only[CB,CJ,ER,CK,FM,KJ,ABU,AGL,AGN,ABS];exact⟨⟨oG,oG⟩,a.1.1.2,a.2⟩;cases h
def ALh{l:AA AL}(h:(l.flatMap Ak).Nodup):∀ {t u:AL} {n:Nm},t∈l->u∈l->n∈Ak t->n∈Ak u->t=u:=by
 induction l with
 |nil=>intro t u n h;cases h
 |cons x l g=>
  intro t u n c d a b;rw[Kb,Gl]at h;rcases Co.1 c with e|c<;>rcases Co.1 d with f|d;rw[e,f];rw[e]at a;exact absurd rfl<|h.2.2 n a n<|LJ.2 ⟨u,d,b⟩;rw[f]at b;exact absurd rfl<|h.2.2 n b n<|LJ.2 ⟨t,c,a⟩;exact g h.2.1 c d a b
def AAR{l:AA AL}(h:(l.flatMap Ak).Nodup){t}(a:t∈l):(Ak t).Nodup:=by
 induction l with
 |nil=>cases a
 |cons x l b=>
  rw[Kb,Gl]at h;rcases Co.1 a with e|a;rw[e];exact h.1;exact b h.2.1 a
def AX3{P t}(h:TI m P M t)(b:(Ak t).Nodup){c}(a:c∈Fu t)(d:c.1=t.Bg)(e:t.Aw≠2):c=(t.Bg,t.A7):=by rw[Ak]at b;rw[<-h.NO,Gl]at b;rw[Fu]at a;rcases Bc.1 a with a|a;obtain⟨x,f,rfl⟩:=BI.1 a;exact absurd d<|b.2.2 _ (BI.2 ⟨x,f,rfl⟩) _ sP;rw[AY e]at a;exact A9.1 a
def KI.new(h:KI m M AC s){t u}(I:Af AC t.id=sM t)(F:t.Aw≠2){n}(L:child t.Bg t.A7=sM n)(hid:u.id=t.id)(v:u.AI=t.AI)(C:u.Bg=t.Bg)(H:u.A7=t.A7+1)(z:u.Aw≠2):Kh (A1 AC u) s n/\Am s n=nO:=by
 obtain⟨e,E⟩:=AIL L;have b:=D2 I;have w:=h.G3 t b;have c:(t.Bg,t.A7)∈Fu t:=by unfold Fu;rw[AY F];simp
 have p:∀q,MK AC s q->¬n<+:q:=λq l=>by rw[e];exact h.FQ t b _ c t.A7 (Ag _) q l
 have P:Ak u=Ak t:=by unfold Ak;rw[hid,v]
 have J:∀q,MK (A1 AC u) s q->MK AC s q:=λq l=>AOV I (λq l=>by rw[P]at l;exact l) l;have f:t.Bg∈Ak t:=AK7 w c;refine⟨⟨E,λx g O=>p n (J n<|.inr ⟨x,g,O⟩)<|Xt n,λq l C=>absurd C<|p q<|J q l,λx g A a j B i=> ?_⟩,?_⟩;rw[e]at i;rcases AZ8 i with q|q;obtain⟨q1,q2⟩:=Abu q;rcases I6 g with rfl|⟨g,D⟩;unfold Fu at a;rw[v,C]at a;rcases Bc.1 a with a|a;have d:A∈Fu t:=GC _ a;have:=AX3 w (AAR h.Jy b) d q1 F;have r:=AAR h.Jy b;unfold Ak at r;rw[<-w.NO,Gl]at r;obtain⟨y,Q,rfl⟩:=BI.1 a;exact absurd q1<|r.2.2 _ (BI.2 ⟨y,Q,rfl⟩) _ sP;rw[AY z]at a;have:=A9.1 a;subst this;rw[H]at B;simp only at B;omega;have G:=AK7 (h.G3 x g) a;rw[q1]at G;have:=ALh h.Jy g b G f;exact D (by rw[this,hid]);rcases I6 g with rfl|⟨g,_⟩;have d:∃k,(A.1,k)∈Fu t/\k<=A.2:=by unfold Fu at a⊢;rw[v,C,H]at a;rcases Bc.1 a with a|a;exact⟨A.2,GC _ a,Ag _⟩;rw[AY z]at a;rw[A9.1 a];exact⟨t.A7,HZ _<|by rw[AY F];simp,sP⟩
 obtain⟨k,N,hle⟩:=d;exact h.FQ t b _ N j (Ch hle B) t.Bg (.inr ⟨t,b,f⟩) q;exact h.FQ x g A a j B t.Bg (.inr ⟨t,b,f⟩) q;cases K:Am s n with
 |none=>rfl
 |some o=>exact absurd (Xt n)<|p n<|.inl ⟨o,K⟩
def Kh.add{n}(h:Kh AC s n)(o):Kh AC (Cy s n o) n:=by
 refine⟨h.ok,h.Ak,λq c b=> ?_,h.FQ⟩;rcases c with⟨w,a⟩|c;cases e:Ew s n o with
 |false=>rw[OF e]at a;exact h.low q (.inl ⟨w,a⟩) b
 |true=>
  rw[I3 e]at a;split at a;assumption;exact h.low q (.inl ⟨w,a⟩) b
 exact h.low q (.inr c) b
theorem Pg{l t x}:x∈LY l t↔x=t\/x∈l:=by grind[Dz,LY,List.takeWhile_append_dropWhile]
theorem AD3(l t):(LY l t).Perm (t::l):=by grind[Dz,LY,List.takeWhile_append_dropWhile,List.perm_middle]
theorem KI.BU(h:KI m M AC s){n}(r:Kh AC s n){u}(hid:u.id=n)(N:u.Bg=n)(l:u.AI=[])(A:u.Aw=0)(B:TI m (DC m s) M u)
 (D:∀o,Am s n=sM o->o.kind=6->fl o.l m->fl u.g.A5 m):KI m M (CC AC u) s:=by
 have g:Af AC u.id=nO:=by
  cases e:Af AC u.id with
  |none=>rfl
  |some x=>
   have p:=E2 e;exact absurd (by rw[<-hid,<-p];exact DT)<|r.Ak x<|D2 e
 have e:CC AC u=LY AC u:=by unfold CC;rw[g];rfl
 have k:Ak u=[n]:=by unfold Ak;rw[hid,l];rfl
 have F:∀q,MK (LY AC u) s q->MK AC s q\/q=n:=λq d=>by
  rcases d with d|⟨x,c,d⟩;exact .inl<|.inl d;rcases Pg.1 c with rfl|c
  grind
  exact .inl<|.inr ⟨x,c,d⟩
 rw[e];refine{E0:=AFU h.E0 g,G3:=λx c=> ?_,Ep:=h.Ep,Jy:= ?_,FQ:=λx c H f j E q d=> ?_,Ja:=λx c y G=> ?_,Km:=λx c o L J K=> ?_,Dn:=λq o d=>⟨(h.Dn q o d).1,λw O=> ?_⟩,H8:=λx c p I=> ?_,B0:=h.B0};rcases Pg.1 c with rfl|c;exact B;exact h.G3 x c;refine((AD3 AC u).flatMap_right Ak).nodup_iff.2 ?_;rw[Kb,Gl];refine⟨by rw[k];simp,h.Jy,λa C b t=> ?_⟩;rw[k,A9]at C;subst C;rintro rfl;let⟨x,c,t⟩:=LJ.1 t;exact r.Ak x c t;rcases Pg.1 c with rfl|c;unfold Fu at f;rw[l,A,N]at f;simp[Mw,F2,show¬(0=2) by omega,Hq,A9]at f;subst f;intro i;have v:n<+:q:=(List.prefix_append n [j]).trans i;have z:q=n:=by rcases F q d with d|d;exact r.low q d v;exact d
 rw[z]at i;have:=i.length_le;simp at this;omega;rcases F q d with d|rfl;exact h.FQ x c H f j E q d;exact r.FQ x c H f j E;rcases Pg.1 c with rfl|c
 grind
 exact h.Ja x c y G;rcases Pg.1 c with rfl|c
 grind[Hv]
 exact h.Km x c o L J K;let⟨y,G,p⟩:=(h.Dn q o d).2 w O
 grind[AN5]
 rcases Pg.1 c with rfl|c
 grind
 exact h.H8 x c p I
theorem KI.AI(h:KI m M AC s){t u}(ht:Af AC t.id=some t)(hid:u.id=t.id)(B:TI m (DC m s) M u)(F:(Ak u).Nodup)(G:∀q∈Ak u,q∈Ak t\/(Am s q=none/\∀x∈AC,q∉Ak x))
 (E:∀pm∈Fu u,∀j,pm.2<=j->∀q,(MK AC s q\/q∈Ak u)->¬(pm.1++[j])<+:q) (r:∀x∈AC,x.id≠t.id->∀pm∈Fu x,∀j,pm.2<=j->∀q∈Ak u,¬(pm.1++[j])<+:q)
 (k:∀x∈u.AI,Am s x.name=none) (i:fl (Hv t 0) m->fl (Hv u 0) m) (A:u.Aw≠1) (d:∀n o,Am s n=some o->∀w∈o.var.q,w.id≠t.id):KI m M (A1 AC u) s:=by
 have C:=D2 ht;have hu:∀q,MK (A1 AC u) s q->MK AC s q\/q∈Ak u:=λq d=>by rcases d with d|⟨x,c,d⟩;exact .inl (.inl d);rcases I6 c with rfl|⟨c,_⟩;exact .inr d;exact .inl (.inr ⟨x,c,d⟩)
 refine{E0:=sorted_put h.E0 u,G3:=λx c=> ?_,Ep:=h.Ep,Jy:= ?_,FQ:=λx c pm z j hj q d=> ?_,Ja:=λx c y p=> ?_,Km:=λx c o v hk hl=> ?_,Dn:=λn o g=>⟨(h.Dn n o g).1,λw hw=> ?_⟩,H8:=λx c h1 H=> ?_,B0:=h.B0};rcases I6 c with rfl|⟨c,_⟩;exact B;exact h.G3 x c;have key:∀l:List AL,Fi l->(l.flatMap Ak).Nodup->(∀x∈l,x∈AC)->((A1 l u).flatMap Ak).Nodup/\∀q,q∈(A1 l u).flatMap Ak->(∃x∈l,x.id≠t.id/\q∈Ak x)\/(q∈Ak u/\∃x∈l,x.id=t.id):=by
  intro l;induction l with
  |nil=>intro _ _ _;exact⟨by simp[A1],λq d=>by simp[A1]at d⟩
  |cons y l Q=>
   intro hs g f;have I:=g;rw[List.flatMap_cons,List.nodup_append]at g;obtain⟨P,i2⟩:=Q (List.pairwise_cons.1 hs).2 g.2.1 λx c=>f x (List.mem_cons_of_mem _ c);have e:A1 (y::l) u=(if y.id==u.id then u else y)::A1 l u:=rfl;rw[e,List.flatMap_cons,List.nodup_append];by_cases p:y.id=t.id;rw[if_pos gR];have O:y=t:=by have:=NT h.E0 (f y List.mem_cons_self);rw[p,ht]at this;exact(Option.some.inj this).symm
   have K:∀x∈l,x.id≠t.id:=by grind[List.pairwise_cons,Ma]
   grind
   rw[if_neg gR];refine⟨⟨g.1,P,λa ha b hb=> ?_⟩,λq d=> ?_⟩;rintro rfl;rcases i2 a hb with⟨x,c,_,L⟩|⟨R,x,c,D⟩
   grind
   have N:x=t:=by have:=NT h.E0 (f x (List.mem_cons_of_mem _ c));rw[D,ht]at this;exact(Option.some.inj this).symm
   grind
   grind
 exact(key AC h.E0 h.Jy λ_ h=>h).1;rcases I6 c with rfl|⟨c,J⟩
 grind
 rcases hu q d with d|d;exact h.FQ x c pm z j hj q d
 grind
 rcases I6 c with rfl|⟨c,_⟩;exact k y p;exact h.Ja x c y p;rcases I6 c with rfl|⟨c,_⟩;rw[hid]at v;exact i (h.Km t C o v hk hl);exact h.Km x c o v hk hl;obtain⟨y,p,h1⟩:=(h.Dn n o g).2 w hw
 grind[N4]
 rcases I6 c with rfl|⟨c,_⟩;exact absurd h1 A;exact h.H8 x c h1 H
theorem KI.SO(h:KI m M AC s){t}(f:Af AC t.id=sM t)(b:t.Aw≠1):∀n o,Am s n=sM o->∀w∈o.var.q,w.id≠t.id:=λn o a w c e=>by
 let⟨y,g,d,_⟩:=(h.Dn n o a).2 w c
 grind
theorem Sb(l){t u}(h:u.id=t.id):A1 (A1 l t) u=A1 l u:=by unfold A1;ext;grind
theorem RD{l}{t u y:AL}(a:Af l t.id=sM y)(h:u.id=t.id):Af (A1 l u) u.id=sM u:=by grind[N4]
def Gi(l:AA AL)(w:Nm×AA AW):AA AL:=match Af l w.1 with|some t=>A1 l (DX t w.2)|none=>l
def Jt(l:AA AL)(k:Call):AA AL:=k.e.BY.foldl Gi<|k.e.BU.foldl CC<|A1 l k.t
structure CI(m:AT)(M:AH->Prop)(AC:AA AL)(A:AL)(k:Call):Prop where
 ki:KI m M (A1 AC k.t) k.s
 is:Af AC A.id=sM A
 id:k.t.id=A.id
 EI:k.t.AI=A.AI
 st:k.t.Aw=0
 on:∀s∈A.AI,GQ s A.c k.t.c
 hid:fl A.g.Ad m=fF->fl k.t.g.Ad m=fF
structure FI(m:AT)(M:AH->Prop)(AC:AA AL)(A:AL)(k:Call):Prop where
 ki:KI m M (Jt AC k) k.s
 id:k.t.id=A.id
 EI:k.t.AI.take (lN A.AI)=A.AI
 cut:∀s∈A.AI,Dp k.t.c s=Dp A.c s
 hid:fl A.g.Ad m=fF->Cx k.t m (lN A.AI)=fF
variable{A:AL}{k:Call}
def CI.th(h:CI m M AC A k):Af (A1 AC k.t) k.t.id=sM k.t:=RD h.is h.id
def CI.ti(h:CI m M AC A k):TI m (DC m k.s) M k.t:=h.ki.of h.th
def FI.of(h:CI m M AC A k)(he:k.e.BY=[])(a:k.e.BU=[]):FI m M AC A k where
 ki:=by unfold Jt;rw[he,a];exact h.ki
 id:=h.id
 EI:=by rw[h.EI];exact FN
 cut:=λs hs=>(h.on s hs).eq
 hid:=λq=>by unfold Cx;rw[<-h.EI,Ik];exact h.hid q
def CI.HW(h:CI m M AC A k){u}(hT:YI m M (A1 AC k.t) k.s k.t u)(c:u.Aw=0)(b:∀s∈A.AI,GQ s k.t.c u.c)(a:fl k.t.g.Ad m=fF->fl u.g.Ad m=fF):CI m M AC A {k with t:=u} where
 ki:=by have:=h.ki.HW h.th hT;rwa [Sb AC hT.id]at this
 is:=h.is
 id:=hT.id.trans h.id
 EI:=hT.EI.trans h.EI
 st:=c
 on:=λs hs=>(h.on s hs).trans<|b s hs
 hid:=λq=>a<|h.hid q
def CI.core(h:CI m M AC A k){d}(a:∀s∈A.AI,GQ s k.t.c d)(e:FP (DC m k.s) M d):CI m M AC A {k with t:={k.t with c:=d}}:=
 h.HW (u:={k.t with c:=d})
  {id:=rfl,EI:=rfl,Bg:=rfl,A7:=Ag _,idle:=λh=>h,ti:={h.ti with at_:=λs b=>(a s<|by rwa[<-h.EI]).on.at_,JW:=λ_ s b=>(a s<|by rwa[<-h.EI]).on,mono:=⟨h.ti.mono.out⟩,cap:=h.ti.cap,A5:=h.ti.A5,FL:=e},A5:=λh=>h,Dn:=.inr ⟨rfl,rfl,rfl⟩,H8:=λq=>by rw[show k.t.Aw=0 from h.st]at q;cases q}
  h.st a λh=>h
theorem II{P c}(h:FP P M c){v}(b:P v):FP P M (Df c v):=
 ⟨h.fr,λx a=>by rcases Bc.1 a with a|a;exact h.st x a;grind,h.tr,h.tm⟩
def CI.push(h:CI m M AC A k){v}(b:DC m k.s v):CI m M AC A (k.push v):=
 h.core (λs a=>No (h.on s a).on v)<|II h.ti.FL b
structure RZ(m:AT)(g a:St):Prop where
 cap:fl a.Ad a.A5
 Ad:fl a.Ad m->fl g.Ad m
 A5:fl g.A5 m->fl a.A5 m
 Cj:A4 a.Ad=a.Ad/\A4 a.A5=a.A5
theorem AEP{t g i}(h:i<lN t.AI):EF {t with g:=g} i=EF t i:=by grind[EF]
theorem AIX{t g i}(h:i<lN t.AI):Hv {t with g:=g} i=Hv t i:=by grind[Hv]
theorem Yn(t):Hv t (lN t.AI)=t.g.A5:=by grind[Hv]
theorem AdF{P t}(h:TI m P M t){g}(d:RZ m t.g g):TI m P M {t with g:=g}:=by
 refine{h with mono:=⟨λi j c r b=> ?_⟩,cap:=λi f=> ?_,A5:=λi s p u=> ?_,Cj:=⟨d.Cj,h.Cj.2⟩};have l:j<=lN t.AI:=r;by_cases e:j=lN t.AI;subst e;by_cases a:i=lN t.AI;rwa[a];have n:fl g.Ad m:=by have:=Ik {t with g:=g};rw[Cx]at b;rwa [this]at b
 have:=h.mono.out i (lN t.AI) c (Ag _) (by rw[Cx];rw[Ik];exact d.Ad n);rw[Cx]at this⊢
 grind[AEP]
 rw[Cx]at b⊢;rw[AEP oG]at b⊢;exact h.mono.out i j c l b;by_cases e:i=lN t.AI;have o:=Ik {t with g:=g};have a:=Yn {t with g:=g};rw[e];rw[show({t with g:=g}:AL).AI.length=lN t.AI from rfl]at o a;rw[o,a];exact d.cap;rw[AEP (by have:i<=lN t.AI:=f;omega),AIX gR];exact h.cap i f;have q:i<lN t.AI:=(Ci.1 p).1;have:=h.A5 i s p u;by_cases e:i+1=lN t.AI;rw[e];rw[e,Yn]at this;exact(Dt (fl · m)<|Yn {t with g:=g}).trans<|d.A5 this;rwa[AIX oG]
def CI.Bp(h:CI m M AC A k){g}(a:RZ m k.t.g g):CI m M AC A (k.Bp g):=
 h.HW (u:={k.t with g:=g})
  {id:=rfl,EI:=rfl,Bg:=rfl,A7:=Ag _,idle:=λh=>h,ti:=AdF h.ti a,A5:=a.A5,Dn:=.inl<|KI.SO h.ki h.th<|by rw[h.st];decide,H8:=λq=>by rw[show k.t.Aw=0 from h.st]at q;cases q}
  h.st (λs b=>GQ.refl (h.on s b).on) λq=>by
   cases e:fl g.Ad m with
   |false=>rfl
   |true=>rw[a.Ad e]at q;cases q
theorem Mf{t u n}(h:GI t=sM (u,n)):u= {t with A7:=t.A7+1,Ao:=t.Ao-1}/\child t.Bg t.A7=sM n/\1<=t.Ao:=by grind[GI,child]
def CI.Ao(h:CI m M AC A k){u A7 Ao}(c:u= {k.t with A7:=A7,Ao:=Ao})(a:k.t.A7<=A7):CI m M AC A {k with t:=u}:=by
 subst c;exact h.HW (u:={k.t with A7:=A7,Ao:=Ao})
  {id:=rfl,EI:=rfl,Bg:=rfl,A7:=a,idle:=λh=>h,ti:={h.ti with mono:=⟨h.ti.mono.out⟩},A5:=λh=>h,Dn:=.inr ⟨rfl,rfl,rfl⟩,H8:=λq=>by rw[show k.t.Aw=0 from h.st]at q;cases q}
  h.st (λs b=>GQ.refl (h.on s b).on) λh=>h
theorem CI.name(h:CI m M AC A k){u n}(b:GI k.t=sM (u,n)):CI m M AC A {k with t:=u}/\Kh (A1 AC u) k.s n/\Am k.s n=nO:=by
 let⟨e,a,_⟩:=Mf b;have c:=h.Ao e<|Cv _;let⟨d,f⟩:=h.ki.new (u:=u) h.th (by rw[h.st];decide) a (by rw[e]) (by rw[e]) (by rw[e]) (by rw[e]) (by rw[e];show k.t.Aw≠2;rw[h.st];decide)
 grind[Sb]
theorem ALb{l t u s n}(h:Kh (A1 l t) s n){y}(i:Af l t.id=sM y)(hid:u.id=t.id)(r:Ak u=Ak t)(o:Fu u=Fu t):Kh (A1 l u) s n:=by
 have p:t∈A1 l t:=D2<|RD i rfl;have a:∀x∈A1 l u,∃y∈A1 l t,Ak x=Ak y/\Fu x=Fu y:=by grind[A1]
 refine⟨h.ok,λx d=> ?_,λq c g=>h.low q ?_ g,λx d j b=> ?_⟩;let⟨y,f,e,_⟩:=a x d;rw[e];exact h.Ak y f;rcases c with c|⟨x,d,c⟩;exact .inl c;let⟨y,f,e,_⟩:=a x d;exact .inr ⟨y,f,by rwa[<-e]⟩;let⟨y,f,_,e⟩:=a x d;rw[e]at b;exact h.FQ y f j b
def CI.AP8(h:CI m M AC A k){n}(hN:Kh (A1 AC k.t) k.s n)(a:Am k.s n=nO){o}(b:OI (DC m k.s) M o)(c:o.var.q=[]):CI m M AC A {k with s:=Cy k.s n o}/\Kh (A1 AC k.t) (Cy k.s n o) n/\Am (Cy k.s n o) n=sM o:=by refine⟨{h with ki:=h.ki.add hN.ok a hN.Ak hN.FQ b c},hN.add o,?_⟩;rw[I3<|YN hN.ok b a,Ac rfl]
theorem CI.AHE(h:CI m M AC A k){n:Nm}(hN:Kh (A1 AC k.t) k.s n)(f:Am k.s n=nO){o:Ob}(a:OI (DC m k.s) M o)(g:o.var.q=[]):CI m M AC A (OE k n o)/\Kh (A1 AC (OE k n o).t) (OE k n o).s n/\Am (OE k n o).s n=sM o:=by
 obtain⟨c,d,b⟩:=h.AP8 hN f a g
 have e:=c.push (v:=BZ o.kind n o.l) ⟨a.Cj,⟨a.kind.2,Pm hN.ok⟩,λ_ _=>⟨o,b,rfl,rfl⟩⟩
 exact⟨e,ALb d (by rw[h.id];exact h.is) rfl rfl rfl,b⟩
def LW{a b}:fl (A4 a) b=fl a b:=by rw[F0,IV,IV,AYw]
theorem R6{a b}:fl a (A4 b)=fl a b:=by rw[F0,IV,IV,AW6]
theorem SP(a):A4 (A4 a)=A4 a:=Aat a
theorem S0{g l}(h:Dh g l=0):fl g.Ad l/\fl l g.A5:=by grind[AeL]
def AN8{P n g c Ao}(b:CB n)(f:fl g.Ad g.A5)(hl:A4 g.Ad=g.Ad/\A4 g.A5=g.A5)(hc:FP P M c)(e:P AZ):TI m P M (Jw n g c Ao) where
 NO:=rfl
 HM:=λq d=>by rwa[A9.1 d]
 nest:=List.Pairwise.nil
 Ux:=Bm _
 idle:=λh=>by cases h
 over:=λ_=>rfl
 at_:=λs hs=>by cases hs
 JW:=λ_ s hs=>by cases hs
 mono:=⟨λi j a hj l=>by assumption⟩
 cap:=λi hi=>by assumption
 A5:=λi s hs=>by simp[Jw]at hs
 Cj:=⟨hl,nA⟩
 FL:=hc
 val:=e
theorem ACv{P}:FP P M ⟨[],[],[]⟩:=by constructor<;>simp_all
theorem Vy{P c u}(h:FP P M c){i d a b}(e:Gc c i d a b=sM u)(n:∀v∈a,P v)(l:P<|BH 0)(o:M b):FP P M u:=by
 rw[Gc]at e;split at e;cases e;cases e;refine⟨λf g=> ?_,h.st,λx j=> ?_,h.tm⟩;rcases Bc.1 g with g|g;exact h.fr f g
 grind
 have:=h.tr x j
 grind
def CI.BU(h:CI m M AC A k)(he:k.e=A8){n}(hN:Kh (A1 AC k.t) k.s n){u}(hid:u.id=n)(hp:u.Bg=n)(b:u.AI=[])(c:u.Aw=0)(d:TI m (DC m k.s) M u)
 (a:∀o,Am k.s n=sM o->o.kind=6->fl o.l m->fl u.g.A5 m):FI m M AC A {k with e:={k.e with BU:=k.e.BU++[u]}} where
 ki:=by unfold Jt;rw[he];exact h.ki.BU hN hid hp b c d a
 id:=h.id
 EI:=by rw[h.EI];exact FN
 cut:=λs hs=>(h.on s hs).eq
 hid:=λq=>by unfold Cx;rw[<-h.EI,Ik];exact h.hid q
theorem CI.waits(h:CI m M AC A k){n}(c:fl k.t.g.Ad m->∃o,Am k.s n=sM o/\fl o.l m):KI m M (A1 AC (FG k n).t) k.s:=by
 have hT:YI m M (A1 AC k.t) k.s k.t (FG k n).t:=
  {id:=rfl,EI:=rfl,Bg:=rfl,A7:=Ag _,idle:=(λq=>by rw[h.st]at q;cases q),ti:={h.ti with Ux:=(by show 1<=4;decide),idle:=(λq=>by cases q),over:=(λq=>absurd q<|by show¬3<=1;decide),JW:=λ_ s b=>(h.on s<|by rwa[<-h.EI]).on,mono:=⟨h.ti.mono.out⟩},A5:=λh=>h,Dn:=.inl<|KI.SO h.ki h.th<|by rw[h.st];decide,H8:=λ_ a=>c a}
 have:=h.ki.HW h.th hT
 grind[FG,Sb]
def FI.mk'(h:CI m M AC A k){k'}(b:KI m M (Jt AC k') k'.s)(hid:k'.t.id=k.t.id)(a:k'.t.AI=k.t.AI)(c:k'.t.g=k.t.g)(hc:k'.t.c=k.t.c):FI m M AC A k' where
 ki:=b
 id:=hid.trans h.id
 EI:=by rw[a,h.EI];exact FN
 cut:=λs hs=>by rw[hc];exact(h.on s hs).eq
 hid:=λq=>by
  unfold Cx;have e:lN A.AI=lN k'.t.AI:=by rw[a,h.EI]
  rw[e,Ik,c];exact h.hid q
def CI.AF5(h:CI m M AC A k)(a:k.e=A8){n}(b:fl k.t.g.Ad m->∃o,Am k.s n=sM o/\fl o.l m):FI m M AC A (FG k n):=
 FI.mk' h (by rw[Jt];rw[show(FG k n).e=A8 from a];exact h.waits b) rfl rfl rfl rfl
theorem HV{k x o}(h:EY k x=sM o):Am k.s x.name=sM o/\o.kind=x.kind/\o.l=x.l:=by grind[EY]
def CI.AbZ(h:CI m M AC A k){n o}(a:Am k.s n=sM o){v}(b:DC m k.s v):CI m M AC A {k with s:=Cn k.s n {o with v:=v}}:=
 {h with ki:=h.ki.set a rfl rfl {h.ki.Ep n o a with val:=b}<|h.ki.Dn n o a}
theorem Sr{l u id}(h:id≠u.id):Af (A1 l u) id=Af l id:=by rw[N4,AY h]
theorem CI.AMT(h:CI m M AC A k)(I:k.e=A8){n o}(f:Am k.s n=sM o)(B:k.t.g.Ad=o.l){w}(C:w.id=k.t.id)(J:DC m k.s w.v){x}(r:x.q=o.var.q++[w])(u:x.v=o.var.v):
 FI m M AC A (FG {k with s:=Cn k.s n {o with var:=x}} n):=by
 refine FI.mk' h ?_ rfl rfl rfl rfl;have D:=h.waits (n:=n) λF=>⟨o,f,by rwa[<-B]⟩;have p:Af (A1 AC (FG k n).t) k.t.id=sM (FG k n).t:=RD (u:=(FG k n).t) (t:=A) h.is h.id;have d:=h.ki.Ep n o f;have i:=KI.SO h.ki h.th (by rw[h.st];decide) n o f;have j:∀y∈x.q,DC m k.s y.v:=λy c=>by
  rw[r]at c;rcases Bc.1 c with c|c;exact d.Dn y c
  grind
 have l:(x.q.map (·.id)).Nodup:=by rw[r,E3,Gl];refine⟨(h.ki.Dn n o f).1,sP,λa E b v=> ?_⟩;simp[E4,Mw,A9]at v;subst v;rintro rfl;let⟨y,c,e⟩:=BI.1 E;exact i y c<|e.trans C
 have g:∀y∈x.q,∃t,Af (A1 AC (FG k n).t) y.id=sM t/\t.Aw=1/\t.on=n/\t.g.Ad=o.l:=λy c=>by
  rw[r]at c;rcases Bc.1 c with c|c;have G:=i y c;let⟨z,K,q⟩:=(h.ki.Dn n o f).2 y c
  grind[FG,Sr]
  rw[A9.1 c,C];exact⟨_,p,rfl,rfl,B⟩
 have H:=D.set (o:={o with var:=x}) f rfl rfl {d with Lr:=(by show DC m k.s x.v;rw[u];exact d.Lr),Dn:=j} ⟨l,g⟩
 grind[Jt,FG,Cn,A8]
def ALs{c s}(h:On c s)(l):On {c with stack:=c.stack++l} s:=⟨h.fr,h.bs,by simp[CK];have:=h.ht;omega,h.tl,h.tr,h.tp⟩
theorem AST{c s}(h:s.Cg<=lN c.stack)(l):Dp {c with stack:=c.stack++l} s=Dp c s:=by grind[Dp,Ee]
theorem KI.wake{s}(h:KI m M AC s){id t}(c:Af AC id=sM t)(b:t.Aw=1)(g:∀n o,Am s n=sM o->∀w∈o.var.q,w.id≠id){l}(f:∀v∈l,DC m s v):KI m M (Gi AC (id,l)) s:=by
 have hid:=E2 c;subst hid;have a:=h.of c;have e:Gi AC (t.id,l)=A1 AC (DX t l):=by rw[Gi];simp[c]
 rw[e];refine h.HW c {id:=rfl,EI:=rfl,Bg:=rfl,A7:=Ag _,idle:=(λq=>by grind),ti:={a with Ux:=(by show 0<=4;decide),idle:=(λq=>by cases q),over:=(λq=>absurd q<|by show¬3<=0;decide),at_:=(λs d=>(ALs (a.JW (by rw[b];decide) s d) l).at_),JW:=(λ_ s d=>ALs (a.JW (by rw[b];decide) s d) l),mono:=⟨a.mono.out⟩,FL:=⟨a.FL.fr,(λv i=>(Bc.1 i).elim (a.FL.st v)<|f v),a.FL.tr,a.FL.tm⟩},A5:=(λh=>h),Dn:=.inl g,H8:=(λq=>by cases q)}
theorem ALf{l:List Wt}(h:(l.map (·.id)).Nodup){i}{w:Wt}(hi:l[i]? =some w):∀y∈l.eraseIdx i,y.id≠w.id:=by grind[List.getElem?_eq_some_iff,List.mem_eraseIdx_iff_getElem?,List.pairwise_iff_getElem,Nat.lt_trichotomy]
theorem CI.AOq(h:CI m M AC A k)(he:k.e=A8){n o}(f:Am k.s n=some o){i w}(hi:o.var.q[i]? =some w){x}(J:x.q=o.var.q.eraseIdx i)(B:DC m k.s x.v){l}(hl:∀v∈l,DC m k.s v){t'}
 (hC:CI m M AC A {k with t:=t'}):FI m M AC A (EO {k with s:=Cn k.s n {o with var:=x},t:=t'} w.id l):=by
 have c:=h.ki.Ep n o f;obtain⟨C,b⟩:=hC.ki.Dn n o f;have u:w∈o.var.q:=List.mem_of_getElem? hi;obtain⟨H,a,p,D,_⟩:=b w u;have d:=hC.ki.set (o:={o with var:=x}) f rfl rfl {c with Lr:=B,Dn:=λy g=>c.Dn y (by grind[List.mem_of_mem_eraseIdx])} (by grind[List.eraseIdx_sublist]);have j:w.id≠[]:=by have h1:=(hC.ki.of a).HM H.id List.mem_cons_self;rw[E2 a]at h1;intro e;rw[e]at h1;revert h1;decide
 have r:EO {k with s:=Cn k.s n {o with var:=x},t:=t'} w.id l= {k with s:=Cn k.s n {o with var:=x},t:=t',e:={k.e with BY:=k.e.BY++[(w.id,l)]}}:=by rw[EO];rw[if_neg j]
 rw[r];refine FI.mk' hC ?_ rfl rfl rfl rfl;rw[Jt];rw[he];refine d.wake a p (λq y g z G e=> ?_) (λv F=>(hl v F).up (OD.set _ _ _));rw[ADj (o:={o with var:=x}) f rfl rfl]at g;split at g
 grind[ALf]
 rename_i E;obtain⟨K,h1,_,I,_⟩:=(hC.ki.Dn q y g).2 z G
 grind
theorem CI.scope(h:CI m M AC A k)(he:k.e=A8){fn S:Nat}{arg N l}{O Ao:Int}{ad:Nat}{u}(F:Js k.t fn S arg N l O Ao ad=.inl u)(ha:DC m k.s arg)(hm:M N):FI m M AC A {k with t:=u}:=by
 unfold Js at F;split at F;cases F;split at F;cases F;split at F;cases F;rename_i hw;have hw:=S0<|O2.1 hw;split at F;cases F;rename_i o A7 ab;split at F;cases F;split at F;cases F;rename_i c X;cases F;let⟨P,hN,ah⟩:=h.name ab;let⟨e1,_,_⟩:=Mf ab;have y:o.id=k.t.id/\o.AI=k.t.AI/\o.c=k.t.c/\o.g=k.t.g/\o.Aw=0/\o.Bg=k.t.Bg:=by rw[e1];exact⟨rfl,rfl,rfl,rfl,h.st,rfl⟩
 have D:TI m (DC m k.s) M o:=P.ti;generalize hs:(⟨A7,A4 l,ad+O.toNat,lN k.t.c.AG,lN k.t.c.stack,lN k.t.c.AP,k.t.g,k.t.Bg,o.A7,o.Ao-Ao.toNat⟩:Dc)=sc;have ag:lN c.AG=lN k.t.c.AG+1/\c.stack=k.t.c.stack/\c.AP=k.t.c.AP/\c.AG.drop (lN k.t.c.AG)=[⟨fn,0,lN k.t.c.stack,N,[arg]++List.replicate (min S 16) (BH 0)⟩]:=by unfold Gc at X;split at X;cases X;cases X;simp
 have I:∀s∈k.t.AI,GQ s k.t.c c:=λs d=>AEA (h.on s<|by rw[<-h.EI];exact d).on X;have am:On c sc:=by
  subst hs;refine⟨by grind,λf hf=> ?_,by grind,by grind,λx L=> ?_,λx L=> ?_⟩
  grind
  grind
  have ac:x∈c.AP.take (lN k.t.c.AP):=L;rw[ag.2.2.1,FN]at ac;exact h.ti.FL.tr x ac
 have Z:FP (DC m k.s) M c:=Vy h.ti.FL X (λv hv=>by grind) (H7 0) hm;have al:∀s∈o.AI++[sc],On c s:=λs d=>by
  rcases Bc.1 d with d|d;exact(I s gR).on
  grind
 have n:sc.l=A4 l/\sc.g=k.t.g/\sc.name=A7/\sc.Bg=k.t.Bg/\sc.A7=o.A7/\sc.AG=lN k.t.c.AG/\sc.Cg=lN k.t.c.stack/\sc.AP=lN k.t.c.AP:=by subst hs;exact⟨rfl,rfl,rfl,rfl,rfl,rfl,rfl,rfl⟩
 generalize T:({o with AI:=k.t.AI++[sc],c:=c,g:=⟨o.g.Ad,sc.l⟩,Bg:=A7,A7:=0,Ao:=Ao.toNat}:AL)=u;have r:u.AI=o.AI++[sc]:=by rw[<-T,y.2.1]
 have Y:lN u.AI=lN o.AI+1:=by rw[r];simp
 have z:u.id=o.id:=by rw[<-T]
 have V:u.g=⟨k.t.g.Ad,sc.l⟩:=by rw[<-T,y.2.2.2.1]
 have U:u.c=c:=by rw[<-T]
 have H:u.Aw=0:=by rw[<-T];exact y.2.2.2.2.1
 have G:u.Bg=A7/\u.A7=0:=by rw[<-T];exact⟨rfl,rfl⟩
 have B:Ak u=Ak o++[A7]:=by unfold Ak;rw[z,r,E3];simp[n.2.2.1]
 have ak:Fu u=Fu o++[(A7,0)]:=by unfold Fu;rw[H,y.2.2.2.2.1,r,G.1,G.2];simp[n.2.2.2.1,n.2.2.2.2.1,y.2.2.2.2.2]
 have K:Af (A1 AC o) o.id=sM o:=P.th;have E:=D2 K;have R:∀i,i<=lN o.AI->EF u i=EF o i:=by grind[EF]
 have Q:∀i,i<=lN o.AI->Hv u i=Hv o i:=by grind[Hv]
 have aj:EF u (lN u.AI)=k.t.g.Ad:=by rw[Ik,V]
 have ae:Hv u (lN u.AI)=sc.l:=by rw[Yn,V]
 have af:TI m (DC m k.s) M u:={
  NO:=by rw[r,G.1,z,E3,E3];have:=D.NO;grind
  HM:=λq p=>by rw[B]at p;rcases Bc.1 p with p|p;exact D.HM q p;rw[A9.1 p];exact hN.ok
  nest:=by rw[r,ABm];refine⟨D.nest,sP,λa ha b hb=> ?_⟩;rw[A9.1 hb,n.2.2.2.2.2.1,n.2.2.2.2.2.2.1,n.2.2.2.2.2.2.2];have:=(h.on a<|by rw[<-h.EI,<-y.2.1];exact ha).on;exact⟨this.fr,this.ht,this.tl⟩
  Ux:=by rw[H];decide
  idle:=λq=>by grind
  over:=λq=>by grind
  at_:=λs d=>by rw[r]at d;rw[U];exact(al s d).at_
  JW:=by grind
  mono:=⟨λi j ao W hv=>by
   rw[Y]at W;have an:Cx o m (min j<|lN o.AI):=by
    by_cases e:j=lN o.AI+1;simp_all[Cx,Nat.min_eq_right,oG,Ik]
    grind[Cx]
   by_cases e:i=lN o.AI+1
   grind
   have:=D.mono.out i (min j<|lN o.AI) oG oG an
   grind[Cx]⟩
  cap:=λi hi=>by
   rw[Y]at hi;by_cases e:i=lN o.AI+1
   grind[R6]
   rw[R i oG,Q i oG];exact D.cap i oG
  A5:=λi s d hl=>by
   rw[r]at d;by_cases e:i<lN o.AI;rw[Gj e]at d;rw[Q _ oG];exact D.A5 i s d hl
   grind
  Cj:=by rw[V];refine⟨⟨h.ti.Cj.1.1,by grind[SP]⟩,λs d=> ?_⟩;rw[r]at d;rcases Bc.1 d with d|d;exact D.Cj.2 s d;rw[A9.1 d,n.1,n.2.1,SP];exact⟨rfl,h.ti.Cj.1⟩
  FL:=by rw[U];exact Z
  val:=by rw[<-T];exact D.val}
 have ai:KI m M (A1 (A1 AC o) u) k.s:=by
  refine P.ki.AI K z af ?_ (λq p=> ?_) (λpm w j W q p=> ?_) (λx L ap pm w j W q p=> ?_) (λx L=> ?_) (λq=> ?_) (by rw[H];decide)<|KI.SO P.ki K gR;rw[B,Gl];refine⟨AAR P.ki.Jy E,sP,λa ha b hb=> ?_⟩;rw[A9.1 hb];rintro rfl;exact hN.Ak o E ha;rw[B]at p;rcases Bc.1 p with p|p;exact .inl p;rw[A9.1 p];exact .inr ⟨ah,hN.Ak⟩;have C:MK (A1 AC o) k.s q\/q=A7:=by
   rcases p with p|p;exact .inl p;rw[B]at p;rcases Bc.1 p with p|p;exact .inl<|.inr ⟨o,E,p⟩
   grind
  rw[ak]at w;rcases Bc.1 w with w|w;rcases C with C|C;exact P.ki.FQ o E pm w j W q C;rw[C];exact hN.FQ o E pm w j W;rw[A9.1 w];intro J;have h2:A7<+:q:=(List.prefix_append A7 [j]).trans J;have h3:q=A7:=C.elim (λC=>hN.low q C h2) λh=>h;rw[h3]at J;have:=J.length_le;simp at this;omega;rw[B]at p;rcases Bc.1 p with p|p;exact P.ki.FQ x L pm w j W q<|.inr ⟨o,E,p⟩;rw[A9.1 p];exact hN.FQ x L pm w j W;rw[r]at L;rcases Bc.1 L with L|L;exact P.ki.Ja o E x L
  grind
  grind
 rw[Sb AC z]at ai;have aa:lN A.AI=lN o.AI:=by rw[y.2.1,h.EI]
 refine⟨?_,z.trans<|y.1.trans h.id,?_,λs d=> ?_,λq=> ?_⟩
 grind[Jt,A8]
 show u.AI.take (lN A.AI)=A.AI;rw[r,aa,O5,y.2.1,h.EI];rfl;show Dp u.c s=Dp A.c s;rw[U];exact((h.on s d).trans<|I s<|by rw[h.EI];exact d).eq;show Cx u m (lN A.AI)=fF;unfold Cx;rw[aa,R _<|Ag _,Ik,y.2.2.2.1];exact h.hid q
theorem ADa{P t}(h:TI m P M t):∀s∈t.AI,s.AG<=(CV t).1/\s.AP<=(CV t).2:=by
 intro s c;rw[CV];cases e:t.AI.getLast? with
 |none=>grind
 |some x=>
  simp only;obtain⟨i,a,rfl⟩:=P9.1 c;rw[P8]at e;obtain⟨b,rfl⟩:=Ci.1 e;by_cases q:i=lN t.AI-1
  grind
  have:=Lx.1 h.nest i (lN t.AI-1) a b oG
  grind
theorem ASA{P c}(h:FP P M c){f s t}(e:∀x∈c.AP.take t,x.AG<=f):FP P M (Ee c f s t) where
 fr:=λx b=>h.fr x<|Fg b
 st:=λv d=>h.st v<|Fg d
 tr:=λx a=>by
  have h1:=e x a;have g:=h.tr x<|Fg a
  grind[Ee]
 tm:=h.tm.sublist<|Xu _ _
def AR8{P c}(h:FP P M c){l i e}(b:∀f∈l,f∈c.AG):∀f∈KC l i e,M f.AR/\∀v∈f.Ai,P v:=by intro f a;rcases mem_modify a with a|⟨y,d,rfl⟩;exact h.fr f<|b f a;exact h.fr y<|b y d
theorem ASB{P c u}(h:FP P M c)(q:∀n,P<|BH n){b:Int}{d:Nat}(a:NU c b d=sM u):FP P M u:=by
 rw[NU]at a;cases e:c.AP.getLast? with
 |none=>grind
 |some t=>
  rw[e]at a;simp only at a;split at a;cases a;split at a;cases a;rename_i r;cases a;refine⟨AR8 h λf j=>Fg j,λv g=> ?_,λx p=> ?_,h.tm.sublist<|Xu _ _⟩;rcases Bc.1 g with g|g;exact h.st v<|Fg g
  grind
  simp[KC,N8,Cu];have s:x.AG<=t.AG:=by rw[P8]at e;obtain⟨o,rfl⟩:=Ci.1 e;obtain⟨i,l,rfl⟩:=P9.1 p;rw[Cu]at l;rw[VN];exact Lx.1 h.tm i (lN c.AP-1) oG o oG
  omega
theorem AIa{P c}(h:FP P M c)(d:∀n,P<|BH n){a:Int}{b:Nat}:FP P M (FF c a b).1:=by grind[FF,ASB]
theorem XA(c)(a:Int)(b:Nat):(FF c a b).2=.Iu\/((FF c a b).2=.failed (BH a)/\(FF c a b).1=c):=by grind[FF]
theorem CI.end_(h:CI m M AC A k){c}(z: ∀s∈A.AI,Dp c s=Dp A.c s)(r: ∀s∈A.AI,At c s)(hc:FP (DC m k.s) M c)(he:k.e=A8){v}(B:DC m k.s v)(ex:Bool):FI m M AC A (E7 {k with t:={k.t with c:=c}} v ex):=by
 generalize hu:Fq {k.t with c:=c} v ex=u;have hid:u.id=k.t.id:=by rw[<-hu];rfl
 have a:u.AI=k.t.AI:=by rw[<-hu];rfl
 have C:u.g=k.t.g:=by rw[<-hu];rfl
 have l:u.c=c:=by rw[<-hu];rfl
 have y:u.Aw=if 0<k.t.AI.length then 2 else if ex then 4 else 3:=by rw[<-hu];rfl
 have n:2<=u.Aw/\u.Aw<=4/\(u.Aw=2->0<k.t.AI.length)/\(3<=u.Aw->k.t.AI.length=0):=by rw[y];split;exact⟨oG,oG,λ_=>by assumption,λh=>oG⟩;split;exact⟨oG,oG,λh=>oG,λ_=>oG⟩;exact⟨oG,oG,λh=>oG,λ_=>oG⟩
 have d:=h.ti;have e: ∀i,EF u i=EF k.t i:=λi=>by grind[EF]
 have f: ∀i,Hv u i=Hv k.t i:=λi=>by grind[Hv]
 have p:TI m (DC m k.s) M u:={
  NO:=by rw[a,hid];have:=d.NO;rwa[<-hu]
  HM:=λq G=>d.HM q (by grind[Ak])
  nest:=by rw[a];exact d.nest
  Ux:=n.2.1
  idle:=λq=>by grind
  over:=by grind
  at_:=λs hs=>by rw[l];exact r s (by rwa[<-h.EI,<-a])
  JW:=λq=>oG
  mono:=⟨λi j w hj g=>by rw[Cx]at g⊢;rw[e]at g⊢;exact d.mono.out i j w (by rwa[<-a]) g⟩
  cap:=λi hi=>by rw[e,f];exact d.cap i (by rwa[<-a])
  A5:=λi s hs hl=>by rw[f];exact d.A5 i s (by rwa[<-a]) hl
  Cj:=by rw[C,a];exact d.Cj
  FL:=by rwa[l]
  val:=by rw[<-hu];exact B}
 have hT:YI m M (A1 AC k.t) k.s k.t u:={id:=hid,EI:=a,Bg:=(by rw[<-hu];rfl),A7:=(by rw[<-hu];exact Nat.le_refl _),idle:=(λq=>by rw[h.st]at q;cases q),ti:=p,A5:=(by grind),Dn:=.inl (KI.SO h.ki h.th (by rw[h.st];decide)),H8:=(λq=>oG)};have b:=h.ki.HW h.th hT;rw[Sb AC hid]at b;have key: ∀k':Call,k'.t=u->KI m M (A1 AC u) k'.s->k'.e.BU=[]->k'.e.BY=[]->FI m M AC A k':=λk' h1 D E F=>
  {
   ki:=by grind[Jt]
   id:=by rw[h1];exact hid.trans h.id
   EI:=by rw[h1,a,h.EI];exact List.take_length
   cut:=λs hs=>by grind
   hid:=λq=>by rw[h1];rw[Cx];rw[e,<-h.EI,Ik];exact h.hid q}
 rw[E7];rw[hu];dsimp only;split;exact key _ rfl b (by show k.e.BU=[];rw[he];rfl) (by show k.e.BY=[];rw[he];rfl)
 .refine key _ rfl ?_ (by show k.e.BU=[];rw[he];rfl) (by show k.e.BY=[];rw[he];rfl);show KI m M (A1 AC u) (match Am k.s u.id with|some o=>if o.kind=6 then Cn k.s u.id {o with v:=v,ex:=ex,done:=tT}else k.s|none=>k.s);split;rename_i o x;split;exact b.set x rfl rfl {b.Ep _ o x with val:=B} (b.Dn _ o x);exact b;exact b
def CI.raise(h:CI m M AC A k)(g:CI m M AC A ⟨k.s,A,A8⟩)(f:k.e=A8){code:Int}{AP:Nat}(l:∀s∈A.AI,s.AP<=AP):FI m M AC A (EH k A.c code AP):=by have i:FP (DC m k.s) M (FF A.c code AP).1:=AIa g.ti.FL λn=>H7 n;have d:∀s∈A.AI,GQ s A.c (FF A.c code AP).1:=λs a=>AKA (g.on s a).on<|l s a;have b:CI m M AC A {k with t:={k.t with c:=(FF A.c code AP).1}}:=h.core (λs a=>⟨(d s a).on,(d s a).eq.trans (h.on s a).eq.symm⟩) i;rw[EH];rcases XA A.c code AP with e|⟨e,j⟩;generalize FF A.c code AP=r at*;let⟨u,out⟩:=r;simp only at e;subst e;exact FI.of b (by show k.e.BY=[];rw[f];rfl) (by show k.e.BU=[];rw[f];rfl);generalize FF A.c code AP=r at*;let⟨u,out⟩:=r;simp only at e j;subst e;exact h.end_ (λs a=>(d s a).eq) (λs a=>(d s a).on.at_) i f (H7 _) tT
structure IQ(im:A6):Prop where
 kind:∀v∈im.DN,v.kind<=2
 Cj:∀v∈im.DN,A4 v.l=v.l
 nm:∀v∈im.DN,v.name=[]
def IQ.val{b}(h:IQ b){s v}(a:v∈b.DN):DC m s v:=⟨h.Cj v a,⟨Ch (h.kind v a) dC,by rw[h.nm v a];exact AAE⟩,λq=>absurd (h.kind v a) oG⟩
def Rr{P c}(h:FP P M c){f}(b:∀x,(M x.AR/\∀v∈x.Ai,P v)->M (f x).AR/\∀v∈(f x).Ai,P v):FP P M (D4 c f) where
 fr:=λx a=>by rcases mem_modify a with a|⟨y,d,rfl⟩;exact h.fr x a;exact b y<|h.fr y d
 st:=h.st
 tr:=λx a=>by simp[D4,N8];exact h.tr x a
 tm:=h.tm
def ACw{P c}(h:FP P M c)(n):FP P M (FR c n):=⟨h.fr,λv a=>h.st v<|Fg a,h.tr,h.tm⟩
def W8{P c}(h:FP P M c)(n):∀v∈Ct c n,P v:=λv a=>h.st v<|Mx a
def OS{P:AW->Prop}{l:AA AW}(h:∀v∈l,P v)(a:P AZ)(i:Nat):P (l.getD i AZ):=by
 rw[DK];cases e:l[i]? with
 |none=>exact a
 |some v=>exact h v<|De e
def AR6{P a c}(h:FP P M c)(o):FP P M (Fl a c o):=Rr (ACw h _) λ_ h=>h
def AA1{c:Ay}{f}(h:c.top=sM f):f∈c.AG:=ABj h
def AIb{P c}(h:FP P M c):FP P M (Ei c) where
 fr:=λx a=>h.fr x<|Fg a
 st:=λv b=>h.st v<|Fg b
 tr:=λx a=>by have:=(Ho.1 a).2;simp[ER]at this;simp[Ei,Cu];omega
 tm:=h.tm.sublist S7
def AR7{s B}(w:IQ B){c u:Ay}{o l j}(C:∀a b,M a->M (a&&&b))(h:FP (DC m s) M c)(y:∀v∈l,DC m s v)(p:0<lN c.AG)(d:HU B c o l j=.inl u):FP (DC m s) M u:=by
 have r:=OS y Ia 0;have F:=OS y Ia 1;have q:∃f,c.top=sM f:=by
  unfold Ay.top;cases e:c.AG.getLast? with
  |none=>rw[S8]at e;rw[e]at p;cases p
  |some f=>exact⟨f,rfl⟩
 obtain⟨f,t⟩:=q;have n:=h.fr f<|AA1 t;unfold HU at d;dsimp only at d;split at d;cases d;exact II h<|OS (λv i=>w.val i) Ia _;cases d;rw[t];exact II h<|OS n.2 Ia _;cases d;refine Rr h λx g=>⟨g.1,λv i=> ?_⟩;rcases ABl i with i|i;exact g.2 v i;rw[i];exact r;cases d;exact h;cases d;exact II (II h r) r;cases d;exact II (II h F) r;cases d;exact II h<|AF3 _;split at d;split at d;cases d;exact II h<|H7 _;cases d;cases d;split at d;split at d;cases d;exact II h<|H7 _;cases d;cases d;split at d;split at d;cases d;exact II h<|H7 _;cases d;cases d;split at d;split at d;cases d;exact II h<|H7 _;cases d;cases d;split at d;split at d;cases d;exact II h<|H7 _;cases d;cases d;split at d;split at d;cases d;exact II h<|H7 _;cases d;cases d;split at d;cases d;exact II h<|AF3 _;cases d;cases d;exact Rr h λx g=>g;split at d;split at d;cases d;exact Rr h λx g=>g;cases d;exact h;cases d;split at d;rename_i z;cases d;rw[t]at z;exact Vy h z y (H7 0) n.1;cases d;split at d<;>cases d;cases d;refine⟨h.fr,h.st,λx g=> ?_,?_⟩;rcases Bc.1 g with g|g;exact h.tr x g;rw[A9.1 g];exact Ag _;rw[ABm];refine⟨h.tm,sP,λa D b E=> ?_⟩;rw[A9.1 E];exact h.tr a D;cases d;split;exact⟨h.fr,h.st,λx g=>h.tr x<|Fg g,h.tm.sublist<|Xu _ _⟩;exact h;split at d;cases d;exact II h<|Xf<|AMq _ _;cases d;split at d;cases d;exact II h<|Xf<|Aas _ _;cases d;split at d;cases d;exact II h<|AF3 _;cases d;split at d;cases d;exact II h<|Xf r.Cj;cases d;cases d;exact Rr h λx g=>⟨C _ _ g.1,g.2⟩;cases d;exact II h<|H7 _
 cases d;exact h
def ADZ{b}{c:Ay}{o}(h:JM b c=sM o):0<lN c.AG:=by rw[JM]at h;split at h;cases h;rename_i f a;exact VO<|AA1 a
def AR9{s g}(j:IQ g){c AG AP}(l:∀a b,M a->M (a&&&b))(h:FP (DC m s) M c):FP (DC m s) M (Es g c AG AP).1/\∀v,((Es g c AG AP).2=.ended v\/(Es g c AG AP).2=.failed v)->DC m s v:=by
 rw[Es];split;exact⟨h,λv d=>by rcases d with d|d<;>cases d;exact H7 _⟩;rename_i o p;split;exact⟨h,λv d=>by rcases d with d|d<;>cases d⟩;split;dsimp only;split;exact⟨AIb h,λv d=>by rcases d with d|d;cases d;exact OS (W8 h 1) Ia 0;cases d⟩
 exact⟨II (AIb h)<|OS (W8 h 1) Ia 0,λv d=>by rcases d with d|d<;>cases d⟩;split;rename_i u q;refine⟨AR7 j l (AR6 h o) (W8 h _) ?_ q,λv d=>by rcases d with d|d<;>cases d⟩;have:=ADZ p;simpa[Fl,D4,FR]using this;rename_i f i;refine⟨AIa h λn=>H7 n,λv d=> ?_⟩;rcases XA c f AP with e|⟨e,_⟩;rw[e]at d;rcases d with d|d<;>cases d;rw[e]at d;rcases d with d|d<;>cases d;exact H7 _
def Hr(m:AT)(p:AH):Prop:=∀a b,fb a b p->fl b m->fl a m
def Cm(m:AT)(M:AH->Prop)(AC:AA AL)(A:AL)(s:Az)(r:CR):Prop:=
 (r.2=nO/\FI m M AC A r.1)\/(∃a,r.2=sM a/\CI m M AC A r.1/\r.1.s=s/\r.1.e=A8)
def Cm.ex(h:CI m M AC A k)(b:k.e=A8){s}(c:k.s=s)(a:Int):Cm m M AC A s (k,sM a):=.inr ⟨a,rfl,h,c,b⟩
def Cm.ok{s}(h:FI m M AC A k):Cm m M AC A s (k,nO):=.inl ⟨rfl,h⟩
def Cm.done(h:CI m M AC A k)(a:k.e=A8){s}:Cm m M AC A s (k,nO):=.inl ⟨rfl,FI.of h (by rw[a];rfl)<|by rw[a];rfl⟩
def AUw{g}(b:A4 g.A5=g.A5){l}(h:(Et g l).2=0):RZ m g (Et g l).1:=by unfold Et at*;split at h;rename_i a;rw[Ac a];exact⟨a,λq=>by rw[AJN,CJ]at q;exact q.1,λq=>q,AMq _ _,b⟩;cases h
def AUs{g}(c:A4 g.A5=g.A5){l}(h:Dh g l=0):RZ m g ⟨A4 l,g.A5⟩:=by let⟨a,b⟩:=S0 h;exact⟨by rwa[LW],λq=>Y9 a<|by rwa [LW]at q,λq=>q,SP l,c⟩
def AUv{g}(c:A4 g.Ad=g.Ad){l}(h:(KW g l).2=0):RZ m g (KW g l).1:=by unfold KW at*;split at h;rename_i a;split at h;rename_i b;rw[Ac a,Ac b];exact⟨by rwa[R6],λq=>q,λq=>by rw[LW];exact Y9 a q,c,SP l⟩;cases h;cases h
def AUt{g}(d:A4 g.A5=g.A5){l p}(h:(Ih g l p).2.1=0)(c:(Ih g l p).2.2->Hr m p):RZ m g (Ih g l p).1:=by
 unfold Ih at*;split at h;rename_i a;split at h;rename_i b;rw[Ac a,Ac b]at c⊢;refine⟨by rwa[LW],λq=> ?_,λq=>q,SP l,d⟩;rw[LW]at q;cases e:fl g.Ad l with
 |true=>exact Y9 e q
 |false=>exact c (by simp[e]) _ _ a q
 cases h;cases h
def AUu{g}(d:A4 g.Ad=g.Ad){l p}(h:(Il g l p).2.1=0)(c:(Il g l p).2.2->Hr m p):RZ m g (Il g l p).1:=by
 unfold Il at*;split at h;rename_i a;split at h;rename_i b;rw[Ac a,Ac b]at c⊢;refine⟨by rwa[R6],λq=>q,λq=> ?_,d,SP l⟩;rw[LW];cases e:fl l g.A5 with
 |true=>exact Y9 e q
 |false=>exact c (by simp[e]) _ _ a q
 cases h;cases h
def AMi(h:CI m M AC A k)(b:k.e=A8){l f}(c:CI m M AC A (k.Bp (Et k.t.g l).1)->fl l m\/fl (Et k.t.g l).1.Ad m=fF->Cm m M AC A k.s (f<|k.Bp (Et k.t.g l).1)):Cm m M AC A k.s (G1 k l f):=by
 rw[G1];split;exact Cm.ex h b rfl _;rename_i a;have a:=O2.1 a;refine c (h.Bp<|AUw h.ti.Cj.1.2 a) ?_;rw[Et]at a⊢;split at a;rename_i d;rw[Ac d];cases e:fl (jn k.t.g.Ad l) m with
 |false=>exact .inr rfl
 |true=>rw[AJN,CJ]at e;exact .inl e.2
 cases a
def AMh(h:CI m M AC A k)(a:k.e=A8){l f}(b:CI m M AC A (k.Bp ⟨A4 l,k.t.g.A5⟩)->Cm m M AC A k.s (f<|k.Bp ⟨A4 l,k.t.g.A5⟩)):Cm m M AC A k.s (Ga k l f):=by rw[Ga];split;exact Cm.ex h a rfl _;rename_i c;exact b<|h.Bp<|AUs h.ti.Cj.1.2<|O2.1 c
def AAa(h:CI m M AC A k)(a:k.e=A8){o}(e:OI (DC m k.s) M o)(f:o.var.q=[]):Cm m M AC A k.s (Fv k o):=by rw[Fv];split;exact Cm.ex h a rfl _;split;exact Cm.ex h a rfl _;rename_i u n d;let⟨b,hN,c⟩:=h.name d;exact Cm.done (b.AHE hN c e f).1 a
def AAb(h:CI m M AC A k)(c:k.e=A8){x f}(g:∀b,CI m M AC A b->b.s=k.s->b.e=A8->(fl x.l m\/fl b.t.g.Ad m=fF)->∀a,Am k.s x.name=sM a->a.kind=x.kind->a.l=x.l->Cm m M AC A k.s (f b a)):Cm m M AC A k.s (Ff k x f):=by rw[Ff];refine AMi h c λe i=> ?_;split;exact Cm.done (e.push<|H7 0) c;rename_i a d;let⟨q1,q2,q3⟩:=HV d;exact g _ e rfl c i a q1 q2 q3
def AMj{s}(h:CI m M AC A k)(a:k.e=A8)(d:k.s=s){b}(c:DC m k.s b.v):Cm m M AC A s (Ej k b):=by rw[Ej];split;exact Cm.ex h a d _;exact Cm.done (h.push c) a
def AZD{s kind}(a:3<=kind/\kind<=7){l}(b:A4 l=l){v}(d:DC m s v){fn AR}(c:M AR):OI (DC m s) M {Db with kind:=kind,l:=l,v:=v,fn:=fn,AR:=AR}:=
 ⟨b,a,d,Ia,λw e=>(by cases e),λ_=>c⟩
def Ww{s kind}(a:3<=kind/\kind<=6){l}(b:A4 l=l){v}(c:DC m s v):OI (DC m s) M {Db with kind:=kind,l:=l,v:=v}:=
 ⟨b,⟨a.1,Ch a.2 dC⟩,c,Ia,λw d=>(by cases d),λe=>by have:kind=7:=e;omega⟩
def AHa{im AD o AR l}(h:CI m M AC A k)(a:k.e=A8)(U:∀v∈l,DC m k.s v)(hm:M AR)
 (g:∀x∈(CO im AD o AR l k).1.e.Bo,Hr m x.AR):Cm m M AC A k.s (CO im AD o AR l k):=by
 have I:=OS U Ia 0;have P:=OS U Ia 1;have hz:=OS U Ia 2;have hw:=OS U Ia 3;have n:=h.ti.Cj.1;rw[CO]at g⊢;dsimp only at g⊢;generalize l.getD 0 AZ=x at*;generalize l.getD 1 AZ=y at*;generalize l.getD 2 AZ=z at*;generalize l.getD 3 AZ=w4 at*;split;exact Cm.done (h.push<|Xf n.1) a;exact Cm.done (h.push<|Xf n.2) a;split;exact Cm.ex h a rfl _;exact AMi h a λd _=>Cm.done d a;split;exact Cm.ex h a rfl _;split;exact Cm.ex h a rfl _;rename_i F;exact Cm.done (h.Bp<|AUv n.1<|O2.1 F) a;split;exact Cm.ex h a rfl _;exact AAa h a (Ww dC P.Cj I) rfl;split;exact Cm.ex h a rfl _;exact AAb h a λk' d G p _ b f _ _=>AMj d p G (by rw[G];exact(h.ki.Ep _ b f).val);split;exact Cm.ex h a rfl _;exact AAa h a (Ww dC P.Cj I) rfl;split;exact Cm.ex h a rfl _;exact AAb h a λk' d G p _ b f _ _=>Cm.done (d.push<|by rw[G];exact(h.ki.Ep _ b f).val) p;split;exact Cm.ex h a rfl _;split;exact Cm.ex h a rfl _;split;rename_i b f;exact Cm.done (h.AbZ (HV f).1 P) a;exact Cm.done h a;split;exact Cm.ex h a rfl _;exact AAa h a (Ww dC I.Cj Ia) rfl;split;exact Cm.ex h a rfl _;rename_i E;have E:=O2.1 E;refine AMh h a λd=> ?_;have H:fl (A4 x.l) m->∃o,Am k.s x.name=sM o/\fl o.l m:=λq=>by rw[LW]at q;let⟨o,q1,q2,q3⟩:=I.BZ oG q;exact⟨o,q1,by rwa[q3]⟩
 split;exact Cm.ok<|d.AF5 a H;rename_i b f;let⟨q1,q2,q3⟩:=HV f;have D:(k.Bp ⟨A4 x.l,k.t.g.A5⟩).t.g.Ad=b.l:=by rw[q3];exact I.Cj
 have r:=h.ki.Ep _ b q1;rw[GN];by_cases j:(!b.var.full);rw[Ac j];exact Cm.ok<|d.AMT a q1 D (w:=⟨k.t.id,fF,AZ⟩) rfl Ia rfl rfl;rw[AY j];split;rename_i N;cases K:b.var.q.findIdx? (·.put)<;>rw[K]at N<;>cases N;rename_i v N;cases K:b.var.q.findIdx? (·.put)with
 |none=>
  rw[K]at N;cases N;have Q:CI m M AC A {(k.Bp ⟨A4 x.l,k.t.g.A5⟩)with s:=Cn k.s x.name {b with var:=⟨fF,AZ,b.var.q⟩}}:={d with ki:=d.ki.set q1 rfl rfl {r with Lr:=Ia}<|d.ki.Dn _ b q1};exact Cm.done (Q.push<|r.Lr.up<|OD.set _ _ _) a
 |some i=>
  rw[K]at N;cases N;have B:i<lN b.var.q:=(AO2.1 K).1;have V:b.var.q.getD i Al=b.var.q[i]:=by rw[DK,BS B];rfl
  dsimp only;rw[V];have W:=d.push r.Lr;exact Cm.ok<|d.AOq a q1 (BS B) (x:=⟨tT,b.var.q[i].v,b.var.q.eraseIdx i⟩) rfl (r.Dn _<|DR B) (l:=[]) nA W
 split;exact Cm.ex h a rfl _;rename_i E;have E:=O2.1 E;refine AMh h a λd=> ?_;have H:fl (A4 x.l) m->∃o,Am k.s x.name=sM o/\fl o.l m:=λq=>by rw[LW]at q;let⟨o,q1,q2,q3⟩:=I.BZ oG q;exact⟨o,q1,by rwa[q3]⟩
 split;exact Cm.ok<|d.AF5 a H;rename_i b f;let⟨q1,q2,q3⟩:=HV f;have D:(k.Bp ⟨A4 x.l,k.t.g.A5⟩).t.g.Ad=b.l:=by rw[q3];exact I.Cj
 have r:=h.ki.Ep _ b q1;rw[Gg];by_cases j:b.var.full;rw[Ac j];exact Cm.ok<|d.AMT a q1 D (w:=⟨k.t.id,tT,y⟩) rfl P rfl rfl;rw[AY j];cases K:b.var.q.findIdx? (λw=> !w.put)with
 |none=>
  have Q:CI m M AC A {(k.Bp ⟨A4 x.l,k.t.g.A5⟩)with s:=Cn k.s x.name {b with var:=⟨tT,y,b.var.q⟩}}:={d with ki:=d.ki.set q1 rfl rfl {r with Lr:=P}<|d.ki.Dn _ b q1};exact Cm.done Q a
 |some i=>
  have B:i<lN b.var.q:=(AO2.1 K).1;have V:b.var.q.getD i Al=b.var.q[i]:=by rw[DK,BS B];rfl
  dsimp only;rw[V];exact Cm.ok<|d.AOq a q1 (BS B) (x:=⟨b.var.full,b.var.v,b.var.q.eraseIdx i⟩) rfl r.Lr (l:=[y]) (λv C=>by rwa[A9.1 C]) d
 split;exact Cm.ex h a rfl _;split;exact Cm.ex h a rfl _;rename_i O;split;exact Cm.ex h a rfl _;split;exact Cm.ex h a rfl _;rename_i u A7 hn;let⟨e1,_,_⟩:=Mf hn;let⟨d,hN,hg⟩:=h.name hn;have R:u.g=k.t.g:=by rw[e1]
 have Q:CI m M AC A {k with t:={u with Ao:=u.Ao-y.n.toNat}}:=d.Ao (u:={u with Ao:=u.Ao-y.n.toNat}) (A7:=u.A7) (Ao:=u.Ao-y.n.toNat) rfl<|Ag _;have X:Kh (A1 AC {u with Ao:=u.Ao-y.n.toNat}) k.s A7:=ALb hN (show Af AC u.id=sM A by rw[e1];show Af AC k.t.id=sM A;rw[h.id];exact h.is) rfl rfl rfl;let⟨W,Y,aa⟩:=Q.AHE (o:={Db with kind:=6,l:=z.l}) X hg (Ww dC hz.Cj Ia) rfl;refine Cm.ok<|W.BU a Y rfl rfl rfl rfl (AN8 hN.ok ?_ ⟨by rw[R];exact n.1,SP _⟩ ?_ Ia) λb f ah ad=> ?_;show fl u.g.Ad<|A4 z.l;rw[R6,R];exact (S0<|O2.1 O).1;cases Z:Gc ⟨[],[],[]⟩ o.a (varsOf im o.a) [x] AR with
 |none=>exact ACv
 |some c=>exact Vy ACv Z (λv C=>by rw[A9.1 C];exact I.up<|OD.add _ _ _) (H7 0) hm
 rw[aa]at f;cases f;show fl (A4 z.l) m;rwa[LW];split;exact Cm.ex h a rfl _;refine AAb h a λk' d G p C b f _ ac=> ?_;split;exact AMj d p G (by rw[G];exact(h.ki.Ep _ b f).val);refine Cm.ok (d.AF5 p λT=>⟨b,by rwa[G],?_⟩);rw[ac];rcases C with C|C;exact C;rw[T]at C;cases C;split;exact Cm.ex h a rfl _;split;rename_i t ht;exact Cm.ok<|h.scope a ht I hm;exact Cm.ex h a rfl _;split;exact Cm.ex h a rfl _;split;exact Cm.ex h a rfl _;exact .inl ⟨rfl,FI.of (k:={k with e:={k.e with out:=k.e.out++[(y.l,x)]}}) {h with} (by show k.e.BY=[];rw[a];rfl)<|by show k.e.BU=[];rw[a];rfl⟩;rename_i J;rw[J]at g;change∀e∈(if x.kind≠2 then((k,sM (-1)):CR)else if(Ih k.t.g x.l AR).2.1≠0 then(k,sM (Ih k.t.g x.l AR).2.1)else({k.Bp (Ih k.t.g x.l AR).1 with e:=if(Ih k.t.g x.l AR).2.2 then{k.e with Bo:=k.e.Bo++[⟨42,k.t.g.Ad,x.l,AR⟩]}else k.e},nO)).1.e.Bo,Hr m e.AR at g;split;exact Cm.ex h a rfl _;split;exact Cm.ex h a rfl _;rename_i S F;rw[AY S,AY F]at g;have F:=O2.1 F;have d:=h.Bp (AUt n.2 F λL=>by rw[Ac L]at g;exact g ⟨42,k.t.g.Ad,x.l,AR⟩ sP)
 refine .inl ⟨rfl,FI.of {d with} ?_ ?_⟩;dsimp only;split<;>(show k.e.BY=[];rw[a];rfl);dsimp only;split<;>(show k.e.BU=[];rw[a];rfl);rename_i J;rw[J]at g;change∀e∈(if x.kind≠2 then((k,sM (-1)):CR)else if(Il k.t.g x.l AR).2.1≠0 then(k,sM (Il k.t.g x.l AR).2.1)else({k.Bp (Il k.t.g x.l AR).1 with e:=if(Il k.t.g x.l AR).2.2 then{k.e with Bo:=k.e.Bo++[⟨43,k.t.g.A5,x.l,AR⟩]}else k.e},nO)).1.e.Bo,Hr m e.AR at g;split;exact Cm.ex h a rfl _;split;exact Cm.ex h a rfl _;rename_i S F;rw[AY S,AY F]at g;have d:=h.Bp (AUu n.1 (O2.1 F) λL=>by rw[Ac L]at g;exact g ⟨43,k.t.g.A5,x.l,AR⟩ sP)
 refine .inl ⟨rfl,FI.of {d with} ?_ ?_⟩;dsimp only;split<;>(show k.e.BY=[];rw[a];rfl);dsimp only;split<;>(show k.e.BU=[];rw[a];rfl);split;exact Cm.ex h a rfl _;exact AAa h a (AZD dC I.Cj Ia hm) rfl;split;exact Cm.ex h a rfl _;rename_i S;refine AAb h a λk' d G p C b f ab _=> ?_;split;rename_i c T;have ae:M b.AR:=(h.ki.Ep _ b f).Zz (by rw[ab];exact O2.1 S);exact Cm.done (d.core (λs af=>AEA (d.on s af).on T)<|Vy d.ti.FL T (λv ag=>by rwa[A9.1 ag,G]) (H7 0) ae) p;exact Cm.ex d p G _;exact Cm.done h a
theorem AaI{AC}(a:Fi AC){t}(b:Af AC t.id=sM t):A1 AC t=AC:=by
 rw[A1];have:∀x∈AC,(if x.id==t.id then t else x)=x:=by grind[NT]
 ext;grind
def KI.YS(h:KI m M AC s){t}(ht:Af AC t.id=sM t)(a:t.Aw=0):CI m M AC t ⟨s,t,A8⟩ where
 ki:=by rwa[AaI h.E0 ht]
 is:=ht
 id:=rfl
 EI:=rfl
 st:=a
 on:=λx b=>GQ.refl<|(h.of ht).JW oG x b
 hid:=λq=>q
theorem MW(k v)(a:Bool):(E7 k v a).e.Bo=k.e.Bo/\(E7 k v a).e.BU=k.e.BU/\(E7 k v a).e.BY=k.e.BY:=by grind[E7]
theorem Q7(k c)(b:Int)(a:Nat):(EH k c b a).e.Bo=k.e.Bo/\(EH k c b a).e.BU=k.e.BU/\(EH k c b a).e.BY=k.e.BY:=by grind[EH,MW]
def ACM{c}(h:asks c):c≠17:=λe=>by subst e;revert h;decide
theorem AAt{a c b d o}(h:(Es a c b d).2=.asked o):JM a c=sM o/\asks o.code/\(Es a c b d).1=c:=by
 rw[Es]at h⊢
 grind[XA]
theorem Tl{n}(D:IQ n)(N:∀a b,M a->M (a&&&b)){AD}(h:KI m M AC s){t}(L:Af AC t.id=sM t)(C:t.Aw=0)(g:∀x∈(C6 n t s AD).e.Bo,Hr m x.AR):FI m M AC t (C6 n t s AD):=by
 have z:=h.YS L C;have l:=h.of L;have w:=ADa l;rw[C6]at g⊢;rw[AY<|by rw[C];decide]at g⊢;have d:=λx i=>AWT (im:=n) (c:=t.c) (AG:=(CV t).1) (AP:=(CV t).2) (l.JW oG x i) (w x i).1 (w x i).2;have j:=AR9 D (AG:=(CV t).1) (AP:=(CV t).2) N l.FL;dsimp only at g⊢;cases B:(Es n t.c (CV t).1 (CV t).2).2 with
 |Iu=>
  rw[B]at d;exact FI.of (z.core (λx i=>⟨(d x i).2.2 rfl,(d x i).1⟩) j.1) rfl rfl
 |ended v=>exact z.end_ (λx i=>(d x i).1) (λx i=>(d x i).2.1) j.1 rfl (j.2 v<|.inl B) fF
 |failed v=>exact z.end_ (λx i=>(d x i).1) (λx i=>(d x i).2.1) j.1 rfl (j.2 v<|.inr B) tT
 |asked o=>
  rw[B]at g;let⟨K,O,_⟩:=AAt B;have p:=ADY K;have F:CU n o=BP o.code:=by rw[CU];rw[AY<|ACM O]
  rw[F]at p;have E:CI m M AC t ⟨s,{t with c:=D4 (FR t.c<|BP o.code) λf=>{f with pc:=f.pc+1}},A8⟩:=
   z.core (λx i=>(UB (l.JW oG x i) p).trans<|Wa (UB (l.JW oG x i) p).on λ_=>rfl)<|Rr (ACw l.FL _) λ_ q=>q
  have P:M (t.c.top.getD Al).AR:=by
   have:=ADZ K;cases e:t.c.top with
   |none=>grind[Ay.top]
   |some f=>exact(l.FL.fr f<|AA1 e).1
  show FI m M AC t<|Gt n AD (CV t).2 o ⟨s,t,A8⟩;have g:∀x∈(Gt n AD (CV t).2 o ⟨s,t,A8⟩).e.Bo,Hr m x.AR:=g;rw[Gt]at g⊢;dsimp only at g⊢;have G:∀x∈(CO n AD o (t.c.top.getD Al).AR (Ct t.c<|BP o.code) ⟨s,{t with c:=D4 (FR t.c<|BP o.code) λf=>{f with pc:=f.pc+1}},A8⟩).1.e.Bo,Hr m x.AR:=by generalize CO n AD o _ _ _=r at g;obtain⟨Q,_|y⟩:=r;exact g;dsimp only at g;rw[(Q7 _ _ _ _).1]at g;exact g
  have u:=AHa (im:=n) (AD:=AD) (o:=o) E rfl (W8 l.FL _) P G;generalize CO n AD o _ _ _=r at u;rcases u with⟨e,R⟩|⟨y,e,J,I,H⟩
  grind
  let⟨Q,x⟩:=r;simp only at e J I H;subst e;exact J.raise (by rwa[I]) H λx i=>(w x i).2
def KQ(s:Az):Prop:=∀n o,Am s n=sM o->o.kind≠5->o.var.q=[]
def AEE{s}(h:KQ s){n o}(b:o.kind≠5->o.var.q=[]):KQ (Cy s n o):=by intro q w a;by_cases e:Ew s n o;rw[I3 e]at a;split at a;cases a;exact b;exact h q w a;rw[OF<|by simpa using e]at a;exact h q w a
theorem Qr{s}(h:KQ s){n o}(b:o.kind≠5->o.var.q=[]):KQ (Cn s n o):=by intro q w a;rw[PV]at a;split at a;split at a;split at a;cases a;exact b;exact h q w a;exact h q w a;exact h q w a
theorem AKU{k l f}(h:KQ k.s)(b:∀a,a.s=k.s->KQ (f a).1.s):KQ (G1 k l f).1.s:=by rw[G1];split;exact h;exact b _ rfl
def AKR{k l f}(h:KQ k.s)(b:∀a,a.s=k.s->KQ (f a).1.s):KQ (Ga k l f).1.s:=by rw[Ga];split;exact h;exact b _ rfl
def Zf{k o}(h:KQ k.s)(a:o.var.q=[]):KQ (Fv k o).1.s:=by rw[Fv];split;exact h;split;exact h;exact AEE h λ_=>a
theorem Zg{k x f}(h:KQ k.s)(b:∀a o,a.s=k.s->KQ (f a o).1.s):KQ (Ff k x f).1.s:=by refine AKU h λa e=> ?_;split;show KQ a.s;rwa[e];exact b _ _ e
theorem AKV{k o}(h:KQ k.s):KQ (Ej k o).1.s:=by rw[Ej];split;exact h;exact h
theorem Ac2{k}(h:KQ k.s){x o}(a:EY k x=sM o):o.kind≠5->o.var.q=[]:=h _ _ (HV a).1
theorem AQW{n i o f l}(h:KQ k.s):KQ (CO n i o f l k).1.s:=by
 rw[CO];dsimp only;split;exact h;exact h
 grind[AKU]
 split;exact h;split<;>exact h;split;exact h;exact Zf h rfl
 grind[Zg,AKV]
 split;exact h;exact Zf h rfl;split;exact h;exact Zg h λc o e=>by show KQ c.s;rwa[e]
 grind[Ac2,Qr]
 split;exact h;exact Zf h rfl;rename_i p;split;exact h;rename_i g;refine AKR h λc e=> ?_;have a:KQ c.s:=by rwa[e]
 split;exact a;rename_i j b;have d:j.kind=5:=by rw[(HV b).2.1];simpa using g
 split;exact Qr a λq=>(q d).elim;rw[EO];split;exact Qr a λq=>(q d).elim;exact Qr a λq=>(q d).elim;split;exact h;rename_i g;refine AKR h λc e=> ?_;have a:KQ c.s:=by rwa[e]
 split;exact a;rename_i j b;have d:j.kind=5:=by rw[(HV b).2.1];simpa using g
 split;exact Qr a λq=>(q d).elim
 grind[EO,Qr]
 split;exact h;split;exact h;split;exact h;split;exact h;exact AEE h λ_=>rfl;split;exact h;refine Zg h λc o e=> ?_;split
 grind[AKV]
 show KQ c.s;rwa[e]
 grind
 grind
 split;exact h;split<;>exact h;split;exact h;split<;>exact h;split;exact h;exact Zf h rfl
 grind[Zg]
 exact h
theorem AKS{k}(h:KQ k.s)(v)(a:Bool):KQ (E7 k v a).s:=by grind[E7,KQ,Am,Fq,Cn,Qr]
theorem AKT{k}(h:KQ k.s)(c)(b:Int)(a:Nat):KQ (EH k c b a).s:=by grind[EH,AKS]
theorem AEF{im t AD}(h:KQ s):KQ (C6 im t s AD).s:=by grind[C6,A8,Gt,Ct,BP,D4,FR,CO,AKS,AQW,AKT]
theorem Q9(h:KI m M AC s)(z:KQ s){t}(a:Af AC t.id=sM t)(d:t.Aw=1){o}(i:Am s t.on=sM o)(C:o.kind=6):KI m M (A1 AC (Dv t s o.v o.ex).t) (Dv t s o.v o.ex).s/\KQ (Dv t s o.v o.ex).s/\(Dv t s o.v o.ex).t.id=t.id:=by
 have u:∀n f,Am s n=sM f->∀w∈f.var.q,w.id≠t.id:=λn f g w p e=>by obtain⟨E,b,_,y,_⟩:=(h.Dn n f g).2 w p;rw[e,a]at b;cases b;rw[y,g]at i;cases i;rw[z n o g oG]at p;cases p
 have D:=(h.Ep _ o i).val;rw[Dv];split;have:=h.wake a d u (l:=[o.v])<|gR;rw[Gi]at this;simp only[a]at this;trivial;have b:=h.wake a d u (l:=[]) nA;rw[Gi]at b;simp only[a]at b;have j:Af (A1 AC<|DX t []) (DX t []).id=sM (DX t []):=RD (u:=DX t []) (t:=t) a rfl;have q:=b.YS j rfl;have c:=q.raise q rfl (code:=o.v.n) (AP:=(CV t).2) λx B=>(ADa (h.of a) x B).2;have r:=Q7 ⟨s,DX t [],A8⟩ (DX t []).c o.v.n (CV t).2;have:=c.ki;rw[Jt]at this;rw[r.2.1,r.2.2]at this;have hid:=c.id
 grind[DX,A8,EH,CV,AKT,Sb]
def NC{b d:Type}{P:b->Prop}{f:b->d->b}(c:∀a x,P a->P (f a x)):∀(l:AA d) {a:b},P a->P (l.foldl f a)
 |[],_,h=>h
 |x::l,_,h=>NC c l<|c _ x h
structure KK(m:AT)(M:AH->Prop)(k:Ap):Prop where
 ki:KI m M k.AC k.Ah
 kq:KQ k.Ah
theorem Yw:∀(n:Nat) {k:Ap} (f:Nm),KK m M k->KK m M (GD n k f)
 |0,_,_,h=>h
 |n+1,k,f,h=>by
  rw[GD]
  refine NC (P:=KK m M) (λk x h=> ?_) _ h
  split
  .exact h
  .rename_i t e
   split
   .exact h
   .rename_i b
    simp only[Jk,Ka]at b
    split
    .exact h
    .rename_i o g
     split
     .exact h
     .rename_i c
      simp only[Jk,Ka]at c
      have hid:=E2 e
      have d:=Q9 h.ki h.kq (t:=t) (by rwa[hid]) b.1 (by rwa[b.2]) c.1
      have a:KK m M {k with Ah:=(Dv t k.Ah o.v o.ex).s,AC:=A1 k.AC (Dv t k.Ah o.v o.ex).t}:=⟨d.1,d.2.1⟩
      dsimp only
      split
      .exact Yw n x a
      .exact a
theorem Kp:∀(n:Nat)(k:Ap)(a:Nm),(GD n k a).B5=k.B5/\(GD n k a).Bj=k.Bj/\(GD n k a).AD=k.AD/\(GD n k a).im=k.im
 |0,_,_=>⟨rfl,rfl,rfl,rfl⟩
 |n+1,k,a=>by
  rw[GD];refine NC (P:=λb:Ap=>b.B5=k.B5/\b.Bj=k.Bj/\b.AD=k.AD/\b.im=k.im) (λb x h=> ?_) _ ⟨rfl,rfl,rfl,rfl⟩;split
  .exact h
  .split
   .exact h
   .split
    .exact h
    .split
     .exact h
     .dsimp only;split
      .have this:=λc=>Kp n c x
       grind
      .exact h
theorem Oz:∀(l:AA<|Nm×AA AW)(k:Ap),l.foldl RI k= {k with AC:=l.foldl Gi k.AC}
 |[],_=>rfl
 |w::l,k=>by
  rw[Xq,Oz l,Xq]
  grind[RI,Gi,Af]
theorem AND{k}(i:IQ k.im)(j:∀a b,M a->M (a&&&b))(h:KK m M k)(id:Nm)(c:∀x∈(runK k id).1.B5,Hr m x.e.AR):KK m M (runK k id).1:=by
 rw[runK]at c⊢;split;exact h;rename_i t ht;have hid:=E2 ht;subst hid;rw[ht]at c;dsimp only at c⊢;split;exact h;rename_i d;rw[if_neg d]at c;have d:t.Aw=0:=oG;generalize n:C6 k.im t k.Ah k.AD=r at c⊢;have g:∀x∈(C6 k.im t k.Ah k.AD).e.Bo,Hr m x.AR:=λx o=>by
  refine c (⟨k.AD,t.id,x⟩:Lk) ?_
  grind[List.mem_append_right,Oz,Kp]
 have e:=Tl i j (AD:=k.AD) h.ki ht d g;have f:=AEF (im:=k.im) (t:=t) (AD:=k.AD) h.kq;rw[n]at e f;have l:KK m M {k with Ah:=r.s,AC:=r.e.BY.foldl Gi (r.e.BU.foldl CC (A1 k.AC r.t)),Bj:=k.Bj++r.e.out.map λx:AT×AW=>(⟨k.AD,t.id,x.1,x.2⟩:FU),B5:=k.B5++r.e.Bo.map λx:Gr=>(⟨k.AD,t.id,x⟩:Lk)}:=⟨e.ki,f⟩
 grind[Oz,Yw]
theorem AEK{x y id}(h:KV x id=some y):∃i w,x.q[i]? =some w/\w.id=id/\y=⟨x.full,x.v,x.q.eraseIdx i⟩:=by grind[KV,List.findIdx?_eq_some_iff_getElem,List.getElem?_eq_getElem]
theorem AXE{x id}(h:KV x id=nO):∀w∈x.q,w.id≠id:=by grind[KV]
theorem AJW(h:KI m M AC s)(g:KQ s){t}(A:Af AC t.id=sM t)(v:t.Aw=1):
 KI m M AC (Gy s t.on t.id)/\KQ (Gy s t.on t.id)/\(∀n o,Am (Gy s t.on t.id) n=sM o->∀w∈o.var.q,w.id≠t.id)/\(∀n,(Am (Gy s t.on t.id) n).isSome=(Am s n).isSome):=by
 have only:∀n o,Am s n=sM o->(∃w∈o.var.q,w.id=t.id)->n=t.on:=λn o b ⟨w,a,e⟩=>by
  let⟨B,y,_,z,_⟩:=(h.Dn n o b).2 w a
  grind
 rw[Gy];cases d:Am s t.on with
 |none=>
  refine⟨h,g,λn o b w a e=> ?_,λ_=>rfl⟩;have:=only n o b ⟨w,a,e⟩
  grind
 |some o=>
  dsimp only;split;rename_i k;cases u:KV o.var t.id with
  |none=>
   refine⟨h,g,λn j b w a e=> ?_,λ_=>rfl⟩;have:=only n j b ⟨w,a,e⟩
   grind[AXE]
  |some x=>
   obtain⟨i,C,r,l,rfl⟩:=AEK u;have p:=ADj (o:={o with var:=⟨o.var.full,o.var.v,o.var.q.eraseIdx i⟩}) d rfl rfl;have f:=h.Ep _ o d;have c:=h.Dn _ o d;dsimp only;refine⟨h.set d rfl rfl {f with Lr:=f.Lr,Dn:=λw a=>f.Dn w<|ABk a} ⟨?_,λw a=> ?_⟩,Qr g λq=>(q k).elim,λn j b w a e=> ?_,λn=> ?_⟩
   grind
   exact c.2 w<|ABk a;rw[p]at b;split at b;cases b;exact ALf c.1 r w a<|e.trans l.symm;have:=only n j b ⟨w,a,e⟩;contradiction;rw[p];split;rename_i e;rw[e,d];rfl;rfl
  rename_i k;refine⟨h,g,λn j b w a e=> ?_,λ_=>rfl⟩;have:=only n j b ⟨w,a,e⟩;rw[this,d]at b;cases b;rw[g _ o d k]at a;cases a
def IL(t:AL)(k:Nat):AL:=
 let s:=t.AI.getD k Al
 {t with AI:=t.AI.take k,g:=s.g,Bg:=s.Bg,A7:=s.A7,Ao:=s.Ao,c:=Ee t.c s.AG s.Cg s.AP,Aw:=0,on:=[],v:=AZ,ex:=fF}
def AKi(t k):GH t k= {IL t k with c:=Df (IL t k).c<|BZ 3 (t.AI.getD k Al).name (t.AI.getD k Al).l}:=rfl
theorem AEM{t i}(a:i<lN t.AI):(∀j,j<=i->EF (IL t i) j=EF t j)/\∀j,j<=i->Hv (IL t i) j=Hv t j:=by grind[IL,EF,Hv]
theorem ALt{c a b}(e:At c a)(g:At c b)(l:a.AG<b.AG)(n:a.Cg<=b.Cg)(o:a.AP<=b.AP):On (Dp c b) a:=by
 have i:=g.fr;have j:=g.ht;have k:=g.tl;refine⟨by simp[Dp,Ee];omega,λf h=>e.bs f ?_,by simp[Dp,Ee];omega,by simp[Dp,Ee];omega,λt d=>e.tr t ?_,λt d=>e.tp t ?_⟩;exact Ry h;exact Ry d
 grind[Dp,Ee]
theorem AdE{P t}(h:TI m P M t){i}(hi:i<t.AI.length)(B:P AZ):TI m P M (IL t i):=by
 have hs:(IL t i).AI=t.AI.take i:=rfl;have f:t.AI.getD i default=t.AI[i]:=by simp[List.getD_eq_getElem?_getD,hi]
 have d:t.AI[i]∈t.AI:=List.getElem_mem hi;obtain⟨r,u⟩:=AEM hi;have hc:(IL t i).c=Dp t.c t.AI[i]:=by show Ee t.c (t.AI.getD i default).AG (t.AI.getD i default).Cg (t.AI.getD i default).AP=_;rw[f];rfl
 have g:∀x∈t.AI.take i,x∈t.AI/\x.AG<t.AI[i].AG/\x.Cg<=t.AI[i].Cg/\x.AP<=t.AI[i].AP:=λx c=>by obtain⟨j,hj,rfl⟩:=List.getElem_of_mem c;rw[List.length_take]at hj;have n:j<i:=oG;rw[List.getElem_take];exact⟨List.getElem_mem _,List.pairwise_iff_getElem.1 h.nest j i oG hi n⟩
 have o:∀x∈t.AI.take i,On (Dp t.c t.AI[i]) x:=λx c=>by obtain⟨h1,w,y,z⟩:=g x c;exact ALt (h.at_ x h1) (h.at_ _ d) w y z
 refine{NO:= ?_,HM:=λq A=>h.HM q ?_,nest:=h.nest.sublist (List.take_sublist _ _),Ux:=(by show 0<=4;decide),idle:=(λq=>by cases q),over:=(λq=>absurd q (by show¬3<=0;decide)),at_:=λx c=>by rw[hc];exact(o x c).at_,JW:=λ_ x c=>by grind,mono:=⟨λa b l hb p=> ?_⟩,cap:=λj hj=> ?_,A5:=λj x c hl=> ?_,Cj:=⟨?_,λx c=>h.Cj.2 x (g x c).1⟩,FL:= ?_,val:=B};have:=h.NO;have v:(IL t i).Bg=t.AI[i].Bg:=by show(t.AI.getD i default).Bg=_;rw[f]
 have k:=congrArg (List.take (i+1)) this;rw[List.take_append_of_le_length sO,List.take_succ_cons,<-List.map_take,<-List.map_take]at k;rw[v];show(t.AI.take i).map (·.Bg)++[t.AI[i].Bg]=t.id::(t.AI.take i).map (·.name)
 grind[List.take_succ_eq_append_getElem]
 rcases List.mem_cons.1 A with e|e;rw[e];exact List.mem_cons_self;obtain⟨x,c,k⟩:=List.mem_map.1 e;exact List.mem_cons_of_mem _ (List.mem_map.2 ⟨x,List.mem_of_mem_take c,k⟩);have hl:(IL t i).AI.length=i:=by rw[hs,List.length_take];omega
 rw[hl]at hb;rw[Cx]at p⊢;rw[r b hb]at p;rw[r a oG];exact h.mono.out a b l oG p;have hl:(IL t i).AI.length=i:=by rw[hs,List.length_take];omega
 rw[hl]at hj;rw[r j hj,u j hj];exact h.cap j oG;rw[hs,List.getElem?_take]at c;split at c;rw[u (j+1) oG];exact h.A5 j x c hl;cases c;have:=(h.Cj.2 _ d).2;show A4 (t.AI.getD i default).g.Ad=(t.AI.getD i default).g.Ad/\A4 (t.AI.getD i default).g.A5=(t.AI.getD i default).g.A5;rwa[f];rw[hc];exact ASA h.FL λx c=>(h.at_ _ d).tp x c
theorem PK{t AD i}(h:IU t AD=some i):i<t.AI.length:=by grind[IU,List.findIdx?_eq_some_iff_getElem]
theorem AXI{k}(h:KK m M k){t}(ht:Af k.AC t.id=some t){i}(hi:i<t.AI.length):KK m M (I4 k t i):=by
 obtain⟨s1,R,c,P,Q,S⟩:∃s1,(if t.Aw=1 then Gy k.Ah t.on t.id else k.Ah)=s1/\KI m M k.AC s1/\KQ s1/\(∀n o,Am s1 n=some o->∀w∈o.var.q,w.id≠t.id)/\∀n,(Am s1 n).isSome=(Am k.Ah n).isSome:=by refine⟨_,rfl,?_⟩;split;rename_i A;exact AJW h.ki h.kq ht A;rename_i A;exact⟨h.ki,h.kq,h.ki.SO ht A,λ_=>rfl⟩
 have b:=D2 ht;have v:=c.G3 t b;have y:t.AI.getD i default=t.AI[i]:=by simp[List.getD_eq_getElem?_getD,hi]
 have f:t.AI[i]∈t.AI:=List.getElem_mem hi;have a:∀q∈Ak (IL t i),q∈Ak t:=λq u=>by rcases List.mem_cons.1 u with e|e;rw[e];exact List.mem_cons_self;obtain⟨x,d,T⟩:=List.mem_map.1 e;exact List.mem_cons_of_mem _ (List.mem_map.2 ⟨x,List.mem_of_mem_take d,T⟩)
 have E:∀pm∈Fu (IL t i),pm∈Fu t:=by grind[Fu,IL]
 have G:=AAR c.Jy b;have J:=AdE v hi Ia;have h1:KI m M (A1 k.AC (IL t i)) s1:=by
  refine c.AI ht rfl J ?_ (λq u=>.inl (a q u)) (λpm p j hj q u=> ?_) (λx d z pm p j hj q u=> ?_) (λx d=>c.Ja t b x (List.mem_of_mem_take d)) (λhc=> ?_) (by show(0:Nat)≠1;decide) Q;exact G.sublist<|List.Sublist.cons_cons _ ((List.take_sublist i t.AI).map _);refine c.FQ t b pm (E pm p) j hj q ?_;rcases u with u|u;exact u;exact .inr ⟨t,b,a q u⟩;exact c.FQ x d pm p j hj q (.inr ⟨t,b,a q u⟩)
  grind[AEM]
 have F:Am s1 t.AI[i].name=none:=c.Ja t b _ f;have r:CB t.AI[i].name:=v.HM _ (List.mem_cons_of_mem _ (List.mem_map.2 ⟨_,f,rfl⟩));have l:t.AI[i].name∈Ak t:=List.mem_cons_of_mem _ (List.mem_map.2 ⟨_,f,rfl⟩);have I:∀x∈A1 k.AC (IL t i),t.AI[i].name∉Ak x:=λx d D=>by
  rcases I6 d with rfl|⟨d,z⟩;have H:(t.id::t.AI.map (·.name)).Nodup:=G;obtain⟨O,X⟩:=List.nodup_cons.1 H;rcases List.mem_cons.1 D with e|e;exact O (by rw[show t.id=t.AI[i].name from e.symm];grind);obtain⟨x,d,T⟩:=List.mem_map.1 e;have d:x∈t.AI.take i:=d;obtain⟨j,hj,rfl⟩:=List.getElem_of_mem d
  grind[List.pairwise_iff_getElem]
  have:=ALh c.Jy d b D l;exact z (by rw[this];rfl)
 have hO:OI (DC m s1) M (GF t i):=by
  have N:DC m s1 (IF t i).1:=by rw[IF];split;exact H7 _;split;exact H7 _;exact v.val
  exact{
   Cj:=by show A4 (t.AI.getD i default).l=(t.AI.getD i default).l;rw[y];exact(v.Cj.2 _ f).1
   kind:=by show 3<=3/\3<=7;decide
   val:=N
   Lr:=Ia
   Dn:=λw hw=>by cases hw
   Zz:=λq=>by cases q}
 have L:KI m M (A1 k.AC (IL t i)) (Cy s1 t.AI[i].name (GF t i)):=by refine h1.add r F I (λx d pm p j hj=> ?_) hO rfl;rcases I6 d with rfl|⟨d,z⟩;exact c.FQ t b pm (E pm p) j hj _ (.inr ⟨t,b,l⟩);exact c.FQ x d pm p j hj _ (.inr ⟨t,b,l⟩)
 have hok:Ew s1 t.AI[i].name (GF t i):=YN r hO F;have C:=I3 hok;have B:Af (A1 k.AC (IL t i)) (IL t i).id=some (IL t i):=RD (t:=t) (u:=IL t i) ht rfl;have Y:DC m (Cy s1 t.AI[i].name (GF t i)) (BZ 3 t.AI[i].name t.AI[i].l):=⟨(v.Cj.2 _ f).1,⟨by show 3<=7;decide,Pm r⟩,λ_ _=>⟨_,by rw[C];exact if_pos rfl,rfl,by show(t.AI.getD i default).l=_;rw[y];rfl⟩⟩;have g:=L.of B;have K:TI m (DC m (Cy s1 t.AI[i].name (GF t i))) M (GH t i):=by rw[AKi,y];exact{g with at_:=(λx d=>((No (g.JW (by show 0<2;decide) x d) _).on).at_),JW:=(λq x d=>(No (g.JW q x d) _).on),mono:=⟨g.mono.out⟩,FL:=II g.FL Y}
 have U:=L.HW B (u:=GH t i) {id:=rfl,EI:=rfl,Bg:=rfl,A7:=Nat.le_refl _,idle:=(λq=>by cases q),A5:=(λq=>q),Dn:=.inl (L.SO B (by show(0:Nat)≠1;decide)),H8:=(λq=>by cases q),ti:=K};have V:=Sb k.AC (t:=IL t i) (u:=GH t i) rfl;rw[V]at U;have W:I4 k t i= {k with Ah:=Cy s1 t.AI[i].name (GF t i),AC:=A1 k.AC (GH t i)}:=by rw[I4];rw[R,y]
 rw[W];exact⟨U,AEE P λ_=>rfl⟩
theorem Rk{k}(h:KK m M k)(a):KK m M (Fp k a):=by grind[Fp,E2,AXI,PK]
def Vk{k}(h:KK m M k):KK m M (Fo k):=by rw[Fo];exact NC (P:=KK m M) (λa x h=>Rk h x) _ (a:={k with AD:=k.AD+1}) ⟨h.ki,h.kq⟩
theorem YR(k a):(Fp k a).im=k.im/\(Fp k a).AD=k.AD/\(Fp k a).Bj=k.Bj/\(Fp k a).B5=k.B5:=by rw[Fp];split;split<;>trivial;simp
theorem QQ(k):(Fo k).im=k.im/\(Fo k).AD=k.AD+1/\(Fo k).Bj=k.Bj/\(Fo k).B5=k.B5:=by
 rw[Fo];refine NC (P:=λb:Ap=>b.im=k.im/\b.AD=k.AD+1/\b.Bj=k.Bj/\b.B5=k.B5) (λa x h=> ?_) _ ⟨rfl,rfl,rfl,rfl⟩
 grind[YR]
def AKM:KI m M [] []:={E0:=List.Pairwise.nil,G3:=nA,Ep:=(λn o h=>by cases h),Jy:=sP,FQ:=nA,Ja:=nA,Km:=nA,Dn:=(λn o h=>by cases h),H8:=nA,B0:=sP}
def Ph{i}(h:i<=999):CB [i]:=by simp[CB,h]
def ACa(h:KI m M [] s){i}(c:i<=999)(a:Am s [i]=nO){b:Gs}(e:A4 b.l=b.l):KI m M [] (Cy s [i] {Db with kind:=3,l:=b.l,v:=BH b.v})/\Am (Cy s [i] {Db with kind:=3,l:=b.l,v:=BH b.v})=λq=>if q=[i]then sM {Db with kind:=3,l:=b.l,v:=BH b.v}else Am s q:=by have d:OI (DC m s) M {Db with kind:=3,l:=b.l,v:=BH b.v}:=Ww dC e<|H7 _;refine⟨h.add (Ph c) a nA nA d rfl,?_⟩;funext q;exact I3 (YN (Ph c) d a) q
structure ABt(m:AT)(M:AH->Prop)(c:Dj)(s:Az)(b:FO):Prop where
 Cj:A4 b.l=b.l/\A4 b.c=b.c
 flo:fl b.l b.c
 Zz:M b.AR
 box:0<=b.box->b.box.toNat<=999/\∃o,Am s [b.box.toNat]=sM o/\o.kind=3/\o.l=(c.BJ.getD b.box.toNat Al).l
def Vo(h:KI m M AC s){c b}(k:ABt m M c s b){i}(D:i<=999)(J:Am s [i]=nO)(N:∀q o,Am s q=sM o->lN q=1)(E:∀t∈AC,∃j,t.id=[j]/\j≠i/\t.Bg=[j]/\t.AI=[]):KI m M (CC AC<|D7 c b [i]) s:=by
 have g:∀t∈AC,∀q∈Ak t,lN q=1/\q≠[i]:=λt a q f=>by
  let⟨j,y,z,A,r⟩:=E t a;have f:q=[j]:=by simpa[Ak,r,y]using f
  rw[f];exact⟨rfl,λe=>z<|by simpa using e⟩
 have L:Kh AC s [i]:=by
  refine⟨Ph D,λt a f=>(g t a _ f).2 rfl,λq f p=> ?_,λt a R d j S p=> ?_⟩;have K:lN q=1:=by rcases f with⟨o,n⟩|⟨t,a,f⟩;exact N q o n;exact(g t a q f).1
  exact(p.eq_of_length<|by rw[K];rfl).symm;let⟨Q,y,z,A,r⟩:=E t a;have:R.1=[Q]:=by unfold Fu at d;rw[r]at d;simp only[Mw,F2]at d;split at d;cases d;rw[A9.1 d];exact A
  rw[this]at p;have:=p.length_le;simp at this
 refine h.BU L rfl rfl rfl rfl ?_ λo n=>by rw[J]at n;cases n
 have O:DC m s (if 0<=b.box then BZ 3 [b.box.toNat] (c.BJ.getD b.box.toNat Al).l else BH b.n):=by split;rename_i F;let⟨H,o,B,G,C⟩:=k.box F;exact⟨by show A4 (c.BJ.getD b.box.toNat Al).l=(c.BJ.getD b.box.toNat Al).l;rw[<-C];exact(h.Ep _ o B).Cj,⟨by show 3<=7;decide,λx P=>by rw[show x=b.box.toNat from A9.1 P];exact H⟩,λ_ _=>⟨o,B,G,C⟩⟩;exact H7 _
 have l:∃u,Gc ⟨[],[],[]⟩ b.fn (c.im.Ax.getD b.fn Al).Ai [if 0<=b.box then BZ 3 [b.box.toNat] (c.BJ.getD b.box.toNat Al).l else BH b.n] b.AR=sM u:=⟨_,rfl⟩;let⟨u,l⟩:=l;have e:D7 c b [i]=Jw [i] ⟨b.l,b.c⟩ u b.Ao:=by unfold D7;dsimp only;rw[l];rfl
 rw[e];exact AN8 (Ph D) k.flo k.Cj (Vy (P:=DC m s) (M:=M) ACv l (λv w=>by rw[A9.1 w];exact O) (H7 0) k.Zz) Ia
structure QF(c:Dj)(a b:Gs)(t0 t1 t2:FO):Prop where
 BJ:c.BJ=[a,b]
 BM:c.BM=[t0,t1,t2]
def AAC{c a b d e f}(h:QF c a b d e f):EG c= {im:=c.im,AD:=0,AC:=CC (CC (CC []<|D7 c d [2])<|D7 c e [3])<|D7 c f [4],Ah:=Cy (Cy [] [0] {Db with kind:=3,l:=a.l,v:=BH a.v}) [1] {Db with kind:=3,l:=b.l,v:=BH b.v},Bj:=[],B5:=[]}:=by rw[EG];rw[h.BJ,h.BM];rfl
def AYq{c}{g j:Gs}{f k r}(h:QF c g j f k r)(B:A4 g.l=g.l)(C:A4 j.l=j.l)(D:∀b∈[f,k,r],(A4 b.l=b.l/\A4 b.c=b.c)/\fl b.l b.c/\M b.AR/\b.box<2):KK m M (EG c):=by
 rw[AAC h];let⟨E,z⟩:=ACa (m:=m) (M:=M) AKM (i:=0) dC rfl B;let⟨A,n⟩:=ACa E (i:=1) dC (by rw[z];rfl) C;generalize Cy (Cy [] [0] {Db with kind:=3,l:=g.l,v:=BH g.v}) [1] {Db with kind:=3,l:=j.l,v:=BH j.v}=s at A n⊢;rw[z]at n;have p:∀q,Am s q=if q=[1]then sM {Db with kind:=3,l:=j.l,v:=BH j.v}else if q=[0]then sM {Db with kind:=3,l:=g.l,v:=BH g.v}else nO:=λq=>by rw[n];rfl
 have y:∀q o,Am s q=sM o->lN q=1:=λq o a=>by rw[p]at a;split at a;rename_i e;rw[e];rfl;split at a;rename_i e;rw[e];rfl;cases a
 have u:∀i,2<=i->Am s [i]=nO:=λi L=>by rw[p];rw[AY sO,AY sO]
 have w:∀b∈[f,k,r],ABt m M c s b:=λb x=>by let⟨q1,q2,q3,q4⟩:=D b x;refine⟨q1,q2,q3,λq=>⟨oG,?_⟩⟩;rw[p,h.BJ];have:b.box.toNat=0\/b.box.toNat=1:=oG;rcases this with e|e;rw[e];exact⟨_,rfl,rfl,rfl⟩;rw[e];exact⟨_,rfl,rfl,rfl⟩
 have K:∀(b:FO)(i:Nat),(D7 c b [i]).id=[i]/\(D7 c b [i]).Bg=[i]/\(D7 c b [i]).AI=[]:=λb i=>⟨rfl,rfl,rfl⟩;have F:=Vo A (w f sP) (i:=2) dC (u 2 dC) y nA;have I:∀t∈CC [] (D7 c f [2]),t=D7 c f [2]:=λt d=>A9.1 d;have G:=Vo F (w k sP) (i:=3) dC (u 3 dC) y (λt d=>by rw[I t d];exact⟨2,rfl,dC,rfl,rfl⟩);have J:∀t∈CC (CC [] (D7 c f [2])) (D7 c k [3]),t=D7 c f [2]\/t=D7 c k [3]:=λt d=>by have:t∈[D7 c f [2],D7 c k [3]]:=d;simpa using this
 have H:=Vo G (w r sP) (i:=4) dC (u 4 dC) y (λt d=>by rcases J t d with e|e;rw[e];exact⟨2,rfl,dC,rfl,rfl⟩;rw[e];exact⟨3,rfl,dC,rfl,rfl⟩)
 refine⟨H,λq o a _=> ?_⟩;have a:Am s q=sM o:=a;rw[p]at a;split at a;cases a;rfl;split at a;cases a;rfl;cases a
def C7(n:Int):Prop:= -9223372036854775808<=n/\n<=9223372036854775807
instance (n:Int):Decidable (C7 n):=by rw[C7];infer_instance
def AV5(n:Int):C7 (wrap64 n):=by rw[C7,wrap64];omega
def AV3{a:Int}(b:Int)(h:C7 a):C7 (a.tmod b):=by rw[C7]at h⊢;have d:=Int.natAbs_tmod a b;have e:=Nat.mod_le a.natAbs b.natAbs;rcases Int.le_total 0 a with q|q;have:=Int.tmod_nonneg b q;omega;have:=Int.tmod_nonneg b (a:= -a) oG;rw[Int.neg_tmod]at this;omega
def AV2{c:Nat}{a b n:Int}(d:C7 a)(h:HN c a b=sM n):C7 n:=by
 rw[HN]at h
 repeat' split at h
 all_goals first|(cases h;first|exact AV5 _|exact AV3 _ d|decide)|cases h
def wv(v:AW):Prop:=(v=BH v.n/\C7 v.n)\/v=D1 v.l\/(3<=v.kind/\v.kind<=7/\v.n=0/\CB v.name)
theorem KF(n:Int)(h:C7 n:=by decide):wv (BH n):=.inl ⟨rfl,h⟩
def AGB{v}(h:wv v):C7 v.n:=by rcases h with h|h|h;exact h.2;rw[h];exact(by decide:C7 0);rw[h.2.2.1];decide
def AJb{l:AA AW}(h:∀v∈l,wv v)(i):C7 (l.getD i AZ).n:=by
 rw[DK];cases e:l[i]? with
 |none=>exact(by decide:C7 0)
 |some v=>exact AGB<|h v<|De e
def S4(l):wv (D1 l):=.inr<|.inl rfl
def AGD(b:Bool):wv (NV b):=by cases b;exact KF 0;exact KF 1
def ABL{k n}(h:3<=k/\k<=7)(a:CB n)(l):wv (BZ k n l):=.inr<|.inr ⟨h.1,h.2,rfl,a⟩
structure BC(A:Nat)(c:Ay):Prop where
 fr:lN c.AG<=16
 st:lN c.stack<=A
 tr:lN c.AP<=A
 vs:∀v∈c.stack,wv v
 vf:∀f∈c.AG,lN f.Ai<=2000/\∀v∈f.Ai,wv v
structure BT(A:Nat)(t:AL):Prop where
 c:BC A t.c
 wt:t.Aw=1->lN t.c.stack+1<=A
 sc:lN t.AI<=A
 md:t.A7<=A
 sm:∀x∈t.AI,x.A7<=A/\x.Ao<=999/\x.Cg+1<=A
 rm:t.Ao<=999
 vv:2<=t.Aw->wv t.v
 on:t.Aw=1->CB t.on
 off:t.Aw≠1->t.on=[]
structure BO(A:Nat)(o:Ob):Prop where
 q:lN o.var.q<=A
 v3:o.kind=3\/o.kind=4->wv o.v
 v6:o.kind=6->o.done->wv o.v
 vf:o.var.full->wv o.var.v
 vq:∀w∈o.var.q,w.put->wv w.v
structure BK(A S:Nat)(AC:AA AL)(s:Az):Prop where
 ts:∀t∈AC,BT A t
 os:∀n o,Am s n=sM o->BO A o
 tl:lN AC<=A
 sl:lN s<=S
variable{A B S R:Nat}{c u:Ay}
def BC.mono(h:BC A c)(k:A<=B):BC B c:=⟨h.fr,Ch h.st k,Ch h.tr k,h.vs,h.vf⟩
def BT.mono{t}(h:BT A t)(k:A<=B):BT B t:=⟨h.c.mono k,λq=>Ch (h.wt q) k,Ch h.sc k,Ch h.md k,λx a=>⟨Ch (h.sm x a).1 k,(h.sm x a).2.1,Ch (h.sm x a).2.2 k⟩,h.rm,h.vv,h.on,h.off⟩
def BO.mono{o}(h:BO A o)(k:A<=B):BO B o:=⟨Ch h.q k,h.v3,h.v6,h.vf,h.vq⟩
def BK.mono{a s}(h:BK A S a s)(k:A<=B)(r:S<=R):BK B R a s:=⟨λt d=>(h.ts t d).mono k,λn o b=>(h.os n o b).mono k,Ch h.tl k,Ch h.sl r⟩
def JJ(h:BC A c){v}(b:wv v):BC (A+1) (Df c v) where
 fr:=h.fr
 st:=by show(c.stack++[v]).length<=_;rw[CK];have:=h.st;simp;omega
 tr:=Ch h.tr<|Cv _
 vs:=λx a=>by rcases Bc.1 a with a|a;exact h.vs x a;rwa[A9.1 a]
 vf:=h.vf
def ACP(h:BC A c)(n):BC A (FR c n):=⟨h.fr,by show(c.stack.take _).length<=_;rw[Cu];have:=h.st;omega,h.tr,λv a=>h.vs v<|Fg a,h.vf⟩
def W9(h:BC A c)(n):∀v∈Ct c n,wv v:=λv a=>h.vs v<|Mx a
def N1{n}(h:HQ c n):lN (Ct c n)=n:=by rw[HQ]at h;simp[CJ,ER]at h;rw[Ct];rw[Lw];omega
def ZE{l:AA AW}(h:∀v∈l,wv v){i}(a:i<lN l):wv (l.getD i AZ):=by rw[DK,BS a];exact h _<|DR a
def Rj(h:BC A c){f}(d:∀x,(lN x.Ai<=2000/\∀v∈x.Ai,wv v)->lN (f x).Ai<=2000/\∀v∈(f x).Ai,wv v):BC A (D4 c f) where
 fr:=by show(c.AG.modify _ f).length<=16;rw[N8];exact h.fr
 st:=h.st
 tr:=h.tr
 vs:=h.vs
 vf:=λx a=>by
  have a:x∈c.AG.modify (lN c.AG-1) f:=a;let⟨i,hi⟩:=ABd a;rw[RP]at hi;cases e:c.AG[i]? with
  |none=>rw[e]at hi;cases hi
  |some y=>
   rw[e]at hi;have b:=h.vf y<|De e;simp[ABr,LN,QB]at hi;subst hi;split;exact d y b;exact b
def AQj(h:BC A c)(f g t):BC A (Ee c f g t) where
 fr:=by show(c.AG.take f).length<=16;rw[Cu];have:=h.fr;omega
 st:=by show(c.stack.take g).length<=A;rw[Cu];have:=h.st;omega
 tr:=by show(c.AP.take t).length<=A;rw[Cu];have:=h.tr;omega
 vs:=λv a=>h.vs v<|Fg a
 vf:=λx b=>h.vf x<|Fg b
def Vi(h:BC A c){j b a g}(i:Gc c j b a g=sM u)(m:∀v∈a,wv v)(n:lN a<=1900):BC A u:=by rw[Gc]at i;split at i;cases i;rename_i l;cases i;refine⟨by show(c.AG++[_]).length<=16;rw[CK];simp;omega,h.st,h.tr,h.vs,λf d=> ?_⟩;rcases Bc.1 d with d|d;exact h.vf f d;rw[A9.1 d];refine⟨by show(a++List.replicate (min b 16) (BH 0)).length<=2000;rw[CK,AGY];omega,λv e=> ?_⟩;rcases Bc.1 e with e|e;exact m v e;rw[(List.mem_replicate.1 e).2];exact KF 0
def AHf(h:BC A c):BC A (Ei c) where
 fr:=by show(c.AG.take _).length<=16;rw[Cu];have:=h.fr;omega
 st:=by show(c.stack.take _).length<=A;rw[Cu];have:=h.st;omega
 tr:=Ch (RQ _ _) h.tr
 vs:=λv a=>h.vs v<|Fg a
 vf:=λx b=>h.vf x<|Fg b
def AQn(h:BC A c)(o:lN c.stack+1<=A){a:Int}{j:Nat}(m:C7 a)(b:NU c a j=sM u):BC A u:=by
 rw[NU]at b;split at b;cases b;rename_i t _;split at b;cases b;split at b;cases b;cases b;refine⟨?_,?_,?_,λv g=> ?_,λf l=> ?_⟩;show(KC (c.AG.take t.AG) _ _).length<=16;rw[KC];rw[N8,Cu];have:=h.fr;omega;show(c.stack.take t.Cg++[BH a]).length<=A;rw[CK,Cu];simp;omega;show(c.AP.take _).length<=A;rw[Cu];have:=h.tr;omega;rcases Bc.1 g with g|g;exact h.vs v<|Fg g;rw[A9.1 g];exact KF _ m;have l:f∈KC (c.AG.take t.AG) (t.AG-1) t.at_:=l;rw[KC]at l;let⟨i,d⟩:=ABd l;rw[RP]at d;cases e:(c.AG.take t.AG)[i]? with
 |none=>rw[e]at d;cases d
 |some y=>
  rw[e]at d;have n:=h.vf y<|Fg<|De e;simp[ABr,LN,QB]at d;subst d;split;exact n;exact n
def AHe(h:BC A c)(b:lN c.stack+1<=A){code:Int}{A2:Nat}(a:C7 code):BC A (FF c code A2).1:=by rw[FF];split;rename_i u d;exact AQn h b a d;exact h
def AQl(h:BC A c){a:Int}{b:Nat}(d:C7 a):BC (A+1) (FF c a b).1:=AHe (h.mono<|Cv _) (O6 h.st) d
structure Ie(im:A6):Prop where
 cs:∀v∈im.DN,wv v
 ar:∀f∈im.Ax,f.args<=1000
def AQi(h:BC A c)(a o):BC A (Fl a c o):=Rj (ACP h _) λ_ h=>h
def AOE{im o f}(h:c.top=sM f):∃g,(Fl im c o).top=sM g/\g.Ai=f.Ai:=by have:(Fl im c o).AG=c.AG.modify (lN c.AG-1) λf=>{f with pc:=f.pc+1}:=rfl;rw[Ay.top]at h⊢;rw[this,P8,N8,RP,<-P8,h];refine⟨_,rfl,?_⟩;show(if lN c.AG-1=lN c.AG-1 then _ else f).Ai=f.Ai;rw[Ac rfl]
def AUO{b}(a:Ie b)(i):(b.Ax.getD i Al).args<=1000:=by
 rw[DK];cases e:b.Ax[i]? with
 |none=>exact Bm _
 |some f=>exact a.ar f<|De e
def AQk{g:A6}(j:Ie g){o:Op}{l:AA AW}{b}(h:BC A c)(t:∀v∈l,wv v)(D:lN l=CU g o)(y:o.code=1->o.a<lN g.DN)(z:o.code=2->o.a<lN (c.top.getD Al).Ai/\c.AG≠[])(a:HU g c o l b=.inl u):BC (A+2) u:=by
 have r:∀i,i<CU g o->wv (l.getD i AZ):=λi G=>ZE t oG;have s:o.code≠17->CU g o=BP o.code:=λq=>by unfold CU;rw[AY q]
 unfold HU at a;dsimp only at a;split at a;rename_i e;cases a;refine(JJ h ?_).mono oG;have:=y e;rw[DK,BS this];exact j.cs _<|DR this;rename_i e;cases a;refine(JJ h ?_).mono oG;let⟨q1,q2⟩:=z e;have:∃f,c.top=sM f:=by
  unfold Ay.top;cases C:c.AG.getLast? with
  |none=>exact absurd (S8.1 C) q2
  |some f=>exact⟨f,rfl⟩
 let⟨f,w⟩:=this;rw[w]at q1⊢;simp only[TH]at q1⊢;rw[DK,BS q1];exact(h.vf f<|ABj w).2 _<|DR q1;rename_i e;cases a;have d:wv (l.getD 0 AZ):=r 0 (by rw[s oG,e];decide);refine(Rj h λx p=>⟨by show(x.Ai.set _ _).length<=2000;rw[ABh];exact p.1,λv n=> ?_⟩).mono oG;rcases ABl n with n|n;exact p.2 v n;rw[n];exact d;cases a;exact BC.mono h<|VQ A 2;rename_i e;cases a;have d:wv (l.getD 0 AZ):=r 0 (by rw[s oG,e];decide);exact JJ (JJ h d) d;rename_i e;cases a;have d:wv (l.getD 0 AZ):=r 0 (by rw[s oG,e];decide);have F:wv (l.getD 1 AZ):=r 1 (by rw[s oG,e];decide);exact JJ (JJ h F) d;cases a;exact(JJ h<|AGD _).mono<|Cv _
 all_goals try(
  split at a;split at a;rename_i m;cases a;exact(JJ h<|KF _<|AV2 (AJb t 0) m).mono oG;cases a;cases a)
 split at a;cases a;exact(JJ h<|AGD _).mono<|Cv _;cases a;cases a;exact BC.mono (A:=A) (by exact Rj h λ_ q=>q)<|VQ A 2;split at a;split at a;cases a;exact BC.mono (A:=A) (by exact Rj h λ_ q=>q)<|VQ A 2;cases a;exact BC.mono h<|VQ A 2;cases a;rename_i e;split at a;rename_i H E;cases a;refine(Vi h E t ?_).mono oG;rw[D];unfold CU;rw[Ac e,e];have:=AUO j o.a;show BP 17+_<=1900;have:BP 17=0:=rfl;omega;cases a;split at a<;>cases a;cases a;refine⟨h.fr,Ch h.st oG,?_,h.vs,h.vf⟩;show(c.AP++[_]).length<=A+2;rw[CK];have:=h.tr;simp;omega;cases a;split;refine⟨h.fr,Ch h.st oG,?_,h.vs,h.vf⟩;show(c.AP.take _).length<=A+2;rw[Cu];have:=h.tr;omega;exact h.mono oG;split at a;cases a;exact(JJ h<|S4 _).mono oG;cases a;split at a;cases a;exact(JJ h<|S4 _).mono oG;cases a;split at a;cases a;exact(JJ h<|AGD _).mono<|Cv _;cases a;split at a;cases a;exact(JJ h<|S4 _).mono oG;cases a;cases a;exact BC.mono (A:=A) (by exact Rj h λ_ q=>q)<|VQ A 2;cases a;exact(JJ h<|KF _ (by unfold C7;have:=((c.top.getD Al).AR).toNat_lt;omega)).mono oG;cases a;exact BC.mono h<|VQ A 2
def AaB{f o l}{a:Nat}{code:Int}(d:∀v∈l,wv v)(b:HU f c o l a=.inr code):C7 code:=by
 unfold HU at b;dsimp only at b
 repeat' split at b
 all_goals first|(cases b;first|exact (AJb d 0)|decide)|cases b
theorem AJL{a c o}(h:JM a c=sM o):∃f b,c.top=sM f/\a.Ax[f.fn]? =sM b/\b.code[f.pc]? =sM o/\IY o/\Iq a f o/\HQ c (CU a o):=by grind[JM]
theorem AQm{j}(q:Ie j)(h:BC A c)(b d):BC (A+2) (Es j c b d).1/\∀v,((Es j c b d).2=.ended v\/(Es j c b d).2=.failed v)->wv v:=by
 rw[Es];split;refine⟨h.mono oG,λv l=> ?_⟩;rcases l with l|l<;>cases l;exact KF (-6);rename_i o C;let⟨f,F,w,z,D,G,a,i⟩:=AJL C;split;refine⟨h.mono oG,λv l=> ?_⟩
 grind
 split;rename_i e;have l:wv ((Ct c 1).getD 0 AZ):=by
  have:CU j o=1:=by rw[CU];rw[AY oG,e];rfl
  rw[this]at i;exact ZE (W9 h 1) (by rw[N1 i];decide)
 dsimp only;split;refine⟨(AHf h).mono oG,λv s=> ?_⟩
 grind
 refine⟨(JJ (AHf h) l).mono oG,λv s=> ?_⟩
 grind
 have x:=AQi h j o;have r:(Fl j c o).AG≠[]:=by let⟨g,m,_⟩:=AOE (im:=j) (o:=o) w;intro e;rw[Ay.top]at m;rw[e]at m;cases m
 split;rename_i u E;refine⟨AQk q x (W9 h _) (N1 i) (λe=> ?_) (λe=>⟨?_,r⟩) E,λv l=> ?_⟩;rw[Iq]at a;rw[e]at a;have a:decide (o.a<lN j.DN):=a;simpa using a;let⟨g,m,p⟩:=AOE (im:=j) (o:=o) w;rw[m];show o.a<lN g.Ai;rw[p];rw[Iq]at a;rw[e]at a;have a:decide (o.a<lN f.Ai):=a;simpa using a
 grind
 rename_i t y;have n:=AaB (W9 h _) y;refine⟨(AQl h n).mono oG,λv l=> ?_⟩
 grind[XA,KF]
structure BL(A S:Nat)(k:Call):Prop where
 t:BT A k.t
 o:∀n ob,Am k.s n=sM ob->BO A ob
 s:lN k.s<=S
structure BE(e:Eff):Prop where
 fk:lN e.BU<=1/\∀u∈e.BU,BT 20 u
 wk:lN e.BY<=1/\∀w∈e.BY,lN w.2<=1/\∀v∈w.2,wv v
 ou:lN e.out<=1/\∀x∈e.out,wv x.2/\A4 x.1=x.1/\A4 x.2.l=x.2.l
 lg:lN e.Bo<=1
structure BR(A S:Nat)(r:CR):Prop where
 l:BL (A+1) (S+1) r.1
 e:BE r.1.e
 st:r.2≠nO->r.1.t.Aw=0/\∀c,r.2=sM c->C7 c
def BE.zero:BE A8:=⟨⟨dC,nA⟩,⟨dC,nA⟩,⟨dC,nA⟩,dC⟩
def BL.mono(h:BL A S k)(p:A<=B)(q:S<=R):BL B R k:=⟨h.t.mono p,λn o a=>(h.o n o a).mono p,Ch h.s q⟩
def BT.core{t}(h:BT A t)(b:t.Aw≠1){d}(a:BC B d)(k:A<=B):BT B {t with c:=d}:=
 ⟨a,λq=>(b q).elim,(h.mono k).sc,(h.mono k).md,(h.mono k).sm,h.rm,h.vv,h.on,h.off⟩
def BL.core(h:BL A S k)(b:k.t.Aw≠1){d}(a:BC B d)(p:A<=B):BL B S {k with t:={k.t with c:=d}}:=⟨h.t.core b a p,(h.mono p<|Ag _).o,h.s⟩
def BL.push(h:BL A S k)(a:k.t.Aw≠1){v}(b:wv v):BL (A+1) S (k.push v):=h.core a (JJ h.t.c b)<|Cv _
def BL.Bp(h:BL A S k)(g):BL A S (k.Bp g):=⟨⟨h.t.c,h.t.wt,h.t.sc,h.t.md,h.t.sm,h.t.rm,h.t.vv,h.t.on,h.t.off⟩,h.o,h.s⟩
theorem BL.waits(h:BL A S k){n}(a:CB n)(b:k.t.Aw=0):BL (A+1) S (FG k n):=
 ⟨⟨h.t.c.mono<|Cv _,λ_=>O6 h.t.c.st,LM h.t.sc,LM h.t.md,(h.t.mono<|Cv _).sm,h.t.rm,(λq=>absurd q<|by show¬2<=1;decide),(λ_=>a),λq=>(q rfl).elim⟩,(h.mono (Cv _)<|Ag _).o,h.s⟩
theorem UG(s n o):lN (Cy s n o)<=lN s+1:=by grind[Cy]
theorem AEN(s n o):lN (Cn s n o)=lN s:=by grind[Cn]
theorem Vn{s}(h:∀n ob,Am s n=sM ob->BO A ob){n o}(a:BO A o):∀q ob,Am (Cy s n o) q=sM ob->BO A ob:=by grind[Ew,OF,I3]
theorem ACY{s}(h:∀n ob,Am s n=sM ob->BO A ob){n o}(a:BO A o):∀q ob,Am (Cn s n o) q=sM ob->BO A ob:=by grind[PV]
def BL.set(h:BL A S k)(p:A<=B){n o}(a:BO B o):BL B S {k with s:=Cn k.s n o}:=⟨h.t.mono p,ACY (h.mono p<|Ag _).o a,by show(Cn k.s n o).length<=S;rw[AEN];exact h.s⟩
def AGC{v}(h:wv v)(a:3<=v.kind):CB v.name:=by rcases h with h|h|h;rw[h.1]at a;trivial;rw[h]at a;trivial;exact h.2.2.2
theorem AV4(s l):C7 (Et s l).2:=by grind[Et,C7]
theorem AD1(s l):C7 (Dh s l):=by grind[Dh,C7]
theorem AVx(s l):C7 (Rm s l).2:=by grind[Rm,C7,AD1]
theorem AV1(s l):C7 (KW s l).2:=by grind[KW,C7]
theorem AVy(s l p):C7 (Ih s l p).2.1:=by grind[Ih,C7]
theorem AV0(s l p):C7 (Il s l p).2.1:=by grind[Il,C7]
theorem AVz{t}{g d:Nat}{a b l}{x y:Int}{f:Nat}{e:Int}(h:Js t g d a b l x y f=.inr e):C7 e:=by grind[Js,C7,AD1]
def BR.Cq(h:BL A S k)(b:k.e=A8)(a:k.t.Aw=0)(x)(d:∀c,x=sM c->C7 c:=by(intro c q;cases q<;>with_reducible first|exact AV4 _ _|exact AD1 _ _|exact AVx _ _|exact AV1 _ _|exact AVy _ _ _|exact AV0 _ _ _|decide)):BR A S (k,x):=⟨h.mono (Cv _)<|Cv _,by show BE k.e;rw[b];exact .zero,λ_=>⟨a,d⟩⟩
def AH4(h:BL A S k)(b:k.e=A8)(a:k.t.Aw=0){l f}(d:∀g,BR A S<|f<|k.Bp g):BR A S (G1 k l f):=by rw[G1];split;exact .Cq h b a _;exact d _
def AH3(h:BL A S k)(b:k.e=A8)(a:k.t.Aw=0){l f}(d:∀g,BR A S<|f<|k.Bp g):BR A S (Ga k l f):=by rw[Ga];split;exact .Cq h b a _;exact d _
theorem ACd{t u n}(h:BT A t)(d:GI t=sM (u,n))(a:t.Aw=0):BT (A+1) u/\u.Aw=0/\CB n/\u.A7=t.A7+1/\u.Ao=t.Ao-1:=by let⟨e,b,_⟩:=Mf d;subst e;exact⟨⟨h.c.mono<|Cv _,gR,LM h.sc,O6 h.md,(h.mono<|Cv _).sm,by show t.Ao-1<=999;have:=h.rm;omega,λq=>by grind,(λq=>by grind),λq=>h.off q⟩,a,(AIL b).2,rfl,rfl⟩
def Ya(h:BL A S k)(b:k.e=A8)(a:k.t.Aw=0){o}(i:BO A o)(g:3<=o.kind/\o.kind<=7):BR A S (Fv k o):=by
 rw[Fv];split;exact .Cq h b a _;split;exact .Cq h b a _;rename_i t n f;let⟨q1,q2,q3,q4,q5⟩:=ACd h.t f a;let⟨e,d,_⟩:=Mf f;refine⟨?_,by show BE k.e;rw[b];exact .zero,λq=>(q rfl).elim⟩;refine⟨?_,Vn (h.mono (Cv A)<|Ag _).o<|i.mono<|Cv _,Ch (UG _ _ _)<|O6 h.s⟩;have d:BC (A+1) (Df t.c<|BZ o.kind n o.l):=by rw[e];exact JJ h.t.c<|ABL g q3 _
 exact q1.core oG d<|Ag _
def Yb(h:BL A S k)(b:k.e=A8)(a:k.t.Aw=0){x f}(j:∀g o,Am k.s x.name=sM o->o.kind=x.kind->o.l=x.l->BR A S (f (k.Bp g) o)):BR A S (Ff k x f):=by refine AH4 h b a λg=> ?_;split;refine⟨((h.Bp g).push (by show k.t.Aw≠1;omega)<|KF 0).mono (Ag _)<|Cv _,by show BE k.e;rw[b];exact .zero,λq=>(q rfl).elim⟩;rename_i o l;let⟨d,e,i⟩:=HV l;exact j g o d e i
def AH5(h:BL A S k)(b:k.e=A8)(a:k.t.Aw=0){o}(d:wv o.v):BR A S (Ej k o):=by rw[Ej];split;exact .Cq h b a _ (λc q=>by cases q;exact AGB d);exact⟨(h.push oG d).mono (Ag _)<|Cv _,by show BE k.e;rw[b];exact .zero,λq=>(q rfl).elim⟩
def ADI{l:AA Wt}{P:Wt->Prop}(h:∀w∈l,P w)(i:Nat):∀w∈l.eraseIdx i,P w:=λw a=>h w<|ABk a
theorem ADH{a:Type}(l:AA a)(i):lN (l.eraseIdx i)<=lN l:=by grind
theorem Aci{ob}(h:BO A ob)(id)(hk:ob.kind=5):BO (A+1) {ob with var:=(GN ob.var id).1}/\∀v,(GN ob.var id).2.1=some v->wv v:=by
 have n3: ¬(ob.kind=3\/ob.kind=4):=oG;have n6: ¬ob.kind=6:=oG;rw[GN];split;rename_i a;refine⟨⟨by show(ob.var.q++[_]).length<=A+1;rw[List.length_append];have:=h.q;simp;omega,λq=>(n3 q).elim,λq=>(n6 q).elim,h.vf,λw hw hp=> ?_⟩,λv d=>by cases d⟩;rcases List.mem_append.1 hw with hw|hw;exact h.vq w hw hp
 grind
 rename_i a;have a:ob.var.full=true:=by simpa using a
 split;refine⟨⟨Nat.le_succ_of_le h.q,λq=>(n3 q).elim,λq=>(n6 q).elim,λq=>(by cases q),h.vq⟩,λv d=> ?_⟩;cases d;exact h.vf a;rename_i i hi;have b:=(List.findIdx?_eq_some_iff_getElem.1 hi).1;have hp:=(List.findIdx?_eq_some_iff_getElem.1 hi).2.1;refine⟨⟨Nat.le_succ_of_le (Nat.le_trans (ADH _ _) h.q),λq=>(n3 q).elim,λq=>(n6 q).elim,λ_=> ?_,ADI (P:=λw=>w.put=true->wv w.v) h.vq i⟩,λv d=> ?_⟩;show wv (ob.var.q.getD i default).v;rw[List.getD_eq_getElem?_getD,List.getElem?_eq_getElem b];exact h.vq _ (List.getElem_mem b) hp;cases d;exact h.vf a
theorem AaF{a}(h:BO A a)(j)(m:a.kind=5){y}(g:wv y):BO (A+1) {a with var:=(Gg a.var j y).1}:=by
 have d: ¬(a.kind=3\/a.kind=4):=oG;have e: ¬a.kind=6:=oG;rw[Gg];split;refine⟨by show(a.var.q++[_]).length<=A+1;rw[CK];have:=h.q;simp;omega,λq=>(d q).elim,λq=>(e q).elim,h.vf,λw b f=> ?_⟩;rcases Bc.1 b with b|b;exact h.vq w b f
 grind
 split;exact⟨LM h.q,λq=>(d q).elim,λq=>(e q).elim,λ_=>g,h.vq⟩;rename_i i l;exact⟨LM<|Ch (ADH _ _) h.q,λq=>(d q).elim,λq=>(e q).elim,h.vf,ADI (P:=λw=>w.put->wv w.v) h.vq i⟩
theorem AHg(k)(b:k.e=A8)(a){l}(d:lN l<=1/\∀v∈l,wv v):BE (EO k a l).e/\(EO k a l).t=k.t/\(EO k a l).s=k.s:=by rw[EO];split;rw[b];exact⟨.zero,rfl,rfl⟩;refine⟨?_,rfl,rfl⟩;show BE {k.e with BY:=k.e.BY++[(a,l)]};rw[b];exact{BE.zero with wk:=by grind[A8]}
def AHp(h:BL A S k)(a l):BL A S (EO k a l):=by rw[EO];split;exact h;exact⟨h.t,h.o,h.s⟩
theorem ARK{t u}{m g:Nat}{arg e l}{b f:Int}{j:Nat}(h:BT A t)(i:t.Aw=0)(z:wv arg)(a:Js t m g arg e l b f j=.inl u):BT (A+1) u:=by
 rw[Js]at a;split at a;cases a;split at a;cases a;rename_i C;split at a;cases a;split at a;cases a;rename_i E n r;split at a;cases a;split at a;cases a;rename_i c p;let⟨q1,q2,q3,q4,q5⟩:=ACd h r i;cases a;refine⟨(Vi h.c p (λv D=>by grind) sP).mono<|Cv _,λq=>absurd q gR,?_,Bm _,λx d=> ?_,by grind,λq=>absurd q gR,(λq=>absurd q gR),λq=>q1.off q⟩;show(t.AI++[_]).length<=A+1;rw[CK];have:=h.sc;simp;omega;rcases Bc.1 d with d|d;exact(h.mono<|Cv _).sm x d;rw[A9.1 d];have s:=h.md;have w:=h.rm;have y:=h.c.st
 grind
def Tc{kind l v fn AR}(a:kind=3\/kind=4->wv v):BO A {Db with kind:=kind,l:=l,v:=v,fn:=fn,AR:=AR}:=
 ⟨Bm _,a,λ_ q=>(by cases q),λq=>(by cases q),λw b=>(by cases b)⟩
def AH7(n g){c}(b:BC 20 c){a}(d:a<=999):BT 20 (Jw n g c a):=⟨b,(λq=>by cases q),Bm _,Bm _,nA,d,(λq=>absurd q<|by show¬2<=0;decide),(λq=>by cases q),λ_=>rfl⟩
theorem ACO:BC 20 ⟨[],[],[]⟩:=by constructor<;>grind
theorem AHY{im AD o AR l}(h:BL A S k)(b:k.e=A8)(a:k.t.Aw=0)(r:∀i,i<BP o.code->wv (l.getD i AZ))(J:∀i,i<BP o.code->A4 (l.getD i AZ).l=(l.getD i AZ).l):BR A S (CO im AD o AR l k):=by
 have p:BE k.e:=by rw[b];exact .zero
 have z:k.t.Aw≠1:=oG;rw[CO];dsimp only;split;exact⟨(h.push z<|S4 _).mono (Ag _)<|Cv _,p,λq=>(q rfl).elim⟩;exact⟨(h.push z<|S4 _).mono (Ag _)<|Cv _,p,λq=>(q rfl).elim⟩;split;exact .Cq h b a _;exact AH4 h b a λg=>.Cq (h.Bp g) b a _;split;exact .Cq h b a _;split;exact .Cq h b a _;exact BR.Cq (h.Bp (KW k.t.g (l.getD 0 AZ).l).1) b a nO;rename_i e;split;exact .Cq h b a _;exact Ya h b a (Tc λ_=>r 0<|by rw[e];decide) (by simp);split;exact .Cq h b a _;rename_i I;refine Yb h b a λg j m F G=>AH5 (h.Bp g) b a<|(h.o _ _ m).v3<|.inl oG;rename_i e;split;exact .Cq h b a _;exact Ya h b a (Tc λ_=>r 0<|by rw[e];decide) (by simp);split;exact .Cq h b a _;rename_i I;exact Yb h b a λg j m F G=>⟨((h.Bp g).push z<|(h.o _ _ m).v3<|.inr oG).mono (Ag _)<|Cv _,p,λq=>(q rfl).elim⟩;rename_i e;split;exact .Cq h b a _;split;exact .Cq h b a _;split;rename_i I _ _ j y;let⟨m,F,G⟩:=HV y;have E:=h.o _ _ m;refine .Cq (h.set (o:={j with v:=l.getD 1 AZ}) (Ag _) ⟨E.q,λ_=>r 1<|by rw[e];decide,λq=>absurd q gR,E.vf,E.vq⟩) b a _;exact .Cq h b a _;split;exact .Cq h b a _;simp_all[Ya,Tc,dC];rename_i e;split;exact .Cq h b a _;rename_i I;have D:wv (l.getD 0 AZ):=r 0 (by rw[e];decide);have x:=AGC D oG;refine AH3 h b a λg=> ?_;split;exact⟨((h.Bp g).waits x a).mono (Ag _)<|Cv _,p,λq=>(q rfl).elim⟩;rename_i j y;let⟨m,F,G⟩:=HV y;let⟨N,Y⟩:=Aci (h.o _ _ m) k.t.id oG;have f:=(h.Bp g).set (Cv A) (n:=(l.getD 0 AZ).name) N;split
 have C:BL (A+1) S (FG {k.Bp g with s:=Cn (k.Bp g).s (l.getD 0 AZ).name {j with var:=(GN j.var k.t.id).1}} (l.getD 0 AZ).name):=
  ⟨((h.Bp g).waits x a).t,f.o,f.s⟩
 exact⟨C.mono (Ag _)<|Cv _,p,λq=>(q rfl).elim⟩;rename_i v H;have V:BL (A+1) S ({k.Bp g with s:=Cn (k.Bp g).s (l.getD 0 AZ).name {j with var:=(GN j.var k.t.id).1}}.push v):=⟨((h.Bp g).push z<|Y v H).t,f.o,f.s⟩;exact⟨(AHp V _ _).mono (Ag _)<|Cv _,(by refine(AHg _ ?_ _ ⟨sP,nA⟩).1;exact b),λq=>(q rfl).elim⟩;rename_i e;split;exact .Cq h b a _;rename_i I;have D:wv (l.getD 0 AZ):=r 0 (by rw[e];decide);have W:wv (l.getD 1 AZ):=r 1 (by rw[e];decide);have x:=AGC D oG;refine AH3 h b a λg=> ?_;split;exact⟨((h.Bp g).waits x a).mono (Ag _)<|Cv _,p,λq=>(q rfl).elim⟩;rename_i j y;let⟨m,F,G⟩:=HV y;have f:=(h.Bp g).set (Cv A) (n:=(l.getD 0 AZ).name)<|AaF (h.o _ _ m) k.t.id oG W;split;have C:BL (A+1) S (FG {k.Bp g with s:=Cn (k.Bp g).s (l.getD 0 AZ).name {j with var:=(Gg j.var k.t.id<|l.getD 1 AZ).1}} (l.getD 0 AZ).name):=
  ⟨((h.Bp g).waits x a).t,f.o,f.s⟩
 exact⟨C.mono (Ag _)<|Cv _,p,λq=>(q rfl).elim⟩;exact⟨(AHp f _ _).mono (Ag _)<|Cv _,(by refine(AHg _ ?_ _ gR).1;exact b),λq=>(q rfl).elim⟩;rename_i e;split;exact .Cq h b a _;split;exact .Cq h b a _;split;exact .Cq h b a _;split;exact .Cq h b a _;rename_i X _ t n O;have D:wv (l.getD 0 AZ):=r 0 (by rw[e];decide);let⟨q1,q2,q3,q4,q5⟩:=ACd h.t O a;let⟨Q,hc,_⟩:=Mf O;have U:BC 20 ((Gc ⟨[],[],[]⟩ o.a (varsOf im o.a) [l.getD 0 AZ] AR).getD ⟨[],[],[]⟩):=by
  cases P:Gc ⟨[],[],[]⟩ o.a (varsOf im o.a) [l.getD 0 AZ] AR with
  |none=>exact ACO
  |some u=>exact Vi ACO P (λv H=>by grind) sP
 refine⟨?_,?_,λq=>(q rfl).elim⟩;have M:BT (A+1) {t with Ao:=t.Ao-(l.getD 1 AZ).n.toNat}:=⟨q1.c,q1.wt,q1.sc,q1.md,q1.sm,by show t.Ao-_<=999;have:=q1.rm;omega,q1.vv,q1.on,q1.off⟩;refine⟨?_,Vn (h.mono (Cv A)<|Ag _).o<|Tc λq=>absurd q dC,Ch (UG _ _ _)<|O6 h.s⟩;have K:BC (A+1) (Df t.c<|BZ 6 n (l.getD 2 AZ).l):=by rw[Q];exact JJ h.t.c<|ABL dC q3 _
 exact M.core (by show t.Aw≠1;omega) K<|Ag _;show BE {k.e with BU:=k.e.BU++[_]};rw[b];exact{BE.zero with fk:=by simp_all[A8,Bc,A9,AH7,oG]};rename_i e;split;exact .Cq h b a _;rename_i I;have D:wv (l.getD 0 AZ):=r 0 (by rw[e];decide);refine Yb h b a λg j m F G=> ?_;split;rename_i L;exact AH5 (h.Bp g) b a<|(h.o _ _ m).v6 oG L;exact⟨((h.Bp g).waits (AGC D oG) a).mono (Ag _)<|Cv _,p,λq=>(q rfl).elim⟩;rename_i e;split;exact .Cq h b a _;split;rename_i t M;exact⟨⟨ARK h.t a (r 0<|by rw[e];decide) M,(h.mono (Cv _)<|Ag _).o,LM h.s⟩,p,λq=>(q rfl).elim⟩;rename_i Z D;exact .Cq h b a _ (λc q=>by cases q;exact AVz D);rename_i e;split;exact .Cq h b a _;split;exact .Cq h b a _;refine⟨⟨h.t.mono<|Cv _,(h.mono (Cv _)<|Ag _).o,LM h.s⟩,?_,λq=>(q rfl).elim⟩;show BE {k.e with out:=k.e.out++[_]};rw[b]
 exact{BE.zero with ou:=⟨by simp[A8],λw C=>by rcases Bc.1 C with C|C;cases C;rw[A9.1 C];exact⟨r 0<|by rw[e];decide,J 1<|by rw[e];decide,J 0<|by rw[e];decide⟩⟩}
 split;exact .Cq h b a _;split;exact .Cq h b a _;refine⟨⟨((h.Bp _).mono (Cv _) (Cv _):BL (A+1) (S+1) _).t,(h.mono (Cv A)<|Cv S).o,(h.mono (Cv A)<|Cv S).s⟩,?_,λq=>(q rfl).elim⟩;show BE<|if _ then{k.e with Bo:=k.e.Bo++[_]}else k.e;split;rw[b];exact{BE.zero with lg:=by simp[A8]};exact p;split;exact .Cq h b a _;split;exact .Cq h b a _;refine⟨⟨((h.Bp _).mono (Cv _) (Cv _):BL (A+1) (S+1) _).t,(h.mono (Cv A)<|Cv S).o,(h.mono (Cv A)<|Cv S).s⟩,?_,λq=>(q rfl).elim⟩;show BE<|if _ then{k.e with Bo:=k.e.Bo++[_]}else k.e;split;rw[b];exact{BE.zero with lg:=by simp[A8]};exact p;split;exact .Cq h b a _;simp_all[Ya,Tc,dC];rename_i e;split;exact .Cq h b a _;refine Yb h b a λg j m F G=> ?_;split;rename_i d L;exact⟨((h.Bp g).core z (Vi (c:=k.t.c) h.t.c L (λv H=>by rw[A9.1 H];exact r 0<|by rw[e];decide) sP)<|Ag _).mono (Cv _)<|Cv _,p,λq=>(q rfl).elim⟩;exact .Cq (h.Bp g) b a _;exact .Cq h b a _
def ADS(h:BL A S k){v}(d:wv v)(ex:Bool):BL A S (E7 k v ex):=by
 have hb:BT A (Fq k.t v ex):=by
  have b:(Fq k.t v ex).Aw≠1/\2<=(Fq k.t v ex).Aw:=by show(if 0<k.t.AI.length then 2 else if ex then 4 else 3)≠1/\2<=(if 0<k.t.AI.length then 2 else if ex then 4 else 3);split;decide;split<;>decide
  exact⟨h.t.c,λq=>(b.1 q).elim,h.t.sc,h.t.md,h.t.sm,h.t.rm,λ_=>d,(λq=>(b.1 q).elim),λ_=>rfl⟩
 rw[E7];dsimp only;split;exact⟨hb,h.o,h.s⟩
 .refine⟨hb,?_,?_⟩
  .show∀n ob,Am (match Am k.s (Fq k.t v ex).id with|some o=>if o.kind=6 then Cn k.s (Fq k.t v ex).id {o with v:=v,ex:=ex,done:=true}else k.s|none=>k.s) n=some ob->BO A ob;split;rename_i o e;split;rename_i f;have a:=h.o _ _ e;exact ACY h.o ⟨a.q,λq=>absurd q (by show¬(o.kind=3\/o.kind=4);omega),λ_ _=>d,a.vf,a.vq⟩;exact h.o;exact h.o
  .show(match Am k.s (Fq k.t v ex).id with|some o=>if o.kind=6 then Cn k.s (Fq k.t v ex).id {o with v:=v,ex:=ex,done:=true}else k.s|none=>k.s).length<=S;split;split;rw[AEN];exact h.s;exact h.s;exact h.s
def ADU(k v)(a:Bool):(E7 k v a).e.out=k.e.out:=by rw[E7];dsimp only;split<;>rfl
def AaS(k c)(b:Int)(a:Nat):(EH k c b a).e.out=k.e.out:=by rw[EH];split;rw[ADU];rfl
def AMW(h:BL B S k)(f:k.t.Aw≠1)(i:BC B c)(p:lN c.stack+1<=B)(b:Int)(a:Nat)(d:C7 b):BL B S (EH k c b a):=by have g:=AHe i p (code:=b) (A2:=a) d;rw[EH];rcases XA c b a with q|⟨q,q2⟩;have e:FF c b a=((FF c b a).1,.Iu):=Prod.ext rfl q;rw[e];exact h.core f g<|Ag _;have e:FF c b a=((FF c b a).1,.failed<|BH b):=Prod.ext rfl q;rw[e];exact ADS (h.core f g<|Ag _) (KF _ d) _
def ACQ{e e'}(h:BE e)(a:e'.BU=e.BU)(b:e'.BY=e.BY)(d:e'.out=e.out)(f:e'.Bo=e.Bo):BE e':=⟨by rw[a];exact h.fk,by rw[b];exact h.wk,by rw[d];exact h.ou,by rw[f];exact h.lg⟩
def AC6{im}(j:Ie im){t s AD}(d:BT A t)(w:t.Aw=0)(I:∀n o,Am s n=sM o->BO A o)(J:lN s<=S)(l:∀v∈t.c.stack,A4 v.l=v.l):BL (A+2) (S+1) (C6 im t s AD)/\BE (C6 im t s AD).e:=by
 have z:BL A S ⟨s,t,A8⟩:=⟨d,I,J⟩;have e:t.Aw≠1:=oG;let⟨F,C⟩:=AQm j d.c (CV t).1 (CV t).2;have g:BL (A+2) (S+1) ⟨s,{t with c:=(Es im t.c (CV t).1 (CV t).2).1},A8⟩:=(z.core e F oG).mono (Ag _)<|Cv _;rw[C6];rw[AY oG];dsimp only;cases m:(Es im t.c (CV t).1 (CV t).2).2 with
 |Iu=>exact⟨g,.zero⟩
 |ended v=>exact⟨ADS g (C v<|.inl m) _,ACQ .zero (MW _ _ _).2.1 (MW _ _ _).2.2 (ADU _ _ _) (MW _ _ _).1⟩
 |failed v=>exact⟨ADS g (C v<|.inr m) _,ACQ .zero (MW _ _ _).2.1 (MW _ _ _).2.2 (ADU _ _ _) (MW _ _ _).1⟩
 |asked o=>
  let⟨G,E,_⟩:=AAt m;have a:=ADY G;have x:CU im o=BP o.code:=by rw[CU];rw[AY<|ACM E]
  rw[x]at a;have hlen:=N1 a;have D:BL A S ⟨s,{t with c:=D4 (FR t.c<|BP o.code) λf=>{f with pc:=f.pc+1}},A8⟩:=z.core e (Rj (ACP d.c _) λ_ q=>q)<|Ag _;have b:=AHY (im:=im) (AD:=AD) (o:=o) (AR:=(t.c.top.getD Al).AR) (l:=Ct t.c<|BP o.code) D rfl w (λi H=>ZE (W9 d.c _) oG) (λi H=>by rw[DK,BS oG];exact l _<|Mx<|DR _)
  show BL (A+2) (S+1) (Gt im AD (CV t).2 o ⟨s,t,A8⟩)/\BE (Gt im AD (CV t).2 o ⟨s,t,A8⟩).e;rw[Gt];dsimp only;generalize CO im AD o _ _ _=r at b;obtain⟨K,_|y⟩:=r;exact⟨b.l.mono oG<|Ag _,b.e⟩;let⟨p,h⟩:=b.st sP;exact⟨AMW (b.l.mono oG<|Ag _) (by have:K.t.Aw=0:=p;omega) (d.c.mono oG) (by have:=d.c.st;omega) _ _<|h _ rfl,ACQ b.e (Q7 _ _ _ _).2.1 (Q7 _ _ _ _).2.2 (AaS _ _ _ _) (Q7 _ _ _ _).1⟩
def Q6(l t):lN (A1 l t)=lN l:=by rw[A1];rw[DG]
def AJX(l t):lN (CC l t)<=lN l+1:=by rw[CC];split;rw[Q6];omega;exact Nat.le_of_eq (AD3 l t).length_eq
def ALG{l t x}(h:x∈CC l t):x=t\/x∈l:=by rw[CC]at h;split at h;rcases I6 h with h|h;exact .inl h;exact .inr h.1;exact Pg.1 h
theorem BK.put{a s}(h:BK A S a s){t}(d:BT A t):BK A S (A1 a t) s:=⟨λx b=>by rcases I6 b with rfl|b;exact d;exact h.ts x b.1,h.os,by rw[Q6];exact h.tl,h.sl⟩
def BK.BU{a s}(h:BK A S a s){t}(e:BT A t):BK (A+1) S (CC a t) s:=⟨λx b=>by rcases ALG b with rfl|b;exact e.mono<|Cv _;exact(h.ts x b).mono<|Cv _,λn o d=>(h.os n o d).mono<|Cv _,Ch (AJX _ _)<|O6 h.tl,h.sl⟩
def ARM{t}(h:BT A t){l}(b:lN l<=1/\∀v∈l,wv v):BT (A+1) (DX t l):=by refine⟨⟨h.c.fr,?_,LM h.c.tr,λv a=> ?_,h.c.vf⟩,(λq=>by cases q),LM h.sc,LM h.md,(h.mono<|Cv _).sm,h.rm,(λq=>absurd q<|by show¬2<=0;decide),(λq=>by cases q),λ_=>rfl⟩;show(t.c.stack++l).length<=A+1;rw[CK];have:=h.c.st;omega;rcases Bc.1 a with a|a;exact h.c.vs v a;exact b.2 v a
def AH8{t}(h:BT A t)(b:t.Aw=1){l}(d:lN l<=1/\∀v∈l,wv v):BT A (DX t l):=by have e:=h.wt b;refine⟨⟨h.c.fr,?_,h.c.tr,λv a=> ?_,h.c.vf⟩,(λq=>by cases q),h.sc,h.md,h.sm,h.rm,(λq=>absurd q<|by show¬2<=0;decide),(λq=>by cases q),λ_=>rfl⟩;show(t.c.stack++l).length<=A;rw[CK];omega;rcases Bc.1 a with a|a;exact h.c.vs v a;exact d.2 v a
def AFG{t s}(b:BT A t)(a:t.Aw=1)(f:∀n o,Am s n=sM o->BO A o)(g:lN s<=S){v}(h:wv v)(i:Bool):BL A S (Dv t s v i):=by rw[Dv];split;exact⟨AH8 b a ⟨sP,λx d=>by rwa[A9.1 d]⟩,f,g⟩;have e:BL A S ⟨s,DX t [],A8⟩:=⟨AH8 b a ⟨sP,nA⟩,f,g⟩;exact AMW e (by show(0:Nat)≠1;decide) e.t.c (by show(t.c.stack++[]).length+1<=A;rw[Hn];exact b.wt a) _ _<|AGB h
def AIp:∀(n:Nat) {k:Ap} (e:Nm),BK A S k.AC k.Ah->BK A S (GD n k e).AC (GD n k e).Ah
 |0,_,_,h=>h
 |n+1,k,e,h=>by rw[GD];refine NC (P:=λk:Ap=>BK A S k.AC k.Ah) (λk x h=> ?_) _ h;split;exact h;rename_i t i;split;exact h;rename_i f;simp[Jk,Ka]at f;split;exact h;rename_i o g;split;exact h;rename_i d;simp[Jk,Ka,Jf,Bool.not_eq_false]at d;have b:=AFG (h.ts t<|D2 i) f.1 h.os h.sl ((h.os _ _ g).v6 d.1 d.2) o.ex;have a:BK A S (A1 k.AC (Dv t k.Ah o.v o.ex).t) (Dv t k.Ah o.v o.ex).s:=⟨(h.put b.t).ts,b.o,(h.put b.t).tl,b.s⟩;dsimp only;split;exact AIp n (k:={k with Ah:=(Dv t k.Ah o.v o.ex).s,AC:=A1 k.AC (Dv t k.Ah o.v o.ex).t}) x a;exact a
def AOe{a s}(h:BK A S a s)(w)(d:lN w.2<=1/\∀v∈w.2,wv v):BK (A+1) S (Gi a w) s:=by rw[Gi];split;rename_i t b;exact(h.mono (Cv _)<|Ag _).put<|ARM (h.ts t<|D2 b) d;exact h.mono (Cv _)<|Ag _
def Ii{a:Type}{l:AA a}(h:lN l<=1):l=[]\/∃x,l=[x]:=by
 cases l with
 |nil=>exact .inl rfl
 |cons x l=>cases l with
  |nil=>exact .inr ⟨x,rfl⟩
  |cons y l=>simp at h
structure BF(N:Nat)(k:Ap):Prop where
 fl:lN k.Bj<=N
 ll:lN k.B5<=N
 fv:∀f∈k.Bj,wv f.v/\A4 f.l=f.l/\A4 f.v.l=f.v.l/\CB f.id
 ln:∀x∈k.B5,CB x.id
def ANA{k:Ap}{m M N}(n:Ie k.im)(G:20<=A)(h:BK A S k.AC k.Ah)(hF:BF N k)(E:KK m M k)(p):BK (A+4) (S+1) (runK k p).1.AC (runK k p).1.Ah/\BF (N+1) (runK k p).1:=by
 have g:BF (N+1) k:=⟨LM hF.fl,LM hF.ll,hF.fv,hF.ln⟩;unfold runK;split;exact⟨h.mono oG oG,g⟩;rename_i t o;have hid:=E2 o;subst hid;dsimp only;split;exact⟨h.mono oG oG,g⟩;rename_i i;have i:t.Aw=0:=oG;have j:=E.ki.of o;let⟨l,b⟩:=AC6 (im:=k.im) (AD:=k.AD) n (h.ts t<|D2 o) i h.os h.sl λv F=>(j.FL.st v F).Cj;generalize C6 k.im t k.Ah k.AD=r at l b⊢;have w:BK (A+2) (S+1) (A1 k.AC r.t) r.s:=⟨((h.mono (B:=A+2) oG<|Ag _).put l.t).ts,l.o,by rw[Q6];have:=h.tl;omega,l.s⟩;have z:BK (A+3) (S+1) (r.e.BU.foldl CC<|A1 k.AC r.t) r.s:=by rcases Ii b.fk.1 with e|⟨u,e⟩;rw[e];exact w.mono oG<|Ag _;have:=b.fk.2 u (by rw[e];exact DT);rw[e];exact w.BU<|this.mono oG
 have C:BK (A+4) (S+1) (r.e.BY.foldl Gi<|r.e.BU.foldl CC<|A1 k.AC r.t) r.s:=by rcases Ii b.wk.1 with e|⟨u,e⟩;rw[e];exact z.mono oG<|Ag _;have:=b.wk.2 u (by rw[e];exact DT);rw[e];exact AOe z u this
 have D:CB t.id:=j.HM t.id DT;have a:∀k':Ap,k'.Bj=k.Bj++r.e.out.map (λx:AT×AW=>(⟨k.AD,t.id,x.1,x.2⟩:FU))->k'.B5=k.B5++r.e.Bo.map (λx:Gr=>(⟨k.AD,t.id,x⟩:Lk))->BF (N+1) k':=λk' q s=>by refine⟨?_,?_,λf a=> ?_,λx d=> ?_⟩;rw[q,CK,DG];have:=hF.fl;have:=b.ou.1;omega;rw[s,CK,DG];have:=hF.ll;have:=b.lg;omega;rw[q]at a;rcases Bc.1 a with a|a;exact hF.fv f a;let⟨x,d,e⟩:=BI.1 a;subst e;let⟨q1,q2,q3⟩:=b.ou.2 x d;exact⟨q1,q2,q3,D⟩;rw[s]at d;rcases Bc.1 d with d|d;exact hF.ln x d;let⟨y,H,e⟩:=BI.1 d;subst e;exact D
 rw[Oz];split;refine⟨AIp _ _ C,a _ ?_ ?_⟩;rw[(Kp _ _ _).2.1];rw[(Kp _ _ _).1];exact⟨C,a _ rfl rfl⟩
def ARL{t}(h:BT A t){i}(e:i<lN t.AI)(j:∀x∈t.AI,CB x.name):BT A (GH t i):=by
 have d:t.AI.getD i Al=t.AI[i]:=by rw[DK,BS e];rfl
 have f:=h.sm _<|DR e;have a:=AQj h.c (t.AI[i]).AG (t.AI[i]).Cg (t.AI[i]).AP;have g:BC A (Df (Ee t.c (t.AI[i]).AG (t.AI[i]).Cg (t.AI[i]).AP)<|BZ 3 (t.AI[i]).name (t.AI[i]).l):=by refine⟨a.fr,?_,a.tr,λv b=> ?_,a.vf⟩;show(t.c.stack.take _++[_]).length<=A;rw[CK,Cu];simp;omega;rcases Bc.1 b with b|b;exact a.vs v b;rw[A9.1 b];exact ABL dC (j _<|DR e) _
 rw[GH];rw[d];exact⟨g,(λq=>by cases q),by show(t.AI.take i).length<=A;rw[Cu];have:=h.sc;omega,f.1,λx l=>h.sm x<|Fg l,f.2.1,(λq=>absurd q<|by show¬2<=0;decide),(λq=>by cases q),λ_=>rfl⟩
def AJV{s}(h:∀n o,Am s n=sM o->BO A o)(on b):(∀n o,Am (Gy s on b) n=sM o->BO A o)/\lN (Gy s on b)=lN s:=by rw[Gy];split;rename_i o d;split;rename_i g;split;rename_i x f;let⟨i,w,_,_,e⟩:=AEK f;have a:=h _ _ d;refine⟨ACY h ?_,AEN _ _ _⟩;rw[e];exact⟨Ch (ADH _ _) a.q,λq=>absurd q<|by show¬(o.kind=3\/o.kind=4);omega,λq=>absurd q<|by show¬o.kind=6;omega,a.vf,ADI (P:=λw=>w.put->wv w.v) a.vq i⟩;exact⟨h,rfl⟩;exact⟨h,rfl⟩;exact⟨h,rfl⟩
def AXF{k m M}(h:BK A S k.AC k.Ah)(o:KK m M k){t}(g:Af k.AC t.id=sM t){i}(n:i<lN t.AI):BK A (S+1) (I4 k t i).AC (I4 k t i).Ah:=by
 have a:=h.ts t<|D2 g;have f:BO A (GF t i):=by refine⟨Bm _,λ_=> ?_,λq=>absurd q<|by show¬(3:Nat)=6;decide,λq=>(by cases q),λw r=>(by cases r)⟩;show wv (IF t i).1;rw[IF];split;exact KF _ dC;rename_i d;simp[Jk,Ka]at d;split;exact KF _ dC;exact a.vv oG
 have b:=h.put<|ARL a n λx s=>(o.ki.of g).HM _<|DY _<|BI.2 ⟨x,s,rfl⟩;rw[I4];split;let⟨j,l⟩:=AJV h.os t.on t.id;exact⟨b.ts,Vn j f,b.tl,Ch (UG _ _ _)<|by rw[l];exact O6 h.sl⟩;exact⟨b.ts,Vn h.os f,b.tl,Ch (UG _ _ _)<|O6 h.sl⟩
def AQq{k m M}(h:BK A S k.AC k.Ah)(e:KK m M k)(b):BK A (S+1) (Fp k b).AC (Fp k b).Ah:=by rw[Fp];split;rename_i t a;split;rename_i i d;exact AXF h e (by rwa[E2 a])<|PK d;exact h.mono (Ag _)<|Cv _;exact h.mono (Ag _)<|Cv _
def ADc{m M}:∀(l:AA Nm) {k:Ap} {S:Nat},BK A S k.AC k.Ah->KK m M k->BK A (S+lN l) (l.foldl Fp k).AC (l.foldl Fp k).Ah
 |[],_,_,h,_=>h
 |x::l,k,S,h,hk=>by have:=ADc l (AQq h hk x)<|Rk hk x;rwa[FM,show S+(lN l+1)=S+1+lN l by omega]
def Vj{k m M N}(h:BK A S k.AC k.Ah)(hF:BF N k)(d:KK m M k):BK A (S+A) (Fo k).AC (Fo k).Ah/\BF N (Fo k):=by let⟨e,f,a,b⟩:=QQ k;refine⟨?_,by rw[a];exact hF.fl,by rw[b];exact hF.ll,by rw[a];exact hF.fv,by rw[b];exact hF.ln⟩;rw[Fo];have:=ADc (k.AC.map (·.id)) (k:={k with AD:=k.AD+1}) h ⟨d.ki,d.kq⟩;refine this.mono (Ag _) ?_;rw[DG];have:=h.tl;omega
structure G2(g h:St):Prop where
 Ad:fl g.Ad h.Ad
 A5:fl h.A5 g.A5
def OQ{a b c}(h:fl a b)(k:fl b c):fl a c:=IV.2<|le_trans (IV.1 h)<|IV.1 k
def G2.refl(g):G2 g g:=⟨QZ _,QZ _⟩
def G2.trans{a b c}(h:G2 a b)(k:G2 b c):G2 a c:=⟨OQ h.Ad k.Ad,OQ k.A5 h.A5⟩
def LG(a:St)(b:AH)(k:Call):Prop:=
 (k.e.Bo=[]/\G2 a k.t.g)\/∃x,k.e.Bo=[x]/\x.AR=b/\(x.to=k.t.g.Ad\/x.to=k.t.g.A5)/\(x.Qa=a.Ad\/x.Qa=a.A5)/\(fl a.Ad k.t.g.Ad=fF\/fl k.t.g.A5 a.A5=fF)
structure Up(g0:St)(k:Call):Prop where
 Bo:k.e.Bo=[]
 g:G2 g0 k.t.g
 fk:k.e.BU=[]
def FK(t:AL)(k:Call):Prop:=k.e.BU=[]\/∃u,k.e.BU=[u]/\u.id=t.Bg++[t.A7]
def AFy{a}(h:Up a k){g}(b:G2 k.t.g g):Up a (k.Bp g):=⟨h.Bo,h.g.trans b,h.fk⟩
def AOT{a}(h:Up a k){l f}(c:∀b,Up a b->Up a (f b).1):Up a (G1 k l f).1:=by rw[G1];split;exact h;refine c _<|AFy h ?_;rw[Et];split;exact⟨IV.2<|AW4 _ _,QZ _⟩;exact G2.refl _
def AOS{a}(h:Up a k){l f}(c:∀b,Up a b->Up a (f b).1):Up a (Ga k l f).1:=by rw[Ga];split;exact h;rename_i d;refine c _<|AFy h ⟨?_,QZ _⟩;have:=(S0<|by simpa using d).1;show fl k.t.g.Ad<|A4 l;rwa[R6]
def Z5{t u n}(h:GI t=sM (u,n)):u.g=t.g/\u.id=t.id/\u.c=t.c/\u.AI=t.AI/\u.Aw=t.Aw:=by rw[(Mf h).1];exact⟨rfl,rfl,rfl,rfl,rfl⟩
def ABB{a}(h:Up a k){o}:Up a (Fv k o).1:=by rw[Fv];split;exact h;split;exact h;rename_i t n b;exact⟨h.Bo,by show G2 a t.g;rw[(Z5 b).1];exact h.g,h.fk⟩
def ABC{a}(h:Up a k){x f}(d:∀c o,Up a c->Up a (f c o).1):Up a (Ff k x f).1:=by refine AOT h λc b=> ?_;split;exact⟨b.Bo,b.g,b.fk⟩;exact d _ _ b
def AOU{a}(h:Up a k){o}:Up a (Ej k o).1:=by rw[Ej];split;exact h;exact⟨h.Bo,h.g,h.fk⟩
def Vw{p n i}(h:child p i=sM n):n=p++[i]:=by rw[child]at h;split at h;cases h;rfl;cases h
def AHb{im AD o AR l}(y:∀v∈l,A4 v.l=v.l)(p:k.e=A8):LG k.t.g AR (CO im AD o AR l k).1/\((CO im AD o AR l k).2≠nO->(CO im AD o AR l k).1.e.Bo=[]/\G2 k.t.g (CO im AD o AR l k).1.t.g)/\FK k.t (CO im AD o AR l k).1:=by
 have h:Up k.t.g k:=⟨by rw[p];rfl,G2.refl _,by rw[p];rfl⟩;have Bz:∀r:CR,Up k.t.g r.1->LG k.t.g AR r.1/\(r.2≠nO->r.1.e.Bo=[]/\G2 k.t.g r.1.t.g)/\FK k.t r.1:=λr i=>⟨.inl ⟨i.Bo,i.g⟩,λ_=>⟨i.Bo,i.g⟩,.inl i.fk⟩;have w:A4 (l.getD 0 AZ).l=(l.getD 0 AZ).l:=by
  rw[DK];cases e:l[0]? with
  |none=>exact AAF
  |some v=>exact y v<|De e
 rw[CO];dsimp only;split;exact Bz _ ⟨h.Bo,h.g,h.fk⟩;exact Bz _ ⟨h.Bo,h.g,h.fk⟩;split;exact Bz _ h;exact Bz _<|AOT h λd a=>a;split;exact Bz _ h;split;exact Bz _ h;rename_i b;refine Bz _<|AFy h ?_;rw[KW]at b⊢;split;rename_i f;split;exact⟨QZ _,by show fl (A4 _) _;rwa[LW]⟩;exact G2.refl _;exact G2.refl _;split;exact Bz _ h;exact Bz _<|ABB h;split;exact Bz _ h;exact Bz _<|ABC h λd o a=>AOU a;split;exact Bz _ h;exact Bz _<|ABB h;split;exact Bz _ h;exact Bz _<|ABC h λd o a=>⟨a.Bo,a.g,a.fk⟩;split;exact Bz _ h;split;exact Bz _ h;split;exact Bz _ ⟨h.Bo,h.g,h.fk⟩;exact Bz _ h;split;exact Bz _ h;exact Bz _<|ABB h;split;exact Bz _ h;refine Bz _<|AOS h λd a=> ?_;split;exact⟨a.Bo,a.g,a.fk⟩;split;exact⟨a.Bo,a.g,a.fk⟩;rw[EO];split<;>exact⟨a.Bo,a.g,a.fk⟩;split;exact Bz _ h;refine Bz _<|AOS h λd a=> ?_;split;exact⟨a.Bo,a.g,a.fk⟩;split;exact⟨a.Bo,a.g,a.fk⟩;rw[EO];split<;>exact⟨a.Bo,a.g,a.fk⟩;split;exact Bz _ h;split;exact Bz _ h;split;exact Bz _ h;split;exact Bz _ h;rename_i t n j;have s:G2 k.t.g t.g:=by rw[(Z5 j).1];exact h.g
 refine⟨.inl ⟨h.Bo,s⟩,λ_=>⟨h.Bo,s⟩,.inr ⟨_,by show k.e.BU++[_]=_;rw[h.fk];rfl,?_⟩⟩;exact(Vw (Mf j).2.1);split;exact Bz _ h;refine Bz _<|ABC h λd o a=> ?_;split;exact AOU a;exact⟨a.Bo,a.g,a.fk⟩;split;exact Bz _ h;split;rename_i t c;refine Bz _ ⟨h.Bo,?_,h.fk⟩;show G2 k.t.g t.g;rw[Js]at c;split at c;cases c;split at c;cases c;split at c;cases c;rename_i b;split at c;cases c;rename_i u x j;split at c;cases c;split at c;cases c;cases c;have:=(S0<|by simpa using b).2;exact⟨by show fl _ u.g.Ad;rw[(Z5 j).1];exact QZ _,by show fl (A4 _) _;rwa[LW]⟩;exact Bz _ h;split;exact Bz _ h;split;exact Bz _ h;exact Bz _ ⟨h.Bo,h.g,h.fk⟩;split;exact Bz _ h;split;exact Bz _ h;rename_i b;refine⟨?_,λq=>(q rfl).elim,.inl<|by dsimp only;split<;>exact h.fk⟩;rw[LG];rw[Ih]at b⊢;split at b;rename_i f;split at b;rename_i m;rw[Ac f,Ac m];dsimp only;cases g:fl k.t.g.Ad (l.getD 0 AZ).l with
 |true=>exact .inl ⟨h.Bo,⟨by show fl _<|A4 _;rwa[R6],QZ _⟩⟩
 |false=>exact .inr ⟨⟨42,k.t.g.Ad,(l.getD 0 AZ).l,AR⟩,by show k.e.Bo++[_]=_;rw[h.Bo];rfl,rfl,.inl w.symm,.inl rfl,.inl<|by show fl _ (A4 _)=fF;rwa[R6]⟩
 simp at b;simp at b;split;exact Bz _ h;split;exact Bz _ h;rename_i b;refine⟨?_,λq=>(q rfl).elim,.inl<|by dsimp only;split<;>exact h.fk⟩;rw[LG];rw[Il]at b⊢;split at b;rename_i f;split at b;rename_i m;rw[Ac f,Ac m];dsimp only;cases g:fl (l.getD 0 AZ).l k.t.g.A5 with
 |true=>exact .inl ⟨h.Bo,⟨QZ _,by show fl (A4 _) _;rwa[LW]⟩⟩
 |false=>exact .inr ⟨⟨43,k.t.g.A5,(l.getD 0 AZ).l,AR⟩,by show k.e.Bo++[_]=_;rw[h.Bo];rfl,rfl,.inr w.symm,.inr rfl,.inr<|by show fl (A4 _) _=fF;rwa[LW]⟩
 simp at b;simp at b;split;exact Bz _ h;exact Bz _<|ABB h;split;exact Bz _ h;refine Bz _<|ABC h λd o a=> ?_;split;exact⟨a.Bo,a.g,a.fk⟩;exact a;exact Bz _ h
def ADV(k v)(a:Bool):(E7 k v a).t.g=k.t.g:=by rw[E7];dsimp only;split<;>rfl
theorem AMY(k c)(b:Int)(a:Nat):(EH k c b a).t.g=k.t.g:=by rw[EH];split;exact ADV _ _ _;rfl
def ASh{im t s AD}(d:t.Aw=0)(p:∀v∈t.c.stack,A4 v.l=v.l):((C6 im t s AD).e.Bo=[]/\G2 t.g (C6 im t s AD).t.g)\/∃f,t.c.top=sM f/\LG t.g f.AR (C6 im t s AD):=by
 rw[C6];rw[AY<|by rw[d];decide];dsimp only;cases n:(Es im t.c (CV t).1 (CV t).2).2 with
 |Iu=>exact .inl ⟨rfl,G2.refl _⟩
 |ended v=>exact .inl ⟨(MW _ _ _).1,by rw[ADV];exact G2.refl _⟩
 |failed v=>exact .inl ⟨(MW _ _ _).1,by rw[ADV];exact G2.refl _⟩
 |asked o=>
  let⟨m,q,_⟩:=AAt n;have a:=ADZ m;obtain⟨f,j⟩:∃f,t.c.top=sM f:=by
   cases e:t.c.top with
   |none=>rw[Ay.top]at e;rw[S8]at e;rw[e]at a;cases a
   |some f=>exact⟨f,rfl⟩
  dsimp only;rw[Gt];dsimp only;have l:∀v∈Ct t.c (BP o.code),A4 v.l=v.l:=λv g=>p v<|Mx g;have:=AHb (im:=im) (AD:=AD) (o:=o) (AR:=(t.c.top.getD Al).AR) (k:=⟨s,{t with c:=D4 (FR t.c<|BP o.code) λf=>{f with pc:=f.pc+1}},A8⟩) l rfl;have b:(t.c.top.getD Al).AR=f.AR:=by rw[j];rfl
  rw[b]at this⊢;generalize CO im AD o _ _ _=r at this;obtain⟨u,_|h⟩:=r;exact .inr ⟨f,j,this.1⟩;left;have i:=this.2.1 sP;exact⟨by dsimp only;rw[(Q7 _ _ _ _).1];exact i.1,by dsimp only;rw[AMY];exact i.2⟩
def AC8{im t s AD}(a:t.Aw=0)(g:∀v∈t.c.stack,A4 v.l=v.l):FK t (C6 im t s AD):=by
 rw[C6];rw[AY<|by rw[a];decide];dsimp only;cases h:(Es im t.c (CV t).1 (CV t).2).2 with
 |Iu=>exact .inl rfl
 |ended v=>exact .inl (MW _ _ _).2.1
 |failed v=>exact .inl (MW _ _ _).2.1
 |asked o=>
  dsimp only;rw[Gt];dsimp only;have e:∀v∈Ct t.c (BP o.code),A4 v.l=v.l:=λv b=>g v<|Mx b;have:=(AHb (im:=im) (AD:=AD) (o:=o) (AR:=(t.c.top.getD Al).AR) (k:=⟨s,{t with c:=D4 (FR t.c<|BP o.code) λf=>{f with pc:=f.pc+1}},A8⟩) e rfl).2.2;generalize CO im AD o _ _ _=r at this;obtain⟨i,_|d⟩:=r;exact this;rw[FK];dsimp only;rwa[(Q7 _ _ _ _).2.1]
def AXh{m M k t}(h:KK m M k)(j:Af k.AC t.id=sM t)(c:t.Aw=0):∀x∈(C6 k.im t k.Ah k.AD).e.Bo,M x.AR:=λx a=>by have b:=h.ki.of j;rcases ASh (im:=k.im) (s:=k.Ah) (AD:=k.AD) c (λv l=>(b.FL.st v l).Cj)with⟨e,_⟩|⟨f,g,d⟩;rw[e]at a;cases a;rcases d with⟨e,_⟩|⟨y,e,i,_⟩;rw[e]at a;cases a;rw[e]at a;rw[A9.1 a,i];exact(b.FL.fr f<|AA1 g).1
variable{A:AL}
structure Inv(m:AT)(AC:AA AL)(s:Az)(k:Call):Prop where
 B0:Ca m s k.s
 BU:∀u∈k.e.BU,fl u.g.Ad m=fF/\u.AI=[]
 out:∀x∈k.e.out,fl x.1 m=fF
 BY:∀w∈k.e.BY,∀t,Af AC w.1=sM t->fl t.g.Ad m=fF
def Inv.AFr(c:k.s=s)(b:k.e.BU=[]/\k.e.out=[]/\k.e.BY=[]):Inv m AC s k:=
 ⟨by rw[c];exact Ca.refl _,(λu a=>by rw[b.1]at a;cases a),(λu a=>by rw[b.2.1]at a;cases a),(λu a=>by rw[b.2.2]at a;cases a)⟩
def Inv.Mq(b:k.s=s)(a:k.e=A8):Inv m AC s k:=Inv.AFr b ⟨by rw[a];rfl,by rw[a];rfl,by rw[a];rfl⟩
def ZM{a b}(h:fl a m=fF)(k:fl a b):fl b m=fF:=by
 cases e:fl b m with
 |false=>rfl
 |true=>rw[OQ k e]at h;cases h
def Inv.mk0{k'}(c:Ca m s k'.s)(b:k'.e=A8):Inv m AC s k':=
 ⟨c,(λu a=>by rw[b]at a;cases a),(λu a=>by rw[b]at a;cases a),(λu a=>by rw[b]at a;cases a)⟩
def Inv.add(c:k.s=s)(a:k.e=A8){n o}(b:fl o.l m=fF)(t):Inv m AC s (OE {k with t:=t} n o):=
 Inv.mk0 (λq=>by show Je m s q=Je m (Cy k.s n o) q;rw[ABF b,c]) a
def Inv.set(a:k.e=A8){n o}(b:fl o.l m=fF){u}:Inv m AC k.s {k with s:=Cn k.s n o,t:=u}:=
 Inv.mk0 (λq=>(Xe b q).symm) a
def LR(AC:AA AL)(s:Az):Prop:=∀n o,Am s n=sM o->∀w∈o.var.q,∃t,Af AC w.id=sM t/\t.g.Ad=o.l
def KI.qok(h:KI m M AC s):LR AC s:=λn o c w d=>by let⟨t,a,_,_,b⟩:=(h.Dn n o c).2 w d;exact⟨t,a,b⟩
def AFe{x id}:(GN x id).2.2=[]\/∃w∈x.q,w.id=(GN x id).2.2:=by rw[GN];split;exact .inl rfl;split;exact .inl rfl;rename_i i b;let⟨a,_⟩:=Lv.1 b;right;exact⟨x.q[i],DR a,by simp[DK,a]⟩
def AFB{x id v}:(Gg x id v).2.2=[]\/∃w∈x.q,w.id=(Gg x id v).2.2:=by rw[Gg];split;exact .inl rfl;split;exact .inl rfl;rename_i i b;let⟨a,_⟩:=Lv.1 b;right;exact⟨x.q[i],DR a,by simp[DK,a]⟩
def Inv.wake(h:Inv m AC s k){e l}(a:e=[]\/∀t,Af AC e=sM t->fl t.g.Ad m=fF):Inv m AC s (EO k e l):=by rw[EO];split;exact h;rename_i b;refine⟨h.B0,h.BU,h.out,λw d t c=> ?_⟩;rcases Bc.1 d with q|q;exact h.BY w q t c;rw[A9.1 q]at c;rcases a with a|a;exact(b a).elim;exact a t c
def AD6(j:LR AC k.s)(b:k.e=A8){x}(o:fl x.l m=fF):Inv m AC k.s (match EY k x with
 |none=>(FG k x.name,nO)
 |some a=>
  let r:=GN a.var k.t.id;let k:={k with s:=Cn k.s x.name {a with var:=r.1}}
  match r.2.1 with
  |none=>(FG k x.name,nO)
  |some v=>(EO (k.push v) r.2.2 [],nO):CR).1:=by
 split;exact Inv.Mq rfl b;rename_i a d;let⟨g,p,h⟩:=HV d;have c:fl a.l m=fF:=by rwa[h]
 dsimp only;split;exact Inv.set (o:={a with var:=(GN a.var k.t.id).1}) b c;refine Inv.wake (Inv.set (o:={a with var:=(GN a.var k.t.id).1}) b c) ?_;rcases AFe (x:=a.var) (id:=k.t.id)with e|⟨w,n,e⟩;exact .inl e;right;intro t l;let⟨q,f,i⟩:=j _ a g w n;rw[e,l]at f;cases f;rwa[i]
def AD5(j:LR AC k.s)(b:k.e=A8){x y}(o:fl x.l m=fF):Inv m AC k.s (match EY k x with
 |none=>(FG k x.name,nO)
 |some a=>
  let r:=Gg a.var k.t.id y;let k:={k with s:=Cn k.s x.name {a with var:=r.1}}
  if !r.2.1 then(FG k x.name,nO)else(EO k r.2.2 [y],nO):CR).1:=by
 split;exact Inv.Mq rfl b;rename_i a d;let⟨g,p,h⟩:=HV d;have c:fl a.l m=fF:=by rwa[h]
 dsimp only;split;exact Inv.set (o:={a with var:=(Gg a.var k.t.id y).1}) b c;refine Inv.wake (Inv.set (o:={a with var:=(Gg a.var k.t.id y).1}) b c) ?_;rcases AFB (x:=a.var) (id:=k.t.id) (v:=y)with e|⟨w,n,e⟩;exact .inl e;right;intro t l;let⟨q,f,i⟩:=j _ a g w n;rw[e,l]at f;cases f;rwa[i]
structure Quiet(k:Call)(r:Call):Prop where
 s:r.s=k.s
 e:r.e=k.e
def AMU{l f}(b:∀a,a.s=k.s->a.e=k.e->Quiet k (f a).1):Quiet k (G1 k l f).1:=by rw[G1];split;exact⟨rfl,rfl⟩;exact b _ rfl rfl
def AMV{a o}(h:Quiet k a):Quiet k (Ej a o).1:=by rw[Ej];split;exact h;exact⟨h.s,h.e⟩
def AAW{x f}(d:∀a o,Quiet k a->Quiet k (f a o).1):Quiet k (Ff k x f).1:=by refine AMU λa b c=> ?_;split;exact⟨b,c⟩;exact d _ _ ⟨b,c⟩
def Quiet.inv{r}(h:Quiet k r)(a:k.e=A8):Inv m AC k.s r:=Inv.Mq h.s (by rw[h.e,a])
def AaL{x}:Quiet k (Ff k x Ej).1:=AAW λ_ _ h=>AMV h
def AaM{x}:Quiet k (Ff k x λk o=>(k.push o.v,nO)).1:=AAW λ_ _ h=>⟨h.s,h.e⟩
def AaN{x}:Quiet k (Ff k x λk a=>if a.done then Ej k a else(FG k x.name,nO)).1:=AAW λ_ _ h=>by split;exact AMV h;exact⟨h.s,h.e⟩
def AaO{b x y}:Quiet k (Ff k y λk a=>match Gc k.t.c a.fn (varsOf b a.fn) [x] a.AR with
 |some c=>({k with t:={k.t with c:=c}},nO)
 |none=>(k,sM (-6))).1:=AAW λ_ _ h=>by
 split;exact⟨h.s,h.e⟩;exact h
def AQV{im AD o AR l}(B:LR AC k.s)(c:k.e=A8)(z:fl k.t.g.Ad m=fF):Inv m AC k.s (CO im AD o AR l k).1:=by
 have d:∀l:AT,Dh k.t.g l=0->fl l m=fF:=λl h=>ZM z (S0 h).1;have j:∀i:Ob,Inv m AC k.s (Fv k i).1:=λi=>by rw[Fv];split;exact Inv.Mq rfl c;rename_i b;split;exact Inv.Mq rfl c;exact Inv.add rfl c (d _ (by simpa using b)) _
 have a:∀r:Call,r.s=k.s->r.e=k.e->Inv m AC k.s r:=λr f p=>Inv.Mq f (by rw[p,c]);rw[CO];dsimp only;split;exact a _ rfl rfl;exact a _ rfl rfl;split;exact a _ rfl rfl;exact(AMU λD f p=>⟨f,p⟩).inv c;split;exact a _ rfl rfl;split<;>exact a _ rfl rfl;split;exact a _ rfl rfl;exact j _;split;exact a _ rfl rfl;exact AaL.inv c;split;exact a _ rfl rfl;exact j _;split;exact a _ rfl rfl;exact AaM.inv c;split;exact a _ rfl rfl;split;exact a _ rfl rfl;rename_i b;split;rename_i i y;exact Inv.set (o:={i with v:=l.getD 1 AZ}) (u:=k.t) c (by show fl i.l m=fF;rw[(HV y).2.2];exact d _ (by simpa using b));exact a _ rfl rfl;split;exact a _ rfl rfl;exact j _;split;exact a _ rfl rfl;rw[Ga];split;exact a _ rfl rfl;rename_i b;exact AD6 (k:=k.Bp ⟨A4 (l.getD 0 AZ).l,k.t.g.A5⟩) B c (d _ (by simpa using b));split;exact a _ rfl rfl;rw[Ga];split;exact a _ rfl rfl;rename_i b;exact AD5 (k:=k.Bp ⟨A4 (l.getD 0 AZ).l,k.t.g.A5⟩) B c (d _ (by simpa using b));split;exact a _ rfl rfl;split;exact a _ rfl rfl;rename_i b;split;exact a _ rfl rfl;split;exact a _ rfl rfl;rename_i t n C;have q:=d _ (show Dh k.t.g (l.getD 2 AZ).l=0 by simpa using b);have f:=Inv.add (m:=m) (AC:=AC) (k:=k) rfl c (n:=n) (o:={Db with kind:=6,l:=(l.getD 2 AZ).l}) q k.t;refine⟨f.B0,λu e=> ?_,λx g=> ?_,λw d=> ?_⟩;have e:u∈k.e.BU++[Jw n ⟨t.g.Ad,A4 (l.getD 2 AZ).l⟩ ((Gc ⟨[],[],[]⟩ o.a (varsOf im o.a) [l.getD 0 AZ] AR).getD ⟨[],[],[]⟩) (l.getD 1 AZ).n.toNat]:=e;rw[c]at e;rw[A9.1 e]
 exact⟨by show fl t.g.Ad m=fF;rwa[(Z5 C).1],rfl⟩;exact f.out x g;exact f.BY w d;split;exact a _ rfl rfl;exact AaN.inv c;split;exact a _ rfl rfl;split<;>exact a _ rfl rfl;split;exact a _ rfl rfl;split;exact a _ rfl rfl;rename_i b;have q:=d _ (show Dh k.t.g (l.getD 1 AZ).l=0 by simpa using b);refine⟨Ca.refl _,λu e=> ?_,λx g=> ?_,λw d=> ?_⟩;have e:u∈k.e.BU:=e;rw[c]at e;cases e;have g:x∈k.e.out++[((l.getD 1 AZ).l,l.getD 0 AZ)]:=g;rw[c]at g;rwa[A9.1 g];have d:w∈k.e.BY:=d;rw[c]at d;cases d;split;exact a _ rfl rfl;split;exact a _ rfl rfl;refine Inv.AFr rfl ?_;dsimp only;split<;>(rw[c];exact⟨rfl,rfl,rfl⟩);split;exact a _ rfl rfl;split;exact a _ rfl rfl;refine Inv.AFr rfl ?_;dsimp only;split<;>(rw[c];exact⟨rfl,rfl,rfl⟩);split;exact a _ rfl rfl;exact j _;split;exact a _ rfl rfl;exact AaO.inv c;exact a _ rfl rfl
def Yg(h:KI m M AC s){t}(b:t∈AC)(a:fl (EF t 0) m=fF){o}(g:Am s t.id=sM o)(f:o.kind=6):fl o.l m=fF:=by
 cases e:fl o.l m with
 |false=>rfl
 |true=>
  rw[OQ ((h.G3 t b).cap 0<|Bm _)<|h.Km t b o g f e]at a;cases a
end Lz
