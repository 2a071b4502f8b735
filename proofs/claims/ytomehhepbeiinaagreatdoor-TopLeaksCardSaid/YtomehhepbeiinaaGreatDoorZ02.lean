/- Part 2 of the proof of TopLeaks. No conditions. -/
import Derived.Test.YtomehhepbeiinaaGreatDoorZ01
import Derived.Defers
import Derived.Maps.RangeRun
import Derived.Test.YtomehhepbeiinaaGreatDoorQOrd
import Derived.Test.YtomehhepbeiinaaGreatDoorQOrd2
set_option maxRecDepth 100000
set_option maxHeartbeats 4000000
set_option linter.all false
namespace Go.AX
mutual
theorem Wk{ρ σ K b}(d:σ K=b)(a:∀k,k≠K->σ k=ρ k):∀x,den ρ (x.BW K b)=den σ x
 | .v _=>rfl
 | .p k o=>by
   by_cases e:k=K;subst e;simp[SV.BW,den,d];have:Nat.beq k K=false:=by cases q:Nat.beq k K with|false=>rfl|true=>exact(e (Fp q)).elim
   simp[SV.BW,this,den,a k e]
 | .s k o n c=>by
   by_cases e:k=K;subst e;simp[SV.BW,den,d];have:Nat.beq k K=false:=by cases q:Nat.beq k K with|false=>rfl|true=>exact(e (Fp q)).elim
   simp[SV.BW,this,den,a k e]
 | .m k=>by
   by_cases e:k=K;subst e;simp[SV.BW,den,d];have:Nat.beq k K=false:=by cases q:Nat.beq k K with|false=>rfl|true=>exact(e (Fp q)).elim
   simp[SV.BW,this,den,a k e]
 | .g l=>by simp only[SV.BW,den];rw[QS d a l]
 | .t l=>by simp only[SV.BW,den];rw[QS d a l]
 | .fn f x y=>by simp only[SV.BW,den];rw[QS d a x,QS d a y]
theorem QS{e c K b}(d:c K=b)(a:∀k,k≠K->c k=e k):∀l,As e (F7 K b l)=As c l
 |[]=>rfl
 |x::l=>by simp only[F7,As];rw[Wk d a x,QS d a l]
end
theorem AG.Wk{ρ σ K b}(c:σ K=b)(a:∀k,k≠K->σ k=ρ k)(x:AG):(x.BW K b).den ρ=x.den σ:=by
 cases x with
 |cells l e=>simp[AG.BW,AG.den];rw[QS c a]
 |DZ d f=>simp[AG.BW,AG.den];rw[QS c a]
 |_=>rfl
def AE0(h:AU)(K:Nat)(o:Obj):AK Obj:=match h.upd.find? (λa=>Nat.beq a.1 K)with
 |some a=>a.2.den (λ_=>0)
 |none=>some o
def AU.AaI(h:AU)(K a b q:Nat)(o:Obj):AU:=
 {
  r:=(h.r.BW K b).BW a q
  upd:=(h.upd.filter λc=> !Nat.beq c.1 K).map λc=>(c.1,(c.2.BW K b).BW a q)
  nb:=[]
  J:=⟨h.J.at_,λx=>match h.nb with
   |y::_=>(match Nat.beq x q with|true=>y.den (λ_=>0)|false=>match Nat.beq x b with|true=>AE0 h K o|false=>h.J.own x)
   |[]=>match Nat.beq x b with|true=>AE0 h K o|false=>h.J.own x⟩}
theorem P4{a b}(h:a≠b):Nat.beq a b=false:=by
 cases q:Nat.beq a b with
 |false=>rfl
 |true=>exact(h (Fp q)).elim
def AB.plus(I:AB)(b:Nat)(o:Obj):AB:=⟨I.at_,λx=>match Nat.beq x b with|true=>some o|false=>I.own x⟩
theorem Xs(I:AB)(b o):(I.plus b o).own b=some o:=by simp[AB.plus]
theorem PO(I:AB){b x}(o)(h:x≠b):(I.plus b o).own x=I.own x:=by simp[AB.plus,P4 h]
def AUR(a x y k):(Bf a [x] k).isSome=(Bf a [y] k).isSome:=by
 unfold Bf;cases Nat.ble a k with
 |false=>rfl
 |true=>
  simp only;cases k-a with
  |zero=>rfl
  |succ n=>rfl
def ANa{P L}(hL:Dg P L){o W c k B I t e e' size l}(hT:FE P L t e size)(D:Nj W o.op=some (t,.v (.slice none 0 0),.s k 0 1 1))(S:(k,.cells l e')∈B)(hl:l.length=size)(H:∀g,∀v∈As g l,v.oneCell'):
 HS P o W c B I (λh=>∃(f:Nat)(AC:List Value),1<=f/\f<=maxLen/\AC.length=(f-1)*size/\h= {r:=.s c 0 1 f,nb:=[.cells (l++AC.map SV.v) e],J:=I}) none:=by
 refine⟨?_⟩;intro g a w O hN hI N Z R U next Q hnext _;have hlen:(As g l).length=1*size:=by rw[Gc,List.length_map,hl];omega
 have hs:=KU hL (o:=o) (tm:=W) (key:=c) (need:=[(k,.cells ((As g l).map .v) e')]) (I:=I) (t:=t) (e:=e) (size:=size) (n:=0) (cap:=0) (m:=1) (a:=none) (l:=.v (.slice none 0 0)) (x:=.s k 0 1 1) (olds:=[]) (news:=As g l) hT D rfl NG (D2 (e:=e') (List.mem_singleton.2 rfl) hlen (H g)) (Nat.le_refl _) oG (λ_=>rfl) oG;have E:=U _ S;refine hs.out g a w O ?_ hI ?_ ?_ R ?_ next Q ?_ ?_;intro F d G C;rw[List.mem_singleton.1 d]at C⊢;refine hN _ S G ?_;simp only[AG.den,Fu]at C⊢;exact C;intro F d aa;rw[List.mem_singleton.1 d];exact N (k,.cells l e') S rfl;intro x hx y V _ _ _;rw[List.mem_singleton.1 hx,List.mem_singleton.1 V];intro F d;rw[List.mem_singleton.1 d];refine⟨λk' u=> ?_,E.2⟩;simp only[AG.keys]at u;let⟨y,V,T⟩:=Jn.1 u;obtain⟨v,_,rfl⟩:=List.mem_map.1 V;cases T;rintro _ h w' q ⟨f,AC,r1,r2,r3,rfl⟩ A;have z:AU.Am {r:=.s c 0 1 f,nb:=[.cells (l++AC.map SV.v) e],J:=I} g c q=AU.Am {r:=.s c 0 (0+1) f,upd:=[],nb:=[AG.Aa ([]++As g l++AC) e],J:=I} g c q:=by funext n;unfold AU.Am;have Y:=AUR c (.cells (l++AC.map SV.v) e) (.Aa ([]++As g l++AC) e) n;simp only;cases e1:Bf c [AG.cells (l++AC.map SV.v) e] n<;>cases e2:Bf c [AG.Aa ([]++As g l++AC) e] n<;>rw[e1,e2]at Y<;>first|rfl|cases Y
 have m:=hnext rfl {r:=.s c 0 1 f,nb:=[.cells (l++AC.map SV.v) e],J:=I} w' q ⟨f,AC,oG,r2,by simpa using r3,rfl⟩ ?_;rw[z]at m;exact m;refine⟨A.os,A.tape,A.output,A.size,λb H _ h3=>A.keep b H nA h3,?_,?_,λi j hi s e=>A.qi i j (by simpa using hi) (by simpa using s) e,A.Gu,λb G K=>(A.fresh b G K).imp id λ⟨p,r⟩=>⟨p,λj s=>r j (by simpa using s)⟩,λb G K=>(A.Gz b G K).imp id λ⟨p,r⟩=>⟨p,λj s=>r j (by simpa using s)⟩⟩;intro F d;cases d;intro j x s;cases j with
 |succ j=>simp at s
 |zero=>
  simp at s;subst s;have X:=A.nb 0 (.Aa ([]++As g l++AC) e) rfl;refine⟨?_,rfl,?_⟩;rw[z,X.1];simp only[AG.den];have hd:As (AU.Am {r:=.s c 0 (0+1) f,upd:=[],nb:=[AG.Aa ([]++As g l++AC) e],J:=I} g c q) (l++AC.map SV.v)=[]++As g l++AC:=by rw[Gc,List.map_append,<-Gc,<-Gc,Fu,List.nil_append];congr 1;exact Oh l λk' u=>Ej (PE sP (E.1 k' u))
  rw[hd];rcases X.2.2 with h'|⟨F,d,_⟩;exact .inl h';cases d
 intro ch M;cases M
def AWP{P F d n I w k A b s L}(O:Dg P L)(K:P.funcs[F]? =some d){f}(M){h ds}
 (hend:I3 L d.results.toList A M b f=some h) (o:100<=b) (D:s b h)
 (z:∀(tmps:AY AE)(c:AI)(v:AE),(results d tmps).run P c=.ok v c->Rf P I k b w s none (.returned v) c->Leaves P d tmps (Rf P I k b w s none) ds .returning c):GG (Jg P F d n I w k A ds) (Rf P I k b w s none) f:=by
 have Q:=AKC (F:=F) (n:=n) (w:=w) (ρ:=k) (I:=I) (ds:=ds) O M hend o D;let⟨S,r,E,cnt⟩:=f;have B:E=none\/∃g,E=some g:=by cases E with|none=>exact .inl rfl|some g=>exact .inr ⟨g,rfl⟩
 rcases B with rfl|⟨g,rfl⟩;intro _ G a c R H;let⟨J,_,v,q,fin⟩:=Q G a c R;have m:=z a.tmps c v q fin;have p:a.defers=ds:=R.nd;cases r with
 |nil=>
  let⟨t,j,e,y,C,i,m⟩:=leaves_steps ds .returning c {(LF (Jg P F d n I w k A ds)).at a []with mode:=.returning} H rfl p rfl K rfl m;exact⟨t,j,e,y,Comes.of_steps (.one step_end) C,i,m⟩
 |cons x l=>
  cases x with
  |code N=>
   cases N with
   |ret=>
    let⟨t,j,e,y,C,i,m⟩:=leaves_steps ds .returning c {(LF (Jg P F d n I w k A ds)).at a (.code .ret::l)with mode:=.returning} H rfl p rfl K rfl m;exact⟨t,j,e,y,Comes.of_steps (.one step_ret) C,i,m⟩
   |_=>cases J
  |_=>cases J
 .exfalso;unfold I3 at hend;split at hend
  case h_2=>cases hend
  rename_i u _ _ _;simp at u
def APX{c}(N:c.P.funcs[c.f]? =some c.fn)(M:c.QG=[]){R f tag ops k s b x y n l o1}
 (m:f.rg.isNone) (i:f.todo=.code (.region tag ops false)::k) (t:ops.size=2) (K:ops[0]? =some l) (L:ops[1]? =some o1) (I:l.guard=none) (J:o1.guard=none) (B:l.dst=some s) (C:o1.dst=none) (O:Nat.blt s c.n)
 (P:l.op=.makeFunc (.func b) #[] #[.tmp x,.tmp y]) (Q:o1.op=.defer n) (T:n.callee=.value (.tmp s)) (S:n.args=#[])
 (h:∀u v:AE,GG {c with QG:=[{target:=.fn (.func b) #[u,v],args:=#[]}]} R ⟨f.σ.put (some s) (.fn (.func b) [] [f.σ.tm x,f.σ.tm y]),k,none,f.cnt⟩):GG c R f:=by
 let⟨d,A,U,cnt⟩:=f;simp[Ml]at m i h;subst m i;intro z g a w r;refine ABF N (wp_region ?_);rw[t];show wpOps c.P ops (Qk c R k) [0,1] a w;rw[wpOps_cons];unfold wpOp;rw[K];dsimp only;rw[show Region.wanted l (yielded ops a.tmps)=true from by unfold Region.wanted;rw[I],AW rfl];left;have D:(execOp a.eval l).run c.P w=.ok (.value (.func (.func b) #[] #[a.eval (.tmp x),a.eval (.tmp y)])) w:=by simp[execOp,P,Instr.makeFunc]
 unfold Oper.wp;rw[D,Oper.upon_value,B];have p:∀k∈(SV.fn (.func b) [] [d.tm x,d.tm y]).keys,(d.hp k).isSome:=λk j=>by simp[SV.keys,Ax,Fo,G9,BA]at j;rcases j with j|j;exact r.kd x k j;exact r.kd y k j
 have e:=r.put (d:=some s) (by show Nat.blt s c.n;exact O) (x:=.fn (.func b) [] [d.tm x,d.tm y]) p;have G:a.eval (.tmp x)=den g (d.tm x):=r.ev (.tmp x);have H:a.eval (.tmp y)=den g (d.tm y):=r.ev (.tmp y);have o:(Value.func (.func b) #[] #[a.eval (.tmp x),a.eval (.tmp y)])=den g (.fn (.func b) [] [d.tm x,d.tm y]):=by rw[G,H];rfl
 rw[o];rw[wpOps_cons];unfold wpOp;rw[L];dsimp only;rw[show Region.wanted o1 (yielded ops (a.put (some s) (den g (.fn (.func b) [] [d.tm x,d.tm y]))).tmps)=true from by unfold Region.wanted;rw[J],AW rfl];left;have F:(a.put (some s) (den g (.fn (.func b) [] [d.tm x,d.tm y]))).eval (.tmp s)=.func (.func b) #[] #[den g (d.tm x),den g (d.tm y)]:=by rw[e.ev (.tmp s)];show den g (upd d.tm s _ s)=_;rw[upd_same];rfl
 have E:(execOp (a.put (some s) (den g (.fn (.func b) [] [d.tm x,d.tm y]))).eval o1).run c.P w=.ok (.defer {target:=.fn (.func b) #[den g (d.tm x),den g (d.tm y)],args:=#[]}) w:=by simp[execOp,Q,resolve,T,S,F,Deferred.ofValue]
 unfold Oper.wp;rw[E,Oper.upon_defer,C];show LA c R k _ w;refine h (den g (d.tm x)) (den g (d.tm y)) ⟨z.1,z.2⟩ g _ w ?_;have q:(a.put (some s) (den g (.fn (.func b) [] [d.tm x,d.tm y]))).defers=[]:=e.nd.trans M;exact{hp:=e.hp,inj:=e.inj,kb:=e.kb,im:=e.im,fs:=e.fs,Es:=e.Es,dj:=e.dj,ad:=e.ad,nw:=e.nw,fr:=e.fr,sz:=e.sz,os:=e.os,tape:=e.tape,output:=e.output,size:=e.size,nd:=El (List.cons _) q,tm:=e.tm,kd:=e.kd}
def ARc{P o v c t K A b n x z I}(u:o.op=.range t x)(H:P.underlying t=some (.map K A))(g:ev v x=.v (.map (some b)))(e:I.B0 b=some (.map z n)):
 HS P o v c [] I (λh=>h= {r:=.p c 0,nb:=[.obj (.mapIter (some b) n #[] n)],J:=I}) none:=by
 refine⟨?_⟩;intro y a w C M q B s D F next Q hnext _;have m:=q.B0 b _ e;have l:=C x xO;rw[g]at l;simp only[den]at l;have hex:(execOp a.eval o).run P w=.ok (.value (.pointer (some ⟨w.heap.size,0,none⟩))) (w.alloc (.mapIter (some b) n #[] n)):=by
  have G:(Instr.range t (.map (some b))).run P w=.ok (.pointer (some ⟨w.heap.size,0,none⟩)) (w.alloc (.mapIter (some b) n #[] n)):=by simp only[Instr.range,Sem.run_bind,run_underlying H,Result.andThen_ok,MapKept.run_getObj_map m];rfl
  simp[execOp,u,l,G,Result.andThen]
 unfold Oper.wp;rw[hex,Oper.upon_value];have d:BB w (w.alloc (.mapIter (some b) n #[] n)):=⟨rfl,rfl,rfl,by show _<=(w.heap.push _).size;rw[Lj];exact B9 _,λx g=>(MapKept.heap_alloc w _).2 x g⟩;have f:AU.Am {r:=.p c 0,nb:=[.obj (.mapIter (some b) n #[] n)],J:=I} y c (λ_=>w.heap.size) c=w.heap.size:=by have:=Kp (h:={r:=.p c 0,nb:=[.obj (.mapIter (some b) n #[] n)],J:=I}) (ρ:=y) (key:=c) (j:=0) (q:=λ_=>w.heap.size) (b:=.obj (.mapIter (some b) n #[] n)) rfl;rw[FD]at this;exact this
 have:=hnext rfl {r:=.p c 0,nb:=[.obj (.mapIter (some b) n #[] n)],J:=I} (w.alloc (.mapIter (some b) n #[] n)) (λ_=>w.heap.size) rfl ⟨d.os,d.tape,d.output,d.size,λx g _ _=>d.block x g,nA,λj L k=>by
  cases j with
  |zero=>cases k;exact⟨(MapKept.heap_alloc w _).1,rfl,.inl (AZ _)⟩
  |succ j=>simp at k,λi j E k _=>by simp at E k;omega,d.holds q,λb o e=>.inl e,λb o e=>Gg e⟩
 simp only[den,f]at this;exact this
def ARb{P:Program}{o:Oper}{Y:Nat->SV}{C b n k:Nat}{x:Operand}{q:Array MapEntry}{c:Array Nat}{I:AB}{B D:MapEntry->SV}(S:o.op=.next x false)(v:ev Y x=.p k 0)(l:I.B0 b=some (.map q n))(O:∀e∈q.toList,e.born<n)(hk:∀e∈q.toList,∀ρ,den ρ (B e)=e.key)(hv:∀e∈q.toList,∀ρ,den ρ (D e)=e.val):
 HS P o Y C [(k,.obj (.mapIter (some b) n c n))] I (λh=>((leftOf q c).size=0/\h= {r:=.t [.v (.bool false)],J:=I})\/∃e∈(leftOf q c).toList,h= {r:=.t [.v (.bool true),B e,D e],upd:=[(k,.obj (.mapIter (some b) n (c.push e.born) n))],J:=I}) none:=by
 refine⟨?_⟩;intro ρ a w he hh F K W aa ab next Q hnext _;have hm:=F.B0 b _ l;have T:=hh (k,.obj (.mapIter (some b) n c n)) sP _ rfl;simp only at T;have E:=he x xO;rw[v]at E;simp only[den]at E;rcases run_next_at (P:=P) w o.type (ρ k) b n n c q n T hm O (Nat.le_refl _)with⟨h0,g⟩|⟨e,m,u,f,g⟩;have hex:(execOp a.eval o).run P w=.ok (.value (.tuple #[.bool false])) w:=by simp[execOp,S,E,g,Result.andThen]
 unfold Oper.wp;rw[hex,Oper.upon_value];exact hnext rfl {r:=.t [.v (.bool false)],J:=I} w (λ_=>0) (.inl ⟨h0,rfl⟩) ⟨rfl,rfl,rfl,Nat.le_refl _,λ_ _ _ _=>rfl,nA,(λj Z N=>by simp at N),(λi j M=>by simp at M),F,λb o l=>.inl l,λb o l=>Gg l⟩;have s:e∈q.toList:=by unfold leftOf at m;simp only[Array.toList_filter,List.mem_filter]at m;exact m.1
 have hex:(execOp a.eval o).run P w=.ok (.value (.tuple #[.bool true,e.key,e.val])) (Go.ChangeMaps.setBlock u (ρ k) (.mapIter (some b) n (c.push e.born) n)):=by simp[execOp,S,E,g,Result.andThen]
 unfold Oper.wp;rw[hex,Oper.upon_value];have U:u.heap[ρ k]? =some (.mapIter (some b) n c n):=by rcases f with rfl|rfl<;>exact T
 obtain⟨k1,X⟩:=MapKept.heap_set (w:=u) (o':=.mapIter (some b) n (c.push e.born) n) U;have d:∀x:Nat,u.heap[x]? =w.heap[x]? :=λx=>by rcases f with rfl|rfl<;>rfl
 have V:u.heap.size=w.heap.size:=by rcases f with rfl|rfl<;>rfl
 have z:den ρ (.t [.v (.bool true),B e,D e])=.tuple #[.bool true,e.key,e.val]:=by simp[den,As,hk e s ρ,hv e s ρ]
 have L:=K (k,.obj (.mapIter (some b) n c n)) sP rfl;have t:AU.Am {r:=.t [.v (.bool true),B e,D e],upd:=[(k,.obj (.mapIter (some b) n (c.push e.born) n))],J:=I} ρ C (λ_=>0)=ρ:=by funext n;exact Ej (by unfold Bf;split<;>rfl)
 have:=hnext rfl {r:=.t [.v (.bool true),B e,D e],upd:=[(k,.obj (.mapIter (some b) n (c.push e.born) n))],J:=I} (Go.ChangeMaps.setBlock u (ρ k) (.mapIter (some b) n (c.push e.born) n)) (λ_=>0) (.inr ⟨e,m,rfl⟩)
  ⟨by rcases f with rfl|rfl<;>rfl,by rcases f with rfl|rfl<;>rfl,by rcases f with rfl|rfl<;>rfl,by show _<=(u.heap.setIfInBounds _ _).size;rw[Array.size_setIfInBounds,V];exact Nat.le_refl _,λx v R _=>(X x λeq=>R (k,.obj (.mapIter (some b) n (c.push e.born) n)) sP eq.symm).trans (d x),λkb p o' A=> ?_,(λj Z N=>by simp at N),(λi j M=>by simp at M),?_,λb o l=>.inl l,λb o l=>Gg l⟩
 rw[t,z]at this;exact this;simp at p;subst p;rw[t]at A⊢;cases A;exact k1;have G:Holds u I:=⟨λx y v=>(d x).trans (F.1 x y v),λx y v=>(d x).trans (F.2 x y v)⟩;exact G.keep L λx _ H=>X x λe=>H e.symm
def ARX{P:Program}{o:Oper}{C:Nat->SV}{p b n k:Nat}{x:Operand}{s:Array MapEntry}{c:Array Nat}{I:AB}{m q:MapEntry->SV}{e:MapEntry}(A:o.op=.entry x)(S:ev C x=.p k 0)(d:I.B0 b=some (.map s n))(N:(s.toList.map (·.born)).Nodup)(u:e∈s.toList)(L:∀ρ,den ρ (m e)=e.key)(R:∀ρ,den ρ (q e)=e.val):
 HS P o C p [(k,.obj (.mapIter (some b) n (c.push e.born) n))] I (λh=>h= {r:=.t [m e,q e],J:=I}) none:=by
 refine⟨?_⟩;intro ρ a w E G y D z F O next Q hnext _;have M:=y.B0 b _ d;have B:=G (k,.obj (.mapIter (some b) n (c.push e.born) n)) sP _ rfl;simp only at B;have t:=E x xO;rw[S]at t;simp only[den]at t;have l:=run_entry_at (P:=P) w (ρ k) b n c s n e B M u N;have hex:(execOp a.eval o).run P w=.ok (.value (.tuple #[e.key,e.val])) w:=by simp[execOp,A,t,l,Result.andThen]
 unfold Oper.wp;rw[hex,Oper.upon_value];have f:den ρ (.t [m e,q e])=.tuple #[e.key,e.val]:=by simp[den,As,L ρ,R ρ]
 have:=hnext rfl {r:=.t [m e,q e],J:=I} w (λ_=>0) rfl ⟨rfl,rfl,rfl,Nat.le_refl _,λ_ _ _ _=>rfl,nA,(λj T K=>by simp at K),(λi j H=>by simp at H),y,λb o d=>.inl d,λb o d=>Gg d⟩;have g:AU.Am {r:=.t [m e,q e],J:=I} ρ p (λ_=>0)=ρ:=by funext n;exact Ej (by unfold Bf;split<;>rfl)
 rw[g,f]at this;exact this
def AVH{c R f}(k){K e}(r:QT f c.A k=some (K,e))(h:∀b,f.σ.im.free b->GG c R (f.BW k b (f.σ.im.plus b (.cells K.toArray e (0,0))))):GG c R f:=by
 let⟨m,aa,rg,cnt⟩:=f;unfold QT at r;split at r
 case h_2=>cases r
 rename_i b0 Q T g;simp only at Q T g;subst Q;simp[Bt,KD]at g;have P:k∉c.A:=λhm=>by have:=UR hm;rw[this]at g;cases g.2
 intro M l a w d;let⟨N,I⟩:=AFJ r l;have A:Fc m.hp k:=⟨b0,T,I⟩;have W:=d.hp k b0 _ T N;have E:m.im.free (l k):=d.dj k A;have Y:c.w0.heap.size<=l k:=by
  rcases d.nw k A with q|⟨U,G,q⟩;exact q;exfalso;have S:=Df.1 g.1 U G;cases X:m.hp U with
  |none=>rw[X]at S;cases S
  |some b1=>
   rw[X]at S;have:=d.inj k U A ⟨b1,X,S⟩ (by rw[q,<-d.ad U G]);rw[this]at P;exact P G
 generalize L:m.im.plus (l k) (.cells K.toArray e (0,0))=J at*;have F:∀j x,(m.BW k (l k) J).hp j=some x->(j=k/\x=.gone)\/(j≠k/\∃y,m.hp j=some y/\x=y.BW k (l k)):=λj x t=>by
  simp[St.BW]at t;split at t;rename_i e;cases t;exact .inl ⟨Fp e,rfl⟩;rename_i e;have p:j≠k:=λq=>by rw[q]at e;simp at e
  split at t;rename_i y C;cases t;exact .inr ⟨p,y,C,rfl⟩;cases t
 have z:∀j,(m.hp j).isSome->((m.BW k (l k) J).hp j).isSome:=λj u=>by simp[St.BW];split;rfl;let⟨y,C⟩:=Ky.1 u;rw[C];rfl
 have B:∀j,Fc (m.BW k (l k) J).hp j->j≠k/\Fc m.hp j:=λj ⟨x,t,H⟩=>by rcases F j x t with⟨_,rfl⟩|⟨p,y,C,rfl⟩;cases H;exact⟨p,y,C,by rw[AG.AIY]at H;exact H⟩
 have hG:=h (l k) E;simp[L]at hG;refine hG ⟨λj u=> ?_,M.2⟩ l a w ?_;show(m.BW k (l k) J).hp j=none;have V:m.hp j=none:=M.1 j u;simp[St.BW];split;rename_i e;rw[Fp e,T]at V;cases V;rw[V];subst L;refine{hp:= ?_,inj:= ?_,kb:= ?_,im:=⟨d.im.1,?_⟩,fs:=d.fs,Es:= ?_,dj:= ?_,ad:=d.ad,nw:=λj u=>d.nw j (B j u).2,fr:=d.fr,sz:=d.sz,os:=d.os,tape:=d.tape,output:=d.output,size:=d.size,nd:=d.nd,tm:= ?_,kd:= ?_};intro j x o t Z;rcases F j x t with⟨_,rfl⟩|⟨p,y,C,rfl⟩;cases Z;rw[AG.Rk rfl]at Z;exact d.hp j y o C Z;intro i j hi u e;exact d.inj i j (B i hi).2 (B j u).2 e;intro j x j' t O;rcases F j x t with⟨_,rfl⟩|⟨p,y,C,rfl⟩;cases O;exact z j' (d.kb j y j' C (AG.R4 y j' O));intro n o v;have v:(m.im.plus (l k) (.cells K.toArray e (0,0))).own n=some o:=v;by_cases D:n=l k;subst D;rw[Xs]at v;cases v;exact W;rw[PO _ _ D]at v;exact d.im.2 n o v;intro n o v;have v:(m.im.plus (l k) (.cells K.toArray e (0,0))).own n=some o:=v;by_cases D:n=l k;right;rw[D];exact Y;rw[PO _ _ D]at v;exact d.Es n o v;intro j u;let⟨p,H⟩:=B j u;refine⟨(d.dj j H).1,?_⟩;show(m.im.plus (l k) (.cells K.toArray e (0,0))).own (l j)=none;rw[PO _ _ (λD=>p (d.inj j k H A D))];exact(d.dj j H).2;intro s;rw[d.tm s];exact(AX.Rk rfl (m.tm s)).symm;intro s j u;exact z j (d.kd s j (AX.R4 (m.tm s) j u))
def ARe{P L}(X:Dg P L){o y key t b c A x U g cs e need I}(G:o.op=.store t A x)(Y:ev y A=.v (.pointer (some ⟨b,c,none⟩)))(f:(ev y x).cs=some (cs.map .v))(M:L.get t=some U)(hn:cs.length=U.n)(hl:c+cs.length<=g.length)
 (W:∀v∈cs,v.oneCell') (k:I.has b (.cells g.toArray e (0,0))):HS P o y key need I (λh=>h= {r:=.v undef,upd:=[],J:=I.plus b (.cells (splice g c cs).toArray e (0,0))}) none:=by
 let⟨i,d,z,E,hd,hz,ab,ac,hzero⟩:=Ca (X.get M);refine⟨?_⟩;intro O a w S hh C Z T aa ae next Q hnext _;have R:=C.2 b _ k.own;have D:A∈o.op.operands:=xO
 have N:x∈o.op.operands:=xO
 have u:=run_storeCells_at P b c e cs 0 g.toArray w R sO W;have l:(den O (ev y x)).cells=cs.toArray:=by have:=SV.Rh f O;rw[Fu]at this;exact this
 have V:(w.setRow b (g.toArray.toList.take (c+0)++cs++g.toArray.toList.drop (c+0+cs.length)).toArray)=w.setRow b (splice g c cs).toArray:=by rw[FD];rfl
 have H:(storeVar t ⟨b,c,none⟩ (den O (ev y x))).run P w=.ok () (w.setRow b (splice g c cs).toArray):=by
  rw[<-V];unfold storeVar;rw[l];have K:(sizeOf t).run P w=.ok i.size w:=by simp[sizeOf,typeInfo,E]
  have n: ¬cs.toArray.size≠i.size:=sO
  simp only[Sem.run_bind,K,Result.andThen_ok,n,Gn];exact u
 have hex:(execOp a.eval o).run P w=.ok .skip (w.setRow b (splice g c cs).toArray):=by have B:=S A D;rw[Y]at B;simp only[den]at B;simp[execOp,G,Instr.storeAt,B,S x N,Instr.sureAddr,H]
 unfold Oper.wp;rw[hex,Oper.upon_skip];have n:∀x o,I x=some o->x≠b:=λx o f e=>by rw[e,k.at_]at f;cases f
 refine hnext rfl _ _ (λ_=>0) rfl ⟨rfl,rfl,rfl,by rw[BB.setRow];exact AZ _,λb' s _ m=>G4 λe=> ?_,?_,λj b hj=>by simp at hj,λi j E=>by simp at E,⟨λx o f=> ?_,λx o f=> ?_⟩,λb o' s=>.inl s,λx o' f=> ?_⟩;rw[<-e,k.own]at m;cases m;intro kb F;cases F;rw[G4 λe=>n x o f e.symm];exact C.1 x o f;by_cases p:x=b;subst p;rw[Xs]at f;cases f;exact Js R;have f:(I.plus b (.cells (splice g c cs).toArray e (0,0))).own x=some o:=f;rw[PO _ _ p]at f;rw[G4 λq=>p q.symm];exact C.2 x o f;left;by_cases p:x=b;subst p;rw[k.own];rfl;have f:(I.plus b (.cells (splice g c cs).toArray e (0,0))).own x=some o':=f;rw[PO _ _ p]at f;rw[f];rfl
def AB.never(I:AB)(b:Nat)(o:Obj):AB:=⟨λx=>match Nat.beq x b with|true=>some o|false=>I x,λx=>match Nat.beq x b with|true=>none|false=>I.own x⟩
def N5(I:AB)(b o):(I.never b o) b=some o:=by show(match Nat.beq b b with|true=>some o|false=>I b)=some o;simp
def UY(I:AB){b x}(o)(h:x≠b):(I.never b o) x=I x:=by show(match Nat.beq x b with|true=>some o|false=>I x)=I x;simp[P4 h]
def AI3(I:AB)(b o):(I.never b o).own b=none:=by simp[AB.never]
def XY(I:AB){b x}(o)(h:x≠b):(I.never b o).own x=I.own x:=by simp[AB.never,P4 h]
def BU.AKp(f:BU)(J:AB):BU:=⟨{f.σ with im:=J},f.todo,f.rg,f.cnt⟩
def AUT{c R f}(b o)(r:f.rg.isNone)(p:f.σ.im.has b o)(t:c.I0.own b=none)(h:GG c R (f.AKp (f.σ.im.never b o))):GG c R f:=by
 let⟨i,s,z,cnt⟩:=f;cases z with
 |some _=>cases r
 |none=>
  intro n m a w g;have l:∀j,Fc i.hp j->m j≠b:=λj k e=>by have:=(g.dj j k).2;rw[e]at this;have u:i.im.own b=some o:=p.own;rw[u]at this;cases this
  have v:=h;refine v n m a w {hp:=g.hp,inj:=g.inj,kb:=g.kb,im:=⟨λx y d=> ?_,λx y d=> ?_⟩,fs:=λx y d=> ?_,Es:=λx y d=> ?_,dj:=λj k=>⟨?_,?_⟩,ad:=g.ad,nw:=g.nw,fr:=g.fr,sz:=g.sz,os:=g.os,tape:=g.tape,output:=g.output,size:=g.size,nd:=g.nd,tm:=g.tm,kd:=g.kd};have d:(i.im.never b o) x=some y:=d;by_cases e:x=b;subst e;rw[N5]at d;cases d;exact g.im.2 x o p.own;rw[UY _ _ e]at d;exact g.im.1 x y d;have d:(i.im.never b o).own x=some y:=d;by_cases e:x=b;subst e;rw[AI3]at d;cases d;rw[XY _ _ e]at d;exact g.im.2 x y d;have d:(i.im.never b o) x=some y:=d;by_cases e:x=b;subst e;right;rcases g.Es x o p.own with q|q;rw[t]at q;cases q;exact q;rw[UY _ _ e]at d;exact g.fs x y d;have d:(i.im.never b o).own x=some y:=d;by_cases e:x=b;subst e;rw[AI3]at d;cases d;rw[XY _ _ e]at d;exact g.Es x y d;show(i.im.never b o) (m j)=none;rw[UY _ _ (l j k)];exact(g.dj j k).1;show(i.im.never b o).own (m j)=none;rw[XY _ _ (l j k)];exact(g.dj j k).2
end Go.AX
namespace Lz
abbrev Nm:=AA Nat
structure Val where
 kind:Nat
 n:Int
 name:Nm
 l:AV
deriving DecidableEq,Inhabited,Repr
def EC:AV:=([],[])
def AO:Val:=⟨0,0,[],EC⟩
def whole(n:Int):Val:=⟨1,n,[],EC⟩
def Cx(l:AV):Val:=⟨2,0,[],l⟩
def hand(kind:Nat)(name:Nm)(l:AV):Val:=⟨kind,0,name,l⟩
def Le(b:Bool):Val:=if b then whole 1 else whole 0
structure Op where
 code:Nat
 a:Nat
deriving DecidableEq,Inhabited,Repr
structure DT where
 args:Nat
 vars:Nat
 code:AA Op
deriving DecidableEq,Inhabited,Repr
structure Ak where
 consts:AA Val
 Ad:AA DT
deriving DecidableEq,Inhabited,Repr
structure B7 where
 fn:Nat
 pc:Nat
 base:Nat
 AL:AH
 vars:AA Val
deriving DecidableEq,Inhabited,Repr
structure EQ where
 AF:Nat
 CF:Nat
 at_:Nat
deriving DecidableEq,Inhabited,Repr
structure Ae where
 AF:AA B7
 stack:AA Val
 tries:AA EQ
deriving DecidableEq,Inhabited,Repr
deriving instance DecidableEq,Inhabited,Repr for St
structure Cs where
 name:Nm
 l:AV
 PV:Nat
 AF:Nat
 CF:Nat
 tries:Nat
 g:St
 path:Nm
 made:Nat
 room:Nat
deriving DecidableEq,Inhabited,Repr
structure AJ where
 id:Nm
 path:Nm
 g:St
 c:Ae
 scopes:AA Cs
 made:Nat
 room:Nat
 status:Nat
 on:Nm
 v:Val
 ex:Bool
deriving DecidableEq,Inhabited,Repr
structure Wt where
 id:Nm
 put:Bool
 v:Val
deriving DecidableEq,Inhabited,Repr
structure Vr where
 full:Bool
 v:Val
 q:AA Wt
deriving DecidableEq,Inhabited,Repr
structure Ob where
 kind:Nat
 l:AV
 v:Val
 ex:Bool
 done:Bool
 var:Vr
 fn:Nat
 AL:AH
deriving DecidableEq,Inhabited,Repr
def AaF:Vr:=⟨false,AO,[]⟩
def Cb:Ob:=⟨0,EC,AO,false,false,AaF,0,0⟩
structure F0 where
 now:Nat
 id:Nm
 l:AV
 v:Val
deriving DecidableEq,Inhabited,Repr
structure Gp where
 op:Nat
 H0:AV
 to:AV
 AL:AH
deriving DecidableEq,Inhabited,Repr
structure Lk where
 now:Nat
 id:Nm
 e:Gp
deriving DecidableEq,Inhabited,Repr
structure Ab where
 im:Ak
 now:Nat
 AD:AA AJ
 Ar:AA (Nm×Ob)
 facts:AA F0
 BQ:AA Lk
deriving DecidableEq,Inhabited,Repr
def BY(n:Nm):Bool:=decide (0<n.length)&&decide (n.length<=24)&&n.all (λx=>decide (x<=999))
def child(p:Nm)(n:Nat):AK Nm:=if BY p&&decide (p.length<24)&&decide (n<=999)then some (p++[n])else none
def DL:Nm->Nm->Bool
 |[],[]=>false
 |[],_::_=>true
 |_::_,[]=>false
 |x::a,y::b=>if x<y then true else if x=y then DL a b else false
def Bn(c:Nat):Nat:=if c=1 then 1 else if c=2\/c=3 then 2 else if c=15\/c=16\/c=20 then 3 else if c=17\/c=38\/c=40\/c=45 then 4 else if c=44 then 5 else 0
def A2(c:Nat):Nat:=[0,0,0,1,1,1,2,2,2,2,2,2,2,2,1,0,1,0,1,1,0,0,2,2,2,0,0,1,1,2,1,1,2,1,2,1,1,2,3,1,4,2,1,1,0,1,2,0].getD c 0
def C4(c:Nat):Nat:=[0,1,1,0,0,2,2,1,1,1,1,1,1,1,1,0,0,1,0,0,0,0,1,1,1,1,1,0,0,1,1,1,1,1,0,1,1,0,1,1,1,0,0,0,0,1,1,1].getD c 0
def Jp(c:Nat):Bool:=c==15||c==18||c==19
def SI(c:Nat):Bool:=decide (1<=c)&&decide (c<=47)
def Gf(o:Op):Bool:=SI o.code&&(if Bn o.code=0 then o.a==0 else decide (o.a<=65535))
def asks(c:Nat):Bool:=[25,26,27,28,29,30,32,33,34,35,36,37,38,39,40,41,42,43,45,46].contains c
def Ae.top(c:Ae):AK B7:=c.AF.getLast?
def F5(c:Ae)(d vars:Nat)(a:AA Val)(b:AH):AK Ae:=
 if 16<=c.AF.length then none
 else some {c with AF:=c.AF++[⟨d,0,c.stack.length,b,a++List.replicate (min vars 16) (whole 0)⟩]}
def Ce(c:Ae)(v:Val):Ae:={c with stack:=c.stack++[v]}
def KV(c:Ae):Nat:=match c.top with|some f=>f.base|none=>0
def Fg(c:Ae)(n:Nat):Bool:=decide (KV c<=c.stack.length)&&decide (n<=c.stack.length-KV c)
def Ev(c:Ae)(n:Nat):Ae:={c with stack:=c.stack.take (c.stack.length-n)}
def CJ(c:Ae)(n:Nat):AA Val:=c.stack.drop (c.stack.length-n)
def Di(c:Ae):Ae:=
 let left:=c.AF.length-1
 {AF:=c.AF.take left,stack:=c.stack.take (KV c),tries:=c.tries.filter (λt=>decide (t.AF<=left))}
def IY(l:AA B7)(k pc:Nat):AA B7:=l.modify k (λf=>{f with pc:=pc})
def Ld(c:Ae)(a:Int)(b:Nat):AK Ae:=
 match c.tries.getLast? with
 |none=>none
 |some t=>if c.tries.length-1<b then none
  else if t.AF<1\/c.AF.length<t.AF\/c.stack.length<t.CF then none
  else some {AF:=IY (c.AF.take t.AF) (t.AF-1) t.at_,stack:=c.stack.take t.CF++[whole a],tries:=c.tries.take (c.tries.length-1)}
def Eo(c:Ae)(a b d:Nat):Ae:=⟨c.AF.take a,c.stack.take b,c.tries.take d⟩
inductive Out where
 |Ic
 |ended (v:Val)
 |failed (v:Val)
 |asked (o:Op)
deriving DecidableEq,Inhabited,Repr
def G1(a:Ak)(f:B7)(o:Op):Bool:=
 match Bn o.code with
 |1=>decide (o.a<a.consts.length)
 |2=>decide (o.a<f.vars.length)
 |3=>decide (o.a<(a.Ad.getD f.fn Af).code.length)
 |4=>decide (o.a<a.Ad.length)
 |_=>true
def Bi(a:Ak)(o:Op):Nat:=if o.code=17 then A2 o.code+(a.Ad.getD o.a Af).args else A2 o.code
def Hy(a:Ak)(c:Ae):AK Op:=
 match c.top with
 |none=>none
 |some f=>match a.Ad[f.fn]? with
  |none=>none
  |some b=>match b.code[f.pc]? with
   |none=>none
   |some o=>if Gf o&&G1 a f o&&Fg c (Bi a o)then some o else none
def D4(c:Ae)(a:Int)(b:Nat):Ae×Out:=
 match Ld c a b with
 |some u=>(u,.Ic)
 |none=>(c,.failed (whole a))
def wrap64(n:Int):Int:=(n+9223372036854775808)%18446744073709551616-9223372036854775808
def Ff(c:Nat)(a b:Int):AK Int:=
 if c=7 then some (wrap64 (a+b))
 else if c=8 then some (wrap64 (a-b))
 else if c=9 then some (wrap64 (a*b))
 else if c=10 then(if b=0 then none else some (wrap64 (a.tdiv b)))
 else if c=11 then(if b=0 then none else some (a.tmod b))
 else if c=12 then some (if a=b then 1 else 0)
 else if c=13 then some (if a<b then 1 else 0)
 else none
def Val.right(v:Val):Bool:=
 if v.kind=1 then v==whole v.n
 else if v.kind=2 then v==Cx v.l&&decide (Ap v.l=v.l)
 else if 3<=v.kind/\v.kind<=7 then v.n==0&&BY v.name&&decide (Ap v.l=v.l)
 else false
def Oz(v:Val):Bool:=decide (3<=v.kind)&&v.right
def Da(c:Ae)(f:B7->B7):Ae:={c with AF:=c.AF.modify (c.AF.length-1) f}
def Fh(a:Ak)(c:Ae)(o:Op)(l:AA Val)(tries:Nat):Ae ⊕ Int:=
 let x:=l.getD 0 AO;let y:=l.getD 1 AO
 match o.code with
 |1=>.inl (Ce c (a.consts.getD o.a AO))
 |2=>.inl (Ce c ((c.top.getD Af).vars.getD o.a AO))
 |3=>.inl (Da c λf=>{f with vars:=f.vars.set o.a x})
 |4=>.inl c
 |5=>.inl (Ce (Ce c x) x)
 |6=>.inl (Ce (Ce c y) x)
 |12=>.inl (Ce c (Le (x==y)))
 |7|8|9|10|11|13=>
  if x.kind=1/\y.kind=1 then match Ff o.code x.n y.n with
   |some n=>.inl (Ce c (whole n))
   |none=>.inr (-2)
  else .inr (-1)
 |14=>if x.kind=1 then .inl (Ce c (Le (x.n==0)))else .inr (-1)
 |15=>.inl (Da c λf=>{f with pc:=o.a})
 |16=>if x.kind=1 then(if x.n≠0 then .inl (Da c λf=>{f with pc:=o.a})else .inl c)else .inr (-1)
 |17=>match F5 c o.a (a.Ad.getD o.a Af).vars l (c.top.getD Af).AL with
  |some u=>.inl u
  |none=>.inr (-6)
 |19=>if x.kind=1 then .inr x.n else .inr (-1)
 |20=>.inl {c with tries:=c.tries++[⟨c.AF.length,c.stack.length,o.a⟩]}
 |21=>.inl (if tries<c.tries.length then{c with tries:=c.tries.take (c.tries.length-1)}else c)
 |22=>if x.kind=2/\y.kind=2 then .inl (Ce c (Cx (jn x.l y.l)))else .inr (-1)
 |23=>if x.kind=2/\y.kind=2 then .inl (Ce c (Cx (mt x.l y.l)))else .inr (-1)
 |24=>if x.kind=2/\y.kind=2 then .inl (Ce c (Le (fl x.l y.l)))else .inr (-1)
 |31=>if Oz x then .inl (Ce c (Cx x.l))else .inr (-1)
 |44=>.inl (Da c λf=>{f with AL:=f.AL&&&UInt8.ofNat (o.a%256)})
 |47=>.inl (Ce c (whole (c.top.getD Af).AL.toNat))
 |_=>.inl c
def ER(a:Ak)(c:Ae)(o:Op):Ae:=Da (Ev c (Bi a o)) λf=>{f with pc:=f.pc+1}
def ET(e:Ak)(c:Ae)(b a:Nat):Ae×Out:=
 match Hy e c with
 |none=>(c,.failed (whole (-6)))
 |some o=>
  if asks o.code then(c,.asked o)
  else if o.code=18 then
   let u:=Di c;let v:=(CJ c 1).getD 0 AO
   if u.AF.length<=b then(u,.ended v)else(Ce u v,.Ic)
  else match Fh e (ER e c o) o (CJ c (Bi e o)) a with
   | .inl u=>(u,.Ic)
   | .inr d=>D4 c d a
def Iy(b:Nm)(g:St)(c:Ae)(a:Nat):AJ:=⟨b,b,g,c,[],0,a,0,[],AO,false⟩
def FN(t:AJ):AK (AJ×Nm):=
 if t.room<1 then none else match child t.path t.made with
 |some n=>some ({t with made:=t.made+1,room:=t.room-1},n)
 |none=>none
def CW(t:AJ):Nat×Nat:=match t.scopes.getLast? with|some s=>(s.AF,s.tries)|none=>(0,0)
def E6(t:AJ)(v:Val)(ex:Bool):AJ:=
 {t with status:=if 0<t.scopes.length then 2 else if ex then 4 else 3,v:=v,ex:=ex,on:=[]}
def DC(t:AJ)(l:AA Val):AJ:={t with status:=0,on:=[],c:={t.c with stack:=t.c.stack++l}}
def Np(t:AJ)(a:Nat):AK Nat:=t.scopes.findIdx? (λs=>decide (s.PV<=a))
def brought(t:AJ)(k:Nat):Val×Bool:=
 if t.status≠2\/k+1≠t.scopes.length then(whole (-7),true)
 else if !fl t.g.cur (t.scopes.getD k Af).l then(whole (-3),true)
 else(t.v,t.ex)
def Ha(t:AJ)(k:Nat):AJ:=
 let s:=t.scopes.getD k Af
 {
  t with
  scopes:=t.scopes.take k,g:=s.g,path:=s.path,made:=s.made,room:=s.room,
  c:=Ce (Eo t.c s.AF s.CF s.tries) (hand 3 s.name s.l),status:=0,on:=[],v:=AO,ex:=false}
def GR(t:AJ)(k:Nat):Ob:={Cb with kind:=3,l:=(t.scopes.getD k Af).l,v:=(brought t k).1,ex:=(brought t k).2}
def IS(t:AJ)(i:Nat):AV:=match t.scopes[i]? with|some s=>s.g.cur|none=>t.g.cur
def IP(t:AJ)(e vars:Nat)(arg:Val)(b:AH)(l:AV)(a room:Int)(d:Nat):AJ ⊕ Int:=
 if a<1\/1000<a then .inr (-7)
 else if room<0\/999<room then .inr (-5)
 else if Cu t.g l≠0 then .inr (Cu t.g l)
 else match FN t with
  |none=>.inr (-5)
  |some (u,made)=>
   if(t.room:Int)<=room then .inr (-5)
   else match F5 t.c e vars [arg] b with
    |none=>.inr (-6)
    |some c=>
     let s:Cs:=⟨made,Ap l,d+a.toNat,t.c.AF.length,t.c.stack.length,t.c.tries.length,t.g,t.path,u.made,u.room-room.toNat⟩
     .inl {u with scopes:=t.scopes++[s],c:=c,g:=⟨u.g.cur,s.l⟩,path:=made,made:=0,room:=room.toNat}
def Gi(x:Vr)(a:Nm):Vr×AK Val×Nm:=
 if !x.full then(⟨x.full,x.v,x.q++[⟨a,false,AO⟩]⟩,none,[])
 else match x.q.findIdx? (·.put)with
  |none=>(⟨false,AO,x.q⟩,some x.v,[])
  |some i=>(⟨true,(x.q.getD i Af).v,x.q.eraseIdx i⟩,some x.v,(x.q.getD i Af).id)
def Hi(x:Vr)(a:Nm)(v:Val):Vr×Bool×Nm:=
 if x.full then(⟨x.full,x.v,x.q++[⟨a,true,v⟩]⟩,false,[])
 else match x.q.findIdx? (λw=> !w.put)with
  |none=>(⟨true,v,x.q⟩,true,[])
  |some i=>(⟨x.full,x.v,x.q.eraseIdx i⟩,true,(x.q.getD i Af).id)
def Jk(x:Vr)(a:Nm):AK Vr:=
 match x.q.findIdx? (λw=>w.id==a)with
 |none=>none
 |some i=>some ⟨x.full,x.v,x.q.eraseIdx i⟩
abbrev Ao:=AA (Nm×Ob)
def Ai(s:Ao)(n:Nm):AK Ob:=(s.find? (·.1==n)).map (·.2)
def Eg(s:Ao)(n:Nm)(o:Ob):Bool:=BY n&&decide (3<=o.kind/\o.kind<=7)&&decide (Ap o.l=o.l)&&(Ai s n).isNone
def C0(s:Ao)(n:Nm)(o:Ob):Ao:=if Eg s n o then s++[(n,o)]else s
def Cf(s:Ao)(n:Nm)(o:Ob):Ao:=
 match Ai s n with
 |none=>s
 |some w=>if w.kind≠o.kind\/w.l≠o.l then s else s.map λx=>if x.1==n then(n,o)else x
structure Eff where
 fork:AA AJ
 out:AA (AV×Val)
 log:AA Gp
 woken:AA (Nm×AA Val)
 done:Bool
deriving DecidableEq,Inhabited,Repr
def Ba:Eff:=⟨[],[],[],[],false⟩
structure Call where
 s:Ao
 t:AJ
 e:Eff
deriving DecidableEq,Inhabited,Repr
def Call.push(k:Call)(v:Val):Call:={k with t:={k.t with c:=Ce k.t.c v}}
def Call.Bw(k:Call)(g:St):Call:={k with t:={k.t with g:=g}}
abbrev CR:=Call×AK Int
def IC(k:Call)(l:AV)(f:Call->CR):CR:=if(EB k.t.g l).2≠0 then(k,some (EB k.t.g l).2)else f (k.Bw (EB k.t.g l).1)
def Hu(k:Call)(l:AV)(f:Call->CR):CR:=if Cu k.t.g l≠0 then(k,some (Cu k.t.g l))else f (k.Bw ⟨Ap l,k.t.g.Al⟩)
def Ni(k:Call)(n:Nm)(o:Ob):Call:=Call.push {k with s:=C0 k.s n o} (hand o.kind n o.l)
def GU(k:Call)(o:Ob):CR:=
 if Cu k.t.g o.l≠0 then(k,some (Cu k.t.g o.l))
 else match FN k.t with
  |none=>(k,some (-5))
  |some (t,n)=>(Ni {k with t:=t} n o,none)
def IZ(k:Call)(h:Val):AK Ob:=
 match Ai k.s h.name with
 |some o=>if o.kind=h.kind/\o.l=h.l then some o else none
 |none=>none
def Fy(k:Call)(h:Val)(f:Call->Ob->CR):CR:=
 IC k h.l λk=>match IZ k h with
  |none=>(k.push (whole 0),none)
  |some o=>f k o
def FP(k:Call)(o:Ob):CR:=if o.ex then(k,some o.v.n)else(k.push o.v,none)
def FR(k:Call)(on:Nm):Call:={k with t:={k.t with status:=1,on:=on}}
def GW(k:Call)(a:Nm)(l:AA Val):Call:=if a=[]then k else{k with e:={k.e with woken:=k.e.woken++[(a,l)]}}
def varsOf(b:Ak)(a:Nat):Nat:=match b.Ad[a]? with|some f=>f.vars|none=>0
def Br(b:Ak)(d:Nat)(o:Op)(AL:AH)(l:AA Val)(k:Call):CR:=
 let x:=l.getD 0 AO;let y:=l.getD 1 AO;let z:=l.getD 2 AO
 match o.code with
 |25=>(k.push (Cx k.t.g.cur),none)
 |26=>(k.push (Cx k.t.g.Al),none)
 |27=>if x.kind≠2 then(k,some (-1))else IC k x.l λk=>(k,none)
 |28=>if x.kind≠2 then(k,some (-1))else
  if(Iw k.t.g x.l).2≠0 then(k,some (Iw k.t.g x.l).2)else(k.Bw (Iw k.t.g x.l).1,none)
 |29=>if y.kind≠2 then(k,some (-1))else GU k {Cb with kind:=3,l:=y.l,v:=x}
 |30=>if x.kind≠3 then(k,some (-1))else Fy k x FP
 |32=>if y.kind≠2 then(k,some (-1))else GU k {Cb with kind:=4,l:=y.l,v:=x}
 |33=>if x.kind≠4 then(k,some (-1))else Fy k x λk o=>(k.push o.v,none)
 |34=>if x.kind≠4 then(k,some (-1))else
  if Cu k.t.g x.l≠0 then(k,some (Cu k.t.g x.l))else
  match IZ k x with
  |some a=>({k with s:=Cf k.s x.name {a with v:=y}},none)
  |none=>(k,none)
 |35=>if x.kind≠2 then(k,some (-1))else GU k {Cb with kind:=5,l:=x.l}
 |36=>if x.kind≠5 then(k,some (-1))else Hu k x.l λk=>match IZ k x with
  |none=>(FR k x.name,none)
  |some a=>
   let r:=Gi a.var k.t.id;let k:={k with s:=Cf k.s x.name {a with var:=r.1}}
   match r.2.1 with
   |none=>(FR k x.name,none)
   |some v=>(GW (k.push v) r.2.2 [],none)
 |37=>if x.kind≠5 then(k,some (-1))else Hu k x.l λk=>match IZ k x with
  |none=>(FR k x.name,none)
  |some a=>
   let r:=Hi a.var k.t.id y;let k:={k with s:=Cf k.s x.name {a with var:=r.1}}
   if !r.2.1 then(FR k x.name,none)else(GW k r.2.2 [y],none)
 |38=>if y.kind≠1\/z.kind≠2 then(k,some (-1))else
  if Cu k.t.g z.l≠0 then(k,some (Cu k.t.g z.l))else
  if y.n<0\/999<y.n\/(k.t.room:Int)<=y.n then(k,some (-5))else
  match FN k.t with
  |none=>(k,some (-5))
  |some (t,made)=>
   let c:=(F5 ⟨[],[],[]⟩ o.a (varsOf b o.a) [x] AL).getD ⟨[],[],[]⟩;let u:=Iy made ⟨t.g.cur,Ap z.l⟩ c y.n.toNat
   (Ni {k with t:={t with room:=t.room-y.n.toNat},e:={k.e with fork:=k.e.fork++[u]}} made {Cb with kind:=6,l:=z.l},none)
 |39=>if x.kind≠6 then(k,some (-1))else Fy k x λk a=>if a.done then FP k a else(FR k x.name,none)
 |40=>if y.kind≠1\/z.kind≠1\/(l.getD 3 AO).kind≠2 then(k,some (-1))else
  match IP k.t o.a (varsOf b o.a) x AL (l.getD 3 AO).l z.n y.n d with
  | .inl t=>({k with t:=t},none)
  | .inr f=>(k,some f)
 |41=>if y.kind≠2 then(k,some (-1))else
  if Cu k.t.g y.l≠0 then(k,some (Cu k.t.g y.l))else({k with e:={k.e with out:=k.e.out++[(y.l,x)]}},none)
 |42=>if x.kind≠2 then(k,some (-1))else
  let r:=Gs k.t.g x.l AL
  if r.2.1≠0 then(k,some r.2.1)else
  ({k.Bw r.1 with e:=if r.2.2 then{k.e with log:=k.e.log++[⟨42,k.t.g.cur,x.l,AL⟩]}else k.e},none)
 |43=>if x.kind≠2 then(k,some (-1))else
  let r:=Gv k.t.g x.l AL
  if r.2.1≠0 then(k,some r.2.1)else
  ({k.Bw r.1 with e:=if r.2.2 then{k.e with log:=k.e.log++[⟨43,k.t.g.Al,x.l,AL⟩]}else k.e},none)
 |45=>if x.kind≠2 then(k,some (-1))else GU k {Cb with kind:=7,l:=x.l,fn:=o.a,AL:=AL}
 |46=>if y.kind≠7 then(k,some (-1))else Fy k y λk a=>match F5 k.t.c a.fn (varsOf b a.fn) [x] a.AL with
  |some c=>({k with t:={k.t with c:=c}},none)
  |none=>(k,some (-6))
 |_=>(k,none)
def Ea(k:Call)(v:Val)(ex:Bool):Call:=
 let t:=E6 k.t v ex
 if t.status≠3/\t.status≠4 then{k with t:=t}
 else{
  s:=match Ai k.s t.id with
   |some o=>if o.kind=6 then Cf k.s t.id {o with v:=v,ex:=ex,done:=true}else k.s
   |none=>k.s,
  t:=t,e:={k.e with done:=true}}
def Ec(k:Call)(c:Ae)(b:Int)(a:Nat):Call:=
 match D4 c b a with
 |(u,.failed v)=>Ea {k with t:={k.t with c:=u}} v true
 |(u,_)=>{k with t:={k.t with c:=u}}
def Hr(e:Ak)(d:Nat)(a:Nat)(o:Op)(k:Call):Call:=
 let was:=k.t.c;let b:=(was.top.getD Af).AL;let n:=A2 o.code;let g:Call:={k with t:={k.t with c:=Da (Ev was n) λf=>{f with pc:=f.pc+1}}}
 match Br e d o b (CJ was n) g with
 |(k2,none)=>k2
 |(k2,some code)=>Ec k2 was code a
def C8(b:Ak)(t:AJ)(s:Ao)(a:Nat):Call:=
 if t.status≠0 then⟨s,t,Ba⟩
 else
  let f:=CW t;let r:=ET b t.c f.1 f.2;let k:Call:=⟨s,{t with c:=r.1},Ba⟩
  match r.2 with
  | .Ic=>k
  | .ended v=>Ea k v false
  | .failed v=>Ea k v true
  | .asked o=>Hr b a f.2 o ⟨s,t,Ba⟩
def EU(t:AJ)(s:Ao)(v:Val)(a:Bool):Call:=
 if !a then⟨s,DC t [v],Ba⟩
 else Ec ⟨s,DC t [],Ba⟩ (DC t []).c v.n (CW t).2
def Aw(l:AA AJ)(a:Nm):AK AJ:=l.find? (·.id==a)
def Az(l:AA AJ)(t:AJ):AA AJ:=l.map λx=>if x.id==t.id then t else x
def Ji(l:AA AJ)(t:AJ):AA AJ:=l.takeWhile (λx=>DL x.id t.id)++t::l.dropWhile (λx=>DL x.id t.id)
def B5(l:AA AJ)(t:AJ):AA AJ:=if(Aw l t.id).isSome then Az l t else Ji l t
def Gt(s:Ao)(on a:Nm):Ao:=
 match Ai s on with
 |some o=>if o.kind=5 then(match Jk o.var a with|some x=>Cf s on {o with var:=x}|none=>s)else s
 |none=>s
def Jj(k:Ab)(t:AJ)(i:Nat):Ab:=
 let s:=if t.status=1 then Gt k.Ar t.on t.id else k.Ar
 {k with Ar:=C0 s (t.scopes.getD i Af).name (GR t i),AD:=Az k.AD (Ha t i)}
def GM(k:Ab)(a:Nm):Ab:=
 match Aw k.AD a with
 |some t=>match Np t k.now with
  |some i=>Jj k t i
  |none=>k
 |none=>k
def FF(k:Ab):Ab:=(k.AD.map (·.id)).foldl GM {k with now:=k.now+1}
def Pe(k:Ab)(w:Nm×AA Val):Ab:=
 match Aw k.AD w.1 with
 |some t=>{k with AD:=Az k.AD (DC t w.2)}
 |none=>k
def F4:Nat->Ab->Nm->Ab
 |0,k,_=>k
 |n+1,k,id=>(k.AD.map (·.id)).foldl (λk other=>
  match Aw k.AD other with
  |none=>k
  |some t=>
   if t.status≠1\/t.on≠id then k
   else match Ai k.Ar id with
    |none=>k
    |some o=>if o.kind≠6\/ !o.done then k
     else
      let r:=EU t k.Ar o.v o.ex;let k:={k with Ar:=r.s,AD:=Az k.AD r.t}
      if r.e.done then F4 n k other else k) k
def runK(k:Ab)(a:Nm):Ab×Bool:=
 match Aw k.AD a with
 |none=>(k,false)
 |some t=>
  if t.status≠0 then(k,false)
  else
   let r:=C8 k.im t k.Ar k.now;let k:={k with Ar:=r.s,AD:=Az k.AD r.t};let k:={k with AD:=r.e.fork.foldl B5 k.AD};let k:={k with facts:=k.facts++r.e.out.map λx:AV×Val=>(⟨k.now,a,x.1,x.2⟩:F0)};let k:={k with BQ:=k.BQ++r.e.log.map λx:Gp=>(⟨k.now,a,x⟩:Lk)};let k:=r.e.woken.foldl Pe k
   (if r.e.done then F4 (k.AD.length+1) k a else k,true)
def MR(k:Ab)(a:Nm):Ab×Bool:=runK (FF k) a
def Fe(k:Ab)(m:AV):AA F0:=k.facts.filter λf=>fl f.l m
structure HM where
 l:AV
 v:Int
deriving DecidableEq,Inhabited,Repr
structure Fq where
 fn:Nat
 l:AV
 c:AV
 AL:AH
 room:Nat
 box:Int
 n:Int
deriving DecidableEq,Inhabited,Repr
structure DG where
 im:Ak
 boxes:AA HM
 A3:AA Fq
deriving DecidableEq,Inhabited,Repr
def Dq(c:DG)(b:Fq)(a:Nm):AJ:=
 let arg:=if 0<=b.box then hand 3 [b.box.toNat] (c.boxes.getD b.box.toNat Af).l else whole b.n
 Iy a ⟨b.l,b.c⟩ ((F5 ⟨[],[],[]⟩ b.fn (c.im.Ad.getD b.fn Af).vars [arg] b.AL).getD ⟨[],[],[]⟩) b.room
def ED(c:DG):Ab:=
 {
  im:=c.im,now:=0,
  AD:=(List.range c.A3.length).foldl (λl i=>B5 l (Dq c (c.A3.getD i Af) [c.boxes.length+i])) [],
  Ar:=(List.range c.boxes.length).foldl (λs i=>C0 s [i] {Cb with kind:=3,l:=(c.boxes.getD i Af).l,v:=whole (c.boxes.getD i Af).v}) [],
  facts:=[],BQ:=[]}
def HZ:AA AV:=[([],[]),([1],[]),([2],[]),([1,2],[]),([3],[]),([],[1]),([1],[1]),([0],[])]
def Do(i:Nat):AV:=HZ.getD i EC
structure Mk where
 l:AA AH
 at_:Nat
 code:AA Op
deriving DecidableEq,Inhabited,Repr
def Mk.next(m:Mk):Nat×Mk:=((m.l[m.at_]?).elim 0 UInt8.toNat,{m with at_:=m.at_+1})
def Mk.emit(m:Mk)(c a:Nat):Mk:={m with code:=m.code++[⟨c,a⟩]}
def Mk.number(m:Mk):Mk:=let r:=m.next;r.2.emit 1 (r.1%8)
def Mk.mark(m:Mk):Mk:=let r:=m.next;r.2.emit 1 (8+r.1%8)
def Mk.Cp(m:Mk)(k:Nat):Mk:=m.emit 2 k
def Mk.AAc(m:Mk)(any k l a:Nat):Mk:=
 if k=0 then
  let m:=m.number.Cp any;let r:=m.next
  (r.2.emit (7+r.1%7) 0).emit 3 1
 else if k=1 then
  let r:=m.next;let m:=(r.2.emit (25+r.1%2) 0).mark;let r:=m.next
  (r.2.emit (22+r.1%2) 0).emit 3 7
 else if k=2 then m.mark.emit 27 0
 else if k=3 then m.mark.emit 28 0
 else if k<6 then(((m.Cp any).mark).emit 29 0).emit 3 2
 else if k<9 then
  let r:=m.next
  ((r.2.Cp ([0,2,2,any].getD l 0)).emit 30 0).emit 3 1
 else if k=9 then(((m.Cp any).mark).emit 32 0).emit 3 3
 else if k=10 then((m.Cp 3).emit 33 0).emit 3 1
 else if k=11 then((m.Cp 3).Cp any).emit 34 0
 else if k=12 then(m.mark.emit 35 0).emit 3 4
 else if k=13 then((m.Cp 4).emit 36 0).emit 3 1
 else if k<16 then((m.Cp 4).Cp any).emit 37 0
 else if k<18/\0<a then
  let r:=m.next;let m:=r.2.Cp ([4,2,3,any].getD l 0);let r:=m.next;let m:=(r.2.emit 1 (r.1%4)).mark
  (m.emit 38 a).emit 3 5
 else if k=18 then((m.Cp 5).emit 39 0).emit 3 1
 else if k<22/\0<a then
  let r:=m.next;let m:=r.2.Cp ([2,0,3,4].getD l 0);let r:=m.next;let m:=r.2.emit 1 (r.1%4);let r:=m.next;let m:=(r.2.emit 1 (4+r.1%4)).mark
  (m.emit 40 a).emit 3 2
 else if k<25 then((m.Cp any).mark).emit 41 0
 else if k=25 then
  let m:=m.mark;let r:=m.next
  r.2.emit (42+r.1%2) 0
 else if k=26/\0<a then(m.mark.emit 45 a).emit 3 6
 else if k=27 then(((m.Cp any).Cp 6).emit 46 0).emit 3 1
 else if k=28/\0<a then((m.Cp any).emit 17 a).emit 3 1
 else if k=29 then m.number.emit 19 0
 else if k=30 then let r:=m.next;r.2.emit 44 (r.1%4)
 else(m.emit 47 0).emit 3 1
def Mk.EG(m:Mk)(c:Nat):Mk:=
 let a:=m.next;let b:=a.2.next
 b.2.AAc (a.1%8) (b.1%32) (b.2.next.1%4) c
def Mk.I5(m:Mk)(i a:Nat):Mk:={m with code:=m.code.modify i λo=>{o with a:=a}}
def Mk.part(m:Mk)(a:Nat):Mk:=
 let r:=m.next;let k:=r.1%8;let m:=r.2;let b:=m.code.length
 if k<3 then
  let m:=(m.emit 20 0).EG a
  if(m.code.getLast?.getD Af).code=19 then(m.I5 b m.code.length).emit 3 1
  else
   let m:=m.emit 21 0;let m:=m.emit 15 (m.code.length+2)
   (m.I5 b m.code.length).emit 3 1
 else if k=3 then
  let m:=((m.Cp 1).emit 16 0).EG a
  m.I5 (b+1) m.code.length
 else m.EG a
def Mk.parts(a:Nat):Nat->Nat->Mk->Mk
 |0,_,m=>m
 |n+1,k,m=>if k<1+m.at_/\k<2+m.l.length/6/\k<12 then Mk.parts a n (k+1) (m.part a)else m
def F9(l:AA (AA AH))(i:Nat):DT:=
 let m:=Mk.parts ((i+1)%3) 12 0 ⟨l.getD i [],0,[]⟩;let r:=m.next
 ⟨1,7,((r.2.emit 2 (r.1%8)).emit 18 0).code⟩
def Kg:AA Val:=([0,1,2,3,4,5,9,14]:AA Int).map whole++HZ.map Cx
def He(l:AA (AA AH)):Ak:=⟨Kg,[F9 l 0,F9 l 1,F9 l 2]⟩
structure KN where
 Ad:AA (AA AH)
 boxes:AA AH
 A3:AA AH
deriving DecidableEq,Inhabited,Repr
def Be(l:AA AH)(i:Nat):Nat:=(l[i]?).elim 0 UInt8.toNat
def QC(c:KN)(none_:Bool):DG where
 im:=He c.Ad
 boxes:=(List.range 2).map λi=>⟨Do (Be c.boxes (2*i)%8),(Be c.boxes (2*i+1)%4:Nat)⟩
 A3:=(List.range 3).map λi=>
  let b:=λj=>Be c.A3 (6*i+j);let l:=Do ([0,0,1,2,4,5,1,3].getD (b 0%8) 0)
  {fn:=b 1%3,l:=l,c:=jn l (Do ([7,7,3,1].getD (b 2%4) 0)),AL:=if none_ then 0 else UInt8.ofNat (b 2/4%4),room:=b 3%12,box:=(b 4%3:Nat)-1,n:=(b 5%4:Nat)}
def JK:AA Nm:=[[2],[3],[4],[2,0],[2,1],[3,0],[2,0,0],[9]]
def F8(l:AA AH)(a:Nat):AA Nm:=(l.take a).map λb=>JK.getD (b.toNat%8) []
def Eu(k:Ab)(l:AA Nm):Ab:=l.foldl (λk a=>(MR k a).1) k
def DN:Ak where
 consts:=[Cx EC,Cx ([1],[]),whole 2,whole 9,whole 1]
 Ad:=[⟨1,1,[⟨2,0⟩,⟨1,2⟩,⟨1,3⟩,⟨1,1⟩,⟨40,1⟩,⟨4,0⟩,⟨1,3⟩,⟨3,1⟩,⟨2,1⟩,⟨16,12⟩,⟨1,4⟩,⟨18,0⟩,⟨1,3⟩,⟨1,0⟩,⟨41,0⟩,⟨2,1⟩,⟨1,4⟩,⟨8,0⟩,⟨3,1⟩,⟨15,8⟩]⟩,
  ⟨1,1,[⟨2,0⟩,⟨30,0⟩,⟨3,1⟩,⟨2,1⟩,⟨16,7⟩,⟨2,1⟩,⟨18,0⟩,⟨2,1⟩,⟨1,4⟩,⟨8,0⟩,⟨3,1⟩,⟨15,3⟩]⟩]
def Dv(v:Int):DG:=⟨DN,[⟨([1],[]),v⟩],[⟨0,EC,high,0,5,0,0⟩,⟨0,([1],[]),high,0,5,0,0⟩]⟩
def E4(c:Ae)(s:Cs):Ae:=Eo c s.AF s.CF s.tries
structure On(c:Ae)(s:Cs):Prop where
 fr:s.AF<c.AF.length
 bs:∀f∈c.AF.drop s.AF,s.CF<=f.base
 ht:s.CF<=c.stack.length
 tl:s.tries<=c.tries.length
 tr:∀t∈c.tries.drop s.tries,s.AF<t.AF/\s.CF<=t.CF
 tp:∀t∈c.tries.take s.tries,t.AF<=s.AF
structure Em(s:Cs)(c d:Ae):Prop where
 on:On d s
 eq:E4 d s=E4 c s
def Em.refl{s c}(h:On c s):Em s c c:=⟨h,rfl⟩
def Em.trans{s a b c}(h:Em s a b)(k:Em s b c):Em s a c:=⟨k.on,k.eq.trans h.eq⟩
def M3{s c}(h:On c s)(v):Em s c (Ce c v):=
 ⟨⟨h.fr,h.bs,by simp[Ce,Bc];have:=h.ht;omega,h.tl,h.tr,h.tp⟩,by
   simp[E4,Eo,Ce,IJ h.ht]⟩
def ALc{s c}(h:On c s):s.CF<=KV c:=by
 unfold KV Ae.top;have a:=h.fr;cases e:c.AF.getLast? with
 |none=>rw[List.getLast?_eq_none_iff]at e;rw[e]at a;simp at a
 |some f=>
  refine h.bs f ?_;rw[List.getLast?_eq_getElem?]at e;let⟨d,b⟩:=List.getElem?_eq_some_iff.1 e;rw[List.mem_iff_getElem];exact⟨c.AF.length-1-s.AF,by simp;omega,by rw[<-b,List.getElem_drop];congr 1;omega⟩
def R2{s c}(h:On c s){n}(b:Fg c n):Em s c (Ev c n):=by simp[Fg,Bt,D1]at b;have d:=ALc h;have a:s.CF<=c.stack.length-n:=oG;refine⟨⟨h.fr,h.bs,by simp[Ev,CX];omega,h.tl,h.tr,h.tp⟩,?_⟩;simp[E4,Eo,Ev,Kx,JX a]
def mem_modify{b:Type}{l:AA b}{k f x}(h:x∈l.modify k f):x∈l\/∃y∈l,x=f y:=by
 rw[S8]at h;let⟨i,a⟩:=h;rw[Pm]at a;cases e:l[i]? with
 |none=>rw[e]at a;simp at a
 |some y=>
  rw[e]at a;have d:y∈l:=S8.2 ⟨i,e⟩;by_cases c:k=i;simp[c,Lq,Y9,Kz,Pq]at a;exact .inr ⟨y,d,a.symm⟩;simp[c,Gn,Y9,Kz,Pq]at a;exact .inl (a▸d)
def AGM{a:Type}{l:AA a}{k n f}(h:n<=k):(l.modify k f).drop n=(l.drop n).modify (k-n) f:=by apply S3;intro i;simp[II,Pm];by_cases e:k=n+i;simp[AW e,AW (show k-n=i by omega)];simp[AN e,AN (show¬k-n=i by omega)]
def take_modify{a:Type}{l:AA a}{k n f}(h:n<=k):(l.modify k f).take n=l.take n:=by apply S3;intro i;rw[GX,GX];split;rename_i b;rw[Pm];simp only[AN (show¬k=i by omega)];cases l[i]? <;>rfl;rfl
def UF{s c}(h:On c s){f}(b:∀x,(f x).base=x.base):Em s c (Da c f):=by have d:=h.fr;refine⟨⟨by simpa[Da]using d,?_,h.ht,h.tl,h.tr,h.tp⟩,?_⟩;intro x a;simp[Da]at a;rw[AGM oG]at a;rcases mem_modify a with a|⟨y,e,rfl⟩;exact h.bs x a;rw[b];exact h.bs y e;simp[E4,Eo,Da,take_modify (l:=c.AF) (k:=c.AF.length-1) (n:=s.AF) (f:=f) oG]
def ABe{s c u}(h:On c s){g vars a b}(d:F5 c g vars a b=some u):Em s c u:=by unfold F5 at d;split at d;cases d;cases d;have f:=h.fr;refine⟨⟨by simp;omega,?_,h.ht,h.tl,h.tr,h.tp⟩,?_⟩;intro x e;simp[S0 (S9 f),BA,AP]at e;rcases e with e|rfl;exact h.bs x e;exact h.ht;simp[E4,Eo,IJ (S9 f)]
def ASU{s c}(h:On c s)(a):Em s c {c with tries:=c.tries++[⟨c.AF.length,c.stack.length,a⟩]}:=by refine⟨⟨h.fr,h.bs,h.ht,by simp;have:=h.tl;omega,?_,by rw[IJ h.tl];exact h.tp⟩,?_⟩;intro x b;simp[S0 h.tl,BA,AP]at b;rcases b with b|rfl;exact h.tr x b;exact⟨h.fr,h.ht⟩;simp[E4,Eo,IJ h.tl]
def QI{c:Type}{l:AA c}{a b x}(h:x∈(l.take b).drop a):x∈l.drop a:=by rw[ADq]at h;exact Fl h
def ASO{s c}(h:On c s){n}(d:s.tries<=n)(b:n<c.tries.length):Em s c {c with tries:=c.tries.take (c.tries.length-1)}:=by refine⟨⟨h.fr,h.bs,h.ht,by simp[CX];omega,λx a=>h.tr x (QI a),by rw[Kx,JX (show s.tries<=c.tries.length-1 by omega)];exact h.tp⟩,?_⟩;simp[E4,Eo,Kx,JX (show s.tries<=c.tries.length-1 by omega)]
def AST{s c u}(h:On c s){f:Int}{b:Nat}(o:s.tries<=b)(a:Ld c f b=some u):Em s c u:=by
 unfold Ld at a;cases e:c.tries.getLast? with
 |none=>rw[e]at a;cases a
 |some t=>
  rw[e]at a;simp only at a;split at a;cases a;rename_i l;split at a;cases a;rename_i m;cases a;have j:0<c.tries.length:=by
   cases g:c.tries with
   |nil=>rw[g]at e;cases e
   |cons _ _=>simp
  have i:t∈c.tries.drop s.tries:=by rw[List.getLast?_eq_getElem?]at e;let⟨n,g⟩:=List.getElem?_eq_some_iff.1 e;rw[List.mem_iff_getElem];exact⟨c.tries.length-1-s.tries,by simp;omega,by rw[<-g,List.getElem_drop];congr 1;omega⟩
  let⟨q1,q2⟩:=h.tr t i;have q3:t.AF<=c.AF.length:=oG;have q4:t.CF<=c.stack.length:=oG;refine⟨⟨?_,?_,?_,?_,?_,?_⟩,?_⟩;simp only[IY,List.length_modify,List.length_take];omega;intro x d;simp only[IY]at d;rw[AGM oG]at d;rcases mem_modify d with d|⟨y,k,rfl⟩;exact h.bs x (QI d);exact h.bs y (QI k);simp only[List.length_append,List.length_take];omega;simp only[List.length_take];omega;exact λx d=>h.tr x (QI d);rw[List.take_take,Nat.min_eq_left oG];exact h.tp;simp only[E4,Eo,IY];congr 1;rw[take_modify oG,List.take_take,Nat.min_eq_left oG];rw[List.take_append_of_le_length (by simp only[List.length_take];omega),List.take_take,Nat.min_eq_left q2];rw[List.take_take,Nat.min_eq_left oG]
structure At(c:Ae)(s:Cs):Prop where
 fr:s.AF<=c.AF.length
 bs:∀f∈c.AF.drop s.AF,s.CF<=f.base
 ht:s.CF<=c.stack.length
 tl:s.tries<=c.tries.length
 tr:∀t∈c.tries.drop s.tries,s.AF<t.AF/\s.CF<=t.CF
 tp:∀t∈c.tries.take s.tries,t.AF<=s.AF
def On.at_{c s}(h:On c s):At c s:=⟨S9 h.fr,h.bs,h.ht,h.tl,h.tr,h.tp⟩
def At.on{c s}(h:At c s)(k:s.AF<c.AF.length):On c s:=⟨k,h.bs,h.ht,h.tl,h.tr,h.tp⟩
def ASR{s c}(h:On c s)(j:KV c<=c.stack.length):E4 (Di c) s=E4 c s/\At (Di c) s:=by
 have k:=h.fr;have f:=ALc h;have a:c.tries=c.tries.take s.tries++c.tries.drop s.tries:=(List.take_append_drop _ _).symm;have d:(Di c).tries=c.tries.take s.tries++(c.tries.drop s.tries).filter (λt=>decide (t.AF<=c.AF.length-1)):=by
  simp only[Di]
  conv=>lhs;rw[a]
  rw[List.filter_append];congr 1;rw[List.filter_eq_self];intro t g;have:=h.tp t g;exact decide_eq_true oG
 have i:(c.tries.take s.tries).length=s.tries:=by rw[List.length_take];exact Nat.min_eq_left h.tl
 have e:(Di c).tries.take s.tries=c.tries.take s.tries:=by rw[d,List.take_append_of_le_length oG,List.take_take,Nat.min_self]
 refine⟨?_,⟨?_,?_,?_,?_,?_,?_⟩⟩;simp only[E4,Eo,e];congr 1;simp only[Di,List.take_take,Nat.min_eq_left (show s.AF<=c.AF.length-1 by omega)];simp only[Di,List.take_take,Nat.min_eq_left f];simp only[Di,List.length_take];omega;exact λx b=>h.bs x (QI b);simp only[Di,List.length_take];omega;rw[d,List.length_append];omega;intro x b;rw[d,List.drop_append_of_le_length oG,List.drop_of_length_le oG,List.nil_append]at b;exact h.tr x (List.mem_filter.1 b).1;rw[e];exact h.tp
def AVk{c n}(h:Fg c n):KV c<=c.stack.length:=by simp[Fg,Bt,D1]at h;exact h.1
def ASN{s b c o}(h:On c s)(a:Fg c (Bi b o)):Em s c (ER b c o):=
 (R2 h a).trans (UF (R2 h a).on λ_=>rfl)
def ASQ{s f c u o l b}(h:On c s)(d:s.tries<=b)(a:Fh f c o l b=.inl u):Em s c u:=by
 unfold Fh at a;dsimp only at a;split at a
 all_goals first
  |(cases a;exact M3 h _)
  |(cases a;exact UF h λ_=>rfl)
  |(cases a;exact Em.refl h)
  |(cases a;exact(M3 h _).trans (M3 (M3 h _).on _))
  |(cases a;exact ASU h _)
  |(
   cases a;split;exact ASO h d aS;exact Em.refl h)
  |(
   split at a;split at a;cases a;exact M3 h _;cases a;cases a)
  |(
   split at a;cases a;exact M3 h _;cases a)
  |(
   split at a;split at a;cases a;exact UF h λ_=>rfl;cases a;exact Em.refl h;cases a)
  |(
   split at a;rename_i e;cases a;exact ABe h e;cases a)
  |(split at a<;>cases a)
def AA3{b c o}(h:Hy b c=some o):Fg c (Bi b o):=by unfold Hy at h;split at h;cases h;split at h;cases h;split at h;cases h;split at h;rename_i a;cases h;simp[Bt]at a;exact a.2;cases h
def AHp{s c}{code:Int}{a:Nat}(h:On c s)(b:s.tries<=a):Em s c (D4 c code a).1:=by unfold D4;split;rename_i d;exact AST h b d;exact Em.refl h
def Out.goes:Out->Bool
 | .Ic=>true
 | .asked _=>true
 |_=>false
def ASS{s im c AF tries}(h:On c s)(n:s.AF<=AF)(d:s.tries<=tries):
 E4 (ET im c AF tries).1 s=E4 c s/\At (ET im c AF tries).1 s/\((ET im c AF tries).2.goes->On (ET im c AF tries).1 s):=by
 unfold ET;split;exact⟨rfl,h.at_,λ_=>h⟩;rename_i o j;have b:=AA3 j;split;exact⟨rfl,h.at_,λ_=>h⟩;split;let⟨e,f⟩:=ASR h (AVk b);dsimp only;split;exact⟨e,f,λh=>by cases h⟩;rename_i i;have m:=f.on oG;have a:=M3 m ((CJ c 1).getD 0 AO);exact⟨a.eq.trans e,a.on.at_,λ_=>a.on⟩;have g:=ASN h b;split;rename_i u l;have k:=g.trans (ASQ g.on d l);exact⟨k.eq,k.on.at_,λ_=>k.on⟩;have k:=AHp (code:=by assumption) h d;exact⟨k.eq,k.on.at_,λ_=>k.on⟩
section
variable {m:AV}
def Hl(t:AJ)(m:AV)(i:Nat):Bool:=fl (IS t i) m
structure AMw(t:AJ)(m:AV):Prop where
 out:∀i j,i<=j->j<=t.scopes.length->Hl t m j->Hl t m i
def M5(t):IS t t.scopes.length=t.g.cur:=by unfold IS;rw[I7 (AZ _)]
end
section
def AQ3(s r q):Ai (s++r) q=(Ai s q).or (Ai r q):=by unfold Ai;rw[List.find?_append];cases s.find? (·.1==q)<;>rfl
def AQ5(n o q):Ai [(n,o)] q=if q=n then some o else none:=by
 unfold Ai;by_cases h:q=n;subst h;simp;have:(n==q)=false:=by rw[OR];exact λe=>h e.symm
 simp[this,h]
theorem JI{s n o}(h:Eg s n o)(q):Ai (C0 s n o) q=if q=n then some o else Ai s q:=by unfold C0;rw[AW h,AQ3,AQ5];simp[Eg,Bt,Ml]at h;by_cases e:q=n;subst e;rw[h.2];simp;rw[AN e,AN e];cases Ai s q<;>rfl
theorem RV{s n o}(h:Eg s n o=false):C0 s n o=s:=by unfold C0;rw[h];rfl
def AQ4(s n o q):Ai (s.map λx=>if x.1==n then(n,o)else x) q=if q=n then(Ai s q).map (λ_=>o)else Ai s q:=by
 unfold Ai;rw[List.find?_map];have e:((λx:Nm×Ob=>x.1==q)∘ λx=>if x.1==n then(n,o)else x)=λx=>x.1==q:=by funext x;simp only[Function.comp];by_cases a:x.1==n;rw[if_pos a,beq_iff_eq.1 a];rw[if_neg a]
 rw[e];cases b:s.find? (·.1==q)with
 |none=>simp
 |some x=>
  have:=List.find?_some b;simp only[beq_iff_eq]at this;simp only[Option.map_some];by_cases h:q=n;rw[if_pos h,if_pos (by rw[this,h];simp)];rw[if_neg h,if_neg (by rw[this];simpa using h)]
theorem QW(s n o q):Ai (Cf s n o) q=match Ai s n with
 |some w=>if w.kind=o.kind/\w.l=o.l then(if q=n then some o else Ai s q)else Ai s q
 |none=>Ai s q:=by
 unfold Cf;cases h:Ai s n with
 |none=>rfl
 |some w=>
  simp only;by_cases a:w.kind=o.kind/\w.l=o.l;rw[AN (by rintro(e|e);exact e a.1;exact e a.2),AW a,AQ4];by_cases e:q=n;subst e;rw[AW rfl,AW rfl,h];rfl;rw[AN e,AN e];rw[AW (by rcases Classical.not_and_iff_not_or_not.1 a with e|e;exact .inl e;exact .inr e),AN a]
def ABD{s n w o}(h:Ai s n=some w)(a:w.kind=o.kind)(b:w.l=o.l)(q):Ai (Cf s n o) q=if q=n then some o else Ai s q:=by rw[QW,h];simp[a,b]
def OF(m:AV)(s:Ao)(n:Nm):AK Ob:=(Ai s n).filter λo=>fl o.l m
variable {m:AV}
def AY8{s n o}:OF m s n=some o↔Ai s n=some o/\fl o.l m:=by unfold OF;rw[Option.filter_eq_some_iff]
def AY6{s n o}(h:Ai s n=some o)(a:fl o.l m):OF m s n=some o:=AY8.2 ⟨h,a⟩
def AY7{s n o}(b:fl o.l m=false)(q):OF m (Cf s n o) q=OF m s q:=by unfold OF;rw[QW];split;rename_i w c;split;rename_i a;split;rename_i e;subst e;rw[c];simp[Option.filter,b,a.2];rfl;rfl;rfl
def TY(m:AV)(s r:Ao):Prop:=∀n,OF m s n=OF m r n
def TY.refl(s):TY m s s:=λ_=>rfl
theorem GD{l id t}(h:Aw l id=some t):t.id=id:=by have:=ADv h;simpa using this
def Ed{l a t}(h:Aw l a=some t):t∈l:=List.mem_of_find?_eq_some h
theorem Qw(l t id):Aw (Az l t) id=if id=t.id then(Aw l id).map (λ_=>t)else Aw l id:=by
 unfold Aw Az;rw[List.find?_map];have e:((λx:AJ=>x.id==id)∘ λx=>if x.id==t.id then t else x)=λx=>x.id==id:=by funext x;simp only[Function.comp];by_cases a:x.id==t.id;rw[if_pos a,beq_iff_eq.1 a];rw[if_neg a]
 rw[e];cases b:l.find? (·.id==id)with
 |none=>simp
 |some x=>
  have:=List.find?_some b;simp only[beq_iff_eq]at this;simp only[Option.map_some];by_cases h:id=t.id;rw[if_pos h,if_pos (by rw[this,h];simp)];rw[if_neg h,if_neg (by rw[this];simpa using h)]
def ALR(l r a):Aw (l++r) a=(Aw l a).or (Aw r a):=List.find?_append
def AC8{l a}:(Aw l a).isSome↔a∈l.map (·.id):=by unfold Aw;rw[List.find?_isSome,BG];simp
theorem ALS{l t}(h:Aw l t.id=none)(id):Aw (Ji l t) id=if id=t.id then some t else Aw l id:=by
 have d:l=l.takeWhile (λx=>DL x.id t.id)++l.dropWhile (λx=>DL x.id t.id):=(Y3).symm;unfold Ji;rw[ALR];have a:Aw l id=(Aw (l.takeWhile (λx=>DL x.id t.id)) id).or (Aw (l.dropWhile (λx=>DL x.id t.id)) id):=by
  conv=>lhs;rw[d]
  exact ALR _ _ _
 have b:Aw (t::l.dropWhile (λx=>DL x.id t.id)) id=if id=t.id then some t else Aw (l.dropWhile (λx=>DL x.id t.id)) id:=by
  unfold Aw;rw[Ll];by_cases e:id=t.id;subst e;simp;rw[AN e];have:(t.id==id)=false:=by rw[OR];exact λq=>e q.symm
  simp[this]
 rw[b];by_cases e:id=t.id;rw[AW e,AW e];rw[e]at a⊢;rw[h]at a;cases c:Aw (l.takeWhile (λx=>DL x.id t.id)) t.id with
 |none=>rfl
 |some x=>rw[c]at a;cases a
 rw[AN e,AN e,<-a]
def AC7(l t id):Aw (B5 l t) id=if id=t.id then some t else Aw l id:=by
 unfold B5;cases h:Aw l t.id with
 |none=>simp[VV,Me,Gn];exact ALS h id
 |some x=>
  simp[VW,Lq];rw[Qw];by_cases e:id=t.id;subst e;rw[AW rfl,AW rfl,h];rfl;rw[AN e,AN e]
theorem N1:∀a:Nm,DL a a=false
 |[]=>rfl
 |x::a=>by simp[DL,N1 a]
def UP:∀ {a b c:Nm},DL a b->DL b c->DL a c
 |[],[],_,h,_=>by cases h
 |[],_::_,[],_,k=>by cases k
 |[],_::_,_::_,_,_=>rfl
 |_::_,[],_,h,_=>by cases h
 |_::_,_::_,[],_,k=>by cases k
 |x::a,y::b,z::c,h,k=>by simp only[DL]at*;by_cases g:x<y;by_cases d:y<z;rw[AW oG];rw[AN d]at k;by_cases e:y=z;rw[AW oG];rw[AN e]at k;cases k;rw[AN g]at h;by_cases d:x=y;rw[AW d]at h;by_cases e:y<z;rw[AW oG];rw[AN e]at k;by_cases f:y=z;rw[AW f]at k;rw[AN oG,AW oG];exact UP h k;rw[AN f]at k;cases k;rw[AN d]at h;cases h
def AIh:∀ {a b:Nm},a≠b->DL a b=false->DL b a
 |[],[],h,_=>absurd rfl h
 |[],_::_,_,k=>by cases k
 |_::_,[],_,_=>rfl
 |x::a,y::b,h,k=>by simp only[DL]at*;by_cases d:x<y;rw[AW d]at k;cases k;rw[AN d]at k;by_cases c:x=y;rw[AW c]at k;rw[AN oG,AW c.symm];exact AIh (λe=>h (by rw[c,e])) k;rw[AW oG]
abbrev FY(l:AA AJ):Prop:=l.Pairwise λa b=>DL a.id b.id
def sorted_put{l}(h:FY l)(t):FY (Az l t):=by
 unfold FY Az;rw[Y1];refine h.imp λ{a b} hab=> ?_;have e:∀x:AJ,(if x.id==t.id then t else x).id=x.id:=λx=>by split;rename_i h;exact(Gm.1 h).symm;rfl
 rw[e,e];exact hab
def AB2{a:Type}{p}:∀ {l:AA a} {x:a},x∈l.takeWhile p->p x/\x∈l
 |y::l,x,h=>by rw[Po]at h;split at h;rcases BD.1 h with rfl|h;exact⟨by assumption,DX⟩;exact⟨(AB2 h).1,DW _ (AB2 h).2⟩;cases h
def AXT{l:AA AJ}{t:AJ}(h:FY l)(d:Aw l t.id=none):∀x∈l.dropWhile (λx=>DL x.id t.id),DL t.id x.id:=by
 induction l with
 |nil=>intro x a;cases a
 |cons y l i=>
  rw[List.dropWhile_cons];have g:y.id≠t.id:=by intro e;have:(Aw (y::l) t.id).isSome:=AC8.2 (by simp[e]);rw[d]at this;cases this
  split;refine i (JV.1 h).2 ?_;cases f:Aw l t.id with
  |none=>rfl
  |some z=>
   have:(Aw (y::l) t.id).isSome:=AC8.2 (by have:=AC8.1 (show(Aw l t.id).isSome=true by rw[f];rfl);exact DW _ this)
   rw[d]at this;cases this
  rename_i b;have c:DL t.id y.id:=AIh g (by simpa using b);intro x a;rcases BD.1 a with rfl|a;exact c;exact UP c ((JV.1 h).1 x a)
def ACt{l t}(h:FY l)(g:Aw l t.id=none):FY (Ji l t):=by
 unfold Ji FY;have f:l=l.takeWhile (λx=>DL x.id t.id)++l.dropWhile (λx=>DL x.id t.id):=(Y3).symm;have c:(l.takeWhile (λx=>DL x.id t.id)++l.dropWhile (λx=>DL x.id t.id)).Pairwise λa b=>DL a.id b.id:=by rw[<-f];exact h
 rw[Y0]at c⊢;refine⟨c.1,JV.2 ⟨AXT h g,c.2.1⟩,λa e b d=> ?_⟩;rcases BD.1 d with rfl|d;exact(AB2 e).1;exact c.2.2 a e b d
def AK1{l}(h:FY l)(t):FY (B5 l t):=by
 unfold B5;cases a:Aw l t.id with
 |none=>simp[VV,Me,Gn];exact ACt h a
 |some x=>simp[VW,Lq];exact sorted_put h t
theorem MZ{l}(h:FY l){t}(b:t∈l):Aw l t.id=some t:=by
 induction l with
 |nil=>cases b
 |cons y l c=>
  unfold Aw;rw[Ll];rcases BD.1 b with e|e;subst e;simp;have:=(JV.1 h).1 t e;have a:(y.id==t.id)=false:=by rw[OR];intro q;rw[q,N1]at this;cases this
  simp[a];exact c (JV.1 h).2 e
def AaH:∀ {l r:List AJ},FY l->FY r->(∀j,Aw l j=Aw r j)->l=r:=by
 intro l r f g h;have a:∀x,x∈l↔x∈r:=λx=>
  ⟨λb=>Ed ((h x.id).symm.trans (MZ f b)),λb=>Ed ((h x.id).trans (MZ g b))⟩
 clear h;induction l generalizing r with
 |nil=>
  cases r with
  |nil=>rfl
  |cons y r=>exact absurd ((a y).2 List.mem_cons_self) sP
 |cons x l k=>
  cases r with
  |nil=>exact absurd ((a x).1 List.mem_cons_self) sP
  |cons y r=>
   have b:=(List.pairwise_cons.1 f).1;have i:=(List.pairwise_cons.1 g).1;have e:x=y:=by rcases List.mem_cons.1 ((a x).1 List.mem_cons_self)with e|e;exact e;rcases List.mem_cons.1 ((a y).2 List.mem_cons_self)with d|d;exact d.symm;have:=UP (i x e) (b y d);rw[N1]at this;cases this
   subst e;congr 1;refine k (List.pairwise_cons.1 f).2 (List.pairwise_cons.1 g).2 λz=>⟨λc=> ?_,λc=> ?_⟩;rcases List.mem_cons.1 ((a z).1 (List.mem_cons_of_mem _ c))with e|e;subst e;have:=b z c;rw[N1]at this;cases this;exact e;rcases List.mem_cons.1 ((a z).2 (List.mem_cons_of_mem _ c))with e|e;subst e;have:=i z c;rw[N1]at this;cases this;exact e
end
section
def own(t:AJ):AA Nm:=t.id::t.scopes.map (·.name)
def Eh(t:AJ):AA (Nm×Nat):=t.scopes.map (λs=>(s.path,s.made))++(if t.status=2 then[]else[(t.path,t.made)])
def GO(t:AJ)(i:Nat):AV:=match t.scopes[i]? with|some s=>s.g.Al|none=>t.g.Al
def Mn(s r:Ao):Prop:=∀n o,Ai s n=some o->∃a,Ai r n=some a/\a.kind=o.kind/\a.l=o.l
def Mn.add(s n o):Mn s (C0 s n o):=λq w a=>by
 cases h:Eg s n o with
 |false=>rw[RV h];exact⟨w,a,rfl,rfl⟩
 |true=>
  rw[JI h];by_cases e:q=n;subst e;simp[Eg,Bt,Ml]at h;rw[h.2]at a;cases a;rw[AN e];exact⟨w,a,rfl,rfl⟩
def Mn.set(s n o):Mn s (Cf s n o):=λq w a=>by rw[QW];split;rename_i d b;split;rename_i c;by_cases e:q=n;subst e;rw[b]at a;cases a;exact⟨o,by rw[AW rfl],c.1.symm,c.2.symm⟩;rw[AN e];exact⟨w,a,rfl,rfl⟩;exact⟨w,a,rfl,rfl⟩;exact⟨w,a,rfl,rfl⟩
def ZI(n:Nm):Prop:=∀x∈n,x<=999
def Xa:ZI []:=λ_ h=>by cases h
def AI9{n}(h:BY n):ZI n:=by unfold BY at h;simp[Bt,Df,D1]at h;exact h.2
structure CL(m:AV)(s:Ao)(v:Val):Prop where
 CC:Ap v.l=v.l
 kind:v.kind<=7/\ZI v.name
 hand:3<=v.kind->fl v.l m->∃o,Ai s v.name=some o/\o.kind=v.kind/\o.l=v.l
def CL.up{m s r v}(h:CL m s v)(k:Mn s r):CL m r v:=⟨h.CC,h.kind,λa b=>by let⟨o,c,d,e⟩:=h.hand a b;let⟨j,f,g,i⟩:=k _ o c;exact⟨j,f,g.trans d,i.trans e⟩⟩
def Xd:Ap EC=EC:=X1.2 ⟨AKI,AKI⟩
def GF{m s}(n:Int):CL m s (whole n):=⟨Xd,⟨by simp[whole],Xa⟩,λh=>by simp[whole]at h⟩
def Gk{m s}:CL m s AO:=⟨Xd,⟨by simp[AO],Xa⟩,λh=>by simp[AO]at h⟩
def VB{m s l}(h:Ap l=l):CL m s (Cx l):=⟨h,⟨by simp[Cx],Xa⟩,λh=>by simp[Cx]at h⟩
def ADR{m s}(b:Bool):CL m s (Le b):=by cases b<;>exact GF _
structure D6(P:Val->Prop)(M:AH->Prop)(c:Ae):Prop where
 fr:∀f∈c.AF,M f.AL/\∀v∈f.vars,P v
 st:∀v∈c.stack,P v
 tr:∀x∈c.tries,x.AF<=c.AF.length
 tm:c.tries.Pairwise λa b=>a.AF<=b.AF
def D6.up{P Q M c}(h:D6 P M c)(k:∀v,P v->Q v):D6 Q M c:=
 ⟨λf b=>⟨(h.fr f b).1,λv a=>k v ((h.fr f b).2 v a)⟩,λv a=>k v (h.st v a),h.tr,h.tm⟩
structure TI(m:AV)(P:Val->Prop)(M:AH->Prop)(t:AJ):Prop where
 MW:t.scopes.map (·.path)++[t.path]=t.id::t.scopes.map (·.name)
 Fx:∀n∈own t,BY n
 nest:t.scopes.Pairwise λa b=>a.AF<b.AF/\a.CF<=b.CF/\a.tries<=b.tries
 Si:t.status<=4
 idle:t.status=2->0<t.scopes.length
 over:3<=t.status->t.scopes=[]
 at_:∀s∈t.scopes,At t.c s
 H9:t.status<2->∀s∈t.scopes,On t.c s
 mono:AMw t m
 cap:∀i,i<=t.scopes.length->fl (IS t i) (GO t i)
 Al:∀i s,t.scopes[i]? =some s->fl s.l m->fl (GO t (i+1)) m
 CC:(Ap t.g.cur=t.g.cur/\Ap t.g.Al=t.g.Al)/\∀s∈t.scopes,Ap s.l=s.l/\Ap s.g.cur=s.g.cur/\Ap s.g.Al=s.g.Al
 EF:D6 P M t.c
 val:P t.v
def TI.up{m P Q M t}(h:TI m P M t)(k:∀v,P v->Q v):TI m Q M t:={h with EF:=h.EF.up k,val:=k _ h.val}
structure OI(P:Val->Prop)(M:AH->Prop)(o:Ob):Prop where
 CC:Ap o.l=o.l
 kind:3<=o.kind/\o.kind<=7
 val:P o.v
 Ks:P o.var.v
 C5:∀w∈o.var.q,P w.v
 XR:o.kind=7->M o.AL
def OI.up{P Q M o}(h:OI P M o)(k:∀v,P v->Q v):OI Q M o:={h with val:=k _ h.val,Ks:=k _ h.Ks,C5:=λw a=>k _ (h.C5 w a)}
def KT(AD:AA AJ)(s:Ao)(q:Nm):Prop:=(∃o,Ai s q=some o)\/∃t∈AD,q∈own t
structure KI(m:AV)(M:AH->Prop)(AD:AA AJ)(s:Ao):Prop where
 FB:FY AD
 Gj:∀t∈AD,TI m (CL m s) M t
 D8:∀n o,Ai s n=some o->OI (CL m s) M o
 IV:(AD.flatMap own).Nodup
 EH:∀t∈AD,∀pm∈Eh t,∀j,pm.2<=j->∀q,KT AD s q->¬(pm.1++[j])<+:q
 I4:∀t∈AD,∀x∈t.scopes,Ai s x.name=none
 KW:∀t∈AD,∀o,Ai s t.id=some o->o.kind=6->fl o.l m->fl (GO t 0) m
 C5:∀n o,Ai s n=some o->(o.var.q.map (·.id)).Nodup/\∀w∈o.var.q,∃t,Aw AD w.id=some t/\t.status=1/\t.on=n/\t.g.cur=o.l
 G8:∀t∈AD,t.status=1->fl t.g.cur m->∃o,Ai s t.on=some o/\fl o.l m
 Bm:(s.map (·.1)).Nodup
variable {m:AV} {M:UInt8->Prop} {AD:List AJ} {s:Ao}
def KI.of(h:KI m M AD s){b t}(a:Aw AD b=some t):TI m (CL m s) M t:=h.Gj t (Ed a)
structure Vq(m:AV)(M:AH->Prop)(AD:AA AJ)(s:Ao)(t u:AJ):Prop where
 id:u.id=t.id
 Ds:u.scopes=t.scopes
 path:u.path=t.path
 made:t.made<=u.made
 idle:t.status=2->u.status=2
 ti:TI m (CL m s) M u
 Al:fl t.g.Al m->fl u.g.Al m
 C5:(∀n o,Ai s n=some o->∀w∈o.var.q,w.id≠t.id)\/(u.status=t.status/\u.on=t.on/\u.g.cur=t.g.cur)
 G8:u.status=1->fl u.g.cur m->∃o,Ai s u.on=some o/\fl o.l m
def Hf{l u x}(h:x∈Az l u):x=u\/(x∈l/\x.id≠u.id):=by unfold Az at h;let⟨y,b,e⟩:=BG.1 h;split at e;exact .inl e.symm;rename_i a;subst e;exact .inr ⟨b,λq=>a (by simp[q])⟩
def AQa{a d:Type}{l:List a}{f g:a->List d}(h:∀x∈l,f x=g x):l.flatMap f=l.flatMap g:=by
 induction l with
 |nil=>rfl
 |cons x l c=>rw[List.flatMap_cons,List.flatMap_cons,h x List.mem_cons_self,c λy b=>h y (List.mem_cons_of_mem _ b)]
def AVx{l:List AJ}{t u:AJ}(b:FY l)(c:Aw l t.id=some t)(hid:u.id=t.id)(a:own u=own t):(Az l u).flatMap own=l.flatMap own:=by
 unfold Az;rw[List.flatMap_map];apply AQa;intro x d;split
 .rename_i h;have e:=beq_iff_eq.1 h;have:=MZ b d;rw[e,hid,c]at this;cases this;exact a
 .rfl
def ALy{l s t u}(d:Aw l t.id=some t)(c:∀q∈own u,q∈own t){q}(h:KT (Az l u) s q):KT l s q:=by rcases h with h|⟨x,a,b⟩;exact .inl h;rcases Hf a with rfl|⟨a,_⟩;exact .inr ⟨t,Ed d,c q b⟩;exact .inr ⟨x,a,b⟩
def KI.Fi(h:KI m M AD s){t u}(r:Aw AD t.id=some t)(k:Vq m M AD s t u):KI m M (Az AD u) s:=by
 have G:own u=own t:=by unfold own;rw[k.id,k.Ds]
 have c:=Ed r;refine{FB:=sorted_put h.FB u,Gj:=λx a=> ?_,D8:=h.D8,IV:=by rw[AVx h.FB r k.id G];exact h.IV,EH:=λx a I b j v q p=> ?_,I4:=λx a y d=> ?_,KW:=λx a o f E F=> ?_,C5:=λn o z=>⟨(h.C5 n o z).1,λw H=> ?_⟩,G8:=λx a=> ?_,Bm:=h.Bm};rcases Hf a with rfl|⟨a,_⟩;exact k.ti;exact h.Gj x a;have g:=ALy (u:=u) r (λq p=>by rw[G]at p;exact p) p;rcases Hf a with rfl|⟨a,_⟩;unfold Eh at b;rw[k.Ds,k.path]at b;rcases BA.1 b with l|l;exact h.EH t c I (E2 _ l) j v q g;split at l;cases l;rename_i A;have e:=AP.1 l;subst e;refine h.EH t c (t.path,t.made) (GJ _ ?_) j (CB k.made v) q g;rw[AN λe=>A (k.idle e)];simp;exact h.EH x a I b j v q g;rcases Hf a with rfl|⟨a,_⟩;rw[k.Ds]at d;exact h.I4 t c y d;exact h.I4 x a y d;rcases Hf a with rfl|⟨a,_⟩;rw[k.id]at f;have:=h.KW t c o f E F;unfold GO at this⊢;rw[k.Ds];split;rename_i J i;rw[i]at this;exact this;rename_i i;rw[i]at this;exact k.Al this;exact h.KW x a o f E F;let⟨y,d,B,C,D⟩:=(h.C5 n o z).2 w H;rw[Qw];by_cases e:w.id=u.id;rw[AW e,d];rw[e,k.id]at d;rw[r]at d;cases d;rcases k.C5 with q|⟨q1,q2,q3⟩;exact absurd (e.trans k.id) (q n o z w H);exact⟨u,rfl,q1.trans B,q2.trans C,q3.trans D⟩;rw[AN e];exact⟨y,d,B,C,D⟩;rcases Hf a with rfl|⟨a,_⟩;exact k.G8;exact h.G8 x a
end
section
variable {m:AV} {M:UInt8->Prop} {AD:List AJ} {s:Ao}
def AUN{s n o}(h:(s.map (·.1)).Nodup):((C0 s n o).map (·.1)).Nodup:=by
 cases e:Eg s n o with
 |false=>rw[RV e];exact h
 |true=>
  unfold C0;rw[AW e,EL,Fz];refine⟨h,sP,λa f b d=> ?_⟩;simp[EM,Kv,AP]at d;subst d;rintro rfl;simp[Eg,Bt,Ml]at e;obtain⟨x,g,rfl⟩:=BG.1 f;have c:=e.2;unfold Ai at c;rw[AD5,ADt]at c;exact c x g sP
def AUP{s n o}(h:(s.map (·.1)).Nodup):((Cf s n o).map (·.1)).Nodup:=by
 have e:(Cf s n o).map (·.1)=s.map (·.1):=by unfold Cf;split;rfl;split;rfl;rw[HA];apply Ih;intro x _;simp only[Function.comp];split;rename_i a;exact(Gm.1 a).symm;rfl
 rw[e];exact h
def Vv{s n o P}(c:BY n)(a:OI P M o)(b:Ai s n=none):Eg s n o:=by unfold Eg;rw[c,b];simp[a.CC,a.kind]
def KI.add(h:KI m M AD s){n o}(D:BY n)(r:Ai s n=none)(d:∀t∈AD,n∉own t)(B:∀t∈AD,∀i∈Eh t,∀j,i.2<=j->¬(i.1++[j])<+:n)
 (u:OI (CL m s) M o) (E:o.var.q=[]):KI m M AD (C0 s n o):=by
 have b:=Vv D u r;have hle:=Mn.add s n o;have g:∀v,CL m s v->CL m (C0 s n o) v:=λv F=>F.up hle;refine{FB:=h.FB,Gj:=λt c=>(h.Gj t c).up g,D8:=λq w a=> ?_,IV:=h.IV,EH:=λt c i p j k q f=> ?_,I4:=λt c x y=> ?_,KW:=λt c w a C l=> ?_,C5:=λq w a=> ?_,G8:=λt c z A=> ?_,Bm:=AUN h.Bm};rw[JI b]at a;split at a;cases a;exact u.up g;exact(h.D8 q w a).up g;rcases f with⟨w,a⟩|f;rw[JI b]at a;split at a;rename_i e;rw[e];exact B t c i p j k;exact h.EH t c i p j k q (.inl ⟨w,a⟩);exact h.EH t c i p j k q (.inr f);rw[JI b,AN];exact h.I4 t c x y;intro e;exact d t c (by rw[<-e];exact DW _ (BG.2 ⟨x,y,rfl⟩));rw[JI b]at a;split at a;rename_i e;exact absurd (by rw[<-e];exact DX) (d t c);exact h.KW t c w a C l;rw[JI b]at a;split at a;cases a;rw[E];exact⟨sP,nA⟩;exact h.C5 q w a;let⟨w,a,l⟩:=h.G8 t c z A;refine⟨w,?_,l⟩;rw[JI b,AN];exact a;intro e;rw[e,r]at a;cases a
def KI.set(h:KI m M AD s){n w o}(u:Ai s n=some w)(B:w.kind=o.kind)(p:w.l=o.l)(I:OI (CL m s) M o)
 (J:(o.var.q.map (·.id)).Nodup/\∀x∈o.var.q,∃t,Aw AD x.id=some t/\t.status=1/\t.on=n/\t.g.cur=o.l):KI m M AD (Cf s n o):=by
 have k:=ABD u B p;have hle:=Mn.set s n o;have f:∀v,CL m s v->CL m (Cf s n o) v:=λv K=>K.up hle;have b:∀q x,Ai (Cf s n o) q=some x->∃y,Ai s q=some y/\y.kind=x.kind/\y.l=x.l:=λq x a=>by rw[k]at a;split at a;rename_i e;cases a;rw[e];exact⟨w,u,B,p⟩;exact⟨x,a,rfl,rfl⟩
 refine{FB:=h.FB,Gj:=λt c=>(h.Gj t c).up f,D8:=λq x a=> ?_,IV:=h.IV,EH:=λt c E C j A q d=> ?_,I4:=λt c x a=> ?_,KW:=λt c x a l r=> ?_,C5:=λq x a=> ?_,G8:=λt c F G=> ?_,Bm:=AUP h.Bm};rw[k]at a;split at a;cases a;exact I.up f;exact(h.D8 q x a).up f;rcases d with⟨x,a⟩|d;let⟨y,g,_⟩:=b q x a;exact h.EH t c E C j A q (.inl ⟨y,g⟩);exact h.EH t c E C j A q (.inr d);cases e:Ai (Cf s n o) x.name with
 |none=>rfl
 |some y=>let⟨z,D,_⟩:=b _ _ e;rw[h.I4 t c x a]at D;cases D
 let⟨y,g,i,H⟩:=b _ _ a;exact h.KW t c y g (i.trans l) (by rw[H];exact r);rw[k]at a;split at a;rename_i e;cases a;subst e;exact J;exact h.C5 q x a;let⟨y,g,i⟩:=h.G8 t c F G;rw[k];split;rename_i e;rw[e,u]at g;cases g;exact⟨o,rfl,by rw[<-p];exact i⟩;exact⟨y,g,i⟩
structure JA(AD:AA AJ)(s:Ao)(n:Nm):Prop where
 ok:BY n
 own:∀t∈AD,n∉own t
 low:∀q,KT AD s q->n<+:q->q=n
 EH:∀t∈AD,∀pm∈Eh t,∀j,pm.2<=j->¬(pm.1++[j])<+:n
def AVo{a:Type}{l r:AA a}{x:a}(h:l<+:r++[x]):l=r++[x]\/l<+:r:=by rcases List.prefix_concat_iff.1 h with h|h;exact .inl h;exact .inr h
def AXR{a:Type}{l r:AA a}{x y:a}(h:l++[x]=r++[y]):l=r/\x=y:=by have:=List.append_inj' h rfl;exact⟨this.1,by simpa using this.2⟩
def AIk{P t}(h:TI m P M t){b}(a:b∈Eh t):b.1∈own t:=by unfold own;rw[<-h.MW];unfold Eh at a;rcases BA.1 a with a|a;obtain⟨x,c,rfl⟩:=BG.1 a;exact E2 _ (BG.2 ⟨x,c,rfl⟩);split at a;cases a;rw[AP.1 a];simp
def AFo{p n k}(h:child p k=some n):n=p++[k]/\BY n:=by unfold child at h;split at h;rename_i a;cases h;simp only[BY,Bt,D1]at a;refine⟨rfl,?_⟩;simp only[BY,Bt,D1,Bc,EW,I8,Yn,ADm,ADn,Yl];exact⟨⟨oG,oG⟩,a.1.1.2,a.2⟩;cases h
def AJC{l:AA AJ}(h:(l.flatMap own).Nodup):∀ {t u:AJ} {n:Nm},t∈l->u∈l->n∈own t->n∈own u->t=u:=by
 induction l with
 |nil=>intro t u n h;cases h
 |cons x l g=>
  intro t u n c d a b;rw[I6,Fz]at h;rcases BD.1 c with e|c<;>rcases BD.1 d with f|d;rw[e,f];rw[e]at a;exact absurd rfl (h.2.2 n a n (KG.2 ⟨u,d,b⟩));rw[f]at b;exact absurd rfl (h.2.2 n b n (KG.2 ⟨t,c,a⟩));exact g h.2.1 c d a b
def Xo{l:AA AJ}(h:(l.flatMap own).Nodup){t}(a:t∈l):(own t).Nodup:=by
 induction l with
 |nil=>cases a
 |cons x l b=>
  rw[I6,Fz]at h;rcases BD.1 a with e|a;rw[e];exact h.1;exact b h.2.1 a
def ATt{P t}(h:TI m P M t)(b:(own t).Nodup){c}(a:c∈Eh t)(d:c.1=t.path)(e:t.status≠2):c=(t.path,t.made):=by unfold own at b;rw[<-h.MW,Fz]at b;unfold Eh at a;rcases BA.1 a with a|a;obtain⟨x,f,rfl⟩:=BG.1 a;exact absurd d (b.2.2 _ (BG.2 ⟨x,f,rfl⟩) _ sP);rw[AN e]at a;exact AP.1 a
def KI.new(h:KI m M AD s){t u}(I:Aw AD t.id=some t)(F:t.status≠2){n}(L:child t.path t.made=some n)(hid:u.id=t.id)(v:u.scopes=t.scopes)(C:u.path=t.path)(H:u.made=t.made+1)(z:u.status≠2):JA (Az AD u) s n/\Ai s n=none:=by
 obtain⟨e,E⟩:=AFo L;have b:=Ed I;have w:=h.Gj t b;have c:(t.path,t.made)∈Eh t:=by unfold Eh;rw[AN F];simp
 have p:∀q,KT AD s q->¬n<+:q:=λq l=>by rw[e];exact h.EH t b _ c t.made (AZ _) q l
 have P:own u=own t:=by unfold own;rw[hid,v]
 have J:∀q,KT (Az AD u) s q->KT AD s q:=λq l=>ALy I (λq l=>by rw[P]at l;exact l) l;have f:t.path∈own t:=AIk w c;refine⟨⟨E,λx g O=>p n (J n (.inr ⟨x,g,O⟩)) (AD1 n),λq l C=>absurd C (p q (J q l)),λx g A a j B i=> ?_⟩,?_⟩;rw[e]at i;rcases AVo i with q|q;obtain⟨q1,q2⟩:=AXR q;rcases Hf g with rfl|⟨g,D⟩;unfold Eh at a;rw[v,C]at a;rcases BA.1 a with a|a;have d:A∈Eh t:=E2 _ a;have:=ATt w (Xo h.IV b) d q1 F;have r:=Xo h.IV b;unfold own at r;rw[<-w.MW,Fz]at r;obtain⟨y,Q,rfl⟩:=BG.1 a;exact absurd q1 (r.2.2 _ (BG.2 ⟨y,Q,rfl⟩) _ sP);rw[AN z]at a;have:=AP.1 a;subst this;rw[H]at B;simp only at B;omega;have G:=AIk (h.Gj x g) a;rw[q1]at G;have:=AJC h.IV g b G f;exact D (by rw[this,hid]);rcases Hf g with rfl|⟨g,_⟩;have d:∃k,(A.1,k)∈Eh t/\k<=A.2:=by unfold Eh at a⊢;rw[v,C,H]at a;rcases BA.1 a with a|a;exact⟨A.2,E2 _ a,AZ _⟩;rw[AN z]at a;rw[AP.1 a];exact⟨t.made,GJ _ (by rw[AN F];simp),sP⟩
 obtain⟨k,N,hle⟩:=d;exact h.EH t b _ N j (CB hle B) t.path (.inr ⟨t,b,f⟩) q;exact h.EH x g A a j B t.path (.inr ⟨t,b,f⟩) q;cases K:Ai s n with
 |none=>rfl
 |some o=>exact absurd (AD1 n) (p n (.inl ⟨o,K⟩))
def JA.add{n}(h:JA AD s n)(o):JA AD (C0 s n o) n:=by
 refine⟨h.ok,h.own,λq c b=> ?_,h.EH⟩;rcases c with⟨w,a⟩|c;cases e:Eg s n o with
 |false=>rw[RV e]at a;exact h.low q (.inl ⟨w,a⟩) b
 |true=>
  rw[JI e]at a;split at a;assumption;exact h.low q (.inl ⟨w,a⟩) b
 exact h.low q (.inr c) b
end
section
variable {m:AV} {M:UInt8->Prop} {AD:List AJ} {s:Ao}
theorem N2{l t x}:x∈Ji l t↔x=t\/x∈l:=by grind[DL,Ji,List.takeWhile_append_dropWhile]
theorem ABa(l t):(Ji l t).Perm (t::l):=by grind[DL,Ji,List.takeWhile_append_dropWhile,List.perm_middle]
theorem KI.fork(h:KI m M AD s){n}(r:JA AD s n){u}(hid:u.id=n)(N:u.path=n)(l:u.scopes=[])(A:u.status=0)(B:TI m (CL m s) M u)
 (D:∀o,Ai s n=some o->o.kind=6->fl o.l m->fl u.g.Al m):KI m M (B5 AD u) s:=by
 have g:Aw AD u.id=none:=by
  cases e:Aw AD u.id with
  |none=>rfl
  |some x=>
   have p:=GD e;exact absurd (by rw[<-hid,<-p];exact DX) (r.own x (Ed e))
 have e:B5 AD u=Ji AD u:=by unfold B5;rw[g];rfl
 have k:own u=[n]:=by unfold own;rw[hid,l];rfl
 have F:∀q,KT (Ji AD u) s q->KT AD s q\/q=n:=λq d=>by
  rcases d with d|⟨x,c,d⟩;exact .inl (.inl d);rcases N2.1 c with rfl|c
  grind
  exact .inl (.inr ⟨x,c,d⟩)
 rw[e];refine{FB:=ACt h.FB g,Gj:=λx c=> ?_,D8:=h.D8,IV:= ?_,EH:=λx c H f j E q d=> ?_,I4:=λx c y G=> ?_,KW:=λx c o L J K=> ?_,C5:=λq o d=>⟨(h.C5 q o d).1,λw O=> ?_⟩,G8:=λx c p I=> ?_,Bm:=h.Bm};rcases N2.1 c with rfl|c;exact B;exact h.Gj x c;refine((ABa AD u).flatMap_right own).nodup_iff.2 ?_;rw[I6,Fz];refine⟨by rw[k];simp,h.IV,λa C b t=> ?_⟩;rw[k,AP]at C;subst C;rintro rfl;let⟨x,c,t⟩:=KG.1 t;exact r.own x c t;rcases N2.1 c with rfl|c;unfold Eh at f;rw[l,A,N]at f;simp[Kv,Fo,show¬(0=2) by omega,Gn,AP]at f;subst f;intro i;have v:n<+:q:=(List.prefix_append n [j]).trans i;have z:q=n:=by rcases F q d with d|d;exact r.low q d v;exact d
 rw[z]at i;have:=i.length_le;simp at this;omega;rcases F q d with d|rfl;exact h.EH x c H f j E q d;exact r.EH x c H f j E;rcases N2.1 c with rfl|c
 grind
 exact h.I4 x c y G;rcases N2.1 c with rfl|c
 grind[GO]
 exact h.KW x c o L J K;let⟨y,G,p⟩:=(h.C5 q o d).2 w O
 grind[ALS]
 rcases N2.1 c with rfl|c
 grind
 exact h.G8 x c p I
theorem KI.scopes(h:KI m M AD s){t u}(ht:Aw AD t.id=some t)(hid:u.id=t.id)(B:TI m (CL m s) M u)(F:(own u).Nodup)(G:∀q∈own u,q∈own t\/(Ai s q=none/\∀x∈AD,q∉own x))
 (E:∀pm∈Eh u,∀j,pm.2<=j->∀q,(KT AD s q\/q∈own u)->¬(pm.1++[j])<+:q) (r:∀x∈AD,x.id≠t.id->∀pm∈Eh x,∀j,pm.2<=j->∀q∈own u,¬(pm.1++[j])<+:q)
 (k:∀x∈u.scopes,Ai s x.name=none) (i:fl (GO t 0) m=true->fl (GO u 0) m=true) (A:u.status≠1) (d:∀n o,Ai s n=some o->∀w∈o.var.q,w.id≠t.id):KI m M (Az AD u) s:=by
 have C:=Ed ht;have hu:∀q,KT (Az AD u) s q->KT AD s q\/q∈own u:=λq d=>by rcases d with d|⟨x,c,d⟩;exact .inl (.inl d);rcases Hf c with rfl|⟨c,_⟩;exact .inr d;exact .inl (.inr ⟨x,c,d⟩)
 refine{FB:=sorted_put h.FB u,Gj:=λx c=> ?_,D8:=h.D8,IV:= ?_,EH:=λx c pm z j hj q d=> ?_,I4:=λx c y p=> ?_,KW:=λx c o v hk hl=> ?_,C5:=λn o g=>⟨(h.C5 n o g).1,λw hw=> ?_⟩,G8:=λx c h1 H=> ?_,Bm:=h.Bm};rcases Hf c with rfl|⟨c,_⟩;exact B;exact h.Gj x c;have key:∀l:List AJ,FY l->(l.flatMap own).Nodup->(∀x∈l,x∈AD)->((Az l u).flatMap own).Nodup/\∀q,q∈(Az l u).flatMap own->(∃x∈l,x.id≠t.id/\q∈own x)\/(q∈own u/\∃x∈l,x.id=t.id):=by
  intro l;induction l with
  |nil=>intro _ _ _;exact⟨by simp[Az],λq d=>by simp[Az]at d⟩
  |cons y l Q=>
   intro hs g f;have I:=g;rw[List.flatMap_cons,List.nodup_append]at g;obtain⟨P,i2⟩:=Q (List.pairwise_cons.1 hs).2 g.2.1 λx c=>f x (List.mem_cons_of_mem _ c);have e:Az (y::l) u=(if y.id==u.id then u else y)::Az l u:=rfl;rw[e,List.flatMap_cons,List.nodup_append];by_cases p:y.id=t.id;rw[if_pos (by grind)];have O:y=t:=by have:=MZ h.FB (f y List.mem_cons_self);rw[p,ht]at this;exact(Option.some.inj this).symm
   have K:∀x∈l,x.id≠t.id:=by grind[List.pairwise_cons,N1]
   grind
   rw[if_neg (by grind)];refine⟨⟨g.1,P,λa ha b hb=> ?_⟩,λq d=> ?_⟩;rintro rfl;rcases i2 a hb with⟨x,c,_,L⟩|⟨R,x,c,D⟩
   grind
   have N:x=t:=by have:=MZ h.FB (f x (List.mem_cons_of_mem _ c));rw[D,ht]at this;exact(Option.some.inj this).symm
   grind
   grind
 exact(key AD h.FB h.IV λ_ h=>h).1;rcases Hf c with rfl|⟨c,J⟩
 grind
 rcases hu q d with d|d;exact h.EH x c pm z j hj q d
 grind
 rcases Hf c with rfl|⟨c,_⟩;exact k y p;exact h.I4 x c y p;rcases Hf c with rfl|⟨c,_⟩;rw[hid]at v;exact i (h.KW t C o v hk hl);exact h.KW x c o v hk hl;obtain⟨y,p,h1⟩:=(h.C5 n o g).2 w hw
 grind[Qw]
 rcases Hf c with rfl|⟨c,_⟩;exact absurd h1 A;exact h.G8 x c h1 H
theorem KI.Qf(h:KI m M AD s){t}(f:Aw AD t.id=some t)(b:t.status≠1):∀n o,Ai s n=some o->∀w∈o.var.q,w.id≠t.id:=λn o a w c e=>by
 let⟨y,g,d,_⟩:=(h.C5 n o a).2 w c
 grind
end
section
variable {m:AV} {M:UInt8->Prop} {AD:List AJ}
theorem Qp(l){t u}(h:u.id=t.id):Az (Az l t) u=Az l u:=by unfold Az;ext;grind
theorem Sk{l}{t u y:AJ}(b:Aw l t.id=some y)(h:u.id=t.id):Aw (Az l u) u.id=some u:=by grind[Qw]
def G7(l:AA AJ)(w:Nm×AA Val):AA AJ:=match Aw l w.1 with|some t=>Az l (DC t w.2)|none=>l
def Mx(l:AA AJ)(k:Call):AA AJ:=k.e.woken.foldl G7 (k.e.fork.foldl B5 (Az l k.t))
structure CI(m:AV)(M:AH->Prop)(AD:AA AJ)(a:AJ)(k:Call):Prop where
 ki:KI m M (Az AD k.t) k.s
 is:Aw AD a.id=some a
 id:k.t.id=a.id
 Ds:k.t.scopes=a.scopes
 st:k.t.status=0
 on:∀s∈a.scopes,Em s a.c k.t.c
 hid:fl a.g.cur m=false->fl k.t.g.cur m=false
structure FI(m:AV)(M:AH->Prop)(AD:AA AJ)(a:AJ)(k:Call):Prop where
 ki:KI m M (Mx AD k) k.s
 id:k.t.id=a.id
 Ds:k.t.scopes.take a.scopes.length=a.scopes
 cut:∀s∈a.scopes,E4 k.t.c s=E4 a.c s
 hid:fl a.g.cur m=false->Hl k.t m a.scopes.length=false
variable {a:AJ} {k:Call}
def CI.th(h:CI m M AD a k):Aw (Az AD k.t) k.t.id=some k.t:=Sk h.is h.id
def CI.ti(h:CI m M AD a k):TI m (CL m k.s) M k.t:=h.ki.of h.th
def FI.of(h:CI m M AD a k)(he:k.e.woken=[])(b:k.e.fork=[]):FI m M AD a k where
 ki:=by unfold Mx;rw[he,b];exact h.ki
 id:=h.id
 Ds:=by rw[h.Ds];exact HB
 cut:=λs hs=>(h.on s hs).eq
 hid:=λq=>by unfold Hl;rw[<-h.Ds,M5];exact h.hid q
def CI.Fi(h:CI m M AD a k){u}(hT:Vq m M (Az AD k.t) k.s k.t u)(d:u.status=0)(c:∀s∈a.scopes,Em s k.t.c u.c)(b:fl k.t.g.cur m=false->fl u.g.cur m=false):CI m M AD a {k with t:=u} where
 ki:=by have:=h.ki.Fi h.th hT;rwa [Qp AD hT.id]at this
 is:=h.is
 id:=hT.id.trans h.id
 Ds:=hT.Ds.trans h.Ds
 st:=d
 on:=λs hs=>(h.on s hs).trans (c s hs)
 hid:=λq=>b (h.hid q)
def CI.core(h:CI m M AD a k){d}(b:∀s∈a.scopes,Em s k.t.c d)(f:D6 (CL m k.s) M d):CI m M AD a {k with t:={k.t with c:=d}}:=
 h.Fi (u:={k.t with c:=d})
  {id:=rfl,Ds:=rfl,path:=rfl,made:=AZ _,idle:=λh=>h,ti:={h.ti with at_:=λs e=>(b s (by rw[<-h.Ds];exact e)).on.at_,H9:=λ_ s e=>(b s (by rw[<-h.Ds];exact e)).on,mono:=⟨h.ti.mono.out⟩,cap:=h.ti.cap,Al:=h.ti.Al,EF:=f},Al:=λh=>h,C5:=.inr ⟨rfl,rfl,rfl⟩,G8:=λq=>by rw[show k.t.status=0 from h.st]at q;cases q}
  h.st b λh=>h
theorem GP{P c}(h:D6 P M c){v}(d:P v):D6 P M (Ce c v):=
 ⟨h.fr,λx b=>by rcases BA.1 b with b|b;exact h.st x b;grind,h.tr,h.tm⟩
def CI.push(h:CI m M AD a k){v}(c:CL m k.s v):CI m M AD a (k.push v):=
 h.core (λs b=>M3 (h.on s b).on v) (GP h.ti.EF c)
structure Pt(m:AV)(g b:St):Prop where
 cap:fl b.cur b.Al
 cur:fl b.cur m->fl g.cur m
 Al:fl g.Al m->fl b.Al m
 CC:Ap b.cur=b.cur/\Ap b.Al=b.Al
theorem ABo{t g i}(h:i<t.scopes.length):IS {t with g:=g} i=IS t i:=by grind[IS]
theorem AF0{t g i}(h:i<t.scopes.length):GO {t with g:=g} i=GO t i:=by grind[GO]
theorem WK(t):GO t t.scopes.length=t.g.Al:=by grind[GO]
theorem AYd{P t}(h:TI m P M t){g}(f:Pt m t.g g):TI m P M {t with g:=g}:=by
 refine{h with mono:=⟨λi j d u c=> ?_⟩,cap:=λi l=> ?_,Al:=λi s q v=> ?_,CC:=⟨f.CC,h.CC.2⟩};have n:j<=t.scopes.length:=u;by_cases e:j=t.scopes.length;subst e;by_cases b:i=t.scopes.length;rw[b];exact c;have o:fl g.cur m:=by have:=M5 {t with g:=g};unfold Hl at c;rwa [this]at c
 have:=h.mono.out i t.scopes.length d (AZ _) (by unfold Hl;rw[M5];exact f.cur o);unfold Hl at this⊢
 grind[ABo]
 unfold Hl at c⊢;rw[ABo oG]at c⊢;exact h.mono.out i j d n c;by_cases e:i=t.scopes.length;have p:=M5 {t with g:=g};have b:=WK {t with g:=g};rw[e];rw[show({t with g:=g}:AJ).scopes.length=t.scopes.length from rfl]at p b;rw[p,b];exact f.cap;rw[ABo (by have:i<=t.scopes.length:=l;omega),AF0 gR];exact h.cap i l;have l:=(B6.1 q).1;have r:i<t.scopes.length:=l;have:=h.Al i s q v;by_cases e:i+1=t.scopes.length;have b:=WK {t with g:=g};rw[e];rw[e,WK]at this;exact(El (fl · m) b).trans (f.Al this);rw[AF0 oG];exact this
def CI.Bw(h:CI m M AD a k){g}(b:Pt m k.t.g g):CI m M AD a (k.Bw g):=
 h.Fi (u:={k.t with g:=g})
  {id:=rfl,Ds:=rfl,path:=rfl,made:=AZ _,idle:=λh=>h,ti:=AYd h.ti b,Al:=b.Al,C5:=.inl (KI.Qf h.ki h.th (by rw[h.st];decide)),G8:=λq=>by rw[show k.t.status=0 from h.st]at q;cases q}
  h.st (λs c=>Em.refl (h.on s c).on) λq=>by
   cases e:fl g.cur m with
   |false=>rfl
   |true=>rw[b.cur e]at q;cases q
end
section
variable {m:AV} {M:UInt8->Prop} {AD:List AJ} {d:AJ} {k:Call}
theorem LR{t u n}(h:FN t=some (u,n)):u= {t with made:=t.made+1,room:=t.room-1}/\child t.path t.made=some n/\1<=t.room:=by grind[FN,child]
def CI.room(h:CI m M AD d k){u made room}(c:u= {k.t with made:=made,room:=room})(a:k.t.made<=made):CI m M AD d {k with t:=u}:=by
 subst c;exact h.Fi (u:={k.t with made:=made,room:=room})
  {id:=rfl,Ds:=rfl,path:=rfl,made:=a,idle:=λh=>h,ti:={h.ti with mono:=⟨h.ti.mono.out⟩},Al:=λh=>h,C5:=.inr ⟨rfl,rfl,rfl⟩,G8:=λq=>by rw[show k.t.status=0 from h.st]at q;cases q}
  h.st (λs b=>Em.refl (h.on s b).on) λh=>h
theorem CI.name(h:CI m M AD d k){u n}(b:FN k.t=some (u,n)):CI m M AD d {k with t:=u}/\JA (Az AD u) k.s n/\Ai k.s n=none:=by
 let⟨e,a,_⟩:=LR b;have c:=h.room e (B9 _);let⟨f,g⟩:=h.ki.new (u:=u) h.th (by rw[h.st];decide) a (by rw[e]) (by rw[e]) (by rw[e]) (by rw[e]) (by rw[e];show k.t.status≠2;rw[h.st];decide)
 grind[Qp]
theorem AI6{l t u s n}(h:JA (Az l t) s n){y}(j:Aw l t.id=some y)(hid:u.id=t.id)(v:own u=own t)(p:Eh u=Eh t):JA (Az l u) s n:=by
 have r:t∈Az l t:=Ed (Sk j rfl);have a:∀x∈Az l u,∃y∈Az l t,own x=own y/\Eh x=Eh y:=by grind[Az]
 refine⟨h.ok,λx f=> ?_,λq c i=>h.low q ?_ i,λx f o b=> ?_⟩;let⟨y,g,e,_⟩:=a x f;rw[e];exact h.own y g;rcases c with c|⟨x,f,c⟩;exact .inl c;let⟨y,g,e,_⟩:=a x f;exact .inr ⟨y,g,by rw[<-e];exact c⟩;let⟨y,g,_,e⟩:=a x f;rw[e]at b;exact h.EH y g o b
def CI.ANJ(h:CI m M AD d k){n}(hN:JA (Az AD k.t) k.s n)(a:Ai k.s n=none){o}(b:OI (CL m k.s) M o)(c:o.var.q=[]):CI m M AD d {k with s:=C0 k.s n o}/\JA (Az AD k.t) (C0 k.s n o) n/\Ai (C0 k.s n o) n=some o:=by refine⟨{h with ki:=h.ki.add hN.ok a hN.own hN.EH b c},hN.add o,?_⟩;rw[JI (Vv hN.ok b a),AW rfl]
theorem CI.AEe(h:CI m M AD d k){n:Nm}(hN:JA (Az AD k.t) k.s n)(f:Ai k.s n=none){o:Ob}(a:OI (CL m k.s) M o)(g:o.var.q=[]):CI m M AD d (Ni k n o)/\JA (Az AD (Ni k n o).t) (Ni k n o).s n/\Ai (Ni k n o).s n=some o:=by
 obtain⟨h1,c,b⟩:=h.ANJ hN f a g
 have e:=h1.push (v:=hand o.kind n o.l) ⟨a.CC,⟨a.kind.2,AI9 hN.ok⟩,λ_ _=>⟨o,b,rfl,rfl⟩⟩
 exact⟨e,AI6 c (by rw[h.id];exact h.is) rfl rfl rfl,b⟩
def Kc{a b}:fl (Ap a) b=fl a b:=by rw[If,Hz,Hz,AUj]
theorem QP{a b}:fl a (Ap b)=fl a b:=by rw[If,Hz,Hz,AS1]
theorem Qg(a):Ap (Ap a)=Ap a:=AWS a
theorem VI{g l}(h:Cu g l=0):fl g.cur l/\fl l g.Al:=by grind[AZ1]
def ALX{P n g c room}(b:BY n)(l:fl g.cur g.Al)(hl:Ap g.cur=g.cur/\Ap g.Al=g.Al)(hc:D6 P M c)(f:P AO):TI m P M (Iy n g c room) where
 MW:=rfl
 Fx:=λq e=>by rw[AP.1 e];exact b
 nest:=List.Pairwise.nil
 Si:=BS _
 idle:=λh=>by cases h
 over:=λ_=>rfl
 at_:=λs hs=>by cases hs
 H9:=λ_ s hs=>by cases hs
 mono:=⟨λi j a hj o=>by assumption⟩
 cap:=λi hi=>by assumption
 Al:=λi s hs=>by simp[Iy]at hs
 CC:=⟨hl,nA⟩
 EF:=hc
 val:=f
theorem AAU{P}:D6 P M ⟨[],[],[]⟩:=by constructor<;>simp_all
theorem Ts{P c u}(h:D6 P M c){i vars a b}(e:F5 c i vars a b=some u)(n:∀v∈a,P v)(l:P (whole 0))(o:M b):D6 P M u:=by
 unfold F5 at e;split at e;cases e;cases e;refine⟨λf g=> ?_,h.st,λx j=> ?_,h.tm⟩;rcases BA.1 g with g|g;exact h.fr f g
 grind
 have:=h.tr x j
 grind
def CI.fork(h:CI m M AD d k)(he:k.e=Ba){n}(hN:JA (Az AD k.t) k.s n){u}(hid:u.id=n)(hp:u.path=n)(b:u.scopes=[])(c:u.status=0)(f:TI m (CL m k.s) M u)
 (a:∀o,Ai k.s n=some o->o.kind=6->fl o.l m->fl u.g.Al m):FI m M AD d {k with e:={k.e with fork:=k.e.fork++[u]}} where
 ki:=by unfold Mx;rw[he];exact h.ki.fork hN hid hp b c f a
 id:=h.id
 Ds:=by rw[h.Ds];exact HB
 cut:=λs hs=>(h.on s hs).eq
 hid:=λq=>by unfold Hl;rw[<-h.Ds,M5];exact h.hid q
theorem CI.waits(h:CI m M AD d k){n}(c:fl k.t.g.cur m->∃o,Ai k.s n=some o/\fl o.l m):KI m M (Az AD (FR k n).t) k.s:=by
 have hT:Vq m M (Az AD k.t) k.s k.t (FR k n).t:=
  {id:=rfl,Ds:=rfl,path:=rfl,made:=AZ _,idle:=(λq=>by rw[h.st]at q;cases q),ti:={h.ti with Si:=(by show 1<=4;decide),idle:=(λq=>by cases q),over:=(λq=>absurd q (by show¬3<=1;decide)),H9:=λ_ s b=>(h.on s (by rw[<-h.Ds];exact b)).on,mono:=⟨h.ti.mono.out⟩},Al:=λh=>h,C5:=.inl (KI.Qf h.ki h.th (by rw[h.st];decide)),G8:=λ_ a=>c a}
 have:=h.ki.Fi h.th hT
 grind[FR,Qp]
def FI.mk'(h:CI m M AD d k){k'}(b:KI m M (Mx AD k') k'.s)(hid:k'.t.id=k.t.id)(a:k'.t.scopes=k.t.scopes)(c:k'.t.g=k.t.g)(hc:k'.t.c=k.t.c):FI m M AD d k' where
 ki:=b
 id:=hid.trans h.id
 Ds:=by rw[a,h.Ds];exact HB
 cut:=λs hs=>by rw[hc];exact(h.on s hs).eq
 hid:=λq=>by
  unfold Hl;have e:d.scopes.length=k'.t.scopes.length:=by rw[a,h.Ds]
  rw[e,M5,c];exact h.hid q
def CI.ADT(h:CI m M AD d k)(a:k.e=Ba){n}(b:fl k.t.g.cur m->∃o,Ai k.s n=some o/\fl o.l m):FI m M AD d (FR k n):=
 FI.mk' h (by unfold Mx;rw[show(FR k n).e=Ba from a];exact h.waits b) rfl rfl rfl rfl
theorem IE{k x o}(h:IZ k x=some o):Ai k.s x.name=some o/\o.kind=x.kind/\o.l=x.l:=by grind[IZ]
def CI.AW6(h:CI m M AD d k){n o}(a:Ai k.s n=some o){v}(b:CL m k.s v):CI m M AD d {k with s:=Cf k.s n {o with v:=v}}:=
 {h with ki:=h.ki.set a rfl rfl {h.ki.D8 n o a with val:=b} (h.ki.C5 n o a)}
end
section
variable {m:AV} {M:UInt8->Prop} {AD:List AJ} {d:AJ} {k:Call}
theorem AYV{l u id}(h:id≠u.id):Aw (Az l u) id=Aw l id:=by rw[Qw,AN h]
theorem CI.AJv(h:CI m M AD d k)(I:k.e=Ba){n o}(g:Ai k.s n=some o)(B:k.t.g.cur=o.l){w}(C:w.id=k.t.id)(J:CL m k.s w.v){x}(u:x.q=o.var.q++[w])(v:x.v=o.var.v):
 FI m M AD d (FR {k with s:=Cf k.s n {o with var:=x}} n):=by
 refine FI.mk' h ?_ rfl rfl rfl rfl;have D:=h.waits (n:=n) λF=>⟨o,g,by rw[<-B];exact F⟩;have r:Aw (Az AD (FR k n).t) k.t.id=some (FR k n).t:=Sk (u:=(FR k n).t) (t:=d) h.is h.id;have f:=h.ki.D8 n o g;have j:=KI.Qf h.ki h.th (by rw[h.st];decide) n o g;have l:∀y∈x.q,CL m k.s y.v:=λy c=>by
  rw[u]at c;rcases BA.1 c with c|c;exact f.C5 y c
  grind
 have p:(x.q.map (·.id)).Nodup:=by rw[u,EL,Fz];refine⟨(h.ki.C5 n o g).1,sP,λa E b A=> ?_⟩;simp[EM,Kv,AP]at A;subst A;rintro rfl;let⟨y,c,e⟩:=BG.1 E;exact j y c (e.trans C)
 have i:∀y∈x.q,∃t,Aw (Az AD (FR k n).t) y.id=some t/\t.status=1/\t.on=n/\t.g.cur=o.l:=λy c=>by
  rw[u]at c;rcases BA.1 c with c|c;have G:=j y c;let⟨z,K,q⟩:=(h.ki.C5 n o g).2 y c
  grind[FR,AYV]
  rw[AP.1 c,C];exact⟨_,r,rfl,rfl,B⟩
 have H:=D.set (o:={o with var:=x}) g rfl rfl {f with Ks:=(by show CL m k.s x.v;rw[v];exact f.Ks),C5:=l} ⟨p,i⟩
 grind[Mx,FR,Cf,Ba]
def AJP{c s}(h:On c s)(l):On {c with stack:=c.stack++l} s:=⟨h.fr,h.bs,by simp[Bc];have:=h.ht;omega,h.tl,h.tr,h.tp⟩
theorem KI.wake{s}(h:KI m M AD s){id t}(c:Aw AD id=some t)(b:t.status=1)(i:∀n o,Ai s n=some o->∀w∈o.var.q,w.id≠id){l}(g:∀v∈l,CL m s v):KI m M (G7 AD (id,l)) s:=by
 have hid:=GD c;subst hid;have a:=h.of c;have e:G7 AD (t.id,l)=Az AD (DC t l):=by unfold G7;simp[c]
 rw[e];refine h.Fi c {id:=rfl,Ds:=rfl,path:=rfl,made:=AZ _,idle:=(λq=>by grind),ti:={a with Si:=(by show 0<=4;decide),idle:=(λq=>by cases q),over:=(λq=>absurd q (by show¬3<=0;decide)),at_:=(λs f=>(AJP (a.H9 (by rw[b];decide) s f) l).at_),H9:=(λ_ s f=>AJP (a.H9 (by rw[b];decide) s f) l),mono:=⟨a.mono.out⟩,EF:=⟨a.EF.fr,(λv j=>(BA.1 j).elim (a.EF.st v) (g v)),a.EF.tr,a.EF.tm⟩},Al:=(λh=>h),C5:=.inl i,G8:=(λq=>by cases q)}
theorem AJB{l:List Wt}(h:(l.map (·.id)).Nodup){i}{w:Wt}(hi:l[i]? =some w):∀y∈l.eraseIdx i,y.id≠w.id:=by grind[List.getElem?_eq_some_iff,List.mem_eraseIdx_iff_getElem?,List.pairwise_iff_getElem,Nat.lt_trichotomy]
theorem CI.AMY(h:CI m M AD d k)(he:k.e=Ba){n o}(g:Ai k.s n=some o){i w}(hi:o.var.q[i]? =some w){x}(J:x.q=o.var.q.eraseIdx i)(B:CL m k.s x.v){l}(hl:∀v∈l,CL m k.s v){t'}
 (hC:CI m M AD d {k with t:=t'}):FI m M AD d (GW {k with s:=Cf k.s n {o with var:=x},t:=t'} w.id l):=by
 have c:=h.ki.D8 n o g;obtain⟨C,b⟩:=hC.ki.C5 n o g;have A:w∈o.var.q:=List.mem_of_getElem? hi;obtain⟨H,a,r,D,_⟩:=b w A;have f:=hC.ki.set (o:={o with var:=x}) g rfl rfl {c with Ks:=B,C5:=λy j=>c.C5 y (by grind[List.mem_of_mem_eraseIdx])} (by grind[List.eraseIdx_sublist]);have p:w.id≠[]:=by have h1:=(hC.ki.of a).Fx H.id List.mem_cons_self;rw[GD a]at h1;intro e;rw[e]at h1;revert h1;decide
 have u:GW {k with s:=Cf k.s n {o with var:=x},t:=t'} w.id l= {k with s:=Cf k.s n {o with var:=x},t:=t',e:={k.e with woken:=k.e.woken++[(w.id,l)]}}:=by unfold GW;rw[if_neg p]
 rw[u];refine FI.mk' hC ?_ rfl rfl rfl rfl;unfold Mx;rw[he];refine f.wake a r (λq y j z G e=> ?_) (λv F=>(hl v F).up (Mn.set _ _ _));rw[ABD (o:={o with var:=x}) g rfl rfl]at j;split at j
 grind[AJB]
 rename_i E;obtain⟨K,h1,_,I,_⟩:=(hC.ki.C5 q y j).2 z G
 grind
theorem CI.scope(h:CI m M AD d k)(he:k.e=Ba){fn vars:Nat}{arg N l}{O room:Int}{ac:Nat}{u}(F:IP k.t fn vars arg N l O room ac=.inl u)(ha:CL m k.s arg)(hm:M N):FI m M AD d {k with t:=u}:=by
 unfold IP at F;split at F;cases F;split at F;cases F;split at F;cases F;rename_i hw;have hw:=VI (NS.1 hw);split at F;cases F;rename_i p made aa;split at F;cases F;split at F;cases F;rename_i c W;cases F;let⟨P,hN,ag⟩:=h.name aa;let⟨e1,_,_⟩:=LR aa;have z:p.id=k.t.id/\p.scopes=k.t.scopes/\p.c=k.t.c/\p.g=k.t.g/\p.status=0/\p.path=k.t.path:=by rw[e1];exact⟨rfl,rfl,rfl,rfl,h.st,rfl⟩
 have D:TI m (CL m k.s) M p:=P.ti;generalize hs:(⟨made,Ap l,ac+O.toNat,k.t.c.AF.length,k.t.c.stack.length,k.t.c.tries.length,k.t.g,k.t.path,p.made,p.room-room.toNat⟩:Cs)=sc;have af:c.AF.length=k.t.c.AF.length+1/\c.stack=k.t.c.stack/\c.tries=k.t.c.tries/\c.AF.drop k.t.c.AF.length=[⟨fn,0,k.t.c.stack.length,N,[arg]++List.replicate (min vars 16) (whole 0)⟩]:=by unfold F5 at W;split at W;cases W;cases W;simp
 have I:∀s∈k.t.scopes,Em s k.t.c c:=λs n=>ABe (h.on s (by rw[<-h.Ds];exact n)).on W;have al:On c sc:=by
  subst hs;refine⟨by grind,λf hf=> ?_,by grind,by grind,λx L=> ?_,λx L=> ?_⟩
  grind
  grind
  have ab:x∈c.tries.take k.t.c.tries.length:=L;rw[af.2.2.1,HB]at ab;exact h.ti.EF.tr x ab
 have Y:D6 (CL m k.s) M c:=Ts h.ti.EF W (λv hv=>by grind) (GF 0) hm;have ak:∀s∈p.scopes++[sc],On c s:=λs n=>by
  rcases BA.1 n with n|n;exact(I s gR).on
  grind
 have o:sc.l=Ap l/\sc.g=k.t.g/\sc.name=made/\sc.path=k.t.path/\sc.made=p.made/\sc.AF=k.t.c.AF.length/\sc.CF=k.t.c.stack.length/\sc.tries=k.t.c.tries.length:=by subst hs;exact⟨rfl,rfl,rfl,rfl,rfl,rfl,rfl,rfl⟩
 generalize S:({p with scopes:=k.t.scopes++[sc],c:=c,g:=⟨p.g.cur,sc.l⟩,path:=made,made:=0,room:=room.toNat}:AJ)=u;have w:u.scopes=p.scopes++[sc]:=by rw[<-S,z.2.1]
 have X:u.scopes.length=p.scopes.length+1:=by rw[w];simp
 have A:u.id=p.id:=by rw[<-S]
 have U:u.g=⟨k.t.g.cur,sc.l⟩:=by rw[<-S,z.2.2.2.1]
 have T:u.c=c:=by rw[<-S]
 have H:u.status=0:=by rw[<-S];exact z.2.2.2.2.1
 have G:u.path=made/\u.made=0:=by rw[<-S];exact⟨rfl,rfl⟩
 have B:own u=own p++[made]:=by unfold own;rw[A,w,EL];simp[o.2.2.1]
 have aj:Eh u=Eh p++[(made,0)]:=by unfold Eh;rw[H,z.2.2.2.2.1,w,G.1,G.2];simp[o.2.2.2.1,o.2.2.2.2.1,z.2.2.2.2.2]
 have K:Aw (Az AD p) p.id=some p:=P.th;have E:=Ed K;have R:∀i,i<=p.scopes.length->IS u i=IS p i:=by grind[IS]
 have Q:∀i,i<=p.scopes.length->GO u i=GO p i:=by grind[GO]
 have ai:IS u u.scopes.length=k.t.g.cur:=by rw[M5,U]
 have ad:GO u u.scopes.length=sc.l:=by rw[WK,U]
 have ae:TI m (CL m k.s) M u:={
  MW:=by rw[w,G.1,A,EL,EL];have:=D.MW;grind
  Fx:=λq r=>by rw[B]at r;rcases BA.1 r with r|r;exact D.Fx q r;rw[AP.1 r];exact hN.ok
  nest:=by rw[w,Y0];refine⟨D.nest,sP,λa ha b hb=> ?_⟩;rw[AP.1 hb,o.2.2.2.2.2.1,o.2.2.2.2.2.2.1,o.2.2.2.2.2.2.2];have:=(h.on a (by rw[<-h.Ds,<-z.2.1];exact ha)).on;exact⟨this.fr,this.ht,this.tl⟩
  Si:=by rw[H];decide
  idle:=λq=>by grind
  over:=λq=>by grind
  at_:=λs n=>by rw[w]at n;rw[T];exact(ak s n).at_
  H9:=by grind
  mono:=⟨λi j an V hv=>by
   rw[X]at V;have am:Hl p m (min j p.scopes.length):=by
    by_cases e:j=p.scopes.length+1;simp_all[Hl,Nat.min_eq_right,oG,M5]
    grind[Hl]
   by_cases e:i=p.scopes.length+1
   grind
   have:=D.mono.out i (min j p.scopes.length) oG oG am
   grind[Hl]⟩
  cap:=λi hi=>by
   rw[X]at hi;by_cases e:i=p.scopes.length+1
   grind[QP]
   rw[R i oG,Q i oG];exact D.cap i oG
  Al:=λi s n hl=>by
   rw[w]at n;by_cases e:i<p.scopes.length;rw[FT e]at n;rw[Q _ oG];exact D.Al i s n hl
   grind
  CC:=by rw[U];refine⟨⟨h.ti.CC.1.1,by grind[Qg]⟩,λs n=> ?_⟩;rw[w]at n;rcases BA.1 n with n|n;exact D.CC.2 s n;rw[AP.1 n,o.1,o.2.1,Qg];exact⟨rfl,h.ti.CC.1⟩
  EF:=by rw[T];exact Y
  val:=by rw[<-S];exact D.val}
 have ah:KI m M (Az (Az AD p) u) k.s:=by
  refine P.ki.scopes K A ae ?_ (λq r=> ?_) (λpm y j V q r=> ?_) (λx L ao pm y j V q r=> ?_) (λx L=> ?_) (λq=> ?_) (by rw[H];decide) (KI.Qf P.ki K gR);rw[B,Fz];refine⟨Xo P.ki.IV E,sP,λa ha b hb=> ?_⟩;rw[AP.1 hb];rintro rfl;exact hN.own p E ha;rw[B]at r;rcases BA.1 r with r|r;exact .inl r;rw[AP.1 r];exact .inr ⟨ag,hN.own⟩;have C:KT (Az AD p) k.s q\/q=made:=by
   rcases r with r|r;exact .inl r;rw[B]at r;rcases BA.1 r with r|r;exact .inl (.inr ⟨p,E,r⟩)
   grind
  rw[aj]at y;rcases BA.1 y with y|y;rcases C with C|C;exact P.ki.EH p E pm y j V q C;rw[C];exact hN.EH p E pm y j V;rw[AP.1 y];intro J;have h2:made<+:q:=(List.prefix_append made [j]).trans J;have h3:q=made:=C.elim (λC=>hN.low q C h2) λh=>h;rw[h3]at J;have:=J.length_le;simp at this;omega;rw[B]at r;rcases BA.1 r with r|r;exact P.ki.EH x L pm y j V q (.inr ⟨p,E,r⟩);rw[AP.1 r];exact hN.EH x L pm y j V;rw[w]at L;rcases BA.1 L with L|L;exact P.ki.I4 p E x L
  grind
  grind
 rw[Qp AD A]at ah;have Z:d.scopes.length=p.scopes.length:=by rw[z.2.1,h.Ds]
 refine⟨?_,A.trans (z.1.trans h.id),?_,λs n=> ?_,λq=> ?_⟩
 grind[Mx,Ba]
 show u.scopes.take d.scopes.length=d.scopes;rw[w,Z,NZ,z.2.1,h.Ds];rfl;show E4 u.c s=E4 d.c s;rw[T];exact((h.on s n).trans (I s (by rw[h.Ds];exact n))).eq;show Hl u m d.scopes.length=false;unfold Hl;rw[Z,R _ (AZ _),M5,z.2.2.2.1];exact h.hid q
end
section
variable {m:AV} {M:UInt8->Prop} {AD:List AJ} {a:AJ} {k:Call}
theorem AG0{P t}(h:TI m P M t):∀s∈t.scopes,s.AF<=(CW t).1/\s.tries<=(CW t).2:=by
 intro s d;unfold CW;cases e:t.scopes.getLast? with
 |none=>grind
 |some x=>
  simp only;obtain⟨i,b,rfl⟩:=S7.1 d;rw[NT]at e;obtain⟨c,rfl⟩:=B6.1 e;by_cases q:i=t.scopes.length-1
  grind
  have:=Mh.1 h.nest i (t.scopes.length-1) b c oG
  grind
theorem APC{P c}(h:D6 P M c){f s t}(g:∀x∈c.tries.take t,x.AF<=f):D6 P M (Eo c f s t) where
 fr:=λx d=>h.fr x (Fl d)
 st:=λv e=>h.st v (Fl e)
 tr:=λx b=>by
  have h1:=g x b;have i:=h.tr x (Fl b)
  grind[Eo]
 tm:=h.tm.sublist (VT _ _)
def APA{P c}(h:D6 P M c){l i g}(d:∀f∈l,f∈c.AF):∀f∈IY l i g,M f.AL/\∀v∈f.vars,P v:=by intro f b;rcases mem_modify b with b|⟨y,e,rfl⟩;exact h.fr f (d f b);exact h.fr y (d y e)
theorem APD{P c u}(h:D6 P M c)(r:∀n,P (whole n)){d:Int}{g:Nat}(b:Ld c d g=some u):D6 P M u:=by
 unfold Ld at b;cases e:c.tries.getLast? with
 |none=>grind
 |some t=>
  rw[e]at b;simp only at b;split at b;cases b;split at b;cases b;rename_i s;cases b;refine⟨APA h λf l=>Fl l,λv j=> ?_,λx q=> ?_,h.tm.sublist (VT _ _)⟩;rcases BA.1 j with j|j;exact h.st v (Fl j)
  grind
  simp[IY,Mg,CX];have w:x.AF<=t.AF:=by rw[NT]at e;obtain⟨p,rfl⟩:=B6.1 e;obtain⟨i,o,rfl⟩:=S7.1 q;rw[CX]at o;rw[Yr];exact Mh.1 h.tm i (c.tries.length-1) oG p oG
  omega
theorem AF3{P c}(h:D6 P M c)(e:∀n,P (whole n)){b:Int}{d:Nat}:D6 P M (D4 c b d).1:=by grind[D4,APD]
theorem Un(c)(b:Int)(d:Nat):(D4 c b d).2=.Ic\/((D4 c b d).2=.failed (whole b)/\(D4 c b d).1=c):=by grind[D4]
theorem CI.end_(h:CI m M AD a k){c}(A:∀s∈a.scopes,E4 c s=E4 a.c s)(w:∀s∈a.scopes,At c s)(hc:D6 (CL m k.s) M c)(he:k.e=Ba){v}(B:CL m k.s v)(ex:Bool):FI m M AD a (Ea {k with t:={k.t with c:=c}} v ex):=by
 generalize hu:E6 {k.t with c:=c} v ex=u;have hid:u.id=k.t.id:=by rw[<-hu];rfl
 have b:u.scopes=k.t.scopes:=by rw[<-hu];rfl
 have C:u.g=k.t.g:=by rw[<-hu];rfl
 have n:u.c=c:=by rw[<-hu];rfl
 have z:u.status=if 0<k.t.scopes.length then 2 else if ex then 4 else 3:=by rw[<-hu];rfl
 have p:2<=u.status/\u.status<=4/\(u.status=2->0<k.t.scopes.length)/\(3<=u.status->k.t.scopes.length=0):=by rw[z];split;exact⟨oG,oG,λ_=>by assumption,λh=>oG⟩;split;exact⟨oG,oG,λh=>oG,λ_=>oG⟩;exact⟨oG,oG,λh=>oG,λ_=>oG⟩
 have e:=h.ti;have f:∀i,IS u i=IS k.t i:=λi=>by grind[IS]
 have g:∀i,GO u i=GO k.t i:=λi=>by grind[GO]
 have r:TI m (CL m k.s) M u:={
  MW:=by rw[b,hid];have:=e.MW;rw[<-hu];exact this
  Fx:=λq G=>e.Fx q (by grind[own])
  nest:=by rw[b];exact e.nest
  Si:=p.2.1
  idle:=λq=>by grind
  over:=by grind
  at_:=λs hs=>by rw[n];exact w s (by rw[<-h.Ds,<-b];exact hs)
  H9:=λq=>oG
  mono:=⟨λi j x hj l=>by unfold Hl at l⊢;rw[f]at l⊢;exact e.mono.out i j x (by rw[<-b];exact hj) l⟩
  cap:=λi hi=>by rw[f,g];exact e.cap i (by rw[<-b];exact hi)
  Al:=λi s hs hl=>by rw[g];exact e.Al i s (by rw[<-b];exact hs) hl
  CC:=by rw[C,b];exact e.CC
  EF:=by rw[n];exact hc
  val:=by rw[<-hu];exact B}
 have hT:Vq m M (Az AD k.t) k.s k.t u:={id:=hid,Ds:=b,path:=(by rw[<-hu];rfl),made:=(by rw[<-hu];exact AZ _),idle:=(λq=>by rw[h.st]at q;cases q),ti:=r,Al:=(by grind),C5:=.inl (KI.Qf h.ki h.th (by rw[h.st];decide)),G8:=(λq=>oG)};have d:=h.ki.Fi h.th hT;rw[Qp AD hid]at d;have key:∀k':Call,k'.t=u->KI m M (Az AD u) k'.s->k'.e.fork=[]->k'.e.woken=[]->FI m M AD a k':=λk' h1 D E F=>
  {
   ki:=by grind[Mx]
   id:=by rw[h1];exact hid.trans h.id
   Ds:=by rw[h1,b,h.Ds];exact HB
   cut:=λs hs=>by grind
   hid:=λq=>by rw[h1];unfold Hl;rw[f,<-h.Ds,M5];exact h.hid q}
 unfold Ea;rw[hu];dsimp only;split;exact key _ rfl d (by show k.e.fork=[];rw[he];rfl) (by show k.e.woken=[];rw[he];rfl)
 .refine key _ rfl ?_ (by show k.e.fork=[];rw[he];rfl) (by show k.e.woken=[];rw[he];rfl);show KI m M (Az AD u) (match Ai k.s u.id with|some o=>if o.kind=6 then Cf k.s u.id {o with v:=v,ex:=ex,done:=true}else k.s|none=>k.s);split;rename_i o y;split;exact d.set y rfl rfl {d.D8 _ o y with val:=B} (d.C5 _ o y);exact d;exact d
def CI.raise(h:CI m M AD a k)(i:CI m M AD a ⟨k.s,a,Ba⟩)(g:k.e=Ba){code:Int}{tries:Nat}(o:∀s∈a.scopes,s.tries<=tries):FI m M AD a (Ec k a.c code tries):=by have j:D6 (CL m k.s) M (D4 a.c code tries).1:=AF3 i.ti.EF λn=>GF n;have f:∀s∈a.scopes,Em s a.c (D4 a.c code tries).1:=λs b=>AHp (i.on s b).on (o s b);have d:CI m M AD a {k with t:={k.t with c:=(D4 a.c code tries).1}}:=h.core (λs b=>⟨(f s b).on,(f s b).eq.trans (h.on s b).eq.symm⟩) j;unfold Ec;rcases Un a.c code tries with e|⟨e,l⟩;generalize D4 a.c code tries=r at*;let⟨u,out⟩:=r;simp only at e;subst e;exact FI.of d (by show k.e.woken=[];rw[g];rfl) (by show k.e.fork=[];rw[g];rfl);generalize D4 a.c code tries=r at*;let⟨u,out⟩:=r;simp only at e l;subst e;exact h.end_ (λs b=>(f s b).eq) (λs b=>(f s b).on.at_) j g (GF _) true
end
section
variable {m:AV} {M:UInt8->Prop} {AD:List AJ} {d:AJ} {k:Call}
structure Ij(im:Ak):Prop where
 kind:∀v∈im.consts,v.kind<=2
 CC:∀v∈im.consts,Ap v.l=v.l
 nm:∀v∈im.consts,v.name=[]
def Ij.val{b}(h:Ij b){s v}(a:v∈b.consts):CL m s v:=⟨h.CC v a,⟨CB (h.kind v a) dC,by rw[h.nm v a];exact Xa⟩,λq=>absurd (h.kind v a) oG⟩
def QB{P c}(h:D6 P M c){f}(b:∀x,(M x.AL/\∀v∈x.vars,P v)->M (f x).AL/\∀v∈(f x).vars,P v):D6 P M (Da c f) where
 fr:=λx a=>by rcases mem_modify a with a|⟨y,e,rfl⟩;exact h.fr x a;exact b y (h.fr y e)
 st:=h.st
 tr:=λx a=>by simp[Da,Mg];exact h.tr x a
 tm:=h.tm
def AAV{P c}(h:D6 P M c)(n):D6 P M (Ev c n):=⟨h.fr,λv a=>h.st v (Fl a),h.tr,h.tm⟩
def Ul{P c}(h:D6 P M c)(n):∀v∈CJ c n,P v:=λv a=>h.st v (Kw a)
def Mz{P:Val->Prop}{l:List Val}(h:∀v∈l,P v)(a:P AO)(i:Nat):P (l.getD i AO):=by
 rw[List.getD_eq_getElem?_getD];cases e:l[i]? with
 |none=>exact a
 |some v=>exact h v (List.mem_of_getElem? e)
def AO8{P a c}(h:D6 P M c)(o):D6 P M (ER a c o):=QB (AAV h _) λ_ h=>h
def ADD{c:Ae}{f}(h:c.top=some f):f∈c.AF:=Yx h
def AF4{P c}(h:D6 P M c):D6 P M (Di c) where
 fr:=λx a=>h.fr x (Fl a)
 st:=λv b=>h.st v (Fl b)
 tr:=λx a=>by have:=(VS.1 a).2;simp[D1]at this;simp[Di,CX];omega
 tm:=h.tm.sublist List.filter_sublist
def AO9{s B}(y:Ij B){c u:Ae}{o l n}(C:∀a b,M a->M (a&&&b))(h:D6 (CL m s) M c)(z:∀v∈l,CL m s v)(q:0<c.AF.length)(g:Fh B c o l n=.inl u):D6 (CL m s) M u:=by
 have t:=Mz z Gk 0;have F:=Mz z Gk 1;have r:∃f,c.top=some f:=by
  unfold Ae.top;cases e:c.AF.getLast? with
  |none=>rw[List.getLast?_eq_none_iff]at e;rw[e]at q;cases q
  |some f=>exact⟨f,rfl⟩
 obtain⟨f,w⟩:=r;have p:=h.fr f (ADD w);unfold Fh at g;dsimp only at g;split at g;cases g;exact GP h (Mz (λv j=>y.val j) Gk _);cases g;rw[w];exact GP h (Mz p.2 Gk _);cases g;refine QB h λx i=>⟨i.1,λv j=> ?_⟩;rcases List.mem_or_eq_of_mem_set j with j|j;exact i.2 v j;rw[j];exact t;cases g;exact h;cases g;exact GP (GP h t) t;cases g;exact GP (GP h F) t;cases g;exact GP h (ADR _);split at g;split at g;cases g;exact GP h (GF _);cases g;cases g;split at g;split at g;cases g;exact GP h (GF _);cases g;cases g;split at g;split at g;cases g;exact GP h (GF _);cases g;cases g;split at g;split at g;cases g;exact GP h (GF _);cases g;cases g;split at g;split at g;cases g;exact GP h (GF _);cases g;cases g;split at g;split at g;cases g;exact GP h (GF _);cases g;cases g;split at g;cases g;exact GP h (ADR _);cases g;cases g;exact QB h λx i=>i;split at g;split at g;cases g;exact QB h λx i=>i;cases g;exact h;cases g;split at g;rename_i A;cases g;rw[w]at A;exact Ts h A z (GF 0) p.1;cases g;split at g<;>cases g;cases g;refine⟨h.fr,h.st,λx i=> ?_,?_⟩;rcases List.mem_append.1 i with i|i;exact h.tr x i;rw[List.mem_singleton.1 i];exact Nat.le_refl _;rw[List.pairwise_append];refine⟨h.tm,sP,λa D b E=> ?_⟩;rw[List.mem_singleton.1 E];exact h.tr a D;cases g;split;exact⟨h.fr,h.st,λx i=>h.tr x (List.mem_of_mem_take i),h.tm.sublist (List.take_sublist _ _)⟩;exact h;split at g;cases g;exact GP h (VB (AKG _ _));cases g;split at g;cases g;exact GP h (VB (AWR _ _));cases g;split at g;cases g;exact GP h (ADR _)
 cases g;split at g;cases g;exact GP h (VB t.CC);cases g;cases g;exact QB h λx i=>⟨C _ _ i.1,i.2⟩;cases g;exact GP h (GF _);cases g;exact h
def AA4{b}{c:Ae}{o}(h:Hy b c=some o):0<c.AF.length:=by unfold Hy at h;split at h;cases h;rename_i f a;exact VR (ADD a)
def APB{s i}(l:Ij i){c AF tries}(p:∀a b,M a->M (a&&&b))(h:D6 (CL m s) M c):D6 (CL m s) M (ET i c AF tries).1/\∀v,((ET i c AF tries).2=.ended v\/(ET i c AF tries).2=.failed v)->CL m s v:=by
 unfold ET;split;exact⟨h,λv f=>by rcases f with f|f<;>cases f;exact GF _⟩;rename_i o q;split;exact⟨h,λv f=>by rcases f with f|f<;>cases f⟩;split;dsimp only;split;exact⟨AF4 h,λv f=>by rcases f with f|f;cases f;exact Mz (Ul h 1) Gk 0;cases f⟩
 exact⟨GP (AF4 h) (Mz (Ul h 1) Gk 0),λv f=>by rcases f with f|f<;>cases f⟩;split;rename_i u r;refine⟨AO9 l p (AO8 h o) (Ul h _) ?_ r,λv f=>by rcases f with f|f<;>cases f⟩;have:=AA4 q;simpa[ER,Da,Ev]using this;rename_i g j;refine⟨AF3 h λn=>GF n,λv f=> ?_⟩;rcases Un c g tries with e|⟨e,_⟩;rw[e]at f;rcases f with f|f<;>cases f;rw[e]at f;rcases f with f|f<;>cases f;exact GF _
end
section
variable {m:AV} {M:UInt8->Prop} {AD:List AJ} {c:AJ} {k:Call}
def JZ(m:AV)(p:AH):Prop:=∀a b,fb a b p->fl b m->fl a m
def B4(m:AV)(M:AH->Prop)(AD:AA AJ)(c:AJ)(s:Ao)(r:CR):Prop:=
 (r.2=none/\FI m M AD c r.1)\/(∃a,r.2=some a/\CI m M AD c r.1/\r.1.s=s/\r.1.e=Ba)
def B4.ex(h:CI m M AD c k)(b:k.e=Ba){s}(d:k.s=s)(a:Int):B4 m M AD c s (k,some a):=.inr ⟨a,rfl,h,d,b⟩
def B4.ok{s}(h:FI m M AD c k):B4 m M AD c s (k,none):=.inl ⟨rfl,h⟩
def B4.done(h:CI m M AD c k)(a:k.e=Ba){s}:B4 m M AD c s (k,none):=.inl ⟨rfl,FI.of h (by rw[a];rfl) (by rw[a];rfl)⟩
def ARD{g}(b:Ap g.Al=g.Al){l}(h:(EB g l).2=0):Pt m g (EB g l).1:=by unfold EB at*;split at h;rename_i a;rw[AW a];exact⟨a,λq=>by rw[AGw,Bt]at q;exact q.1,λq=>q,AKG _ _,b⟩;cases h
def AQ9{g}(d:Ap g.Al=g.Al){l}(h:Cu g l=0):Pt m g ⟨Ap l,g.Al⟩:=by let⟨a,b⟩:=VI h;exact⟨by rw[Kc];exact b,λq=>Wh a (by rwa [Kc]at q),λq=>q,Qg l,d⟩
def ARC{g}(d:Ap g.cur=g.cur){l}(h:(Iw g l).2=0):Pt m g (Iw g l).1:=by unfold Iw at*;split at h;rename_i a;split at h;rename_i b;rw[AW a,AW b];exact⟨by rw[QP];exact b,λq=>q,λq=>by rw[Kc];exact Wh a q,d,Qg l⟩;cases h;cases h
def ARA{g}(f:Ap g.Al=g.Al){l p}(h:(Gs g l p).2.1=0)(d:(Gs g l p).2.2->JZ m p):Pt m g (Gs g l p).1:=by
 unfold Gs at*;split at h;rename_i a;split at h;rename_i b;rw[AW a,AW b]at d⊢;refine⟨by rw[Kc];exact b,λq=> ?_,λq=>q,Qg l,f⟩;rw[Kc]at q;cases e:fl g.cur l with
 |true=>exact Wh e q
 |false=>exact d (by simp[e]) _ _ a q
 cases h;cases h
def ARB{g}(f:Ap g.cur=g.cur){l p}(h:(Gv g l p).2.1=0)(d:(Gv g l p).2.2->JZ m p):Pt m g (Gv g l p).1:=by
 unfold Gv at*;split at h;rename_i a;split at h;rename_i b;rw[AW a,AW b]at d⊢;refine⟨by rw[QP];exact b,λq=>q,λq=> ?_,f,Qg l⟩;rw[Kc];cases e:fl l g.Al with
 |true=>exact Wh e q
 |false=>exact d (by simp[e]) _ _ a q
 cases h;cases h
def AJ8(h:CI m M AD c k)(b:k.e=Ba){l f}(d:CI m M AD c (k.Bw (EB k.t.g l).1)->fl l m\/fl (EB k.t.g l).1.cur m=false->B4 m M AD c k.s (f (k.Bw (EB k.t.g l).1))):B4 m M AD c k.s (IC k l f):=by
 unfold IC;split;exact B4.ex h b rfl _;rename_i a;have a:=NS.1 a;refine d (h.Bw (ARD h.ti.CC.1.2 a)) ?_;unfold EB at a⊢;split at a;rename_i g;rw[AW g];cases e:fl (jn k.t.g.cur l) m with
 |false=>exact .inr rfl
 |true=>rw[AGw,Bt]at e;exact .inl e.2
 cases a
def AJ7(h:CI m M AD c k)(a:k.e=Ba){l f}(b:CI m M AD c (k.Bw ⟨Ap l,k.t.g.Al⟩)->B4 m M AD c k.s (f (k.Bw ⟨Ap l,k.t.g.Al⟩))):B4 m M AD c k.s (Hu k l f):=by unfold Hu;split;exact B4.ex h a rfl _;rename_i d;exact b (h.Bw (AQ9 h.ti.CC.1.2 (NS.1 d)))
def Xy(h:CI m M AD c k)(a:k.e=Ba){o}(f:OI (CL m k.s) M o)(g:o.var.q=[]):B4 m M AD c k.s (GU k o):=by unfold GU;split;exact B4.ex h a rfl _;split;exact B4.ex h a rfl _;rename_i u n e;let⟨b,hN,d⟩:=h.name e;exact B4.done (b.AEe hN d f g).1 a
def Xz(h:CI m M AD c k)(d:k.e=Ba){x f}(i:∀b,CI m M AD c b->b.s=k.s->b.e=Ba->(fl x.l m\/fl b.t.g.cur m=false)->∀a,Ai k.s x.name=some a->a.kind=x.kind->a.l=x.l->B4 m M AD c k.s (f b a)):B4 m M AD c k.s (Fy k x f):=by unfold Fy;refine AJ8 h d λg j=> ?_;split;exact B4.done (g.push (GF 0)) d;rename_i a e;let⟨q1,q2,q3⟩:=IE e;exact i _ g rfl d j a q1 q2 q3
def AJ9{s}(h:CI m M AD c k)(a:k.e=Ba)(e:k.s=s){b}(d:CL m k.s b.v):B4 m M AD c s (FP k b):=by unfold FP;split;exact B4.ex h a e _;exact B4.done (h.push d) a
def AUw{s kind}(a:3<=kind/\kind<=7){l}(b:Ap l=l){v}(e:CL m s v){fn AL}(d:M AL):OI (CL m s) M {Cb with kind:=kind,l:=l,v:=v,fn:=fn,AL:=AL}:=
 ⟨b,a,e,Gk,λw f=>(by cases f),λ_=>d⟩
def Ue{s kind}(a:3<=kind/\kind<=6){l}(b:Ap l=l){v}(d:CL m s v):OI (CL m s) M {Cb with kind:=kind,l:=l,v:=v}:=
 ⟨b,⟨a.1,CB a.2 dC⟩,d,Gk,λw f=>(by cases f),λe=>by have:kind=7:=e;omega⟩
end
section
variable {m:AV} {M:UInt8->Prop} {AD:List AJ} {a:AJ} {k:Call}
def AEx{im now o AL l}(h:CI m M AD a k)(b:k.e=Ba)(U:∀v∈l,CL m k.s v)(hm:M AL)
 (j:∀x∈(Br im now o AL l k).1.e.log,JZ m x.AL):B4 m M AD a k.s (Br im now o AL l k):=by
 have I:=Mz U Gk 0;have P:=Mz U Gk 1;have hz:=Mz U Gk 2;have hw:=Mz U Gk 3;have p:=h.ti.CC.1;unfold Br at j⊢;dsimp only at j⊢;generalize l.getD 0 AO=x at*;generalize l.getD 1 AO=y at*;generalize l.getD 2 AO=z at*;generalize l.getD 3 AO=w4 at*;split;exact B4.done (h.push (VB p.1)) b;exact B4.done (h.push (VB p.2)) b;split;exact B4.ex h b rfl _;exact AJ8 h b λf _=>B4.done f b;split;exact B4.ex h b rfl _;split;exact B4.ex h b rfl _;rename_i F;exact B4.done (h.Bw (ARC p.1 (NS.1 F))) b;split;exact B4.ex h b rfl _;exact Xy h b (Ue dC P.CC I) rfl;split;exact B4.ex h b rfl _;exact Xz h b λk' f G r _ d g _ _=>AJ9 f r G (by rw[G];exact(h.ki.D8 _ d g).val);split;exact B4.ex h b rfl _;exact Xy h b (Ue dC P.CC I) rfl;split;exact B4.ex h b rfl _;exact Xz h b λk' f G r _ d g _ _=>B4.done (f.push (by rw[G];exact(h.ki.D8 _ d g).val)) r;split;exact B4.ex h b rfl _;split;exact B4.ex h b rfl _;split;rename_i d g;exact B4.done (h.AW6 (IE g).1 P) b;exact B4.done h b;split;exact B4.ex h b rfl _;exact Xy h b (Ue dC I.CC Gk) rfl;split;exact B4.ex h b rfl _;rename_i E;have E:=NS.1 E;refine AJ7 h b λf=> ?_;have H:fl (Ap x.l) m->∃o,Ai k.s x.name=some o/\fl o.l m:=λq=>by rw[Kc]at q;let⟨o,q1,q2,q3⟩:=I.hand oG q;exact⟨o,q1,by rw[q3];exact q⟩
 split;exact B4.ok (f.ADT b H);rename_i d g;let⟨q1,q2,q3⟩:=IE g;have D:(k.Bw ⟨Ap x.l,k.t.g.Al⟩).t.g.cur=d.l:=by rw[q3];exact I.CC
 have A:=h.ki.D8 _ d q1;unfold Gi;by_cases n:(!d.var.full);rw[AW n];exact B4.ok (f.AJv b q1 D (w:=⟨k.t.id,false,AO⟩) rfl Gk rfl rfl);rw[AN n];split;rename_i N;cases K:d.var.q.findIdx? (·.put)<;>rw[K]at N<;>cases N;rename_i v N;cases K:d.var.q.findIdx? (·.put)with
 |none=>
  rw[K]at N;cases N;have Q:CI m M AD a {(k.Bw ⟨Ap x.l,k.t.g.Al⟩)with s:=Cf k.s x.name {d with var:=⟨false,AO,d.var.q⟩}}:={f with ki:=f.ki.set q1 rfl rfl {A with Ks:=Gk} (f.ki.C5 _ d q1)};exact B4.done (Q.push (A.Ks.up (Mn.set _ _ _))) b
 |some i=>
  rw[K]at N;cases N;have B:i<d.var.q.length:=(AMk.1 K).1;have V:d.var.q.getD i Af=d.var.q[i]:=by rw[Cz,A9 B];rfl
  dsimp only;rw[V];have W:=f.push A.Ks;exact B4.ok (f.AMY b q1 (A9 B) (x:=⟨true,d.var.q[i].v,d.var.q.eraseIdx i⟩) rfl (A.C5 _ (DF B)) (l:=[]) nA W)
 split;exact B4.ex h b rfl _;rename_i E;have E:=NS.1 E;refine AJ7 h b λf=> ?_;have H:fl (Ap x.l) m->∃o,Ai k.s x.name=some o/\fl o.l m:=λq=>by rw[Kc]at q;let⟨o,q1,q2,q3⟩:=I.hand oG q;exact⟨o,q1,by rw[q3];exact q⟩
 split;exact B4.ok (f.ADT b H);rename_i d g;let⟨q1,q2,q3⟩:=IE g;have D:(k.Bw ⟨Ap x.l,k.t.g.Al⟩).t.g.cur=d.l:=by rw[q3];exact I.CC
 have A:=h.ki.D8 _ d q1;unfold Hi;by_cases n:d.var.full;rw[AW n];exact B4.ok (f.AJv b q1 D (w:=⟨k.t.id,true,y⟩) rfl P rfl rfl);rw[AN n];cases K:d.var.q.findIdx? (λw=> !w.put)with
 |none=>
  have Q:CI m M AD a {(k.Bw ⟨Ap x.l,k.t.g.Al⟩)with s:=Cf k.s x.name {d with var:=⟨true,y,d.var.q⟩}}:={f with ki:=f.ki.set q1 rfl rfl {A with Ks:=P} (f.ki.C5 _ d q1)};exact B4.done Q b
 |some i=>
  have B:i<d.var.q.length:=(AMk.1 K).1;have V:d.var.q.getD i Af=d.var.q[i]:=by rw[Cz,A9 B];rfl
  dsimp only;rw[V];exact B4.ok (f.AMY b q1 (A9 B) (x:=⟨d.var.full,d.var.v,d.var.q.eraseIdx i⟩) rfl A.Ks (l:=[y]) (λv C=>by rw[AP.1 C];exact P) f)
 split;exact B4.ex h b rfl _;split;exact B4.ex h b rfl _;rename_i O;have O:=VI (NS.1 O);split;exact B4.ex h b rfl _;split;exact B4.ex h b rfl _;rename_i u made hn;let⟨e1,_,_⟩:=LR hn;let⟨f,hN,hg⟩:=h.name hn;have R:u.g=k.t.g:=by rw[e1]
 have Q:CI m M AD a {k with t:={u with room:=u.room-y.n.toNat}}:=f.room (u:={u with room:=u.room-y.n.toNat}) (made:=u.made) (room:=u.room-y.n.toNat) rfl (AZ _);have X:JA (Az AD {u with room:=u.room-y.n.toNat}) k.s made:=AI6 hN (show Aw AD u.id=some a by rw[e1];show Aw AD k.t.id=some a;rw[h.id];exact h.is) rfl rfl rfl;let⟨W,Y,aa⟩:=Q.AEe (o:={Cb with kind:=6,l:=z.l}) X hg (Ue dC hz.CC Gk) rfl;refine B4.ok (W.fork b Y rfl rfl rfl rfl (ALX hN.ok ?_ ⟨by rw[R];exact p.1,Qg _⟩ ?_ Gk) λd g ah ad=> ?_);show fl u.g.cur (Ap z.l);rw[QP,R];exact O.1;cases Z:F5 ⟨[],[],[]⟩ o.a (varsOf im o.a) [x] AL with
 |none=>exact AAU
 |some c=>exact Ts AAU Z (λv C=>by rw[AP.1 C];exact I.up (Mn.add _ _ _)) (GF 0) hm
 rw[aa]at g;cases g;show fl (Ap z.l) m;rw[Kc];exact ad;split;exact B4.ex h b rfl _;refine Xz h b λk' f G r C d g _ ac=> ?_;split;exact AJ9 f r G (by rw[G];exact(h.ki.D8 _ d g).val);refine B4.ok (f.ADT r λT=>⟨d,by rw[G];exact g,?_⟩);rw[ac];rcases C with C|C;exact C;rw[T]at C;cases C;split;exact B4.ex h b rfl _;split;rename_i t ht;exact B4.ok (h.scope b ht I hm);exact B4.ex h b rfl _;split;exact B4.ex h b rfl _;split;exact B4.ex h b rfl _;exact .inl ⟨rfl,FI.of (k:={k with e:={k.e with out:=k.e.out++[(y.l,x)]}}) {h with} (by show k.e.woken=[];rw[b];rfl) (by show k.e.fork=[];rw[b];rfl)⟩;rename_i J;rw[J]at j;change∀e∈(if x.kind≠2 then((k,some (-1)):CR)else if(Gs k.t.g x.l AL).2.1≠0 then(k,some (Gs k.t.g x.l AL).2.1)else({k.Bw (Gs k.t.g x.l AL).1 with e:=if(Gs k.t.g x.l AL).2.2 then{k.e with log:=k.e.log++[⟨42,k.t.g.cur,x.l,AL⟩]}else k.e},none)).1.e.log,JZ m e.AL at j;split;exact B4.ex h b rfl _;split;exact B4.ex h b rfl _;rename_i S F;rw[AN S,AN F]at j;have F:=NS.1 F;have f:=h.Bw (ARA p.2 F λL=>by rw[AW L]at j;exact j ⟨42,k.t.g.cur,x.l,AL⟩ sP)
 refine .inl ⟨rfl,FI.of {f with} ?_ ?_⟩;dsimp only;split<;>(show k.e.woken=[];rw[b];rfl);dsimp only;split<;>(show k.e.fork=[];rw[b];rfl);rename_i J;rw[J]at j;change∀e∈(if x.kind≠2 then((k,some (-1)):CR)else if(Gv k.t.g x.l AL).2.1≠0 then(k,some (Gv k.t.g x.l AL).2.1)else({k.Bw (Gv k.t.g x.l AL).1 with e:=if(Gv k.t.g x.l AL).2.2 then{k.e with log:=k.e.log++[⟨43,k.t.g.Al,x.l,AL⟩]}else k.e},none)).1.e.log,JZ m e.AL at j;split;exact B4.ex h b rfl _;split;exact B4.ex h b rfl _;rename_i S F;rw[AN S,AN F]at j;have F:=NS.1 F;have f:=h.Bw (ARB p.1 F λL=>by rw[AW L]at j;exact j ⟨43,k.t.g.Al,x.l,AL⟩ sP)
 refine .inl ⟨rfl,FI.of {f with} ?_ ?_⟩;dsimp only;split<;>(show k.e.woken=[];rw[b];rfl);dsimp only;split<;>(show k.e.fork=[];rw[b];rfl);split;exact B4.ex h b rfl _;exact Xy h b (AUw dC I.CC Gk hm) rfl;split;exact B4.ex h b rfl _;rename_i S;refine Xz h b λk' f G r C d g ab _=> ?_;split;rename_i c T;have ae:M d.AL:=(h.ki.D8 _ d g).XR (by rw[ab];exact NS.1 S);exact B4.done (f.core (λs af=>ABe (f.on s af).on T) (Ts f.ti.EF T (λv ag=>by rw[AP.1 ag,G];exact I) (GF 0) ae)) r;exact B4.ex f r G _;exact B4.done h b
end
section
variable {m:AV} {M:UInt8->Prop} {AD:List AJ} {d:AJ} {k:Call} {s:Ao}
theorem AVy{AD}(a:FY AD){t}(b:Aw AD t.id=some t):Az AD t=AD:=by
 unfold Az;have:∀x∈AD,(if x.id==t.id then t else x)=x:=by grind[MZ]
 ext;grind
def KI.Zy(h:KI m M AD s){t}(ht:Aw AD t.id=some t)(a:t.status=0):CI m M AD t ⟨s,t,Ba⟩ where
 ki:=by rw[AVy h.FB ht];exact h
 is:=ht
 id:=rfl
 Ds:=rfl
 st:=a
 on:=λx b=>Em.refl ((h.of ht).H9 oG x b)
 hid:=λq=>q
theorem Kb(k v)(a:Bool):(Ea k v a).e.log=k.e.log/\(Ea k v a).e.fork=k.e.fork/\(Ea k v a).e.woken=k.e.woken:=by grind[Ea]
theorem PQ(k c)(b:Int)(a:Nat):(Ec k c b a).e.log=k.e.log/\(Ec k c b a).e.fork=k.e.fork/\(Ec k c b a).e.woken=k.e.woken:=by grind[Ec,Kb]
def Zt{c}(h:asks c):c≠17:=λe=>by subst e;revert h;decide
theorem YC{a c b e o}(h:(ET a c b e).2=.asked o):Hy a c=some o/\asks o.code/\(ET a c b e).1=c:=by
 unfold ET at h⊢
 grind[Un]
theorem WS{p}(D:Ij p)(N:∀a b,M a->M (a&&&b)){now}(h:KI m M AD s){t}(L:Aw AD t.id=some t)(C:t.status=0)(i:∀x∈(C8 p t s now).e.log,JZ m x.AL):FI m M AD t (C8 p t s now):=by
 have A:=h.Zy L C;have n:=h.of L;have y:=AG0 n;unfold C8 at i⊢;rw[AN (by rw[C];decide)]at i⊢;have g:=λx j=>ASS (im:=p) (c:=t.c) (AF:=(CW t).1) (tries:=(CW t).2) (n.H9 oG x j) (y x j).1 (y x j).2;have l:=APB D (AF:=(CW t).1) (tries:=(CW t).2) N n.EF;dsimp only at i⊢;cases B:(ET p t.c (CW t).1 (CW t).2).2 with
 |Ic=>
  rw[B]at g;exact FI.of (A.core (λx j=>⟨(g x j).2.2 rfl,(g x j).1⟩) l.1) rfl rfl
 |ended v=>exact A.end_ (λx j=>(g x j).1) (λx j=>(g x j).2.1) l.1 rfl (l.2 v (.inl B)) false
 |failed v=>exact A.end_ (λx j=>(g x j).1) (λx j=>(g x j).2.1) l.1 rfl (l.2 v (.inr B)) true
 |asked o=>
  rw[B]at i;let⟨K,O,_⟩:=YC B;have u:=AA3 K;have F:Bi p o=A2 o.code:=by unfold Bi;rw[AN (Zt O)]
  rw[F]at u;have E:CI m M AD t ⟨s,{t with c:=Da (Ev t.c (A2 o.code)) λf=>{f with pc:=f.pc+1}},Ba⟩:=
   A.core (λx j=>(R2 (n.H9 oG x j) u).trans (UF (R2 (n.H9 oG x j) u).on λ_=>rfl)) (QB (AAV n.EF _) λ_ q=>q)
  have P:M (t.c.top.getD Af).AL:=by
   have:=AA4 K;cases e:t.c.top with
   |none=>grind[Ae.top]
   |some f=>exact(n.EF.fr f (ADD e)).1
  show FI m M AD t (Hr p now (CW t).2 o ⟨s,t,Ba⟩);have i:∀x∈(Hr p now (CW t).2 o ⟨s,t,Ba⟩).e.log,JZ m x.AL:=i;unfold Hr at i⊢;dsimp only at i⊢;have G:∀x∈(Br p now o (t.c.top.getD Af).AL (CJ t.c (A2 o.code)) ⟨s,{t with c:=Da (Ev t.c (A2 o.code)) λf=>{f with pc:=f.pc+1}},Ba⟩).1.e.log,JZ m x.AL:=by generalize Br p now o _ _ _=r at i;obtain⟨Q,_|z⟩:=r;exact i;dsimp only at i;rw[(PQ _ _ _ _).1]at i;exact i
  have w:=AEx (im:=p) (now:=now) (o:=o) E rfl (Ul n.EF _) P G;generalize Br p now o _ _ _=r at w;rcases w with⟨e,R⟩|⟨z,e,J,I,H⟩
  grind
  let⟨Q,x⟩:=r;simp only at e J I H;subst e;exact J.raise (by rw[I];exact A) H λx j=>(y x j).2
def KQ(s:Ao):Prop:=∀n o,Ai s n=some o->o.kind≠5->o.var.q=[]
def ABh{s}(h:KQ s){n o}(b:o.kind≠5->o.var.q=[]):KQ (C0 s n o):=by intro q w a;by_cases e:Eg s n o;rw[JI e]at a;split at a;cases a;exact b;exact h q w a;rw[RV (by simpa using e)]at a;exact h q w a
theorem O6{s}(h:KQ s){n o}(b:o.kind≠5->o.var.q=[]):KQ (Cf s n o):=by intro q w a;rw[QW]at a;split at a;split at a;split at a;cases a;exact b;exact h q w a;exact h q w a;exact h q w a
theorem AH7{k l f}(h:KQ k.s)(b:∀a,a.s=k.s->KQ (f a).1.s):KQ (IC k l f).1.s:=by unfold IC;split;exact h;exact b _ rfl
def AH3{k l f}(h:KQ k.s)(b:∀a,a.s=k.s->KQ (f a).1.s):KQ (Hu k l f).1.s:=by unfold Hu;split;exact h;exact b _ rfl
def XA{k o}(h:KQ k.s)(a:o.var.q=[]):KQ (GU k o).1.s:=by unfold GU;split;exact h;split;exact h;exact ABh h λ_=>a
theorem XB{k x f}(h:KQ k.s)(b:∀a o,a.s=k.s->KQ (f a o).1.s):KQ (Fy k x f).1.s:=by refine AH7 h λa e=> ?_;split;show KQ a.s;rw[e];exact h;exact b _ _ e
theorem AH8{k o}(h:KQ k.s):KQ (FP k o).1.s:=by unfold FP;split;exact h;exact h
theorem AYR{k}(h:KQ k.s){x o}(a:IZ k x=some o):o.kind≠5->o.var.q=[]:=h _ _ (IE a).1
theorem ANe{p j o g l}(h:KQ k.s):KQ (Br p j o g l k).1.s:=by
 unfold Br;dsimp only;split;exact h;exact h
 grind[AH7]
 split;exact h;split<;>exact h;split;exact h;exact XA h rfl
 grind[XB,AH8]
 split;exact h;exact XA h rfl;split;exact h;exact XB h λc o e=>by show KQ c.s;rw[e];exact h
 grind[AYR,O6]
 split;exact h;exact XA h rfl;rename_i r;split;exact h;rename_i i;refine AH3 h λc e=> ?_;have a:KQ c.s:=by rw[e];exact h
 split;exact a;rename_i n b;have f:n.kind=5:=by rw[(IE b).2.1];simpa using i
 split;exact O6 a λq=>(q f).elim;unfold GW;split;exact O6 a λq=>(q f).elim;exact O6 a λq=>(q f).elim;split;exact h;rename_i i;refine AH3 h λc e=> ?_;have a:KQ c.s:=by rw[e];exact h
 split;exact a;rename_i n b;have f:n.kind=5:=by rw[(IE b).2.1];simpa using i
 split;exact O6 a λq=>(q f).elim
 grind[GW,O6]
 split;exact h;split;exact h;split;exact h;split;exact h;exact ABh h λ_=>rfl;split;exact h;refine XB h λc o e=> ?_;split
 grind[AH8]
 show KQ c.s;rw[e];exact h
 grind
 grind
 split;exact h;split<;>exact h;split;exact h;split<;>exact h;split;exact h;exact XA h rfl
 grind[XB]
 exact h
theorem AH5{k}(h:KQ k.s)(v)(a:Bool):KQ (Ea k v a).s:=by grind[Ea,KQ,Ai,E6,Cf,O6]
theorem AH6{k}(h:KQ k.s)(c)(b:Int)(a:Nat):KQ (Ec k c b a).s:=by grind[Ec,AH5]
theorem AH4{im t now}(h:KQ s):KQ (C8 im t s now).s:=by grind[C8,Ba,Hr,CJ,A2,Da,Ev,Br,AH5,ANe,AH6]
theorem ACb(h:KI m M AD s)(hk:KQ s){t}(ht:Aw AD t.id=some t)(b:t.status=1){o}(f:Ai s t.on=some o)(q:o.kind=6):KI m M (Az AD (EU t s o.v o.ex).t) (EU t s o.v o.ex).s/\KQ (EU t s o.v o.ex).s/\(EU t s o.v o.ex).t.id=t.id:=by
 have j:∀n o',Ai s n=some o'->∀w∈o'.var.q,w.id≠t.id:=λn o' c w hw e=>by obtain⟨t',h1,_,l,_⟩:=(h.C5 n o' c).2 w hw;rw[e,ht]at h1;cases h1;rw[l,c]at f;cases f;rw[hk n o c oG]at hw;cases hw
 have r:=(h.D8 _ o f).val;unfold EU;split;have:=h.wake ht b j (l:=[o.v]) ((by grind));unfold G7 at this;simp only[ht]at this;trivial;have h1:=h.wake ht b j (l:=[]) (λv i=>by cases i);unfold G7 at h1;simp only[ht]at h1;have g:Aw (Az AD (DC t [])) (DC t []).id=some (DC t []):=Sk (u:=DC t []) (t:=t) ht rfl;have h0:=h1.Zy g rfl;have a:=h0.raise h0 rfl (code:=o.v.n) (tries:=(CW t).2) (λx p=>(AG0 (h.of ht) x p).2);have hl:=PQ ⟨s,DC t [],Ba⟩ (DC t []).c o.v.n (CW t).2;have:=a.ki;unfold Mx at this;rw[hl.2.1,hl.2.2]at this;have hid:=a.id
 grind[DC,Ba,Ec,CW,AH6,Qp]
def ME{b e:Type}{P:b->Prop}{f:b->e->b}(c:∀a x,P a->P (f a x)):∀(l:AA e) {a:b},P a->P (l.foldl f a)
 |[],_,h=>h
 |x::l,_,h=>ME c l (c _ x h)
structure KK(m:AV)(M:AH->Prop)(k:Ab):Prop where
 ki:KI m M k.AD k.Ar
 kq:KQ k.Ar
theorem AGL:∀(n:Nat) {k:Ab} (g:Nm),KK m M k->KK m M (F4 n k g)
 |0,_,_,h=>h
 |n+1,k,g,h=>by
  unfold F4
  refine ME (P:=KK m M) (λk x h=> ?_) _ h
  split
  .exact h
  .rename_i t f
   split
   .exact h
   .rename_i b
    simp only[OS,Pj]at b
    split
    .exact h
    .rename_i o i
     split
     .exact h
     .rename_i c
      simp only[OS,Pj]at c
      have hid:=GD f
      have e:=ACb h.ki h.kq (t:=t) (by rw[hid];exact f) b.1 (by rw[b.2];exact i) c.1
      have a:KK m M {k with Ar:=(EU t k.Ar o.v o.ex).s,AD:=Az k.AD (EU t k.Ar o.v o.ex).t}:=⟨e.1,e.2.1⟩
      dsimp only
      split
      .exact AGL n x a
      .exact a
theorem QH:∀(n:Nat)(k:Ab)(a:Nm),(F4 n k a).BQ=k.BQ/\(F4 n k a).facts=k.facts/\(F4 n k a).now=k.now/\(F4 n k a).im=k.im
 |0,_,_=>⟨rfl,rfl,rfl,rfl⟩
 |n+1,k,a=>by
  unfold F4;refine ME (P:=λb:Ab=>b.BQ=k.BQ/\b.facts=k.facts/\b.now=k.now/\b.im=k.im) (λb x h=> ?_) _ ⟨rfl,rfl,rfl,rfl⟩;split
  .exact h
  .split
   .exact h
   .split
    .exact h
    .split
     .exact h
     .dsimp only;split
      .have this:=λc=>QH n c x
       grind
      .exact h
theorem Pf:∀(l:List (Nm×List Val))(k:Ab),l.foldl Pe k= {k with AD:=l.foldl G7 k.AD}
 |[],_=>rfl
 |w::l,k=>by
  rw[List.foldl_cons,Pf l,List.foldl_cons]
  grind[Pe,G7,Aw]
theorem AWk{k}(j:Ij k.im)(o:∀a b,M a->M (a&&&b))(h:KK m M k)(n:Nm)(c:∀x∈(runK k n).1.BQ,JZ m x.e.AL):KK m M (runK k n).1:=by
 unfold runK at c⊢;split;exact h;rename_i t l;have hid:=GD l;subst hid;rw[l]at c;dsimp only at c⊢;split;exact h;rename_i e;rw[if_neg e]at c;have e:t.status=0:=oG;generalize q:C8 k.im t k.Ar k.now=r at c⊢;have i:∀x∈(C8 k.im t k.Ar k.now).e.log,JZ m x.AL:=λx u=>by
  refine c (⟨k.now,t.id,x⟩:Lk) ?_
  grind[List.mem_append_right,Pf,QH]
 have f:=WS j o (now:=k.now) h.ki l e i;have g:=AH4 (im:=k.im) (t:=t) (now:=k.now) h.kq;rw[q]at f g;have p:KK m M {k with Ar:=r.s,AD:=r.e.woken.foldl G7 (r.e.fork.foldl B5 (Az k.AD r.t)),facts:=k.facts++r.e.out.map λx:AV×Val=>(⟨k.now,t.id,x.1,x.2⟩:F0),BQ:=k.BQ++r.e.log.map λx:Gp=>(⟨k.now,t.id,x⟩:Lk)}:=⟨f.ki,g⟩
 grind[Pf,AGL]
end
section
variable {m:AV} {M:UInt8->Prop} {AD:List AJ} {s:Ao}
theorem AIL{x y id}(h:Jk x id=some y):∃i w,x.q[i]? =some w/\w.id=id/\y=⟨x.full,x.v,x.q.eraseIdx i⟩:=by grind[Jk,List.findIdx?_eq_some_iff_getElem,List.getElem?_eq_getElem]
theorem AS9{x id}(h:Jk x id=none):∀w∈x.q,w.id≠id:=by grind[Jk]
theorem AQq(h:KI m M AD s)(g:KQ s){t}(A:Aw AD t.id=some t)(v:t.status=1):
 KI m M AD (Gt s t.on t.id)/\KQ (Gt s t.on t.id)/\(∀n o,Ai (Gt s t.on t.id) n=some o->∀w∈o.var.q,w.id≠t.id)/\(∀n,(Ai (Gt s t.on t.id) n).isSome=(Ai s n).isSome):=by
 have only:∀n o,Ai s n=some o->(∃w∈o.var.q,w.id=t.id)->n=t.on:=λn o b ⟨w,a,e⟩=>by
  let⟨B,y,_,z,_⟩:=(h.C5 n o b).2 w a
  grind
 unfold Gt;cases d:Ai s t.on with
 |none=>
  refine⟨h,g,λn o b w a e=> ?_,λ_=>rfl⟩;have:=only n o b ⟨w,a,e⟩
  grind
 |some o=>
  dsimp only;split;rename_i k;cases u:Jk o.var t.id with
  |none=>
   refine⟨h,g,λn j b w a e=> ?_,λ_=>rfl⟩;have:=only n j b ⟨w,a,e⟩
   grind[AS9]
  |some x=>
   obtain⟨i,C,r,l,rfl⟩:=AIL u;have p:=ABD (o:={o with var:=⟨o.var.full,o.var.v,o.var.q.eraseIdx i⟩}) d rfl rfl;have f:=h.D8 _ o d;have c:=h.C5 _ o d;dsimp only;refine⟨h.set d rfl rfl {f with Ks:=f.Ks,C5:=λw a=>f.C5 w (Yy a)} ⟨?_,λw a=> ?_⟩,O6 g λq=>(q k).elim,λn j b w a e=> ?_,λn=> ?_⟩
   grind
   exact c.2 w (Yy a);rw[p]at b;split at b;cases b;exact AJB c.1 r w a (e.trans l.symm);have:=only n j b ⟨w,a,e⟩;contradiction;rw[p];split;rename_i e;rw[e,d];rfl;rfl
  rename_i k;refine⟨h,g,λn j b w a e=> ?_,λ_=>rfl⟩;have:=only n j b ⟨w,a,e⟩;rw[this,d]at b;cases b;rw[g _ o d k]at a;cases a
def leave0(t:AJ)(k:Nat):AJ:=
 let s:=t.scopes.getD k Af
 {t with scopes:=t.scopes.take k,g:=s.g,path:=s.path,made:=s.made,room:=s.room,c:=Eo t.c s.AF s.CF s.tries,status:=0,on:=[],v:=AO,ex:=false}
def ATB(t k):Ha t k= {leave0 t k with c:=Ce (leave0 t k).c (hand 3 (t.scopes.getD k Af).name (t.scopes.getD k Af).l)}:=rfl
theorem AIO{t i}(a:i<t.scopes.length):(∀j,j<=i->IS (leave0 t i) j=IS t j)/\∀j,j<=i->GO (leave0 t i) j=GO t j:=by grind[leave0,IS,GO]
theorem AUy{c a b}(e:At c a)(g:At c b)(l:a.AF<b.AF)(n:a.CF<=b.CF)(o:a.tries<=b.tries):On (E4 c b) a:=by
 have i:=g.fr;have j:=g.ht;have k:=g.tl;refine⟨by simp[E4,Eo];omega,λf h=>e.bs f ?_,by simp[E4,Eo];omega,by simp[E4,Eo];omega,λt d=>e.tr t ?_,λt d=>e.tp t ?_⟩;exact QI h;exact QI d
 grind[E4,Eo]
theorem AYc{P t}(h:TI m P M t){i}(hi:i<t.scopes.length)(B:P AO):TI m P M (leave0 t i):=by
 have hs:(leave0 t i).scopes=t.scopes.take i:=rfl;have f:t.scopes.getD i default=t.scopes[i]:=by simp[List.getD_eq_getElem?_getD,hi]
 have d:t.scopes[i]∈t.scopes:=List.getElem_mem hi;obtain⟨r,u⟩:=AIO hi;have hc:(leave0 t i).c=E4 t.c t.scopes[i]:=by show Eo t.c (t.scopes.getD i default).AF (t.scopes.getD i default).CF (t.scopes.getD i default).tries=_;rw[f];rfl
 have g:∀x∈t.scopes.take i,x∈t.scopes/\x.AF<t.scopes[i].AF/\x.CF<=t.scopes[i].CF/\x.tries<=t.scopes[i].tries:=λx c=>by obtain⟨j,hj,rfl⟩:=List.getElem_of_mem c;rw[List.length_take]at hj;have n:j<i:=oG;rw[List.getElem_take];exact⟨List.getElem_mem _,List.pairwise_iff_getElem.1 h.nest j i oG hi n⟩
 have o:∀x∈t.scopes.take i,On (E4 t.c t.scopes[i]) x:=λx c=>by obtain⟨h1,w,y,z⟩:=g x c;exact AUy (h.at_ x h1) (h.at_ _ d) w y z
 refine{MW:= ?_,Fx:=λq A=>h.Fx q ?_,nest:=h.nest.sublist (List.take_sublist _ _),Si:=(by show 0<=4;decide),idle:=(λq=>by cases q),over:=(λq=>absurd q (by show¬3<=0;decide)),at_:=λx c=>by rw[hc];exact(o x c).at_,H9:=λ_ x c=>by grind,mono:=⟨λa b l hb p=> ?_⟩,cap:=λj hj=> ?_,Al:=λj x c hl=> ?_,CC:=⟨?_,λx c=>h.CC.2 x (g x c).1⟩,EF:= ?_,val:=B};have:=h.MW;have v:(leave0 t i).path=t.scopes[i].path:=by show(t.scopes.getD i default).path=_;rw[f]
 have k:=congrArg (List.take (i+1)) this;rw[List.take_append_of_le_length (by simp;omega),List.take_succ_cons,<-List.map_take,<-List.map_take]at k;rw[v];show(t.scopes.take i).map (·.path)++[t.scopes[i].path]=t.id::(t.scopes.take i).map (·.name)
 grind[List.take_succ_eq_append_getElem]
 rcases List.mem_cons.1 A with e|e;rw[e];exact List.mem_cons_self;obtain⟨x,c,k⟩:=List.mem_map.1 e;exact List.mem_cons_of_mem _ (List.mem_map.2 ⟨x,List.mem_of_mem_take c,k⟩);have hl:(leave0 t i).scopes.length=i:=by rw[hs,List.length_take];omega
 rw[hl]at hb;unfold Hl at p⊢;rw[r b hb]at p;rw[r a oG];exact h.mono.out a b l oG p;have hl:(leave0 t i).scopes.length=i:=by rw[hs,List.length_take];omega
 rw[hl]at hj;rw[r j hj,u j hj];exact h.cap j oG;rw[hs,List.getElem?_take]at c;split at c;rw[u (j+1) oG];exact h.Al j x c hl;cases c;have:=(h.CC.2 _ d).2;show Ap (t.scopes.getD i default).g.cur=(t.scopes.getD i default).g.cur/\Ap (t.scopes.getD i default).g.Al=(t.scopes.getD i default).g.Al;rw[f];exact this;rw[hc];exact APC h.EF λx c=>(h.at_ _ d).tp x c
theorem AAk{t now i}(h:Np t now=some i):i<t.scopes.length:=by grind[Np,List.findIdx?_eq_some_iff_getElem]
theorem ATC{k}(h:KK m M k){t}(ht:Aw k.AD t.id=some t){i}(hi:i<t.scopes.length):KK m M (Jj k t i):=by
 obtain⟨s1,S,c,P,Q,T⟩:∃s1,(if t.status=1 then Gt k.Ar t.on t.id else k.Ar)=s1/\KI m M k.AD s1/\KQ s1/\(∀n o,Ai s1 n=some o->∀w∈o.var.q,w.id≠t.id)/\∀n,(Ai s1 n).isSome=(Ai k.Ar n).isSome:=by refine⟨_,rfl,?_⟩;split;rename_i A;exact AQq h.ki h.kq ht A;rename_i A;exact⟨h.ki,h.kq,h.ki.Qf ht A,λ_=>rfl⟩
 have b:=Ed ht;have v:=c.Gj t b;have y:t.scopes.getD i default=t.scopes[i]:=by simp[List.getD_eq_getElem?_getD,hi]
 have f:t.scopes[i]∈t.scopes:=List.getElem_mem hi;have a:∀q∈own (leave0 t i),q∈own t:=λq u=>by rcases List.mem_cons.1 u with e|e;rw[e];exact List.mem_cons_self;obtain⟨x,d,U⟩:=List.mem_map.1 e;exact List.mem_cons_of_mem _ (List.mem_map.2 ⟨x,List.mem_of_mem_take d,U⟩)
 have E:∀pm∈Eh (leave0 t i),pm∈Eh t:=by grind[Eh,leave0]
 have G:=Xo c.IV b;have J:=AYc v hi Gk;have h1:KI m M (Az k.AD (leave0 t i)) s1:=by
  refine c.scopes ht rfl J ?_ (λq u=>.inl (a q u)) (λpm p j hj q u=> ?_) (λx d z pm p j hj q u=> ?_) (λx d=>c.I4 t b x (List.mem_of_mem_take d)) (λhc=> ?_) (by show(0:Nat)≠1;decide) Q;exact G.sublist<|List.Sublist.cons_cons _ ((List.take_sublist i t.scopes).map _);refine c.EH t b pm (E pm p) j hj q ?_;rcases u with u|u;exact u;exact .inr ⟨t,b,a q u⟩;exact c.EH x d pm p j hj q (.inr ⟨t,b,a q u⟩)
  grind[AIO]
 have F:Ai s1 t.scopes[i].name=none:=c.I4 t b _ f;have r:BY t.scopes[i].name=true:=v.Fx _ (List.mem_cons_of_mem _ (List.mem_map.2 ⟨_,f,rfl⟩));have l:t.scopes[i].name∈own t:=List.mem_cons_of_mem _ (List.mem_map.2 ⟨_,f,rfl⟩);have I:∀x∈Az k.AD (leave0 t i),t.scopes[i].name∉own x:=λx d D=>by
  rcases Hf d with rfl|⟨d,z⟩;have H:(t.id::t.scopes.map (·.name)).Nodup:=G;obtain⟨O,Y⟩:=List.nodup_cons.1 H;rcases List.mem_cons.1 D with e|e;exact O (by rw[show t.id=t.scopes[i].name from e.symm];grind);obtain⟨x,d,U⟩:=List.mem_map.1 e;have d:x∈t.scopes.take i:=d;obtain⟨j,hj,rfl⟩:=List.getElem_of_mem d
  grind[List.pairwise_iff_getElem]
  have:=AJC c.IV d b D l;exact z (by rw[this];rfl)
 have hO:OI (CL m s1) M (GR t i):=by
  have N:CL m s1 (brought t i).1:=by unfold brought;split;exact GF _;split;exact GF _;exact v.val
  exact{
   CC:=by show Ap (t.scopes.getD i default).l=(t.scopes.getD i default).l;rw[y];exact(v.CC.2 _ f).1
   kind:=by show 3<=3/\3<=7;decide
   val:=N
   Ks:=Gk
   C5:=λw hw=>by cases hw
   XR:=λq=>by cases q}
 have L:KI m M (Az k.AD (leave0 t i)) (C0 s1 t.scopes[i].name (GR t i)):=by refine h1.add r F I (λx d pm p j hj=> ?_) hO rfl;rcases Hf d with rfl|⟨d,z⟩;exact c.EH t b pm (E pm p) j hj _ (.inr ⟨t,b,l⟩);exact c.EH x d pm p j hj _ (.inr ⟨t,b,l⟩)
 have R:Eg s1 t.scopes[i].name (GR t i)=true:=Vv r hO F;have C:=JI R;have B:Aw (Az k.AD (leave0 t i)) (leave0 t i).id=some (leave0 t i):=Sk (t:=t) (u:=leave0 t i) ht rfl;have Z:CL m (C0 s1 t.scopes[i].name (GR t i)) (hand 3 t.scopes[i].name t.scopes[i].l):=⟨(v.CC.2 _ f).1,⟨by show 3<=7;decide,AI9 r⟩,λ_ _=>⟨_,by rw[C];exact if_pos rfl,rfl,by show(t.scopes.getD i default).l=_;rw[y];rfl⟩⟩;have g:=L.of B;have K:TI m (CL m (C0 s1 t.scopes[i].name (GR t i))) M (Ha t i):=by rw[ATB,y];exact{g with at_:=(λx d=>((M3 (g.H9 (by show 0<2;decide) x d) _).on).at_),H9:=(λq x d=>(M3 (g.H9 q x d) _).on),mono:=⟨g.mono.out⟩,EF:=GP g.EF Z}
 have V:=L.Fi B (u:=Ha t i) {id:=rfl,Ds:=rfl,path:=rfl,made:=Nat.le_refl _,idle:=(λq=>by cases q),Al:=(λq=>q),C5:=.inl (L.Qf B (by show(0:Nat)≠1;decide)),G8:=(λq=>by cases q),ti:=K};have W:=Qp k.AD (t:=leave0 t i) (u:=Ha t i) rfl;rw[W]at V;have X:Jj k t i= {k with Ar:=C0 s1 t.scopes[i].name (GR t i),AD:=Az k.AD (Ha t i)}:=by unfold Jj;rw[S,y]
 rw[X];exact⟨V,ABh P λ_=>rfl⟩
theorem Zx{k}(h:KK m M k)(a):KK m M (GM k a):=by grind[GM,GD,ATC,AAk]
def AE7{k}(h:KK m M k):KK m M (FF k):=by unfold FF;exact ME (P:=KK m M) (λa x h=>Zx h x) _ (a:={k with now:=k.now+1}) ⟨h.ki,h.kq⟩
theorem AE4(k id):(GM k id).im=k.im/\(GM k id).now=k.now/\(GM k id).facts=k.facts/\(GM k id).BQ=k.BQ:=by unfold GM;split;split<;>trivial;simp
theorem Tg(k):(FF k).im=k.im/\(FF k).now=k.now+1/\(FF k).facts=k.facts/\(FF k).BQ=k.BQ:=by
 unfold FF;refine ME (P:=λb:Ab=>b.im=k.im/\b.now=k.now+1/\b.facts=k.facts/\b.BQ=k.BQ) (λa x h=> ?_) _ ⟨rfl,rfl,rfl,rfl⟩
 grind[AE4]
end
section
variable {m:AV} {M:UInt8->Prop} {AD:List AJ} {s:Ao}
def AHz:KI m M [] []:={FB:=List.Pairwise.nil,Gj:=nA,D8:=(λn o h=>by cases h),IV:=sP,EH:=nA,I4:=nA,KW:=nA,C5:=(λn o h=>by cases h),G8:=nA,Bm:=sP}
def N4{i}(h:i<=999):BY [i]:=by simp[BY,h]
def AAA(h:KI m M [] s){i}(c:i<=999)(a:Ai s [i]=none){b:HM}(e:Ap b.l=b.l):KI m M [] (C0 s [i] {Cb with kind:=3,l:=b.l,v:=whole b.v})/\Ai (C0 s [i] {Cb with kind:=3,l:=b.l,v:=whole b.v})=λq=>if q=[i]then some {Cb with kind:=3,l:=b.l,v:=whole b.v}else Ai s q:=by have d:OI (CL m s) M {Cb with kind:=3,l:=b.l,v:=whole b.v}:=Ue dC e (GF _);refine⟨h.add (N4 c) a nA nA d rfl,?_⟩;funext q;exact JI (Vv (N4 c) d a) q
structure ZC(m:AV)(M:AH->Prop)(c:DG)(s:Ao)(b:Fq):Prop where
 CC:Ap b.l=b.l/\Ap b.c=b.c
 flo:fl b.l b.c
 XR:M b.AL
 box:0<=b.box->b.box.toNat<=999/\∃o,Ai s [b.box.toNat]=some o/\o.kind=3/\o.l=(c.boxes.getD b.box.toNat Af).l
def To(h:KI m M AD s){c b}(k:ZC m M c s b){i}(D:i<=999)(J:Ai s [i]=none)(N:∀q o,Ai s q=some o->q.length=1)(E:∀t∈AD,∃j,t.id=[j]/\j≠i/\t.path=[j]/\t.scopes=[]):KI m M (B5 AD (Dq c b [i])) s:=by
 have g:∀t∈AD,∀q∈own t,q.length=1/\q≠[i]:=λt a q f=>by
  let⟨j,y,z,A,r⟩:=E t a;have f:q=[j]:=by simpa[own,r,y]using f
  rw[f];exact⟨rfl,λe=>z (by simpa using e)⟩
 have L:JA AD s [i]:=by
  refine⟨N4 D,λt a f=>(g t a _ f).2 rfl,λq f p=> ?_,λt a R d j S p=> ?_⟩;have K:q.length=1:=by rcases f with⟨o,n⟩|⟨t,a,f⟩;exact N q o n;exact(g t a q f).1
  exact(p.eq_of_length (by rw[K];rfl)).symm;let⟨Q,y,z,A,r⟩:=E t a;have:R.1=[Q]:=by unfold Eh at d;rw[r]at d;simp only[Kv,Fo]at d;split at d;cases d;rw[AP.1 d];exact A
  rw[this]at p;have:=p.length_le;simp at this
 refine h.fork L rfl rfl rfl rfl ?_ λo n=>by rw[J]at n;cases n
 have O:CL m s (if 0<=b.box then hand 3 [b.box.toNat] (c.boxes.getD b.box.toNat Af).l else whole b.n):=by split;rename_i F;let⟨H,o,B,G,C⟩:=k.box F;exact⟨by show Ap (c.boxes.getD b.box.toNat Af).l=(c.boxes.getD b.box.toNat Af).l;rw[<-C];exact(h.D8 _ o B).CC,⟨by show 3<=7;decide,λx P=>by rw[show x=b.box.toNat from AP.1 P];exact H⟩,λ_ _=>⟨o,B,G,C⟩⟩;exact GF _
 have l:∃u,F5 ⟨[],[],[]⟩ b.fn (c.im.Ad.getD b.fn Af).vars [if 0<=b.box then hand 3 [b.box.toNat] (c.boxes.getD b.box.toNat Af).l else whole b.n] b.AL=some u:=⟨_,rfl⟩;let⟨u,l⟩:=l;have I:=Ts (P:=CL m s) (M:=M) AAU l (λv w=>by rw[AP.1 w];exact O) (GF 0) k.XR;have e:Dq c b [i]=Iy [i] ⟨b.l,b.c⟩ u b.room:=by unfold Dq;dsimp only;rw[l];rfl
 rw[e];exact ALX (N4 D) k.flo k.CC I Gk
structure TG(c:DG)(a b:HM)(t0 t1 t2:Fq):Prop where
 boxes:c.boxes=[a,b]
 A3:c.A3=[t0,t1,t2]
def AI5{c a b d e f}(h:TG c a b d e f):ED c= {im:=c.im,now:=0,AD:=B5 (B5 (B5 [] (Dq c d [2])) (Dq c e [3])) (Dq c f [4]),Ar:=C0 (C0 [] [0] {Cb with kind:=3,l:=a.l,v:=whole a.v}) [1] {Cb with kind:=3,l:=b.l,v:=whole b.v},facts:=[],BQ:=[]}:=by unfold ED;rw[h.boxes,h.A3];rfl
def AUc{c}{g j:HM}{f k r}(h:TG c g j f k r)(B:Ap g.l=g.l)(C:Ap j.l=j.l)(D:∀b∈[f,k,r],(Ap b.l=b.l/\Ap b.c=b.c)/\fl b.l b.c/\M b.AL/\b.box<2):KK m M (ED c):=by
 rw[AI5 h];let⟨E,z⟩:=AAA (m:=m) (M:=M) AHz (i:=0) dC rfl B;let⟨A,n⟩:=AAA E (i:=1) dC (by rw[z];rfl) C;generalize C0 (C0 [] [0] {Cb with kind:=3,l:=g.l,v:=whole g.v}) [1] {Cb with kind:=3,l:=j.l,v:=whole j.v}=s at A n⊢;rw[z]at n;have p:∀q,Ai s q=if q=[1]then some {Cb with kind:=3,l:=j.l,v:=whole j.v}else if q=[0]then some {Cb with kind:=3,l:=g.l,v:=whole g.v}else none:=λq=>by rw[n];rfl
 have y:∀q o,Ai s q=some o->q.length=1:=λq o a=>by rw[p]at a;split at a;rename_i e;rw[e];rfl;split at a;rename_i e;rw[e];rfl;cases a
 have u:∀i,2<=i->Ai s [i]=none:=λi L=>by rw[p];rw[AN sO,AN sO]
 have w:∀b∈[f,k,r],ZC m M c s b:=λb x=>by let⟨q1,q2,q3,q4⟩:=D b x;refine⟨q1,q2,q3,λq=>⟨oG,?_⟩⟩;rw[p,h.boxes];have:b.box.toNat=0\/b.box.toNat=1:=oG;rcases this with e|e;rw[e];exact⟨_,rfl,rfl,rfl⟩;rw[e];exact⟨_,rfl,rfl,rfl⟩
 have K:∀(b:Fq)(i:Nat),(Dq c b [i]).id=[i]/\(Dq c b [i]).path=[i]/\(Dq c b [i]).scopes=[]:=λb i=>⟨rfl,rfl,rfl⟩;have F:=To A (w f sP) (i:=2) dC (u 2 dC) y nA;have I:∀t∈B5 [] (Dq c f [2]),t=Dq c f [2]:=λt d=>AP.1 d;have G:=To F (w k sP) (i:=3) dC (u 3 dC) y (λt d=>by rw[I t d];exact⟨2,rfl,dC,rfl,rfl⟩);have J:∀t∈B5 (B5 [] (Dq c f [2])) (Dq c k [3]),t=Dq c f [2]\/t=Dq c k [3]:=λt d=>by have:t∈[Dq c f [2],Dq c k [3]]:=d;simpa using this
 have H:=To G (w r sP) (i:=4) dC (u 4 dC) y (λt d=>by rcases J t d with e|e;rw[e];exact⟨2,rfl,dC,rfl,rfl⟩;rw[e];exact⟨3,rfl,dC,rfl,rfl⟩)
 refine⟨H,λq o a _=> ?_⟩;have a:Ai s q=some o:=a;rw[p]at a;split at a;cases a;rfl;split at a;cases a;rfl;cases a
end
section
def CZ(n:Int):Prop:= -9223372036854775808<=n/\n<=9223372036854775807
instance (n:Int):Decidable (CZ n):=by unfold CZ;infer_instance
def AR8(n:Int):CZ (wrap64 n):=by unfold CZ wrap64;omega
def AR6{a:Int}(b:Int)(h:CZ a):CZ (a.tmod b):=by unfold CZ at h⊢;have d:=Int.natAbs_tmod a b;have e:=Nat.mod_le a.natAbs b.natAbs;rcases Int.le_total 0 a with q|q;have:=Int.tmod_nonneg b q;omega;have:=Int.tmod_nonneg b (a:= -a) oG;rw[Int.neg_tmod]at this;omega
def AR5{c:Nat}{a b n:Int}(d:CZ a)(h:Ff c a b=some n):CZ n:=by
 unfold Ff at h
 repeat' split at h
 all_goals first|(cases h;first|exact AR8 _|exact AR6 _ d|decide)|cases h
def wv(v:Val):Prop:=(v=whole v.n/\CZ v.n)\/v=Cx v.l\/(3<=v.kind/\v.kind<=7/\v.n=0/\BY v.name)
theorem Ie(n:Int)(h:CZ n:=by decide):wv (whole n):=.inl ⟨rfl,h⟩
def ADc{v}(h:wv v):CZ v.n:=by rcases h with h|h|h;exact h.2;rw[h];exact(by decide:CZ 0);rw[h.2.2.1];decide
def AHB{l:AA Val}(h:∀v∈l,wv v)(i):CZ (l.getD i AO).n:=by
 rw[Cz];cases e:l[i]? with
 |none=>exact(by decide:CZ 0)
 |some v=>exact ADc (h v (Cv e))
def Q4(l):wv (Cx l):=.inr (.inl rfl)
def ADe(b:Bool):wv (Le b):=by cases b;exact Ie 0;exact Ie 1
def Yg{k n}(h:3<=k/\k<=7)(a:BY n)(l):wv (hand k n l):=.inr (.inr ⟨h.1,h.2,rfl,a⟩)
structure BC(A:Nat)(c:Ae):Prop where
 fr:c.AF.length<=16
 st:c.stack.length<=A
 tr:c.tries.length<=A
 vs:∀v∈c.stack,wv v
 vf:∀f∈c.AF,f.vars.length<=2000/\∀v∈f.vars,wv v
structure BT(A:Nat)(t:AJ):Prop where
 c:BC A t.c
 wt:t.status=1->t.c.stack.length+1<=A
 sc:t.scopes.length<=A
 md:t.made<=A
 sm:∀x∈t.scopes,x.made<=A/\x.room<=999/\x.CF+1<=A
 rm:t.room<=999
 vv:2<=t.status->wv t.v
 on:t.status=1->BY t.on
 off:t.status≠1->t.on=[]
structure BO(A:Nat)(o:Ob):Prop where
 q:o.var.q.length<=A
 v3:o.kind=3\/o.kind=4->wv o.v
 v6:o.kind=6->o.done->wv o.v
 vf:o.var.full->wv o.var.v
 vq:∀w∈o.var.q,w.put->wv w.v
structure BK(A S:Nat)(AD:AA AJ)(s:Ao):Prop where
 ts:∀t∈AD,BT A t
 os:∀n o,Ai s n=some o->BO A o
 tl:AD.length<=A
 sl:s.length<=S
variable {A B S R:Nat} {c u:Ae} {k:Call}
def BC.mono(h:BC A c)(k:A<=B):BC B c:=⟨h.fr,CB h.st k,CB h.tr k,h.vs,h.vf⟩
def BT.mono{t}(h:BT A t)(k:A<=B):BT B t:=⟨h.c.mono k,λq=>CB (h.wt q) k,CB h.sc k,CB h.md k,λx a=>⟨CB (h.sm x a).1 k,(h.sm x a).2.1,CB (h.sm x a).2.2 k⟩,h.rm,h.vv,h.on,h.off⟩
def BO.mono{o}(h:BO A o)(k:A<=B):BO B o:=⟨CB h.q k,h.v3,h.v6,h.vf,h.vq⟩
def BK.mono{a s}(h:BK A S a s)(k:A<=B)(r:S<=R):BK B R a s:=⟨λt d=>(h.ts t d).mono k,λn o b=>(h.os n o b).mono k,CB h.tl k,CB h.sl r⟩
def Ht(h:BC A c){v}(b:wv v):BC (A+1) (Ce c v) where
 fr:=h.fr
 st:=by show(c.stack++[v]).length<=_;rw[Bc];have:=h.st;simp;omega
 tr:=CB h.tr (B9 _)
 vs:=λx a=>by rcases BA.1 a with a|a;exact h.vs x a;rw[AP.1 a];exact b
 vf:=h.vf
def Zv(h:BC A c)(n):BC A (Ev c n):=⟨h.fr,by show(c.stack.take _).length<=_;rw[CX];have:=h.st;omega,h.tr,λv a=>h.vs v (Fl a),h.vf⟩
def Um(h:BC A c)(n):∀v∈CJ c n,wv v:=λv a=>h.vs v (Kw a)
def MV{n}(h:Fg c n):(CJ c n).length=n:=by unfold Fg at h;simp[Bt,D1]at h;unfold CJ;rw[KF];omega
def Wn{l:AA Val}(h:∀v∈l,wv v){i}(a:i<l.length):wv (l.getD i AO):=by rw[Cz,A9 a];exact h _ (DF a)
def P3(h:BC A c){f}(d:∀x,(x.vars.length<=2000/\∀v∈x.vars,wv v)->(f x).vars.length<=2000/\∀v∈(f x).vars,wv v):BC A (Da c f) where
 fr:=by show(c.AF.modify _ f).length<=16;rw[Mg];exact h.fr
 st:=h.st
 tr:=h.tr
 vs:=h.vs
 vf:=λx a=>by
  have a:x∈c.AF.modify (c.AF.length-1) f:=a;let⟨i,hi⟩:=Yq a;rw[Pm]at hi;cases e:c.AF[i]? with
  |none=>rw[e]at hi;cases hi
  |some y=>
   rw[e]at hi;have b:=h.vf y (Cv e);simp[Y9,Kz,Pq]at hi;subst hi;split;exact d y b;exact b
def ANn(h:BC A c)(f g t):BC A (Eo c f g t) where
 fr:=by show(c.AF.take f).length<=16;rw[CX];have:=h.fr;omega
 st:=by show(c.stack.take g).length<=A;rw[CX];have:=h.st;omega
 tr:=by show(c.tries.take t).length<=A;rw[CX];have:=h.tr;omega
 vs:=λv a=>h.vs v (Fl a)
 vf:=λx b=>h.vf x (Fl b)
def Tf(h:BC A c){i vars a e}(g:F5 c i vars a e=some u)(l:∀v∈a,wv v)(m:a.length<=1900):BC A u:=by unfold F5 at g;split at g;cases g;rename_i j;cases g;refine⟨by show(c.AF++[_]).length<=16;rw[Bc];simp;omega,h.st,h.tr,h.vs,λf b=> ?_⟩;rcases BA.1 b with b|b;exact h.vf f b;rw[AP.1 b];refine⟨by show(a++List.replicate (min vars 16) (whole 0)).length<=2000;rw[Bc,ADz];omega,λv d=> ?_⟩;rcases BA.1 d with d|d;exact l v d;rw[(List.mem_replicate.1 d).2];exact Ie 0
def AE2(h:BC A c):BC A (Di c) where
 fr:=by show(c.AF.take _).length<=16;rw[CX];have:=h.fr;omega
 st:=by show(c.stack.take _).length<=A;rw[CX];have:=h.st;omega
 tr:=CB (VQ _ _) h.tr
 vs:=λv a=>h.vs v (Fl a)
 vf:=λx b=>h.vf x (Fl b)
def ANr(h:BC A c)(o:c.stack.length+1<=A){a:Int}{j:Nat}(m:CZ a)(b:Ld c a j=some u):BC A u:=by
 unfold Ld at b;split at b;cases b;rename_i t _;split at b;cases b;split at b;cases b;cases b;refine⟨?_,?_,?_,λv g=> ?_,λf l=> ?_⟩;show(IY (c.AF.take t.AF) _ _).length<=16;unfold IY;rw[Mg,CX];have:=h.fr;omega;show(c.stack.take t.CF++[whole a]).length<=A;rw[Bc,CX];simp;omega;show(c.tries.take _).length<=A;rw[CX];have:=h.tr;omega;rcases BA.1 g with g|g;exact h.vs v (Fl g);rw[AP.1 g];exact Ie _ m;have l:f∈IY (c.AF.take t.AF) (t.AF-1) t.at_:=l;unfold IY at l;let⟨i,d⟩:=Yq l;rw[Pm]at d;cases e:(c.AF.take t.AF)[i]? with
 |none=>rw[e]at d;cases d
 |some y=>
  rw[e]at d;have n:=h.vf y (Fl (Cv e));simp[Y9,Kz,Pq]at d;subst d;split;exact n;exact n
def AE1(h:BC A c)(b:c.stack.length+1<=A){code:Int}{keep:Nat}(a:CZ code):BC A (D4 c code keep).1:=by unfold D4;split;rename_i u d;exact ANr h b a d;exact h
def ANp(h:BC A c){a:Int}{b:Nat}(d:CZ a):BC (A+1) (D4 c a b).1:=AE1 (h.mono (B9 _)) (Na h.st) d
structure Jc(im:Ak):Prop where
 cs:∀v∈im.consts,wv v
 ar:∀f∈im.Ad,f.args<=1000
def ANm(h:BC A c)(a o):BC A (ER a c o):=P3 (Zv h _) λ_ h=>h
def ALd{im o f}(h:c.top=some f):∃g,(ER im c o).top=some g/\g.vars=f.vars:=by have:(ER im c o).AF=c.AF.modify (c.AF.length-1) λf=>{f with pc:=f.pc+1}:=rfl;unfold Ae.top at h⊢;rw[this,NT,Mg,Pm,<-NT,h];refine⟨_,rfl,?_⟩;show(if c.AF.length-1=c.AF.length-1 then _ else f).vars=f.vars;rw[AW rfl]
def AQh{b}(a:Jc b)(i):(b.Ad.getD i Af).args<=1000:=by
 rw[Cz];cases e:b.Ad[i]? with
 |none=>exact BS _
 |some f=>exact a.ar f (Cv e)
def ANo{g:Ak}(j:Jc g){o:Op}{l:AA Val}{b}(h:BC A c)(t:∀v∈l,wv v)(D:l.length=Bi g o)(y:o.code=1->o.a<g.consts.length)(z:o.code=2->o.a<(c.top.getD Af).vars.length/\c.AF≠[])(a:Fh g c o l b=.inl u):BC (A+2) u:=by
 have r:∀i,i<Bi g o->wv (l.getD i AO):=λi G=>Wn t oG;have s:o.code≠17->Bi g o=A2 o.code:=λq=>by unfold Bi;rw[AN q]
 unfold Fh at a;dsimp only at a;split at a;rename_i e;cases a;refine(Ht h ?_).mono oG;have:=y e;rw[Cz,A9 this];exact j.cs _ (DF this);rename_i e;cases a;refine(Ht h ?_).mono oG;let⟨q1,q2⟩:=z e;have:∃f,c.top=some f:=by
  unfold Ae.top;cases C:c.AF.getLast? with
  |none=>exact absurd (Q8.1 C) q2
  |some f=>exact⟨f,rfl⟩
 let⟨f,w⟩:=this;rw[w]at q1⊢;simp only[TB]at q1⊢;rw[Cz,A9 q1];exact(h.vf f (Yx w)).2 _ (DF q1);rename_i e;cases a;have d:wv (l.getD 0 AO):=r 0 (by rw[s oG,e];decide);refine(P3 h λx p=>⟨by show(x.vars.set _ _).length<=2000;rw[Yu];exact p.1,λv n=> ?_⟩).mono oG;rcases Yz n with n|n;exact p.2 v n;rw[n];exact d;cases a;exact BC.mono h (RD A 2);rename_i e;cases a;have d:wv (l.getD 0 AO):=r 0 (by rw[s oG,e];decide);exact Ht (Ht h d) d;rename_i e;cases a;have d:wv (l.getD 0 AO):=r 0 (by rw[s oG,e];decide);have F:wv (l.getD 1 AO):=r 1 (by rw[s oG,e];decide);exact Ht (Ht h F) d;cases a;exact(Ht h (ADe _)).mono (B9 _)
 all_goals try(
  split at a;split at a;rename_i m;cases a;exact(Ht h (Ie _ (AR5 (AHB t 0) m))).mono oG;cases a;cases a)
 split at a;cases a;exact(Ht h (ADe _)).mono (B9 _);cases a;cases a;exact BC.mono (A:=A) (by exact P3 h λ_ q=>q) (RD A 2);split at a;split at a;cases a;exact BC.mono (A:=A) (by exact P3 h λ_ q=>q) (RD A 2);cases a;exact BC.mono h (RD A 2);cases a;rename_i e;split at a;rename_i H E;cases a;refine(Tf h E t ?_).mono oG;rw[D];unfold Bi;rw[AW e,e];have:=AQh j o.a;show A2 17+_<=1900;have:A2 17=0:=rfl;omega;cases a;split at a<;>cases a;cases a;refine⟨h.fr,CB h.st oG,?_,h.vs,h.vf⟩;show(c.tries++[_]).length<=A+2;rw[Bc];have:=h.tr;simp;omega;cases a;split;refine⟨h.fr,CB h.st oG,?_,h.vs,h.vf⟩;show(c.tries.take _).length<=A+2;rw[CX];have:=h.tr;omega;exact h.mono oG;split at a;cases a;exact(Ht h (Q4 _)).mono oG;cases a;split at a;cases a;exact(Ht h (Q4 _)).mono oG;cases a;split at a;cases a;exact(Ht h (ADe _)).mono (B9 _);cases a;split at a;cases a;exact(Ht h (Q4 _)).mono oG;cases a;cases a;exact BC.mono (A:=A) (by exact P3 h λ_ q=>q) (RD A 2);cases a;exact(Ht h (Ie _ (by unfold CZ;have:=((c.top.getD Af).AL).toNat_lt;omega))).mono oG;cases a;exact BC.mono h (RD A 2)
def AVr{f o l}{a:Nat}{code:Int}(d:∀v∈l,wv v)(b:Fh f c o l a=.inr code):CZ code:=by
 have e:=AHB d 0;unfold Fh at b;dsimp only at b
 repeat' split at b
 all_goals first|(cases b;first|exact e|decide)|cases b
end
section
variable {A B S R:Nat} {c u:Ae} {k:Call}
theorem AGs{a c o}(h:Hy a c=some o):∃f b,c.top=some f/\a.Ad[f.fn]? =some b/\b.code[f.pc]? =some o/\Gf o/\G1 a f o/\Fg c (Bi a o):=by grind[Hy]
theorem ANq{j}(q:Jc j)(h:BC A c)(b d):BC (A+2) (ET j c b d).1/\∀v,((ET j c b d).2=.ended v\/(ET j c b d).2=.failed v)->wv v:=by
 unfold ET;split;refine⟨h.mono oG,λv l=> ?_⟩;rcases l with l|l<;>cases l;exact Ie (-6);rename_i o C;let⟨f,F,w,z,D,G,a,i⟩:=AGs C;split;refine⟨h.mono oG,λv l=> ?_⟩
 grind
 split;rename_i e;have l:wv ((CJ c 1).getD 0 AO):=by
  have:Bi j o=1:=by unfold Bi;rw[AN oG,e];rfl
  rw[this]at i;exact Wn (Um h 1) (by rw[MV i];decide)
 dsimp only;split;refine⟨(AE2 h).mono oG,λv s=> ?_⟩
 grind
 refine⟨(Ht (AE2 h) l).mono oG,λv s=> ?_⟩
 grind
 have x:=ANm h j o;have r:(ER j c o).AF≠[]:=by let⟨g,m,_⟩:=ALd (im:=j) (o:=o) w;intro e;unfold Ae.top at m;rw[e]at m;cases m
 split;rename_i u E;refine⟨ANo q x (Um h _) (MV i) (λe=> ?_) (λe=>⟨?_,r⟩) E,λv l=> ?_⟩;unfold G1 at a;rw[e]at a;have a:decide (o.a<j.consts.length):=a;simpa using a;let⟨g,m,p⟩:=ALd (im:=j) (o:=o) w;rw[m];show o.a<g.vars.length;rw[p];unfold G1 at a;rw[e]at a;have a:decide (o.a<f.vars.length):=a;simpa using a
 grind
 rename_i t y;have n:=AVr (Um h _) y;refine⟨(ANp h n).mono oG,λv l=> ?_⟩
 grind[Un,Ie]
structure BL(A S:Nat)(k:Call):Prop where
 t:BT A k.t
 o:∀n ob,Ai k.s n=some ob->BO A ob
 s:k.s.length<=S
structure BE(e:Eff):Prop where
 fk:e.fork.length<=1/\∀u∈e.fork,BT 20 u
 wk:e.woken.length<=1/\∀w∈e.woken,w.2.length<=1/\∀v∈w.2,wv v
 ou:e.out.length<=1/\∀x∈e.out,wv x.2/\Ap x.1=x.1/\Ap x.2.l=x.2.l
 lg:e.log.length<=1
structure BR(A S:Nat)(r:CR):Prop where
 l:BL (A+1) (S+1) r.1
 e:BE r.1.e
 st:r.2≠none->r.1.t.status=0/\∀c,r.2=some c->CZ c
def BE.zero:BE Ba:=⟨⟨dC,nA⟩,⟨dC,nA⟩,⟨dC,nA⟩,dC⟩
def BL.mono(h:BL A S k)(p:A<=B)(q:S<=R):BL B R k:=⟨h.t.mono p,λn o a=>(h.o n o a).mono p,CB h.s q⟩
def BT.core{t}(h:BT A t)(b:t.status≠1){d}(a:BC B d)(k:A<=B):BT B {t with c:=d}:=
 ⟨a,λq=>(b q).elim,(h.mono k).sc,(h.mono k).md,(h.mono k).sm,h.rm,h.vv,h.on,h.off⟩
def BL.core(h:BL A S k)(b:k.t.status≠1){d}(a:BC B d)(p:A<=B):BL B S {k with t:={k.t with c:=d}}:=⟨h.t.core b a p,(h.mono p (AZ _)).o,h.s⟩
def BL.push(h:BL A S k)(a:k.t.status≠1){v}(b:wv v):BL (A+1) S (k.push v):=h.core a (Ht h.t.c b) (B9 _)
def BL.Bw(h:BL A S k)(g):BL A S (k.Bw g):=⟨⟨h.t.c,h.t.wt,h.t.sc,h.t.md,h.t.sm,h.t.rm,h.t.vv,h.t.on,h.t.off⟩,h.o,h.s⟩
theorem BL.waits(h:BL A S k){n}(a:BY n)(b:k.t.status=0):BL (A+1) S (FR k n):=
 ⟨⟨h.t.c.mono (B9 _),λ_=>Na h.t.c.st,JW h.t.sc,JW h.t.md,(h.t.mono (B9 _)).sm,h.t.rm,(λq=>absurd q (by show¬2<=1;decide)),(λ_=>a),λq=>(q rfl).elim⟩,(h.mono (B9 _) (AZ _)).o,h.s⟩
theorem R6(s n o):(C0 s n o).length<=s.length+1:=by grind[C0]
theorem ABm(s n o):(Cf s n o).length=s.length:=by grind[Cf]
theorem Tl{s}(h:∀n ob,Ai s n=some ob->BO A ob){n o}(a:BO A o):∀q ob,Ai (C0 s n o) q=some ob->BO A ob:=by grind[Eg,RV,JI]
theorem Z8{s}(h:∀n ob,Ai s n=some ob->BO A ob){n o}(a:BO A o):∀q ob,Ai (Cf s n o) q=some ob->BO A ob:=by grind[QW]
def BL.set(h:BL A S k)(p:A<=B){n o}(a:BO B o):BL B S {k with s:=Cf k.s n o}:=⟨h.t.mono p,Z8 (h.mono p (AZ _)).o a,by show(Cf k.s n o).length<=S;rw[ABm];exact h.s⟩
def ADd{v}(h:wv v)(a:3<=v.kind):BY v.name:=by rcases h with h|h|h;rw[h.1]at a;trivial;rw[h]at a;trivial;exact h.2.2.2
theorem AR7(s l):CZ (EB s l).2:=by grind[EB,CZ]
theorem ABY(s l):CZ (Cu s l):=by grind[Cu,CZ]
theorem AR0(s l):CZ (P6 s l).2:=by grind[P6,CZ,ABY]
theorem AR4(s l):CZ (Iw s l).2:=by grind[Iw,CZ]
theorem AR1(s l p):CZ (Gs s l p).2.1:=by grind[Gs,CZ]
theorem AR3(s l p):CZ (Gv s l p).2.1:=by grind[Gv,CZ]
theorem AR2{t}{f vars:Nat}{a b l}{x y:Int}{d:Nat}{e:Int}(h:IP t f vars a b l x y d=.inr e):CZ e:=by grind[IP,CZ,ABY]
def BR.Dt(h:BL A S k)(b:k.e=Ba)(a:k.t.status=0)(x)(d:∀c,x=some c->CZ c:=by(intro c q;cases q<;>with_reducible first|exact AR7 _ _|exact ABY _ _|exact AR0 _ _|exact AR4 _ _|exact AR1 _ _ _|exact AR3 _ _ _|decide)):BR A S (k,x):=⟨h.mono (B9 _) (B9 _),by show BE k.e;rw[b];exact .zero,λ_=>⟨a,d⟩⟩
def AFT(h:BL A S k)(b:k.e=Ba)(a:k.t.status=0){l f}(d:∀g,BR A S (f (k.Bw g))):BR A S (IC k l f):=by unfold IC;split;exact .Dt h b a _;exact d _
def AFS(h:BL A S k)(b:k.e=Ba)(a:k.t.status=0){l f}(d:∀g,BR A S (f (k.Bw g))):BR A S (Hu k l f):=by unfold Hu;split;exact .Dt h b a _;exact d _
theorem AAE{t u n}(h:BT A t)(d:FN t=some (u,n))(a:t.status=0):BT (A+1) u/\u.status=0/\BY n/\u.made=t.made+1/\u.room=t.room-1:=by let⟨e,b,_⟩:=LR d;subst e;exact⟨⟨h.c.mono (B9 _),gR,JW h.sc,Na h.md,(h.mono (B9 _)).sm,by show t.room-1<=999;have:=h.rm;omega,λq=>by grind,(λq=>by grind),λq=>h.off q⟩,a,(AFo b).2,rfl,rfl⟩
def V4(h:BL A S k)(b:k.e=Ba)(a:k.t.status=0){o}(i:BO A o)(g:3<=o.kind/\o.kind<=7):BR A S (GU k o):=by
 unfold GU;split;exact .Dt h b a _;split;exact .Dt h b a _;rename_i t n f;let⟨q1,q2,q3,q4,q5⟩:=AAE h.t f a;let⟨e,d,_⟩:=LR f;refine⟨?_,by show BE k.e;rw[b];exact .zero,λq=>(q rfl).elim⟩;refine⟨?_,Tl (h.mono (B9 A) (AZ _)).o (i.mono (B9 _)),CB (R6 _ _ _) (Na h.s)⟩;have d:BC (A+1) (Ce t.c (hand o.kind n o.l)):=by rw[e];exact Ht h.t.c (Yg g q3 _)
 exact q1.core oG d (AZ _)
def V5(h:BL A S k)(b:k.e=Ba)(a:k.t.status=0){x f}(j:∀g o,Ai k.s x.name=some o->o.kind=x.kind->o.l=x.l->BR A S (f (k.Bw g) o)):BR A S (Fy k x f):=by refine AFT h b a λg=> ?_;split;refine⟨((h.Bw g).push (by show k.t.status≠1;omega) (Ie 0)).mono (AZ _) (B9 _),by show BE k.e;rw[b];exact .zero,λq=>(q rfl).elim⟩;rename_i o l;let⟨d,e,i⟩:=IE l;exact j g o d e i
def AFU(h:BL A S k)(b:k.e=Ba)(a:k.t.status=0){o}(d:wv o.v):BR A S (FP k o):=by unfold FP;split;exact .Dt h b a _ (λc q=>by cases q;exact ADc d);exact⟨(h.push oG d).mono (AZ _) (B9 _),by show BE k.e;rw[b];exact .zero,λq=>(q rfl).elim⟩
def AAt{l:List Wt}{P:Wt->Prop}(h:∀w∈l,P w)(i:Nat):∀w∈l.eraseIdx i,P w:=λw a=>h w (List.mem_of_mem_eraseIdx a)
theorem AAs{a:Type}(l:AA a)(i):(l.eraseIdx i).length<=l.length:=by grind
theorem AYA{ob}(h:BO A ob)(id)(hk:ob.kind=5):BO (A+1) {ob with var:=(Gi ob.var id).1}/\∀v,(Gi ob.var id).2.1=some v->wv v:=by
 have n3: ¬(ob.kind=3\/ob.kind=4):=oG;have n6: ¬ob.kind=6:=oG;unfold Gi;split;rename_i a;refine⟨⟨by show(ob.var.q++[_]).length<=A+1;rw[Bc];have:=h.q;simp;omega,λq=>(n3 q).elim,λq=>(n6 q).elim,h.vf,λw hw hp=> ?_⟩,λv d=>by cases d⟩;rcases BA.1 hw with hw|hw;exact h.vq w hw hp
 grind
 rename_i a;have a:ob.var.full:=by simpa using a
 split;refine⟨⟨JW h.q,λq=>(n3 q).elim,λq=>(n6 q).elim,λq=>(by cases q),h.vq⟩,λv d=> ?_⟩;cases d;exact h.vf a;rename_i i hi;have b:=(Ku.1 hi).1;have hp:=(Ku.1 hi).2.1;refine⟨⟨JW (CB (AAs _ _) h.q),λq=>(n3 q).elim,λq=>(n6 q).elim,λ_=> ?_,AAt (P:=λw=>w.put->wv w.v) h.vq i⟩,λv d=> ?_⟩;show wv (ob.var.q.getD i Af).v;rw[Cz,A9 b];exact h.vq _ (DF b) hp;cases d;exact h.vf a
theorem AVv{a}(h:BO A a)(j)(m:a.kind=5){y}(g:wv y):BO (A+1) {a with var:=(Hi a.var j y).1}:=by
 have d: ¬(a.kind=3\/a.kind=4):=oG;have e: ¬a.kind=6:=oG;unfold Hi;split;refine⟨by show(a.var.q++[_]).length<=A+1;rw[Bc];have:=h.q;simp;omega,λq=>(d q).elim,λq=>(e q).elim,h.vf,λw b f=> ?_⟩;rcases BA.1 b with b|b;exact h.vq w b f
 grind
 split;exact⟨JW h.q,λq=>(d q).elim,λq=>(e q).elim,λ_=>g,h.vq⟩;rename_i i l;exact⟨JW (CB (AAs _ _) h.q),λq=>(d q).elim,λq=>(e q).elim,h.vf,AAt (P:=λw=>w.put->wv w.v) h.vq i⟩
theorem AE3(k)(b:k.e=Ba)(a){l}(d:l.length<=1/\∀v∈l,wv v):BE (GW k a l).e/\(GW k a l).t=k.t/\(GW k a l).s=k.s:=by unfold GW;split;rw[b];exact⟨.zero,rfl,rfl⟩;refine⟨?_,rfl,rfl⟩;show BE {k.e with woken:=k.e.woken++[(a,l)]};rw[b];exact{BE.zero with wk:=by grind[Ba]}
def AFG(h:BL A S k)(a l):BL A S (GW k a l):=by unfold GW;split;exact h;exact⟨h.t,h.o,h.s⟩
theorem AOK{t u}{j vars:Nat}{arg e l}{b f:Int}{i:Nat}(h:BT A t)(g:t.status=0)(y:wv arg)(a:IP t j vars arg e l b f i=.inl u):BT (A+1) u:=by
 unfold IP at a;split at a;cases a;split at a;cases a;rename_i z;split at a;cases a;split at a;cases a;rename_i D n p;split at a;cases a;split at a;cases a;rename_i c o;let⟨q1,q2,q3,q4,q5⟩:=AAE h p g;cases a;have m:=Tf h.c o (λv C=>by grind) sP;refine⟨m.mono (B9 _),λq=>absurd q gR,?_,BS _,λx d=> ?_,by grind,λq=>absurd q gR,(λq=>absurd q gR),λq=>q1.off q⟩;show(t.scopes++[_]).length<=A+1;rw[Bc];have:=h.sc;simp;omega;rcases BA.1 d with d|d;exact(h.mono (B9 _)).sm x d;rw[AP.1 d];have r:=h.md;have s:=h.rm;have w:=h.c.st
 grind
def Ra{kind l v fn AL}(a:kind=3\/kind=4->wv v):BO A {Cb with kind:=kind,l:=l,v:=v,fn:=fn,AL:=AL}:=
 ⟨BS _,a,λ_ q=>(by cases q),λq=>(by cases q),λw b=>(by cases b)⟩
def AFV(n g){c}(b:BC 20 c){a}(d:a<=999):BT 20 (Iy n g c a):=⟨b,(λq=>by cases q),BS _,BS _,nA,d,(λq=>absurd q (by show¬2<=0;decide)),(λq=>by cases q),λ_=>rfl⟩
theorem Zu:BC 20 ⟨[],[],[]⟩:=by constructor<;>grind
theorem AEw{im now o AL l}(h:BL A S k)(b:k.e=Ba)(a:k.t.status=0)(r:∀i,i<A2 o.code->wv (l.getD i AO))(J:∀i,i<A2 o.code->Ap (l.getD i AO).l=(l.getD i AO).l):BR A S (Br im now o AL l k):=by
 have p:BE k.e:=by rw[b];exact .zero
 have z:k.t.status≠1:=oG;unfold Br;dsimp only;split;exact⟨(h.push z (Q4 _)).mono (AZ _) (B9 _),p,λq=>(q rfl).elim⟩;exact⟨(h.push z (Q4 _)).mono (AZ _) (B9 _),p,λq=>(q rfl).elim⟩;split;exact .Dt h b a _;exact AFT h b a λg=>.Dt (h.Bw g) b a _;split;exact .Dt h b a _;split;exact .Dt h b a _;exact BR.Dt (h.Bw (Iw k.t.g (l.getD 0 AO).l).1) b a none;rename_i e;split;exact .Dt h b a _;exact V4 h b a (Ra λ_=>r 0 (by rw[e];decide)) (by simp);split;exact .Dt h b a _;rename_i I;refine V5 h b a λg j m F G=>AFU (h.Bw g) b a ((h.o _ _ m).v3 (.inl oG));rename_i e;split;exact .Dt h b a _;exact V4 h b a (Ra λ_=>r 0 (by rw[e];decide)) (by simp);split;exact .Dt h b a _;rename_i I;exact V5 h b a λg j m F G=>⟨((h.Bw g).push z ((h.o _ _ m).v3 (.inr oG))).mono (AZ _) (B9 _),p,λq=>(q rfl).elim⟩;rename_i e;split;exact .Dt h b a _;split;exact .Dt h b a _;split;rename_i I _ _ j y;let⟨m,F,G⟩:=IE y;have E:=h.o _ _ m;refine .Dt (h.set (o:={j with v:=l.getD 1 AO}) (AZ _) ⟨E.q,λ_=>r 1 (by rw[e];decide),λq=>absurd q gR,E.vf,E.vq⟩) b a _;exact .Dt h b a _;split;exact .Dt h b a _;simp_all[V4,Ra,dC];rename_i e;split;exact .Dt h b a _;rename_i I;have D:wv (l.getD 0 AO):=r 0 (by rw[e];decide);have x:=ADd D oG;refine AFS h b a λg=> ?_;split;exact⟨((h.Bw g).waits x a).mono (AZ _) (B9 _),p,λq=>(q rfl).elim⟩;rename_i j y;let⟨m,F,G⟩:=IE y;let⟨N,Y⟩:=AYA (h.o _ _ m) k.t.id oG;have f:=(h.Bw g).set (B9 A) (n:=(l.getD 0 AO).name) N;split
 have C:BL (A+1) S (FR {k.Bw g with s:=Cf (k.Bw g).s (l.getD 0 AO).name {j with var:=(Gi j.var k.t.id).1}} (l.getD 0 AO).name):=
  ⟨((h.Bw g).waits x a).t,f.o,f.s⟩
 exact⟨C.mono (AZ _) (B9 _),p,λq=>(q rfl).elim⟩;rename_i v H;have V:BL (A+1) S ({k.Bw g with s:=Cf (k.Bw g).s (l.getD 0 AO).name {j with var:=(Gi j.var k.t.id).1}}.push v):=⟨((h.Bw g).push z (Y v H)).t,f.o,f.s⟩;exact⟨(AFG V _ _).mono (AZ _) (B9 _),(by refine(AE3 _ ?_ _ ⟨sP,nA⟩).1;exact b),λq=>(q rfl).elim⟩;rename_i e;split;exact .Dt h b a _;rename_i I;have D:wv (l.getD 0 AO):=r 0 (by rw[e];decide);have W:wv (l.getD 1 AO):=r 1 (by rw[e];decide);have x:=ADd D oG;refine AFS h b a λg=> ?_;split;exact⟨((h.Bw g).waits x a).mono (AZ _) (B9 _),p,λq=>(q rfl).elim⟩;rename_i j y;let⟨m,F,G⟩:=IE y;have N:=AVv (h.o _ _ m) k.t.id oG W;have f:=(h.Bw g).set (B9 A) (n:=(l.getD 0 AO).name) N;split;have C:BL (A+1) S (FR {k.Bw g with s:=Cf (k.Bw g).s (l.getD 0 AO).name {j with var:=(Hi j.var k.t.id (l.getD 1 AO)).1}} (l.getD 0 AO).name):=
  ⟨((h.Bw g).waits x a).t,f.o,f.s⟩
 exact⟨C.mono (AZ _) (B9 _),p,λq=>(q rfl).elim⟩;exact⟨(AFG f _ _).mono (AZ _) (B9 _),(by refine(AE3 _ ?_ _ gR).1;exact b),λq=>(q rfl).elim⟩;rename_i e;split;exact .Dt h b a _;split;exact .Dt h b a _;split;exact .Dt h b a _;split;exact .Dt h b a _;rename_i X _ t n O;have D:wv (l.getD 0 AO):=r 0 (by rw[e];decide);let⟨q1,q2,q3,q4,q5⟩:=AAE h.t O a;let⟨Q,hc,_⟩:=LR O;have U:BC 20 ((F5 ⟨[],[],[]⟩ o.a (varsOf im o.a) [l.getD 0 AO] AL).getD ⟨[],[],[]⟩):=by
  cases P:F5 ⟨[],[],[]⟩ o.a (varsOf im o.a) [l.getD 0 AO] AL with
  |none=>exact Zu
  |some u=>exact Tf Zu P (λv H=>by grind) sP
 refine⟨?_,?_,λq=>(q rfl).elim⟩;have M:BT (A+1) {t with room:=t.room-(l.getD 1 AO).n.toNat}:=⟨q1.c,q1.wt,q1.sc,q1.md,q1.sm,by show t.room-_<=999;have:=q1.rm;omega,q1.vv,q1.on,q1.off⟩;refine⟨?_,Tl (h.mono (B9 A) (AZ _)).o (Ra λq=>absurd q dC),CB (R6 _ _ _) (Na h.s)⟩;have K:BC (A+1) (Ce t.c (hand 6 n (l.getD 2 AO).l)):=by rw[Q];exact Ht h.t.c (Yg dC q3 _)
 exact M.core (by show t.status≠1;omega) K (AZ _);show BE {k.e with fork:=k.e.fork++[_]};rw[b];exact{BE.zero with fk:=by simp_all[Ba,BA,AP,AFV,oG]};rename_i e;split;exact .Dt h b a _;rename_i I;have D:wv (l.getD 0 AO):=r 0 (by rw[e];decide);refine V5 h b a λg j m F G=> ?_;split;rename_i L;exact AFU (h.Bw g) b a ((h.o _ _ m).v6 oG L);exact⟨((h.Bw g).waits (ADd D oG) a).mono (AZ _) (B9 _),p,λq=>(q rfl).elim⟩;rename_i e;split;exact .Dt h b a _;split;rename_i t M;exact⟨⟨AOK h.t a (r 0 (by rw[e];decide)) M,(h.mono (B9 _) (AZ _)).o,JW h.s⟩,p,λq=>(q rfl).elim⟩;rename_i Z D;exact .Dt h b a _ (λc q=>by cases q;exact AR2 D);rename_i e;split;exact .Dt h b a _;split;exact .Dt h b a _;refine⟨⟨h.t.mono (B9 _),(h.mono (B9 _) (AZ _)).o,JW h.s⟩,?_,λq=>(q rfl).elim⟩;show BE {k.e with out:=k.e.out++[_]};rw[b]
 exact{BE.zero with ou:=⟨by simp[Ba],λw C=>by rcases BA.1 C with C|C;cases C;rw[AP.1 C];exact⟨r 0 (by rw[e];decide),J 1 (by rw[e];decide),J 0 (by rw[e];decide)⟩⟩}
 split;exact .Dt h b a _;split;exact .Dt h b a _;refine⟨⟨((h.Bw _).mono (B9 _) (B9 _):BL (A+1) (S+1) _).t,(h.mono (B9 A) (B9 S)).o,(h.mono (B9 A) (B9 S)).s⟩,?_,λq=>(q rfl).elim⟩;show BE (if _ then{k.e with log:=k.e.log++[_]}else k.e);split;rw[b];exact{BE.zero with lg:=by simp[Ba]};exact p;split;exact .Dt h b a _;split;exact .Dt h b a _;refine⟨⟨((h.Bw _).mono (B9 _) (B9 _):BL (A+1) (S+1) _).t,(h.mono (B9 A) (B9 S)).o,(h.mono (B9 A) (B9 S)).s⟩,?_,λq=>(q rfl).elim⟩;show BE (if _ then{k.e with log:=k.e.log++[_]}else k.e);split;rw[b];exact{BE.zero with lg:=by simp[Ba]};exact p;split;exact .Dt h b a _;simp_all[V4,Ra,dC];rename_i e;split;exact .Dt h b a _;refine V5 h b a λg j m F G=> ?_;split;rename_i d L;have T:=Tf (c:=k.t.c) h.t.c L (λv H=>by rw[AP.1 H];exact r 0 (by rw[e];decide)) sP;exact⟨((h.Bw g).core z T (AZ _)).mono (B9 _) (B9 _),p,λq=>(q rfl).elim⟩;exact .Dt (h.Bw g) b a _;exact .Dt h b a _
end
section
variable {A B S R:Nat} {c u:Ae} {k:Call}
def AAz(h:BL A S k){v}(d:wv v)(ex:Bool):BL A S (Ea k v ex):=by
 have hb:BT A (E6 k.t v ex):=by
  have b:(E6 k.t v ex).status≠1/\2<=(E6 k.t v ex).status:=by show(if 0<k.t.scopes.length then 2 else if ex then 4 else 3)≠1/\2<=(if 0<k.t.scopes.length then 2 else if ex then 4 else 3);split;decide;split<;>decide
  exact⟨h.t.c,λq=>(b.1 q).elim,h.t.sc,h.t.md,h.t.sm,h.t.rm,λ_=>d,(λq=>(b.1 q).elim),λ_=>rfl⟩
 unfold Ea;dsimp only;split;exact⟨hb,h.o,h.s⟩
 .refine⟨hb,?_,?_⟩
  .show∀n ob,Ai (match Ai k.s (E6 k.t v ex).id with|some o=>if o.kind=6 then Cf k.s (E6 k.t v ex).id {o with v:=v,ex:=ex,done:=true}else k.s|none=>k.s) n=some ob->BO A ob;split;rename_i o e;split;rename_i f;have a:=h.o _ _ e;exact Z8 h.o ⟨a.q,λq=>absurd q (by show¬(o.kind=3\/o.kind=4);omega),λ_ _=>d,a.vf,a.vq⟩;exact h.o;exact h.o
  .show(match Ai k.s (E6 k.t v ex).id with|some o=>if o.kind=6 then Cf k.s (E6 k.t v ex).id {o with v:=v,ex:=ex,done:=true}else k.s|none=>k.s).length<=S;split;split;rw[ABm];exact h.s;exact h.s;exact h.s
def AA0(k v)(a:Bool):(Ea k v a).e.out=k.e.out:=by unfold Ea;dsimp only;split<;>rfl
def AV4(k c)(b:Int)(a:Nat):(Ec k c b a).e.out=k.e.out:=by unfold Ec;split;rw[AA0];rfl
def AJw(h:BL B S k)(f:k.t.status≠1)(i:BC B c)(p:c.stack.length+1<=B)(b:Int)(a:Nat)(d:CZ b):BL B S (Ec k c b a):=by have g:=AE1 i p (code:=b) (keep:=a) d;unfold Ec;rcases Un c b a with q|⟨q,q2⟩;have e:D4 c b a=((D4 c b a).1,.Ic):=Prod.ext rfl q;rw[e];exact h.core f g (AZ _);have e:D4 c b a=((D4 c b a).1,.failed (whole b)):=Prod.ext rfl q;rw[e];exact AAz (h.core f g (AZ _)) (Ie _ d) _
def Zw{e e'}(h:BE e)(a:e'.fork=e.fork)(b:e'.woken=e.woken)(d:e'.out=e.out)(f:e'.log=e.log):BE e':=⟨by rw[a];exact h.fk,by rw[b];exact h.wk,by rw[d];exact h.ou,by rw[f];exact h.lg⟩
def AGG{im}(j:Jc im){t s now}(d:BT A t)(w:t.status=0)(I:∀n o,Ai s n=some o->BO A o)(J:s.length<=S)(l:∀v∈t.c.stack,Ap v.l=v.l):BL (A+2) (S+1) (C8 im t s now)/\BE (C8 im t s now).e:=by
 have z:BL A S ⟨s,t,Ba⟩:=⟨d,I,J⟩;have e:t.status≠1:=oG;let⟨F,C⟩:=ANq j d.c (CW t).1 (CW t).2;have g:BL (A+2) (S+1) ⟨s,{t with c:=(ET im t.c (CW t).1 (CW t).2).1},Ba⟩:=(z.core e F oG).mono (AZ _) (B9 _);unfold C8;rw[AN oG];dsimp only;cases m:(ET im t.c (CW t).1 (CW t).2).2 with
 |Ic=>exact⟨g,.zero⟩
 |ended v=>exact⟨AAz g (C v (.inl m)) _,Zw .zero (Kb _ _ _).2.1 (Kb _ _ _).2.2 (AA0 _ _ _) (Kb _ _ _).1⟩
 |failed v=>exact⟨AAz g (C v (.inr m)) _,Zw .zero (Kb _ _ _).2.1 (Kb _ _ _).2.2 (AA0 _ _ _) (Kb _ _ _).1⟩
 |asked o=>
  let⟨G,E,_⟩:=YC m;have a:=AA3 G;have x:Bi im o=A2 o.code:=by unfold Bi;rw[AN (Zt E)]
  rw[x]at a;have hlen:=MV a;have D:BL A S ⟨s,{t with c:=Da (Ev t.c (A2 o.code)) λf=>{f with pc:=f.pc+1}},Ba⟩:=z.core e (P3 (Zv d.c _) λ_ q=>q) (AZ _);have b:=AEw (im:=im) (now:=now) (o:=o) (AL:=(t.c.top.getD Af).AL) (l:=CJ t.c (A2 o.code)) D rfl w (λi H=>Wn (Um d.c _) oG) (λi H=>by rw[Cz,A9 oG];exact l _ (Kw (DF _)))
  show BL (A+2) (S+1) (Hr im now (CW t).2 o ⟨s,t,Ba⟩)/\BE (Hr im now (CW t).2 o ⟨s,t,Ba⟩).e;unfold Hr;dsimp only;generalize Br im now o _ _ _=r at b;obtain⟨K,_|y⟩:=r;exact⟨b.l.mono oG (AZ _),b.e⟩;let⟨p,h⟩:=b.st sP;exact⟨AJw (b.l.mono oG (AZ _)) (by have:K.t.status=0:=p;omega) (d.c.mono oG) (by have:=d.c.st;omega) _ _ (h _ rfl),Zw b.e (PQ _ _ _ _).2.1 (PQ _ _ _ _).2.2 (AV4 _ _ _ _) (PQ _ _ _ _).1⟩
def PP(l t):(Az l t).length=l.length:=by unfold Az;rw[C6]
def AG7(l t):(B5 l t).length<=l.length+1:=by unfold B5;split;rw[PP];omega;exact Nat.le_of_eq (ABa l t).length_eq
def AIv{l t x}(h:x∈B5 l t):x=t\/x∈l:=by unfold B5 at h;split at h;rcases Hf h with h|h;exact .inl h;exact .inr h.1;exact N2.1 h
theorem BK.put{a s}(h:BK A S a s){t}(d:BT A t):BK A S (Az a t) s:=⟨λx b=>by rcases Hf b with rfl|b;exact d;exact h.ts x b.1,h.os,by rw[PP];exact h.tl,h.sl⟩
def BK.fork{a s}(h:BK A S a s){t}(e:BT A t):BK (A+1) S (B5 a t) s:=⟨λx b=>by rcases AIv b with rfl|b;exact e.mono (B9 _);exact(h.ts x b).mono (B9 _),λn o d=>(h.os n o d).mono (B9 _),CB (AG7 _ _) (Na h.tl),h.sl⟩
def AOM{t}(h:BT A t){l}(b:l.length<=1/\∀v∈l,wv v):BT (A+1) (DC t l):=by refine⟨⟨h.c.fr,?_,JW h.c.tr,λv a=> ?_,h.c.vf⟩,(λq=>by cases q),JW h.sc,JW h.md,(h.mono (B9 _)).sm,h.rm,(λq=>absurd q (by show¬2<=0;decide)),(λq=>by cases q),λ_=>rfl⟩;show(t.c.stack++l).length<=A+1;rw[Bc];have:=h.c.st;omega;rcases BA.1 a with a|a;exact h.c.vs v a;exact b.2 v a
def AFW{t}(h:BT A t)(b:t.status=1){l}(d:l.length<=1/\∀v∈l,wv v):BT A (DC t l):=by have e:=h.wt b;refine⟨⟨h.c.fr,?_,h.c.tr,λv a=> ?_,h.c.vf⟩,(λq=>by cases q),h.sc,h.md,h.sm,h.rm,(λq=>absurd q (by show¬2<=0;decide)),(λq=>by cases q),λ_=>rfl⟩;show(t.c.stack++l).length<=A;rw[Bc];omega;rcases BA.1 a with a|a;exact h.c.vs v a;exact d.2 v a
def ACa{t s}(b:BT A t)(a:t.status=1)(f:∀n o,Ai s n=some o->BO A o)(g:s.length<=S){v}(h:wv v)(i:Bool):BL A S (EU t s v i):=by unfold EU;split;exact⟨AFW b a ⟨sP,λx d=>by rw[AP.1 d];exact h⟩,f,g⟩;have e:BL A S ⟨s,DC t [],Ba⟩:=⟨AFW b a ⟨sP,nA⟩,f,g⟩;exact AJw e (by show(0:Nat)≠1;decide) e.t.c (by show(t.c.stack++[]).length+1<=A;rw[G9];exact b.wt a) _ _ (ADc h)
def AGI:∀(n:Nat) {k:Ab} (e:Nm),BK A S k.AD k.Ar->BK A S (F4 n k e).AD (F4 n k e).Ar
 |0,_,_,h=>h
 |n+1,k,e,h=>by unfold F4;refine ME (P:=λk:Ab=>BK A S k.AD k.Ar) (λk x h=> ?_) _ h;split;exact h;rename_i t i;split;exact h;rename_i f;simp[OS,Pj]at f;split;exact h;rename_i o g;split;exact h;rename_i d;simp[OS,Pj,KD,Bool.not_eq_false]at d;have b:=ACa (h.ts t (Ed i)) f.1 h.os h.sl ((h.os _ _ g).v6 d.1 d.2) o.ex;have a:BK A S (Az k.AD (EU t k.Ar o.v o.ex).t) (EU t k.Ar o.v o.ex).s:=⟨(h.put b.t).ts,b.o,(h.put b.t).tl,b.s⟩;dsimp only;split;exact AGI n (k:={k with Ar:=(EU t k.Ar o.v o.ex).s,AD:=Az k.AD (EU t k.Ar o.v o.ex).t}) x a;exact a
def AL4{a s}(h:BK A S a s)(w)(d:w.2.length<=1/\∀v∈w.2,wv v):BK (A+1) S (G7 a w) s:=by unfold G7;split;rename_i t b;exact(h.mono (B9 _) (AZ _)).put (AOM (h.ts t (Ed b)) d);exact h.mono (B9 _) (AZ _)
def Mw{a:Type}{l:AA a}(h:l.length<=1):l=[]\/∃x,l=[x]:=by
 cases l with
 |nil=>exact .inl rfl
 |cons x l=>cases l with
  |nil=>exact .inr ⟨x,rfl⟩
  |cons y l=>simp at h
structure BF(N:Nat)(k:Ab):Prop where
 fl:k.facts.length<=N
 ll:k.BQ.length<=N
 fv:∀f∈k.facts,wv f.v/\Ap f.l=f.l/\Ap f.v.l=f.v.l/\BY f.id
 ln:∀x∈k.BQ,BY x.id
def AWg{k:Ab}{m M N}(n:Jc k.im)(G:20<=A)(h:BK A S k.AD k.Ar)(hF:BF N k)(E:KK m M k)(p):BK (A+4) (S+1) (runK k p).1.AD (runK k p).1.Ar/\BF (N+1) (runK k p).1:=by
 have g:BF (N+1) k:=⟨JW hF.fl,JW hF.ll,hF.fv,hF.ln⟩;unfold runK;split;exact⟨h.mono oG oG,g⟩;rename_i t o;have hid:=GD o;subst hid;dsimp only;split;exact⟨h.mono oG oG,g⟩;rename_i i;have i:t.status=0:=oG;have j:=E.ki.of o;let⟨l,b⟩:=AGG (im:=k.im) (now:=k.now) n (h.ts t (Ed o)) i h.os h.sl (λv F=>(j.EF.st v F).CC);generalize C8 k.im t k.Ar k.now=r at l b⊢;have w:BK (A+2) (S+1) (Az k.AD r.t) r.s:=⟨((h.mono (B:=A+2) oG (AZ _)).put l.t).ts,l.o,by rw[PP];have:=h.tl;omega,l.s⟩;have z:BK (A+3) (S+1) (r.e.fork.foldl B5 (Az k.AD r.t)) r.s:=by rcases Mw b.fk.1 with e|⟨u,e⟩;rw[e];exact w.mono oG (AZ _);have:=b.fk.2 u (by rw[e];exact DX);rw[e];exact w.fork (this.mono oG)
 have C:BK (A+4) (S+1) (r.e.woken.foldl G7 (r.e.fork.foldl B5 (Az k.AD r.t))) r.s:=by rcases Mw b.wk.1 with e|⟨u,e⟩;rw[e];exact z.mono oG (AZ _);have:=b.wk.2 u (by rw[e];exact DX);rw[e];exact AL4 z u this
 have D:BY t.id:=j.Fx t.id DX;have a:∀k':Ab,k'.facts=k.facts++r.e.out.map (λx:AV×Val=>(⟨k.now,t.id,x.1,x.2⟩:F0))->k'.BQ=k.BQ++r.e.log.map (λx:Gp=>(⟨k.now,t.id,x⟩:Lk))->BF (N+1) k':=λk' q s=>by refine⟨?_,?_,λf a=> ?_,λx d=> ?_⟩;rw[q,Bc,C6];have:=hF.fl;have:=b.ou.1;omega;rw[s,Bc,C6];have:=hF.ll;have:=b.lg;omega;rw[q]at a;rcases BA.1 a with a|a;exact hF.fv f a;let⟨x,d,e⟩:=BG.1 a;subst e;let⟨q1,q2,q3⟩:=b.ou.2 x d;exact⟨q1,q2,q3,D⟩;rw[s]at d;rcases BA.1 d with d|d;exact hF.ln x d;let⟨y,H,e⟩:=BG.1 d;subst e;exact D
 rw[Pf];split;refine⟨AGI _ _ C,a _ ?_ ?_⟩;rw[(QH _ _ _).2.1];rw[(QH _ _ _).1];exact⟨C,a _ rfl rfl⟩
def AOL{t}(h:BT A t){i}(e:i<t.scopes.length)(j:∀x∈t.scopes,BY x.name):BT A (Ha t i):=by
 have d:t.scopes.getD i Af=t.scopes[i]:=by rw[Cz,A9 e];rfl
 have f:=h.sm _ (DF e);have a:=ANn h.c (t.scopes[i]).AF (t.scopes[i]).CF (t.scopes[i]).tries;have g:BC A (Ce (Eo t.c (t.scopes[i]).AF (t.scopes[i]).CF (t.scopes[i]).tries) (hand 3 (t.scopes[i]).name (t.scopes[i]).l)):=by refine⟨a.fr,?_,a.tr,λv b=> ?_,a.vf⟩;show(t.c.stack.take _++[_]).length<=A;rw[Bc,CX];simp;omega;rcases BA.1 b with b|b;exact a.vs v b;rw[AP.1 b];exact Yg dC (j _ (DF e)) _
 unfold Ha;rw[d];exact⟨g,(λq=>by cases q),by show(t.scopes.take i).length<=A;rw[CX];have:=h.sc;omega,f.1,λx l=>h.sm x (Fl l),f.2.1,(λq=>absurd q (by show¬2<=0;decide)),(λq=>by cases q),λ_=>rfl⟩
def AG5{s}(h:∀n o,Ai s n=some o->BO A o)(on b):(∀n o,Ai (Gt s on b) n=some o->BO A o)/\(Gt s on b).length=s.length:=by unfold Gt;split;rename_i o d;split;rename_i g;split;rename_i x f;let⟨i,w,_,_,e⟩:=AIL f;have a:=h _ _ d;refine⟨Z8 h ?_,ABm _ _ _⟩;rw[e];exact⟨CB (AAs _ _) a.q,λq=>absurd q (by show¬(o.kind=3\/o.kind=4);omega),λq=>absurd q (by show¬o.kind=6;omega),a.vf,AAt (P:=λw=>w.put->wv w.v) a.vq i⟩;exact⟨h,rfl⟩;exact⟨h,rfl⟩;exact⟨h,rfl⟩
def ATA{k m M}(h:BK A S k.AD k.Ar)(o:KK m M k){t}(g:Aw k.AD t.id=some t){i}(n:i<t.scopes.length):BK A (S+1) (Jj k t i).AD (Jj k t i).Ar:=by
 have e:=o.ki.of g;have a:=h.ts t (Ed g);have p:=AOL a n λx s=>e.Fx _ (DW _ (BG.2 ⟨x,s,rfl⟩));have f:BO A (GR t i):=by refine⟨BS _,λ_=> ?_,λq=>absurd q (by show¬(3:Nat)=6;decide),λq=>(by cases q),λw r=>(by cases r)⟩;show wv (brought t i).1;unfold brought;split;exact Ie _ dC;rename_i d;simp[OS,Pj]at d;split;exact Ie _ dC;exact a.vv oG
 have b:=h.put p;unfold Jj;split;let⟨j,l⟩:=AG5 h.os t.on t.id;exact⟨b.ts,Tl j f,b.tl,CB (R6 _ _ _) (by rw[l];exact Na h.sl)⟩;exact⟨b.ts,Tl h.os f,b.tl,CB (R6 _ _ _) (Na h.sl)⟩
def ANu{k m M}(h:BK A S k.AD k.Ar)(e:KK m M k)(b):BK A (S+1) (GM k b).AD (GM k b).Ar:=by unfold GM;split;rename_i t a;have hid:=GD a;split;rename_i i d;exact ATA h e (by rw[hid];exact a) (AAk d);exact h.mono (AZ _) (B9 _);exact h.mono (AZ _) (B9 _)
def AA6{m M}:∀(l:AA Nm) {k:Ab} {S:Nat},BK A S k.AD k.Ar->KK m M k->BK A (S+l.length) (l.foldl GM k).AD (l.foldl GM k).Ar
 |[],_,_,h,_=>h
 |x::l,k,S,h,hk=>by have:=AA6 l (ANu h hk x) (Zx hk x);rw[EW,show S+(l.length+1)=S+1+l.length by omega];exact this
def AE5{k m M N}(h:BK A S k.AD k.Ar)(hF:BF N k)(d:KK m M k):BK A (S+A) (FF k).AD (FF k).Ar/\BF N (FF k):=by let⟨e,f,a,b⟩:=Tg k;refine⟨?_,by rw[a];exact hF.fl,by rw[b];exact hF.ll,by rw[a];exact hF.fv,by rw[b];exact hF.ln⟩;unfold FF;have:=AA6 (k.AD.map (·.id)) (k:={k with now:=k.now+1}) h ⟨d.ki,d.kq⟩;refine this.mono (AZ _) ?_;rw[C6];have:=h.tl;omega
end
section
variable {k:Call}
structure G2(g h:St):Prop where
 cur:fl g.cur h.cur
 Al:fl h.Al g.Al
def AGx{a b c}(h:fl a b)(k:fl b c):fl a c:=Hz.2 (le_trans (Hz.1 h) (Hz.1 k))
def G2.refl(g):G2 g g:=⟨Ov _,Ov _⟩
def G2.trans{a b c}(h:G2 a b)(k:G2 b c):G2 a c:=⟨AGx h.cur k.cur,AGx k.Al h.Al⟩
def LG(a:St)(b:AH)(k:Call):Prop:=
 (k.e.log=[]/\G2 a k.t.g)\/∃x,k.e.log=[x]/\x.AL=b/\(x.to=k.t.g.cur\/x.to=k.t.g.Al)/\(x.H0=a.cur\/x.H0=a.Al)/\(fl a.cur k.t.g.cur=false\/fl k.t.g.Al a.Al=false)
structure Up(g0:St)(k:Call):Prop where
 log:k.e.log=[]
 g:G2 g0 k.t.g
 fk:k.e.fork=[]
def FK(t:AJ)(k:Call):Prop:=k.e.fork=[]\/∃u,k.e.fork=[u]/\u.id=t.path++[t.made]
def ADK{a}(h:Up a k){g}(b:G2 k.t.g g):Up a (k.Bw g):=⟨h.log,h.g.trans b,h.fk⟩
def ALr{a}(h:Up a k){l f}(c:∀b,Up a b->Up a (f b).1):Up a (IC k l f).1:=by unfold IC;split;exact h;refine c _ (ADK h ?_);unfold EB;split;exact⟨Hz.2 (ASz _ _),Ov _⟩;exact G2.refl _
def ALq{a}(h:Up a k){l f}(c:∀b,Up a b->Up a (f b).1):Up a (Hu k l f).1:=by unfold Hu;split;exact h;rename_i d;refine c _ (ADK h ⟨?_,Ov _⟩);have:=(VI (by simpa using d)).1;show fl k.t.g.cur (Ap l);rw[QP];exact this
def AB7{t u n}(h:FN t=some (u,n)):u.g=t.g/\u.id=t.id/\u.c=t.c/\u.scopes=t.scopes/\u.status=t.status:=by rw[(LR h).1];exact⟨rfl,rfl,rfl,rfl,rfl⟩
def YR{a}(h:Up a k){o}:Up a (GU k o).1:=by unfold GU;split;exact h;split;exact h;rename_i t n b;exact⟨h.log,by show G2 a t.g;rw[(AB7 b).1];exact h.g,h.fk⟩
def YS{a}(h:Up a k){x f}(d:∀c o,Up a c->Up a (f c o).1):Up a (Fy k x f).1:=by refine ALr h λc b=> ?_;split;exact⟨b.log,b.g,b.fk⟩;exact d _ _ b
def ALs{a}(h:Up a k){o}:Up a (FP k o).1:=by unfold FP;split;exact h;exact⟨h.log,h.g,h.fk⟩
def WE{p n i}(h:child p i=some n):n=p++[i]:=by unfold child at h;split at h;cases h;rfl;cases h
def AEy{im now o AL l}(y:∀v∈l,Ap v.l=v.l)(p:k.e=Ba):LG k.t.g AL (Br im now o AL l k).1/\((Br im now o AL l k).2≠none->(Br im now o AL l k).1.e.log=[]/\G2 k.t.g (Br im now o AL l k).1.t.g)/\FK k.t (Br im now o AL l k).1:=by
 have h:Up k.t.g k:=⟨by rw[p];rfl,G2.refl _,by rw[p];rfl⟩;have fin:∀r:CR,Up k.t.g r.1->LG k.t.g AL r.1/\(r.2≠none->r.1.e.log=[]/\G2 k.t.g r.1.t.g)/\FK k.t r.1:=λr i=>⟨.inl ⟨i.log,i.g⟩,λ_=>⟨i.log,i.g⟩,.inl i.fk⟩;have w:Ap (l.getD 0 AO).l=(l.getD 0 AO).l:=by
  rw[Cz];cases e:l[0]? with
  |none=>exact Xd
  |some v=>exact y v (Cv e)
 unfold Br;dsimp only;split;exact fin _ ⟨h.log,h.g,h.fk⟩;exact fin _ ⟨h.log,h.g,h.fk⟩;split;exact fin _ h;exact fin _ (ALr h λd a=>a);split;exact fin _ h;split;exact fin _ h;rename_i b;refine fin _ (ADK h ?_);unfold Iw at b⊢;split;rename_i f;split;exact⟨Ov _,by show fl (Ap _) _;rw[Kc];exact f⟩;exact G2.refl _;exact G2.refl _;split;exact fin _ h;exact fin _ (YR h);split;exact fin _ h;exact fin _ (YS h λd o a=>ALs a);split;exact fin _ h;exact fin _ (YR h);split;exact fin _ h;exact fin _ (YS h λd o a=>⟨a.log,a.g,a.fk⟩);split;exact fin _ h;split;exact fin _ h;split;exact fin _ ⟨h.log,h.g,h.fk⟩;exact fin _ h;split;exact fin _ h;exact fin _ (YR h);split;exact fin _ h;refine fin _ (ALq h λd a=> ?_);split;exact⟨a.log,a.g,a.fk⟩;split;exact⟨a.log,a.g,a.fk⟩;unfold GW;split<;>exact⟨a.log,a.g,a.fk⟩;split;exact fin _ h;refine fin _ (ALq h λd a=> ?_);split;exact⟨a.log,a.g,a.fk⟩;split;exact⟨a.log,a.g,a.fk⟩;unfold GW;split<;>exact⟨a.log,a.g,a.fk⟩;split;exact fin _ h;split;exact fin _ h;split;exact fin _ h;split;exact fin _ h;rename_i t n j;have s:G2 k.t.g t.g:=by rw[(AB7 j).1];exact h.g
 refine⟨.inl ⟨h.log,s⟩,λ_=>⟨h.log,s⟩,.inr ⟨_,by show k.e.fork++[_]=_;rw[h.fk];rfl,?_⟩⟩;exact(WE (LR j).2.1);split;exact fin _ h;refine fin _ (YS h λd o a=> ?_);split;exact ALs a;exact⟨a.log,a.g,a.fk⟩;split;exact fin _ h;split;rename_i t c;refine fin _ ⟨h.log,?_,h.fk⟩;show G2 k.t.g t.g;unfold IP at c;split at c;cases c;split at c;cases c;split at c;cases c;rename_i b;split at c;cases c;rename_i u x j;split at c;cases c;split at c;cases c;cases c;have:=(VI (by simpa using b)).2;exact⟨by show fl _ u.g.cur;rw[(AB7 j).1];exact Ov _,by show fl (Ap _) _;rw[Kc];exact this⟩;exact fin _ h;split;exact fin _ h;split;exact fin _ h;exact fin _ ⟨h.log,h.g,h.fk⟩;split;exact fin _ h;split;exact fin _ h;rename_i b;refine⟨?_,λq=>(q rfl).elim,.inl (by dsimp only;split<;>exact h.fk)⟩;unfold LG;unfold Gs at b⊢;split at b;rename_i f;split at b;rename_i m;rw[AW f,AW m];dsimp only;cases g:fl k.t.g.cur (l.getD 0 AO).l with
 |true=>exact .inl ⟨h.log,⟨by show fl _ (Ap _);rw[QP];exact g,Ov _⟩⟩
 |false=>exact .inr ⟨⟨42,k.t.g.cur,(l.getD 0 AO).l,AL⟩,by show k.e.log++[_]=_;rw[h.log];rfl,rfl,.inl w.symm,.inl rfl,.inl (by show fl _ (Ap _)=false;rw[QP];exact g)⟩
 simp at b;simp at b;split;exact fin _ h;split;exact fin _ h;rename_i b;refine⟨?_,λq=>(q rfl).elim,.inl (by dsimp only;split<;>exact h.fk)⟩;unfold LG;unfold Gv at b⊢;split at b;rename_i f;split at b;rename_i m;rw[AW f,AW m];dsimp only;cases g:fl (l.getD 0 AO).l k.t.g.Al with
 |true=>exact .inl ⟨h.log,⟨Ov _,by show fl (Ap _) _;rw[Kc];exact g⟩⟩
 |false=>exact .inr ⟨⟨43,k.t.g.Al,(l.getD 0 AO).l,AL⟩,by show k.e.log++[_]=_;rw[h.log];rfl,rfl,.inr w.symm,.inr rfl,.inr (by show fl (Ap _) _=false;rw[Kc];exact g)⟩
 simp at b;simp at b;split;exact fin _ h;exact fin _ (YR h);split;exact fin _ h;refine fin _ (YS h λd o a=> ?_);split;exact⟨a.log,a.g,a.fk⟩;exact a;exact fin _ h
def AA1(k v)(a:Bool):(Ea k v a).t.g=k.t.g:=by unfold Ea;dsimp only;split<;>rfl
def AJy(k c)(b:Int)(a:Nat):(Ec k c b a).t.g=k.t.g:=by unfold Ec;split;exact AA1 _ _ _;rfl
def APd{im t s now}(d:t.status=0)(p:∀v∈t.c.stack,Ap v.l=v.l):((C8 im t s now).e.log=[]/\G2 t.g (C8 im t s now).t.g)\/∃f,t.c.top=some f/\LG t.g f.AL (C8 im t s now):=by
 unfold C8;rw[AN (by rw[d];decide)];dsimp only;cases n:(ET im t.c (CW t).1 (CW t).2).2 with
 |Ic=>exact .inl ⟨rfl,G2.refl _⟩
 |ended v=>exact .inl ⟨(Kb _ _ _).1,by rw[AA1];exact G2.refl _⟩
 |failed v=>exact .inl ⟨(Kb _ _ _).1,by rw[AA1];exact G2.refl _⟩
 |asked o=>
  let⟨m,q,_⟩:=YC n;have a:=AA4 m;obtain⟨f,j⟩:∃f,t.c.top=some f:=by
   cases e:t.c.top with
   |none=>unfold Ae.top at e;rw[Q8]at e;rw[e]at a;cases a
   |some f=>exact⟨f,rfl⟩
  dsimp only;unfold Hr;dsimp only;have l:∀v∈CJ t.c (A2 o.code),Ap v.l=v.l:=λv g=>p v (Kw g);have:=AEy (im:=im) (now:=now) (o:=o) (AL:=(t.c.top.getD Af).AL) (k:=⟨s,{t with c:=Da (Ev t.c (A2 o.code)) λf=>{f with pc:=f.pc+1}},Ba⟩) l rfl;have b:(t.c.top.getD Af).AL=f.AL:=by rw[j];rfl
  rw[b]at this⊢;generalize Br im now o _ _ _=r at this;obtain⟨u,_|h⟩:=r;exact .inr ⟨f,j,this.1⟩;left;have i:=this.2.1 sP;exact⟨by dsimp only;rw[(PQ _ _ _ _).1];exact i.1,by dsimp only;rw[AJy];exact i.2⟩
def AGH{im t s now}(a:t.status=0)(g:∀v∈t.c.stack,Ap v.l=v.l):FK t (C8 im t s now):=by
 unfold C8;rw[AN (by rw[a];decide)];dsimp only;cases h:(ET im t.c (CW t).1 (CW t).2).2 with
 |Ic=>exact .inl rfl
 |ended v=>exact .inl (Kb _ _ _).2.1
 |failed v=>exact .inl (Kb _ _ _).2.1
 |asked o=>
  dsimp only;unfold Hr;dsimp only;have e:∀v∈CJ t.c (A2 o.code),Ap v.l=v.l:=λv b=>g v (Kw b);have:=(AEy (im:=im) (now:=now) (o:=o) (AL:=(t.c.top.getD Af).AL) (k:=⟨s,{t with c:=Da (Ev t.c (A2 o.code)) λf=>{f with pc:=f.pc+1}},Ba⟩) e rfl).2.2;generalize Br im now o _ _ _=r at this;obtain⟨i,_|d⟩:=r;exact this;unfold FK;dsimp only;rw[(PQ _ _ _ _).2.1];exact this
def H2(l:AA AJ)(a:Nm):AK St:=(Aw l a).map (·.g)
def AHA{l u t id}(b:Aw l u.id=some t)(a:u.g=t.g):H2 (Az l u) id=H2 l id:=by unfold H2;rw[Qw];split;rename_i e;rw[e,b];simp[a];rfl
def AL5:∀(l:List (Nm×List Val))(a:List AJ)(b:Nm),H2 (l.foldl G7 a) b=H2 a b
 |[],_,_=>rfl
 |w::l,a,b=>by rw[List.foldl_cons,AL5 l];unfold G7;split;rename_i t c;have:=GD c;exact AHA (u:=DC t w.2) (t:=t) (by rw[show(DC t w.2).id=t.id from rfl,this];exact c) rfl;rfl
def AG6:∀(l:List AJ)(a:List AJ)(b:Nm),(∀u∈l,u.id≠b)->H2 (l.foldl B5 a) b=H2 a b
 |[],_,_,_=>rfl
 |u::l,a,b,h=>by rw[List.foldl_cons,AG6 l _ b λx c=>h x (List.mem_cons_of_mem _ c)];unfold H2;rw[AC7,if_neg λe=>h u List.mem_cons_self e.symm]
def AWM(t s v)(a:Bool):(EU t s v a).t.g=t.g:=by unfold EU;split;rfl;rw[AJy];rfl
def AV5(k c)(b:Int)(a:Nat):(Ec k c b a).t.id=k.t.id:=by unfold Ec;split;unfold Ea;dsimp only;split<;>rfl;rfl
def AWN(t s v)(a:Bool):(EU t s v a).t.id=t.id:=by unfold EU;split;rfl;rw[AV5];rfl
def AGJ:∀(n:Nat)(k:Ab)(d q:Nm),H2 (F4 n k d).AD q=H2 k.AD q
 |0,_,_,_=>rfl
 |n+1,k,d,q=>by
  unfold F4;refine ME (P:=λa:Ab=>H2 a.AD q=H2 k.AD q) (λa x h=> ?_) _ rfl;split;exact h;rename_i t c;split;exact h;split;exact h;rename_i o f;split;exact h;have b:H2 (Az a.AD (EU t a.Ar o.v o.ex).t) q=H2 a.AD q:=by refine AHA (t:=t) ?_ (AWM _ _ _ _);rw[AWN,GD c];exact c
  dsimp only;split;have this:=λe=>AGJ n e x q;rw[this];exact b.trans h;exact b.trans h
def AWl{m M k}(B:Ij k.im)(E:∀a b,M a->M (a&&&b))(h:KK m M k){l t}(j:Aw k.AD l=some t)(c:t.status=0)(z:∀x∈(C8 k.im t k.Ar k.now).e.log,JZ m x.AL):
 (runK k l).2/\∃u,Aw (runK k l).1.AD l=some u/\(((runK k l).1.BQ=k.BQ/\G2 t.g u.g)\/∃f x,t.c.top=some f/\(runK k l).1.BQ=k.BQ++[⟨k.now,l,x⟩]/\x.AL=f.AL/\(x.to=u.g.cur\/x.to=u.g.Al)/\(x.H0=t.g.cur\/x.H0=t.g.Al)/\(fl t.g.cur u.g.cur=false\/fl u.g.Al t.g.Al=false)):=by
 have hid:=GD j;subst hid;have A:=APd (im:=k.im) (s:=k.Ar) (now:=k.now) c λv C=>((h.ki.of j).EF.st v C).CC;have s:=WS B E (now:=k.now) h.ki j c z;have i:∀u∈(C8 k.im t k.Ar k.now).e.fork,u.id≠t.id:=λu n=>by intro e;have w:=Ed j;rcases AGH (im:=k.im) (s:=k.Ar) (now:=k.now) c (λv C=>((h.ki.of j).EF.st v C).CC)with y|⟨x,y,H⟩;rw[y]at n;cases n;rw[y]at n;rw[AP.1 n,H]at e;exact h.ki.EH t w (t.path,t.made) (by unfold Eh;rw[c];simp) t.made (AZ _) t.id (.inr ⟨t,w,DX⟩) (by rw[<-e];exact AD1 _)
 unfold runK;rw[j];dsimp only;rw[AN (by rw[c];decide)];generalize I:C8 k.im t k.Ar k.now=r at*;refine⟨rfl,?_⟩;have g:H2 (r.e.woken.foldl G7 (r.e.fork.foldl B5 (Az k.AD r.t))) t.id=some r.t.g:=by rw[AL5,AG6 _ _ _ i];unfold H2;rw[show t.id=r.t.id from s.id.symm,Sk (t:=t) (y:=t) (u:=r.t) j s.id];rfl
 rw[Pf];have d:∀o:Ab,H2 o.AD t.id=some r.t.g->o.BQ=k.BQ++r.e.log.map (λx:Gp=>(⟨k.now,t.id,x⟩:Lk))->∃u,Aw o.AD t.id=some u/\((o.BQ=k.BQ/\G2 t.g u.g)\/∃f x,t.c.top=some f/\o.BQ=k.BQ++[⟨k.now,t.id,x⟩]/\x.AL=f.AL/\(x.to=u.g.cur\/x.to=u.g.Al)/\(x.H0=t.g.cur\/x.H0=t.g.Al)/\(fl t.g.cur u.g.cur=false\/fl u.g.Al t.g.Al=false)):=λo D G=>by unfold H2 at D;let⟨u,n,e⟩:=KM.1 D;refine⟨u,n,?_⟩;rw[G,e];rcases A with⟨p,q⟩|⟨f,F,⟨p,q⟩|⟨x,p,q⟩⟩;left;rw[p];exact⟨sP,q⟩;left;rw[p];exact⟨sP,q⟩;right;exact⟨f,x,F,by rw[p];rfl,q⟩
 dsimp only;split;exact d _ (by rw[AGJ];exact g) (QH _ _ _).1;exact d _ g rfl
end
section
variable {m:AV} {M:UInt8->Prop} {AD:List AJ} {a:AJ} {k:Call} {s:Ao}
def AYD{x id}:(Gi x id).2.2=[]\/∃w∈x.q,w.id=(Gi x id).2.2:=by unfold Gi;split;exact .inl rfl;split;exact .inl rfl;rename_i i c;let⟨b,_⟩:=Ku.1 c;right;exact⟨x.q[i],DF b,by simp[Cz,b]⟩
def AVz{x id v}:(Hi x id v).2.2=[]\/∃w∈x.q,w.id=(Hi x id v).2.2:=by unfold Hi;split;exact .inl rfl;split;exact .inl rfl;rename_i i c;let⟨b,_⟩:=Ku.1 c;right;exact⟨x.q[i],DF b,by simp[Cz,b]⟩
end
section
variable {m:AV} {M:UInt8->Prop} {AD a:List AJ} {b:AJ} {k:Call} {s r:Ao}
end
section
variable {AD:List AJ} {k:Call} {A S:Nat}
def WN(AD:AA AJ)(k:Call)(r:CR):Prop:=r.1.e.woken=k.e.woken\/∃w t,r.1.e.woken=k.e.woken++[w]/\Aw AD w.1=some t
def AMV{l f}(a:∀g,WN AD k (f (k.Bw g))):WN AD k (IC k l f):=by unfold IC;split;exact .inl rfl;exact a _
def AMU{l f}(a:∀g,WN AD k (f (k.Bw g))):WN AD k (Hu k l f):=by unfold Hu;split;exact .inl rfl;exact a _
def Yb{o}:WN AD k (GU k o):=by unfold GU;split;exact .inl rfl;split<;>exact .inl rfl
def Yc{x f}(a:∀g o,WN AD k (f (k.Bw g) o)):WN AD k (Fy k x f):=by refine AMV λg=> ?_;split;exact .inl rfl;exact a _ _
def AMW{g o}:WN AD k (FP (k.Bw g) o):=by unfold FP;split<;>exact .inl rfl
def AMX{c a l x}(h:c.e.woken=k.e.woken)(hid:a=[]\/∃t,Aw AD a=some t):WN AD k (GW c a l,x):=by unfold GW;split;exact .inl h;rename_i b;rcases hid with q|⟨t,d⟩;exact(b q).elim;exact .inr ⟨(a,l),t,by show c.e.woken++_=_;rw[h],d⟩
def ANg{im now o AL l}(f:∀n o,Ai k.s n=some o->∀w∈o.var.q,∃t,Aw AD w.id=some t):WN AD k (Br im now o AL l k):=by
 unfold Br;dsimp only;split;exact .inl rfl;exact .inl rfl;split;exact .inl rfl;exact AMV λ_=>.inl rfl;split;exact .inl rfl;split<;>exact .inl rfl;split;exact .inl rfl;exact Yb;split;exact .inl rfl;exact Yc λ_ _=>AMW;split;exact .inl rfl;exact Yb;split;exact .inl rfl;exact Yc λ_ _=>.inl rfl;split;exact .inl rfl;split;exact .inl rfl;split<;>exact .inl rfl;split;exact .inl rfl;exact Yb;split;exact .inl rfl;refine AMU λg=> ?_;split;exact .inl rfl;rename_i b a;split;exact .inl rfl;refine AMX rfl ?_;rcases AYD (x:=b.var) (id:=k.t.id)with e|⟨w,d,e⟩;exact .inl e;let⟨t,c⟩:=f _ b (IE a).1 w d;exact .inr ⟨t,by rw[<-c,e];rfl⟩;split;exact .inl rfl;refine AMU λg=> ?_;split;exact .inl rfl;rename_i b a;split;exact .inl rfl;refine AMX rfl ?_;rcases AVz (x:=b.var) (id:=k.t.id) (v:=l.getD 1 AO)with e|⟨w,d,e⟩;exact .inl e;let⟨t,c⟩:=f _ b (IE a).1 w d;exact .inr ⟨t,by rw[<-c,e];rfl⟩;split;exact .inl rfl;split;exact .inl rfl;split;exact .inl rfl;split<;>exact .inl rfl;split;exact .inl rfl;refine Yc λ_ _=> ?_;split;exact AMW;exact .inl rfl;split;exact .inl rfl;split<;>exact .inl rfl;split;exact .inl rfl;split<;>exact .inl rfl;split;exact .inl rfl;split;exact .inl rfl;left;show(if _ then _ else k.e).woken=k.e.woken;split<;>rfl;split;exact .inl rfl;split;exact .inl rfl;left;show(if _ then _ else k.e).woken=k.e.woken;split<;>rfl;split;exact .inl rfl;exact Yb;split;exact .inl rfl;refine Yc λg _=> ?_;split<;>exact .inl rfl;exact .inl rfl
def APe{im t s now}(i:∀n o,Ai s n=some o->∀w∈o.var.q,∃t,Aw AD w.id=some t):∀w∈(C8 im t s now).e.woken,∃t',Aw AD w.1=some t':=by
 unfold C8;split;intro w a;cases a;dsimp only;split;intro w a;cases a;intro w a;rw[(Kb _ _ _).2.2]at a;cases a;intro w a;rw[(Kb _ _ _).2.2]at a;cases a;rename_i o p;show∀w∈(Hr im now (CW t).2 o ⟨s,t,Ba⟩).e.woken,∃t',Aw AD w.1=some t';unfold Hr;dsimp only;have h:=ANg (AD:=AD) (im:=im) (now:=now) (o:=o) (AL:=(t.c.top.getD Af).AL) (l:=CJ t.c (A2 o.code)) (k:=⟨s,{t with c:=Da (Ev t.c (A2 o.code)) λf=>{f with pc:=f.pc+1}},Ba⟩) i;have g:∀e:Eff,(e.woken=Ba.woken\/∃w t,e.woken=Ba.woken++[w]/\Aw AD w.1=some t)->∀w∈e.woken,∃t',Aw AD w.1=some t':=λe d w a=>by
  rcases d with d|⟨m,t',d,j⟩;rw[d]at a;cases a;rw[d]at a;have:w=m:=by simpa[Ba]using a
  exact⟨t',by rw[this];exact j⟩
 generalize Br im now o _ _ _=r at h;obtain⟨l,_|b⟩:=r;exact g _ h;show∀w∈(Ec l _ b _).e.woken,_;rw[(PQ _ _ _ _).2.2];exact g _ h
def AL7:∀(l:List (Nm×List Val))(AD:List AJ),(l.foldl G7 AD).map (·.id)=AD.map (·.id)
 |[],_=>rfl
 |w::l,AD=>by rw[List.foldl_cons,AL7 l];unfold G7;split;unfold Az;rw[List.map_map];apply List.map_congr_left;intro x _;show(if x.id==_ then _ else x).id=x.id;split;rename_i e;exact(eq_of_beq e).symm;rfl;rfl
def IT(k:Ab)(a:Nm)(r:Call):Ab:={k with Ar:=r.s,AD:=r.e.woken.foldl G7 (r.e.fork.foldl B5 (Az k.AD r.t)),facts:=k.facts++r.e.out.map λx:AV×Val=>(⟨k.now,a,x.1,x.2⟩:F0),BQ:=k.BQ++r.e.log.map λx:Gp=>(⟨k.now,a,x⟩:Lk)}
def run_eq{k a t}(c:Aw k.AD a=some t)(b:t.status=0):runK k a=(if(C8 k.im t k.Ar k.now).e.done then F4 ((IT k a (C8 k.im t k.Ar k.now)).AD.length+1) (IT k a (C8 k.im t k.Ar k.now)) a else IT k a (C8 k.im t k.Ar k.now),true):=by unfold runK;rw[c];dsimp only;rw[AN oG,Pf];rfl
def AUG{k m M}(d:Ij k.im)(f:∀a b,M a->M (a&&&b))(h:KK m M k){t}(g:Aw k.AD t.id=some t)(e:t.status=0)(c:∀x∈(C8 k.im t k.Ar k.now).e.log,JZ m x.AL):KK m M (IT k t.id (C8 k.im t k.Ar k.now)):=
 ⟨(WS d f (now:=k.now) h.ki g e c).ki,AH4 (im:=k.im) (t:=t) (now:=k.now) h.kq⟩
def AUF{k m M}(c:Jc k.im)(o:20<=A)(h:BK A S k.AD k.Ar)(l:KK m M k){t}(j:Aw k.AD t.id=some t)(d:t.status=0):
 BL (A+2) (S+1) (C8 k.im t k.Ar k.now)/\BE (C8 k.im t k.Ar k.now).e/\BK (A+4) (S+1) (IT k t.id (C8 k.im t k.Ar k.now)).AD (IT k t.id (C8 k.im t k.Ar k.now)).Ar:=by
 have f:=l.ki.of j;let⟨b,a⟩:=AGG (im:=k.im) (now:=k.now) c (h.ts t (Ed j)) d h.os h.sl (λv n=>(f.EF.st v n).CC);refine⟨b,a,?_⟩;generalize C8 k.im t k.Ar k.now=r at b a⊢;have g:BK (A+2) (S+1) (Az k.AD r.t) r.s:=⟨((h.mono (B:=A+2) oG (AZ _)).put b.t).ts,b.o,by rw[PP];have:=h.tl;omega,b.s⟩;have i:BK (A+3) (S+1) (r.e.fork.foldl B5 (Az k.AD r.t)) r.s:=by rcases Mw a.fk.1 with e|⟨u,e⟩;rw[e];exact g.mono oG (AZ _);have:=a.fk.2 u (by rw[e];exact DX);rw[e];exact g.fork (this.mono oG)
 show BK (A+4) (S+1) (r.e.woken.foldl G7 (r.e.fork.foldl B5 (Az k.AD r.t))) r.s;rcases Mw a.wk.1 with e|⟨u,e⟩;rw[e];exact i.mono oG (AZ _);have:=a.wk.2 u (by rw[e];exact DX);rw[e];exact AL4 i u this
end
end Lz
