/- Part 9 of the proof of TopHidden. No conditions. -/
import Derived.Test.YtomehhepbeiinaaGreatDoorZ08
set_option maxRecDepth 100000
set_option maxHeartbeats 4000000
set_option linter.all false
open Go renaming run_underlying->rU
open Go.Result renaming andThen_ok->aK,andThen->aT
open Go.Builtin renaming zeroCells->zC
open Go.Sem renaming run_bind->rB
open Nat renaming beq->bQ
open List renaming replicate->lP,range->lR
open List renaming length->lN
open Option renaming some->sM,none->nO
open Bool renaming true->tT,false->fF
open Go.Value renaming string->vS,bool->vB
open Go.IntKind renaming i64->iK
namespace Go.Proofs.YtomehhepbeiinaaGreatDoor
open Tryz
section
open Go.AX Lz
def AFv:prog.underlying 104=sM (.map 9 53):=kR
def NQ(s:Tm)(n:Nm)(t:AL):Tm:=match Aed s n with
 |none=>s++[(n,t)]
 |some _=>s.map<|Ml n t
structure CH where
 ip:Dw
 es:Ae Ar
 n:Nat
 Bu:Bi
 DD:Bi
 lk:Bi
 sm:Sm
def CH.row(k:CH)(b:A6)(a:Nat):AA SV:=Fa b k.ip++[.v<|nV a,.m 2,k.Bu.sv,.p 3 0,k.DD.sv,k.lk.sv]
abbrev CL(k:CH)(b:A6)(a:Nat):AA (Nat×AK):=[(1,.cells (k.row b a) 107),(2,.Aq<|.map k.es k.n),(3,.cells [.m 4,.m 5] 178),(4,.Aq<|.map k.sm.es k.sm.n),(5,.Aq<|.map k.sm.ns k.sm.m)]
def AKD{k c a key nb}:∀b∈CL k c a,b.1∈[1,2,3,4,5]/\∀x∈b.2.A3,x∈[1,2,3,4,5]\/(CX key nb x).isSome:=by simp_all[CH.row,Fa,Bi.sv,AK.A3,DF,SV.A3]
def APY(I:AB)(k:CH)(c:A6)(b:Nat)(e:Tm):zP:=λ_ h=>∃(a:Ae Ar)(d:Nat),D6 I e a/\h= {r:=.t [],AV:=CL {k with es:=a,n:=d} c b,J:=I}
def SJ(I k d b s t a)(g:BV t.id)(l:DZ I t a)(h:D6 I s k.es):Fn 47 [.p 1 0,.g<|Dr t a] (CL k d b) I (APY I k d b<|NQ s t.id t) nO:=by
 have m:=h.find g;refine fo func47 λp key w o=> ?_;rw[NQ];refine gG ?_;cases f:Aed s t.id with
 |none=>
  have c:=m.1 f;exact Qv (t:=104) (km:=2) (m0:=k.n) (m1:=k.n+1) (es:=k.es) (es':=k.es.push {key:=vS<|Aa t.id,val:=.agg (EZ t a).toArray,born:=k.n}) (m:=.tmp 7) (k:=.tmp 9) (x:=.tmp 10) (kv:=vS<|Aa t.id) (v:=.agg (EZ t a).toArray) (sk:=.v<|sV t.id) (sx:=.g<|Dr t a) (I':=I) kR kR kR (λ_=>rfl) kR (λp=>by rfl) (λw r e=>Wn (kv:=vS<|Aa t.id) (v:=.agg (EZ t a).toArray) AFv Di trivial c w r e) kR<|gG<|dn [] ⟨_,_,h.add f g l k.n,rfl⟩ (h:={r:=.t [],AV:=CL {k with es:=k.es.push {key:=vS<|Aa t.id,val:=.agg (EZ t a).toArray,born:=k.n},n:=k.n+1} d b,J:=I})
 |some u=>
  let⟨j,x,q,v,i⟩:=m.2 u f;exact Qv (t:=104) (km:=2) (m0:=k.n) (m1:=k.n) (es:=k.es) (es':=k.es.modify j<|AE7 EZ t.id t a) (m:=.tmp 7) (k:=.tmp 9) (x:=.tmp 10) (kv:=vS<|Aa t.id) (v:=.agg (EZ t a).toArray) (sk:=.v<|sV t.id) (sx:=.g<|Dr t a) (I':=I) kR kR kR (λ_=>rfl) kR (λp=>by rfl) (λw r e=>ALP (kv:=vS<|Aa t.id) (v:=.agg (EZ t a).toArray) AFv Di trivial q i w r e) kR<|gG<|dn [] ⟨_,_,h.put (λ_ _ z=>z) g l i,rfl⟩ (h:={r:=.t [],AV:=CL {k with es:=k.es.modify j<|AE7 EZ t.id t a} d b,J:=I})
abbrev RB:AA (Nat×Nat):=[(1,3),(2,4),(3,5)]
def APb(I:AB)(k:CH)(d:A6)(b:Nat)(e:Az):zP:=λ_ h=>∃(a:Ae Ar)(c:Nat)(J:AB),I.le J/\C9 J e a c/\h= {r:=.t [],AV:=CL {k with sm:=⟨a,c,k.sm.ns,k.sm.m⟩} d b,J:=J}
def AUW(I)(k)(im)(AD)(s)(on id)(u:BV on)(hi:BV id)(p: ∀n o,Am s n=some o->∀y∈o.var.q,BV y.id)(m: ∀n o,Am s n=some o->o.var.q.length<=900000)(h:C9 I s k.sm.es k.sm.n):Fn 99 [.p 1 0,.v (.string (Aa on)),.v (.string (Aa id))] (CL k im AD) I (APb I k im AD (Gy s on id)) none:=by
 have d:=WJ I s k.sm.es k.sm.ns k.sm.n k.sm.m on u (λo z=>Nat.le_trans (m _ o z) dC) h;rw[Qc]at d;refine fo Tryz.func99 λρ key w t=> ?_;rw[Gy];refine gG<|A0 d RB λy hh=> ?_;obtain⟨q,J,rfl,hle,e⟩:=hh;cases hgo:Am s on with
 |none=>
  simp[hgo]at e⊢;exact gG<|dn [] ⟨k.sm.es,k.sm.n,J,hle,h.up hle,rfl⟩
 |some o=>
  simp[hgo]at e⊢;by_cases hk:o.kind=5;rw[if_pos hk];refine gg [(24,EN (o.kind:Int) 5)] ?_;have b:=AXD J o.var q id hi (p _ _ hgo) (m _ _ hgo) e;cases f:KV o.var id with
  |none=>
   rw[f]at b;simp[Option.getD_none,Option.isSome_none]at b⊢;exact Cz b λq2 l a i=>gG<|dn [] ⟨k.sm.es,k.sm.n,l,hle.trans a,h.up (hle.trans a),rfl⟩
  |some x=>
   rw[f]at b;simp[Option.getD_some,Option.isSome_some]at b⊢;have r:x.q.length<=1000000:=by have h1:=m _ _ hgo;rw[KV]at f;split at f;cases f;cases f;simp only;have:=List.length_eraseIdx_le o.var.q (by assumption);omega
   refine Cz b λq2 l a i=>gG ?_;have c:=hle.trans a;refine A0 (ANS l s k.sm.es k.sm.ns k.sm.n k.sm.m on {o with var:=x} q2 u r i (h.up c)) RB λy hh=> ?_;obtain⟨es',A,v,g,j,rfl⟩:=hh;exact gG<|dn [] ⟨es',A,v,c.trans g,j,rfl⟩
  rw[if_neg hk];exact gg [(24,Fs (o.kind:Int) 5)]<|dn [] ⟨k.sm.es,k.sm.n,J,hle,h.up hle,rfl⟩
def D6.Bf{I J}(hle:I.Da J){s es}(h:D6 I s es):D6 J s es:=h.mono λ_ _ z=>DZ.Bf hle z
def El.forget{I s L a ck}(h:El I s L a ck)(on b):El I (Gy s on b) L a ck:=by rw[Gy];split;split;split;exact h.set _ _;exact h;exact h;exact h
def YC(I:AB)(L:AA Rw)(k:CH)(g:A6)(c:Nat)(f:Tm)(e:Az):zP:=λ_ h=>∃(b:Ae Ar)(i:Nat)(a:Sm)(d:AA Rw)(J:AB),Dd I L J d/\D6 J f b/\C9 J e a.es a.n/\El J e d a.ns a.m/\h= {r:=.t [],AV:=CL {k with es:=b,n:=i,sm:=a} g c,J:=J}
structure AGm(I:AB)(T:Tm)(s s1:Az)(L:AA Rw)(k:CH)(t:AL)(a:DV)(i:Nat):Prop where
 pow:Pow I
 AC:DZ I t a
 id:BV t.id
 sc:i<lN t.AI
 scl:lN t.AI<=900000
 N3:lN t.c.stack<=900000
 g:B9 t.g.Ad
 gs:∀s∈t.AI,B9 s.l
 ok:Ew s1 (t.AI.getD i Al).name (GF t i)
 ol:B9 (GF t i).l
 len:lN s1<=900000
 tm:D6 I T k.es
 B0:C9 I s k.sm.es k.sm.n
 Dl:El I s L k.sm.ns k.sm.m
def AWf(I T s L k r e t a i)(E:t.Aw≠1)(D:AGm I T s s L k t a i):
 Fn 40 [.p 1 0,.g<|Dr t a,.v<|iV i] (CL k r e) I (YC I L k r e (NQ T t.id<|GH t i)<|Cy s (t.AI.getD i Al).name<|GF t i) nO:=by
 refine fo func40 λF B w u=>gg [(11,hN (t.Aw:Int) 1)]<|Cz (AKh I t a i D.sc D.scl D.N3 D.g D.gs D.AC) λz J hle A=>gG<|A0 (YO J (Pow.Bf hle.EA D.pow) s k.sm.es k.sm.ns k.sm.n k.sm.m L (t.AI.getD i Al).name (GF t i) HY D.ok D.ol (by show(0:Nat)<=_;omega) NY (D.B0.up hle) (D.Dl.up hle) D.len) RB λy o=> ?_;obtain⟨f,l,x,v,L',m,b,h,g,c,d,rfl⟩:=o;have q:Dd I L m L':=Dd.trans (L':=L) (.of hle) ⟨b,c,d⟩;refine gG<|A0 (SJ m {k with sm:=⟨f,x,l,v⟩} r e T (GH t i) z D.id (DZ.Bf b A)<|D6.Bf (hle.EA.trans b) D.tm) [] λy o=> ?_;obtain⟨n,C,j,rfl⟩:=o;exact gG<|dn [] ⟨n,C,⟨f,x,l,v⟩,L',m,q,j,h,g,rfl⟩
def AWg(I T s L k x c t a i)(X:t.Aw=1)(F:BV t.on)(G:∀n o,Am s n=sM o->∀y∈o.var.q,BV y.id)(R:∀n o,Am s n=sM o->lN o.var.q<=900000)(D:AGm I T s (Gy s t.on t.id) L k t a i):
 Fn 40 [.p 1 0,.g<|Dr t a,.v<|iV i] (CL k x c) I (YC I L k x c (NQ T t.id<|GH t i)<|Cy (Gy s t.on t.id) (t.AI.getD i Al).name<|GF t i) nO:=by
 have m:=D.Dl.forget t.on t.id;refine fo func40 λY S w K=>gg [(11,hE (t.Aw:Int) 1)]<|A0 (AUW I k x c s t.on t.id F D.id G R D.B0) [] λy l=> ?_;obtain⟨A,U,O,d,f,rfl⟩:=l;have q:=D.ok;have hlen:=D.len;generalize Gy s t.on t.id=W at q hlen m f⊢;refine gG<|Cz (AKh O t a i D.sc D.scl D.N3 D.g D.gs<|D.AC.up d) λP J e Q=> ?_;have hle:=d.trans e;refine gG<|A0 (YO J (Pow.Bf hle.EA D.pow) W A k.sm.ns U k.sm.m L (t.AI.getD i Al).name (GF t i) HY q D.ol (by show(0:Nat)<=_;omega) NY (f.up e) (m.up hle) hlen) RB λy l=> ?_;obtain⟨j,v,N,M,L',z,b,r,p,g,h,rfl⟩:=l;have H:Dd I L z L':=Dd.trans (L':=L) (.of hle) ⟨b,g,h⟩;refine gG<|A0 (SJ z {k with sm:=⟨j,N,v,M⟩} x c T (GH t i) P D.id (DZ.Bf b Q)<|D6.Bf (hle.EA.trans b) D.tm) [] λy l=> ?_;obtain⟨B,V,u,rfl⟩:=l;exact gG<|dn [] ⟨B,V,⟨j,N,v,M⟩,L',z,H,u,r,p,rfl⟩
abbrev AEB(k:CH)(b:A6)(a:Nat):AA (Nat×AK):=[(1,.cells (k.row b a) 107),(2,.Aq<|.map k.es k.n),(3,.cells [.m 4,.m 5] 178),(4,.Aq<|.map k.sm.es k.sm.n),(5,.Aq<|.map k.sm.ns k.sm.m),(6,.cells [.p 1 0] 27)]
def AG1(I:AB)(L:AA Rw)(k:CH)(g:A6)(c:Nat)(f:Tm)(e:Az):zP:=λ_ h=>∃(b:Ae Ar)(i:Nat)(a:Sm)(d:AA Rw)(J:AB),Dd I L J d/\D6 J f b/\C9 J e a.es a.n/\El J e d a.ns a.m/\h= {r:=.t [],AV:=AEB {k with es:=b,n:=i,sm:=a} g c,J:=J}
def AQo(I T s L)(k:CH)(f b)(t:AL)(d)(hid:BV d)(m:Aed T d=sM t)(l:IU t b=nO)(n:lN t.AI<=1000000)(hT:D6 I T k.es)(h:C9 I s k.sm.es k.sm.n)(hN:El I s L k.sm.ns k.sm.m):
 Fn 38 [.v<|sV d,.p 6 0] (AEB k f b) I (AG1 I L k f b T s) nO:=by
 let⟨j,a,g,i,_⟩:=(hT.find hid).2 t m;have c:=AIw I t a b n i;rw[l]at c;exact fo func38 λp o w e=>gg [(10,hLk Aek I fF 8 9 2 k.n g)]<|call c<|gG<|dn [] ⟨k.es,k.n,k.sm,L,I,.refl _ _,hT,h,hN,rfl⟩
def AQp(I T q u L)(k:CH)(e b)(t:AL)(o i)(hid:BV o)(A:Aed T o=sM t)(z:IU t b=sM i)(C:lN t.AI<=1000000)(g:D6 I T k.es)
 (h:∀a,DZ I t a->Fn 40 [.p 1 0,.g<|Dr t a,.v<|iV i] (CL k e b) I (YC I L k e b q u) nO):
 Fn 38 [.v<|sV o,.p 6 0] (AEB k e b) I (AG1 I L k e b q u) nO:=by
 let⟨j,a,x,r,_⟩:=(g.find hid).2 t A;have c:=AIw I t a b C r;rw[z]at c;refine fo func38 λG E w s=>gg [(10,hLk Aek I fF 8 9 2 k.n x)]<|call c<|gg [(18,hT<|(i:Int)≥0)]<|A0 (h a r) [] λy B=> ?_;obtain⟨f,F,p,v,J,D,n,m,l,rfl⟩:=B;exact gG<|dn [] ⟨f,F,p,v,J,D,n,m,l,rfl⟩
def APZ(I:AB)(k:CH)(c:A6)(b:Nat)(e:Tm):zP:=λ_ h=>∃(a:Ae Ar)(d:Nat)(J:AB),I.le J/\D6 J e a/\h= {r:=.t [],AV:=CL {k with es:=a,n:=d} c b,J:=J}
def AWq(I k q c T t p b d e u)(hid:BV p)(m:BV t.id)(A:Aed T p=sM t)(i:lN t.c.stack<=1000000)(o:lN b<=1000000)(C:F3 I b d e u)(h:D6 I T k.es):
 Fn 55 [.p 1 0,.g [.v<|sV p,.v<|.slice d (lN b) e]] (CL k q c) I (APZ I k q c<|NQ T t.id<|DX t b) nO:=by
 let⟨j,a,z,r,_⟩:=(h.find hid).2 t A;have D:Fn 108 [.g<|Dr t a,.v<|.slice d (lN b) e] [] I (QJ I<|DX t b) nO:=by
  cases b with
  |nil=>exact AOf I t a d e r
  |cons x l=>exact Ad6 I t a (x::l) d e u sP o i C r
 refine fo func55 λG E w s=>gg [(13,hLk Aek I tT 10 12 2 k.n z)]<|Cz D λv J hle g=>gG<|A0 (SJ J k q c T (DX t b) v m g<|D6.Bf hle.EA h) [] λy B=> ?_;obtain⟨f,F,n,rfl⟩:=B;exact gG<|dn [] ⟨f,F,J,hle,n,rfl⟩
structure Cb(I:AB)(P:AA Nat)(J:AB)(a:AA Nat):Prop where
 le:I.Da J
 A2:∀x y,I.B8 x y->x∉P->J.B8 x y
 CE:∀x∈a,x∈P\/∀y,¬I.B8 x y
def Cb.of{I J P}(h:I.le J):Cb I P J P:=⟨h.EA,λx y a _=>h.Ak x y a,λ_ a=>.inl a⟩
theorem Cb.refl(I P):Cb I P I P:=.of<|AB.le_refl I
def Cb.trans{I J K P c a}(h:Cb I P J c)(k:Cb J c K a):Cb I P K a where
 le:=h.le.trans k.le
 A2 x y hx hne:=k.A2 x y (h.A2 x y hx hne) λd=>by rcases h.CE x d with h0|b;exact hne h0;exact b y hx
 CE x hx:=by rcases k.CE x hx with h0|b;exact h.CE x h0;by_cases hex:x∈P;exact .inl hex;exact .inr λy e=>b y<|h.A2 x y e hex
theorem Cb.cast{I J P a Q b}(h:Cb I P J a)(e:P=Q)(c:a=b):Cb I Q J b:=by grind
def Dd.toP{I J L L'}(h:Dd I L J L')(E):Cb I (L.map (·.b)++E) J (L'.map (·.b)++E) where
 le:=h.le
 A2 x y a hne:=h.A2 x y a gR
 CE x a:=by
  rcases Bc.1 a with a|a;let⟨r,b,e⟩:=BI.1 a;rcases h.CE r b with⟨r0,h0,c⟩|hn
  grind
  grind
  grind
structure C8(I:AB)(size:Nat)(e:BN)(As:AA AF)(s:Bi):Prop where
 n:lN As=s.n*size
 one:∀v∈As,v.oneCell'
 at_:(s.n=0/\s.a=nO/\s.c=0)\/∃b AE,s.a=sM ⟨b,0,nO⟩/\I.B8 b (.cells (As++AE).toArray e (0,0))/\lN As+lN AE=s.c*size/\s.n<=s.c/\s.c<=maxLen
def AGg(I:AB)(a:AU Au)(g:Nat)(e:BN)(n:Nat)(f:AA AF):Ab->Prop:=λh=>
 ∃b c d,h= {r:=.v<|.slice (aP b) n c,J:=I.plus b<|.cells (f++d).toArray e (0,0)}/\lN f+lN d=c*g/\n<=c/\c<=maxLen/\I b=nO/\(Bb a=sM b\/I.free b)
def JH{I a f e n j g d}:∀h,AGg I a f e n g h->h.wf I j d []:=by rintro h ⟨b,c,l,rfl,_⟩;exact⟨nA,nA,nA,sP,λ_ _ h=>h,sP⟩
def JI{P L}(hL:Ed P L){o tm Z M I t e v x s m CQ news}(hT:Gq P L t e v)(J:O9 tm o.op=sM (t,.v<|.slice s.a s.n s.c,x))
 (S:C8 I v e CQ s) (T:Reads I M x v m news) (hm:0<m) (hB:s.n+m<=16777216):HS P o tm Z M I (AGg I s.a v e (s.n+m)<|CQ++news) nO:=by
 let⟨sa,n,f⟩:=s;let⟨r,aj,y⟩:=S;simp only at J r aj y hB⊢;refine⟨?_⟩;intro ρ ac w he hN V aq ao ar ax next Q hnext _;let⟨⟨z0,ak⟩,⟨ze,ke,af,an⟩,K⟩:=hT;let⟨i,d,z,hi,hd,hz,ag,ay,hzero⟩:=Dg<|hL.get ak;let⟨l,de,H,D,ap,Y,au,C,F⟩:=Dg<|hL.get af;have ae:=KE ag;subst ae;simp only at C;subst C;unfold Yc at K;rw[D]at K;simp only[Bool.and_eq_true]at K;have fits:(n+m)*l.bytes<=140737488355328:=by have:=Nat.mul_le_mul hB<|Nat.le_of_ble_eq_true K.1;omega
 have cm:∀w:World,grownCap w (n+m) f e<=maxLen:=λw=>grownCap_le_maxLen w (n+m) f e (by unfold maxLen;omega);have e2:H.cells.size=l.size:=by rwa[<-Array.length_toList,<-F]
 have hlen:lN (CQ++news)=(n+m)*l.size:=by rw[List.length_append,r,T.len,Nat.add_mul]
 have Bz:∀(G:World)(g q:Nat)(p:List Value),n+m<=g->g<=maxLen->lN p=(g-(n+m))*l.size->G.os=w.os->G.tape=w.tape->G.output=w.output->w.heap.size<=G.heap.size->(∀b,b<w.heap.size->b≠q->G.heap[b]? =w.heap[b]?)->
  G.heap[q]? =sM (.cells ((CQ++news)++p).toArray e (0,0))->I q=nO->((I.Ak q).isSome\/w.heap.size<=q)->(Bb sa=sM q\/I.free q)->(Builtin.append_ #[t,t] o.type #[AO ρ<|.v<|.slice sa n f,AO ρ x]).run P w=.ok (.slice (aP q) (n+m) g) G->o.wp P ac w next Q:=by
  intro G g q p h1 h2 hj U e2 e3 e4 R hq y hnew E X;unfold Oper.wp;rw[Vg (P:=P) J he X,Oper.upon_value];have hA:=Vd (ρ:=ρ) (key:=Z) (r:=.v<|.slice (aP q) (n+m) g) V U e2 e3 e4 hq y hnew R;refine hnext rfl _ G (λ_=>0) ⟨q,g,p,rfl,?_,h1,h2,y,E⟩ hA;rw[hlen,hj,<-Nat.add_mul];congr 1;omega
 rcases T.at_ ρ w hN V with⟨c,U,rfl⟩|⟨ad,c,U,h⟩;omega;rcases y with⟨rfl,rfl,rfl⟩|⟨b,a,rfl,B,am,aw,ab⟩;have ai:CQ=[]:=List.eq_nil_of_length_eq_zero (by rw[r];simp);subst ai;have S:=run_append_nil (P:=P) w t o.type e l H hd D Y ad m c news T.len h oG oG (by have:=fits;rw[Nat.zero_add]at this;omega);have A:=PU V<|Nat.le_refl w.heap.size;refine Bz (w.drew.alloc<|.cells (([]:List Value).toArray++news.toArray++zC H.cells (grownCap w m 0 e-m)) e) (grownCap w m 0 e) w.heap.size (zC H.cells<|grownCap w m 0 e-m).toList (by grind[grownCap_ge]) (by grind) (by grind[size_zeroCells]) rfl rfl rfl ?_ (λb K _=>heap_alloc_old w.drew _ K) ?_ A.1 (.inr<|Nat.le_refl _) (.inr A) ?_;simp;have:=SY w.drew<|.cells (([]:List Value).toArray++news.toArray++zC H.cells (grownCap w m 0 e-m)) e;refine Eq.trans this ?_;simp;rw[U];simp only[AO];simpa using S;have N:=V.2 b _ B.Ak;have av:=Eg N;have O:∀j u,CQ[j]? =sM u->w.cell? ((⟨b,0,nO⟩:Addr).add j)=sM u:=by have:=Te (off:=0) (n:=n*l.size) N;simp only[List.drop_zero]at this;rw[List.take_append_of_le_length oG,List.take_of_length_le oG]at this;exact this
 have al:lN (CQ++a)=f*l.size:=by rwa[List.length_append]
 by_cases k:n+m<=f;have W:n*l.size+lN news<=(CQ++a).toArray.size:=by have:=Nat.mul_le_mul_right l.size k;rw[T.len];simp only[List.size_toArray,al];rw[Nat.add_mul]at this;exact this
 have S:=run_append_room (P:=P) w t o.type e l hd D b n f (CQ++a).toArray N ad m c news T.len h T.one k W;refine Bz (w.setRow b ((CQ++a).toArray.toList.take (n*l.size)++news++(CQ++a).toArray.toList.drop (n*l.size+lN news)).toArray) f b ((CQ++a).drop<|n*l.size+lN news) k ab ?_ rfl rfl rfl (by simp) (λb' _ ah=>Ir λq=>ah q.symm) ?_ B.at_ (.inl<|by rw[B.Ak];rfl) (.inl rfl) (by rwa[U])
 grind[Nat.sub_mul]
 grind[Lm]
 have A:=PU V<|Nat.le_refl w.heap.size;refine Bz (w.drew.alloc<|.cells (CQ.toArray++news.toArray++zC H.cells (grownCap w (n+m) f e-(n+m))) e) (grownCap w (n+m) f e) w.heap.size (zC H.cells<|grownCap w (n+m) f e-(n+m)).toList (grownCap_ge w _ _ e) (cm w) (by grind[size_zeroCells]) rfl rfl rfl ?_ (λb K _=>heap_alloc_old w.drew _ K) ?_ A.1 (.inr<|Nat.le_refl _) (.inr A) (by rw[U];exact run_append_grow (P:=P) w t o.type e l H hd D Y ⟨b,0,nO⟩ n f CQ r O ad m c news T.len h oG oG<|growslice_fits oG fits);simp;have:=SY w.drew<|.cells (CQ.toArray++news.toArray++zC H.cells (grownCap w (n+m) f e-(n+m))) e;refine Eq.trans this ?_;simp
def Oj{I b o a P1 P2}(hb:I b=nO)(hw:Bb a=sM b\/I.free b):Cb I (P1++(Bb a).toList++P2) (I.plus b o) (P1++[b]++P2) where
 le:=λ_ _ h=>h
 A2 x y hx hne:=by
  refine K0 hx λe=> ?_;subst e;rcases hw with h|h
  grind
  have:=hx.Ak;rw[h.2]at this;cases this
 CE x hx:=by
  simp only[Bc,A9]at hx;rcases hx with(hx|hx)|hx
  grind
  subst hx;rcases hw with h|h
  grind
  exact .inr λy c=>by have:=c.Ak;rw[h.2]at this;cases this
  grind
def FA(l:AA AL):Tm:=l.map λt=>(t.id,t)
def NF(l id):Aed (FA l) id=Af l id:=by rw[Aed,FA,Af];rw[AGU];show Option.map _ (Option.map _<|l.find? λt=>t.id==id)=_;cases l.find? (λt=>t.id==id)<;>rfl
def D6.UZ{I T T' es}(h:D6 I T es)(p:T.Perm T'):D6 I T' es:=by let⟨l,a,b⟩:=h.perm;exact⟨⟨l,a.trans p,b⟩,((p.map _).nodup_iff).1 h.nd,λx c=>h.nm x<|(p.mem_iff).2 c⟩
def Uc(l t):(NQ (FA l) t.id t).Perm (FA<|CC l t):=by
 unfold NQ CC;rw[NF];cases h:Af l t.id with
 |none=>
  simp[X0,N7,Hq];refine List.Perm.trans ?_ ((AD3 l t).map _).symm;show(FA l++[(t.id,t)]).Perm ((t.id,t)::FA l);exact List.perm_append_singleton _ _
 |some u=>
  simp[VS,ME];refine List.Perm.of_eq ?_;unfold FA A1;rw[Gk,Gk];apply JD;intro x _;show Ml t.id t (x.id,x)=((if x.id==t.id then t else x).id,if x.id==t.id then t else x);unfold Ml;split<;>rfl
def Sa(l t):(A1 l t).map (·.id)=l.map (·.id):=by rw[A1];rw[Gk];apply JD;intro x _;show(if x.id==t.id then t else x).id=x.id;split;rename_i e;exact(eq_of_beq e).symm;rfl
def Dy(f:FU):AA AF:=[.int iK f.AD,vS<|Aa f.id,vS<|AJ f.l.1,vS<|AJ f.l.2]++BG f.v
def E9(x:Lk):AA AF:=[.int iK x.AD,vS<|Aa x.id]++M9 x.e
def CM(L:AA Rw)(m:CH):AA Nat:=L.map (·.b)++((Bb m.Bu.a).toList++((Bb m.DD.a).toList++(Bb m.lk.a).toList))
structure CZ(I:AB)(L:AA Rw)(k:Ap)(m:CH):Prop where
 tab:EB I
 pow:Pow I
 img:FJ I k.im m.ip
 tm:D6 I (FA k.AC) m.es
 B0:C9 I k.Ah m.sm.es m.sm.n
 Dl:El I k.Ah L m.sm.ns m.sm.m
 Bu:C8 I 1 9 ((k.AC.map (·.id)).map BQ) m.Bu
 DD:C8 I 9 154 (k.Bj.flatMap Dy) m.DD
 lk:C8 I 8 63 (k.B5.flatMap E9) m.lk
 nd:(CM L m).Nodup
def C8.B8{I a e c s}(h:C8 I a e c s):∀x∈(Bb s.a).toList,∃y,I.B8 x y:=λx d=>by
 rcases h.at_ with⟨_,q,_⟩|⟨b,f,q,g,_⟩;rw[q]at d;cases d;rw[q]at d;have:x=b:=by simpa[Bb]using d
 exact⟨_,by rwa[this]⟩
def CZ.hasAll{I L k m}(h:CZ I L k m):∀x∈CM L m,∃y,I.B8 x y:=λx a=>by rw[CM]at a;simp only[Bc]at a;rcases a with a|a|a|a;let⟨r,b,e⟩:=BI.1 a;exact⟨_,by rw[<-e];exact(h.Dl.B8 r b).1⟩;exact h.Bu.B8 x a;exact h.DD.B8 x a;exact h.lk.B8 x a
def C8.A2{I J a e c s}(h:C8 I a e c s)(k:∀b∈(Bb s.a).toList,∀y,I.B8 b y->J.B8 b y):C8 J a e c s:=by refine⟨h.n,h.one,?_⟩;rcases h.at_ with q|⟨b,d,f,g,i⟩;exact .inl q;exact .inr ⟨b,d,f,k b (by rw[f];simp[Bb]) _ g,i⟩
def El.A2{I J s L c ck}(h:El I s L c ck)(k:∀b∈L.map (·.b),∀y,I.B8 b y->J.B8 b y):El J s L c ck:={h with B8:=λr a=>⟨k r.b (BI.2 ⟨r,a,rfl⟩) _ (h.B8 r a).1,(h.B8 r a).2⟩}
def CZ.A2{I J L k m}(h:CZ I L k m)(hle:I.Da J)(hk:∀b∈CM L m,∀y,I.B8 b y->J.B8 b y):CZ J L k m where
 tab:=EB.Bf hle h.tab
 pow:=Pow.Bf hle h.pow
 img:=FJ.Bf hle h.img
 tm:=D6.Bf hle h.tm
 B0:=C9.Bf hle h.B0
 Dl:=h.Dl.A2 λb hb=>hk b (by rw[CM];exact GC _ hb)
 Bu:=h.Bu.A2 λb hb=>hk b (by rw[CM];simp only[Bc];exact .inr<|.inl hb)
 DD:=h.DD.A2 λb hb=>hk b (by rw[CM];simp only[Bc];exact .inr<|.inr<|.inl hb)
 lk:=h.lk.A2 λb hb=>hk b (by rw[CM];simp only[Bc];exact .inr<|.inr<|.inr hb)
 nd:=h.nd
def CZ.up{I J L k m}(h:CZ I L k m)(hle:I.le J):CZ J L k m:=h.A2 hle.EA λb _ y a=>hle.Ak b y a
def Ki(I:AB)(P:AA Nat)(r:SV)(a:Ap):zP:=λ_ h=>∃b c J,h= {r:=r,AV:=CL b a.im a.AD,J:=J}/\Cb I P J (CM c b)/\CZ J c a b
def APc(I:AB)(P:AA Nat)(o:Bi)(b:Ap):zP:=λ_ h=>∃a c J,h= {r:=.t [],AV:=CL a b.im b.AD,J:=J}/\Cb I P J (CM c a)/\CZ J c b a/\a.Bu=o
def AEl{A B:AA Nat}{a:AU Nat}{b:Nat}(h:(A++(a.toList++B)).Nodup)(i:a=sM b\/(b∉A/\b∉B)):(A++([b]++B)).Nodup:=by rcases i with rfl|⟨f,g⟩;exact h;rw[Gl]at h⊢;obtain⟨k,d,l⟩:=h;rw[Gl]at d;refine⟨k,GX.2 ⟨g,d.2.1⟩,λx c y j e=> ?_⟩;rcases Co.1 j with q|q;subst q;subst e;exact f c;exact l x c y (HZ _ q) e
def AE1{I c s}(h:C8 I 1 9 (c.map BQ) s):QK I c s.a s.c/\s.n=lN c:=by
 have i:s.n=lN c:=by have:=h.n;rw[DG]at this;omega
 refine⟨⟨?_⟩,i⟩;rcases h.at_ with⟨q1,q2,q3⟩|⟨b,a,d,e,f,j,g⟩;exact .inl ⟨Ib oG,q2,q3⟩;exact .inr ⟨b,a,d,e,by rw[DG]at f;omega,g⟩
def Aa6{J d b c a}(h:J.B8 b<|Gh d a)(f:lN d+lN a=c)(e:c<=maxLen):C8 J 1 9 (d.map BQ) ⟨sM ⟨b,0,nO⟩,lN d,c⟩:=
 ⟨sP,Uv,.inr ⟨b,a,rfl,h,by rw[DG];show lN d+lN a=c*1;omega,by show lN d<=c;omega,e⟩⟩
def AMM{a}:∀ {b:AA Nm},QM b->a∈b->b[Mj b a]? =sM a
 |[],_,h=>by cases h
 |x::l,hs,h=>by
  let⟨d,f⟩:=G4.1 hs;rw[Mj];rw[RR];by_cases e:x=a;subst e;rw[Ma];rfl;have c:a∈l:=by rcases Co.1 h with q|q;exact absurd q.symm e;exact q
  rw[d a c];exact AMM f c
def AZ7{a}(c:Fi a)(b):decide ((a.map (·.id))[Mj (a.map (·.id)) b]? =sM b)=(Af a b).isSome:=by
 have f:QM (a.map (·.id)):=Xs.2 c;cases h:Af a b with
 |none=>
  rw[Gp];rfl;intro e;let⟨t,g,d⟩:=BI.1<|De e;have:=NT c g;rw[d,h]at this;cases this
 |some t=>
  rw[G5<|AMM f<|BI.2 ⟨t,D2 h,E2 h⟩];rfl
def AV6(a t):(a.map (·.id)).take (Mj (a.map (·.id)) t.id)++t.id::(a.map (·.id)).drop (Mj (a.map (·.id)) t.id)=(LY a t).map (·.id):=by
 rw[LY,Mj];induction a with
 |nil=>rfl
 |cons x l b=>
  rw[E4,RR,RR,List.dropWhile_cons];split;simp only[FM,ABp,AGP,F1,E4];rw[b];rfl
structure APC(I:AB)(L:AA Rw)(k:Ap)(m:CH)(t:AL)(a:DV):Prop where
 ZX:CZ I L k m
 AC:DZ I t a
 id:CB t.id
 C3:∀x∈k.AC,CB x.id
 E0:Fi k.AC
 len:lN k.AC<=900000
def AKK(I L k m t a)(D:APC I L k m t a):
 Fn 49 [.p 1 0,.g<|Dr t a] (CL m k.im k.AD) I (Ki I (CM L m) (.t []) {k with AC:=CC k.AC t}) nO:=by
 obtain⟨o,ha,hid,O,B,hlen⟩:=D;obtain⟨s,T⟩:=AE1 o.Bu;have H:=o.nd;have hP:=o.hasAll;have S:lN (k.AC.map (·.id))<=1000000:=by rw[DG];omega
 have j:=AJH I o.pow (k.AC.map (·.id)) m.Bu.a m.Bu.c t.id s.ns (λn hn=>by obtain⟨x,d,e⟩:=BI.1 hn;rw[<-e];exact O x d) hid S;have A:=AZ7 B t.id;have P:=AV6 k.AC t;have hS:QM (k.AC.map (·.id)):=Xs.2 B;obtain⟨ip,es,n,⟨V,on,oc⟩,DD,lk,sm⟩:=m;simp only at s T j;subst T;cases z:Af k.AC t.id with
 |some u=>
  have G:CC k.AC t=A1 k.AC t:=by rw[CC];rw[z];rfl
  have R:(A1 k.AC t).map (·.id)=k.AC.map (·.id):=Sa _ _;refine fo func49 λρ aa w Q=>gG<|Cz j λp J hle Y=> ?_;obtain⟨pi,pf⟩:=p;obtain⟨U,g⟩:=Y;have g:=g hS;rw[A,z]at g;obtain⟨rfl,rfl⟩:=IC g;refine gG<|A0 (SJ J ⟨ip,es,n,⟨V,lN (k.AC.map (·.id)),oc⟩,DD,lk,sm⟩ k.im k.AD (FA k.AC) t a (F5 hid) (DZ.Bf hle.EA ha)<|D6.Bf hle.EA o.tm) [] λy N=> ?_;obtain⟨C,n3,v,rfl⟩:=N;refine gG ?_;have i:=o.up hle;refine dn [] ⟨_,L,J,rfl,.of hle,{i with tm:=v.UZ<|Uc _ _,Bu:= ?_,nd:=H}⟩ (h:={r:=.t [],AV:=CL ⟨ip,C,n3,⟨V,lN (k.AC.map (·.id)),oc⟩,DD,lk,sm⟩ k.im k.AD,J:=J});show C8 J 1 9 (((CC k.AC t).map (·.id)).map BQ) _;rw[G,R];exact i.Bu
 |none=>
  have G:CC k.AC t=LY k.AC t:=by rw[CC];rw[z];rfl
  refine fo func49 λρ aa w Q=>gG<|Cz j λp J hle Y=> ?_;obtain⟨pi,pf⟩:=p;obtain⟨U,g⟩:=Y;have g:=g hS;rw[A,z]at g;obtain⟨rfl,rfl⟩:=IC g;refine gG<|A0 (AJ2 J (k.AC.map (·.id)) V oc (Mj (k.AC.map (·.id)) t.id) t.id (s.up hle) U S) [(2,284)] λh' N=> ?_;obtain⟨b,c,h,rfl,M,X,K,E⟩:=N;rw[P,<-G]at M⊢;refine gG ?_;have f:I.Da (J.plus b (Gh ((CC k.AC t).map (·.id)) h)):=hle.EA;refine A0 (SJ (J.plus b (Gh ((CC k.AC t).map (·.id)) h)) ⟨ip,es,n,⟨sM ⟨b,0,nO⟩,lN ((CC k.AC t).map (·.id)),c⟩,DD,lk,sm⟩ k.im k.AD (FA k.AC) t a (F5 hid) (DZ.Bf f ha)<|D6.Bf f o.tm) [] λy N=> ?_;obtain⟨C,n3,v,rfl⟩:=N;refine gG ?_;have i:=o.up hle;have W:=i.hasAll;have F:∀x∈L.map (·.b)++((Bb DD.a).toList++(Bb lk.a).toList),x≠b:=λx d e=>by
   subst e;rcases E with q|q;have:(L.map (·.b)++((Bb V).toList++((Bb DD.a).toList++(Bb lk.a).toList))).Nodup:=H;rw[q,Gl]at this;obtain⟨_,q2,q3⟩:=this;rcases Bc.1 d with d|d;exact q3 x d x sP rfl;exact(GX.1 q2).1 d;obtain⟨y,Z⟩:=W x (by rw[CM];simp only[Bc]at d⊢;rcases d with d|d|d;exact .inl d;exact .inr<|.inr<|.inl d;exact .inr<|.inr<|.inr d)
   have:=Z.Ak;rw[q.2]at this;cases this
  have l:∀x∈L.map (·.b)++((Bb DD.a).toList++(Bb lk.a).toList),∀y,J.B8 x y->(J.plus b (Gh ((CC k.AC t).map (·.id)) h)).B8 x y:=λx d y Z=>K0 Z<|F x d;refine dn [] ⟨_,L,_,rfl,Cb.trans (.of hle) ?_,?_⟩ (h:={r:=.t [],AV:=CL ⟨ip,C,n3,⟨sM ⟨b,0,nO⟩,lN ((CC k.AC t).map (·.id)),c⟩,DD,lk,sm⟩ k.im k.AD,J:=J.plus b (Gh ((CC k.AC t).map (·.id)) h)});have:=Oj (P1:=L.map (·.b)) (P2:=(Bb DD.a).toList++(Bb lk.a).toList) (o:=Gh ((CC k.AC t).map (·.id)) h) K E;simp only[Eb]at this;exact this
  exact{tab:=EB.Bf f o.tab,pow:=Pow.Bf f o.pow,img:=FJ.Bf f o.img,tm:=v.UZ<|Uc _ _,B0:=C9.Bf f o.B0,Dl:=i.Dl.A2 λx d=>l x<|GC _ d,Bu:=Aa6 (Li K) M X,DD:=i.DD.A2 λx d=>l x<|by simp only[Bc];exact .inr<|.inl d,lk:=i.lk.A2 λx d=>l x<|by simp only[Bc];exact .inr<|.inr d,nd:=AEl (a:=Bb V) H (by rcases E with q|q;exact .inl q;exact .inr ⟨λd=>F b (GC _ d) rfl,λd=>F b (HZ _ d) rfl⟩)}
structure EX where
 i:Nat
 J:AB
 L:AA Rw
 m:CH
 k:Ap
def Y1(s:Bi)(fv:SV)(x:EX):Hd where
 Cd:=[(1,fv),(6,s.sv),(7,.v<|iV s.n),(8,.v<|iV x.i)]
 Cc:=CL x.m x.k.im x.k.AD
 J:=x.J
structure EP{a:Type}(I:AB)(P:AA Nat)(xs:AA a)(f:Ap->a->Ap)(b:Ap)(x:EX):Prop where
 i:x.i<=lN xs
 st:Cb I P x.J (CM x.L x.m)
 ZX:CZ x.J x.L x.k x.m
 k:x.k=(xs.take x.i).foldl f b
def AM2:Ht 53 20:=row_of kR kR
def AS9:IE 121 53 20:=⟨kR,AM2.hi⟩
def Ae5{b c:Type}{f:c->b->c}{k d:c}{a:AA b}{i:Nat}{x:b}(h:a[i]? =sM x)(p:d=(a.take i).foldl f k):f d x=(a.take<|i+1).foldl f k:=by rw[My,h,P7,<-p];rfl
def Ae4{d b:Type}{f:b->d->b}{k c:b}{a:AA d}(p:c=(a.take<|lN a).foldl f k):c=a.foldl f k:=by rw[p,FN]
def ASz(I L k m xs s f)(hlen:lN xs<=1000000)(hs:Ix I (Ps I) 20 xs s)(v:CZ I L k m)
 (hF:∀i x k',xs[i]? =sM x->k'=(xs.take i).foldl f k->∀J L' m' row,I.Da J->CZ J L' k' m'->(Ps J) x row->Fn 49 [.p 1 0,.g (row.map .v)] (CL m' k'.im k'.AD) J (Ki J (CM L' m') (.t []) (f k' x)) nO):
 Fn 48 [s.sv,.fn (.func 49) [.p 1 0] []] (CL m k.im k.AD) I (Ki I (CM L m) (.t []) (xs.foldl f k)) nO:=by
 let⟨sa,z,sc⟩:=s;let⟨t,cells,d⟩:=hs;simp only at t d;subst t;refine fo Tryz.func48 λρ key w r=>gG<|loop (ι:=EX) (EP I (CM L m) xs f k) (λx=>lN xs-x.i) (Y1 ⟨sa,lN xs,sc⟩ (.fn (.func 49) [.p 1 0] [])) 300 [] ⟨0,I,L,m,k⟩ ⟨Nat.zero_le _,.refl _ _,v,rfl⟩ ?_;rintro⟨i,J,p,m1,k1⟩ ⟨p1,p2,p3,p4⟩ again T;simp only at p1 p2 p3 p4;by_cases c:i<lN xs;have j:xs[i]? =sM xs[i]:=List.getElem?_eq_getElem c;generalize xs[i]=x at j;have g:Av J (Ps J) 20 xs sa sc cells:=Av.Bf p2.le d (λx l h=>AFl p2.le x l h);obtain⟨b,off,arr,e,fr,row,rfl,q2,q3,q4,q5⟩:=g.cell Ac6 j;have a:=hF i x k1 j p4 J p m1 row p2.le p3 q3;let⟨q,q3,_⟩:=q3;subst q3;refine gg [(9,tH i (lN xs)),(10,Br J AS9 b off (lN xs) sc i c),(11,D8 J AM2 (off+i*20) (EZ x q) rfl q2 q5)]<|A0 a [] λy hh=> ?_;obtain⟨m2,L2,u,rfl,o,n⟩:=hh;refine gg [(15,sH i)] ?_;refine bk again [] ⟨i+1,u,L2,m2,f k1 x⟩ ⟨by show i+1<=_;omega,p2.trans o,n,Ae5 j p4⟩;obtain rfl:i=lN xs:=oG;rw[<-Ae4 p4];exact gg [(9,Go.Proofs.YtomehhepbeiinaaGreatDoor.fH (lN xs) (lN xs))]<|dn [] ⟨m1,p,J,rfl,p2,p3⟩
def AMz:Ht 135 7:=row_of kR kR
def ATA:IE 122 135 7:=⟨kR,AMz.hi⟩
def AS0(I L k m xs s id f)(hlen:lN xs<=1000000)(hs:Ix I SU 7 xs s)(t:CZ I L k m)
 (hF:∀i x k',xs[i]? =sM x->k'=(xs.take i).foldl f k->∀J L' m' row,I.Da J->CZ J L' k' m'->SU x row->Fn 51 [.g [.p 1 0,.v (sV id)],.g (row.map .v)] (CL m' k'.im k'.AD) J (Ki J (CM L' m') (.t []) (f k' x)) nO):
 Fn 50 [s.sv,.fn (.func 51) [.g [.p 1 0,.v (sV id)]] []] (CL m k.im k.AD) I (Ki I (CM L m) (.t []) (xs.foldl f k)) nO:=by
 let⟨sa,u,sc⟩:=s;let⟨q,cells,d⟩:=hs;simp only at q d;subst q;refine fo Tryz.func50 λρ key w p=>gG<|loop (ι:=EX) (EP I (CM L m) xs f k) (λx=>lN xs-x.i) (Y1 ⟨sa,lN xs,sc⟩ (.fn (.func 51) [.g [.p 1 0,.v (sV id)]] [])) 300 [] ⟨0,I,L,m,k⟩ ⟨Nat.zero_le _,.refl _ _,t,rfl⟩ ?_;rintro⟨i,J,o,m1,k1⟩ ⟨p1,p2,p3,p4⟩ again T;simp only at p1 p2 p3 p4;by_cases c:i<lN xs;have j:xs[i]? =sM xs[i]:=List.getElem?_eq_getElem c;generalize xs[i]=x at j;have g:Av J SU 7 xs sa sc cells:=Av.Bf p2.le d (λ_ _ h=>h);obtain⟨b,off,arr,e,fr,row,rfl,q2,q3,q4,q5⟩:=g.cell AZT j;have a:=hF i x k1 j p4 J o m1 row p2.le p3 q3;subst q3;refine gg [(9,tH i (lN xs)),(10,Br J ATA b off (lN xs) sc i c),(11,D8 J AMz (off+i*7) (W5 x) rfl q2 q5)]<|A0 a [] λy hh=> ?_;obtain⟨m2,L2,r,rfl,n,l⟩:=hh;refine gg [(15,sH i)] ?_;refine bk again [] ⟨i+1,r,L2,m2,f k1 x⟩ ⟨by show i+1<=_;omega,p2.trans n,l,Ae5 j p4⟩;obtain rfl:i=lN xs:=oG;rw[<-Ae4 p4];exact gg [(9,Go.Proofs.YtomehhepbeiinaaGreatDoor.fH (lN xs) (lN xs))]<|dn [] ⟨m1,o,J,rfl,p2,p3⟩
def AM3:Ht 61 6:=row_of kR kR
def ATB:IE 123 61 6:=⟨kR,AM3.hi⟩
def AS1(I L k m xs s id f)(hlen:lN xs<=1000000)(hs:Ix I Tp 6 xs s)(t:CZ I L k m)
 (hF:∀i x k',xs[i]? =sM x->k'=(xs.take i).foldl f k->∀J L' m' row,I.Da J->CZ J L' k' m'->Tp x row->Fn 53 [.g [.p 1 0,.v (sV id)],.g (row.map .v)] (CL m' k'.im k'.AD) J (Ki J (CM L' m') (.t []) (f k' x)) nO):
 Fn 52 [s.sv,.fn (.func 53) [.g [.p 1 0,.v (sV id)]] []] (CL m k.im k.AD) I (Ki I (CM L m) (.t []) (xs.foldl f k)) nO:=by
 let⟨sa,u,sc⟩:=s;let⟨q,cells,d⟩:=hs;simp only at q d;subst q;refine fo Tryz.func52 λρ key w p=>gG<|loop (ι:=EX) (EP I (CM L m) xs f k) (λx=>lN xs-x.i) (Y1 ⟨sa,lN xs,sc⟩ (.fn (.func 53) [.g [.p 1 0,.v (sV id)]] [])) 300 [] ⟨0,I,L,m,k⟩ ⟨Nat.zero_le _,.refl _ _,t,rfl⟩ ?_;rintro⟨i,J,o,m1,k1⟩ ⟨p1,p2,p3,p4⟩ again T;simp only at p1 p2 p3 p4;by_cases c:i<lN xs;have j:xs[i]? =sM xs[i]:=List.getElem?_eq_getElem c;generalize xs[i]=x at j;have g:Av J Tp 6 xs sa sc cells:=Av.Bf p2.le d (λ_ _ h=>h);obtain⟨b,off,arr,e,fr,row,rfl,q2,q3,q4,q5⟩:=g.cell ATH j;have a:=hF i x k1 j p4 J o m1 row p2.le p3 q3;subst q3;refine gg [(9,tH i (lN xs)),(10,Br J ATB b off (lN xs) sc i c),(11,D8 J AM3 (off+i*6) (M9 x) rfl q2 q5)]<|A0 a [] λy hh=> ?_;obtain⟨m2,L2,r,rfl,n,l⟩:=hh;refine gg [(15,sH i)] ?_;refine bk again [] ⟨i+1,r,L2,m2,f k1 x⟩ ⟨by show i+1<=_;omega,p2.trans n,l,Ae5 j p4⟩;obtain rfl:i=lN xs:=oG;rw[<-Ae4 p4];exact gg [(9,Go.Proofs.YtomehhepbeiinaaGreatDoor.fH (lN xs) (lN xs))]<|dn [] ⟨m1,o,J,rfl,p2,p3⟩
def AM0:Ht 141 2:=row_of kR kR
def ATC:IE 124 141 2:=⟨kR,AM0.hi⟩
def AS2(I L k m xs s f)(hlen:lN xs<=1000000)(hs:Ix I (N6 I) 2 xs s)(u:CZ I L k m)
 (hF:∀i x k',xs[i]? =sM x->k'=(xs.take i).foldl f k->∀J L' m' row,I.Da J->CZ J L' k' m'->(N6 J) x row->Fn 55 [.p 1 0,.g (row.map .v)] (CL m' k'.im k'.AD) J (Ki J (CM L' m') (.t []) (f k' x)) nO):
 Fn 54 [s.sv,.fn (.func 55) [.p 1 0] []] (CL m k.im k.AD) I (Ki I (CM L m) (.t []) (xs.foldl f k)) nO:=by
 let⟨sa,z,sc⟩:=s;let⟨r,cells,d⟩:=hs;simp only at r d;subst r;refine fo Tryz.func54 λρ key w q=>gG<|loop (ι:=EX) (EP I (CM L m) xs f k) (λx=>lN xs-x.i) (Y1 ⟨sa,lN xs,sc⟩ (.fn (.func 55) [.p 1 0] [])) 300 [] ⟨0,I,L,m,k⟩ ⟨Nat.zero_le _,.refl _ _,u,rfl⟩ ?_;rintro⟨i,J,p,m1,k1⟩ ⟨p1,p2,p3,p4⟩ again T;simp only at p1 p2 p3 p4;by_cases c:i<lN xs;have j:xs[i]? =sM xs[i]:=List.getElem?_eq_getElem c;generalize xs[i]=x at j;have g:Av J (N6 J) 2 xs sa sc cells:=Av.Bf p2.le d (λx l h=>ABJ p2.le x l h);obtain⟨b,off,arr,e,fr,row,rfl,q2,q3,q4,q5⟩:=g.cell AeJ j;have a:=hF i x k1 j p4 J p m1 row p2.le p3 q3;let⟨va,v,A,q3,_⟩:=q3;subst q3;refine gg [(9,tH i (lN xs)),(10,Br J ATC b off (lN xs) sc i c),(11,D8 J AM0 (off+i*2) [vS (Aa x.1),.slice va (lN x.2) v] rfl q2 q5)]<|A0 a [] λy hh=> ?_;obtain⟨m2,L2,t,rfl,o,n⟩:=hh;refine gg [(15,sH i)] ?_;refine bk again [] ⟨i+1,t,L2,m2,f k1 x⟩ ⟨by show i+1<=_;omega,p2.trans o,n,Ae5 j p4⟩;obtain rfl:i=lN xs:=oG;rw[<-Ae4 p4];exact gg [(9,Go.Proofs.YtomehhepbeiinaaGreatDoor.fH (lN xs) (lN xs))]<|dn [] ⟨m1,p,J,rfl,p2,p3⟩
def AHQ:Gq prog Bt 105 154 9:=⟨⟨_,rfl⟩,⟨_,_,rfl,rfl⟩,kR⟩
def Y7(f):∀v∈Dy f,v.oneCell':=SQ rfl
def AKt(x):∀v∈E9 x,v.oneCell':=SQ rfl
def HB{b:Type}{f:b->AA AF}{n:Nat}(a:∀x,lN (f x)=n):∀l:AA b,lN (l.flatMap f)=lN l*n
 |[]=>sP
 |x::l=>by rw[Kb,CK,HB a l,a,FM,Gm];omega
def ATl{I:AB}{l:AA FU}{s:Bi}(h:C8 I 9 154 (l.flatMap Dy) s):s.n=lN l:=by have:=h.n;rw[HB (n:=9) λ_=>rfl]at this;omega
def AXb{I:AB}{l:AA Lk}{s:Bi}(h:C8 I 8 63 (l.flatMap E9) s):s.n=lN l:=by have:=h.n;rw[HB (n:=8) λ_=>rfl]at this;omega
def AMF{J:AB}{A B:AA Nat}{a:AU Nat}{b:Nat}(d:(A++(a.toList++B)).Nodup)(g:∀x∈A++B,∃y,J.B8 x y)(f:a=sM b\/J.free b):∀x∈A++B,x≠b:=λx c e=>by subst e;rcases f with q|q;rw[q,Gl]at d;let⟨_,q2,q3⟩:=d;rcases Bc.1 c with c|c;exact q3 x c x sP rfl;exact(GX.1 q2).1 c;let⟨y,h⟩:=g x c;have:=h.Ak;rw[q.2]at this;cases this
def AWn(I L)(k:Ap)(m g)(x:AT×AW)(f:CZ I L k m)(U:lN k.Bj<=900000):
 Fn 51 [.g [.p 1 0,.v<|sV g],.g<|(W5 x).map .v] (CL m k.im k.AD) I (Ki I (CM L m) (.t []) {k with Bj:=k.Bj++[⟨k.AD,g,x.1,x.2⟩]}) nO:=by
 have K:=ATl f.DD;have O:=f.hasAll;have F:=f.nd;let⟨ip,es,n,Bu,⟨s,S,N⟩,lk,sm⟩:=m;simp only at K;subst K;have j:=f.DD;refine fo func51 λV R w H=>gG<|act (need:=[(268,.cells ((Dy ⟨k.AD,g,x.1,x.2⟩).map .v) 154)]) (JI (I:=I) Be (s:=⟨s,lN k.Bj,N⟩) (x:=.s 268 0 1 1) (news:=Dy ⟨k.AD,g,x.1,x.2⟩) AHQ kR j (Ez (e:=154) sP rfl<|Y7 _) dC<|by show lN k.Bj+1<=16777216;omega) JH ?_;rintro T ⟨b,c,a,rfl,C,D,E,t,o⟩;refine gG ?_;have M:L.map (λr:Rw=>r.b)++((Bb Bu.a).toList++((Bb s).toList++(Bb lk.a).toList))=(L.map (λr:Rw=>r.b)++(Bb Bu.a).toList)++((Bb s).toList++(Bb lk.a).toList):=by rw[Eb]
 have l:((L.map (λr:Rw=>r.b)++(Bb Bu.a).toList)++((Bb s).toList++(Bb lk.a).toList)).Nodup:=by rwa[<-M]
 have p:=AMF (J:=I) l (λy i=>O y (by rw[CM];simp only[Bc]at i⊢;rcases i with(h|h)|h<;>simp[h])) o;have e:∀y∈(L.map (λr:Rw=>r.b)++(Bb Bu.a).toList)++(Bb lk.a).toList,∀z,I.B8 y z->(I.plus b<|.cells (k.Bj.flatMap Dy++Dy ⟨k.AD,g,x.1,x.2⟩++a).toArray 154 (0,0)).B8 y z:=λy i z Q=>K0 Q<|p y i;have d:I.Da (I.plus b<|.cells (k.Bj.flatMap Dy++Dy ⟨k.AD,g,x.1,x.2⟩++a).toArray 154 (0,0)):=λ_ _ h=>h;have B:(k.Bj++[(⟨k.AD,g,x.1,x.2⟩:FU)]).flatMap Dy=k.Bj.flatMap Dy++Dy ⟨k.AD,g,x.1,x.2⟩:=by rw[Mu];simp
 refine dn [] ⟨_,L,_,rfl,?_,?_⟩ (h:={r:=.t [],AV:=CL ⟨ip,es,n,Bu,⟨sM ⟨b,0,nO⟩,lN k.Bj+1,c⟩,lk,sm⟩ k.im k.AD,J:=I.plus b<|.cells (k.Bj.flatMap Dy++Dy ⟨k.AD,g,x.1,x.2⟩++a).toArray 154 (0,0)});exact(Oj (P1:=L.map (λr:Rw=>r.b)++(Bb Bu.a).toList) (P2:=(Bb lk.a).toList) (o:=.cells (k.Bj.flatMap Dy++Dy ⟨k.AD,g,x.1,x.2⟩++a).toArray 154 (0,0)) t o).cast (by simp[CM]) (by simp[CM,Bb]);have P:C8 (I.plus b<|.cells (k.Bj.flatMap Dy++Dy ⟨k.AD,g,x.1,x.2⟩++a).toArray 154 (0,0)) 9 154 ((k.Bj++[(⟨k.AD,g,x.1,x.2⟩:FU)]).flatMap Dy) ⟨sM ⟨b,0,nO⟩,lN k.Bj+1,c⟩:=by rw[B];refine⟨?_,λv A=> ?_,.inr ⟨b,a,rfl,Li t,C,D,E⟩⟩;rw[CK,HB (n:=9) λ_=>rfl];show _+9=_;simp only;omega;rcases Bc.1 A with A|A;exact j.one v A;exact Y7 _ v A
 have u:(CM L ⟨ip,es,n,Bu,⟨sM ⟨b,0,nO⟩,lN k.Bj+1,c⟩,lk,sm⟩).Nodup:=by
  have:=AEl (a:=Bb s) (b:=b) l (by rcases o with q|q;exact .inl q;exact .inr ⟨λG=>p b (GC _ G) rfl,λG=>p b (HZ _ G) rfl⟩)
  rw[Eb]at this;exact this
 exact{tab:=EB.Bf d f.tab,pow:=Pow.Bf d f.pow,img:=FJ.Bf d f.img,tm:=D6.Bf d f.tm,B0:=C9.Bf d f.B0,Dl:=f.Dl.A2 λy i=>e y<|by simp only[Bc];exact .inl<|.inl i,Bu:=f.Bu.A2 λy i=>e y<|by simp only[Bc];exact .inl<|.inr i,DD:=P,lk:=f.lk.A2 λy i=>e y<|by simp only[Bc];exact .inr i,nd:=u}
def AWh(I L)(k:Ap)(m g x)(f:CZ I L k m)(U:lN k.B5<=900000):
 Fn 53 [.g [.p 1 0,.v<|sV g],.g<|(M9 x).map .v] (CL m k.im k.AD) I (Ki I (CM L m) (.t []) {k with B5:=k.B5++[⟨k.AD,g,x⟩]}) nO:=by
 have K:=AXb f.lk;have O:=f.hasAll;have F:=f.nd;let⟨ip,es,n,Bu,DD,⟨p,S,N⟩,sm⟩:=m;simp only at K;subst K;have t:=f.lk;refine fo func53 λV R w H=>gG<|act (need:=[(244,.cells ((E9 ⟨k.AD,g,x⟩).map .v) 63)]) (JI (I:=I) Be (s:=⟨p,lN k.B5,N⟩) (x:=.s 244 0 1 1) (news:=E9 ⟨k.AD,g,x⟩) AHW kR t (Ez (e:=63) sP rfl<|AKt _) dC<|by show lN k.B5+1<=16777216;omega) JH ?_;rintro T ⟨b,c,a,rfl,C,D,E,s,l⟩;refine gG ?_;have M:L.map (λr:Rw=>r.b)++((Bb Bu.a).toList++((Bb DD.a).toList++(Bb p).toList))=(L.map (λr:Rw=>r.b)++((Bb Bu.a).toList++(Bb DD.a).toList))++((Bb p).toList++[]):=by simp[Eb]
 have j:((L.map (λr:Rw=>r.b)++((Bb Bu.a).toList++(Bb DD.a).toList))++((Bb p).toList++[])).Nodup:=by rwa[<-M]
 have o:=AMF (J:=I) j (λy i=>O y (by rw[CM];simp only[Bc,Hp,_root_.or_false]at i⊢;rcases i with h|h|h<;>simp[h])) l;have e:∀y∈(L.map (λr:Rw=>r.b)++((Bb Bu.a).toList++(Bb DD.a).toList))++[],∀z,I.B8 y z->(I.plus b<|.cells (k.B5.flatMap E9++E9 ⟨k.AD,g,x⟩++a).toArray 63 (0,0)).B8 y z:=λy i z Q=>K0 Q<|o y i;have d:I.Da (I.plus b<|.cells (k.B5.flatMap E9++E9 ⟨k.AD,g,x⟩++a).toArray 63 (0,0)):=λ_ _ h=>h;have B:(k.B5++[(⟨k.AD,g,x⟩:Lk)]).flatMap E9=k.B5.flatMap E9++E9 ⟨k.AD,g,x⟩:=by rw[Mu];simp
 refine dn [] ⟨_,L,_,rfl,?_,?_⟩ (h:={r:=.t [],AV:=CL ⟨ip,es,n,Bu,DD,⟨sM ⟨b,0,nO⟩,lN k.B5+1,c⟩,sm⟩ k.im k.AD,J:=I.plus b<|.cells (k.B5.flatMap E9++E9 ⟨k.AD,g,x⟩++a).toArray 63 (0,0)});exact(Oj (P1:=L.map (λr:Rw=>r.b)++((Bb Bu.a).toList++(Bb DD.a).toList)) (P2:=[]) (o:=.cells (k.B5.flatMap E9++E9 ⟨k.AD,g,x⟩++a).toArray 63 (0,0)) s l).cast (by simp[CM]) (by simp[CM,Bb]);have P:C8 (I.plus b<|.cells (k.B5.flatMap E9++E9 ⟨k.AD,g,x⟩++a).toArray 63 (0,0)) 8 63 ((k.B5++[(⟨k.AD,g,x⟩:Lk)]).flatMap E9) ⟨sM ⟨b,0,nO⟩,lN k.B5+1,c⟩:=by rw[B];refine⟨?_,λv A=> ?_,.inr ⟨b,a,rfl,Li s,C,D,E⟩⟩;rw[CK,HB (n:=8) λ_=>rfl];show _+8=_;simp only;omega;rcases Bc.1 A with A|A;exact t.one v A;exact AKt _ v A
 have u:(CM L ⟨ip,es,n,Bu,DD,⟨sM ⟨b,0,nO⟩,lN k.B5+1,c⟩,sm⟩).Nodup:=by
  have:=AEl (a:=Bb p) (b:=b) j (by rcases l with q|q;exact .inl q;exact .inr ⟨λG=>o b (GC _ G) rfl,λG=>o b (HZ _ G) rfl⟩)
  simp only[Eb,Hn]at this;exact this
 exact{tab:=EB.Bf d f.tab,pow:=Pow.Bf d f.pow,img:=FJ.Bf d f.img,tm:=D6.Bf d f.tm,B0:=C9.Bf d f.B0,Dl:=f.Dl.A2 λy i=>e y<|by simp only[Bc];exact .inl<|.inl i,Bu:=f.Bu.A2 λy i=>e y<|by simp only[Bc];exact .inl<|.inr<|.inl i,DD:=f.DD.A2 λy i=>e y<|by simp only[Bc];exact .inl<|.inr<|.inr i,lk:=P,nd:=u}
def Ad3(I L k m t w l o q)(f:CZ I L k m)(c:Af k.AC w.1=sM t)(hid:CB t.id)(g:lN t.c.stack<=1000000)(j:lN w.2<=1000000)(x:F3 I w.2 l o q):
 Fn 55 [.p 1 0,.g [.v<|sV w.1,.v<|.slice l (lN w.2) o]] (CL m k.im k.AD) I (Ki I (CM L m) (.t [])<|RI k w) nO:=by
 have p:w.1=t.id:=(E2 c).symm;refine Fn.to (AWq I m k.im k.AD (FA k.AC) t w.1 w.2 l o q (F5<|by rwa[p]) (F5 hid) (by rwa[NF]) g j x f.tm) λy h u=> ?_;obtain⟨d,z,J,hle,i,rfl⟩:=u;have e:RI k w= {k with AC:=A1 k.AC<|DX t w.2}:=by rw[RI];rw[c]
 rw[e];refine⟨{m with es:=d,n:=z},L,J,rfl,.of hle,?_⟩;have a:=f.up hle;have s:CC k.AC (DX t w.2)=A1 k.AC (DX t w.2):=by rw[CC];rw[show Af k.AC (DX t w.2).id=sM t by rwa[show(DX t w.2).id=t.id from rfl,<-p]];rfl
 have v:(A1 k.AC<|DX t w.2).map (·.id)=k.AC.map (·.id):=Sa _ _;exact{a with tm:=i.UZ<|by rw[<-s];exact Uc k.AC<|DX t w.2,Bu:=by show C8 J 1 9 (((A1 k.AC<|DX t w.2).map (·.id)).map BQ) m.Bu;rw[v];exact a.Bu,nd:=f.nd}
def AeQ:∀w,(zeroValue 53).run prog w=.ok (.agg (EZ P3 RJ).toArray) w:=by have h:(prog.info? 53).map (λi=>i.zero)=sM (sM<|.agg (EZ P3 RJ).toArray):=kR;let⟨i,a,b⟩:=L9.1 h;intro w;simp[zeroValue,typeInfo,a,b,aT]
def AfS{a:Type}(_:a):Prop:=True
abbrev Agy{b:Type}{a:b}(_:AfS a):b:=a
abbrev fnE(e:AU Nm):Nat:=e.elim 38 λ_=>109
abbrev AfG(e:AU Nm):AA SV:=.p 6 0::e.toList.map λ_=>.p 7 0
abbrev Np(m:CH)(k:Ap)(e:AU Nm):AA (Nat×AK):=CL m k.im k.AD++(6,.cells [.p 1 0] 27)::e.toList.map λa=>(7,.cells [.v<|sV a] 9)
def YD(I:AB)(P:AA Nat)(o:Bi)(c:Ap)(e:AU Nm):zP:=λ_ h=>∃a b J,h= {r:=.t [],AV:=Np a c e,J:=J}/\Cb I P J (CM b a)/\CZ J b c a/\a.Bu=o
def ATP(a:AU Au)(n c:Nat)(e:AU Nm)(x:EX):Hd where
 Cd:=[(1,.fn (.func<|fnE e) []<|AfG e),(6,.v<|.slice a n c),(7,.v<|iV n),(8,.v<|iV x.i)]
 Cc:=Np x.m x.k e
 J:=x.J
structure EOY(I:AB)(P:AA Nat)(o:Bi)(xs:AA Nm)(f:Ap->Nm->Ap)(a:Ap)(x:EX):Prop where
 i:x.i<=lN xs
 st:Cb I P x.J (CM x.L x.m)
 ZX:CZ x.J x.L x.k x.m
 k:x.k=(xs.take x.i).foldl f a
 Bu:x.m.Bu=o
 C3:x.k.AC.map (·.id)=xs
def ASy(I L k m e a f)(hlen:lN a<=1000000)(E:CZ I L k m)(c:k.AC.map (·.id)=a)
 (hF:∀i x h,a[i]? =sM x->h=(a.take i).foldl f k->h.AC.map (·.id)=a->(f h x).AC.map (·.id)=a/\∀J C t,I.Da J->CZ J C h t->t.Bu=m.Bu->Fn (fnE e) (.v (sV x)::AfG e) (Np t h e) J (YD J (CM C t) m.Bu (f h x) e) nO):
 Fn 37 [m.Bu.sv,.fn (.func<|fnE e) []<|AfG e] (Np m k e) I (YD I (CM L m) m.Bu (a.foldl f k) e) nO:=by
 let⟨q,o⟩:=AE1 (show C8 I 1 9 (a.map BQ) m.Bu by rw[<-c];exact E.Bu);let⟨ip,es,n,⟨s,on,j⟩,DD,lk,sm⟩:=m;simp only at q o hF;subst o;have O:AfS e:=trivial;cases e
 all_goals
  refine fo func37 λU Q w F=>gG<|loop (ι:=EX) (EOY I (CM L ⟨ip,es,n,⟨s,lN a,j⟩,DD,lk,sm⟩) ⟨s,lN a,j⟩ a f k) (λx=>lN a-x.i) (ATP s (lN a) j<|Agy O) 300 [] ⟨0,I,L,⟨ip,es,n,⟨s,lN a,j⟩,DD,lk,sm⟩,k⟩ ⟨Bm _,.refl _ _,E,rfl,rfl,c⟩ ?_;rintro⟨i,J,D,H,G⟩ ⟨S,p2,p3,u,p6,p7⟩ again T;simp only at S p2 p3 u p6 p7;by_cases l:i<lN a;have p:C8 J 1 9 (a.map BQ) ⟨s,lN a,j⟩:=by rw[<-p6,<-p7];exact p3.Bu
  rcases p.at_ with⟨q1,_,_⟩|⟨b,r,rfl,N,_⟩;have q1:lN a=0:=q1;omega;have B:a[i]? =sM a[i]:=BS l;have g:((a.map BQ++r).toArray:Ae AF)[0+i*1]? =sM (BQ a[i]):=by rw[Mv,Gj<|by rw[DG];omega,GB];simp[B]
  let⟨q2,q3⟩:=hF i a[i] G B u p7;refine gg [(9,tH i<|lN a),(10,Br J Jr b 0 (lN a) j i l),(11,.Kz J _ _<|IZ (I:=J.CW) Di rfl N.CW g)]<|A0 (q3 J D H p2.le p3 p6) [] λy v=> ?_;obtain⟨R,M,K,rfl,P,z,A⟩:=v;refine gg [(15,sH i)] ?_;refine bk again [] ⟨i+1,K,M,R,f G a[i]⟩ ⟨by show i+1<=_;omega,p2.trans P,z,Ae5 B u,A,q2⟩;obtain rfl:i=lN a:=oG;rw[<-Ae4 u];exact gg [(9,fH (lN a)<|lN a)]<|dn [] ⟨H,D,J,rfl,p2,p3,p6⟩
variable{C:AT}{F:UInt8->Prop}
def JV{l}(h:A4 l=l):B9 l:=by rw[<-h];exact⟨Wv _,Wv _⟩
def CZ.XT{I J L j k k' m m'}(h:CZ I L k m)(i:Dd I L J j)(f:k'.im=k.im/\m'.ip=m.ip)(b:m'.Bu=m.Bu/\k'.AC.map (·.id)=k.AC.map (·.id))(a:m'.DD=m.DD/\k'.Bj=k.Bj)(c:m'.lk=m.lk/\k'.B5=k.B5)
 (tm:D6 J (FA k'.AC) m'.es) (B0:C9 J k'.Ah m'.sm.es m'.sm.n) (Dl:El J k'.Ah j m'.sm.ns m'.sm.m):CZ J j k' m'/\Cb I (CM L m) J (CM j m'):=by
 have o:=h.hasAll;have g:=h.nd;unfold CM at o g;have t:Cb I (CM L m) J (CM j m'):=by unfold CM;rw[b.1,a.1,c.1];exact i.toP _
 rw[Gl]at g;let⟨A,v,p⟩:=g;have hE:∀x∈(Bb m.Bu.a).toList++((Bb m.DD.a).toList++(Bb m.lk.a).toList),∀y,I.B8 x y->J.B8 x y:=λx d y l=>i.A2 x y l λr n e=>p x (BI.2 ⟨r,n,e⟩) x d rfl;refine⟨{tab:=EB.Bf i.le h.tab,pow:=Pow.Bf i.le h.pow,img:= ?_,tm:=tm,B0:=B0,Dl:=Dl,Bu:= ?_,DD:= ?_,lk:= ?_,nd:= ?_},t⟩;rw[f.1,f.2];exact FJ.Bf i.le h.img;rw[b.1,b.2];exact h.Bu.A2 λx d=>hE x (by simp only[Bc];exact .inl d);rw[a.1,a.2];exact h.DD.A2 λx d=>hE x (by simp only[Bc];exact .inr<|.inl d);rw[c.1,c.2];exact h.lk.A2 λx d=>hE x (by simp only[Bc];exact .inr<|.inr d);unfold CM;rw[b.1,a.1,c.1,Gl];refine⟨Dl.bl,v,λx d y l e=> ?_⟩;subst e;let⟨r,n,e⟩:=BI.1 d;rcases i.CE r n with⟨w,s,q⟩|hn;exact p x (BI.2 ⟨w,s,q.trans e⟩) x l rfl;let⟨z,u⟩:=o x<|HZ _ l;exact hn z (by rw[e];exact u)
structure MG(C:AT)(F:AH->Prop)(A S:Nat)(k:Ap):Prop where
 kk:KK C F k
 bk:BK A S k.AC k.Ah
 a:A<=800000
 s:S<=800000
 AD:k.AD<=900000
 an:∀a b,F a->F (a&&&b)
 cl:∀p,F p->Hr C p
def AUY{s on b n}(h:Am s n=nO):Am (Gy s on b) n=nO:=by rw[Gy];split;rename_i o a;split;split;rw[PV,a];simp only;split;rwa[AY λe=>by subst e;rw[h]at a;cases a];exact h;exact h;exact h;exact h
def AaK{m M a s}(h:KI m M a s):∀n o,Am s n=sM o->∀y∈o.var.q,BV y.id:=λn o c y d=>by let⟨t,b,_⟩:=(h.Dn n o c).2 y d;have:=(h.of b).HM t.id DT;rw[E2 b]at this;exact F5 this
def AKg{m M c s j}(h:KI m M c s){t}(g:Af c t.id=sM t){i}(f:i<lN t.AI)(e:∀n,Am s n=nO->Am j n=nO):Ew j (t.AI.getD i Al).name (GF t i):=by
 have a:t.AI.getD i Al=t.AI[i]:=by rw[DK,BS f];rfl
 have b:=h.of g;have d:=DR f;have p:=(b.Cj.2 _ d).1;have o:=e _<|h.Ja t (D2 g) _ d;have k:(GF t i).kind=3:=rfl;have l:(GF t i).l=t.AI[i].l:=by show(t.AI.getD i Al).l=_;rw[a]
 rw[Ew];rw[a,b.HM _<|DY _<|BI.2 ⟨_,d,rfl⟩,k,l,p,o];simp
def AQt(I L k m){A S}(b:CZ I L k m)(d:MG C F A S k)(x t)(p:Af k.AC x=sM t):
 (Fp k x).AC.map (·.id)=k.AC.map (·.id)/\Fn 38 [.v<|sV x,.p 6 0] (Np m k nO) I (YD I (CM L m) m.Bu (Fp k x) nO) nO:=by
 have hid:=E2 p;subst hid;have j:=d.kk.ki.of p;have r:=d.bk.ts t<|D2 p;have hA:=d.a;have hS:=d.s;have X:=r.sc;have c:=F5<|j.HM t.id DT;have D:Aed (FA k.AC) t.id=sM t:=by rwa[NF]
 rw[Fp];rw[p];dsimp only;cases P:IU t k.AD with
 |none=>
  refine⟨rfl,Fn.to (AQo I (FA k.AC) k.Ah L m k.im k.AD t t.id c D P oG b.tm b.B0 b.Dl) λV h R=> ?_⟩;obtain⟨q,W,z,M,J,H,y,w,v,rfl⟩:=R;let⟨f,N⟩:=b.XT (k':=k) (m':={m with es:=q,n:=W,sm:=z}) H ⟨rfl,rfl⟩ ⟨rfl,rfl⟩ ⟨rfl,rfl⟩ ⟨rfl,rfl⟩ y w v;exact⟨_,M,J,rfl,N,f,rfl⟩
 |some i=>
  have B:=PK P;have Q:t.AI.getD i Al=t.AI[i]:=by rw[DK,BS B];rfl
  have E:(GH t i).id=t.id:=rfl;have l:(I4 k t i).AC.map (·.id)=k.AC.map (·.id):=Sa _ _;refine⟨l,?_⟩;have EV:(NQ (FA k.AC) t.id<|GH t i).Perm (FA (I4 k t i).AC):=by have:=Uc k.AC<|GH t i;rw[CC]at this;rw[E,p]at this;exact this
  have u:∀s∈t.AI,B9 s.l:=λs H=>JV (j.Cj.2 s H).1;have G:B9 (GF t i).l:=by show B9 (t.AI.getD i Al).l;rw[Q];exact u _<|DR B
  have Y:=r.c.st;have hlen:=d.bk.sl;have Bz:∀K:Az,I4 k t i= {k with Ah:=Cy K (t.AI.getD i Al).name<|GF t i,AC:=A1 k.AC<|GH t i}->(∀a,DZ I t a->Fn 40 [.p 1 0,.g<|Dr t a,.v<|iV i] (CL m k.im k.AD) I (YC I L m k.im k.AD (NQ (FA k.AC) t.id<|GH t i)<|Cy K (t.AI.getD i Al).name<|GF t i) nO)->
   Fn 38 [.v<|sV t.id,.p 6 0] (Np m k nO) I (YD I (CM L m) m.Bu (I4 k t i) nO) nO:=λK e T=>by
   refine Fn.to (AQp I (FA k.AC) (NQ (FA k.AC) t.id<|GH t i) (Cy K (t.AI.getD i Al).name<|GF t i) L m k.im k.AD t t.id i c D P oG b.tm T) λV h R=> ?_;obtain⟨q,W,z,M,J,H,y,w,v,rfl⟩:=R;let⟨f,N⟩:=b.XT (k':=I4 k t i) (m':={m with es:=q,n:=W,sm:=z}) H ⟨rfl,rfl⟩ ⟨rfl,l⟩ ⟨rfl,rfl⟩ ⟨rfl,rfl⟩ (y.UZ EV) (by rwa[e]) (by rwa[e]);exact⟨_,M,J,rfl,N,f,rfl⟩
  by_cases f:t.Aw=1;refine Bz (Gy k.Ah t.on t.id) (by rw[I4];rw[Ac f]) λa O=> ?_;exact AWg I (FA k.AC) k.Ah L m k.im k.AD t a i f (F5<|r.on f) (AaK d.kk.ki) (λn o Z=>by have:=(d.bk.os n o Z).q;omega)
   {pow:=b.pow,AC:=O,id:=c,sc:=B,scl:=by omega,N3:=by omega,g:=JV j.Cj.1.1,gs:=u,ok:=AKg d.kk.ki p B λn U=>AUY U,ol:=G,len:=by rw[(AJV d.bk.os t.on t.id).2];omega,tm:=b.tm,B0:=b.B0,Dl:=b.Dl}
  refine Bz k.Ah (by rw[I4];rw[AY f]) λa O=> ?_;exact AWf I (FA k.AC) k.Ah L m k.im k.AD t a i f
   {pow:=b.pow,AC:=O,id:=c,sc:=B,scl:=by omega,N3:=by omega,g:=JV j.Cj.1.1,gs:=u,ok:=AKg d.kk.ki p B λn U=>U,ol:=G,len:=by omega,tm:=b.tm,B0:=b.B0,Dl:=b.Dl}
def AUT{m M}(l:AA Nm){k}(h:KK m M k):KK m M (l.foldl Fp k):=NC (P:=KK m M) (λ_ x h=>Rk h x) l h
def AUU(l:AA Nm)(k:Ap):(l.foldl Fp k).AD=k.AD:=NC (P:=λb:Ap=>b.AD=k.AD) (λa x h=>(YR a x).2.1.trans h) l rfl
def AQs(I L k m){A S}(a:CZ I L k m)(b:MG C F A S k)(B:S+A<=800000)(s:k.AD+1<=900000):
 Fn 11 [.p 1 0] (CL m k.im k.AD) I (Ki I (CM L m) (.t [])<|Fo k) nO:=by
 have G:=b.bk.tl;have l:CZ I L {k with AD:=k.AD+1} m:=⟨a.tab,a.pow,a.img,a.tm,a.B0,a.Dl,a.Bu,a.DD,a.lk,a.nd⟩;have D:=ASy I L {k with AD:=k.AD+1} m nO (k.AC.map (·.id)) Fp (by rw[DG];omega) l rfl λi x k' N d c=>by
  have h:KK C F k':=by rw[d];exact AUT _ ⟨b.kk.ki,b.kk.kq⟩
  have f:=ADc ((k.AC.map (·.id)).take i) (k:={k with AD:=k.AD+1}) (A:=A) (S:=S) b.bk ⟨b.kk.ki,b.kk.kq⟩;rw[<-d]at f;have P:lN ((k.AC.map (·.id)).take i)<=A:=by rw[Cu,DG];omega
  have H:k'.AD=k.AD+1:=by rw[d];exact AUU _ _
  have n:MG C F A (S+A) k':=⟨h,f.mono (Ag _) oG,b.a,B,oG,b.an,b.cl⟩;have p:x∈k'.AC.map (·.id):=by rw[c];exact De N
  let⟨t,o,e⟩:=BI.1 p;have u:Af k'.AC x=sM t:=by rw[<-e];exact NT h.ki.E0 o
  refine⟨?_,λJ j q _ z K=> ?_⟩;have:(Fp k' x).AC.map (·.id)=k'.AC.map (·.id):=by rw[Fp];rw[u];dsimp only;split;exact Sa _ _;rfl
  rwa[this];rw[<-K];exact(AQt J j k' q z n x t u).2
 refine fo func11 λQ O w r=>gg [(6,sH k.AD)]<|A0 D [(6,100)] λy E=> ?_;obtain⟨q,j,J,rfl,M,g,_⟩:=E;refine gG ?_;have e:(k.AC.map (·.id)).foldl Fp {k with AD:=k.AD+1}=Fo k:=rfl;rw[e]at g⊢;exact dn [] ⟨q,j,J,rfl,M,g⟩
def AP3{v}(h:wv v)(a:A4 v.l=v.l):WV v:=⟨h.imp_left Ae7,JV a⟩
def AeN{v}(h:wv v):BV v.name:=by rcases h with h|h|h;rw[h.1];intro x a;cases a;rw[h];intro x a;cases a;exact F5 h.2.2.2
structure VW(p:A6):Prop where
 ok:ABx p
 im:IQ p
 ib:Ie p
 R7:lN p.Ax<=1000
def AIN{I L k m}(b:CZ I L k m){t a}(ha:DZ I t a)(AD AP):By I (Jq k.im m.ip AD AP) ⟨k.Ah,t,A8⟩ (OZ a m.sm L) where
 tab:=b.tab
 pow:=b.pow
 img:=b.img
 args:=Ix.nil
 AC:=ha
 B0:=b.B0
 Dl:=b.Dl
 BU:=G6.empty
 out:=G6.empty
 Bo:=G6.empty
 BY:=G6.empty
def AEO{A t}(h:BT A t)(a:A<=800000):Kf t.c:=⟨by have:=h.c.fr;omega,by have:=h.c.st;omega,by have:=h.c.tr;omega⟩
def ASf{I L k m A S}(T:CZ I L k m)(g:MG C F A S k)(W:VW k.im){t}(Z:Af k.AC t.id=sM t)(P:t.Aw=0){a}(ha:DZ I t a):AGi I k.im m.ip t a k.Ah k.AD m.sm L:=by
 have b:=g.kk.ki.of Z;have d:=g.bk.ts t<|D2 Z;have V:=g.a;have hS:=g.s;have ac:=g.AD;have j:=AEO d V;have ad:=d.sc;have hlen:=g.bk.sl;have r:=F5<|b.HM t.id DT;have hq:∀n o,Am k.Ah n=sM o->lN o.var.q<=800000:=λn o s=>Ch (g.bk.os n o s).q V;have Q:∀v∈t.c.stack,A4 v.l=v.l:=λv p=>(b.FL.st v p).Cj;refine⟨{tab:=T.tab,pow:=T.pow,img:=T.img,ok:=W.ok,len:=j,Gv:=ha.c,As:=λv p=>AP3 (d.c.vs v p)<|Q v p,Ai:=λf J=>by have:=(d.c.vf f J).1;omega},AIN T ha _ _,oG,r,λn o s=>by have:=hq n o s;omega,λo hr=> ?_⟩;let⟨J,h,_⟩:=AAt hr;refine⟨h,?_⟩;let⟨f,fn,h1,h2,h3,h4,h5,R⟩:=AJL J;have aa:CU k.im o=BP o.code:=by rw[CU];rw[AY<|ACM h]
 rw[aa]at R;have Y:=Lz.N1 R;have E:BL A S ⟨k.Ah,{t with c:=D4 (FR t.c<|BP o.code) λf=>{f with pc:=f.pc+1}},A8⟩:=(show BL A S ⟨k.Ah,t,A8⟩from⟨d,g.bk.os,hlen⟩).core (by show t.Aw≠1;omega) (Rj (ACP d.c _) λ_ q=>q)<|Ag _;have N:=W9 d.c<|BP o.code;have l:∀v∈Ct t.c (BP o.code),A4 v.l=v.l:=λv p=>Q v<|Mx p;have D:=AHY (im:=k.im) (AD:=k.AD) (o:=o) (AR:=f.AR) (l:=Ct t.c<|BP o.code) E rfl P (λi hi=>ZE N oG) (λi hi=>by rw[DK,BS oG];exact l _<|DR _)
 have G:=E.t;have w:HQ t.c (BP o.code):=R;have K:=g.kk.ki.YS Z P;have M:F f.AR:=(b.FL.fr f<|AA1 h1).1;have H:CI C F k.AC t ⟨k.Ah,{t with c:=D4 (FR t.c<|BP o.code) λf=>{f with pc:=f.pc+1}},A8⟩:=
  K.core (λx B=>(UB (b.JW oG x B) w).trans<|Wa (UB (b.JW oG x B) w).on λ_=>rfl)<|Rr (ACw b.FL _) λ_ q=>q
 have hid:(CO k.im k.AD o f.AR (Ct t.c<|BP o.code) ⟨k.Ah,{t with c:=D4 (FR t.c<|BP o.code) λf=>{f with pc:=f.pc+1}},A8⟩).1.t.id=t.id:=by
  have O:=AHa (im:=k.im) (AD:=k.AD) (o:=o) (AR:=f.AR) (l:=Ct t.c<|BP o.code) H rfl (W8 b.FL _) M λx B=>g.cl _ (by rcases(AHb (im:=k.im) (AD:=k.AD) (o:=o) (AR:=f.AR) (l:=Ct t.c<|BP o.code) (k:=⟨k.Ah,{t with c:=D4 (FR t.c<|BP o.code) λf=>{f with pc:=f.pc+1}},A8⟩) l rfl).1 with⟨e,_⟩|⟨y,e,X,_⟩;rw[e]at B;cases B;rw[e]at B;rwa[A9.1 B,X])
  rcases O with⟨_,J⟩|⟨ab,e,hc,_⟩;exact J.id;exact hc.id
 refine⟨f,{top:=h1,pop:=R,len:=j,pc:= ?_,R7:=by show lN k.im.Ax<=1000000;have:=W.R7;omega,op:=λa'=> ?_,id:= ?_,q:=λn U s=> ?_}⟩;have ae:=(Ci.1 h3).1;have:=W.ok.code fn<|De h2;omega;have hp:=b.NO;have z:t.Bg∈t.id::t.AI.map (·.name):=by rw[<-hp];simp
 have af:=d.md;have ag:=d.rm;exact⟨⟨JV b.Cj.1.1,JV b.Cj.1.2⟩,AEO G V,b.HM _ z,(by show t.A7<=1000000;omega),(by show t.Ao<=1000000;omega),(by show lN t.AI<=900000;omega),(by show lN k.Ah<=900000;omega),
  λn U s=>⟨JV (g.kk.ki.Ep n U s).Cj,by have:=hq n U s;omega⟩,λv p=>⟨JV<|l v p,AeN<|N v p⟩,l,λu n hn=>(H.name hn).2.2,rfl,(by show k.AD<=1000000;omega)⟩
 rwa[show(CO (Jq k.im m.ip k.AD (CV t).2).im (Jq k.im m.ip k.AD (CV t).2).AD o f.AR (Ct t.c<|BP o.code)<|Gz ⟨k.Ah,t,A8⟩ o).1.t.id=t.id from hid];have:=(D.l.o n U s).q;omega
def N5(l:AA AL):Nat:=l.countP λt=>t.Aw==1
def Sx{t u}(hid:u.id=t.id)(c:t.Aw=1)(d:u.Aw≠1):∀ {l:AA AL},Fi l->Af l t.id=sM t->N5 (A1 l u)+1=N5 l
 |[],_,h=>by cases h
 |x::l,hs,h=>by
  let⟨k,i⟩:=G4.1 hs;unfold N5 A1 at*;rw[E4,List.countP_cons,List.countP_cons];by_cases e:x.id=t.id;have b:x=t:=by unfold Af at h;rw[KH,e]at h;simp at h;exact h
  subst b;have j:(l.map λy=>if y.id==u.id then u else y)=l:=by
   have:∀y∈l,(if y.id==u.id then u else y)=y:=λy m=>by rw[AY];intro q;have:=k y m;rw[eq_of_beq q,hid,Ma]at this;cases this
   rw[JD this];simp
  rw[j];have f:(if(x.id==u.id)=tT then u else x)=u:=Ac (by rw[hid];simp);rw[f,AY<|by simpa using d,Ac<|by simpa using c];have g:Af l t.id=sM t:=by
   unfold Af at h⊢;rw[KH]at h;have:(x.id==t.id)=fF:=by simpa using e
   rw[this]at h;exact h
  have n:=Sx hid c d i g;unfold N5 A1 at n;have a:(if(x.id==u.id)=tT then u else x)=x:=AY (by rw[hid];simpa using e);rw[a];omega
def AT3(k v)(a:Bool):(E7 k v a).t.Aw≠1:=by
 have:(Fq k.t v a).Aw≠1:=by show(if 0<lN k.t.AI then 2 else if a then 4 else 3)≠1;split;decide;split<;>decide
 rw[E7];dsimp only;split<;>exact this
theorem Sd(t s v)(a:Bool):(Dv t s v a).t.Aw≠1:=by rw[Dv];split;show(0:Nat)≠1;decide;rw[EH];split;exact AT3 _ _ _;show(0:Nat)≠1;decide
def HA(n:Nat)(a:Nm)(k:Ap)(other:Nm):Ap:=
 match Af k.AC other with
 |none=>k
 |some t=>
  if t.Aw≠1\/t.on≠a then k
  else match Am k.Ah a with
   |none=>k
   |some o=>if o.kind≠6\/ !o.done then k
    else
     let r:=Dv t k.Ah o.v o.ex;let k:={k with Ah:=r.s,AC:=A1 k.AC r.t}
     if r.e.done then GD n k other else k
def Tn(n k a):GD (n+1) k a=(k.AC.map (·.id)).foldl (HA n a) k:=rfl
structure DI(C:AT)(F:AH->Prop)(A S:Nat)(a k:Ap):Prop where
 q:MG C F A S k
 w:N5 k.AC<=N5 a.AC
 C3:k.AC.map (·.id)=a.AC.map (·.id)
 AD:k.AD=a.AD
 im:k.im=a.im
def ADA{A S c n}(m:∀k i,DI C F A S c k->DI C F A S c (GD n k i)){k}(h:DI C F A S c k)(i x):DI C F A S c (HA n i k x):=by
 rw[HA];split;exact h;rename_i t g;split;exact h;rename_i a;simp[Jk,Ka]at a;split;exact h;rename_i o l;split;exact h;rename_i e;simp[Jk,Ka,Jf,Bool.not_eq_false]at e;have b:Af k.AC t.id=sM t:=by rwa[E2 g]
 have f:=Q9 h.q.kk.ki h.q.kk.kq b a.1 (by rwa[a.2]) e.1;have d:=AFG (h.q.bk.ts t<|D2 g) a.1 h.q.bk.os h.q.bk.sl ((h.q.bk.os _ _ l).v6 e.1 e.2) o.ex;have p:=Sx f.2.2 a.1 (Sd t k.Ah o.v o.ex) h.q.kk.ki.E0 b;have j:DI C F A S c {k with Ah:=(Dv t k.Ah o.v o.ex).s,AC:=A1 k.AC (Dv t k.Ah o.v o.ex).t}:=
  ⟨⟨⟨f.1,f.2.1⟩,⟨(h.q.bk.put d.t).ts,d.o,(h.q.bk.put d.t).tl,d.s⟩,h.q.a,h.q.s,h.q.AD,h.q.an,h.q.cl⟩,by have:=h.w;show N5 (A1 _ _)<=_;omega,(Sa _ _).trans h.C3,h.AD,h.im⟩
 dsimp only;split;exact m _ _ j;exact j
def AC9{A S c}:∀(n:Nat)(k:Ap)(b:Nm),DI C F A S c k->DI C F A S c (GD n k b)
 |0,_,_,h=>h
 |n+1,k,b,h=>by rw[Tn];exact NC (P:=DI C F A S c) (λa x h=>ADA (AC9 n) h b x) _ h
def AWA{I}:FJ I ⟨[],[]⟩ UA:=⟨Av.empty,Av.empty⟩
def AGj(C:AT)(F:AH->Prop)(n:Nat):Prop:=∀(I:AB)(L:AA Rw)(k:Ap)(m:CH)(a:Nm)(A S:Nat),CZ I L k m->MG C F A S k->N5 k.AC<n->CB a->Fn 56 [.p 1 0,.v<|sV a] (CL m k.im k.AD) I (APc I (CM L m) m.Bu<|GD n k a) nO
def ASl(n)(IH:AGj C F n)(I L k m){A S}(X:CZ I L k m)(d:MG C F A S k)(hW:N5 k.AC<n+1)(c x)(f:CB c)(t)(u:Af k.AC x=sM t):
 Fn 109 [.v<|sV x,.p 6 0,.p 7 0] (Np m k<|sM c) I (YD I (CM L m) m.Bu (HA n c k x)<|sM c) nO:=by
 have N:=E2 u;subst N;have h:=d.bk.ts t<|D2 u;have hA:=d.a;have hS:=d.s;have aj:=h.sc;have l:=(d.kk.ki.of u).HM t.id DT;have hq:∀n o,Am k.Ah n=sM o->lN o.var.q<=1000000:=λn o ho=>by have:=(d.bk.os n o ho).q;omega
 let⟨j,a,Z,ha,_⟩:=(X.tm.find<|F5 l).2 t (by rw[NF];exact u);have p:=WJ I k.Ah m.sm.es m.sm.ns m.sm.n m.sm.m c (F5 f) (hq c) X.B0;unfold Qc at p;have b:∀J,I.le J->YD I (CM L m) m.Bu k (sM c) 100 {r:=.t [],AV:=Np m k<|sM c,J:=J}:=λJ hle=>⟨m,L,J,rfl,.of hle,X.up hle,rfl⟩;unfold HA;rw[u];dsimp only;by_cases e:t.Aw=1;have O:=h.on e;by_cases g:t.on=c;rw[AY<|by simp[e,g]];refine fo func109 λρ V w s=>gg [(13,hLk Aek I fF 11 12 2 m.n Z),
  (16,EN (t.Aw:Int) 1),(21,.eq (Value.bool<|!((Aa t.on).toList==(Aa c).toList)) fV<|by unfold Aa;rw[TY (F5 O)<|F5 f,g];simp)] ?_
 refine A0 p RB λy B=> ?_;obtain⟨q,J,rfl,hle,P⟩:=B;cases hgo:Am k.Ah c with
 |none=>
  simp[hgo]at P⊢;exact gG<|dn [] (b J hle) (h:={r:=.t [],AV:=Np m k<|sM c,J:=J})
 |some o=>
  simp[hgo]at P⊢;have hJ:=X.up hle;by_cases W:o.kind=6;cases z:o.done with
  |false=>
   rw[Ac sP];refine gg [(37,EN (o.kind:Int) 6),(42,.eq (Value.bool<|!o.done) tV<|by rw[z];rfl)] ?_;exact dn [] (b J hle) (h:={r:=.t [],AV:=Np m k<|sM c,J:=J})
  |true=>
   rw[AY<|by simp[W]];have ah:Am k.Ah t.on=sM o:=by rw[g];exact hgo
   have D:=Q9 d.kk.ki d.kk.kq u e ah W;have M:=AFG h e d.bk.os d.bk.sl ((d.bk.os _ _ hgo).v6 W z) o.ex;have hw:=Sx D.2.2 e (Sd t k.Ah o.v o.ex) d.kk.ki.E0 u;have ab:By J (Jq ⟨[],[]⟩ UA 0 (CV t).2) ⟨k.Ah,t,A8⟩ (OZ a m.sm L):={AIN hJ (ha.up hle) 0 (CV t).2 with img:=AWA};have hrs:=Aao ab o.v o.ex (AEO h hA) oG (F5 l) hq;generalize Dv t k.Ah o.v o.ex=r at D M hw hrs⊢;refine gg [(37,EN (o.kind:Int) 6),(42,.eq (Value.bool<|!o.done) fV<|by rw[z];rfl)] ?_;refine A0 hrs RB λy B=> ?_;obtain⟨E,G,Y,rfl,T,v⟩:=B;refine gG ?_;have ae:CB r.t.id:=by rw[D.2.2];exact l
   refine A0 (SJ Y {m with sm:=G.sm} k.im k.AD (FA k.AC) r.t G.a (F5 ae) v.AC<|D6.Bf T.le hJ.tm) [] λy B=> ?_;obtain⟨H,n3,U,rfl⟩:=B;have EV:(NQ (FA k.AC) r.t.id r.t).Perm (FA<|A1 k.AC r.t):=by have:=Uc k.AC r.t;unfold CC at this;rw[show Af k.AC r.t.id=sM t by rw[D.2.2];exact u]at this;exact this
   let⟨K,i⟩:=hJ.XT (k':={k with Ah:=r.s,AC:=A1 k.AC r.t}) (m':={m with sm:=G.sm,es:=H,n:=n3}) T ⟨rfl,rfl⟩ ⟨rfl,Sa _ _⟩ ⟨rfl,rfl⟩ ⟨rfl,rfl⟩ (U.UZ EV) v.B0 v.Dl;have i:=Cb.trans (Cb.of hle) i;cases Q:r.e.done with
   |false=>
    rw[AY sP];exact gg [(61,.eq (Value.bool r.e.done) fV<|by rw[Q])]<|dn [] ⟨_,G.L,Y,rfl,i,K,rfl⟩
   |true=>
    rw[Ac rfl];have aa:MG C F A S {k with Ah:=r.s,AC:=A1 k.AC r.t}:=⟨⟨D.1,D.2.1⟩,⟨(d.bk.put M.t).ts,M.o,(d.bk.put M.t).tl,M.s⟩,hA,hS,d.AD,d.an,d.cl⟩;refine gg [(61,.eq (Value.bool r.e.done) tV<|by rw[Q])]<|A0 (IH Y G.L {k with Ah:=r.s,AC:=A1 k.AC r.t} {m with sm:=G.sm,es:=H,n:=n3} t.id A S K aa (by show N5 (A1 _ _)<n;omega) l) [] λy B=> ?_;obtain⟨m4,L4,J4,rfl,af,ac,ad⟩:=B;exact gG<|dn [] ⟨m4,L4,J4,rfl,i.trans af,ac,ad⟩
  rw[Ac<|.inl W];exact gg [(37,Fs (o.kind:Int) 6)]<|dn [] (b J hle) (h:={r:=.t [],AV:=Np m k<|sM c,J:=J})
 rw[Ac<|.inr g];refine fo func109 λρ V w s=>gg [(13,hLk Aek I fF 11 12 2 m.n Z),
  (16,EN (t.Aw:Int) 1),(21,.eq (Value.bool<|!((Aa t.on).toList==(Aa c).toList)) tV<|by unfold Aa;rw[TY (F5 O)<|F5 f];simpa using g)] ?_
 exact dn [] (b I<|AB.le_refl I) (h:={r:=.t [],AV:=Np m k<|sM c,J:=I});rw[Ac<|.inl e];refine fo func109 λρ V w s=>gg [(13,hLk Aek I fF 11 12 2 m.n Z),
  (16,Fs (t.Aw:Int) 1)] ?_
 exact dn [] (b I<|AB.le_refl I) (h:={r:=.t [],AV:=Np m k<|sM c,J:=I})
def AIr:∀n,AGj C F n
 |0=>λI L k m c A S _ _ h=>absurd h<|Xx _
 |n+1=>λI L k m c A S D l hW g=>by
  have P:=l.a;have G:=l.bk.tl;have v:=ASy I L k m (sM c) (k.AC.map (·.id)) (HA n c) (by rw[DG];omega) D rfl λi x k' N o f=>by
   have d:DI C F A S k k:=⟨l,Ag _,rfl,rfl,rfl⟩;have b:DI C F A S k k':=by rw[o];exact NC (P:=DI C F A S k) (λa x h=>ADA (AC9 n) h c x) _ d
   have s:x∈k'.AC.map (·.id):=by rw[f];exact De N
   let⟨t,r,e⟩:=BI.1 s;have M:Af k'.AC x=sM t:=by rw[<-e];exact NT b.q.kk.ki.E0 r
   refine⟨(ADA (AC9 n) b c x).C3,λJ j u _ B H=> ?_⟩;rw[<-H];exact ASl n (AIr n) J j k' u B b.q (by have:=b.w;omega) c x g t M
  rw[<-Tn]at v;refine fo func56 λQ O w z=>gG<|A0 v [(6,100),(7,108)] λy E=> ?_;obtain⟨u,j,J,rfl,K,p,q⟩:=E;exact gG<|dn [] ⟨u,j,J,rfl,K,p,q⟩
def f48(k:Ap)(u:AL):Ap:={k with AC:=CC k.AC u}
def f50(a:Nm)(k:Ap)(x:AT×AW):Ap:={k with Bj:=k.Bj++[⟨k.AD,a,x.1,x.2⟩]}
def f52(a:Nm)(k:Ap)(x:Gr):Ap:={k with B5:=k.B5++[⟨k.AD,a,x⟩]}
def AUQ{l:AA AL}(h:lN l<=1)(k:Ap):l.foldl f48 k= {k with AC:=l.foldl CC k.AC}:=by rcases Ii h with rfl|⟨x,rfl⟩<;>rfl
def AUR(a:Nm){l:AA<|AT×AW}(h:lN l<=1)(k:Ap):l.foldl (f50 a) k= {k with Bj:=k.Bj++l.map λx:AT×AW=>(⟨k.AD,a,x.1,x.2⟩:FU)}:=by rcases Ii h with rfl|⟨x,rfl⟩;simp;rfl
def AUS(a:Nm){l:AA Gr}(h:lN l<=1)(k:Ap):l.foldl (f52 a) k= {k with B5:=k.B5++l.map λx:Gr=>(⟨k.AD,a,x⟩:Lk)}:=by rcases Ii h with rfl|⟨x,rfl⟩;simp;rfl
def ZW{b:Type}{l:AA b}(h:lN l<=1){i:Nat}{x:b}(a:l[i]? =sM x):i=0/\l=[x]:=by
 have:=(Ci.1 a).1;rcases Ii h with rfl|⟨y,rfl⟩;simp at this;have:i=0:=by simp at this;omega
 subst this;cases a;exact⟨rfl,rfl⟩
abbrev QI(I:AB)(P:AA Nat)(r:Ap×Bool):zP:=Ki I P (.v<|vB r.2) r.1
def AbC(I L k m)(b:CZ I L k m)(a)(hid:CB a)(d:Af k.AC a=nO):
 Fn 14 [.p 1 0,.v<|sV a] (CL m k.im k.AD) I (QI I (CM L m)<|runK k a) nO:=by
 have e:runK k a=(k,fF):=by rw[runK];rw[d]
 rw[e];exact fo func14 λh g w c=>gg [(15,Aez Aek I tT 13 14 2 m.n AeQ<|(b.tm.find<|F5 hid).1<|by rwa[NF])]<|dn [] ⟨m,L,I,rfl,.refl _ _,b⟩
def Aa8(I L k m)(c:CZ I L k m)(t)(hid:CB t.id)(f:Af k.AC t.id=sM t)(b:t.Aw≠0):
 Fn 14 [.p 1 0,.v<|sV t.id] (CL m k.im k.AD) I (QI I (CM L m)<|runK k t.id) nO:=by
 have e:runK k t.id=(k,fF):=by rw[runK];rw[f];dsimp only;rw[Ac b]
 rw[e];let⟨j,a,g,i,_⟩:=(c.tm.find<|F5 hid).2 t (by rwa[NF]);exact fo func14 λl h w d=>gg [(15,hLk Aek I tT 13 14 2 m.n g),(23,Fs (t.Aw:Int) 0)]<|dn [] ⟨m,L,I,rfl,.refl _ _,c⟩
def AbD(I L)(k:Ap)(m){A S N}(hK:CZ I L k m)(f:MG C F A S k)(hG:VW k.im)(hA:20<=A/\A+4<=800000)(hS:S+1<=800000)(hF:BF N k)(hN:N+1<=800000)(t:AL)(O:Af k.AC t.id=sM t)(g:t.Aw=0):
 Fn 14 [.p 1 0,.v<|sV t.id] (CL m k.im k.AD) I (QI I (CM L m)<|runK k t.id) nO:=by
 have ar:=f.kk.ki.of O;have ab:=ar.HM t.id DT;have am:=f.AD;obtain⟨j,a,h1,ha,_⟩:=(hK.tm.find<|F5 ab).2 t (by rw[NF];exact O);have ai:=ASe<|ASf hK f hG O g ha;have Z:=Tl hG.im f.an (AD:=k.AD) f.kk.ki O g λx D=>f.cl _<|AXh f.kk O g x D;have av:=ASj (AC:=k.AC) (im:=k.im) (t:=t) (s:=k.Ah) (AD:=k.AD) λn o ho w hw=>by obtain⟨t',h,_⟩:=(f.kk.ki.Dn n o ho).2 w hw;exact⟨t',h⟩
 have H:=AEf hG.im f.an f.kk O g λx D=>f.cl _<|AXh f.kk O g x D;obtain⟨Q,c,R⟩:=AYU hG.ib hA.1 f.bk f.kk O g;rw[run_eq O g];have W:∀u∈(C6 k.im t k.Ah k.AD).e.BU,CB u.id:=λu hu=>by
  have hm:u∈(Fb k t.id<|C6 k.im t k.Ah k.AD).AC.map (λx=>x)\/True:=.inr trivial;rcases AC8 (im:=k.im) (s:=k.Ah) (AD:=k.AD) g (λv hv=>(ar.FL.st v hv).Cj)with h0|⟨x,h0,D⟩;rw[h0]at hu;cases hu;have a9:u=x:=by rw[h0]at hu;exact A9.1 hu
  have a1:∃y∈(Fb k t.id<|C6 k.im t k.Ah k.AD).AC,y.id=u.id:=by
   have h2:u.id∈((C6 k.im t k.Ah k.AD).e.BY.foldl Gi<|(C6 k.im t k.Ah k.AD).e.BU.foldl CC<|A1 k.AC (C6 k.im t k.Ah k.AD).t).map (·.id):=by
    rw[AOg,h0];have a8:Af (CC (A1 k.AC (C6 k.im t k.Ah k.AD).t) x) x.id=sM x:=by rw[Mp,Ac rfl]
    rw[a9];exact BI.2 ⟨x,D2 a8,rfl⟩
   obtain⟨y,z,e⟩:=BI.1 h2;exact⟨y,z,e⟩
  obtain⟨y,z,e⟩:=a1;rw[<-e];exact(H.ki.G3 y z).HM y.id DT
 generalize C6 k.im t k.Ah k.AD=r at ai Z av H Q c R W⊢;have an:CB r.t.id:=by rw[Z.id];exact ab
 have a4:Af k.AC r.t.id=sM t:=by rw[Z.id];exact O
 have a7:Fi (A1 k.AC r.t):=sorted_put f.kk.ki.E0 _;refine fo func14 λρ bd w bc=>gg [(15,hLk Aek I tT 13 14 2 m.n h1),(23,EN (t.Aw:Int) 0)]<|A0 ai RB λy B=> ?_;obtain⟨E,V,J2,rfl,ao,p⟩:=B;refine gG<|A0 (SJ J2 {m with sm:=V.sm} k.im k.AD (FA k.AC) r.t V.a (F5 an) p.AC<|D6.Bf ao.le hK.tm) [] λy B=> ?_;obtain⟨ag,n3,au,rfl⟩:=B;have EV:(NQ (FA k.AC) r.t.id r.t).Perm (FA<|A1 k.AC r.t):=by have:=Uc k.AC r.t;unfold CC at this;rw[a4]at this;exact this
 obtain⟨ax,a3⟩:=hK.XT (k':={k with Ah:=r.s,AC:=A1 k.AC r.t}) (m':={m with sm:=V.sm,es:=ag,n:=n3}) ao ⟨rfl,rfl⟩ ⟨rfl,Sa _ _⟩ ⟨rfl,rfl⟩ ⟨rfl,rfl⟩ (au.UZ EV) p.B0 p.Dl;refine gG ?_;have a2:lN (A1 k.AC r.t)<=800000:=by rw[Lz.Q6];have:=f.bk.tl;omega
 have ac:=ASz J2 V.L {k with Ah:=r.s,AC:=A1 k.AC r.t} {m with sm:=V.sm,es:=ag,n:=n3} r.e.BU V.BU f48 (by have:=c.fk.1;omega) p.BU.ls ax λi x k' D d J X m' M hle Y b=>by
  obtain⟨rfl,K⟩:=ZW c.fk.1 D;obtain⟨q,rfl,hq⟩:=b;have d:k'= {k with Ah:=r.s,AC:=A1 k.AC r.t}:=d;subst d;exact AKK J X _ m' x q ⟨Y,hq,W x<|by rw[K];exact DT,λy z=>by rcases I6 z with rfl|⟨z,_⟩;exact an;exact(f.kk.ki.G3 y z).HM y.id DT,a7,by show(A1 k.AC r.t).length<=900000;omega⟩
 rw[AUQ c.fk.1]at ac;refine A0 ac [] λy B=> ?_;obtain⟨m4,L4,J4,rfl,ap,ay⟩:=B;refine gG ?_;have s:=ap.le;have ad:=AS0 J4 L4 {k with Ah:=r.s,AC:=r.e.BU.foldl CC<|A1 k.AC r.t} m4 r.e.out V.out t.id (f50 t.id) (by have:=c.ou.1;omega) (p.out.ls.Bf s λ_ _ h=>h) ay λi x k' D d J X m' M hle Y b=>by obtain⟨rfl,K⟩:=ZW c.ou.1 D;have b:M=W5 x:=b;subst b;have d:k'= {k with Ah:=r.s,AC:=r.e.BU.foldl CC<|A1 k.AC r.t}:=d;subst d;exact AWn J X _ m' t.id x Y (by show lN k.Bj<=900000;have:=hF.fl;omega)
 rw[AUR t.id c.ou.1]at ad;refine A0 ad [] λy B=> ?_;obtain⟨m5,L5,J5,rfl,aa,az⟩:=B;refine gG ?_;have ae:=AS1 J5 L5 _ m5 r.e.Bo V.Bo t.id (f52 t.id) (by have:=c.lg;omega) (p.Bo.ls.Bf (s.trans aa.le) λ_ _ h=>h) az λi x k' D d J X m' M hle Y b=>by obtain⟨rfl,K⟩:=ZW c.lg D;have b:M=M9 x:=b;subst b;have d:k'= {k with Ah:=r.s,AC:=r.e.BU.foldl CC<|A1 k.AC r.t,Bj:=k.Bj++r.e.out.map λx:AT×AW=>(⟨k.AD,t.id,x.1,x.2⟩:FU)}:=d;subst d;exact AWh J X _ m' t.id x Y (by show lN k.B5<=900000;have:=hF.ll;omega)
 rw[AUS t.id c.lg]at ae;refine A0 ae [] λy B=> ?_;obtain⟨m6,L6,J6,rfl,aq,a0⟩:=B;refine gG ?_;have G:=(s.trans aa.le).trans aq.le;have af:=AS2 J6 L6 _ m6 r.e.BY V.BY RI (by have:=c.wk.1;omega) (p.BY.ls.Bf G λx l h=>ABJ G x l h) a0 λi x k' D d J X m' M hle Y b=>by
  obtain⟨rfl,K⟩:=ZW c.wk.1 D;obtain⟨va,vc,vl,rfl,hv⟩:=b;have d:k'= {k with Ah:=r.s,AC:=r.e.BU.foldl CC<|A1 k.AC r.t,Bj:=k.Bj++r.e.out.map λx:AT×AW=>(⟨k.AD,t.id,x.1,x.2⟩:FU),B5:=k.B5++r.e.Bo.map λx:Gr=>(⟨k.AD,t.id,x⟩:Lk)}:=d;subst d;have aw:x∈r.e.BY:=by rw[K];exact DT
  obtain⟨t',U⟩:=av x aw;have hex:∃y,Af (r.e.BU.foldl CC<|A1 k.AC r.t) x.1=sM y:=by
   have h1:∃y,Af (A1 k.AC r.t) x.1=sM y:=by rw[N4];split;rw[U];exact⟨_,rfl⟩;exact⟨_,U⟩
   obtain⟨y,z⟩:=h1;rcases Ii c.fk.1 with e|⟨u,e⟩;rw[e];exact⟨y,z⟩;rw[e];show∃y,Af (CC (A1 k.AC r.t) u) x.1=sM y;rw[Mp];split;exact⟨_,rfl⟩;exact⟨y,z⟩
  obtain⟨y,z⟩:=hex;have ba:BT (A+3) y:=by
   have h1:BK (A+2) (S+1) (A1 k.AC r.t) r.s:=⟨((f.bk.mono (B:=A+2) oG<|Ag _).put Q.t).ts,Q.o,by rw[Lz.Q6];have:=f.bk.tl;omega,Q.s⟩;have h2:BK (A+3) (S+1) (r.e.BU.foldl CC<|A1 k.AC r.t) r.s:=by rcases Ii c.fk.1 with e|⟨u,e⟩;rw[e];exact h1.mono oG<|Ag _;have:=c.fk.2 u (by rw[e];exact DT);rw[e];exact h1.BU<|this.mono oG
   exact h2.ts y<|D2 z
  have bb:CB y.id:=by rw[E2 z,<-E2 U];exact(f.kk.ki.of U).HM t'.id DT
  exact Ad3 J X _ m' y x va vc vl Y z bb (by have:=ba.c.st;omega) (by have:=(c.wk.2 x aw).1;omega) hv
 have al:r.e.BY.foldl RI {k with Ah:=r.s,AC:=r.e.BU.foldl CC<|A1 k.AC r.t,Bj:=k.Bj++r.e.out.map λx:AT×AW=>(⟨k.AD,t.id,x.1,x.2⟩:FU),B5:=k.B5++r.e.Bo.map λx:Gr=>(⟨k.AD,t.id,x⟩:Lk)}=Fb k t.id r:=Oz _ _;rw[al]at af;refine A0 af [] λy B=> ?_;obtain⟨m7,L7,J7,rfl,a5,P⟩:=B;have T:=(((a3.trans ap).trans aa).trans aq).trans a5;have ak:(Fb k t.id r).im=k.im/\(Fb k t.id r).AD=k.AD:=⟨rfl,rfl⟩;cases hd:r.e.done with
 |false=>
  rw[AY sP];generalize Fb k t.id r=km at P H R T ak⊢;exact gg [(69,.eq (Value.bool r.e.done) fV<|by rw[hd])]<|dn [] ⟨m7,L7,J7,rfl,T,P⟩
 |true=>
  rw[Ac rfl];have ah:=AIr (lN (Fb k t.id r).AC+1) J7 L7 (Fb k t.id r) m7 t.id (A+4) (S+1) P ⟨H,R,hA.2,hS,am,f.an,f.cl⟩ (by have:N5 (Fb k t.id r).AC<=lN (Fb k t.id r).AC:=AO1;omega) ab;generalize Fb k t.id r=km at P H R T ak ah⊢;refine gg [(69,.eq (Value.bool r.e.done) tV<|by rw[hd])]<|A0 ah [] λy B=> ?_;obtain⟨m8,L8,J8,rfl,a6,aj,_⟩:=B;generalize GD (lN km.AC+1) km t.id=kd at aj⊢;exact gG<|dn [] ⟨m8,L8,J8,rfl,T.trans a6,aj⟩
def C8.reads{I a e As s}(h:C8 I a e As s){need}:Reads I need s.sv a s.n As:=by let⟨f,d,g⟩:=s;rcases h.at_ with⟨q1,q2,q3⟩|⟨b,c,q1,q2,_⟩;simp only at q1 q2 q3;subst q1;subst q2;subst q3;have:As=[]:=Ib (by have:=h.n;simpa using this);subst this;exact Ol;simp only at q1;subst q1;refine Aaj q2.CW ?_ h.n h.one;show((As++c).drop 0).take (d*a)=As;rw[S6,<-h.n,TC]
def ARx(I j s)(q:s.n<=16777216)(h:C8 I 8 63 j s):Fn 45 [s.sv] [] I (TS I 8 s.n j) nO:=by have t:=λi=>h.reads (need:=i);have e:=h.at_;have hlen:=h.n;have f:=h.one;let⟨a,n,c⟩:=s;simp only at e hlen q;refine Ju 8 func45 ntmps45 rfl rfl kR λA v w m=> ?_;rcases e with⟨rfl,rfl,rfl⟩|⟨l,k,rfl,_⟩;have u:j=[]:=Ib (by simpa using hlen);subst u;refine gg [(4,.op I _ (.v tV)<|MV (a:=nO) (n:=0) (c:=0) (.tmp 3) (.const zS) AOP)] ?_;exact dn [] ⟨nO,0,I,rfl,AB.le_refl _,Bm _,by unfold maxLen;omega,Dk.nil⟩;refine gg [(4,.op I _ (.v fV)<|MV (a:=sM ⟨l,0,nO⟩) (n:=n) (c:=c) (.tmp 3) (.const zS) AOP)]<|act (need:=[(124,.As [] 63)]) (Kk Be (n:=0) (cap:=0) (vs:=[]) (CQ:=[]) (x:=.v<|.slice (aP l) n c) AHW kR sP rfl rfl sP (t _) (Ag _) (by unfold maxLen;omega)<|by show 0+n<=16777216;omega) (QO<|.inr ⟨_,_,_,rfl,rfl⟩) ?_;rintro x ⟨d,g,y,o,z,rfl⟩;exact gG<|B4 140 I (vs:=j++g) (e:=63) λb J hle _ p=>gG<|dn [] ⟨_,d,J,sP,hle,oG,o,Dk.Og p hlen f⟩ (h:={r:=.v<|.slice (aP b) (0+n) d,J:=J})
def Af7(I j s)(q:s.n<=16777216)(h:C8 I 1 9 j s):Fn 118 [s.sv] [] I (TS I 1 s.n j) nO:=by have t:=λi=>h.reads (need:=i);have e:=h.at_;have hlen:=h.n;have f:=h.one;let⟨a,n,c⟩:=s;simp only at e hlen q;refine Ju 8 func118 ntmps118 rfl rfl kR λA v w m=> ?_;rcases e with⟨rfl,rfl,rfl⟩|⟨l,k,rfl,_⟩;have u:j=[]:=Ib (by simpa using hlen);subst u;refine gg [(4,.op I _ (.v tV)<|MV (a:=nO) (n:=0) (c:=0) (.tmp 3) (.const zS) AON)] ?_;exact dn [] ⟨nO,0,I,rfl,AB.le_refl _,Bm _,by unfold maxLen;omega,Dk.nil⟩;refine gg [(4,.op I _ (.v fV)<|MV (a:=sM ⟨l,0,nO⟩) (n:=n) (c:=c) (.tmp 3) (.const zS) AON)]<|act (need:=[(124,.As [] 9)]) (Kk Be (n:=0) (cap:=0) (vs:=[]) (CQ:=[]) (x:=.v<|.slice (aP l) n c) Ve kR sP rfl rfl sP (t _) (Ag _) (by unfold maxLen;omega)<|by show 0+n<=16777216;omega) (QO<|.inr ⟨_,_,_,rfl,rfl⟩) ?_;rintro x ⟨d,g,y,o,z,rfl⟩;exact gG<|B4 140 I (vs:=j++g) (e:=9) λb J hle _ p=>gG<|dn [] ⟨_,d,J,sP,hle,oG,o,Dk.Og p hlen f⟩ (h:={r:=.v<|.slice (aP b) (0+n) d,J:=J})
abbrev AGz(I:AB)(m:CH)(c:A6)(b a n:Nat)(d:AA AF):zP:=YF I (CL m c b) (λp:AU Au×Nat=>.v<|.slice p.1 n p.2) λJ p=>n<=p.2/\p.2<=maxLen/\Dk J a p.1 n d
def AW8(I m g b e)(l:m.lk.n<=16777216)(h:C8 I 8 63 e m.lk):Fn 13 [.p 1 0] (CL m g b) I (AGz I m g b 8 m.lk.n e) nO:=by exact fo func13 λo n w f=>gG<|KR (ARx I e m.lk l h) λa c J hle i j k=>gG<|dn [] ⟨(a,c),J,rfl,hle,i,j,k⟩
def Ago(I m g b e)(l:m.Bu.n<=16777216)(h:C8 I 1 9 e m.Bu):Fn 73 [.p 1 0] (CL m g b) I (AGz I m g b 1 m.Bu.n e) nO:=by exact fo func73 λo n w f=>gG<|KR (Af7 I e m.Bu l h) λa c J hle i j k=>gG<|dn [] ⟨(a,c),J,rfl,hle,i,j,k⟩
def AbA(I L k m){A S N}(d:CZ I L k m)(h:MG C F A S k)(g:VW k.im)(f:20<=A/\A+4<=800000)(i:S+1<=800000)(hF:BF N k)(hN:N+1<=800000)(b)(hid:CB b):
 Fn 14 [.p 1 0,.v<|sV b] (CL m k.im k.AD) I (QI I (CM L m)<|runK k b) nO:=by
 cases c:Af k.AC b with
 |none=>exact AbC I L k m d b hid c
 |some t=>
  have e:=E2 c;subst e;by_cases a:t.Aw=0;exact AbD I L k m d h g f i hF hN t c a;exact Aa8 I L k m d t hid c a
def AZv(I L k m){A S N}(B:CZ I L k m)(a:MG C F A S k)(z:VW k.im)(x:20<=A/\A+4<=800000)(O:S+A+1<=800000)(hF:BF N k)(hN:N+1<=800000)(d:k.AD+1<=900000)(e)(hid:CB e):
 Fn 25 [.p 1 0,.v<|sV e] (CL m k.im k.AD) I (QI I (CM L m)<|F6 k e) nO:=by
 let⟨u,v,K,M⟩:=QQ k;let⟨g,h⟩:=Vj a.bk hF a.kk;have f:MG C F A (S+A) (Fo k):=⟨Vk a.kk,g,a.a,oG,by rw[v];omega,a.an,a.cl⟩;rw[F6];refine fo func25 λP G w n=>gG<|A0 (AQs I L k m B a oG d) [] λy i=> ?_;obtain⟨H,s,p,rfl,j,b⟩:=i;have o:=AbA p s (Fo k) H b f (by rwa[u]) x oG h hN e hid;generalize Fo k=E at b o⊢;refine gG<|A0 o [] λy i=> ?_;obtain⟨J,t,q,rfl,l,c⟩:=i;generalize runK E e=r at c⊢;exact gG<|dn [] ⟨J,t,q,rfl,j.trans l,c⟩
abbrev AG0(I:AB)(m:CH)(b:A6)(a:Nat)(t:AL)(c:Bool):zP:=YF I (CL m b a) (λq:DV=>.t [.g<|Dr t q,.v<|vB c]) λJ q=>DZ J t q
def ARw(I c):Fn 44 [.v<|.slice nO 0 c] [] I (BW (.v zS) I) nO:=Ju 8 func44 ntmps44 rfl rfl kR λd b w a=>gg [(4,.op I _ (.v tV)<|MV (a:=nO) (n:=0) (c:=c) (.tmp 3) (.const zS) U0)]<|fi
structure TX where
 i:Nat
 J:AB
 fl:AA AF
def AA0(t:AL)(c:SV)(d:AU Au)(e:Nat)(f:AU Au)(g:Nat)(a:AU Au)(b:Nat):AA SV:=
 [.v<|sV t.id,.v<|sV t.Bg,.v<|vS<|AJ t.g.Ad.1,.v<|vS<|AJ t.g.Ad.2,.v<|vS<|AJ t.g.A5.1,.v<|vS<|AJ t.g.A5.2,
  c,.v<|.slice d (lN t.c.stack) e,.v<|.slice f (lN t.c.AP) g,.v<|.slice a (lN t.AI) b,.v<|nV t.A7,.v<|nV t.Ao,.v<|nV t.Aw,.v<|sV t.on,
  .v<|nV t.v.kind,.v<|nV t.v.n,.v<|sV t.v.name,.v<|vS<|AJ t.v.l.1,.v<|vS<|AJ t.v.l.2,.v<|vB t.ex]
def Aco(m:CH)(im:A6)(AD:Nat)(t:AL)(n cap:Nat)(sa:AU Au)(sc:Nat)(ta:AU Au)(tc:Nat)(ca:AU Au)(cc:Nat)(AE:AA AF)(x:TX):Hd where
 Cd:=[(4,.p 6 0),(6,.p 7 0),(46,.v<|iV n),(47,.v<|iV x.i)]
 Cc:=[(1,.cells (m.row im AD) 107),(2,.Aq<|.map m.es m.n),(3,.cells [.m 4,.m 5] 178),(4,.Aq<|.map m.sm.es m.sm.n),(5,.Aq<|.map m.sm.ns m.sm.m),(6,.cells ((EZ P3 RJ).map .v) 53),(7,.cells (AA0 t (.s 8 0 n cap) sa sc ta tc ca cc) 53),(8,.As (x.fl++AE) 65)]
 J:=x.J
structure TP(I:AB)(fs:AA Cw)(x:TX):Prop where
 i:x.i<=lN fs
 le:I.le x.J
 CE:Rows (Gd x.J) fs x.fl
def Acp(m:CH)(im:A6)(AD:Nat)(t:AL)(sa:AU Au)(sc:Nat)(ta:AU Au)(tc:Nat)(ca:AU Au)(cc:Nat)(J:AB):Hd where
 Cd:=[(4,.p 6 0),(6,.p 7 0),(46,.v<|.int iK 0),(47,.v<|.int iK 0)]
 Cc:=[(1,.cells (m.row im AD) 107),(2,.Aq<|.map m.es m.n),(3,.cells [.m 4,.m 5] 178),(4,.Aq<|.map m.sm.es m.sm.n),(5,.Aq<|.map m.sm.ns m.sm.m),(6,.cells ((EZ P3 RJ).map .v) 53),(7,.cells (AA0 t (.v zS) sa sc ta tc ca cc) 53)]
 J:=J
def AUe{J f c d a}(h:Av J F9 5 f.Ai c d a):∀ {I:AB} (b:AA AF),Gd I f b->Gd J f (BX b 4 [.slice c (lN f.Ai) d]):=by rintro I b ⟨e,g,i,rfl,q⟩;exact⟨c,d,a,rfl,h⟩
def Ac9(I L k m)(hK:CZ I L k m)(t)(hid:CB t.id)(ht:Af k.AC t.id=sM t)(ap:lN t.AI<=900000)(hle:Kf t.c)(hv:∀f∈t.c.AG,lN f.Ai<=900000):
 Fn 12 [.p 1 0,.v<|sV t.id] (CL m k.im k.AD) I (AG0 I m k.im k.AD t tT) nO:=by
 let⟨j,⟨⟨fa,fc,V,ak,al,z,am,an,A⟩,ca0,cc0,cl0⟩,h1,ha,_⟩:=(hK.tm.find<|F5 hid).2 t (by rw[NF];exact ht);have l1:=hle.f;have l2:=hle.s;have l3:=hle.t;refine fo func12 λρ aq w ao=>gg [(15,hLk Aek I tT 13 14 2 m.n h1)]<|KR (ARq I ca0 (lN t.AI) cc0 cl0 oG ha.s.sl) λN O J1 aa k1 k2 k3=>gG<|KR (ACs J1 ak (lN t.c.stack) al z oG (ha.up aa).c.s.sl) λP Q J2 ab s1 s2 s3=>gG ?_;have E:=aa.trans ab;refine KR (ARt J2 am (lN t.c.AP) an A oG (ha.up E).c.t.sl) λR S a M t1 t2 t3=>gG ?_;have p:=E.trans M;have W:=ha.up p;have B:∀J,a.le J->Av J Ll 14 t.AI N O cl0:=λJ l=>⟨(k3.up ab).up<|M.trans l,k1,k2,ha.s.CE⟩;have C:∀J,a.le J->Av J F9 5 t.c.stack P Q z:=λJ l=>⟨s3.up<|M.trans l,s1,s2,ha.c.s.CE⟩;have D:∀J,a.le J->Av J Oy 3 t.c.AP R S A:=λJ l=>⟨t3.up l,t1,t2,ha.c.t.CE⟩;cases fa with
 |none=>
  have hf:=W.c.f;have K:=hf.sl.Wr;have ag:t.c.AG=[]:=Ib K;have U:Fn 44 [.v<|.slice nO (lN t.c.AG) fc] [] a (BW (.v zS) a) nO:=by rw[show lN t.c.AG=0 from K];exact ARw a fc
  refine call U<|gG<|loop (ι:=Unit) (λ_=>True) (λ_=>0) (λ_=>Acp m k.im k.AD t P Q R S N O a) 300 [(6,100),(7,188)] () trivial ?_;rintro⟨⟩ _ _ T;refine gg [(48,hF<|(0:Int)<(0:Int))] ?_;refine dn [] ⟨⟨⟨nO,0,[],P,Q,z,R,S,A⟩,N,O,cl0⟩,a,?_,p,⟨⟨by rw[ag];exact Av.empty,C a<|AB.le_refl _,D a<|AB.le_refl _⟩,B a<|AB.le_refl _⟩⟩ (h:={r:=.t [.g<|AA0 t (.v zS) P Q R S N O,.v tV],AV:=CL m k.im k.AD,J:=a});unfold Dr AA0;rw[K]
 |some ad=>
  have hf:=W.c.f;refine PE (Yl a ad (lN t.c.AG) fc V oG hf.sl) λy AE ae af hj=>gG<|loop (ι:=TX) (TP a t.c.AG) (λx=>lN t.c.AG-x.i) (Aco m k.im k.AD t (lN t.c.AG) y P Q R S N O AE) 300 [(6,100),(7,188),(8,404)] ⟨0,a,V⟩ ⟨Bm _,AB.le_refl _,hf.CE⟩ ?_;rintro⟨i,J,fl⟩ ⟨p1,p2,p3⟩ again T;simp only at p1 p2 p3;have H:lN fl=lN t.c.AG*5:=p3.len<|JN _;by_cases g:i<lN t.c.AG;have hx:t.c.AG[i]? =sM t.c.AG[i]:=BS g;have ai:=hv _<|DR g;generalize t.c.AG[i]=f at hx ai;let⟨va,vc,F,e1,Z⟩:=p3.get (JN _) hx;have G:(fl++AE)[0+i*5+4]? =sM (.slice va (lN f.Ai) vc):=by
   have:((fl.drop<|i*5).take 5)[4]? =sM (.slice va (lN f.Ai) vc):=by rw[e1];rfl
   rw[GO,Ac oG,Jg]at this;rw[FE,Gj<|by rw[H];omega];exact this
  refine gg [(48,tH i<|lN t.c.AG),
   (58,Aee Be J 45 56 57 8 0 (lN t.c.AG) y i 5 rfl rfl g),
   (60,Aen Be J 29 59 8 (0+i*5+4) 65 rfl rfl G)] ?_
  refine KR (ACs J va (lN f.Ai) vc F oG Z.sl) λs u d o q1 q2 q3=>gg [(62,Aee Be d 45 52 53 8 0 (lN t.c.AG) y i 5 rfl rfl g)]<|B0 (k:=8) (off:=0+i*5+4) (t:=29) (ad:=.tmp 63) (x:=.tmp 61) (e:=65) (vs:=fl++AE) (cs:=[.slice s (lN f.Ai) u]) (ty:=⟨1,_,_⟩) (I':=d) kR kR kR rfl rfl (by rw[CK,H];show 0+i*5+4+1<=_;omega) (by intro v hv;rw[A9.1 hv];rfl) kR ?_;have ah:BX (fl++AE) (0+i*5+4) [.slice s (lN f.Ai) u]=BX fl (i*5+4) [.slice s (lN f.Ai) u]++AE:=by rw[FE,Ut<|by rw[H];show i*5+4+1<=_;omega]
  rw[ah];refine gg [(64,sH i)] ?_;refine bk again [] ⟨i+1,d,BX fl (i*5+4) [.slice s (lN f.Ai) u]⟩ ⟨by show i+1<=_;omega,p2.trans o,?_⟩;have Y:t.c.AG.set i f=t.c.AG:=by apply VJ;intro q;rw[VL];by_cases e:i=q;subst e;rw[Ac rfl,Ac g,hx];rw[AY e]
  show Rows (Gd d) t.c.AG _;have:=Rows.AV (S:=Gd d) (JN _) (λx l h=>Nl o x l h) p3 hx (x':=f) (cs:=[.slice s (lN f.Ai) u]) (j:=4) (λaj X=>AUe (J:=d) ⟨q3,q1,q2,Z.CE⟩ aj X) sP;rw[Y]at this;exact this;have hi:i=lN t.c.AG:=oG;subst hi;refine B4 8 J (vs:=fl++AE) (e:=65) λb d o _ hJ=>gg [(48,fH (lN t.c.AG)<|lN t.c.AG)] ?_;have c:=p2.trans o;have n:Rows (Gd d) t.c.AG fl:=p3.mono λx l h=>Nl o x l h;exact dn [] ⟨⟨⟨sM ⟨b,0,nO⟩,y,fl,P,Q,z,R,S,A⟩,N,O,cl0⟩,d,rfl,p.trans c,⟨⟨Av.Ky hJ n (JN _) (AAJ n) ae af,C d c,D d c⟩,B d c⟩⟩
structure AGk(f:Lz.Ev):Prop where
 a:f.args<=16
 v:f.args+f.Ai<=16
 c:0<lN f.code/\lN f.code<=256
 o:∀o∈f.code,IY o
def ZC(f:Lz.Ev)(a:AU Au)(b:Nat):AA AF:=[.int iK f.args,.int iK f.Ai,.slice a (lN f.code) b]
def ARY(I:AB)(ca:AU Au)(n cc:Nat)(i:Nat):Hd where
 Cd:=[(38,.v<|.slice ca n cc),(39,.v<|iV n),(40,.v<|iV i)]
 J:=I
def ARa(I)(k:EB I)(f j)(g:Nat)(a)(h:AGk f)(q:Av I Q2 2 f.code j g a):Fn 267 [.g<|(ZC f j g).map .v] [] I (BW (.v<|.int iK 0) I) nO:=by let⟨h1,h2,⟨u,v⟩,h5⟩:=h;refine fo func267 λx r w m=>gg [(7,hF<|(f.args:Int)<0),(11,hF<|(f.args:Int)>16),(16,hF<|(f.Ai:Int)<0),(21,hF<|(f.Ai:Int)>16),(27,hW ((f.args:Int)+(f.Ai:Int)) ((f.args+f.Ai:Nat):Int)),(28,hF<|((f.args+f.Ai:Nat):Int)>16),(32,hN (lN f.code:Int) 0),(36,hF<|(lN f.code:Int)>256)]<|loop (ι:=Nat) (λi=>i<=lN f.code) (λi=>lN f.code-i) (ARY I j (lN f.code) g) 1000 [] 0 (Bm _) ?_;intro i l again T;by_cases c:i<lN f.code;have p:f.code[i]? =sM f.code[i]:=BS c;have n:=h5 _<|DR c;generalize f.code[i]=o at p n;obtain⟨b,d,arr,e,t,s,rfl,q2,q3,q4,q5⟩:=q.cell AAM p;subst q3;exact gg [(41,tH i<|lN f.code),(42,Br I PN b d (lN f.code) g i c),(43,D8 I XI (d+i*2) (Cs o) rfl q2 q5)]<|call (XE I k o n)<|gg [(47,sH i)]<|bk again [] (i+1) oG;have l:i=lN f.code:=oG;subst l;exact gg [(41,fH (lN f.code)<|lN f.code)]<|fi
structure Ra(im:A6):Prop where
 cs:lN im.DN<=64
 fs:0<lN im.Ax/\lN im.Ax<=16
 ck:∀v∈im.DN,(v=BH v.n\/(v=D1 v.l/\A4 v.l=v.l))
 fk:∀f∈im.Ax,AGk f
def AVY(I:AB)(im:A6)(ip:Dw)(i:Nat):Hd where
 Cd:=[(1,.p 1 0),(19,.v<|.slice ip.ka (lN im.DN) ip.kc),(20,.v<|iV<|lN im.DN),(21,.v<|iV i)]
 Cc:=[(1,.cells (Fa im ip) 32)]
 J:=I
def AVZ(I:AB)(im:A6)(ip:Dw)(i:Nat):Hd where
 Cd:=[(44,.v<|.slice ip.ua (lN im.Ax) ip.uc),(45,.v<|iV<|lN im.Ax),(46,.v<|iV i)]
 J:=I
def ARf{v}(h:v=BH v.n\/(v=D1 v.l/\A4 v.l=v.l)):v.right/\(v.kind=1\/v.kind=2)/\A4 v.l=v.l:=by rcases h with h|⟨h,a⟩;rw[h];exact⟨AMu _,.inl rfl,AAF⟩;refine⟨?_,.inr ?_,a⟩;rw[h,AMr];simpa using a;rw[h];rfl
def AJv(I)(t:EB I)(P:Pow I)(a y)(j:FJ I a y)(h:Ra a):Fn 187 [.g<|Fa a y] [] I (BW (.v<|.int iK 0) I) nO:=by
 let⟨h1,⟨R,S⟩,h4,h5⟩:=h;have E:=j.k;have G:=j.u;let⟨H,p,J,L,z,M⟩:=y;simp only at E G;refine fo func187 λs n w F=>gg [(11,hF<|(lN a.DN:Int)>64),(16,hF<|(lN a.Ax:Int)>16)]<|loop (ι:=Nat) (λi=>i<=lN a.DN) (λi=>lN a.DN-i) (AVY I a ⟨H,p,J,L,z,M⟩) 1000 [(1,100)] 0 (Bm _) ?_;intro i j again T;by_cases c:i<lN a.DN;have m:a.DN[i]? =sM a.DN[i]:=BS c;let⟨K,r,r3⟩:=ARf<|h4 _<|DR c;have l:WV a.DN[i]:=⟨by rcases h4 _ (DR c)with q|q;exact .inl q;exact .inr<|.inl q.1,JV r3⟩;generalize a.DN[i]=v at m K r l;obtain⟨b,d,arr,e,O,o,rfl,q2,q3,q4,q5⟩:=E.cell Jd m;have q3:o=BG v:=q3;subst q3;have u:=AF4 I P v l;rw[K]at u;have D:∀C:Bv,At 187 f187 f187.ntmps I w s [] (Ends [] I s n w (BW (.v<|.int iK 0) I) nO) C->At 187 f187 f187.ntmps I w s [] (Ends [] I s n w (BW (.v<|.int iK 0) I) nO) C:=λ_ h=>h;rcases r with r|r;exact gg [(22,tH i<|lN a.DN),(23,Br I Gx b d (lN a.DN) p i c),(24,D8 I Oo (d+i*5) (BG v) rfl q2 q5),(27,EN (v.kind:Int) 1)]<|call u<|gg [(38,sH i)]<|bk again [] (i+1) oG;exact gg [(22,tH i<|lN a.DN),(23,Br I Gx b d (lN a.DN) p i c),(24,D8 I Oo (d+i*5) (BG v) rfl q2 q5),(27,Fs (v.kind:Int) 1),(31,EN (v.kind:Int) 2)]<|call u<|gg [(38,sH i)]<|bk again [] (i+1) oG;have j:i=lN a.DN:=oG;subst j;refine gg [(22,fH (lN a.DN)<|lN a.DN),(42,hN (lN a.Ax:Int) 0)]<|loop (ι:=Nat) (λi=>i<=lN a.Ax) (λi=>lN a.Ax-i) (AVZ I a ⟨H,p,J,L,z,M⟩) 3000 [] 0 (Bm _) ?_;intro i j g Q;by_cases c:i<lN a.Ax;have m:a.Ax[i]? =sM a.Ax[i]:=BS c
 have k:=h5 _<|DR c;generalize a.Ax[i]=f at m k;obtain⟨b,d,arr,e,O,o,rfl,q2,q3,q4,q5⟩:=G.cell (WI I) m;obtain⟨A,B,N,rfl,x⟩:=q3;exact gg [(47,tH i<|lN a.Ax),(48,Br I M7 b d (lN a.Ax) z i c),(49,D8 I AM1 (d+i*3) (ZC f A B) rfl q2 q5)]<|call (ARa I t f A B N k x)<|gg [(55,sH i)]<|bk g [] (i+1) oG;have j:i=lN a.Ax:=oG;subst j;exact gg [(47,fH (lN a.Ax)<|lN a.Ax)]<|fi
def H5(I)(at_ e:Int):Fn 341 [.v tV,.v<|nV at_,.v<|nV e] [] I (BW (.t []) I) nO:=fo func341 λc b w a=>gG<|fi
def AeI(c:A6)(d:Dw)(f:Lz.Ev)(a:AU Au)(b:Nat):AA SV:=Fa c d++(ZC f a b).map .v++[.m 2,.m 3]
def VB(e:A6)(g:Dw)(f:Lz.Ev)(a:AU Au)(b:Nat)(d:Ae Ar)(n:Nat)(c:Ae Ar)(h:Nat):AA (Nat×AK):=[(1,.cells (AeI e g f a b) 380),(2,.Aq<|.map d n),(3,.Aq<|.map c h)]
structure TU(I:AB)(im:A6)(ip:Dw)(f:Lz.Ev)(ca:AU Au)(cc:Nat)(cl:AA AF):Prop where
 tab:EB I
 img:FJ I im ip
 cs:lN im.DN<=64
 fs:lN im.Ax<=16
 fa:∀g∈im.Ax,g.args<=16
 code:Av I Q2 2 f.code ca cc cl
 len:lN f.code<=256
 a:f.args<=16
 v:f.args+f.Ai<=16
def AP0(I:AB)(e:A6)(g:Dw)(f:Lz.Ev)(a:AU Au)(b:Nat)(d:Ae Ar)(n:Nat)(c:Ae Ar)(i:Nat):zP:=λ_ h=>h= {r:=.t [],AV:=VB e g f a b d n c i,J:=I}
def ALy{o}(h:IY o):1<=o.code/\o.code<=47/\o.a<=65535:=by rw[IY,UX]at h;simp only[Bool.and_eq_true,decide_eq_true_eq]at h;refine⟨h.1.1,h.1.2,?_⟩;have:=h.2;split at this;have:=eq_of_beq this;omega;simpa using this
def Adt(I j p f s)(m:Nat)(K)(h:TU I j p f s m K)(C)(n:Nat)(B)(J:Nat)(i:Nat)(o)(H:f.code[i]? =some o)(V:IY o)(a:Px j f o):
 Fn 269 [.p 1 0,.v<|.int .i64 (i:Int)] (VB j p f s m C n B J) I (AP0 I j p f s m C n B J) none:=by
 let⟨u,E,W,Y,X,hs,aa,ha,hv⟩:=h;let⟨z,A,b3⟩:=ALy V;have Z:=E.k;have G:=E.u;have x:i<f.code.length:=(List.getElem?_eq_some_iff.1 H).1;let⟨ka,kc,kl,ua,y,ul⟩:=p;simp only at Z G;obtain⟨b,l,arr,e,fr,ac,rfl,q2,q3,q4,q5⟩:=hs.cell AAM H;subst q3;refine fo Tryz.func269 λρ ab w F=>gg [(13,Br I PN b l f.code.length m i x),(14,D8 I XI (l+i*2) (Cs o) rfl q2 q5)]<|call (QN I u o.code z A) ?_;have hA:Cf o.code<=5:=(AAO o.code z A).1;rw[Px]at a;by_cases L:Cf o.code=1;rw[L]at a;have a:o.a<j.DN.length:=by simpa using a
 exact gg [(24,hE (Cf o.code:Int) 1),(33,hT<|(o.a:Int)<(j.DN.length:Int))]<|call (H5 I (i:Int) 5)<|gG<|dn [] rfl;by_cases M:Cf o.code=2;rw[M]at a;have a:o.a<f.args+f.Ai:=by simpa using a
 exact gg [(24,hN (Cf o.code:Int) 1),(37,hE (Cf o.code:Int) 2),(50,hW ((f.args:Int)+(f.Ai:Int)) ((f.args+f.Ai:Nat):Int)),(51,hT<|(o.a:Int)<((f.args+f.Ai:Nat):Int))]<|call (H5 I (i:Int) 1)<|gG<|dn [] rfl;by_cases N:Cf o.code=3;rw[N]at a;have a:o.a<f.code.length:=by simpa using a
 exact gg [(24,hN (Cf o.code:Int) 1),(37,hN (Cf o.code:Int) 2),(55,hE (Cf o.code:Int) 3),(64,hT<|(o.a:Int)<(f.code.length:Int))]<|call (H5 I (i:Int) 7)<|gG<|dn [] rfl;by_cases O:Cf o.code=4;rw[O]at a;simp only[Bool.and_eq_true,Bool.or_eq_true,decide_eq_true_eq,bne_iff_ne,ne_eq,beq_iff_eq]at a;let⟨a,d⟩:=a;refine gg [(24,hN (Cf o.code:Int) 1),(37,hN (Cf o.code:Int) 2),(55,hN (Cf o.code:Int) 3),(68,hE (Cf o.code:Int) 4),(77,hT<|(o.a:Int)<(j.Ax.length:Int))]<|call (H5 I (i:Int) 6) ?_;have v:j.Ax[o.a]? =some j.Ax[o.a]:=List.getElem?_eq_getElem a;rw[List.getD_eq_getElem?_getD,v,Option.getD_some]at d;generalize j.Ax[o.a]=g at v d;obtain⟨fb,c,D,fe,T,Q,R,S,rfl,t,_,g4,U⟩:=OR G v;have go1:=U 0 _ rfl;simp only[Nat.add_zero]at go1;by_cases q:o.code=38;have k:g.args=1:=by rcases d with d|d;exact absurd q oG;exact d
 exact gg [(82,hE (o.code:Int) 38),(100,Br I M7 fb c j.Ax.length y o.a a),(102,ED I Ek rfl (c+o.a*3) (.int .i64 g.args) t go1),(103,hE (g.args:Int) 1)]<|call (H5 I (i:Int) 6)<|gG<|dn [] rfl;by_cases c40:o.code=40;have k:g.args=1:=by rcases d with d|d;exact absurd c40 oG;exact d
 exact gg [(82,hN (o.code:Int) 38),(86,hE (o.code:Int) 40),(100,Br I M7 fb c j.Ax.length y o.a a),(102,ED I Ek rfl (c+o.a*3) (.int .i64 g.args) t go1),(103,hE (g.args:Int) 1)]<|call (H5 I (i:Int) 6)<|gG<|dn [] rfl;by_cases r:o.code=45;have k:g.args=1:=by rcases d with d|d;exact absurd r oG;exact d
 exact gg [(82,hN (o.code:Int) 38),(86,hN (o.code:Int) 40),(91,hE (o.code:Int) 45),(100,Br I M7 fb c j.Ax.length y o.a a),(102,ED I Ek rfl (c+o.a*3) (.int .i64 g.args) t go1),(103,hE (g.args:Int) 1)]<|call (H5 I (i:Int) 6)<|gG<|dn [] rfl;exact gg [(82,hN (o.code:Int) 38),(86,hN (o.code:Int) 40),(91,hN (o.code:Int) 45)]<|dn [] rfl;by_cases P:Cf o.code=5;rw[P]at a;have a:o.a<=63:=by simpa using a
 exact gg [(24,hN (Cf o.code:Int) 1),(37,hN (Cf o.code:Int) 2),(55,hN (Cf o.code:Int) 3),(68,hN (Cf o.code:Int) 4),(107,hE (Cf o.code:Int) 5),(110,hT<|(o.a:Int)<=63)]<|call (H5 I (i:Int) 1)<|gG<|dn [] rfl;exact gg [(24,hN (Cf o.code:Int) 1),(37,hN (Cf o.code:Int) 2),(55,hN (Cf o.code:Int) 3),(68,hN (Cf o.code:Int) 4),(107,hN (Cf o.code:Int) 5)]<|dn [] rfl
def Adh:prog.underlying 332=sM (.map 3 383):=kR
def AA8:prog.underlying 378=sM (.map 3 4):=kR
def AfJ:Ae3 332 3 383 (.int iK):=⟨kR,Ek⟩
def AeP:∀w,(zeroValue 383).run prog w=.ok (.agg ([.int iK 0,.int iK 0]:AA AF).toArray) w:=by have h:(prog.info? 383).map (λi=>i.zero)=sM (sM<|.agg ([.int iK 0,.int iK 0]:AA AF).toArray):=kR;let⟨i,a,b⟩:=L9.1 h;intro w;simp[zeroValue,typeInfo,a,b,aT]
abbrev JB(s:Nat×Nat):AA AF:=[.int iK s.1,.int iK s.2]
structure Hu(S:AA (Nat×Nat))(es:Ae Ar)(n:Nat)(b:Ae Ar)(no:Nat):Prop where
 st:MapKept.Stamped es n
 so:MapKept.Stamped b no
 CG:∀e∈es.toList,∃(a:Nat)(s:Nat×Nat),S[a]? =sM s/\e.key=.int iK (a:Int)/\e.val=.agg (JB s).toArray
 opn:∀e∈b.toList,∃a:Nat,e.key=.int iK (a:Int)/\e.val=vB tT/\∃e'∈es.toList,e'.key=e.key
theorem Hu.A3{S b}{n:Nat}{c}{g:Nat}(h:Hu S b n c g):∀e∈b.toList,MapKept.IsKey (.int iK) e.key:=λe d=>by let⟨a,s,_,f,_⟩:=h.CG e d;rw[f];exact rfl
def Hu.AKH{S c}{n:Nat}{b}{g:Nat}(h:Hu S c n b g):∀e∈b.toList,MapKept.IsKey (.int iK) e.key:=λe d=>by let⟨a,f,_⟩:=h.opn e d;rw[f];exact rfl
open Classical in
theorem Wq{α:Type}: ∀ {l m:List α},l.Nodup->(∀x∈l,x∈m)->l.length<=m.length
 |[],_,_,_=>Nat.zero_le _
 |x::l,m,h,hs=>by
  have hx:=hs x sP
  have ih:=Wq (m:=m.erase x) (List.nodup_cons.1 h).2 (λy hy=>(List.mem_erase_of_ne (λe:y=x=>(List.nodup_cons.1 h).1 (by rw[<-e];exact hy))).2 (hs y (by simp[hy])))
  rw[List.length_erase_of_mem hx]at ih
  have:=List.length_pos_of_mem hx
  simp only[List.length_cons];omega
def Hu.size{S c n f l}(h:Hu S c n f l):c.size<=lN S:=by
 have i:=h.st.2.2;have b:∀k∈c.toList.map (·.key),k∈(lR<|lN S).map (λa:Nat=>Value.int iK (a:Int)):=λk d=>by obtain⟨e,g,rfl⟩:=BI.1 d;let⟨a,s,j,d,_⟩:=h.CG e g;exact BI.2 ⟨a,O4.2 (Ci.1 j).1,d.symm⟩
 have:=Wq i b;simpa using this
def wμ(S:AA<|Nat×Nat)(b a:Ae Ar):Nat:=2*(lN S-b.size)+a.size
def Hu.find{S c}{n:Nat}{l}{r:Nat}(h:Hu S c n l r)(a:Nat):
 (Instr.findNow (.int iK) (iV a) c.toList 0=sM nO/\∀e∈c.toList,e.key≠.int iK (a:Int))\/(∃j s,Instr.findNow (.int iK) (iV a) c.toList 0=sM (sM (j,.agg (JB s).toArray))/\S[a]? =sM s/\∃e∈c.toList,e.key=.int iK (a:Int)):=by
 rcases MapKept.findNow_spec (d:=.int iK) (k:=.int iK (a:Int)) rfl c.toList 0 h.A3 with q|⟨j,e,f,m,g⟩;exact .inl q;have i:=De m;let⟨b,s,o,k,p⟩:=h.CG e i;rw[g]at k;have d:a=b:=by have:=(Value.int.inj k).2;omega
 subst d;rw[p]at f;exact .inr ⟨_,s,f,o,e,i,g⟩
def Hu.push{S g}{n:Nat}{d}{i:Nat}(h:Hu S g n d i){a:Nat}{s}(u:S[a]? =sM s)(k:∀e∈g.toList,e.key≠.int iK (a:Int)):
 Hu S (g.push {key:=.int iK (a:Int),val:=.agg (JB s).toArray,born:=n}) (n+1) (d.push {key:=.int iK (a:Int),val:=vB tT,born:=i}) (i+1)/\wμ S (g.push {key:=.int iK (a:Int),val:=.agg (JB s).toArray,born:=n}) (d.push {key:=.int iK (a:Int),val:=vB tT,born:=i})<=wμ S g d/\Instr.findNow (.int iK) (iV a) d.toList 0=sM nO:=by
 have l:∀e∈d.toList,e.key≠.int iK (a:Int):=λe c t=>by let⟨_,_,_,m,f,q⟩:=h.opn e c;exact k m f<|q.trans t
 have hW:Hu S (g.push {key:=.int iK (a:Int),val:=.agg (JB s).toArray,born:=n}) (n+1) (d.push {key:=.int iK (a:Int),val:=vB tT,born:=i}) (i+1):=by refine⟨MapKept.stamped_push h.st k,MapKept.stamped_push h.so l,λe c=> ?_,λe c=> ?_⟩;simp only[P5,Bc,A9]at c;rcases c with c|rfl;exact h.CG e c;exact⟨a,s,u,rfl,rfl⟩;simp only[P5,Bc,A9]at c;rcases c with c|rfl;let⟨b,r,o,m,f,p⟩:=h.opn e c;exact⟨b,r,o,m,by simp[P5,Array.mem_toList_iff.1 f],p⟩;exact⟨a,rfl,rfl,{key:=.int iK (a:Int),val:=.agg (JB s).toArray,born:=n},by simp[P5],rfl⟩
 refine⟨hW,?_,?_⟩;have:=hW.size;unfold wμ;simp only[NZ]at this⊢;omega;rcases MapKept.findNow_spec (d:=.int iK) (k:=.int iK (a:Int)) rfl d.toList 0 h.AKH with q|⟨j,e,r,o,p⟩;exact q.1;exact absurd p<|l e<|De o
def AHC(I:AB)(g:A6)(i:Dw)(f:Lz.Ev)(d:AU Au)(e:Nat)(S:AA<|Nat×Nat)(m:Nat):zP:=λ_ h=>∃(b:Ae Ar)(n:Nat)(a:Ae Ar)(c:Nat),Hu S b n a c/\wμ S b a<=m/\h= {r:=.t [],AV:=VB g i f d e b n a c,J:=I}
def AFb:prog.underlying 383=sM (.struct<|prog.fieldsOf 383)/\prog.stoodInHeld 383=fF/\prog.eqGuardType prog.depth 383=fF:=by refine⟨?_,?_,?_⟩<;>exact kR
def ATj(w)(a b c d:Int):(Op.equalIn (9996+4) 383 (.agg #[.int iK a,.int iK b]) (.agg #[.int iK c,.int iK d])).run prog w=.ok (decide (a=c/\b=d)) w:=by
 rw[run_equalIn_agg w (9996+3) 383 _ _ AFb.1 AFb.2.1];simp[Program.fieldsOf,underlying383];go_simp
 repeat apply PR
 apply ATW
def AUy(I:AB)(x y:Nat)(s:Nat×Nat):Hint:=
 .BZ (.binOp .eql 383 (.tmp x) (.tmp y) 383) [(x,.g<|(JB s).map .v),(y,.g<|(JB s).map .v)] [] I (.v tV) (by refine HL.of ?_;rintro e d w ⟨a,b,_⟩ _ _ _ o c;simp only[AO,Gw]at a b;simp only[execOp,c,rB,a,b];rw[run_eqGuard_agg w .eql 383 _ _ _ _ AFb.2.2];simp only[aK];rw[run_eql_struct w 383 _ _];have:=ATj w s.1 s.2 s.1 s.2;rw[show(9996+4:Nat)=10000 from rfl]at this;rw[this];simp[AO,aT])
def Py(I q k f l)(m:Nat)(S c)(n:Nat)(b)(d:Nat)(h:Hu S c n b d)(from_:Int)(a:Nat)(s)(p:S[a]? =sM s):
 Fn 270 [.p 1 0,.v<|nV from_,.v<|iV a,.g<|(JB s).map .v] (VB q k f l m c n b d) I (AHC I q k f l m S<|wμ S c b) nO:=by
 let⟨y,z,A,C,D,E⟩:=k;refine fo func270 λt key w o=> ?_;rcases h.find a with⟨e,g⟩|⟨j,B,e,g,_⟩;let⟨u,v,x⟩:=h.push p g;refine gg [(16,Aez AfJ I tT 14 15 2 n AeP e)]<|Qv (t:=332) (km:=2) (m0:=n) (m1:=n+1) (es:=c) (es':=c.push {key:=.int iK (a:Int),val:=.agg (JB s).toArray,born:=n}) (m:=.tmp 28) (k:=.tmp 29) (x:=.tmp 30) (kv:=.int iK (a:Int)) (v:=.agg (JB s).toArray) (sk:=.v<|iV a) (sx:=.g<|(JB s).map .v) (I':=I) kR kR kR (λ_=>rfl) kR (λt=>by simp only[AO];rw[Gw]) (λw r i=>Wn (kv:=.int iK (a:Int)) (v:=.agg (JB s).toArray) Adh Ek rfl e w r i) kR ?_;exact gG<|Qv (t:=378) (km:=3) (m0:=d) (m1:=d+1) (es:=b) (es':=b.push {key:=.int iK (a:Int),val:=vB tT,born:=d}) (m:=.tmp 34) (k:=.tmp 35) (x:=.const tV) (kv:=.int iK (a:Int)) (v:=vB tT) (sk:=.v<|iV a) (sx:=.v tV) (I':=I) kR kR kR (λ_=>rfl) kR (λt=>rfl) (λw r i=>Wn (kv:=.int iK (a:Int)) (v:=vB tT) AA8 Ek rfl x w r i) kR<|gG<|dn [] ⟨_,_,_,_,u,v,rfl⟩;rw[p]at g;cases g;exact gg [(16,hLk AfJ I tT 14 15 2 n e),(22,AUy I 20 21 s)]<|call (H5 I from_ 8)<|gG<|dn [] ⟨_,_,_,_,h,Ag _,rfl⟩
def Wz{c}(a:c≠15)(b:c≠18)(d:c≠19):Lf c=fF:=by rw[Lf];simp[a,b,d]
def ALv{c}(h:c=15\/c=18\/c=19):Lf c:=by rw[Lf];rcases h with h|h|h<;>simp[h]
def OV(a r:Bool)(h:(!a)=r):Hint:=.eq (Value.bool<|!a) (vB r) (by rw[h])
def hV4(c d:Nat)(h:c≠17:=by omega)(a:BP c<=d:=by omega)(b:d-BP c+D5 c<=32:=by omega):AA (Nat×Hint):=
 [(34,hN (c:Int) 17),(50,hW ((d:Int)-((BP c:Nat):Int)) ((d-BP c:Nat):Int)),(53,hW (((d-BP c:Nat):Int)+((D5 c:Nat):Int)) ((d-BP c+D5 c:Nat):Int)),(60,hT<|(d:Int)≥((BP c:Nat):Int)),(64,hT<|((d-BP c+D5 c:Nat):Int)<=32)]
def AdA(I i ip f ca)(A:Nat)(cl)(h:TU I i ip f ca A cl)(S)(hc:Ng i f S)(C)(n:Nat)(F)(J:Nat)(L:Hu S C n F J)(a:Nat)(af:∃e∈C.toList,e.key=.int .i64 (a:Int)):
 Fn 273 [.p 1 0,.v<|.int .i64 (a:Int)] (VB i ip f ca A C n F J) I (AHC I i ip f ca A S<|wμ S C F) none:=by
 let⟨ac,hi,an,ao,ad,hs,ap,ha,hv⟩:=h;have hu:=hi.u;let⟨M,N,O,ua,K,R⟩:=ip;simp only at hu;rcases L.find a with⟨_,q⟩|⟨j,⟨d,t⟩,hf1,hSa,_⟩;let⟨e,he,hk⟩:=af;exact absurd hk<|q e he;have halt:a<f.code.length:=by rw[<-hc.len];exact(List.getElem?_eq_some_iff.1 hSa).1
 have hx:f.code[a]? =some f.code[a]:=List.getElem?_eq_getElem halt;let⟨r1,r2⟩:=hc.op _<|List.getElem_mem halt;generalize f.code[a]=o at hx r1 r2;let⟨b1,b2,b3⟩:=ALy r1;let⟨P,Q,l3,l4,x⟩:=hc.at_ a o d t hx hSa;simp only at x;let⟨s1,s2,s3⟩:=AAO o.code b1 b2;have hlen:∀k s,S[k]? =some s->k<f.code.length:=λk s hk=>by rw[<-hc.len];exact(List.getElem?_eq_some_iff.1 hk).1
 obtain⟨b,v,arr,e,fr,au,rfl,q2,q3,q4,q5⟩:=hs.cell AAM hx;subst q3;refine fo Tryz.func273 λρ aq w ai=>gg [(16,Br I PN b v f.code.length A a halt),(17,D8 I XI (v+a*2) (Cs o) rfl q2 q5),(23,hLk AfJ I false 21 22 2 n hf1)]<|call (QN I ac o.code b1 b2) ?_;by_cases y:o.code=15;have c:CU i o=BP o.code:=by rw[CU];rw[if_neg oG]
 have z:BP o.code=0/\D5 o.code=0:=by rw[y];decide
 rw[c]at P Q;rw[if_neg oG,if_pos y]at x;have G:S[o.a]? =some (d-BP o.code+D5 o.code,t):=by rw[x,z.1,z.2];rfl
 refine gg (hV4 o.code d)<|call (H5 I (a:Int) 8)<|gg [(71,hN (o.code:Int) 21),(82,hN (o.code:Int) 20),(98,hN (o.code:Int) 16),(99,hE (o.code:Int) 15)]<|A0 (Py I i ⟨M,N,O,ua,K,R⟩ f (some ⟨b,v,none⟩) A S C n F J L (a:Int) o.a _ G) [] ?_;rintro _ ⟨m,E,l,u,r,p,rfl⟩;refine gg [(108,OV (Lf o.code) false<|by rw[ALv oG];rfl),(128,hN (o.code:Int) 20)] ?_;exact dn [] ⟨m,E,l,u,r,p,rfl⟩;by_cases B:o.code=16;have c:CU i o=BP o.code:=by rw[CU];rw[if_neg oG]
 have z:BP o.code=1/\D5 o.code=0:=by rw[B];decide
 rw[c]at P Q;rw[if_neg oG,if_neg y,if_pos B]at x;have G:S[o.a]? =some (d-BP o.code+D5 o.code,t):=by rw[x.1,z.1,z.2];rfl
 have H:S[a+1]? =some (d-BP o.code+D5 o.code,t):=by rw[x.2,z.1,z.2];rfl
 have X:=hlen _ _ H;refine gg (hV4 o.code d)<|call (H5 I (a:Int) 8)<|gg [(71,hN (o.code:Int) 21),(82,hN (o.code:Int) 20),(98,hE (o.code:Int) 16)]<|A0 (Py I i ⟨M,N,O,ua,K,R⟩ f (some ⟨b,v,none⟩) A S C n F J L (a:Int) o.a _ G) [] ?_;rintro _ ⟨m,E,l,u,r,p,rfl⟩;refine gg [(108,OV (Lf o.code) true<|by rw[Wz oG oG oG];rfl),(110,hW ((a:Int)+1) ((a+1:Nat):Int)),(117,hT<|((a+1:Nat):Int)<(f.code.length:Int))] ?_;refine call (H5 I (a:Int) 9)<|gg [(123,hW ((a:Int)+1) ((a+1:Nat):Int))]<|A0 (Py I i ⟨M,N,O,ua,K,R⟩ f (some ⟨b,v,none⟩) A S m E l u r (a:Int) (a+1) _ H) [] ?_;rintro _ ⟨U,n2,T,Z,Y,W,rfl⟩;exact gg [(128,hN (o.code:Int) 20)]<|dn [] ⟨U,n2,T,Z,Y,Nat.le_trans W p,rfl⟩;by_cases c20:o.code=20;have c:CU i o=BP o.code:=by rw[CU];rw[if_neg oG]
 have z:BP o.code=0/\D5 o.code=0:=by rw[c20];decide
 rw[c]at P Q;rw[if_neg oG,if_neg y,if_neg B,if_pos c20]at x;have G:S[a+1]? =some (d-BP o.code+D5 o.code,t+1):=by rw[x.1,z.1,z.2];rfl
 have H:S[o.a]? =some (d+1,t):=x.2;have X:=hlen _ _ G;refine gg (hV4 o.code d)<|call (H5 I (a:Int) 8)<|gg [(71,hN (o.code:Int) 21),(82,hE (o.code:Int) 20),(85,hT<|(t:Int)<16),(89,hT<|(d:Int)<32)]<|call (H5 I (a:Int) 8)<|gg [(95,hW ((t:Int)+1) ((t+1:Nat):Int)),(108,OV (Lf o.code) true<|by rw[Wz oG oG oG];rfl),(110,hW ((a:Int)+1) ((a+1:Nat):Int)),(117,hT<|((a+1:Nat):Int)<(f.code.length:Int))] ?_;refine call (H5 I (a:Int) 9)<|gg [(123,hW ((a:Int)+1) ((a+1:Nat):Int))]<|A0 (Py I i ⟨M,N,O,ua,K,R⟩ f (some ⟨b,v,none⟩) A S C n F J L (a:Int) (a+1) _ G) [] ?_;rintro _ ⟨m,E,l,u,r,p,rfl⟩;refine gg [(128,hE (o.code:Int) 20),(135,hW ((d:Int)+1) ((d+1:Nat):Int))]<|A0 (Py I i ⟨M,N,O,ua,K,R⟩ f (some ⟨b,v,none⟩) A S m E l u r (a:Int) o.a _ H) [] ?_;rintro _ ⟨U,n2,T,Z,Y,W,rfl⟩;exact gG<|dn [] ⟨U,n2,T,Z,Y,Nat.le_trans W p,rfl⟩;by_cases c21:o.code=21;have c:CU i o=BP o.code:=by rw[CU];rw[if_neg oG]
 have z:BP o.code=0/\D5 o.code=0:=by rw[c21];decide
 rw[c]at P Q;rw[if_neg oG,if_neg y,if_neg B,if_neg c20,if_pos c21]at x;have G:S[a+1]? =some (d-BP o.code+D5 o.code,t-1):=by rw[x.2,z.1,z.2];rfl
 have ar:=x.1;have X:=hlen _ _ G;refine gg (hV4 o.code d)<|call (H5 I (a:Int) 8)<|gg [(71,hE (o.code:Int) 21),(74,hT<|(t:Int)>0)]<|call (H5 I (a:Int) 11)<|gg [(79,hW ((t:Int)-1) ((t-1:Nat):Int)),(108,OV (Lf o.code) true<|by rw[Wz oG oG oG];rfl),(110,hW ((a:Int)+1) ((a+1:Nat):Int)),(117,hT<|((a+1:Nat):Int)<(f.code.length:Int))] ?_;refine call (H5 I (a:Int) 9)<|gg [(123,hW ((a:Int)+1) ((a+1:Nat):Int))]<|A0 (Py I i ⟨M,N,O,ua,K,R⟩ f (some ⟨b,v,none⟩) A S C n F J L (a:Int) (a+1) _ G) [] ?_;rintro _ ⟨m,E,l,u,r,p,rfl⟩;exact gg [(128,hN (o.code:Int) 20)]<|dn [] ⟨m,E,l,u,r,p,rfl⟩;by_cases ab:o.code=18\/o.code=19;have c:CU i o=BP o.code:=by rw[CU];rw[if_neg oG]
 rw[c]at P Q;refine gg (hV4 o.code d)<|call (H5 I (a:Int) 8)<|gg [(71,hN (o.code:Int) 21),(82,hN (o.code:Int) 20),(98,hN (o.code:Int) 16),(99,hN (o.code:Int) 15),(108,OV (Lf o.code) false<|by rw[ALv oG];rfl),(128,hN (o.code:Int) 20)] ?_;exact dn [] ⟨C,n,F,J,L,Nat.le_refl _,rfl⟩;rw[if_neg ab,if_neg y,if_neg B,if_neg c20,if_neg c21]at x;have X:=hlen _ _ x;by_cases aa:o.code=17;have V:o.a<i.Ax.length:=by
  have ag:Cf o.code=4:=by rw[aa];rfl
  rw[Px]at r2;rw[ag]at r2;simp[Bool.and_eq_true,decide_eq_true_eq]at r2;exact r2.1
 have hg:i.Ax[o.a]? =some i.Ax[o.a]:=List.getElem?_eq_getElem V;have ae:=ad _<|List.getElem_mem V;have c:CU i o=BP o.code+i.Ax[o.a].args:=by rw[CU];rw[if_pos aa,List.getD_eq_getElem?_getD,hg];rfl
 rw[c]at P Q x;generalize i.Ax[o.a]=g at hg ae c P Q x;obtain⟨fb,D,ah,fe,am,aj,ak,al,rfl,g2,_,g4,g5⟩:=OR hu hg;have go1:=g5 0 _ rfl;simp[Nat.add_zero]at go1;refine gg [(34,hE (o.code:Int) 17),(43,Br I M7 fb D i.Ax.length K o.a V),(45,ED I Ek rfl (D+o.a*3) (.int .i64 g.args) g2 go1),(46,hW (((BP o.code:Nat):Int)+(g.args:Int)) ((BP o.code+g.args:Nat):Int)),(50,hW ((d:Int)-((BP o.code+g.args:Nat):Int)) ((d-(BP o.code+g.args):Nat):Int)),(53,hW (((d-(BP o.code+g.args):Nat):Int)+((D5 o.code:Nat):Int)) ((d-(BP o.code+g.args)+D5 o.code:Nat):Int)),(60,hT<|(d:Int)≥((BP o.code+g.args:Nat):Int)),(64,hT<|((d-(BP o.code+g.args)+D5 o.code:Nat):Int)<=32)]<|call (H5 I (a:Int) 8)<|gg [(71,hN (o.code:Int) 21),(82,hN (o.code:Int) 20),(98,hN (o.code:Int) 16),(99,hN (o.code:Int) 15),(108,OV (Lf o.code) true<|by rw[Wz oG oG oG];rfl),(110,hW ((a:Int)+1) ((a+1:Nat):Int)),(117,hT<|((a+1:Nat):Int)<(f.code.length:Int))] ?_;refine call (H5 I (a:Int) 9)<|gg [(123,hW ((a:Int)+1) ((a+1:Nat):Int))]<|A0 (Py I i ⟨M,N,O,some ⟨fb,D,none⟩,K,R⟩ f (some ⟨b,v,none⟩) A S C n F J L (a:Int) (a+1) _ x) [] ?_;rintro _ ⟨m,E,l,u,r,p,rfl⟩;exact gg [(128,hN (o.code:Int) 20)]<|dn [] ⟨m,E,l,u,r,p,rfl⟩;have c:CU i o=BP o.code:=by rw[CU];rw[if_neg oG]
 rw[c]at P Q x;refine gg (hV4 o.code d)<|call (H5 I (a:Int) 8)<|gg [(71,hN (o.code:Int) 21),(82,hN (o.code:Int) 20),(98,hN (o.code:Int) 16),(99,hN (o.code:Int) 15),(108,OV (Lf o.code) true<|by rw[Wz oG oG oG];rfl),(110,hW ((a:Int)+1) ((a+1:Nat):Int)),(117,hT<|((a+1:Nat):Int)<(f.code.length:Int))] ?_;refine call (H5 I (a:Int) 9)<|gg [(123,hW ((a:Int)+1) ((a+1:Nat):Int))]<|A0 (Py I i ⟨M,N,O,ua,K,R⟩ f (some ⟨b,v,none⟩) A S C n F J L (a:Int) (a+1) _ x) [] ?_;rintro _ ⟨m,E,l,u,r,p,rfl⟩;exact gg [(128,hN (o.code:Int) 20)]<|dn [] ⟨m,E,l,u,r,p,rfl⟩
def FT(s:Gs):AA AF:=[vS<|AJ s.l.1,vS<|AJ s.l.2,.int iK s.v]
def Si(s:Gs)(l:AA AF):Prop:=l=FT s
def AAo(s l)(h:Si s l):lN l=3:=by rw[h];rfl
def En(b:FO):AA AF:=[.int iK b.fn,vS<|AJ b.l.1,vS<|AJ b.l.2,vS<|AJ b.c.1,vS<|AJ b.c.2,.int .u8 b.AR.toNat,.int iK b.Ao,.int iK b.box,.int iK b.n]
def Ro(b:FO)(l:AA AF):Prop:=l=En b
def ACZ(s l)(h:Ro s l):lN l=9:=by rw[h];rfl
structure Jl where
 ip:Dw
 ba:AU Au
 bc:Nat
 bl:AA AF
 ta:AU Au
 tc:Nat
 tl:AA AF
structure Ke(I:AB)(c:Dj)(q:Jl):Prop where
 im:FJ I c.im q.ip
 bx:Av I Si 3 c.BJ q.ba q.bc q.bl
 th:Av I Ro 9 c.BM q.ta q.tc q.tl
def MU(c:Dj)(q:Jl):AA SV:=Fa c.im q.ip++[.v<|.slice q.ba (lN c.BJ) q.bc,.v<|.slice q.ta (lN c.BM) q.tc]
def Ke.up{I J c q}(h:Ke I c q)(hle:I.le J):Ke J c q:=⟨h.im.up hle,h.bx.up hle λ_ _ h=>h,h.th.up hle λ_ _ h=>h⟩
def Ke.Bf{I J c q}(h:Ke I c q)(hle:I.Da J):Ke J c q:=⟨FJ.Bf hle h.im,Av.Bf hle h.bx λ_ _ h=>h,Av.Bf hle h.th λ_ _ h=>h⟩
structure RX(c:Dj)(b:FO):Prop where
 fn:b.fn<lN c.im.Ax
 args:∀f,c.im.Ax[b.fn]? =sM f->f.args=1
 hl:A4 b.l=b.l
 hc:A4 b.c=b.c
 AR:b.AR.toNat<=63
 Ao:b.Ao<=999
 box:b.box<lN c.BJ
 fl:fl b.l b.c
def AAj:Ht 99 3:=row_of kR kR
def Yy:IE 33 99 3:=⟨kR,AAj.hi⟩
def AAg:Ht 103 9:=row_of kR kR
def ADD:IE 34 103 9:=⟨kR,AAg.hi⟩
def AET(I l)(h:A4 l=l):Fn 136 [DW l] [] I (BW (.v tV) I) nO:=by have:=Zm I l<|JV h;rw[show(A4 l==l)=tT by simpa using h]at this;exact this
def ARZ(I c q b)(s:Ke I c q)(h:RX c b)(r:lN c.BJ<=1000)(t:lN c.im.Ax<=1000):Fn 137 [.g<|MU c q,.g<|(En b).map .v] [] I (BW (.v<|.int iK 0) I) nO:=by let⟨m,n,g,i,D,E,F,o⟩:=h;have k:c.im.Ax[b.fn]? =sM c.im.Ax[b.fn]:=BS m;have G:=n _ k;let⟨l,d,arr,e,C,z,A,B,f,p,_,u,v⟩:=OR s.im.u k;have a:=NB I b.l b.c (JV g)<|JV i;rw[o]at a;let⟨⟨H,J,K,L,y,M⟩,ba,bc,bl,ta,tc,tl⟩:=q;simp only at f;subst f;exact fo func137 λN x w j=>gg [(7,hF<|(b.fn:Int)<0),(15,hF<|(b.fn:Int)≥(lN c.im.Ax:Int)),(23,Br I M7 l d (lN c.im.Ax) y b.fn u),(25,ED I Ek rfl (d+b.fn*3) (iV<|c.im.Ax[b.fn].args) p<|v 0 _ rfl),(26,EN (c.im.Ax[b.fn].args:Int) 1)]<|call (AET I b.l g)<|gG<|call (AET I b.c i)<|gg [(41,hF<|(b.AR.toNat:Int)>63),(45,hF<|(b.Ao:Int)<0),(49,hF<|(b.Ao:Int)>999),(57,hF<|b.box≥(lN c.BJ:Int))]<|call a<|gG<|fi
abbrev ACB(I:AB):zP:=He I (λ_:Unit=>.t [.v<|.int iK 0,.v<|.int iK 0,.v<|.int iK 0]) λ_ _=>True
structure RY(c:Dj):Prop where
 nb:lN c.BJ<=8
 nt:0<lN c.BM/\lN c.BM<=8
 bx:∀b∈c.BJ,A4 b.l=b.l
 th:∀b∈c.BM,RX c b
 fs:lN c.im.Ax<=1000
def ARd(J:AB)(c:Dj)(q:Jl)(i:Nat):Hd where
 Cd:=[(1,.p 1 0),(39,.v<|.slice q.ba (lN c.BJ) q.bc),(40,.v<|iV<|lN c.BJ),(41,.v<|iV i)]
 Cc:=[(1,.cells (MU c q) 36)]
 J:=J
def ARe(J:AB)(c:Dj)(q:Jl)(i:Nat):Hd where
 Cd:=[(1,.p 1 0),(53,.v<|.slice q.ta (lN c.BM) q.tc),(54,.v<|iV<|lN c.BM),(55,.v<|iV i)]
 Cc:=[(1,.cells (MU c q) 36)]
 J:=J
abbrev APN(I:AB):zP:=He I (λ_:Unit=>.t [.v<|.int iK 0,.v<|.int iK 0]) λ_ _=>True
def AWM(I c q)(u:Ke I c q)(h:RY c)(A:Fn 135 [.g<|Fa c.im q.ip] [] I (ACB I) nO):Fn 86 [.g<|MU c q] [] I (APN I) nO:=by
 let⟨h1,⟨F,G⟩,h4,h5,h6⟩:=h;have j:=u.bx;have m:=u.th;let⟨x,r,o,t,y,p,z⟩:=q;simp only at j m A;refine fo func86 λH D w B=>gG<|Cz A λ_ J hle _=>gg [(25,hF<|(lN c.BJ:Int)>8),(30,hN (lN c.BM:Int) 0),(36,hF<|(lN c.BM:Int)>8)]<|loop (ι:=Nat) (λi=>i<=lN c.BJ) (λi=>lN c.BJ-i) (ARd J c ⟨x,r,o,t,y,p,z⟩) 2000 [(1,100)] 0 (Bm _) ?_;intro i k again T;by_cases a:i<lN c.BJ;have n:c.BJ[i]? =sM c.BJ[i]:=BS a;have l:=h4 _<|DR a;generalize c.BJ[i]=s at n l;obtain⟨b,d,arr,e,C,g,rfl,q2,q3,q4,q5⟩:=(j.up hle λ_ _ h=>h).cell AAo n;have q3:g=FT s:=q3;subst q3;exact gg [(42,tH i<|lN c.BJ),(44,Br J Yy b d (lN c.BJ) o i a),(45,D8 J AAj (d+i*3) (FT s) rfl q2 q5)]<|call (AET J s.l l)<|gg [(51,sH i)]<|bk again [] (i+1) oG;have k:i=lN c.BJ:=oG;subst k;refine gg [(42,fH (lN c.BJ)<|lN c.BJ)]<|loop (ι:=Nat) (λi=>i<=lN c.BM) (λi=>lN c.BM-i) (ARe J c ⟨x,r,o,t,y,p,z⟩) 4000 [] 0 (Bm _) ?_;intro i k f E;by_cases a:i<lN c.BM;have n:c.BM[i]? =sM c.BM[i]:=BS a;have l:=h5 _<|DR a;generalize c.BM[i]=s at n l;have v:=ARZ J c ⟨x,r,o,t,y,p,z⟩ s (u.up hle) l oG h6;obtain⟨b,d,arr,e,C,g,rfl,q2,q3,q4,q5⟩:=(m.up hle λ_ _ h=>h).cell ACZ n;have q3:g=En s:=q3;subst q3;exact gg [(56,tH i<|lN c.BM),(58,Br J ADD b d (lN c.BM) p i a),(59,D8 J AAg (d+i*9) (En s) rfl q2 q5)]<|call v<|gg [(67,sH i)]<|bk f [] (i+1) oG;have k:i=lN c.BM:=oG;subst k;exact gg [(56,fH (lN c.BM)<|lN c.BM)]<|dn [] ⟨(),J,rfl,hle,trivial⟩
theorem AEW{x:Nat}(h:x<=999):Kx [x]=Dm [x]:=by unfold Kx;rw[if_pos (Ph h)]
def ARF(I c q b i)(x:Ke I c q)(h:RX c b)(Q:b.box<0):Fn 90 [.g<|MU c q,.g<|(En b).map .v,.v<|sV i] [] I (QJ I<|D7 c b i) nO:=by
 let⟨t,H,K,L,M,N,O,P⟩:=h;have o:c.im.Ax[b.fn]? =sM c.im.Ax[b.fn]:=BS t;let⟨s,j,arr,e,G,D,E,F,l,u,_,z,n⟩:=OR x.im.u o;have d:(c.im.Ax.getD b.fn Al).Ai=c.im.Ax[b.fn].Ai:=by rw[DK,o];rfl
 generalize c.im.Ax[b.fn]=f at n d;let⟨⟨R,S,T,U,C,V⟩,ba,bc,bl,ta,tc,tl⟩:=q;simp only at l;subst l;have k:D7 c b i=Jw i ⟨b.l,b.c⟩ {(⟨[],[],[]⟩:Ay)with AG:=[]++[⟨b.fn,0,0,b.AR,[BH b.n]++lP (min f.Ai 16) (BH 0)⟩]} b.Ao:=by rw[D7];dsimp only;rw[AY oG,d];rfl
 rw[k];exact fo func90 λW B w m=>gg [(17,hF<|b.box≥0),(43,Br I M7 s j (lN c.im.Ax) C b.fn z),(45,ED I Ek rfl (j+b.fn*3+1) (iV f.Ai) u<|n 1 _ rfl)]<|ACg 284 (ADF I ⟨[],[],[]⟩ Yq b.fn f.Ai (BH b.n) b.AR ⟨Av.empty,Av.empty,Av.empty⟩ (by show 0<16;decide)<|by show 0<=1000000;decide) kR λp J hle A=>gG<|Cz (AEp J i ⟨b.l,b.c⟩ _ p b.Ao A) λa r g v=>gG<|dn [] ⟨a,r,rfl,hle.trans g,v⟩
def ARG(I)(hP:Pow I)(c q b y)(M:Ke I c q)(h:RX c b)(hb:0<=b.box)(aa:lN c.BJ<=900):Fn 90 [.g<|MU c q,.g<|(En b).map .v,.v<|sV y] [] I (QJ I<|D7 c b y) nO:=by
 let⟨L,U,V,W,X,Y,Z,h8⟩:=h;let⟨i,l,m,g,Ao,box,n⟩:=b;simp only at L U V W X Y Z h8 hb;obtain⟨x,rfl⟩:∃x:Nat,box=(x:Int):=⟨box.toNat,oG⟩;have E:x<=999:=oG;have P:c.im.Ax[i]? =sM c.im.Ax[i]:=BS L;let⟨S,z,arr,e,fr,ca,cc,cl,H,hI,_,hk,O⟩:=OR M.im.u P;have d:(c.im.Ax.getD i Al).Ai=c.im.Ax[i].Ai:=by rw[DK,P];rfl
 generalize c.im.Ax[i]=f at O d;have u:x<lN c.BJ:=oG;have D:c.BJ[x]? =sM c.BJ[x]:=BS u;have o:c.BJ.getD x Al=c.BJ[x]:=by rw[DK,D];rfl
 generalize c.BJ[x]=s at D o;let⟨R,k,G,e2,T,F,K,q2,q3,q4,q5⟩:=M.bx.cell AAo D;have q3:F=FT s:=q3;subst q3;let⟨⟨ka,kc,kl,ua,uc,ul⟩,ba,bc,bl,ta,tc,tl⟩:=q;simp only at H K;subst H;subst K;have A:D7 c ⟨i,l,m,g,Ao,(x:Int),n⟩ y=Jw y ⟨l,m⟩ {(⟨[],[],[]⟩:Ay)with AG:=[]++[⟨i,0,0,g,[BZ 3 [x] s.l]++lP (min f.Ai 16) (BH 0)⟩]} Ao:=by rw[D7];dsimp only;rw[Ac oG,d,show((x:Int)).toNat=x by omega,o];rfl
 rw[A];have C:AJ (Kx [x])=Aa [x]:=by rw[AEW E];rfl
 have t:=AEx I hP x 1;rw[C]at t;refine fo func90 λρ ab w N=>gg [(17,hT<|(x:Int)≥0)]<|IG t [(1,204)]<|gg [(30,Br I Yy R k (lN c.BJ) bc x u),(32,D8 I Sf (k+x*3) [vS<|AJ s.l.1,vS<|AJ s.l.2] rfl q2 (λj v B=>q5 j v (by
  match j with
  |0=>exact B
  |1=>exact B
  |j+2=>simp at B))),(43,Br I M7 S z (lN c.im.Ax) uc i hk),(45,ED I Ek rfl (z+i*3+1) (iV f.Ai) hI<|O 1 _ rfl)] ?_
 exact ACg 436 (ADF I ⟨[],[],[]⟩ Yq i f.Ai (BZ 3 [x] s.l) g ⟨Av.empty,Av.empty,Av.empty⟩ (by show 0<16;decide)<|by show 0<=1000000;decide) kR λp J hle hp=>gG<|Cz (AEp J y ⟨l,m⟩ _ p Ao hp) λa Q r ha=>gG<|dn [] ⟨a,Q,rfl,hle.trans r,ha⟩
def ARE(I)(f:Pow I)(c q b a)(e:Ke I c q)(h:RX c b)(d:lN c.BJ<=900):Fn 90 [.g<|MU c q,.g<|(En b).map .v,.v<|sV a] [] I (QJ I<|D7 c b a) nO:=by by_cases g:0<=b.box;exact ARG I f c q b a e h g d;exact ARF I c q b a e h oG
def Jn(c:Dj)(i:Nat):Ob:={Db with kind:=3,l:=(c.BJ.getD i Al).l,v:=BH (c.BJ.getD i Al).v}
def Lo(c:Dj)(n:Nat):Az:=(lR n).foldl (λs i=>Cy s [i]<|Jn c i) []
def Ox(c:Dj)(n:Nat):AA AL:=(lR n).foldl (λl i=>CC l<|D7 c (c.BM.getD i Al) [lN c.BJ+i]) []
def AFi(c n):Lo c (n+1)=Cy (Lo c n) [n] (Jn c n):=by rw[Lo];rw[ABn,P7];rfl
def AN3(c n):Ox c (n+1)=CC (Ox c n) (D7 c (c.BM.getD n Al) [lN c.BJ+n]):=by rw[Ox];rw[ABn,P7];rfl
def AYj(c):EG c= {im:=c.im,AD:=0,AC:=Ox c<|lN c.BM,Ah:=Lo c<|lN c.BJ,Bj:=[],B5:=[]}:=rfl
def AFh(c):∀(n:Nat)(q:Nm)(o:Ob),Am (Lo c n) q=sM o->∃j,j<n/\q=[j]
 |0,q,o,h=>by cases h
 |n+1,q,o,h=>by
  rw[AFi]at h;cases e:Ew (Lo c n) [n] (Jn c n)with
  |false=>
   rw[OF e]at h;let⟨j,d,a⟩:=AFh c n q o h;exact⟨j,oG,a⟩
  |true=>
   rw[I3 e]at h;split at h;rename_i b;exact⟨n,oG,b⟩;let⟨j,d,a⟩:=AFh c n q o h;exact⟨j,oG,a⟩
def Ac3(c){n}(a:n<lN c.BJ)(f:n<=999)(k:∀b∈c.BJ,A4 b.l=b.l):Ew (Lo c n) [n] (Jn c n):=by
 have h:Am (Lo c n) [n]=nO:=by
  cases e:Am (Lo c n) [n]with
  |none=>rfl
  |some o=>
   let⟨j,l,d⟩:=AFh c n _ o e;have:n=j:=by simpa using d
   omega
 have g:A4 (Jn c n).l=(Jn c n).l:=by show A4 (c.BJ.getD n Al).l=(c.BJ.getD n Al).l;rw[DK,BS a];exact k _<|DR a
 have i:(Jn c n).kind=3:=rfl;rw[Ew];rw[Ph f,h,g,i];simp
def AN1(c):∀n,lN (Lo c n)<=n
 |0=>Ag _
 |n+1=>by rw[AFi];have:=UG (Lo c n) [n]<|Jn c n;have:=AN1 c n;omega
def ANd{l}(h:Fi l)(t):Fi (CC l t):=by
 rw[CC];cases e:Af l t.id with
 |none=>simp[X0,N7,Hq];exact AFU h e
 |some u=>simp[VS,ME];exact sorted_put h t
def AN2(c)(e:lN c.BJ<=8):∀n,n<=8->Fi (Ox c n)/\(∀x∈Ox c n,CB x.id)/\lN (Ox c n)<=n
 |0,_=>⟨List.Pairwise.nil,λx a=>(by cases a),Ag _⟩
 |n+1,h=>by let⟨b,d,f⟩:=AN2 c e n oG;rw[AN3];refine⟨ANd b _,λx a=> ?_,by have:=AJX (Ox c n)<|D7 c (c.BM.getD n Al) [lN c.BJ+n];omega⟩;rcases ALG a with rfl|a;exact Ph (show lN c.BJ+n<=999 by omega);exact d x a
def nw1(c:Dj)(i:Nat):Ap:={im:=c.im,AD:=0,AC:=[],Ah:=Lo c i,Bj:=[],B5:=[]}
def Q0(c:Dj)(i:Nat):Ap:={im:=c.im,AD:=0,AC:=Ox c i,Ah:=Lo c<|lN c.BJ,Bj:=[],B5:=[]}
def AOB{I}:D6 I (FA []) #[]:=⟨⟨[],List.Perm.nil,.nil⟩,N9,nA⟩
def AcK{I}:C9 I [] #[] 0:=⟨⟨[],List.Perm.nil,.nil⟩,N9,nA,.nil 0⟩
def AYW{I}:El I [] [] #[] 0:=⟨.nil,nA,N9,N9,nA,nA,λn l=>⟨(λ⟨r,h,_⟩=>by cases h),(λ⟨o,h,_⟩=>by cases h)⟩,.nil 0,nA,nA⟩
def AAk{I a e}:C8 I a e [] ⟨nO,0,0⟩:=⟨sP,λv h=>(by cases h),.inl ⟨rfl,rfl,rfl⟩⟩
def m0K(a:Dw):CH:=⟨a,#[],0,⟨nO,0,0⟩,⟨nO,0,0⟩,⟨nO,0,0⟩,⟨#[],0,#[],0⟩⟩
def AWX{I c b}(a:EB I)(d:Pow I)(e:FJ I c.im b):CZ I [] (nw1 c 0) (m0K b):=
 ⟨a,d,e,AOB,AcK,AYW,AAk,AAk,AAk,N9⟩
def ZZ(a:Nat)(m:CH)(c:A6)(b:Nat):AA AK:=[.cells (Fa c m.ip++[.v<|nV b,.m<|a+1,m.Bu.sv,.p (a+2) 0,m.DD.sv,m.lk.sv]) 107,.Aq<|.map m.es m.n,.cells [.m<|a+3,.m<|a+4] 178,.Aq<|.map m.sm.es m.sm.n,.Aq<|.map m.sm.ns m.sm.m]
def APi(I:AB)(k:Ap):zP:=λa h=>∃m L J,h= {r:=.t [.p (a+0) 0,.v<|.int iK 0,.v<|.int iK 0],nb:=ZZ a m k.im k.AD,J:=J}/\Cb I [] J (CM L m)/\CZ J L k m
structure NX where
 i:Nat
 J:AB
 L:AA Rw
 m:CH
def AY8(c:Dj)(q:Jl)(x:NX):Hd where
 Cd:=[(1,.p 6 0),(2,.p 1 0),(29,.v<|.slice q.ba (lN c.BJ) q.bc),(30,.v<|iV<|lN c.BJ),(31,.v<|iV x.i)]
 Cc:=[(1,.cells (x.m.row c.im 0) 107),(2,.Aq<|.map x.m.es x.m.n),(3,.cells [.m 4,.m 5] 178),(4,.Aq<|.map x.m.sm.es x.m.sm.n),(5,.Aq<|.map x.m.sm.ns x.m.sm.m),(6,.cells (MU c q) 36)]
 J:=x.J
def AY9(c:Dj)(q:Jl)(x:NX):Hd where
 Cd:=[(1,.p 6 0),(2,.p 1 0),(56,.v<|.slice q.ta (lN c.BM) q.tc),(57,.v<|iV<|lN c.BM),(58,.v<|iV x.i)]
 Cc:=[(1,.cells (x.m.row c.im 0) 107),(2,.Aq<|.map x.m.es x.m.n),(3,.cells [.m 4,.m 5] 178),(4,.Aq<|.map x.m.sm.es x.m.sm.n),(5,.Aq<|.map x.m.sm.ns x.m.sm.m),(6,.cells (MU c q) 36)]
 J:=x.J
structure NP(I:AB)(n:Nat)(f:Nat->Ap)(x:NX):Prop where
 i:x.i<=n
 st:Cb I [] x.J (CM x.L x.m)
 ZX:CZ x.J x.L (f x.i) x.m
def AYn(I)(Z:EB I)(hP:Pow I)(c q)(S:Ke I c q)(h:RY c)(hV:Fn 135 [.g<|Fa c.im q.ip] [] I (ACB I) nO):Fn 33 [.g<|MU c q] [] I (APi I<|EG c) nO:=by
 have ac:=AWM I c q S h hV;let⟨h1,⟨h2,h3⟩,h4,h5,h6⟩:=h;let⟨U,X,R,Y,ta,V,tl⟩:=q;refine fo func33 λρ ah w ag=>gG<|Cz ac λ_ J0 j _=>gG<|A0 (AYk J0) [] λh' K=> ?_;subst K;refine gG<|Om 220 (b:=.Ey [] []) (b':=.Aq<|.map #[] 0) kR (λρ=>rfl) nA rfl<|Om 228 (b:=.Ey [] []) (b':=.Aq<|.map #[] 0) kR (λρ=>rfl) nA rfl<|Om 229 (b:=.Ey [] []) (b':=.Aq<|.map #[] 0) kR (λρ=>rfl) nA rfl ?_;have ab:=S.up j;refine loop (ι:=NX) (NP I (lN c.BJ)<|nw1 c) (λx=>lN c.BJ-x.i) (AY8 c ⟨U,X,R,Y,ta,V,tl⟩) 3000 [(1,244),(2,220),(3,230),(4,228),(5,229),(6,100)] ⟨0,J0,[],m0K U⟩ ⟨Bm _,.of j,AWX (Z.up j) (hP.up j) ab.im⟩ ?_;rintro⟨i,J,L,m⟩ ⟨p1,p2,p3⟩ again T;simp only at p1 p2 p3;have hle:=p2.le;have o:=S.Bf hle;by_cases f:i<lN c.BJ;have B:c.BJ[i]? =sM c.BJ[i]:=BS f;have r:c.BJ.getD i Al=c.BJ[i]:=by rw[DK,B];rfl
 have M:=h4 _<|DR f;have z:=Ac3 c f oG h4;have G:Jn c i= {Db with kind:=3,l:=c.BJ[i].l,v:=BH c.BJ[i].v}:=by unfold Jn;rw[r]
 rw[G]at z;have g:=AFi c i;rw[G]at g;generalize c.BJ[i]=s at B M z g;let⟨b,k,arr,e,fr,C,D,q2,q3,q4,q5⟩:=o.bx.cell AAo B;have q3:C=FT s:=q3;subst q3;simp only at D;subst D;have u:AJ (Kx [i])=Aa [i]:=by rw[AEW oG];rfl
 have n:=AEx J p3.pow i 1;rw[u]at n;have p:=YO J p3.pow (Lo c i) m.sm.es m.sm.ns m.sm.n m.sm.m L [i] {Db with kind:=3,l:=s.l,v:=BH s.v} HY z (JV M) (by show 0<=1000000;decide) NY p3.B0 p3.Dl (by have:=AN1 c i;omega);rw[<-g]at p;refine gg [(32,tH i<|lN c.BJ),(34,Br J Yy b k (lN c.BJ) R i f),(35,D8 J AAj (k+i*3) (FT s) rfl q2 q5)]<|IG n [(1,3064)]<|gG<|A0 p RB λy K=> ?_;obtain⟨E,Q,n',m',L',W,d,O,N,t,A,rfl⟩:=K;refine gg [(54,sH i)] ?_;let⟨k1,k2⟩:=p3.XT (k':=nw1 c<|i+1) (m':={m with sm:=⟨E,n',Q,m'⟩}) ⟨d,t,A⟩ ⟨rfl,rfl⟩ ⟨rfl,rfl⟩ ⟨rfl,rfl⟩ ⟨rfl,rfl⟩ (D6.Bf d p3.tm) O N;exact bk again [] ⟨i+1,W,L',{m with sm:=⟨E,n',Q,m'⟩}⟩ ⟨by show i+1<=_;omega,p2.trans k2,k1⟩;have hi:i=lN c.BJ:=oG;subst hi;refine gg [(32,fH (lN c.BJ)<|lN c.BJ)] ?_;have k0:CZ J L (Q0 c 0) m:=p3;refine loop (ι:=NX) (NP I (lN c.BM)<|Q0 c) (λx=>lN c.BM-x.i) (AY9 c ⟨U,X,R,Y,ta,V,tl⟩) 6000 [] ⟨0,J,L,m⟩ ⟨Bm _,p2,k0⟩ ?_;rintro⟨i,J,L,m⟩ ⟨p1,p2,p3⟩ again T;simp only at p1 p2 p3;have hle:=p2.le;have o:=S.Bf hle;by_cases f:i<lN c.BM;have B:c.BM[i]? =sM c.BM[i]:=BS f;have r:c.BM.getD i Al=c.BM[i]:=by rw[DK,B];rfl
 have F:=h5 _<|DR f;have g:=AN3 c i;rw[r]at g;generalize c.BM[i]=s at B F g;let⟨b,k,arr,e,fr,C,D,q2,q3,q4,q5⟩:=o.th.cell ACZ B;have q3:C=En s:=q3;subst q3;simp only at D;subst D;have u:AJ (Kx [lN c.BJ+i])=Aa [lN c.BJ+i]:=by rw[AEW oG];rfl
 have n:=AEx J p3.pow (lN c.BJ+i) 1;rw[u]at n;have aa:=ARE J p3.pow c ⟨U,X,R,Y,sM ⟨b,k,nO⟩,V,tl⟩ s [lN c.BJ+i] o F oG;let⟨t1,t2,t3⟩:=AN2 c h1 i oG;refine gg [(59,tH i<|lN c.BM),(61,Br J ADD b k (lN c.BM) V i f),(62,D8 J AAg (k+i*9) (En s) rfl q2 q5),(68,hW ((lN c.BJ:Int)+(i:Int)) ((lN c.BJ+i:Nat):Int))]<|IG n [(1,6096)]<|gG<|Cz aa λa W d ha=> ?_;have H:=AKK W L (Q0 c i) m (D7 c s [lN c.BJ+i]) a ⟨p3.up d,ha,Ph<|show lN c.BJ+i<=999 by omega,t2,t1,by show(Ox c i).length<=900000;omega⟩;have ad:({Q0 c i with AC:=CC (Q0 c i).AC<|D7 c s [lN c.BJ+i]}:Ap)=Q0 c (i+1):=by unfold Q0;rw[g]
 rw[ad]at H;refine gG<|A0 H [] λy K=> ?_;obtain⟨m3,L3,J3,rfl,af,ae⟩:=K;refine gg [(79,sH i)] ?_;exact bk again [] ⟨i+1,J3,L3,m3⟩ ⟨by show i+1<=_;omega,(p2.trans<|.of d).trans af,ae⟩;have hi:i=lN c.BM:=oG;subst hi;refine gg [(59,fH (lN c.BM)<|lN c.BM)] ?_;have e:Q0 c (lN c.BM)=EG c:=(AYj c).symm;rw[e]at p3;exact dn [1,2,3,4,5] ⟨m,L,J,rfl,p2,p3⟩
end
section
open Go.AX Go.Maps Go.RowKit Go.Shelf Go.Sort Lz
def AeE{a:Nat}(h:a<=65535):(Lit.int .i64 (a:Int)).wf:=by simp[Lit.wf,IntKind.min,IntKind.max,IntKind.signed,IntKind.bits,Bool.and_eq_true,decide_eq_true_eq,if_true];omega
def Hu.owns{S:AA<|Nat×Nat}{z:Ae Ar}{n:Nat}{c:Ae Ar}{y:Nat}(h:Hu S z n c y)(J:lN S<=256){w:AN}{b:Nat}(E:w.heap[b]? =some (.map c y)):
 ∃o:DataW Nat,w.ownsMap prog 3 (plainElem prog 4) b c.size o/\Maps.size o=c.size/\∀x,x∈intKeys o->∃e∈c.toList,e.key=.int .i64 x:=by
 have AOO:prog.underlying 4=some .bool:=kR;have i:∀x∈c.toList,∃a:Nat,x.key=.int .i64 (a:Int)/\Go.WideElems.rd prog 3 (plainElem (H:=Nat) prog 4) x=some (.int .i64 (a:Int),.lit<|.bool true):=λx l=>by
  let⟨a,f,t,r,d,B⟩:=h.opn x l;let⟨A,s,G,g,_⟩:=h.CG r d;have C:a=A:=by have:=(Value.int.inj<|g.symm.trans<|B.trans f).2;omega
  have D:=(Ci.1 G).1;refine⟨a,f,?_⟩;let⟨k,v,I⟩:=x;simp only at f t;subst f t;exact Go.WideElems.rd_mk (keyOf_int_mk Ek<|AeE oG)<|plainElem_bool AOO true
 have H:c.size<=256:=by
  have F:=h.so.2.2;have j:∀k∈c.toList.map (·.key),k∈z.toList.map (·.key):=λk g=>by obtain⟨e,m,rfl⟩:=BI.1 g;let⟨_,_,_,r,d,q⟩:=h.opn e m;exact BI.2 ⟨r,d,q⟩
  have f:=Wq F j;have t:=h.size;simp[DG,Lt]at f;omega
 refine⟨.map<|(c.toList.map<|Go.WideElems.rg prog 3<|plainElem prog 4).foldr DataW.insert [],⟨c,y,E,⟨by rw[maxLen];omega,h.so,λx l=> ?_⟩,Ag _,rfl⟩,?_,?_⟩;let⟨a,_,q⟩:=i x l;exact⟨_,q⟩;rw[Maps.size_eq,length_read];intro x l;obtain⟨p,u,rfl⟩:=BI.1 l;have u:=(Go.WideShapes.sorted_perm _).mem_iff.1 u;obtain⟨e,m,rfl⟩:=BI.1 u;let⟨a,g,q⟩:=i e m;refine⟨e,m,?_⟩;rwa[Go.WideElems.rg_of q]
def APd(I:AB)(b:Ae Ar)(c:Nat):zP:=λa h=>h= {r:=.fn (.func 344) [] [.p a 0],AV:=[(3,.Aq<|.map b c)],nb:=[.cells [.m 3] 378],J:=I}
def AWc(I a c):Fn 272 [.m 3] [(3,.Aq<|.map a c)] I (APd I a c) nO:=fo func272 λe d w b=>gG<|dn [100] rfl
def APs(I:AB)(d:Ae Ar):zP:=λ_ h=>∃(b m c:Nat)(a:Ae AF)(J:AB)(x:Int),I.le J/\J.Ak=I.Ak/\J b=sM (.cells a 3 (0,0))/\0<m/\a[0]? =sM (nV x)/\(∃e∈d.toList,e.key=.int iK x)/\h= {r:=.v<|.slice (aP b) m c,J:=J}
def Abv(I:AB){S:AA (Nat×Nat)}{es:Ae Ar}{n:Nat}{u:Ae Ar}{Y:Nat}(h:Hu S es n u Y)(hS:lN S<=256)(af:0<u.size):
 Fn 271 [.fn (.func 344) [] [.p 9 0]] [(9,.cells [.m 3] 378),(3,.Aq (.map u Y))] I (APs I u) nO:=by
 refine⟨FC.of ?_ ?_,JL func271 kR kR⟩;rintro X h ⟨b,m,c,N,J,x,O,_,_,_,_,_,rfl⟩;exact⟨⟨nA,nA,nA,sP,sP⟩,O.EA⟩;intro ρ X w ab hN Q ae aa;have P:=hN (9,.cells [.m 3] 378) sP _ rfl;have h3:=hN (3,.Aq (.map u Y)) sP _ rfl;simp[BB,AO]at P h3;let⟨Z,ho,D,F⟩:=h.owns hS h3;have ad:u.size<=256:=by
  have:=ho;have hn:=h.so.2.2;have K:∀k∈u.toList.map (·.key),k∈es.toList.map (·.key):=λk F=>by obtain⟨e,he,rfl⟩:=BI.1 F;let⟨_,_,_,e',U,q⟩:=h.opn e he;exact BI.2 ⟨e',U,q⟩
  have O:=Wq hn K;have h2:=h.size;simp[DG,Lt]at O;omega
 refine(AeX (ρ 9) (ρ 3) u.size Z _ w (Eg P) (by simp[World.cell?,P]) ho (by rw[D];rw[maxLen];omega) (by rw[D];omega)).mono ?_;rintro e w' ⟨v,B,rfl,hp,H,ac,A⟩;have hlen:lN B=u.size:=by
  rw[hp.length_eq,<-D];cases Z with
  |map l=>simp[intKeys,Maps.size]
  |_=>simp[intKeys,Maps.size]
 let⟨hl,hr⟩:=H;rcases hr with⟨_,hz⟩|⟨g,M,p,rfl,r,hg,r1,r2,r3,r4⟩;omega;have s:=PU Q r;let J:AB:=⟨λx=>match bQ x g with|true=>sM (.cells p 3 (0,0))|false=>I.at_ x,I.Ak⟩;have E:J g=sM (.cells p 3 (0,0)):=by show(match bQ g g with|true=>_|false=>_)=_;simp
 have z:∀x,x≠g->J x=I x:=λx f=>by show(match bQ x g with|true=>_|false=>_)=_;rw[OH f]
 have hle:I.le J:=⟨λx o f=>by
  by_cases e:x=g;rw[e,s.1]at f;cases f;rwa[z x e],λx o f=>⟨f.Ak,by
  by_cases e:x=g;have:=f.Ak;rw[e,s.2]at this;cases this;rw[z x e];exact f.at_⟩⟩
 have W:=(List.mergeSort_perm B (λx y=>decide (x<=y))).trans hp;have G:lN (B.mergeSort (λx y=>decide (x<=y)))=lN B:=(List.mergeSort_perm B _).length_eq;obtain⟨x,l,f⟩:∃x l,B.mergeSort (λx y=>decide (x<=y))=x::l:=by
  cases q:B.mergeSort (λx y=>decide (x<=y))with
  |nil=>rw[q]at G;simp at G;omega
  |cons x l=>exact⟨x,l,rfl⟩
 have L:=F x (W.mem_iff.1 (by rw[f];simp));have T:p[0]? =sM (nV x):=by
  rw[f]at r4;have t:(p.toList.take (lN B*1))[0]? =sM (encZ x):=by rw[r4];rfl
  rw[GO]at t;split at t;simpa using t;cases t
 refine⟨_,λ_=>0,⟨g,lN B,M,p,J,x,hle,rfl,E,oG,T,L,rfl⟩,⟨A.os,A.tape,A.output,A.size,λb R _ _=>A.block b R,nA,(λj b V=>by simp at V),(λi j hi=>by simp at hi),⟨λd o a=> ?_,λd o a=> ?_⟩,λd o a=> ?_,λd o a=> ?_⟩,rfl⟩;by_cases e:d=g;subst e;have a:J d=sM o:=a;rw[E]at a;cases a;exact hg;have a:J d=sM o:=a;rw[z d e]at a;have t:=Q.1 d o a;rwa[A.block d (Eg t)];have t:=Q.2 d o a;rwa[A.block d (Eg t)];by_cases e:d=g;right;exact⟨by rwa[e],λj V=>by simp at V⟩;left;have a:J d=sM o:=a;rw[z d e]at a;exact a;left;have a:I.Ak d=sM o:=a;rw[a];rfl
end
section
open Go.AX Lz
theorem AdM(u v w):CallsD prog 268 #[u,v] .returning w λe c d=>e=.returned (.tuple #[])/\c=.returning/\d=w:=by refine callsD_of_wpS func268 rfl λa g b=> ?_;apply wpS_seq;apply wpS_region;simp[wpOpsS,go_sem,recoverD,b,ntmps268,Exit.thenS];apply wpS_seq;apply wpS_region;simp[wpOpsS,go_sem,Exit.thenS];refine wpS_cond (t:=fF) (by simp[Act.eval,Array.replicate]) ?_;simp[N7,Hq];refine wpS_of_wp (wp_skip ?_);cases a;simp_all[bodyPostS,results,results268]
def Zo{t l h d a b n I e}(k:prog.underlying t=sM (.map l h))(i:e= {callee:=.builtin .len,args:=#[.tmp a],argTypes:=#[t]}):
 HL prog (.call e) [(a,SV.m d)] [(d,.Aq<|.map b n)] I (.v<|iV b.size):=by
 subst i;refine .of ?_;rintro ρ m w ⟨g,_⟩ _ hN _ o j;simp[AO]at g;have c:=hN (d,.Aq<|.map b n) sP _ rfl;simp[execOp,j,resolve,invoke,builtin,Builtin.len_,g,rU k,MapKept.run_getObj_map c,aT,AO,goInt]
def AVR{o G v t P l n m k S U L c p I H}(E:o.op=.call H)(X:H= {callee:=.builtin .delete,args:=#[m,k],argTypes:=#[t,P]})(hm:ev G m=.m l)(hk:ev G k=U)(C:∀ρ,AO ρ U=S)(d:(l,.Aq<|.map L n)∈p)
 (u:∀(w:AN) r ty,w.heap[r]? =sM (.map L n)->(Builtin.delete_ #[t,P] ty #[.map<|sM r,S]).run prog w=.ok (.tuple #[]) {w with heap:=w.heap.setIfInBounds r<|.map c n}):HS prog o G v p I (λh=>h= {r:=.t [],AV:=[(l,.Aq<|.map c n)],J:=I}) nO:=by
 subst X;refine⟨?_⟩;intro ρ a w M Z W B N Y aa next Q hnext _;have y:=Z _ d _ rfl;simp only at y;have x:=M m (by simp[E,Op.operands,Go.Call.operands]);have K:=M k (by simp[E,Op.operands,Go.Call.operands]);rw[hm]at x;rw[hk,C ρ]at K;simp[AO]at x;have hex:(execOp a.eval o).run prog w=.ok (.value<|.tuple #[]) {w with heap:=w.heap.setIfInBounds (ρ l)<|.map c n}:=by simp[execOp,E,resolve,invoke,builtin,x,K,u w (ρ l) o.type y,aT]
 let⟨k1,O⟩:=MapKept.heap_set (o':=.map c n) y;rw[Oper.wp];rw[hex,Oper.upon_value];refine hnext rfl {r:=.t [],AV:=[(l,.Aq<|.map c n)],J:=I} _ (λ_=>0) rfl ⟨rfl,rfl,rfl,sP,λb g D _=>O b λe=>(D (l,.Aq<|.map c n) sP) ?_,?_,λj b hj=>by simp at hj,λi j hi=>by simp at hi,?_,λb T g=>.inl g,λb T g=>IM g⟩;exact e.symm;intro kb q T s;simp at q;subst q;have V:Ab.Bh {r:=.t [],AV:=[(l,AK.Aq<|.map c n)],J:=I} ρ v (λ_=>0)=ρ:=by funext n;exact F7 (by rw[CX];split<;>rfl)
 rw[V]at s⊢;cases s;exact k1;exact W.A2 (B _ d rfl) λb _ z=>O b λe=>z e.symm
variable{ds:List Deferred}{F:FuncId}{fn:Func}{n:Nat}{I:AB}{w:World}{ρ:Nat->Nat}{A:List Nat}{R:Ec}{f:Bv}
def AYK{t kt km m0 m k kv sk es es' I' o}(s:(Mo f).op=.call o)(p:o= {callee:=.builtin .delete,args:=#[m,k],argTypes:=#[t,kt]})(q:ev f.σ.tm m=.m km)(a:ev f.σ.tm k=sk)(j:∀ρ,AO ρ sk=kv)
 (e:∀(w:AN) r ty,w.heap[r]? =sM (.map es m0)->(Builtin.delete_ #[t,kt] ty #[.map<|sM r,kv]).run prog w=.ok (.tuple #[]) {w with heap:=w.heap.setIfInBounds r<|.map es' m0})
 (c:OB f n [(km,.Aq<|.map es m0)] I') (hnext:AtD ds F fn n I w ρ A R<|f.act {r:=.t [],AV:=[(km,.Aq<|.map es' m0)],J:=I'}):AtD ds F fn n I w ρ A R f:=by
 refine act (need:=[(km,.Aq<|.map es m0)]) (hobs:=c) (AVR (I:=I') s p q a j (A9.2 rfl) e) ?_ ?_;rintro h rfl;refine{r:=nA,u:=λv i=> ?_,n:=nA,l:=by simp,le:=AB.Hj _,d:=by simp};rw[A9.1 i];exact⟨A9.2 rfl,λb g=>by rw[(IC<|A9.1 g).2];rfl,nA⟩;rintro h rfl;exact hnext
def ANB{t g m i c d n j kv old}(l:prog.underlying t=sM (.map g i))(a:prog.underlying g=sM c)(b:MapKept.IsKey c kv)(k:Instr.findNow c kv d.toList 0=sM (sM (j,old)))(w r)(h:w.heap[r]? =sM (.map d n)):
 (Builtin.delete_ #[t,g] m #[.map<|sM r,kv]).run prog w=.ok (.tuple #[]) {w with heap:=w.heap.setIfInBounds r<|.map (d.eraseIdxIfInBounds j) n}:=by
 have e:=MapKept.run_findKey (P:=prog) (w:=w) a k;simp[Builtin.delete_,rU l,MapKept.run_getObj_map h,MapKept.run_checkKey a b,e,aT,MapKept.run_setObj_map _ h]
def Hu.erase{S g}{n:Nat}{b}{o:Nat}(h:Hu S g n b o){a:Nat}(i:∃e∈b.toList,e.key=.int iK (a:Int)):
 ∃j old,Instr.findNow (.int iK) (iV a) b.toList 0=sM (sM (j,old))/\Hu S g n (b.eraseIdxIfInBounds j) o/\wμ S g (b.eraseIdxIfInBounds j)<wμ S g b:=by
 rcases MapKept.findNow_spec (d:=.int iK) (k:=.int iK (a:Int)) rfl b.toList 0 h.AKH with q|⟨j,e,l,p,t⟩;let⟨e,r,s⟩:=i;exact absurd s<|q.2 e r;rw[FE]at l;have c:j<b.size:=by have:=(Ci.1 p).1;simpa using this
 have d:(b.eraseIdxIfInBounds j).toList=b.toList.eraseIdx j:=by unfold Array.eraseIdxIfInBounds;rw[RV c];simp
 have k:(b.eraseIdxIfInBounds j).size=b.size-1:=by unfold Array.eraseIdxIfInBounds;rw[RV c];simp
 refine⟨j,e.val,l,⟨h.st,MapKept.stamped_erase h.so j,h.CG,λx m=> ?_⟩,?_⟩;rw[d]at m;exact h.opn x<|(ABX _ _).subset m;unfold wμ;rw[k];omega
def TU.up{I J c d f a b cl}(h:TU I c d f a b cl)(hle:I.le J):TU J c d f a b cl:=
 ⟨h.tab.up hle,h.img.up hle,h.cs,h.fs,h.fa,h.code.up hle λ_ _ h=>h,h.len,h.a,h.v⟩
def AB9(I:AB):zP:=λa h=>∃(b:Ae Ar)(n:Nat)(J:AB),I.le J/\h= {r:=.t [.m a,.g [.v<|.int iK 0,.v<|.int iK 0]],nb:=[.Aq<|.map b n],J:=J}
def trB(e:A6)(g:Dw)(f:Lz.Ev)(a:AU Au)(b:Nat)(d:Ae Ar)(n:Nat)(c:Ae Ar)(h:Nat):AA (Nat×AK):=VB e g f a b d n c h++[(4,.cells [.v<|.map nO] 332),(5,.cells [.v<|.int iK 0,.v<|.int iK 0] 334)]
def AdJ(I:AB)(im:A6)(ip:Dw)(f:Lz.Ev)(ca:AU Au)(cc:Nat)(i:Nat):Hd where
 Cd:=[(4,.p 4 0),(5,.p 5 0),(6,.p 1 0),(22,.v<|iV<|lN f.code),(23,.v<|iV i)]
 Cc:=trB im ip f ca cc #[] 0 #[] 0
 J:=I
def AdK(im:A6)(ip:Dw)(f:Lz.Ev)(ca:AU Au)(cc:Nat)(q:Ae Ar×Nat×Ae Ar×Nat×AB):Hd where
 Cd:=[(4,.p 4 0),(5,.p 5 0),(6,.p 1 0)]
 Cc:=trB im ip f ca cc q.1 q.2.1 q.2.2.1 q.2.2.2.1
 J:=q.2.2.2.2
def Ad7(S):Hu S #[] 0 #[] 0:=⟨⟨sP,sP,sP⟩,⟨sP,sP,sP⟩,sP,sP⟩
def AdL(I)(ad:EB I)(d O)(D:FJ I d O)(af:lN d.DN<=64)(aj:lN d.Ax<=16)(ah:∀g∈d.Ax,g.args<=16)(i f)(p:d.Ax[i]? =sM f)(F:lN f.code<=256)(ha:f.args<=16)(hv:f.args+f.Ai<=16)(S)(M:Ng d f S):
 Fn 188 [.g<|Fa d O,.v<|iV i] [] I (AB9 I) nO:=by
 have o:i<lN d.Ax:=(Ci.1 p).1;have hS:lN S<=256:=by rwa[M.len]
 let⟨fb,b,ax,fe,ay,az,G,q2,q3,q4,q5⟩:=D.u.cell (WI I) p;obtain⟨s,t,cl,rfl,y⟩:=q3;have C:TU I d O f s t cl:=⟨ad,D,af,aj,ah,y,F,ha,hv⟩;let⟨P,Q,R,ua,L,U⟩:=O;simp only at G;subst G;refine fo func188 λV h w E=>go func188 [] 7 kR<|ASV func188 9 268 4 5 #[] kR kR kR λu v=> ?_;have am:∀(h:Nat)(tmps:Ae AF)(A:AN)(x:AF),(results f188 tmps).run prog A=.ok x A->Rf prog I V h w [] (AB9 I) nO (.returned x) A->Leaves prog f188 tmps (Rf prog I V h w [] (AB9 I) nO) [{target:=.fn (.func 268) #[u,v],args:=#[]}] .returning A:=λh tmps A x h1 h2=>by refine leaves_cons (f:=268) (args:=#[u,v]) sP ?_ ?_;have:=JL func268 kR kR #[u,v] A;simpa[invoke]using this;refine(AdM u v A).mono ?_;rintro e u' a0 ⟨rfl,rfl,rfl⟩;exact⟨x,h1,h2⟩
 refine gg [(14,Br I M7 fb b (lN d.Ax) L i o),(15,D8 I AM1 (b+i*3) (ZC f s t) rfl q2 q5)]<|Om 172 (b:=.Ey [] []) (b':=.Aq<|.map #[] 0) kR (λV=>rfl) nA rfl<|Om 180 (b:=.Ey [] []) (b':=.Aq<|.map #[] 0) kR (λV=>rfl) nA rfl<|loop (ι:=Nat) (λi=>i<=lN f.code) (λi=>lN f.code-i) (AdJ I d ⟨P,Q,R,sM ⟨fb,b,nO⟩,L,U⟩ f s t) 1000 [(1,196),(2,172),(3,180),(4,108),(5,116)] 0 (Bm _) ?_;intro i D again T;by_cases o:i<lN f.code;have p:f.code[i]? =sM f.code[i]:=BS o;let⟨r1,r2⟩:=M.op _<|DR o;refine gg [(24,tH i<|lN f.code)]<|A0 (Adt I d _ f s t cl C #[] 0 #[] 0 i _ p r1 r2) [] ?_;rintro _ rfl;exact gg [(28,sH i)]<|bk again [] (i+1) oG;have D:i=lN f.code:=oG;subst D;refine gg [(24,fH (lN f.code)<|lN f.code)]<|A0 (Py I d ⟨P,Q,R,sM ⟨fb,b,nO⟩,L,U⟩ f s t S #[] 0 #[] 0 (Ad7 S) 0 0 (0,0) M.hd) [] ?_;rintro _ ⟨aa,n1,X,av,ao,_,rfl⟩;refine gG<|loop (ι:=Ae Ar×Nat×Ae Ar×Nat×AB) (λq=>Hu S q.1 q.2.1 q.2.2.1 q.2.2.2.1/\I.le q.2.2.2.2) (λq=>wμ S q.1 q.2.2.1) (AdK d ⟨P,Q,R,sM ⟨fb,b,nO⟩,L,U⟩ f s t) 3000 [] (aa,n1,X,av,I) ⟨ao,AB.le_refl _⟩ ?_;rintro⟨Z,n,k,H,J⟩ ⟨N,hle⟩ l T2;simp only at N hle;by_cases h0:k.size=0;exact gg [(33,.BZ (.call {callee:=.builtin .len,args:=#[.tmp 32],argTypes:=#[378]}) [(32,.m 3)] [(3,.Aq<|.map k H)] J (.v<|iV k.size)<|Zo AA8 rfl),(34,hF<|(k.size:Int)>0)]<|doneD func188 E [2] (h:={r:=.t [.m h,.g [.v<|.int iK 0,.v<|.int iK 0]],nb:=[.Aq<|.map Z n],J:=J}) kR ⟨Z,n,J,hle,rfl⟩<|am h
 refine gg [(33,.BZ (.call {callee:=.builtin .len,args:=#[.tmp 32],argTypes:=#[378]}) [(32,.m 3)] [(3,.Aq<|.map k H)] J (.v<|iV k.size)<|Zo AA8 rfl),(34,hT<|(k.size:Int)>0)]<|A0 (AWc J k H) [] ?_;rintro _ rfl;refine gG<|A0 (Abv J N hS oG) [(9,3048)] ?_;rintro _ ⟨sb,m,c,W,K,x,B,_,ac,hm,ae,ak,rfl⟩;let⟨e,he,hk⟩:=ak;let⟨a,z,_,e',ag,al⟩:=N.opn e he;have ar:x=(a:Int):=(Value.int.inj<|hk.symm.trans z).2;subst ar;let⟨j,old,ai,ap,au⟩:=N.erase ⟨e,he,z⟩;refine gg [(39,Br K Yx sb 0 m c 0 hm),(40,ED K Ek rfl (0+0*1) (iV a) ac ae)]<|AYK (t:=378) (kt:=3) (km:=3) (m0:=H) (m:=.tmp 42) (k:=.tmp 43) (kv:=.int iK (a:Int)) (sk:=.v<|iV a) (es:=k) (es':=k.eraseIdxIfInBounds j) (I':=K) kR rfl kR kR (λ_=>rfl) (λw r ty hb=>ANB (kv:=.int iK (a:Int)) AA8 Ek rfl ai w r hb) kR<|gG<|A0 (AdA K d ⟨P,Q,R,sM ⟨fb,b,nO⟩,L,U⟩ f s t cl (C.up<|hle.trans B) S M Z n (k.eraseIdxIfInBounds j) H ap a ⟨e',ag,al.trans z⟩) [] ?_;rintro _ ⟨ab,n3,Y,aw,aq,an,rfl⟩;exact gG<|bk l [] (ab,n3,Y,aw,K) ⟨aq,hle.trans B⟩ (hm:=(Nat.lt_of_le_of_lt an au))
def Adn(im:A6)(ip:Dw)(q:Nat×AB):Hd where
 Cd:=[(1,.p 1 0),(16,.v<|iV<|lN im.Ax),(17,.v<|iV q.1)]
 Cc:=[(1,.cells (Fa im ip) 32)]
 J:=q.2
def Ado(I)(b:EB I)(v:Pow I)(a d)(e:FJ I a d)(h:Ra a)(k:∀f∈a.Ax,∃S,Ng a f S):Fn 135 [.g<|Fa a d] [] I (ACB I) nO:=by let⟨h1,⟨C,u⟩,h4,h5⟩:=h;refine fo func135 λD A w o=>gG<|call (AJv I b v a d e h)<|gG<|loop (ι:=Nat×AB) (λq=>q.1<=lN a.Ax/\I.le q.2) (λq=>lN a.Ax-q.1) (Adn a d) 1000 [(1,100)] (0,I) ⟨Bm _,AB.le_refl _⟩ ?_;rintro⟨i,J⟩ ⟨l,hle⟩ again T;simp only at l hle;by_cases c:i<lN a.Ax;have z:a.Ax[i]? =sM a.Ax[i]:=BS c;have p:=DR c;let⟨S,x⟩:=k _ p;let⟨r,s,t,_⟩:=h5 _ p;refine gg [(18,tH i<|lN a.Ax)]<|A0 (AdL J (b.up hle) a d (e.up hle) h1 u (λg y=>(h5 g y).a) i _ z t.2 r s S x) [] ?_;rintro _ ⟨B,n,K,j,rfl⟩;refine gg [(34,sH i)] ?_;exact bk again [] (i+1,K) ⟨by show i+1<=_;omega,hle.trans j⟩;have e:i=lN a.Ax:=oG;subst e;exact gg [(18,fH (lN a.Ax)<|lN a.Ax)]<|dn [] ⟨(),J,rfl,hle,trivial⟩
end
end Go.Proofs.YtomehhepbeiinaaGreatDoor
