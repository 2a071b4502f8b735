/- Part 8 of the proof of TopErased. No conditions. -/
import Derived.Test.YtomehhepbeiinaaGreatDoorZ07
import Derived.Test.YtomehhepbeiinaaGreatDoorRows
import Derived.Shelf.Strings.SplitCore
import Derived.Shelf.Strings.Count
import Derived.Lib.SplitLaws
import Derived.LaidMore
import Derived.Stop.Joined
import Derived.Lay
set_option maxRecDepth 100000
set_option maxHeartbeats 4000000
set_option linter.all false
open List renaming length->lN
open Option renaming some->sM,none->nO
open Bool renaming true->tT,false->fF
open Go.Value renaming string->vS,bool->vB
open Go.IntKind renaming i64->iK
namespace Go.Proofs.YtomehhepbeiinaaGreatDoor
open Go.Proofs.Tryz
section
open Go.AX Lz
def AVR{o G v t S l n m k T V L c p I H}(E:o.op=.call H)(Y:H= {callee:=.builtin .delete,args:=#[m,k],argTypes:=#[t,S]})(hm:ev G m=.m l)(hk:ev G k=V)(C:∀ρ,AO ρ V=T)(d:(l,.Aq<|.map L n)∈p)
 (u:∀(w:AN) r ty,w.heap[r]? =sM (.map L n)->(Builtin.delete_ #[t,S] ty #[.map<|sM r,T]).run prog w=.ok (.tuple #[]) {w with heap:=w.heap.setIfInBounds r<|.map c n}):HS prog o G v p I (λh=>h= {r:=.t [],AV:=[(l,.Aq<|.map c n)],J:=I}) nO:=by
 subst Y;refine⟨?_⟩;intro ρ a w M hh X B N Z aa next Q hnext _;have y:=hh _ d _ rfl;simp only at y;have x:=M m (by simp[E,Op.operands,Go.Call.operands]);have K:=M k (by simp[E,Op.operands,Go.Call.operands]);rw[hm]at x;rw[hk,C ρ]at K;simp only[AO]at x;have hex:(execOp a.eval o).run prog w=.ok (.value<|.tuple #[]) {w with heap:=w.heap.setIfInBounds (ρ l)<|.map c n}:=by simp[execOp,E,resolve,invoke,builtin,x,K,u w (ρ l) o.type y,Result.andThen]
 obtain⟨k1,P⟩:=MapKept.heap_set y;rw[Oper.wp];rw[hex,Oper.upon_value];refine hnext rfl {r:=.t [],AV:=[(l,.Aq<|.map c n)],J:=I} _ (λ_=>0) rfl ⟨rfl,rfl,rfl,sP,λb g D _=>P b λe=>(D (l,.Aq<|.map c n) sP) ?_,?_,λj b hj=>by simp at hj,λi j hi=>by simp at hi,?_,λb U g=>.inl g,λb U g=>IM g⟩;exact e.symm;intro kb q U s;simp at q;subst q;have W:Ab.Bh {r:=.t [],AV:=[(l,AK.Aq<|.map c n)],J:=I} ρ v (λ_=>0)=ρ:=by funext n;exact F7 (by rw[CX];split<;>rfl)
 rw[W]at s⊢;cases s;exact k1;exact X.A2 (B _ d rfl) λb _ z=>P b λe=>z e.symm
variable{F:FuncId}{O:Func}{n:Nat}{I:AB}{w:World}{ρ:Nat->Nat}{A:List Nat}{R:Ec}{f:Bv}
def ALC{t kt km m0 m k kv sk es es' I' o}(s:(Mo f).op=.call o)(p:o= {callee:=.builtin .delete,args:=#[m,k],argTypes:=#[t,kt]})(q:ev f.σ.tm m=.m km)(a:ev f.σ.tm k=sk)(j:∀ρ,AO ρ sk=kv)
 (e:∀(w:AN) r ty,w.heap[r]? =sM (.map es m0)->(Builtin.delete_ #[t,kt] ty #[.map<|sM r,kv]).run prog w=.ok (.tuple #[]) {w with heap:=w.heap.setIfInBounds r<|.map es' m0})
 (c:OB f n [(km,.Aq<|.map es m0)] I') (hnext:At F O n I w ρ A R<|f.act {r:=.t [],AV:=[(km,.Aq<|.map es' m0)],J:=I'}):At F O n I w ρ A R f:=by
 refine act (hobs:=c) (AVR (I:=I') s p q a j (A9.2 rfl) e) ?_ ?_;rintro h rfl;refine{r:=nA,u:=λv i=> ?_,n:=nA,l:=by simp,le:=AB.Hj _,d:=by simp};rw[A9.1 i];exact⟨A9.2 rfl,λb g=>by rw[(IC<|A9.1 g).2];rfl,nA⟩;rintro h rfl;exact hnext
def UD(e:Ar):SV:=match e.key with
 | .agg a=>.g<|a.toList.map .v
 |v=>.v v
def AKF(e ρ):AO ρ (UD e)=e.key:=by rw[UD];split;rename_i a h;rw[h];simp[AO];rw[Gw];rfl
def AKI(l:AA AF):DF (l.map .v)=[]:=by
 induction l with
 |nil=>rfl
 |cons x l a=>simp[DF,SV.A3,a]
def AKG(e):(UD e).A3=[]:=by rw[UD];split;exact AKI _;rfl
abbrev AKY(l:AT):AA SV:=[.v<|vS<|AJ l.1,.v<|vS<|AJ l.2]
def AJp(b d:Nat)(c:Ae Ar)(n:Nat)(l:AT)(a:Ae Nat)(e g:Ae Ar)(m:Nat):AA (Nat×AK):=
 [(1,.cells [.m 2,.v<|.map<|sM b] 178),(2,.Aq<|.map c n),(6,.cells (AKY l) 42),(7,.cells [.m 9,.m 10] 178),(8,.Aq<|.mapIter (sM b) d a d),(9,.Aq<|.map e n),(10,.Aq<|.map g m)]
def AU6(b m0:Nat)(a:Ae Ar)(n:Nat)(l:AT)(q:X6):Hd where
 Cd:=[(3,.p 6 0),(5,.p 7 0),(26,.p 8 0)]
 Cc:=AJp b m0 a n l q.CG q.es q.ns q.m
 J:=q.J
def AU7(b m0:Nat)(a:Ae Ar)(n:Nat)(l:AT)(CG:Ae Nat)(ns:Ae Ar)(m:Nat)(J:AB)(r:Rw)(x:Nat×Ae Ar):Hd where
 Cd:=[(3,.p 6 0),(5,.p 7 0),(6,.p 11 0),(26,.p 8 0),(42,.v r.val),(43,.v<|iV<|lN r.ns),(44,.v<|iV x.1)]
 Cc:=AJp b m0 a n l CG x.2 ns m++[(11,.cells (AKY r.l) 42)]
 J:=J
def AGw(I:AB)(s:Az)(l:AT)(e:Ae Ar)(n b:Nat):zP:=λa h=>∃(c d:Ae Ar)(i:Nat)(g:AA Rw)(J:AB),Cb I [] J (g.map (·.b))/\C9 J (GU s l) c n/\El J (GU s l) g d i/\
 h= {r:=.p a 0,AV:=[(1,.cells [.m 2,.v<|.map<|sM b] 178),(2,.Aq<|.map e n)],nb:=[.cells [.m<|a+1,.m<|a+2] 178,.Aq<|.map c n,.Aq<|.map d i],J:=J}
def AVB(I s L P h n m b)(hS:C9 I s P n)(hN:El I s L h m)(U:I.Ak b=sM (.map h m))(l)(aj:B9 l)(af:∀r∈L,B9 r.l)(ae:∀r∈L,lN r.ns<=1000000)(Z:I b=nO):
 Fn 59 [.p 1 0,DW l] [(1,.cells [.m 2,.v<|.map<|sM b] 178),(2,.Aq<|.map P n)] I (AGw I s l P n b) nO:=by
 refine fo func59 λρ ao w an=>gG<|A0 (ARj I P n) [(1,2)] ?_;rintro _ rfl;refine gG<|A0 (ARm I b h m U) [] ?_;rintro _ rfl;refine gG<|AMZ (t:=176) (kt:=42) (et:=38) (b:=b) (m:=m) (es:=h) (x:=.tmp 25) (I':=I) kR Xb kR (show I.B8 b (.map h m)from⟨U,Z⟩).CW kR<|gG<|loop (ι:=X6) (λq=>MF I s L h n l q) (λq=>lN<|JA h L q.CG) (AU6 b m P n l) 1000 [(6,100),(7,204),(8,252),(9,148),(10,188)] ⟨#[],P,h,m,L,[],[],[],[],I⟩ (.start hS hN) ?_;rintro⟨a,Q,c,C,v,H,G,V,D,J⟩ N again T;have aa:J.B8 b (.map h m):=N.st.A2 _ _ ⟨U,Z⟩ sP;refine gG<|ALc (b:=b) (m:=m) (k:=8) (x:=.tmp 26) (es:=h) (CG:=a) (I':=J) (kS:=UD) (vS:=λe=>.v e.val) kR kR aa.CW hN.bo.lt (λe _=>AKF e) (λ_ _ _=>rfl) (λe _=>AKG e) (λ_ _=>rfl) kR (λh0=> ?_) λe he=> ?_;have i:=N.ATx hN hS.nd<|AXM hN.Gb h0;exact gG<|dn [7,9,10] ⟨Q,c,C,v,J,i.1,i.2.1,i.2.2,rfl⟩;let⟨r,ak,k,d⟩:=AXO hN.Gb hN.bo he;have ah:e∈h.toList:=by rw[leftOf]at he;simp only[P4,Ho]at he;exact he.1
 let⟨ek,ev,born⟩:=e;let⟨ac,ad⟩:=ak;simp only at ac ad d;subst ac ad;have o:=hN.B8 r k;have t:J.B8 r.b (Gh r.ns r.AE):=N.st.A2 _ _ o.1 sP;have M:lN (JA h L<|a.push born)<lN (JA h L a):=by have:=d.length_eq;rw[FM]at this;omega
 refine gG<|AI4 (b:=b) (m:=m) (k:=8) (x:=.tmp 26) (es:=h) (CG:=a) (I':=J) (kS:=UD) (vS:=λe=>.v e.val) (e:=⟨.agg<|HG r.l,r.val,born⟩) kR kR aa.CW hN.bo.nd ah (AKF _) (λ_=>rfl) (AKG _) rfl kR<|gG<|call (NB J r.l l (af r k) aj) ?_;cases ab:fl r.l l with
 |true=>
  refine gG<|A0 (ARo J r.ns r.b r.c r.AE t o.2.1 o.2.2 (by have:=ae r k;omega)) [] ?_;rintro _ ⟨u,K,g,rfl,h1,h2,h3⟩;have X:=N.Ads hN.lb d ab h1 h2 h3;exact gG<|Qv (t:=176) (km:=10) (m0:=C) (m1:=(putRow c C v r.l<|.slice (aP u) (lN r.ns) K).2) (es:=c) (es':=(putRow c C v r.l<|.slice (aP u) (lN r.ns) K).1) (m:=.tmp 38) (k:=.tmp 39) (x:=.tmp 41) (kv:=.agg<|HG r.l) (v:=.slice (aP u) (lN r.ns) K) (sk:=DW r.l) (sx:=.v<|.slice (aP u) (lN r.ns) K) (I':=J.plus u<|Gh r.ns g) kR kR kR (λ_=>rfl) kR (λ_=>rfl) (λw rr U=>ALQ N.Gb w rr U) kR<|gG<|bk again [] ⟨a.push born,Q,(putRow c C v r.l<|.slice (aP u) (lN r.ns) K).1,(putRow c C v r.l<|.slice (aP u) (lN r.ns) K).2,KA v ⟨r.l,r.ns,u,K,g⟩,H,r::G,⟨r.l,r.ns,u,K,g⟩::V,D,J.plus u<|Gh r.ns g⟩ X (hm:=M)
 |false=>
  refine gG<|loop (ι:=Nat×Ae Ar) (λx=>x.1<=lN r.ns/\C9 J (s.filter λp=> !(D++r.ns.take x.1).contains p.1) x.2 n) (λx=>lN r.ns-x.1) (AU7 b m P n l (a.push born) c C J r) 3000 [(11,1040)] (0,Q) ⟨Bm _,by simpa using N.B0⟩ ?_;rintro⟨j,Y⟩ ⟨hj,B⟩ y T2;simp only at hj B;by_cases z:j<lN r.ns;let⟨S,ag,al⟩:=B.del<|F5<|hN.ok r k _<|DR z;have W:(r.ns.map BQ++r.AE).toArray[0+j*1]? =sM (vS<|Aa r.ns[j]):=by simp[List.getElem?_append,z,BQ]
  have am:C9 J (s.filter λp=> !(D++r.ns.take (j+1)).contains p.1) S n:=by
   have:(s.filter λp=> !(D++r.ns.take (j+1)).contains p.1)=((s.filter λp=> !(D++r.ns.take j).contains p.1).filter λp=>p.1 !=r.ns[j]):=by rw[List.filter_filter];refine ABY λp _=> ?_;rw[Kd z,<-Eb];generalize D++r.ns.take j=E;rw[F0];simp only[List.contains_eq_mem,Bc,A9,Jf,AGf,CJ,VT,ne_eq,Jk];exact And.comm
   rwa[this]
  refine gg [(45,tH j<|lN r.ns),(46,Br J Jr r.b 0 (lN r.ns) r.c j z),(47,.Kz J _ _<|IZ (I:=J.CW) Di rfl t.CW W)]<|ALC (t:=175) (kt:=9) (km:=9) (m0:=n) (m:=.tmp 51) (k:=.tmp 52) (kv:=vS<|Aa r.ns[j]) (sk:=.v<|vS<|Aa r.ns[j]) (es:=Y) (es':=S) (I':=J) kR rfl kR kR (λ_=>rfl) ag kR<|gg [(53,hW ((j:Int)+1) ((j+1:Nat):Int) oG (by have:=ae r k;omega))] ?_;exact bk y [] (j+1,S) ⟨by show j+1<=_;omega,am⟩;have hj:j=lN r.ns:=oG;subst hj;rw[FN]at B;exact gg [(45,fH (lN r.ns)<|lN r.ns)]<|ALC (t:=176) (kt:=42) (km:=10) (m0:=C) (m:=.tmp 57) (k:=.tmp 58) (kv:=.agg<|HG r.l) (sk:=DW r.l) (es:=c) (es':=PG c v r.l) (I':=J) kR rfl kR kR (λ_=>rfl) (λw rr ty U=>AYL N.Gb w rr ty U) kR<|gG<|bk again [] ⟨a.push born,Y,PG c v r.l,C,Tg v r.l,r::H,G,V,D++r.ns,J⟩ (N.hidden hN.lb d ab B) (hm:=M)
def WM(a b:Nm)(r:Bool)(c:BV a)(d:BV b)(h:decide (a=b)=r):Hint:=.eq (Value.bool<|(Aa a).toList==(Aa b).toList) (vB r) (by unfold Aa;rw[TY c d,<-h];exact Dt Value.bool<|F0.2 sP)
def AXn(I x y)(a b:Bool):∀d f (o:Bw),o.op=.binOp .eql 4 (.tmp x) (.tmp y) 4->(∀p∈[(x,SV.v (vB a)),(y,SV.v (vB b))],f p.1=p.2)->LS prog o f d [] I (.v (vB (a==b))) nO:=by intro d f o e c;have j:=Ds c (s:=x) (x:=.v (vB a)) sP;have k:=Ds c (s:=y) (x:=.v (vB b)) sP;intro m l w i _ _ _ _;refine⟨w,?_,Bl.refl w⟩;have g:=i (.tmp x) xO;have h:=i (.tmp y) xO;simp[ev,j,k,AO]at g h;simp[execOp,e,Sem.run_bind,g,h];cases a<;>cases b<;>(go_simp;rfl)
def AXo(I x y)(a b:Bool):∀d f (o:Bw),o.op=.binOp .neq 4 (.tmp x) (.tmp y) 4->(∀p∈[(x,SV.v (vB a)),(y,SV.v (vB b))],f p.1=p.2)->LS prog o f d [] I (.v (vB (!(a==b)))) nO:=by intro d f o e c;have j:=Ds c (s:=x) (x:=.v (vB a)) sP;have k:=Ds c (s:=y) (x:=.v (vB b)) sP;intro m l w i _ _ _ _;refine⟨w,?_,Bl.refl w⟩;have g:=i (.tmp x) xO;have h:=i (.tmp y) xO;simp[ev,j,k,AO]at g h;simp[execOp,e,Sem.run_bind,g,h];cases a<;>cases b<;>(go_simp;rfl)
def hBE(I:AB)(x y:Nat)(a b r:Bool)(h:decide (a=b)=r):Hint:=.BZ (.binOp .eql 4 (.tmp x) (.tmp y) 4) [(x,.v<|vB a),(y,.v<|vB b)] [] I (.v<|vB r) (by have:=AXn I x y a b;rw[show(a==b)=r by rw[<-h];cases a<;>cases b<;>rfl]at this;exact this)
def ZG(I:AB)(x y:Nat)(a b r:Bool)(h:decide (a=b)=r):Hint:=.BZ (.binOp .neq 4 (.tmp x) (.tmp y) 4) [(x,.v<|vB a),(y,.v<|vB b)] [] I (.v<|vB<|!r) (by have:=AXo I x y a b;rw[show(a==b)=r by rw[<-h];cases a<;>cases b<;>rfl]at this;exact this)
def hUE(a b:UInt8)(r:Bool)(h:decide (a=b)=r):Hint:=.eq (Value.bool<|(a.toNat:Int)==(b.toNat:Int)) (.bool r) (by rw[<-h];congr 1;exact Bool.eq_iff_iff.2<|by simp[beq_iff_eq,decide_eq_true_eq];exact AK8)
def hUN(a b:UInt8)(r:Bool)(h:decide (a=b)=r):Hint:=.eq (Value.bool<|(a.toNat:Int) !=(b.toNat:Int)) (.bool<|!r) (by rw[<-h];congr 1;rw[bne];congr 1;exact Bool.eq_iff_iff.2<|by simp[beq_iff_eq,decide_eq_true_eq];exact AK8)
def ZH(a b:Nat)(r:Bool)(h:decide (a=b)=r):Hint:=.eq (Value.bool<|(a:Int)==(b:Int)) (.bool r) (by rw[<-h];congr 1;exact Bool.eq_iff_iff.2<|by simp[beq_iff_eq,decide_eq_true_eq];exact Pj)
def Qe(a b:Nat)(r:Bool)(h:decide (a=b)=r):Hint:=.eq (Value.bool<|(a:Int) !=(b:Int)) (.bool<|!r) (by rw[<-h];congr 1;rw[bne];congr 1;exact Bool.eq_iff_iff.2<|by simp[beq_iff_eq,decide_eq_true_eq];exact Pj)
def AJi(I:AB)(x y:Nat)(a b:AW)(c:BV a.name)(d:BV b.name)(r:Bool)(e:decide (a=b)=r)(f:BN:=51):Hint:=
 .BZ (.binOp .neq 51 (.tmp x) (.tmp y) f) [(x,Do a),(y,Do b)] [] I (.v<|vB<|!r)<|AK2 dC λ_ w=>e▸eqV c d w
def AJf(I:AB)(x y:Nat)(a b:Lz.St)(r:Bool)(c:decide (a=b)=r)(d:BN:=44):Hint:=
 .BZ (.binOp .eql 44 (.tmp x) (.tmp y) d) [(x,Jv a),(y,Jv b)] [] I (.v<|vB r)<|AKx dC λ_ w=>c▸ATT w
def AUf{a b:Cw}:a=b↔a.fn=b.fn/\a.pc=b.pc/\a.Cp=b.Cp/\a.AR=b.AR/\a.Ai=b.Ai:=by let⟨_,_,_,_,_⟩:=a;let⟨_,_,_,_,_⟩:=b;simp[_root_.and_assoc]
def Ac7{a b:AL}:a=b↔a.id=b.id/\a.Bg=b.Bg/\a.g=b.g/\a.c=b.c/\a.AI=b.AI/\a.A7=b.A7/\a.Ao=b.Ao/\a.Aw=b.Aw/\a.on=b.on/\a.v=b.v/\a.ex=b.ex:=by let⟨_,_,_,_,_,_,_,_,_,_,_⟩:=a;let⟨_,_,_,_,_,_,_,_,_,_,_⟩:=b;simp[_root_.and_assoc]
def Adu{a b:Vr}:a=b↔a.full=b.full/\a.v=b.v/\a.q=b.q:=by let⟨_,_,_⟩:=a;let⟨_,_,_⟩:=b;simp[_root_.and_assoc]
def AZB{a b:Ob}:a=b↔a.kind=b.kind/\a.l=b.l/\a.v=b.v/\a.ex=b.ex/\a.done=b.done/\a.var=b.var/\a.fn=b.fn/\a.AR=b.AR:=by let⟨_,_,_,_,_,_,_,_⟩:=a;let⟨_,_,_,_,_,_,_,_⟩:=b;simp[_root_.and_assoc]
def ASI{a b:Ay}:a=b↔a.AG=b.AG/\a.stack=b.stack/\a.AP=b.AP:=by let⟨_,_,_⟩:=a;let⟨_,_,_⟩:=b;simp[_root_.and_assoc]
structure ABu(c:Ay):Prop where
 l:Kf c
 f:∀f∈c.AG,lN f.Ai<=1000000/\∀v∈f.Ai,BV v.name
 s:∀v∈c.stack,BV v.name
def AQA(I)(f g)(va vb)(ca b)(la lb)(ha:F3 I f.Ai va ca la)(hb:F3 I g.Ai vb b lb)(h:f.Ai.length<=1000000/\∀v∈f.Ai,BV v.name)(i:g.Ai.length<=1000000/\∀v∈g.Ai,BV v.name):Fn 173 [ADg f va ca,ADg g vb b] [] I (BW (.v (.bool (decide (f=g)))) I) none:=by rw[show decide (f=g)=(decide (f.fn=g.fn)&&(decide (f.pc=g.pc)&&(decide (f.Cp=g.Cp)&&(decide (f.AR=g.AR)&&(decide (f.Ai=g.Ai))))))from F0.2 (by simp[AUf])];generalize h1:decide (f.fn=g.fn)=r1;generalize c:decide (f.pc=g.pc)=r2;generalize d:decide (f.Cp=g.Cp)=r3;generalize e:decide (f.AR=g.AR)=r4;refine fo Tryz.func173 λρ key w j=> ?_;cases a:r1&&(r2&&(r3&&(r4)));exact gg [(9,Qe f.fn g.fn r1 h1),(15,Qe f.pc g.pc r2 c),(22,Qe f.Cp g.Cp r3 d),(29,hUN f.AR g.AR r4 e)] (fi (by cases r1;exact kR;cases r2;exact kR;cases r3;exact kR;cases r4;exact kR;exact absurd a (by decide))) (by cases r1;exact kR;cases r2;exact kR;cases r3;exact kR;cases r4;exact kR;exact absurd a (by decide));simp[CJ]at a;obtain⟨rfl,rfl,rfl,rfl⟩:=a;refine gg [(9,Qe f.fn g.fn true h1),(15,Qe f.pc g.pc true c),(22,Qe f.Cp g.Cp true d),(29,hUN f.AR g.AR true e)] (call (AI6 I f.Ai g.Ai va vb ca b la lb ha hb h.1 i.1 h.2 i.2) ?_);cases decide (f.Ai=g.Ai)<;>exact gG fi
def AS7(I:AB)(a:AU Au)(ac:Nat)(b:AU Au)(bc n m i:Nat):Hd where
 Cd:=[(1,.v<|.slice b m bc),(2,.v<|.func (.func 173) #[] #[]),(15,.v<|.slice a n ac),(16,.v<|iV n),(17,.v<|iV i)]
 J:=I
def ATc(I a b A B o p P Q)(U:Av I (Gd I) 5 a A o P)(V:Av I (Gd I) 5 b B p Q)(hl:lN a<=1000000)(hm:lN b<=1000000)(W:∀f∈a,lN f.Ai<=1000000/\∀v∈f.Ai,BV v.name)(X:∀f∈b,lN f.Ai<=1000000/\∀v∈f.Ai,BV v.name):
 Fn 172 [.v<|.slice A (lN a) o,.v<|.slice B (lN b) p,.v<|.func (.func 173) #[] #[]] [] I (BW (.v<|vB<|decide<|a=b) I) nO:=by
 refine fo func172 λρ Y w K=> ?_;by_cases hlen:lN a=lN b;refine gg [(14,EN (lN a:Int) (lN b:Int))]<|loop (ι:=Nat) (λi=>i<=lN a/\a.take i=b.take i) (λi=>lN a-i) (AS7 I A o B p (lN a)<|lN b) 1000 [] 0 ⟨Bm _,rfl⟩ ?_;rintro i ⟨J,n⟩ again T;by_cases j:i<lN a;have c:i<lN b:=oG;have k:a[i]? =sM a[i]:=BS j;have m:b[i]? =sM b[i]:=BS c;have L:=W _<|DR j;have M:=X _<|DR c;generalize a[i]=x at k L;generalize b[i]=y at m M;obtain⟨G,d,E,e1,R,r,rfl,q2,q3,q4,q5⟩:=U.cell (JN I) k;let⟨u,ca,Z,q3,C⟩:=q3;have q3:r=Qb x u ca:=q3;subst q3;obtain⟨H,g,F,e2,S,s,rfl,N,q,r4,O⟩:=V.cell (JN I) m;let⟨z,t,lb,q,D⟩:=q;have q:s=Qb y z t:=q;subst q;have h:=AQA I x y u z ca t Z lb C D L M;by_cases l:x=y;rw[G5 l]at h;exact gg [(18,tH i<|lN a),(20,Br I PO G d (lN a) o i j),(21,D8 I XJ (d+i*5) (Qb x u ca) rfl q2 q5),(24,Br I PO H g (lN b) p i c),(25,D8 I XJ (g+i*5) (Qb y z t) rfl N O)]<|call h<|gg [(31,sH i)]<|bk again [] (i+1) ⟨oG,AFn n k m l⟩;rw[Gp l]at h;rw[Gp<|AFo k m l];exact gg [(18,tH i<|lN a),(20,Br I PO G d (lN a) o i j),(21,D8 I XJ (d+i*5) (Qb x u ca) rfl q2 q5),(24,Br I PO H g (lN b) p i c),(25,D8 I XJ (g+i*5) (Qb y z t) rfl N O)]<|call h<|gG<|fi;have J:i=lN a:=oG;subst J;rw[G5<|show a=b by rw[FN,hlen,FN]at n;exact n];exact gg [(18,fH (lN a)<|lN a)]<|fi;rw[Gp λe=>hlen<|by rw[e]];exact gg [(14,Fs (lN a:Int) (lN b:Int))]<|fi
def ASQ(I a b p q)(e:C0 I a p)(f:C0 I b q)(c:ABu a)(d:ABu b):Fn 120 [.g<|Dx a p,.g<|Dx b q] [] I (BW (.v<|vB<|decide<|a=b) I) nO:=by rw[show decide (a=b)=(decide (a.AG=b.AG)&&(decide (a.stack=b.stack)&&(decide<|a.AP=b.AP)))from F0.2<|by simp[ASI]];refine fo func120 λi h w g=>gG<|call (ATc I a.AG b.AG p.fa q.fa p.fc q.fc p.fl q.fl e.f f.f (by have:=c.l.f;omega) (by have:=d.l.f;omega) c.f d.f) ?_;cases decide<|a.AG=b.AG;exact gG fi;refine gG<|call (AI6 I a.stack b.stack p.sa q.sa p.sc q.sc p.sl q.sl e.s f.s (by have:=c.l.s;omega) (by have:=d.l.s;omega) c.s d.s) ?_;cases decide<|a.stack=b.stack;exact gG fi;refine gG<|call (ATd I a.AP b.AP p.ta q.ta p.tc q.tc p.tl q.tl e.t f.t (by have:=c.l.t;omega) (by have:=d.l.t;omega) (λ_ _=>trivial) λ_ _=>trivial) ?_;cases decide (a.AP=b.AP)<;>exact gG fi
structure TT(t:AL):Prop where
 id:BV t.id
 Bg:BV t.Bg
 on:BV t.on
 v:BV t.v.name
 c:ABu t.c
 sl:lN t.AI<=1000000
 s:∀x∈t.AI,BV x.name/\BV x.Bg
def AdQ(I)(a b)(p q)(ha:DZ I a p)(hb:DZ I b q)(na:TT a)(nb:TT b):Fn 63 [.g (Dr a p),.g (Dr b q)] [] I (BW (.v (.bool (decide (a=b)))) I) none:=by
 rw[show decide (a=b)=(decide (a.id=b.id)&&(decide (a.Bg=b.Bg)&&(decide (a.g=b.g)&&(decide (a.c=b.c)&&(decide (a.AI=b.AI)&&(decide (a.A7=b.A7)&&(decide (a.Ao=b.Ao)&&(decide (a.Aw=b.Aw)&&(decide (a.on=b.on)&&(decide (a.v=b.v)&&(decide (a.ex=b.ex))))))))))))from F0.2 (by simp[Ac7])];generalize h1:decide (a.id=b.id)=r1;generalize f:decide (a.Bg=b.Bg)=r2;generalize g:decide (a.g=b.g)=r3;generalize i:decide (a.A7=b.A7)=r6;generalize j:decide (a.Ao=b.Ao)=r7;generalize k:decide (a.Aw=b.Aw)=r8;generalize l:decide (a.on=b.on)=r9;generalize d:decide (a.v=b.v)=r10;generalize e:decide (a.ex=b.ex)=r11;refine fo Tryz.func63 λρ key w h=> ?_;cases c:r1&&(r2&&(r3));exact gg [(9,WM a.id b.id r1 na.id nb.id h1),(15,WM a.Bg b.Bg r2 na.Bg nb.Bg f),(22,AJf I 19 21 a.g b.g r3 g)] (fi (by cases r1;exact kR;cases r2;exact kR;cases r3;exact kR;exact absurd c (by decide))) (by cases r1;exact kR;cases r2;exact kR;cases r3;exact kR;exact absurd c (by decide));simp[CJ]at c;obtain⟨rfl,rfl,rfl⟩:=c;refine gg [(9,WM a.id b.id true na.id nb.id h1),(15,WM a.Bg b.Bg true na.Bg nb.Bg f),(22,AJf I 19 21 a.g b.g true g)] (call (ASQ I a.c b.c p.p q.p ha.c hb.c na.c nb.c) ?_);cases decide (a.c=b.c);exact gG fi;refine gG (call (ATb I a.AI b.AI p.ca q.ca p.cc q.cc p.cl q.cl ha.s hb.s na.sl nb.sl na.s nb.s) ?_);cases decide (a.AI=b.AI);exact gG fi
 exact gg [(43,ZH a.A7 b.A7 r6 i),(50,ZH a.Ao b.Ao r7 j),(57,ZH a.Aw b.Aw r8 k),(64,WM a.on b.on r9 na.on nb.on l),(71,SF I 68 70 a.v b.v na.v nb.v r10 d),(78,hBE I 75 77 a.ex b.ex r11 e)] (fi (by cases r6;exact kR;cases r7;exact kR;cases r8;exact kR;cases r9;exact kR;cases r10;exact kR;cases r11<;>exact kR)) (by cases r6;exact kR;cases r7;exact kR;cases r8;exact kR;cases r9;exact kR;cases r10;exact kR;cases r11<;>exact kR)
structure VrN(x:Vr):Prop where
 v:BV x.v.name
 l:lN x.q<=1000000
 q:∀w∈x.q,BV w.id/\BV w.v.name
def Adz(I)(a b)(p q)(ha:ML I a p)(hb:ML I b q)(na:VrN a)(nb:VrN b):Fn 176 [Ms a p,Ms b q] [] I (BW (.v (.bool (decide (a=b)))) I) none:=by rw[show decide (a=b)=(decide (a.full=b.full)&&(decide (a.v=b.v)&&(decide (a.q=b.q))))from F0.2 (by simp[Adu])];generalize h1:decide (a.full=b.full)=r1;generalize d:decide (a.v=b.v)=r2;refine fo Tryz.func176 λρ key w e=> ?_;cases c:r1&&(r2);exact gg [(9,hBE I 6 8 a.full b.full r1 h1),(15,SF I 12 14 a.v b.v na.v nb.v r2 d)] (fi (by cases r1;exact kR;cases r2;exact kR;exact absurd c (by decide))) (by cases r1;exact kR;cases r2;exact kR;exact absurd c (by decide));simp[CJ]at c;obtain⟨rfl,rfl⟩:=c;refine gg [(9,hBE I 6 8 a.full b.full true h1),(15,SF I 12 14 a.v b.v na.v nb.v true d)] (call (ATe I a.q b.q p.a q.a p.c q.c p.l q.l ha hb na.l nb.l na.q nb.q) ?_);cases decide (a.q=b.q)<;>exact gG fi
structure O7(o:Ob):Prop where
 v:BV o.v.name
 var:VrN o.var
def AZA(I)(a b)(p q)(ha:FY I a p)(hb:FY I b q)(na:O7 a)(nb:O7 b):Fn 123 [.g (Fx a p),.g (Fx b q)] [] I (BW (.v (.bool (decide (a=b)))) I) none:=by
 rw[show decide (a=b)=(decide (a.kind=b.kind)&&(decide (a.l=b.l)&&(decide (a.v=b.v)&&(decide (a.ex=b.ex)&&(decide (a.done=b.done)&&(decide (a.var=b.var)&&(decide (a.fn=b.fn)&&(decide (a.AR=b.AR)))))))))from F0.2 (by simp[AZB])];generalize h1:decide (a.kind=b.kind)=r1;generalize d:decide (a.l=b.l)=r2;generalize e:decide (a.v=b.v)=r3;generalize f:decide (a.ex=b.ex)=r4;generalize g:decide (a.done=b.done)=r5;generalize i:decide (a.fn=b.fn)=r7;generalize j:decide (a.AR=b.AR)=r8;refine fo Tryz.func123 λρ key w h=> ?_;cases c:r1&&(r2&&(r3&&(r4&&(r5))));exact gg [(9,Qe a.kind b.kind r1 h1),(15,T4 I 12 14 a.l b.l r2 d),(22,AJi I 19 21 a.v b.v na.v nb.v r3 e),(29,ZG I 26 28 a.ex b.ex r4 f),(36,ZG I 33 35 a.done b.done r5 g)] (fi (by cases r1;exact kR;cases r2;exact kR;cases r3;exact kR;cases r4;exact kR;cases r5;exact kR;exact absurd c (by decide))) (by cases r1;exact kR;cases r2;exact kR;cases r3;exact kR;cases r4;exact kR;cases r5;exact kR;exact absurd c (by decide));simp[CJ]at c;obtain⟨rfl,rfl,rfl,rfl,rfl⟩:=c;refine gg [(9,Qe a.kind b.kind true h1),(15,T4 I 12 14 a.l b.l true d),(22,AJi I 19 21 a.v b.v na.v nb.v true e),(29,ZG I 26 28 a.ex b.ex true f),(36,ZG I 33 35 a.done b.done true g)] (call (Adz I a.var b.var p q ha hb na.var nb.var) ?_);cases decide (a.var=b.var);exact gG fi;exact gg [(48,ZH a.fn b.fn r7 i),(55,hUE a.AR b.AR r8 j)] (fi (by cases r7;exact kR;cases r8<;>exact kR)) (by cases r7;exact kR;cases r8<;>exact kR)
def AXL{b n a e}(f:Ic b n)(c:e∈(leftOf b a).toList):(leftOf b<|a.push e.born).size<(leftOf b a).size:=by
 rw[leftOf]at c;simp only[P4,Ho,Jf]at c;have:=(ADO (λx:Ar=>x.born) f.nd c.1 a c.2).length_eq;rw[FM]at this;have d:∀s:Ae Nat,(leftOf b s).size=lN (b.toList.filter λq=> !s.contains q.born):=λs=>by rw[leftOf];rw[<-Lt,P4]
 rw[d,d];omega
def Zt(s:Az)(x:Nm×Ob):Bool:=match Am s x.1 with|some o=>o==x.2|none=>fF
def U3(e:Ar):SV:=match e.val with
 | .agg a=>.g<|a.toList.map .v
 |v=>.v v
def AOX(e a):AO a (U3 e)=e.val:=by rw[U3];split;rename_i b h;rw[h];simp[AO];rw[Gw];rfl
def AOY(e):(U3 e).A3=[]:=by rw[U3];split;exact AKI _;rfl
def AK1{t v k b a i n I g}(u:prog.underlying t=sM (.map v k))(q:I b=sM (.map i n))(r:g= {callee:=.builtin .len,args:=#[.tmp a],argTypes:=#[t]}):
 ∀c f (o:Bw),o.op=.call g->(∀p∈[(a,SV.v<|.map<|sM b)],f p.1=p.2)->LS prog o f c [] I (.v<|iV i.size) nO:=by
 subst r;intro c f o j e;have m:=Ds e (s:=a) (x:=.v<|.map<|sM b) sP;intro y x w s _ l _ _;refine⟨w,?_,Bl.refl w⟩;have h:=s (.tmp a) (by simp[j,Op.operands,Go.Call.operands]);simp[ev,m,AO]at h;have d:=l b _ q;simp[execOp,j,resolve,invoke,builtin,Builtin.len_,h,run_underlying u,MapKept.run_getObj_map d,Result.andThen,AO,goInt]
def ATY(b c:Nat)(a:Ae Ar)(d:Nat)(I:AB)(CG:Ae Nat):Hd where
 Cd:=[(1,.m 2),(2,.v<|.func (.func 123) #[] #[]),(17,.p 3 0)]
 Cc:=[(2,.Aq<|.map a d),(3,.Aq<|.mapIter (sM b) c CG c)]
 J:=I
def AGv(I:AB)(a:Ae Ar)(b:Nat)(r:Bool):zP:=λ_ h=>h= {r:=.v<|vB r,AV:=[(2,.Aq<|.map a b)],J:=I}
def ATZ(I s1 s2 a c v l b)(h1:C9 I s1 a v)(C:C9 I s2 c l)(hb:I b=some (.map a v))(E:∀x∈s1,O7 x.2)(F:∀x∈s2,O7 x.2):
 Fn 122 [.v (.map (some b)),.m 2,.v (.func (.func 123) #[] #[])] [(2,.Aq (.map c l))] I (AGv I c l (JZ s1 s2)) none:=by
 let⟨n,s,d⟩:=h1.perm;let⟨Y,K,D⟩:=C.perm;have Z:a.size=s1.length:=by rw[<-s.length_eq,<-d.len,Array.length_toList]
 have z2:c.size=s2.length:=by rw[<-K.length_eq,<-D.len,Array.length_toList]
 refine fo Tryz.func122 λρ key w R=> ?_;by_cases hlen:s1.length=s2.length;refine gg [(12,.BZ (.call {callee:=.builtin .len,args:=#[.tmp 11],argTypes:=#[175]}) [(11,.v (.map (some b)))] [] I (.v (.int .i64 (a.size:Int))) (AK1 Pw hb rfl)),(14,.BZ (.call {callee:=.builtin .len,args:=#[.tmp 13],argTypes:=#[175]}) [(13,.m 2)] [(2,.Aq (.map c l))] I (.v (.int .i64 (c.size:Int))) (Zo Pw rfl)),(15,EN (a.size:Int) (c.size:Int))]<|AMZ (b:=b) (m:=v) (es:=a) (x:=.tmp 16) kR Pw kR (AB.Sj hb) kR<|gG<|loop (λCG=>∀p∈a.toList.zip n,CG.contains p.1.born->Zt s2 p.2) (λCG=>(leftOf a CG).size) (ATY b v c l I) 1000 [(3,156)] #[] (λp _ h=>by simp at h) ?_;intro CG k again T;refine gG<|ALc (m:=v) (k:=3) (x:=.tmp 17) (es:=a) (CG:=CG) (I':=I) (kS:=λe=>.v e.key) (vS:=U3) kR kR (AB.Sj hb) h1.bo.lt (λ_ _ _=>rfl) (λe _=>AOX e) (λ_ _=>rfl) (λe _=>AOY e) kR (λh0=> ?_) (λe he=> ?_);have t:JZ s1 s2:=by
  rw[JZ];rw[Bool.and_eq_true];refine⟨by simpa using hlen,List.all_eq_true.2 λx W=> ?_⟩;have M:x∈n:=s.mem_iff.2 W;have N:x∈(a.toList.zip n).map (·.2):=by rwa[d.Xj]
  obtain⟨p,hp,rfl⟩:=List.mem_map.1 N;refine k p hp ?_;cases hc:CG.contains p.1.born with
  |true=>rfl
  |false=>
   exfalso;have hm:p.1∈a.toList:=by have:=d.zip_fst;rw[<-this];exact List.mem_map.2 ⟨p,hp,rfl⟩
   have:p.1∈(leftOf a CG).toList:=by rw[leftOf];simp only[Array.toList_filter,List.mem_filter];exact⟨hm,by rw[hc];rfl⟩
   have hl:(leftOf a CG).toList.length=0:=by simpa using h0
   rw[List.eq_nil_of_length_eq_zero hl]at this;cases this
 rw[t];exact gG<|dn [] rfl;have r:e∈a.toList:=by rw[leftOf]at he;simp only[Array.toList_filter,List.mem_filter]at he;exact he.1
 have q:=AXL h1.bo he;have N:e∈(a.toList.zip n).map (·.1):=by rwa[d.zip_fst]
 let⟨p,hp,A⟩:=List.mem_map.1 N;let⟨hk,V,U,S⟩:=d.VC hp;have L:p.2∈n:=by have:=d.Xj;rw[<-this];exact List.mem_map.2 ⟨p,hp,rfl⟩
 have g:p.2∈s1:=s.mem_iff.1 L;have hnext:Zt s2 p.2->∀B∈a.toList.zip n,(CG.push e.born).contains B.1.born->Zt s2 B.2:=λhm B z hc=>by
  by_cases y:B.1.born=e.born;have G:((a.toList.zip n).map λp=>p.1.born).Nodup:=by
   have:((a.toList.zip n).map λp=>p.1.born)=((a.toList.zip n).map (·.1)).map (·.born):=by rw[List.map_map];rfl
   rw[this,d.zip_fst];exact h1.bo.nd
  let⟨i,hi,O⟩:=List.getElem_of_mem z;let⟨j,hj,P⟩:=List.getElem_of_mem hp;have:=AEk G (i:=i) (j:=j) (by simpa using hi) (by simpa using hj) (by simp[O,P,y,A]);subst this;rwa[<-O,P];refine k B z ?_;rw[Array.contains_push]at hc;simpa[y]using hc
 subst A;let⟨⟨X,ev,born⟩,nm,o⟩:=p;simp only at hk U S g hnext q r;subst hk U;have H:=h1.nm _ g;have Q:=C.find H;refine gG<|AI4 (b:=b) (m:=v) (k:=3) (x:=.tmp 17) (es:=a) (CG:=CG) (I':=I) (kS:=λe=>.v e.key) kR kR (AB.Sj hb) h1.bo.nd r (λ_=>rfl) (AOX _) rfl (AOY _) kR ?_;cases u:Am s2 nm with
 |none=>
  have f:JZ s1 s2=false:=by rw[JZ];rw[Bool.and_eq_false_iff];right;rw[List.all_eq_false];exact⟨(nm,o),g,by simp[u]⟩
  rw[f];exact gg [(26,.BZ (.lookup 175 (.tmp 24) (.tmp 25) true) [(24,.m 2),(25,.v (.string (Aa nm)))] [(2,.Aq (.map c l))] I (.t [.g ((GK Db HY).map .v),.v (.bool false)]) (UN Be rfl Di trivial ABM (Q.1 u)))]<|dn [] rfl
 |some o2=>
  let⟨j,q2,g1,g2,g3⟩:=Q.2 o2 u;have J:(nm,o2)∈s2:=(SE C.nd).1 u;refine gg [(26,.BZ (.lookup 175 (.tmp 24) (.tmp 25) true) [(24,.m 2),(25,.v (.string (Aa nm)))] [(2,.Aq (.map c l))] I (.t [.g ((GK o2 q2).map .v),.v (.bool true)]) (Qu Be rfl Di trivial g1))]<|call (AZA I o o2 V q2 S g2 (E _ g) (F _ J)) ?_;by_cases m:o=o2;refine gg [(36,OV (decide (o=o2)) false (by rw[decide_eq_true m];rfl))] ?_;exact bk again [] (CG.push born) (hnext (by rw[Zt];rw[u];simp[m]));have f:JZ s1 s2=false:=by rw[JZ];rw[Bool.and_eq_false_iff];right;rw[List.all_eq_false];exact⟨(nm,o),g,by simp[u];exact λe=>m e.symm⟩
  rw[f];refine gg [(36,OV (decide (o=o2)) true (by rw[decide_eq_false m];rfl))] ?_;exact dn [] rfl
 have f:JZ s1 s2=false:=by rw[JZ];rw[Bool.and_eq_false_iff];left;simpa using hlen
 rw[f];exact gg [(12,.BZ (.call {callee:=.builtin .len,args:=#[.tmp 11],argTypes:=#[175]}) [(11,.v (.map (some b)))] [] I (.v (.int .i64 (a.size:Int))) (AK1 Pw hb rfl)),(14,.BZ (.call {callee:=.builtin .len,args:=#[.tmp 13],argTypes:=#[175]}) [(13,.m 2)] [(2,.Aq (.map c l))] I (.v (.int .i64 (c.size:Int))) (Zo Pw rfl)),(15,Fs (a.size:Int) (c.size:Int))]<|dn [] rfl
def Pu(x:Ce)(l:AA AF):Prop:=l=[vS x]
def AOJ(x l)(h:Pu x l):lN l=1:=by rw[h];rfl
def AdZ(I:AB)(a:AU Au)(n ac:Nat)(ba:AU Au)(m bc:Nat)(i:Nat):Hd where
 Cd:=[(0,.v<|.slice a n ac),(1,.v<|.slice ba m bc),(5,.v<|iV i)]
 J:=I
def Tr(a b:AA Ce):Bool:=decide (a.map (·.toList)=b.map (·.toList))
def Dk.CW{I c n a xs}(h:Dk I c a n xs):Dk I.CW c a n xs:=⟨h.len,h.one,h.at_.imp id λ⟨b,d,arr,e,f,g,i,j⟩=>⟨b,d,arr,e,f,g,AB.Sj i,j⟩⟩
def Av.CW{e:Type}{I:AB}{R:e->AA AF->Prop}{b c:Nat}{d:AA e}{a:AU Au}{cells:AA AF}(h:Av I R b d a c cells):Av I.CW R b d a c cells:=⟨h.sl.CW,h.cap,h.max,h.CE⟩
def Acz(I a b l m j k C D)(G:Av I.CW Pu 1 a l j C)(H:Av I.CW Pu 1 b m k D)(P:lN a<=1000000):
 Fn 20 [.v<|.slice l (lN a) j,.v<|.slice m (lN b) k] [] I (BW (.v<|vB<|Tr a b) I) nO:=by
 refine fo func20 λR K w v=> ?_;by_cases hlen:lN a=lN b;refine gg [(10,EN (lN a:Int) (lN b:Int))]<|loop (ι:=Nat) (λi=>i<=lN a/\(a.take i).map (·.toList)=(b.take i).map (·.toList)) (λi=>lN a-i) (AdZ I l (lN a) j m (lN b) k) 1000 [] 0 ⟨Bm _,sP⟩ ?_;rintro i ⟨u,n⟩ again T;by_cases d:i<lN a;have c:i<lN b:=oG;have x:a[i]? =sM a[i]:=BS d;have y:b[i]? =sM b[i]:=BS c;obtain⟨s,f,q,N,E,A,rfl,q2,q3,q4,q5⟩:=G.cell AOJ x;obtain⟨t,g,r,O,F,B,rfl,z,L,Q,M⟩:=H.cell AOJ y;subst q3 L;have q0:=q5 0 _ rfl;have p:=M 0 _ rfl;simp only[IB]at q0 p;by_cases e:a[i].toList=b[i].toList;refine gg [(14,tH i<|lN a),(19,Br I Jr s f (lN a) j i d),(20,.Kz I _ _<|IZ (I:=I.CW) Di rfl q2 q0),(23,Br I Jr t g (lN b) k i c),(24,.Kz I _ _<|IZ (I:=I.CW) Di rfl z p),(25,.eq (Value.bool<|!(a[i].toList==b[i].toList)) fV<|by rw[e];simp),(16,sH i)] ?_;refine bk again [] (i+1) ⟨oG,?_⟩;rw[Kd d,Kd c,E3,E3,n];simp[e];have o:Tr a b=fF:=by rw[Tr];refine Gp λh=>e ?_;have:=Dt (·[i]?) h;simpa[x,y]using this
 rw[o];exact gg [(14,tH i<|lN a),(19,Br I Jr s f (lN a) j i d),(20,.Kz I _ _<|IZ (I:=I.CW) Di rfl q2 q0),(23,Br I Jr t g (lN b) k i c),(24,.Kz I _ _<|IZ (I:=I.CW) Di rfl z p),(25,.eq (Value.bool<|!(a[i].toList==b[i].toList)) tV<|by simp[e])]<|fi;have u:i=lN a:=oG;subst u;rw[FN,hlen,FN]at n;have J:Tr a b:=G5 n;rw[J];exact gg [(14,fH (lN a)<|lN a)]<|fi;have o:Tr a b=fF:=Gp λh=>hlen (by have:=Dt List.length h;simpa using this);rw[o];exact gg [(10,Fs (lN a:Int) (lN b:Int))]<|fi
end
end Go.Proofs.YtomehhepbeiinaaGreatDoor
namespace Go.AX
def FC.drop{P F i need I H}(k b)(l:k<100)(u:(k,b)∈need)(f:b.live)(E:∀x∈b.A3,x<100)(L:∀c h,H c h->∀a∈h.AV,a.1=k->a.2=b)(h:FC P F i need I H nO):
 FC P F i need I (λc x=>∃g,H c g/\x= {g with AV:=g.AV.filter λa=> !Nat.beq a.1 k}) nO:=by
 intro p c w s hN O B r;refine(h p c w s hN O B r).mono ?_;rintro e U ⟨g,q,⟨n,v,hle⟩,A,S⟩;refine⟨_,q,⟨⟨g,n,rfl⟩,⟨v.r,λa d=>v.u a (Ho.1 d).1,v.n,v.l,v.d.sublist<|(S7).map _⟩,hle⟩,⟨A.os,A.tape,A.output,A.size,λx T m Q=> ?_,λa d o z=>A.AV a (Ho.1 d).1 o z,λj x C=>⟨(A.nb j x C).1,(A.nb j x C).2.1,(A.nb j x C).2.2.imp id λ⟨a,q1,q2,q3⟩=>⟨a,Ho.2 ⟨q1,by
  have m:a.1≠k:=λe=>by have q4:=L c g n a q1 e;rw[q2]at q4;rw[<-q4]at f;cases f
  simp[OH m]⟩,q2,q3⟩⟩,A.qi,A.H2,A.fresh,A.IX⟩,S⟩
 by_cases hex:∃a∈g.AV,p a.1=x;let⟨a,d,J⟩:=hex;have D:a.1=k:=by by_cases q:a.1=k;exact q;exact absurd J<|m a<|Ho.2 ⟨d,by simp[OH q]⟩
 let⟨o,z⟩:=AK.UI f p;have t:∀y,y<100->g.Bh p c q y=p y:=λy M=>F7 (by
  rw[CX];cases e:Nat.ble c y with
  |false=>rfl
  |true=>have:=LL e;omega)
 have G:a.2.AO (g.Bh p c q)=sM o:=by rw[L c g n a d D,<-z];exact AK.Ko b λy M=>t y<|E y M
 have K:=A.AV a d o G;rw[t _<|by rwa[D]]at K;rw[<-J,K,D];exact (hN (k,b) u o z).symm;exact A.A2 x T (λa d e=>hex ⟨a,d,e⟩) Q
end Go.AX
namespace Go.Proofs.YtomehhepbeiinaaGreatDoor
open Go.Proofs.Tryz
open Go.AX Lz
def APU(I:AB)(s:Az)(l:AT):zP:=λa h=>∃(b c:Ae Ar)(f e:Nat)(d:AA Rw)(J:AB),Cb I [] J (d.map (·.b))/\C9 J (GU s l) b f/\El J (GU s l) d c e/\
 h= {r:=.p a 0,nb:=[.cells [.m<|a+1,.m<|a+2] 178,.Aq<|.map b f,.Aq<|.map c e],J:=J}
def ANV(I s L k g n m)(M:C9 I s k n)(hN:El I s L g m)(l)(E:B9 l)(w:∀r∈L,B9 r.l)(D:∀r∈L,lN r.ns<=1000000):
 Fn 59 [.p 1 0,DW l] [(3,.Aq (.map g m)),(1,.cells [.m 2,.m 3] 178),(2,.Aq (.map k n))] I (APU I s l) nO:=by
 refine⟨FC.place (need:=[(1,.cells [.m 2,.m 3] 178),(2,.Aq (.map k n))]) 3 (.map g m) (Ψ:=λb i x=>∃u,(∃t,AGw (I.plus b (.map g m)) s l k n b i t/\u= {t with AV:=t.AV.filter λz=> !Nat.beq z.1 1})/\x= {u with AV:=u.AV.filter λz=> !Nat.beq z.1 2}) sP ?_ ?_,JL Tryz.func59 kR kR⟩;intro b p;have v:I.Da (I.plus b (.map g m)):=λ_ _ h=>h;have B:El (I.plus b (.map g m)) s L g m:=hN.A2 λx a y j=>K0 j λe=>by have:=j.Ak;rw[e,p.2]at this;cases this
 have t:=(AVB (I.plus b (.map g m)) s L k g n m b (C9.Bf v M) B (Ua _ _ _) l E w D p.1).out;have u:=FC.drop 1 (.cells [.m 2,.v (.map (sM b))] 178) dC sP rfl (λx a=>by simp[AK.A3,DF,SV.A3]at a;omega) (by rintro i h ⟨_,_,_,_,_,_,_,_,rfl⟩ z d G;simp[List.mem_cons,List.not_mem_nil,_root_.or_false]at d;rcases d with rfl|rfl;rfl;cases G) t
 have K:=FC.drop (need:=[(1,.cells [.m 2,.v (.map (sM b))] 178),(2,.Aq (.map k n))]) 2 (.Aq (.map k n)) dC sP rfl nA (by rintro i h ⟨_,⟨_,_,_,_,_,_,_,_,rfl⟩,rfl⟩ z d G;simp at d;obtain⟨rfl,_⟩:=d;rfl) u
 exact K;rintro b i h p ⟨_,⟨_,⟨A,F,P,H,J,f,O,N,rfl⟩,rfl⟩,rfl⟩;have C:J.B8 b (.map g m):=f.A2 _ _ (Li p.1) sP;refine⟨C.Ak,A,F,n,P,H,J.minus b,⟨λx o a=>f.le x o a,λx y a _=> ?_,λx a=> ?_⟩,C9.Bf (I:=J) (J:=J.minus b) (λ_ _ a=>a) O,N.A2 λx a y j=> ?_,rfl⟩;have c:x≠b:=λe=>by have:=a.Ak;rw[e,p.2]at this;cases this
 have:=f.A2 x y (K0 a c) sP;exact⟨by rw[Zx _ c];exact this.Ak,this.at_⟩;rcases f.CE x a with q|q;cases q;right;intro y j;have c:x≠b:=λe=>by have:=j.Ak;rw[e,p.2]at this;cases this
 exact q y (K0 j c);have c:x≠b:=λe=>by rcases f.CE x a with q|q;cases q;subst e;exact q _ (Li p.1)
 exact⟨by rw[Zx _ c];exact j.Ak,j.at_⟩
end Go.Proofs.YtomehhepbeiinaaGreatDoor
namespace Go.AX
def AB.N0(I:AB)(b:Nat)(o:Obj):AB:=⟨λx=>match Nat.beq x b with|true=>sM o|false=>I.at_ x,I.Ak⟩
def AB.Od(I:AB)(b:Nat):AB:=⟨λx=>match Nat.beq x b with|true=>nO|false=>I.at_ x,I.Ak⟩
def AMK(I:AB)(b o):(I.N0 b o) b=sM o:=by simp[AB.N0]
def W7(I:AB){b x}(o)(h:x≠b):(I.N0 b o) x=I x:=by simp[AB.N0,OH h]
def ALM(I:AB)(b):(I.Od b) b=nO:=by simp[AB.Od]
def AEg(I:AB){b x}(h:x≠b):(I.Od b) x=I x:=by simp[AB.Od,OH h]
def AZ3{I:AB}{b:Nat}{o:Obj}(h:I b=nO):(I.N0 b o).Od b=I:=by let⟨f,g⟩:=I;show AB.mk _ g=AB.mk f g;congr 1;funext x;by_cases e:x=b;subst e;have h:f x=nO:=h;simp[h];simp[AB.N0,OH e]
def FC.AZ1{P:B7}{F:Ba}{args:AA SV}{need:AA<|Nat×AK}{I:AB}{Q:zP}(K:Nat)(o:Obj){Ψ:Nat->zP}(z:K∉need.map (·.1))
 (S:∀b,I.free b->FC P F (args.map (·.B4 K b)) (need.map λl=>(l.1,l.2.B4 K b)) (I.N0 b o) (Ψ b) nO) (H:∀b i h,I.free b->Ψ b i h->Q i {h with J:=h.J.Od b}):FC P F args ((K,.Aq o)::need) I Q nO:=by
 intro c i w t hN M s n;have d:I.free (c K):=s (K,.Aq o) sP;have B:w.heap[c K]? =sM o:=hN (K,.Aq o) sP _ rfl;have p:BB c (args.map (·.B4 K (c K)))=BB c args:=by rw[Hw,Hw,Gk];exact JD λx _=>Tz rfl (λ_ _=>rfl) x
 have v:Holds w (I.N0 (c K) o):=by refine⟨λx y a=> ?_,M.2⟩;by_cases e:x=c K;subst e;rw[AMK]at a;cases a;exact B;rw[W7 _ _ e]at a;exact M.1 x y a
 have C:∀l∈need,c l.1≠c K:=λl g e=>z (by have:=n l (DY _ g) (K,.Aq o) sP e;simp only at this;rw[<-this];exact BI.2 ⟨l,g,rfl⟩)
 have:=(S (c K) d) c i w t (λl g x a=>by
  obtain⟨m,f,rfl⟩:=BI.1 g;simp only at a⊢;rw[AK.Tz (ρ:=c) (σ:=c) rfl λ_ _=>rfl]at a;exact hN m (DY _ f) x a) v (λl g=>by
  obtain⟨m,f,rfl⟩:=BI.1 g;have L:=s m<|DY _ f;exact⟨by rw[W7 _ _<|C m f];exact L.1,L.2⟩) (λx a y U e=>by
  obtain⟨W,D,rfl⟩:=BI.1 a;obtain⟨X,E,rfl⟩:=BI.1 U;exact n W (DY _ D) X (DY _ E) e)
 rw[p]at this;refine this.mono ?_;rintro e Y ⟨h,q,⟨G,V,hle⟩,A,T⟩;have j:h.LD i (((K,AK.Aq o)::need).map (·.1)):=V.mono λk N=>by rw[Gk]at N;exact DY _ N
 refine⟨{h with J:=h.J.Od<|c K},q,⟨H _ i h d G,⟨j.r,j.u,j.n,j.l,j.d⟩,λx y a=>by
  have O:x≠c K:=λe=>by rw[e,d.1]at a;cases a
  show(h.J.Od<|c K) x=sM y;rw[AEg _ O];exact hle x y<|by rwa[W7 _ _ O]⟩,⟨A.os,A.tape,A.output,A.size,λx a u R=>A.A2 x a u R,A.AV,A.nb,A.qi,⟨λx y a=> ?_,A.H2.2⟩,λx y a=> ?_,A.IX⟩,T⟩
 have a:(h.J.Od<|c K) x=sM y:=a;by_cases r:x=c K;rw[r,ALM]at a;cases a;rw[AEg _ r]at a;exact A.H2.1 x y a;have a:(h.J.Od<|c K) x=sM y:=a;by_cases r:x=c K;rw[r,ALM]at a;cases a;rw[AEg _ r]at a;have:=A.fresh x y a;rw[W7 _ _ r]at this;exact this
end Go.AX
namespace Go.Proofs.YtomehhepbeiinaaGreatDoor
open Go.Proofs.Tryz
open Go.AX Lz
def ATa(I:AB)(l m:Az)(a c:Ae Ar)(g i:Nat)(t:C9 I l a g)(u:C9 I m c i)(q:∀x∈l,O7 x.2)(r:∀x∈m,O7 x.2):
 Fn 122 [.m 1,.m 2,.v<|.func (.func 123) #[] #[]] [(1,.Aq<|.map a g),(2,.Aq<|.map c i)] I (BW (.v<|vB<|JZ l m) I) nO:=by
 refine⟨FC.AZ1 (need:=[(2,.Aq<|.map c i)]) 1 (.map a g) (Ψ:=λb f x=>∃j,AGv (I.N0 b<|.map a g) c i (JZ l m) f j/\x= {j with AV:=j.AV.filter λs=> !Nat.beq s.1 2}) sP ?_ ?_,JL func122 kR kR⟩;intro b n;have d:I.Da (I.N0 b<|.map a g):=λx o k=>by rwa[W7 _ _ λe=>by rw[e,n.1]at k;cases k]
 have j:=(ATZ (I.N0 b<|.map a g) l m a c g i b (C9.Bf d t) (C9.Bf d u) (AMK _ _ _) q r).out;have v:=FC.drop (need:=[(2,.Aq<|.map c i)]) 2 (.Aq<|.map c i) dC sP rfl nA (by rintro f h rfl s p w;rw[A9.1 p]) j
 exact v;rintro b f h n ⟨_,rfl,rfl⟩;show _=_;simp only[AZ3 n.1];rfl
def ANm(a c:Ae Ar)(g e:Nat)(b d:Ae Ar)(h f:Nat):AA (Nat×AK):=[(1,.cells [.m 2,.m 3] 178),(2,.Aq<|.map a g),(3,.Aq<|.map c e),(4,.cells [.m 5,.m 6] 178),(5,.Aq<|.map b h),(6,.Aq<|.map d f)]
def AHA(I:AB)(a:AA<|Nat×AK)(r:Bool):zP:=λ_ h=>h= {r:=.v<|vB r,AV:=a,J:=I}
def AcB(I g h a c e l b d f m)(n:C9 I g a e)(o:C9 I h b f)(i:∀x∈g,O7 x.2)(j:∀x∈h,O7 x.2):
 Fn 64 [.p 1 0,.p 4 0] (ANm a c e l b d f m) I (AHA I (ANm a c e l b d f m)<|JZ g h) nO:=by
 refine fo func64 λq p w k=>gG<|A0 (ATa I g h a b e f n o i j) [(1,2),(2,5)] ?_;rintro _ rfl;exact gG<|dn [] rfl
end Go.Proofs.YtomehhepbeiinaaGreatDoor
namespace Go.Proofs.YtomehhepbeiinaaGreatDoor
open Go.Proofs.Tryz
section
open Go.AX Lz
def ZO(I):Fn 32 [] [] I (BW (DW high) I) nO:=fo func32 λc b w a=>gG<|fi
def ALq:B9 high:=⟨dC,dC⟩
def AUF(a):fl a high:=IV.2<|AEI a
def AVF(s):GU s high=s:=RO.2 λx _=>AUF _
def rows_ok{I s L d c}(h:El I s L d c)(b:∀n o,Am s n=sM o->A4 o.l=o.l)(i:lN s<=1000000):(∀r∈L,B9 r.l)/\∀r∈L,lN r.ns<=1000000:=by refine⟨λr a=> ?_,λr a=>Ch (h.len r a) i⟩;let⟨n,f⟩:=List.exists_mem_of_ne_nil _<|h.ne r a;let⟨o,g,e⟩:=(h.mem n r.l).1 ⟨r,a,rfl,f⟩;rw[<-e];exact JV<|b n o g
def APw(I:AB)(c:AA<|Nat×AK)(s:Az):zP:=λa h=>∃(b d:Ae Ar)(g f:Nat)(e:AA Rw)(J:AB),Cb I [] J (e.map (·.b))/\C9 J s b g/\El J s e d f/\
 h= {r:=.p a 0,AV:=c,nb:=[.cells [.m<|a+1,.m<|a+2] 178,.Aq<|.map b g,.Aq<|.map d f],J:=J}
def Ac4(I L k m)(c:CZ I L k m)(e:∀n o,Am k.Ah n=sM o->A4 o.l=o.l)(q:lN k.Ah<=1000000):
 Fn 30 [.p 1 0] (CL m k.im k.AD) I (APw I (CL m k.im k.AD) k.Ah) nO:=by
 let⟨a,d⟩:=rows_ok c.Dl e q;refine fo func30 λu r w j=>gG<|call (ZO I)<|gG<|A0 (ANV I k.Ah L m.sm.es m.sm.ns m.sm.n m.sm.m c.B0 c.Dl high ALq a d) [(1,3),(2,4),(3,5)] ?_;rintro _ ⟨b,g,t,s,l,J,f,h,i,rfl⟩;rw[AVF]at h i;exact gG<|dn [148,149,150] ⟨b,g,t,s,l,J,f,h,i,rfl⟩
structure HX where
 i:Nat
 J:AB
 es:Ae Ar
 n:Nat
 Bu:Bi
def AWe(m:CH)(k:Ap)(l:Lz.AT)(x:HX):Hd where
 Cd:=[(0,.p 1 0),(3,.p 6 0),(5,.p 7 0),(24,.v<|.slice m.Bu.a (lN k.AC) m.Bu.c),(25,.v<|iV<|lN k.AC),(26,.v<|iV x.i)]
 Cc:=CL m k.im k.AD++[(6,.cells [.v<|vS<|AJ l.1,.v<|vS<|AJ l.2] 42),(7,.cells (Fa k.im m.ip++[.v<|nV k.AD,.m 8,x.Bu.sv,.v<|.pointer nO,.v zS,.v zS]) 107),(8,.Aq<|.map x.es x.n)]
 J:=x.J
structure HP(I:AB)(k:Ap)(l:Lz.AT)(x:HX):Prop where
 i:x.i<=lN k.AC
 tm:D6 x.J (FA (Ft l (k.AC.take x.i))) x.es
 Bu:Told I x.J 1 9 (((Ft l (k.AC.take x.i)).map (·.id)).map BQ) x.Bu
def APX(I:AB)(k:Ap)(m:CH)(l:Lz.AT):zP:=λa h=>∃b c J,h= {r:=.p (a+0) 0,AV:=CL m k.im k.AD,nb:=ZZ a b k.im k.AD,J:=J}/\Cb I [] J (CM c b)/\CZ J c (Hh k l) b
def Cb.app{I J K P a}(h:Cb I [] J P)(k:Cb J [] K a):Cb I [] K (P++a) where
 le:=h.le.trans k.le
 A2 x y hx _:=k.A2 x y (h.A2 x y hx sP) sP
 CE x hx:=by rcases Bc.1 hx with q|q;exact h.CE x q;rcases k.CE x q with e|e;cases e;exact .inr λy b=>e y<|h.A2 x y b sP
def Cb.perm{I K P a}(h:Cb I [] K P)(b:∀x∈a,x∈P):Cb I [] K a:=⟨h.le,h.A2,λx c=>h.CE x<|b x c⟩
def AVA{l a i}(h:i<lN a):Ft l (a.take<|i+1)=Ft l (a.take i)++(C4 a[i] l).toList:=by rw[Ft];rw[Kd h,List.filterMap_append,AGR];cases C4 a[i] l<;>rfl
def AAf(s:Bi):(Bb s.a).toList.Nodup:=by
 cases Bb s.a with
 |none=>exact N9
 |some b=>exact GX.2 ⟨sP,N9⟩
def AYe{I1 I2:AB}{A B C:AA Nat}(i:A.Nodup)(j:B.Nodup)(k:C.Nodup)(h:∀x∈A,∃y,I1.B8 x y)(d:∀x∈B,∀y,¬I1.B8 x y)(a:∀x∈A++B,∃y,I2.B8 x y)(g:∀x∈C,∀y,¬I2.B8 x y):(B++(A++(C++[]))).Nodup:=by rw[Hn,Gl];refine⟨j,?_,λx c y f e=> ?_⟩;rw[Gl];refine⟨i,k,λx c y f e=> ?_⟩;subst e;let⟨z,b⟩:=a x<|GC _ c;exact g x f z b;subst e;rcases Bc.1 f with q|q;let⟨z,b⟩:=h x q;exact d x c z b;let⟨z,b⟩:=a x<|HZ _ c;exact g x q z b
structure X7(k:Ap):Prop where
 E0:Fi k.AC
 len:lN k.AC<=900000
 AC:∀t∈k.AC,CB t.id/\lN t.AI<=900000/\∀i,B9 (EF t i)
 fl:lN k.Bj<=1000000
 ff:∀f∈k.Bj,B9 f.l
 ob:∀n o,Am k.Ah n=sM o->A4 o.l=o.l
 sl:lN k.Ah<=1000000
def AKL(I L k m)(hK:CZ I L k m)(hQ:X7 k)(l)(Z:B9 l):
 Fn 17 [.p 1 0,DW l] (CL m k.im k.AD) I (APX I k m l) nO:=by
 let⟨P,hlen,aj,an,am,au,ax⟩:=hQ;let⟨af,ar⟩:=rows_ok hK.Dl au ax;have ag:m.Bu.n=lN k.AC:=by have:=hK.Bu.n;rw[DG,DG]at this;omega
 have hm:=hK;let⟨ip,mes,mn,⟨ma,a0,mc⟩,DD,lk,sm⟩:=m;simp only at ag;subst ag;refine fo func17 λρ key w ay=>gG<|Om 180 (b:=.Ey [] []) (b':=.Aq<|.map #[] 0) kR (λρ=>rfl) nA rfl<|loop (ι:=HX) (HP I k l) (λx=>lN k.AC-x.i) (AWe ⟨ip,mes,mn,⟨ma,lN k.AC,mc⟩,DD,lk,sm⟩ k l) 1000 [(6,100),(7,196),(8,180)] ⟨0,I,#[],0,⟨nO,0,0⟩⟩ ⟨Bm _,AOB,.nil I 1 9⟩ ?_;rintro⟨i,J,M,n,⟨oa,on,oc⟩⟩ ⟨p1,p3,K⟩ again T;simp only at p1 p3 K;have hle:I.le J:=K.st.GJ;have z:CZ J L k ⟨ip,mes,mn,⟨ma,lN k.AC,mc⟩,DD,lk,sm⟩:=hK.up hle;by_cases C:i<lN k.AC;have o:k.AC[i]? =sM k.AC[i]:=BS C;have D:=DR C;have s:=AVA (l:=l) C;have hnew:Af (Ft l<|k.AC.take i) k.AC[i].id=nO:=by
  cases e:Af (Ft l<|k.AC.take i) k.AC[i].id with
  |none=>rfl
  |some u=>
   exfalso;let⟨t',h1,h2⟩:=ALH<|D2 e;have h3:=Qg h2;rw[E2 e]at h3;let⟨j,hj,e2⟩:=Kc h1;rw[Cu]at hj;rw[VN]at e2;have:=Lx.1 P j i oG C oG;rw[e2,<-h3,Ma]at this;cases this
 have Q:=NT P D;let⟨f,O,ae⟩:=aj _ D;have v:((k.AC.map (·.id)).map BQ)[i]? =sM (BQ k.AC[i].id):=by rw[GB,GB,o];rfl
 generalize k.AC[i]=t at o D s hnew Q f O ae v;let⟨jt,a,h1,ha,_⟩:=(z.tm.find<|F5 f).2 t (by rwa[NF]);rcases z.Bu.at_ with⟨q2,_,_⟩|⟨b,ai,q1,q2,_⟩;exfalso;have q2:lN k.AC=0:=q2;omega;simp only at q1;subst q1;have U:(((k.AC.map (·.id)).map BQ++ai).toArray:Ae AF)[0+i*1]? =sM (BQ t.id):=by rw[Mv,Gj<|by rw[DG,DG];omega];simpa using v
 have W:=AVC J t a l O Z ae ha;refine gg [(27,tH i<|lN k.AC),(28,Br J Jr b 0 (lN k.AC) mc i C),(29,.Kz J _ _<|IZ (I:=J.CW) Di rfl q2.CW U),(36,.BZ _ [(34,.m 2),(35,.v<|sV t.id)] [(2,.Aq<|.map mes mn)] J _<|Pf Be (L:=Bt) (t:=104) (a:=34) (b:=35) (km:=2) (n:=mn) (kt:=9) (I:=J) rfl Di trivial h1)]<|Cz W λq p B hq=> ?_;have c:Told I p 1 9 (((Ft l<|k.AC.take i).map (·.id)).map BQ) ⟨oa,on,oc⟩:=⟨K.st.trans<|.of B,K.row.A2 λF _ y E=>B.Ak F y E⟩;have ad:=D6.up p3 B;cases hu:C4 t l with
 |none=>
  rw[hu]at s;refine gg [(58,sH i)] ?_;refine bk again [] ⟨i+1,p,M,n,⟨oa,on,oc⟩⟩ ⟨by show i+1<=_;omega,?_,?_⟩;show D6 p (FA<|Ft l<|k.AC.take<|i+1) M;rw[s];simpa using ad;show Told I p 1 9 (((Ft l<|k.AC.take<|i+1).map (·.id)).map BQ) ⟨oa,on,oc⟩;rw[s];simpa using c
 |some u=>
  rw[hu]at s hq;have hq:DZ p u q:=hq;have R:=Qg hu;have hg:Ij (FA<|Ft l<|k.AC.take i) t.id=nO:=by rwa[NF]
  have V:=(ad.find<|F5 f).1 hg;have az:on<=1000000:=by have h1:=c.row.n;rw[DG,DG]at h1;have h2:lN (Ft l<|k.AC.take i)<=lN (k.AC.take i):=AO6 _ _;rw[Cu]at h2;simp only at h1;omega
  refine gG<|Qv (t:=104) (km:=8) (m0:=n) (m1:=n+1) (es:=M) (es':=M.push {key:=vS<|Aa t.id,val:=.agg (EZ u q).toArray,born:=n}) (m:=.tmp 45) (k:=.tmp 46) (x:=.tmp 47) (kv:=vS<|Aa t.id) (v:=.agg (EZ u q).toArray) (sk:=.v<|sV t.id) (sx:=.g<|Dr u q) (I':=p) kR kR kR (λ_=>rfl) kR (λρ=>by rw[AFj];simp only[AO];rw[Gw]) (λw r hb=>Wn (kv:=vS<|Aa t.id) (v:=.agg (EZ u q).toArray) AFv Di trivial V w r hb) kR ?_;refine gG<|act (need:=[(1256,.cells ([BQ t.id].map .v) 9)]) (JI (I:=p) Be (s:=⟨oa,on,oc⟩) (x:=.s 1256 0 1 1) (m:=1) (CQ:=((Ft l<|k.AC.take i).map (·.id)).map BQ) (news:=[BQ t.id]) Ve kR c.row (Ez (e:=9) sP rfl<|by simp[BQ,Value.oneCell']) dC<|by show on+1<=16777216;omega) JH ?_;rintro h' ⟨F,c',g,rfl,ao,ap,aq,ak,al⟩;have ah:=c.app (AE:=g) (news:=[BQ t.id]) rfl (by simp[BQ,Value.oneCell']) ao ap aq ak al;have av:p.Da (p.plus F (.cells (((Ft l<|k.AC.take i).map (·.id)).map BQ++[BQ t.id]++g).toArray 9 (0,0))):=λ_ _ h=>h;have p5:D6 (p.plus F (.cells (((Ft l<|k.AC.take i).map (·.id)).map BQ++[BQ t.id]++g).toArray 9 (0,0))) (FA (Ft l<|k.AC.take i)++[(t.id,u)]) (M.push {key:=vS<|Aa t.id,val:=.agg (EZ u q).toArray,born:=n}):=D6.Bf av<|ad.AHF hg (F5 f) hq n;generalize p.plus F (.cells (((Ft l<|k.AC.take i).map (·.id)).map BQ++[BQ t.id]++g).toArray 9 (0,0))=G at ah p5⊢;refine gg [(58,sH i)] ?_;refine bk again [] ⟨i+1,G,M.push {key:=vS<|Aa t.id,val:=.agg (EZ u q).toArray,born:=n},n+1,⟨sM ⟨F,0,nO⟩,on+1,c'⟩⟩ ⟨by show i+1<=_;omega,?_,?_⟩
  show D6 G (FA<|Ft l<|k.AC.take<|i+1) _;rw[s];have:FA (Ft l (k.AC.take i)++(sM u).toList)=FA (Ft l<|k.AC.take i)++[(t.id,u)]:=by rw[FA];rw[E3,<-R];rfl
  rwa[this];show Told I G 1 9 (((Ft l<|k.AC.take<|i+1).map (·.id)).map BQ) _;rw[s];have:((Ft l (k.AC.take i)++(sM u).toList).map (·.id)).map BQ=((Ft l<|k.AC.take i).map (·.id)).map BQ++[BQ t.id]:=by rw[E3,E3,<-R];rfl
  rwa[this]
 have hi:i=lN k.AC:=oG;subst hi;rw[FN]at p3 K;refine gg [(27,fH (lN k.AC)<|lN k.AC)]<|A0 (ANV J k.Ah L sm.es sm.ns sm.n sm.m z.B0 z.Dl l Z af ar) [(1,3),(2,4),(3,5)] ?_;rintro _ ⟨S,ac,n',m',L',p,c,aw,X,rfl⟩;have N:CZ p L k ⟨ip,mes,mn,⟨ma,lN k.AC,mc⟩,DD,lk,sm⟩:=z.up c.GJ;refine gG<|A0 (AKv p L k _ N an l Z am) [] ?_;rintro _ ⟨⟨fa,fn,fc⟩,G,H,rfl⟩;refine gG ?_;have d:=H.st.GJ;refine dn [7,8,1064,1065,1066] ⟨⟨ip,M,n,⟨oa,on,oc⟩,⟨fa,fn,fc⟩,⟨nO,0,0⟩,⟨S,n',ac,m'⟩⟩,L',G,rfl,?_,?_⟩ (h:={r:=.p (key+0) 0,AV:=CL ⟨ip,mes,mn,⟨ma,lN k.AC,mc⟩,DD,lk,sm⟩ k.im k.AD,nb:=ZZ key ⟨ip,M,n,⟨oa,on,oc⟩,⟨fa,fn,fc⟩,⟨nO,0,0⟩,⟨S,n',ac,m'⟩⟩ k.im k.AD,J:=G});refine((K.st.app c).app H.st).perm λx o=> ?_;rw[CM]at o;simp only[Bc]at o⊢;rcases o with q|q|q|q;exact .inl<|.inr q;exact .inl<|.inl q;exact .inr q;simp[Bb]at q;have A:=N.up d;have aa:C8 G 1 9 (((Ft l k.AC).map (·.id)).map BQ) ⟨oa,on,oc⟩:=(K.row.A2 λF _ y E=>c.A2 F y E sP).A2 λF _ y E=>d.Ak F y E;have Y:El G (GU k.Ah l) L' ac m':=X.up d;have ab:C9 G (GU k.Ah l) S n':=C9.Bf d.EA aw;refine{tab:=A.tab,pow:=A.pow,img:=A.img,tm:=D6.Bf (c.le.trans d.EA) p3,B0:=ab,Dl:=Y,Bu:=aa,DD:=H.row,lk:=AAk,nd:= ?_};refine AYe (I1:=J) (I2:=p) (AAf _) X.bl (AAf _) (λx o=>K.row.B8 x o) (λx o y E=> ?_) (λx o=> ?_) λx o y E=> ?_;rcases c.CE x o with q|q;cases q;exact q y E;rcases Bc.1 o with q|q;let⟨y,E⟩:=K.row.B8 x q;exact⟨y,c.A2 x y E sP⟩;let⟨r,hr,e⟩:=BI.1 q;exact⟨_,by rw[<-e];exact(X.B8 r hr).1⟩;rcases H.st.CE x o with q|q;cases q;exact q y E
structure Iz(I J:AB)(a:Nat)(X:BN)(r:AA AF)(Y:Bi)(G:Nat)(w:BN)(Z:AA AF)(W:Bi):Prop where
 st:Cb I [] J ((Bb Y.a).toList++(Bb W.a).toList)
 nd:((Bb Y.a).toList++(Bb W.a).toList).Nodup
 ra:C8 J a X r Y
 rb:C8 J G w Z W
variable{I J K:AB}{a G:Nat}{X w:TypeId}{r Z:List Value}{Y W:Bi}
def Sg{I b e}:C8 I b e [] ⟨nO,0,0⟩:=⟨sP,λv h=>(by cases h),.inl ⟨rfl,rfl,rfl⟩⟩
theorem Iz.nil(I a G X w):Iz I I a X [] ⟨nO,0,0⟩ G w [] ⟨nO,0,0⟩:=⟨.refl I [],N9,Sg,Sg⟩
def Iz.step{P}(h:Iz I J a X r Y G w Z W)(k:Cb J [] K P):Iz I K a X r Y G w Z W where
 st:=⟨h.st.le.trans k.le,λx y d _=>k.A2 x y (h.st.A2 x y d sP) sP,h.st.CE⟩
 nd:=h.nd
 ra:=h.ra.A2 λb _ y c=>k.A2 b y c sP
 rb:=h.rb.A2 λb _ y c=>k.A2 b y c sP
def AM4{n c b:Nat}{d g s z e f}(h:C8 J z e f s)(p:lN d=z)(o:∀v∈d,v.oneCell')(k:lN (f++d)+lN g=c*z)(l:s.n+1<=c)(m:c<=maxLen)(j:J b=nO):C8 (J.plus b<|.cells (f++d++g).toArray e (0,0)) z e (f++d) ⟨sM ⟨b,0,nO⟩,s.n+1,c⟩:=by refine⟨?_,?_,.inr ⟨b,g,rfl,Li j,k,l,m⟩⟩;rw[CK,h.n,p,Gm,Nat.one_mul];intro v i;rcases Bc.1 i with i|i;exact h.one v i;exact o v i
def AMw{s:Bi}{x:Nat}:x∈(Bb s.a).toList↔Bb s.a=sM x:=by cases Bb s.a<;>simp[eq_comm]
def Iz.ACF{b c d AE}(h:Iz I J a X r Y G w Z W)(p:lN d=a)(o:∀v∈d,v.oneCell')(k:lN (r++d)+lN AE=c*a)(l:Y.n+1<=c)(m:c<=maxLen)(g:J b=nO)(i:Bb Y.a=sM b\/J.free b):Iz I (J.plus b<|.cells (r++d++AE).toArray X (0,0)) a X (r++d) ⟨sM ⟨b,0,nO⟩,Y.n+1,c⟩ G w Z W:=by
 have j:∀x∈(Bb W.a).toList,x≠b:=λx f e=>by subst e;rcases i with q|q;exact(Gl.1 h.nd).2.2 x (AMw.2 q) x f rfl;let⟨y,n⟩:=h.rb.B8 x f;have:=n.Ak;rw[q.2]at this;cases this
 refine⟨h.st.trans<|(Oj (P1:=[]) (P2:=(Bb W.a).toList) (o:=.cells (r++d++AE).toArray X (0,0)) g i).cast sP<|by simp[Bb],?_,AM4 (n:=0) h.ra p o k l m g,h.rb.A2 λx f y n=>K0 n<|j x f⟩;show([b]++(Bb W.a).toList).Nodup;exact GX.2 ⟨λf=>j b f rfl,AAf W⟩
def Iz.ACK{b c d AE}(h:Iz I J a X r Y G w Z W)(p:lN d=G)(o:∀v∈d,v.oneCell')(l:lN (Z++d)+lN AE=c*G)(m:W.n+1<=c)(n:c<=maxLen)(g:J b=nO)(i:Bb W.a=sM b\/J.free b):Iz I (J.plus b<|.cells (Z++d++AE).toArray w (0,0)) a X r Y G w (Z++d) ⟨sM ⟨b,0,nO⟩,W.n+1,c⟩:=by
 have j:∀x∈(Bb Y.a).toList,x≠b:=λx f e=>by subst e;rcases i with q|q;exact(Gl.1 h.nd).2.2 x f x (AMw.2 q) rfl;let⟨y,k⟩:=h.ra.B8 x f;have:=k.Ak;rw[q.2]at this;cases this
 refine⟨h.st.trans<|(Oj (P1:=(Bb Y.a).toList) (P2:=[]) (o:=.cells (Z++d++AE).toArray w (0,0)) g i).cast sP<|by simp[Bb],?_,h.ra.A2 λx f y k=>K0 k<|j x f,AM4 (n:=0) h.rb p o l m n g⟩;show((Bb Y.a).toList++[b]).Nodup;rw[Gl];exact⟨AAf Y,GX.2 ⟨sP,N9⟩,λx f y k e=>j x f<|e.trans<|A9.1 k⟩
def C8.Ou{i:Type}{I J:AB}{R:i->AA AF->Prop}{c:Nat}{e:BN}{f:AA i}{As:AA AF}{s:Bi}(h:C8 I c e As s)(hlen:s.n=lN f)(g:Rows R f As)(j:∀b o,s.a=sM ⟨b,0,nO⟩->I.B8 b o->J b=sM o):Av J R c f s.a s.c As:=by rcases h.at_ with⟨q1,q2,q3⟩|⟨b,d,q1,q2,q3,q4,q5⟩;exact⟨⟨by rw[h.n,hlen],h.one,.inl<|hlen▸q1⟩,oG,by rw[q3];exact Bm _,g⟩;refine⟨⟨by rw[h.n,hlen],h.one,.inr ⟨b,0,_,e,_,q1,j b _ q1 q2,?_⟩⟩,by rwa[<-hlen],q5,g⟩;rw[S6];show(As++d).take _=_;rw[<-hlen,<-h.n,TC]
def Cb.never{P b o}(h:Cb I [] J P)(k:b∈P)(i:J.B8 b o):Cb I [] (J.never b o) (P.erase b)/\I.Ak b=nO/\(∀x y,J.B8 x y->x≠b->(J.never b o).B8 x y)/\J.Da (J.never b o):=by
 have g:∀y,¬I.B8 b y:=by rcases h.CE b k with q|q;cases q;exact q
 have hle:J.Da (J.never b o):=λx y d=>by rwa[US _ _ λe=>by rw[e,i.at_]at d;cases d]
 have c:∀x y,J.B8 x y->x≠b->(J.never b o).B8 x y:=λx y d f=>⟨by rw[AAB _ _ f];exact d.Ak,by rw[US _ _ f];exact d.at_⟩;refine⟨⟨h.le.trans hle,λx y d l=>c x y (h.A2 x y d sP) λe=>g y<|e▸d,λx d=>h.CE x<|List.mem_of_mem_erase d⟩,?_,c,hle⟩;cases e:I.Ak b with
 |none=>rfl
 |some y=>
  exfalso;refine g y ⟨e,?_⟩;cases j:I b with
  |none=>rfl
  |some z=>have:=h.le b z j;rw[i.at_]at this;cases this
def Zi(l:Lz.AT):AA AF:=[vS<|AJ l.1,vS<|AJ l.2]
def APe(I:AB):zP:=λa h=>h= {r:=.s a 0 8 8,nb:=[.cells ((JR.flatMap Zi).map .v) 42],J:=I}
def Wd(I):Fn 16 [] [] I (APe I) nO:=fo func16 λc b w a=>gG<|dn [172] rfl
def ACH:Gq prog Bt 30 195 3:=⟨⟨_,rfl⟩,⟨_,_,rfl,rfl⟩,kR⟩
def U2(v):∀x∈BG v,x.oneCell':=by intro x a;simp[BG,mS]at a;rcases a with rfl|rfl|rfl|rfl|rfl<;>rfl
def AXx(I)(x:Nat)(a k:Nat)(s:a<=9223372036854775807)(t:0<k/\k<=1000):∀b f (o:Bw),o.op=.binOp .quo 3 (.tmp x) (.const (iV k)) 3->(∀p∈[(x,SV.v (iV a))],f p.1=p.2)->LS prog o f b [] I (.v (.int iK ((a/k:Nat):Int))) nO:=by
 intro b f o d e;have l:=Ds e (s:=x) (x:=.v (iV a)) sP;intro v r w j _ _ _ _;refine⟨w,?_,Bl.refl w⟩;have g:=j (.tmp x) xO;have h:=j (.const (iV k)) xO;simp[ev,l,AO]at g h;simp[execOp,d,Sem.run_bind,g,h];have n:Int.tdiv (a:Int) (k:Int)=((a/k:Nat):Int):=by rw[Int.tdiv_eq_ediv_of_nonneg oG];rfl
 have m:(k:Int)≠0:=oG;have u:prog.underlying 3=sM (.int iK):=Ek;have c:a/k<=a:=Nat.div_le_self a k;go_simp;rw[AY oG];have i:((a:Int)/(k:Int))=((a/k:Nat):Int):=rfl;rw[i];generalize a/k=q at c⊢;rw[AF9 oG];rfl
def QR(I:AB)(x:AA AH)(l:AA AF):Prop:=∃a c b,l=[.slice a (lN x) c]/\Av I JC 1 x a c b
def ARJ(I x l)(h:QR I x l):lN l=1:=by obtain⟨_,_,_,rfl,_⟩:=h;rfl
def AH6{I J}(hle:I.Da J)(x l)(h:QR I x l):QR J x l:=by let⟨a,c,b,e,q⟩:=h;exact⟨a,c,b,e,Av.Bf hle q λ_ _ h=>h⟩
def ATD:IE 22 23 1:=⟨kR,by refine⟨(prog.info? 23).getD Al,?_,?_⟩<;>exact kR⟩
def Adf:prog.underlying 23=sM (.slice 5):=kR
abbrev YL(I J:AB)(c d:AA AF)(a b:Bi):Prop:=Iz I J 5 51 c a 3 195 d b
abbrev c8:AA Int:=[0,1,2,3,4,5,9,14]
def m8{i}(h:i<8):i=0\/i=1\/i=2\/i=3\/i=4\/i=5\/i=6\/i=7:=oG
structure MA where
 i:Nat
 J:AB
 sc:Bi
def AX4(la:AU Au)(n lc:Nat)(x:MA):Hd where
 Cd:=[(0,.v<|.slice la n lc),(2,.p 6 0),(3,.p 7 0),(12,.s 8 0 8 8),(13,.v<|.int iK 8),(14,.v<|iV x.i)]
 Cc:=[(6,.cells [.v zS,.v zS] 32),(7,.cells [x.sc.sv,.v zS] 32),(8,.cells (c8.map λk=>.v<|nV k) 2)]
 J:=x.J
def AYI(la:AU Au)(n lc:Nat)(x:MA):Hd where
 Cd:=[(0,.v<|.slice la n lc),(2,.p 6 0),(3,.p 7 0),(6,.v<|iV x.i)]
 Cc:=[(6,.cells [.v zS,.v zS] 32),(7,.cells [x.sc.sv,.v zS] 32)]
 J:=x.J
structure MC where
 i:Nat
 J:AB
 sf:Bi
 vf:AA AF
def AYJ(la:AU Au)(n lc:Nat)(sc:Bi)(x:MC):Hd where
 Cd:=[(0,.v<|.slice la n lc),(2,.p 6 0),(3,.p 7 0),(7,.v<|iV x.i)]
 Cc:=[(6,.cells [.v zS,.v zS] 32),(7,.cells [sc.sv,x.sf.sv] 32)]
 J:=x.J
structure MD where
 k:Nat
 J:AB
 m:Mk
 s:Bi
def ALB(la:AU Au)(n lc:Nat)(sc sf:Bi)(i ab:Nat)(a:AU Au)(mc:Nat)(x:MD):Hd where
 Cd:=[(0,.v<|.slice la n lc),(2,.p 6 0),(3,.p 7 0),(7,.v<|iV i),(8,.p 9 0),(9,.v<|iV ab),(10,.v<|iV x.k)]
 Cc:=[(6,.cells [.v zS,.v zS] 32),(7,.cells [sc.sv,sf.sv] 32),(9,G0 x.m a mc x.s)]
 J:=x.J
structure MDP(a:AB)(ab:Nat)(b:AU Au)(mc:Nat)(cells:AA AF)(m0:Mk)(x:MD):Prop where
 k:x.k<=12
 st:Cb a [] x.J (Bb x.s.a).toList
 ms:G7 (24*x.k) x.J b mc cells x.m x.s
 eq:Mk.Er ab (12-x.k) x.k x.m=Mk.Er ab 12 0 m0
def Iz.never{I J K:AB}{z A:Nat}{m n:BN}{v w:AA AF}{j l s:Bi}{b:Nat}{o:Obj}(h:Iz I J z m v j A n w l)(k:Cb J [] K (Bb s.a).toList)(C:s.a=sM ⟨b,0,nO⟩)(B:K.B8 b o):
 I.Ak b=nO/\Iz I (K.never b o) z m v j A n w l/\J.Da (K.never b o):=by
 have t:b∈(Bb s.a).toList:=by rw[C];simp[Bb]
 let⟨D,E,u,F⟩:=(h.st.app k).never (HZ _ t) B;have r:=h.step k;have p:∀y,¬J.B8 b y:=by rcases k.CE b t with q|q;cases q;exact q
 have c:∀x∈(Bb j.a).toList,x≠b:=λx a e=>by let⟨y,f⟩:=h.ra.B8 x a;exact p y<|e▸f
 have d:∀x∈(Bb l.a).toList,x≠b:=λx a e=>by let⟨y,f⟩:=h.rb.B8 x a;exact p y<|e▸f
 refine⟨E,⟨D.perm λx a=> ?_,h.nd,r.ra.A2 λx a y f=>u x y f<|c x a,r.rb.A2 λx a y f=>u x y f<|d x a⟩,k.le.trans F⟩;have i:x≠b:=by rcases Bc.1 a with q|q;exact c x q;exact d x q
 exact(Xr i).2<|GC _ a
def Oq{I z e a s}(h:C8 I z e a s)(d:0<s.n):∃b o,s.a=sM ⟨b,0,nO⟩/\I.B8 b o:=by rcases h.at_ with⟨q,_,_⟩|⟨b,c,q1,q2,_⟩;omega;exact⟨b,_,q1,q2⟩
def Av.AKn{I l a c b}(h:Av I JC 1 l a c b):lN b=lN l:=by rw[h.sl.len,TG]
def ZK(I:AB)(x a k:Nat)(b:a<=9223372036854775807)(c:0<k/\k<=1000):Hint:=.BZ (.binOp .quo 3 (.tmp x) (.const<|iV k) 3) [(x,.v<|iV a)] [] I (.v<|.int iK ((a/k:Nat):Int))<|AXx I x a k b c
def AX7(fl i m)(h:m=Mk.Er ((i+1)%3) 12 0 ⟨fl.getD i [],0,[]⟩):H4 fl i=⟨1,7,((m.next.2.BD 2<|m.next.1%8).BD 18 0).code⟩:=by subst h;rfl
abbrev AGx(I:AB)(a:A6):zP:=He I (λq:Dw=>.g<|Fa a q) λJ q=>FJ J a q
def AX5{i}(h:i<8):((c8.take<|i+1).map BH).flatMap BG=((c8.take i).map BH).flatMap BG++BG (BH<|(c8).getD i 0):=by have:i=0\/i=1\/i=2\/i=3\/i=4\/i=5\/i=6\/i=7:=oG;rcases this with rfl|rfl|rfl|rfl|rfl|rfl|rfl|rfl<;>rfl
def AX8{i}(h:i<8):((JR.take<|i+1).map D1).flatMap BG=((JR.take i).map D1).flatMap BG++BG (D1<|JR.getD i FW):=by have:i=0\/i=1\/i=2\/i=3\/i=4\/i=5\/i=6\/i=7:=oG;rcases this with rfl|rfl|rfl|rfl|rfl|rfl|rfl|rfl<;>rfl
def AX9(I)(fl:AA<|AA AH)(la Y P)(hl:Av I (QR I) 1 fl la Y P)(hlen:lN fl<=9223372036854775807)(av:∀x∈fl,lN x<=9223372036854775807):Fn 34 [.v<|.slice la (lN fl) Y] [] I (AGx I<|Io fl) nO:=by
 refine fo func34 λρ a7 w a5=>gG<|loop (ι:=MA) (λx=>x.i<=8/\YL I x.J (((c8.take x.i).map BH).flatMap BG) [] x.sc ⟨nO,0,0⟩) (λx=>8-x.i) (AX4 la (lN fl) Y) 1000 [(6,100),(7,116),(8,132)] ⟨0,I,⟨nO,0,0⟩⟩ ⟨Bm _,Iz.nil _ _ _ _ _⟩ ?_;rintro⟨i,J,⟨G,u,v⟩⟩ ⟨S,g⟩ again T;simp only at S g;by_cases d:i<8;have j:=AX5 d;have Z:u<=1000000:=by have:=g.ra.n;rw[HB (n:=5) (f:=BG) λ_=>rfl,DG]at this;have h2:=AGZ i c8;simp only at this;omega
 generalize((c8.take i).map BH).flatMap BG=E at g j;refine gG ?_ (by obtain rfl|rfl|rfl|rfl|rfl|rfl|rfl|rfl:=m8 d<;>exact kR);refine act (need:=[(1064,.cells ((BG<|BH<|c8.getD i 0).map .v) 51)]) (hobs:=by obtain rfl|rfl|rfl|rfl|rfl|rfl|rfl|rfl:=m8 d<;>exact kR) (JI (I:=J) Be (s:=⟨G,u,v⟩) (x:=.s 1064 0 1 1) (m:=1) (CQ:=E) (news:=BG<|BH<|c8.getD i 0) LU (by obtain rfl|rfl|rfl|rfl|rfl|rfl|rfl|rfl:=m8 d<;>exact kR) g.ra (Ez (e:=51) sP rfl<|U2 _) dC<|by show u+1<=16777216;omega) JH ?_;rintro h' ⟨F,c',f,rfl,A,B,C,M,y⟩;have D:=g.ACF (AE:=f) rfl (U2 _) A B C M y;generalize J.plus F _=Q at D⊢;refine gG ?_ (by obtain rfl|rfl|rfl|rfl|rfl|rfl|rfl|rfl:=m8 d<;>exact kR);exact bk again [] ⟨i+1,Q,⟨sM ⟨F,0,nO⟩,u+1,c'⟩⟩ ⟨d,by rw[j];exact D⟩ (hh:=by obtain rfl|rfl|rfl|rfl|rfl|rfl|rfl|rfl:=m8 d<;>exact⟨kR,kR,kR⟩)
 .have aa:i=8:=oG;subst aa;have g:YL I J (((c8).map BH).flatMap BG) [] ⟨G,u,v⟩ ⟨nO,0,0⟩:=g;refine gG<|loop (ι:=MA) (λx=>x.i<=8/\YL I x.J (((c8).map BH).flatMap BG++((JR.take x.i).map D1).flatMap BG) [] x.sc ⟨nO,0,0⟩) (λx=>8-x.i) (AYI la (lN fl) Y) 3000 [] ⟨0,J,⟨G,u,v⟩⟩ ⟨Bm _,by simpa using g⟩ ?_;rintro⟨i,J,⟨G,u,v⟩⟩ ⟨S,g⟩ again T;simp only at S g;by_cases d:i<8;have Z:u<=1000000:=by have:=g.ra.n;rw[CK,HB (n:=5) (f:=BG) λ_=>rfl,HB (n:=5) (f:=BG) λ_=>rfl,DG,DG]at this;have h2:=AGZ i JR;simp only[FM,KJ]at this;omega
  have V:(((c8).map BH).flatMap BG++((JR.take<|i+1).map D1).flatMap BG)=(((c8).map BH).flatMap BG++((JR.take i).map D1).flatMap BG)++BG (D1<|JR.getD i FW):=by rw[AX8 d,Eb]
  generalize(((c8).map BH).flatMap BG++((JR.take i).map D1).flatMap BG)=E at g V;refine gG ?_ (by obtain rfl|rfl|rfl|rfl|rfl|rfl|rfl|rfl:=m8 d<;>exact kR);refine A0 (Wd J) [] (hobs:=by obtain rfl|rfl|rfl|rfl|rfl|rfl|rfl|rfl:=m8 d<;>exact kR) ?_;rintro _ rfl;refine gG ?_ (by obtain rfl|rfl|rfl|rfl|rfl|rfl|rfl|rfl:=m8 d<;>exact kR);refine act (need:=[(3072,.cells ((BG<|D1<|JR.getD i FW).map .v) 51)]) (hobs:=by obtain rfl|rfl|rfl|rfl|rfl|rfl|rfl|rfl:=m8 d<;>exact kR) (JI (I:=J) Be (s:=⟨G,u,v⟩) (x:=.s 3072 0 1 1) (m:=1) (CQ:=E) (news:=BG<|D1<|JR.getD i FW) LU (by obtain rfl|rfl|rfl|rfl|rfl|rfl|rfl|rfl:=m8 d<;>exact kR) g.ra (Ez (e:=51) sP rfl<|U2 _) dC<|by show u+1<=16777216;omega) JH ?_;rintro h' ⟨F,c',f,rfl,A,B,C,M,y⟩;have D:=g.ACF (AE:=f) rfl (U2 _) A B C M y;generalize J.plus F _=Q at D⊢;refine gG ?_ (by obtain rfl|rfl|rfl|rfl|rfl|rfl|rfl|rfl:=m8 d<;>exact kR);exact bk again [] ⟨i+1,Q,⟨sM ⟨F,0,nO⟩,u+1,c'⟩⟩ ⟨d,by rw[V];exact D⟩ (hh:=by obtain rfl|rfl|rfl|rfl|rfl|rfl|rfl|rfl:=m8 d<;>exact⟨kR,kR,kR⟩)
  .have aa:i=8:=oG;subst aa;have hC:(((c8).map BH).flatMap BG++((JR.take 8).map D1).flatMap BG)=Mb.flatMap BG:=by unfold Mb;rw[Mu];rfl
   rw[hC]at g;have Z:u=16:=by have:=g.ra.n;rw[HB (n:=5) (f:=BG) λ_=>rfl]at this;have h2:lN Mb=16:=rfl;rw[h2]at this;simp only at this;omega
   subst Z;refine gG<|loop (ι:=MC) (λx=>x.i<=3/\YL I x.J (Mb.flatMap BG) x.vf ⟨G,16,v⟩ x.sf/\Rows (KU x.J) ((List.range x.i).map<|H4 fl) x.vf) (λx=>3-x.i) (AYJ la (lN fl) Y ⟨G,16,v⟩) 6000 [] ⟨0,J,⟨nO,0,0⟩,[]⟩ ⟨Bm _,g,rfl⟩ ?_;rintro⟨i,J,⟨fa,a,fc⟩,vf⟩ ⟨S,g,O⟩ again T;simp only at S g O;have aw:a=i:=by have h1:=g.rb.n;have h2:=Rows.len (WI J) O;simp at h2;simp only at h1;omega
   subst aw;by_cases d:a<3
   ·
    have a3:(List.range<|a+1).map (H4 fl)=(List.range a).map (H4 fl)++[H4 fl a]:=by rw[ABn,E3];rfl
    have hle:=g.st.le;by_cases ab:a<lN fl
    case' pos=>
     have hx:fl[a]? =sM fl[a]:=BS ab;have p:fl.getD a []=fl[a]:=by rw[DK,hx];rfl
     have R:lN (fl.getD a [])<=9223372036854775807:=by rw[p];exact av _<|DR ab
     obtain⟨b,off,arr,e,fr,row,hla,q2,⟨H,K,cells,rfl,an⟩,q4,q5⟩:=hl.cell (ARJ I) hx;have q0:=q5 0 _ rfl;simp only[IB]at q0;have N:Av J JC 1 (fl.getD a []) H K cells:=by rw[p];exact Av.Bf hle an λ_ _ q=>q
     refine gg [(41,hT<|(a:Int)<3),(49,tH a<|lN fl),(53,Br J ATD b off (lN fl) Y a ab),(54,ED J Adf rfl (off+a*1) (.slice H (lN fl[a]) K) (hle _ _ q2) q0),(58,sH a),(59,JO J 58 (a+1) 3 ((a+1)%3) rfl oG oG)] ?_ (by subst hla;exact kR);refine loop (ι:=MD) (MDP J ((a+1)%3) H K cells ⟨fl.getD a [],0,[]⟩) (λx=>12-x.k) (ALB la (lN fl) Y ⟨G,16,v⟩ ⟨fa,a,fc⟩ a ((a+1)%3) H K) 10000 [(9,6024)] ⟨0,J,⟨fl.getD a [],0,[]⟩,⟨nO,0,0⟩⟩ ⟨Bm _,.refl _ _,⟨N,Sg,Ag _,Ag _⟩,rfl⟩ (hobs:=by rw[p];exact kR) ?_
    case' neg=>
     have p:fl.getD a []=[]:=by rw[DK,Jh oG];rfl
     have R:lN (fl.getD a [])<=9223372036854775807:=by rw[p];decide
     obtain⟨H,K,cells,ay,az,N⟩:∃H K cells,H=nO/\K=0/\Av J JC 1 (fl.getD a []) H K cells:=⟨_,_,_,rfl,rfl,by rw[p];exact Av.empty⟩;refine gg [(41,hT<|(a:Int)<3),(49,fH a<|lN fl),(58,sH a),(59,JO J 58 (a+1) 3 ((a+1)%3) rfl oG oG)]<|loop (ι:=MD) (MDP J ((a+1)%3) H K cells ⟨fl.getD a [],0,[]⟩) (λx=>12-x.k) (ALB la (lN fl) Y ⟨G,16,v⟩ ⟨fa,a,fc⟩ a ((a+1)%3) H K) 10000 [(9,6024)] ⟨0,J,⟨fl.getD a [],0,[]⟩,⟨nO,0,0⟩⟩ ⟨Bm _,.refl _ _,⟨N,Sg,Ag _,Ag _⟩,rfl⟩ (hobs:=by rw[p];subst ay az;exact kR) ?_
    all_goals
     rintro⟨k,J1,c,⟨sa,sn,sc⟩⟩ ⟨p1,p2,p3,p4⟩ L TD;simp only at p1 p2 p3 p4;have M:=p3.at_;have ae:lN c.l<=9223372036854775807:=by rw[<-Av.AKn p3.QS,Av.AKn N];exact R
     by_cases hc:k<1+c.at_/\k<2+lN c.l/6/\k<12;let⟨c1,c2,c3⟩:=hc;refine gg [(65,hW (1+(c.at_:Int)) ((1+c.at_:Nat):Int)),(66,hT<|(k:Int)<((1+c.at_:Nat):Int)),(74,ZK J1 73 (lN c.l) 6 ae oG),(75,hW (2+((lN c.l/6:Nat):Int)) ((2+lN c.l/6:Nat):Int)),(76,hT<|(k:Int)<((2+lN c.l/6:Nat):Int)),(80,hT<|(k:Int)<12)]<|A0 (AZi p3 oG ((a+1)%3)<|JE _ dC) [(1,9)] ?_;rintro _ ⟨s2,J2,al,ac,rfl⟩;refine gg [(83,sH k)]<|bk L [] ⟨k+1,J2,c.part<|(a+1)%3,s2⟩ ⟨c3,p2.trans al,ac.mono<|by show 24*k+24<=24*(k+1);omega,?_⟩;show Mk.Er ((a+1)%3) (12-(k+1)) (k+1) (c.part<|(a+1)%3)=_;rw[<-p4,show 12-k=(12-(k+1))+1 by omega];show _=(if k<1+c.at_/\k<2+lN c.l/6/\k<12 then _ else _);rw[Ac ⟨c1,c2,c3⟩]
     .have a0:c=Mk.Er ((a+1)%3) 12 0 ⟨fl.getD a [],0,[]⟩:=by
       rw[<-p4];cases hk:12-k with
       |zero=>rfl
       |succ n=>
        show c=(if k<1+c.at_/\k<2+lN c.l/6/\k<12 then _ else _);rw[AY hc]
      have a1:=AX7 fl a c a0;have a6:c.next.1<=255:=Nk _ _;obtain c1|⟨c1,c2⟩|⟨c1,c2,c3⟩: ¬k<1+c.at_\/k<1+c.at_/\¬k<2+lN c.l/6\/k<1+c.at_/\k<2+lN c.l/6/\¬k<12:=oG;refine gg [(65,hW (1+(c.at_:Int)) ((1+c.at_:Nat):Int)),(66,hF<|(k:Int)<((1+c.at_:Nat):Int))] ?_
      rotate_left
      refine gg [(65,hW (1+(c.at_:Int)) ((1+c.at_:Nat):Int)),(66,hT<|(k:Int)<((1+c.at_:Nat):Int)),(74,ZK J1 73 (lN c.l) 6 ae oG),(75,hW (2+((lN c.l/6:Nat):Int)) ((2+lN c.l/6:Nat):Int)),(76,hF<|(k:Int)<((2+lN c.l/6:Nat):Int))] ?_
      rotate_left
      refine gg [(65,hW (1+(c.at_:Int)) ((1+c.at_:Nat):Int)),(66,hT<|(k:Int)<((1+c.at_:Nat):Int)),(74,ZK J1 73 (lN c.l) 6 ae oG),(75,hW (2+((lN c.l/6:Nat):Int)) ((2+lN c.l/6:Nat):Int)),(76,hT<|(k:Int)<((2+lN c.l/6:Nat):Int)),(80,hF<|(k:Int)<12)] ?_
      rotate_left
      all_goals
       refine A0 (AEq p3 oG) [(1,9)] ?_;rintro _ rfl;refine gg [(90,JO J1 89 c.next.1 8 (c.next.1%8) rfl oG oG)]<|A0 (PQ p3.next oG 2<|c.next.1%8) [(1,9)] ?_;rintro _ ⟨s2,J2,al,ac,rfl⟩;refine gG<|A0 (PQ ac oG 18 0) [(1,9)] ?_;rintro _ ⟨⟨a4,m,l⟩,Q,a2,ad,rfl⟩;refine go func34 [] 1 kR ?_;have af:m=lN ((c.next.2.BD 2<|c.next.1%8).BD 18 0).code:=ad.Bq;have aq:0<m:=by rw[af];show 0<lN (_++[_]);simp
       let⟨r,po,ah,ak⟩:=Oq ad.row aq;have ah:a4=sM ⟨r,0,nO⟩:=ah;subst ah;let⟨n1,n2,n3⟩:=g.never ((p2.trans al).trans a2) rfl ak;refine Le r Q po kR ak n1 ?_;have z:Av (Q.never r po) Q2 2 ((c.next.2.BD 2<|c.next.1%8).BD 18 0).code (aP r) l (((c.next.2.BD 2<|c.next.1%8).BD 18 0).code.flatMap Cs):=ad.row.Ou (J:=Q.never r po) af (Rows.flat.2 rfl) λb o hb ho=>by
        obtain rfl:r=b:=by simpa using hb
        have e:o=po:=by have:=ho.Ak;rw[ak.Ak]at this;exact(FX this).symm
        rw[e];exact Nw _ _ _
       have W:=O.mono<|SC n3;generalize Q.never r po=J4 at n2 n3 z W⊢;have hnew:KU J4 (H4 fl a) [Value.int iK 1,Value.int iK 7,Value.slice (aP r) m l]:=by rw[a1];exact⟨sM ⟨r,0,nO⟩,l,_,by rw[af];rfl,z⟩
       refine gG<|act (need:=[(10288,.cells (([Value.int iK 1,Value.int iK 7,Value.slice (aP r) m l]:AA AF).map .v) 195)]) (JI (I:=J4) Be (s:=⟨fa,a,fc⟩) (x:=.s 10288 0 1 1) (m:=1) (CQ:=vf) (news:=[Value.int iK 1,Value.int iK 7,Value.slice (aP r) m l]) ACH kR n2.rb (Ez (e:=195) sP rfl<|by simp[Value.oneCell']) dC<|by show a+1<=16777216;omega) JH ?_;rintro h' ⟨F,c',f,rfl,A,B,C,am,y⟩;have au:=n2.ACK (AE:=f) rfl (by simp[Value.oneCell']) A B C am y;have X:Rows (KU<|J4.plus F<|.cells (vf++[Value.int iK 1,Value.int iK 7,Value.slice (aP r) m l]++f).toArray 195 (0,0)) ((List.range<|a+1).map<|H4 fl) (vf++[Value.int iK 1,Value.int iK 7,Value.slice (aP r) m l]):=by rw[a3];have hp:J4.Da (J4.plus F<|.cells (vf++[Value.int iK 1,Value.int iK 7,Value.slice (aP r) m l]++f).toArray 195 (0,0)):=λ_ _ h=>h;exact Rows.append (W.mono<|SC hp) ⟨_,[],(Hn _).symm,SC hp _ _ hnew,rfl⟩
       generalize J4.plus F _=J5 at au X⊢;exact gg [(43,sH a)]<|bk again [] ⟨a+1,J5,⟨sM ⟨F,0,nO⟩,a+1,c'⟩,vf++[Value.int iK 1,Value.int iK 7,Value.slice (aP r) m l]⟩ ⟨d,au,X⟩
   have ax:a=3:=oG;subst ax;let⟨s,oc,ai,ag⟩:=Oq g.ra<|ABq 15;let⟨t,of,aj,ap⟩:=Oq g.rb<|ABq 2;have ai:G=sM ⟨s,0,nO⟩:=ai;have aj:fa=sM ⟨t,0,nO⟩:=aj;subst ai aj;have ao:s≠t:=λe=>by have:=g.nd;simp[Bb,e]at this
   let⟨n1,n2,n3,n4⟩:=g.st.never (b:=s) (by simp[Bb]) ag;have U:=n3 t of ap ao.symm;let⟨c,m2,m3,m4⟩:=n1.never (b:=t) ((Xr ao.symm).2<|by simp[Bb]) U;refine Le s J oc kR ag n2<|Le t (J.never s oc) of kR U m2 ?_;have hk:Av ((J.never s oc).never t of) F9 5 Mb (aP s) v (Mb.flatMap BG):=g.ra.Ou (J:=(J.never s oc).never t of) rfl (Rows.flat.2 rfl) λb o hb ho=>by
    obtain rfl:s=b:=by simpa using hb
    have e:o=oc:=by have:=ho.Ak;rw[ag.Ak]at this;exact(FX this).symm
    rw[e];exact m4 s oc<|Nw _ _ _
   have hu:Av ((J.never s oc).never t of) (KU<|(J.never s oc).never t of) 3 ((List.range 3).map<|H4 fl) (aP t) fc vf:=g.rb.Ou (J:=(J.never s oc).never t of) rfl (O.mono<|SC<|n4.trans m4) λb o hb ho=>by
    obtain rfl:t=b:=by simpa using hb
    have e:o=of:=by have:=ho.Ak;rw[ap.Ak]at this;exact(FX this).symm
    rw[e];exact Nw _ _ _
   have hle:=c.GJ;generalize(J.never s oc).never t of=J2 at hk hu hle⊢;exact gG<|dn [] ⟨⟨sM ⟨s,0,nO⟩,v,Mb.flatMap BG,sM ⟨t,0,nO⟩,fc,vf⟩,J2,rfl,hle,⟨hk,hu⟩⟩
abbrev AWy:AK:=.cells ((JR.flatMap Zi).map .v) 42
def AEy(i):B9 (EW i):=by
 rcases Jj i 8 with h|h;have:i=0\/i=1\/i=2\/i=3\/i=4\/i=5\/i=6\/i=7:=oG;rcases this with rfl|rfl|rfl|rfl|rfl|rfl|rfl|rfl<;>exact⟨dC,dC⟩;have:EW i=FW:=by rw[EW];rw[DK,Jh<|by show 8<=i;exact h];rfl
 rw[this];exact⟨dC,dC⟩
def AWr{j}(a:j<8):((((JR.flatMap Zi).map SV.v).drop<|0+j*2).take 2)=[.v<|vS<|AJ (EW j).1,.v<|vS<|AJ (EW j).2]:=by have:j=0\/j=1\/j=2\/j=3\/j=4\/j=5\/j=6\/j=7:=oG;rcases this with rfl|rfl|rfl|rfl|rfl|rfl|rfl|rfl<;>rfl
def ADo(I:AB)(a b K j:Nat)(c:j<8):Hint:=.BZ (.indexAddr 67 (.tmp a)<|.tmp b) [(a,.s K 0 8 8),(b,.v<|iV j)] [] I (.p K<|0+j*2)<|I5 Be (L:=Bt) (t:=67) (a:=a) (b:=b) (k:=K) (off:=0) (n:=8) (c:=8) (i:=j) (e:=42) rfl rfl c
def ZI(I:AB)(a K j:Nat)(b:j<8):Hint:=.BZ (.load 42<|.tmp a) [(a,.p K<|0+j*2)] [(K,AWy)] I (DW<|EW j)<|AXu Be (L:=Bt) (t:=42) (a:=a) (k:=K) (off:=0+j*2) (l:=(JR.flatMap Zi).map .v) (xs:=[.v<|vS<|AJ (EW j).1,.v<|vS<|AJ (EW j).2]) (e:=42) rfl rfl (AWr b)<|by show 0+j*2+2<=16;omega
abbrev AXZ(l:AA Nat):AK:=.cells (l.map λk:Nat=>SV.v<|iV k) 3
def AJg(I:AB)(a b K n j:Nat)(c:j<n):Hint:=.BZ (.indexAddr 100 (.tmp a)<|.tmp b) [(a,.s K 0 n n),(b,.v<|iV j)] [] I (.p K<|0+j*1)<|I5 Be (L:=Bt) (t:=100) (a:=a) (b:=b) (k:=K) (off:=0) (n:=n) (c:=n) (i:=j) (e:=3) rfl rfl c
def AJh(I:AB)(a K j:Nat)(l:AA Nat)(b:j<lN l):Hint:=.BZ (.load 3<|.tmp a) [(a,.p K<|0+j*1)] [(K,AXZ l)] I (.v<|iV<|l.getD j 0)<|Zn Be (L:=Bt) (t:=3) (a:=a) (k:=K) (off:=0+j*1) (l:=l.map λk:Nat=>SV.v<|iV k) (e:=3) rfl rfl<|by rw[show 0+j*1=j by omega,GB,BS b,DK,BS b];rfl
def AHT:Gq prog Bt 33 99 3:=⟨⟨_,rfl⟩,⟨_,_,rfl,rfl⟩,kR⟩
def ACI:Gq prog Bt 34 103 9:=⟨⟨_,rfl⟩,⟨_,_,rfl,rfl⟩,kR⟩
def XP(s):∀x∈FT s,x.oneCell':=by intro x a;simp[FT,mS]at a;rcases a with rfl|rfl|rfl<;>rfl
def Rn(s):∀x∈En s,x.oneCell':=by intro x a;simp[En,mS]at a;rcases a with rfl|rfl|rfl|rfl|rfl|rfl|rfl|rfl|rfl<;>rfl
def Jb(a:AA AH)(i:Nat):Gs:=⟨EW<|CN a (2*i)%8,(CN a (2*i+1)%4:Nat)⟩
def L8:AA Nat:=[0,0,1,2,4,5,1,3]
def L4:AA Nat:=[7,7,3,1]
def Ex(a:AA AH)(none_:Bool)(i:Nat):FO:=
 {fn:=CN a (6*i+1)%3,l:=EW<|L8.getD (CN a (6*i)%8) 0,c:=jn (EW<|L8.getD (CN a (6*i)%8) 0)<|EW<|L4.getD (CN a (6*i+2)%4) 0,AR:=if none_ then 0 else UInt8.ofNat<|CN a (6*i+2)/4%4,Ao:=CN a (6*i+3)%12,box:=(CN a (6*i+4)%3:Nat)-1,n:=(CN a (6*i+5)%4:Nat)}
structure QD where
 fa:AU Au
 fc:Nat
 ba:AU Au
 bc:Nat
 ta:AU Au
 tc:Nat
structure TL(I:AB)(c:LP)(q:QD):Prop where
 f:∃cells,Av I (QR I) 1 c.Ax q.fa q.fc cells
 b:∃cells,Av I JC 1 c.BJ q.ba q.bc cells
 t:∃cells,Av I JC 1 c.BM q.ta q.tc cells
 fl:lN c.Ax<=9223372036854775807
 fb:∀x∈c.Ax,lN x<=9223372036854775807
def Yh(c:LP)(q:QD):AA SV:=[.v<|.slice q.fa (lN c.Ax) q.fc,.v<|.slice q.ba (lN c.BJ) q.bc,.v<|.slice q.ta (lN c.BM) q.tc]
structure MQ where
 i:Nat
 J:AB
 s:Bi
def ASO(c:LP)(q:QD)(a:Bool)(ip:Dw)(x:MQ):Hd where
 Cd:=[(1,.v<|vB a),(2,.p 6 0),(4,.p 7 0),(5,.p 8 0),(6,.v<|iV x.i)]
 Cc:=[(6,.cells (Yh c q) 25),(7,.cells [.v zS,.v zS,.v zS,.v zS] 36),(8,.cells (Fa (Io c.Ax) ip++[x.s.sv,.v zS]) 36)]
 J:=x.J
def ASP(c:LP)(q:QD)(a:Bool)(ip:Dw)(sb:Bi)(x:MQ):Hd where
 Cd:=[(1,.v<|vB a),(2,.p 6 0),(4,.p 7 0),(5,.p 8 0),(7,.v<|iV x.i)]
 Cc:=[(6,.cells (Yh c q) 25),(7,.cells [.v zS,.v zS,.v zS,.v zS] 36),(8,.cells (Fa (Io c.Ax) ip++[sb.sv,x.s.sv]) 36)]
 J:=x.J
abbrev AB1(I:AB)(c:Dj):zP:=He I (λq:Jl=>.g<|MU c q) λJ q=>Ke J c q
def AYH{q:Nat}(h:q<4):Value.int .u8 (IntKind.u8.wrap (q:Int))=.int .u8 ((UInt8.ofNat q).toNat:Int):=by have:q=0\/q=1\/q=2\/q=3:=oG;rcases this with rfl|rfl|rfl|rfl<;>rfl
def AJO{a:Type}(f:Nat->a)(V:a->AA AF)(i:Nat):((List.range<|i+1).map f).flatMap V=((List.range i).map f).flatMap V++V (f i):=by rw[ABn,E3,Mu];simp
def AIc(I c q)(hq:TL I c q)(F:Bool):Fn 9 [.g<|Yh c q,.v<|.bool F] [] I (AB1 I<|Jo c F) none:=by
 let⟨⟨G,hf⟩,⟨l,Y⟩,⟨d,ht⟩,hfl,hfb⟩:=hq;refine fo func9 λρ an w al=>gG<|Cz (AX9 I c.Ax q.fa q.fc G hf hfl hfb) λip J0 z aa=>gG<|loop (ι:=MQ) (λx=>x.i<=2/\Iz J0 x.J 3 99 (((List.range x.i).map<|Jb c.BJ).flatMap FT) x.s 9 103 [] ⟨none,0,0⟩) (λx=>2-x.i) (ASO c q F ip) 1000 [(6,100),(7,108),(8,148)] ⟨0,J0,⟨none,0,0⟩⟩ ⟨Bm _,Iz.nil _ _ _ _ _⟩ ?_;rintro⟨i,J,⟨sa,f,sc⟩⟩ ⟨Z,g⟩ again T;simp only at Z g;have ai:f=i:=by have V:=g.ra.n;rw[HB (n:=3) (f:=FT) λ_=>rfl]at V;simp at V;omega
 subst ai;have hle:=z.EA.trans g.st.le;have O:Av J JC 1 c.BJ q.ba q.bc l:=Av.Bf hle Y λ_ _ h=>h;by_cases A:f<2;have y0:=Nk c.BJ<|2*f;have y1:=Nk c.BJ<|2*f+1;have t:CN c.BJ (2*f)%8<8:=JE _ dC;have am:Jb c.BJ f=⟨EW<|CN c.BJ (2*f)%8,(CN c.BJ (2*f+1)%4:Nat)⟩:=rfl;have m:=AJO (Jb c.BJ) FT f;refine gg [(15,hT<|(f:Int)<2),(24,hW (2*(f:Int)) ((2*f:Nat):Int)),(32,hW (2*(f:Int)) ((2*f:Nat):Int)),(33,hW (((2*f:Nat):Int)+1) ((2*f+1:Nat):Int))]<|A0 (Wd J) [] ?_;rintro _ rfl;refine gG<|call (PC J c.BJ q.ba q.bc l O (2*f) oG)<|gg [(26,JO J 25 (CN c.BJ<|2*f) 8 (CN c.BJ (2*f)%8) rfl oG oG),(27,ADo J 20 26 1032 (CN c.BJ (2*f)%8) t),(28,ZI J 27 1032 (CN c.BJ (2*f)%8) t)]<|call (PC J c.BJ q.ba q.bc l O (2*f+1) oG)<|gg [(35,JO J 34 (CN c.BJ<|2*f+1) 4 (CN c.BJ (2*f+1)%4) rfl oG oG)]<|act (need:=[(1168,.cells ((FT<|Jb c.BJ f).map .v) 99)]) (JI (I:=J) Be (s:=⟨sa,f,sc⟩) (x:=.s 1168 0 1 1) (m:=1) (CQ:=((List.range f).map<|Jb c.BJ).flatMap FT) (news:=FT<|Jb c.BJ f) AHT kR g.ra (Ez (e:=99) sP rfl<|XP _) dC<|by show f+1<=16777216;omega) JH ?_;rintro h' ⟨K,U,k,rfl,C,D,E,n,B⟩;have p:=g.ACF (AE:=k) rfl (XP _) C D E n B;generalize J.plus K _=S at p⊢;refine gg [(17,sH f)] ?_;exact bk again [] ⟨f+1,S,⟨some ⟨K,0,none⟩,f+1,U⟩⟩ ⟨A,by rwa[m]⟩;have ae:f=2:=oG;subst ae;generalize ak:((List.range 2).map<|Jb c.BJ).flatMap FT=vb at g
 refine gG<|loop (ι:=MQ) (λx=>x.i<=3/\Iz J0 x.J 3 99 vb ⟨sa,2,sc⟩ 9 103 (((List.range x.i).map<|Ex c.BM F).flatMap En) x.s) (λx=>3-x.i) (ASP c q F ip ⟨sa,2,sc⟩) 3000 [] ⟨0,J,⟨none,0,0⟩⟩ ⟨Bm _,g⟩ ?_;rintro⟨i,J,⟨ba,a,bc⟩⟩ ⟨Z,g⟩ again T;simp only at Z g;have ad:a=i:=by have V:=g.rb.n;rw[HB (n:=9) (f:=En) λ_=>rfl]at V;simp at V;omega
 subst ad;have hle:=z.EA.trans g.st.le;have u:Av J JC 1 c.BM q.ta q.tc d:=Av.Bf hle ht λ_ _ h=>h;by_cases A:a<3;have y0:=Nk c.BM<|6*a;have y1:=Nk c.BM<|6*a+1;have y2:=Nk c.BM<|6*a+2;have y3:=Nk c.BM<|6*a+3;have y4:=Nk c.BM<|6*a+4;have y5:=Nk c.BM<|6*a+5;have t:CN c.BM (6*a)%8<8:=JE _ dC;have H:CN c.BM (6*a+2)%4<4:=JE _ dC;have X:∀j,j<8->L8.getD j 0<8:=λj hj=>by have:j=0\/j=1\/j=2\/j=3\/j=4\/j=5\/j=6\/j=7:=oG;rcases this with rfl|rfl|rfl|rfl|rfl|rfl|rfl|rfl<;>decide
 have W:∀j,j<4->L4.getD j 0<8:=λj hj=>by have:j=0\/j=1\/j=2\/j=3:=oG;rcases this with rfl|rfl|rfl|rfl<;>decide
 have m:=AJO (Ex c.BM F) En a;refine gg [(41,hT<|(a:Int)<3),(49,hW (6*(a:Int)) ((6*a:Nat):Int))]<|A0 (Wd J) [] ?_;rintro _ rfl;refine gG<|call (PC J c.BM q.ta q.tc d u (6*a) oG)<|gg [(51,JO J 50 (CN c.BM<|6*a) 8 (CN c.BM (6*a)%8) rfl oG oG),(52,AJg J 45 51 3024 8 (CN c.BM (6*a)%8) t),(53,AJh J 52 3024 (CN c.BM (6*a)%8) L8 t),(54,ADo J 44 53 3016 (L8.getD (CN c.BM (6*a)%8) 0)<|X _ t),(55,ZI J 54 3016 (L8.getD (CN c.BM (6*a)%8) 0)<|X _ t),
  (59,hW (6*(a:Int)) ((6*a:Nat):Int)),(60,hW (((6*a:Nat):Int)+1) ((6*a+1:Nat):Int)),(70,hW (6*(a:Int)) ((6*a:Nat):Int)),(71,hW (((6*a:Nat):Int)+2) ((6*a+2:Nat):Int)),(82,hW (6*(a:Int)) ((6*a:Nat):Int)),(83,hW (((6*a:Nat):Int)+3) ((6*a+3:Nat):Int)),(89,hW (6*(a:Int)) ((6*a:Nat):Int)),(90,hW (((6*a:Nat):Int)+4) ((6*a+4:Nat):Int)),(97,hW (6*(a:Int)) ((6*a:Nat):Int)),(98,hW (((6*a:Nat):Int)+5) ((6*a+5:Nat):Int))] ?_
 refine call (PC J c.BM q.ta q.tc d u (6*a+1) oG)<|gg [(62,JO J 61 (CN c.BM<|6*a+1) 3 (CN c.BM (6*a+1)%3) rfl oG oG)]<|A0 (Wd J) [] ?_;rintro _ rfl;refine gG<|call (PC J c.BM q.ta q.tc d u (6*a+2) oG)<|gg [(73,JO J 72 (CN c.BM<|6*a+2) 4 (CN c.BM (6*a+2)%4) rfl oG oG),(74,AJg J 66 73 3208 4 (CN c.BM (6*a+2)%4) H),(75,AJh J 74 3208 (CN c.BM (6*a+2)%4) L4 H),(76,ADo J 65 75 3200 (L4.getD (CN c.BM (6*a+2)%4) 0)<|W _ H),(77,ZI J 76 3200 (L4.getD (CN c.BM (6*a+2)%4) 0)<|W _ H)]<|call (AD8 J (EW<|L8.getD (CN c.BM (6*a)%8) 0) (EW<|L4.getD (CN c.BM (6*a+2)%4) 0) (AEy _)<|AEy _)<|gG<|call (PC J c.BM q.ta q.tc d u (6*a+3) oG)<|gg [(85,JO J 84 (CN c.BM<|6*a+3) 12 (CN c.BM (6*a+3)%12) rfl oG oG)]<|call (PC J c.BM q.ta q.tc d u (6*a+4) oG)<|gg [(92,JO J 91 (CN c.BM<|6*a+4) 3 (CN c.BM (6*a+4)%3) rfl oG oG),(93,hW (((CN c.BM (6*a+4)%3:Nat):Int)-1) (((CN c.BM (6*a+4)%3:Nat):Int)-1) rfl)]<|call (PC J c.BM q.ta q.tc d u (6*a+5) oG) ?_;cases F with
 |true=>
  refine gg [(100,JO J 99 (CN c.BM<|6*a+5) 4 (CN c.BM (6*a+5)%4) rfl oG oG)]<|act (need:=[(3552,.cells ((En<|Ex c.BM true a).map .v) 103)]) (JI (I:=J) Be (s:=⟨ba,a,bc⟩) (x:=.s 3552 0 1 1) (m:=1) (CQ:=((List.range a).map<|Ex c.BM true).flatMap En) (news:=En<|Ex c.BM true a) ACI kR g.rb (Ez (e:=103) sP rfl<|Rn _) dC<|by show a+1<=16777216;omega) JH ?_;rintro h' ⟨K,U,k,rfl,C,D,E,n,B⟩;have p:=g.ACK (AE:=k) rfl (Rn _) C D E n B;generalize J.plus K _=S at p⊢;refine gg [(43,sH a)] ?_;exact bk again [] ⟨a+1,S,⟨some ⟨K,0,none⟩,a+1,U⟩⟩ ⟨A,by rwa[m]⟩
 |false=>
  have ah:CN c.BM (6*a+2)/4%4<4:=JE _ dC;refine gg [(100,JO J 99 (CN c.BM<|6*a+5) 4 (CN c.BM (6*a+5)%4) rfl oG oG),(107,hW (6*(a:Int)) ((6*a:Nat):Int)),(108,hW (((6*a:Nat):Int)+2) ((6*a+2:Nat):Int))]<|call (PC J c.BM q.ta q.tc d u (6*a+2) oG)<|gg [(110,ZK J 109 (CN c.BM<|6*a+2) 4 oG oG),(111,JO J 110 (CN c.BM (6*a+2)/4) 4 (CN c.BM (6*a+2)/4%4) rfl oG oG),(112,.eq _ _<|AYH ah)]<|act (need:=[(3640,.cells ((En<|Ex c.BM false a).map .v) 103)]) (JI (I:=J) Be (s:=⟨ba,a,bc⟩) (x:=.s 3640 0 1 1) (m:=1) (CQ:=((List.range a).map<|Ex c.BM false).flatMap En) (news:=En<|Ex c.BM false a) ACI kR g.rb (Ez (e:=103) sP rfl<|Rn _) dC<|by show a+1<=16777216;omega) JH ?_;rintro h' ⟨K,U,k,rfl,C,D,E,n,B⟩;have p:=g.ACK (AE:=k) rfl (Rn _) C D E n B;generalize J.plus K _=S at p⊢;refine gg [(43,sH a)] ?_;exact bk again [] ⟨a+1,S,⟨some ⟨K,0,none⟩,a+1,U⟩⟩ ⟨A,by rwa[m]⟩
 have af:a=3:=oG;subst af;subst ak;let⟨s,oc,Q,P⟩:=Oq g.ra<|ABq 1;let⟨v,of,R,ac⟩:=Oq g.rb<|ABq 2;have Q:sa=some ⟨s,0,none⟩:=Q;have R:ba=some ⟨v,0,none⟩:=R;subst Q R;have ab:s≠v:=λe=>by have:=g.nd;simp[Bb,e]at this
 have aj:Cb I [] J ((Bb<|aP s).toList++(Bb<|aP v).toList):=⟨hle,λx y hx _=>g.st.A2 x y (z.Ak x y hx) sP,λx hx=>by rcases g.st.CE x hx with r|r;exact .inl r;exact .inr λy hy=>r y<|z.Ak x y hy⟩
 let⟨n1,n2,n3,n4⟩:=aj.never (b:=s) (by simp[Bb]) P;have N:=n3 v of ac ab.symm;let⟨m1,m2,m3,m4⟩:=n1.never (b:=v) ((Xr ab.symm).2<|by simp[Bb]) N;refine Le s J oc kR P n2<|Le v (J.never s oc) of kR N m2 ?_;have hk:Av ((J.never s oc).never v of) Si 3 ((List.range 2).map<|Jb c.BJ) (aP s) sc (((List.range 2).map<|Jb c.BJ).flatMap FT):=g.ra.Ou (J:=(J.never s oc).never v of) rfl (Rows.flat.2 rfl) λb o Y ho=>by
  obtain rfl:s=b:=by simpa using Y
  have e:o=oc:=by have:=ho.Ak;rw[P.Ak]at this;exact(FX this).symm
  rw[e];exact m4 s oc<|Nw _ _ _
 have hu:Av ((J.never s oc).never v of) Ro 9 ((List.range 3).map<|Ex c.BM F) (aP v) bc (((List.range 3).map<|Ex c.BM F).flatMap En):=g.rb.Ou (J:=(J.never s oc).never v of) rfl (Rows.flat.2 rfl) λb o Y ho=>by
  obtain rfl:v=b:=by simpa using Y
  have e:o=of:=by have:=ho.Ak;rw[ac.Ak]at this;exact(FX this).symm
  rw[e];exact Nw _ _ _
 have M:=m1.GJ;have L:FJ ((J.never s oc).never v of) (Io c.Ax) ip:=FJ.Bf ((g.st.le.trans n4).trans m4) aa;generalize(J.never s oc).never v of=J2 at hk hu M L⊢;exact gG<|dn [] ⟨⟨ip,some ⟨s,0,none⟩,sc,((List.range 2).map<|Jb c.BJ).flatMap FT,some ⟨v,0,none⟩,bc,((List.range 3).map<|Ex c.BM F).flatMap En⟩,J2,rfl,M,⟨L,hk,hu⟩⟩
abbrev Qo(k:CH)(b:A6)(a:Nat):AA (Nat×AK):=[(6,.cells (Fa b k.ip++[.v<|nV a,.m 7,k.Bu.sv,.p 8 0,k.DD.sv,k.lk.sv]) 107),(7,.Aq<|.map k.es k.n),(8,.cells [.m 9,.m 10] 178),(9,.Aq<|.map k.sm.es k.sm.n),(10,.Aq<|.map k.sm.ns k.sm.m)]
structure QL(k:Ap):Prop where
 E0:Fi k.AC
 len:lN k.AC<=900000
 AC:∀t∈k.AC,CB t.id/\TT t
 Ep:∀x∈k.Ah,O7 x.2
 fl:lN k.Bj<=1000000
 ff:∀f∈k.Bj,BV f.id/\BV f.v.name
 ll:lN k.B5<=1000000
 lf:∀x∈k.B5,BV x.id
def WA:∀a:AA Nm,a.flatMap Mg=a.map BQ
 |[]=>rfl
 |x::l=>by rw[Kb,E4,WA l];rfl
def C8.nm{I:AB}{a:AA Nm}{s:Bi}(h:C8 I 1 9 (a.map BQ) s):C8 I 1 9 (a.flatMap Mg) s:=by rwa[WA]
def AWo(m m':CH)(a b:Ap)(i:Nat)(I:AB):Hd where
 Cd:=[(0,.p 1 0),(1,.p 6 0),(31,.v<|.slice m.Bu.a (lN a.AC) m.Bu.c),(32,.v<|iV<|lN a.AC),(33,.v<|iV i)]
 Cc:=CL m a.im a.AD++Qo m' b.im b.AD
 J:=I
abbrev APa(I:AB)(a:AA<|Nat×AK)(r:Bool):zP:=AHA I a r
def AWp(I L L' a b m d)(z:CZ I L a m)(G:CZ I L' b d)(n:QL a)(o:QL b)(an:a.AD<=1000000000)(ao:b.AD<=1000000000):
 Fn 19 [.p 1 0,.p 6 0] (CL m a.im a.AD++Qo d b.im b.AD) I (APa I (CL m a.im a.AD++Qo d b.im b.AD)<|LA a b) nO:=by
 obtain⟨o1,o2⟩:=z.Bu.nm.Mn (V:=Mg) (λ_=>rfl) dC;obtain⟨o3,o4⟩:=G.Bu.nm.Mn (V:=Mg) (λ_=>rfl) dC;obtain⟨f1,X⟩:=z.DD.Mn (V:=Dy) (λ_=>rfl) dC;obtain⟨f3,Y⟩:=G.DD.Mn (V:=Dy) (λ_=>rfl) dC;obtain⟨l1,l2⟩:=z.lk.Mn (V:=E9) (λ_=>rfl) dC;obtain⟨l3,l4⟩:=G.lk.Mn (V:=E9) (λ_=>rfl) dC;rw[DG]at o1 o2 o3 o4;have ar:=n.len;have au:=o.len;have ah:=n.fl;have ai:=o.fl;have aj:=n.ll;have ak:=o.ll;have o2:=o2 (by rw[maxLen];omega);have o4:=o4 (by rw[maxLen];omega);have X:=X (by rw[maxLen];omega);have Y:=Y (by rw[maxLen];omega);have l2:=l2 (by rw[maxLen];omega);have l4:=l4 (by rw[maxLen];omega);have ae:=(AcB I a.Ah b.Ah m.sm.es m.sm.ns m.sm.n m.sm.m d.sm.es d.sm.ns d.sm.n d.sm.m z.B0 G.B0 n.Ep o.Ep).same rfl;have p:∀ {k:Ap},QL k->∀x∈k.AC.map (·.id),BV x:=λhk x A=>by obtain⟨t,ht,e⟩:=BI.1 A;rw[<-e];exact F5 (hk.AC t ht).1
 have o2:Av I.CW NL 1 (a.AC.map λt=>t.id) m.Bu.a m.Bu.c _:=o2;have o4:Av I.CW NL 1 (b.AC.map λt=>t.id) d.Bu.a d.Bu.c _:=o4;have v:=ATf I.CW (a.AC.map λt=>t.id) (b.AC.map λt=>t.id) m.Bu.a d.Bu.a m.Bu.c d.Bu.c _ _ o2 o4 (by rw[DG];omega) (by rw[DG];omega) (p n)<|p o;rw[DG,DG]at v;have B:=v.CW rfl;have C:=(ATg I.CW a.Bj b.Bj m.DD.a d.DD.a m.DD.c d.DD.c _ _ X Y ah ai n.ff o.ff).CW rfl;have D:=(ATh I.CW a.B5 b.B5 m.lk.a d.lk.a m.lk.c d.lk.c _ _ l2 l4 aj ak n.lf o.lf).CW rfl;obtain⟨ip,mes,mn,⟨oa,on,oc⟩,⟨fa,fn,fc⟩,⟨la,ln,lc⟩,sm⟩:=m;obtain⟨ip',mes',mn',⟨S,av,U⟩,⟨E,am,F⟩,⟨Q,aq,R⟩,sm'⟩:=d;simp only at o1 o3 f1 f3 l1 l3 B C D;subst o1 o3 f1 f3 l1 l3;have hf:∀ {r:Bool},LA a b=r->r=LA a b:=λh=>h.symm;refine fo func19 λρ ap w al=> ?_;by_cases s:a.AD=b.AD
 case neg=>
  have e:LA a b=fF:=by rw[LA];simp[s]
  rw[e];exact gg [(15,Fs (a.AD:Int) (b.AD:Int))]<|dn [] rfl
 refine gg [(15,EN (a.AD:Int) (b.AD:Int))]<|call B ?_;by_cases c:a.AC.map (·.id)=b.AC.map (·.id)
 case neg=>
  have e:LA a b=fF:=by
   rw[LA];have:(a.AC==b.AC)=fF:=by rw[Nf];exact λq=>c (by rw[q])
   rw[this];simp
  rw[e,Gp c];exact gG<|dn [] rfl
 rw[G5 c];refine gG ?_;have hlen:lN a.AC=lN b.AC:=by have:=Dt List.length c;simpa using this
 refine loop (ι:=Nat) (λi=>i<=lN a.AC/\a.AC.take i=b.AC.take i) (λi=>lN a.AC-i) (λi=>AWo ⟨ip,mes,mn,⟨oa,lN a.AC,oc⟩,⟨fa,lN a.Bj,fc⟩,⟨la,lN a.B5,lc⟩,sm⟩ ⟨ip',mes',mn',⟨S,lN b.AC,U⟩,⟨E,lN b.Bj,F⟩,⟨Q,lN b.B5,R⟩,sm'⟩ a b i I) 1000 [] 0 ⟨Bm _,rfl⟩ ?_;rintro i ⟨hi,Z⟩ again T;by_cases g:i<lN a.AC;have A:a.AC[i]? =sM a.AC[i]:=BS g;have hy:b.AC[i]? =sM (b.AC[i]'oG):=BS oG;have N:=DR g;have O:b.AC[i]'oG∈b.AC:=DR _;have K:(b.AC[i]'oG).id=a.AC[i].id:=by have:=Dt (λl=>l[i]?) c;simp only[GB,A,hy,LN]at this;exact(FX this).symm
 have f:((a.AC.map (·.id)).map BQ)[i]? =sM (BQ a.AC[i].id):=by rw[GB,GB,A];rfl
 have V:=Kd g;have W:=Kd (show i<lN b.AC by omega);have t1:=NT n.E0 N;have t2:=NT o.E0 O;have n1:=n.AC _ N;have n2:=o.AC _ O;generalize a.AC[i]=x at*;generalize b.AC[i]'oG=y at*;rw[K]at t2;obtain⟨j1,p1,g1,ac,_⟩:=(z.tm.find<|F5 n1.1).2 x (by rwa[NF]);obtain⟨j2,p2,g2,ad,_⟩:=(G.tm.find<|F5 n1.1).2 y (by rwa[NF]);rcases z.Bu.at_ with⟨q2,_,_⟩|⟨bo,P,q1,q2,_⟩;exfalso;have q2:lN a.AC=0:=q2;omega;simp only at q1;subst q1;have u:(((a.AC.map (·.id)).map BQ++P).toArray:Ae AF)[0+i*1]? =sM (BQ x.id):=by rw[Mv,Gj<|by rw[DG,DG];omega];simpa using f
 have ag:=AdQ I x y p1 p2 ac ad n1.2 n2.2;refine gg [(34,tH i<|lN a.AC),(35,Br I Jr bo 0 (lN a.AC) oc i g),(36,.Kz I _ _<|IZ (I:=I.CW) Di rfl q2.CW u),
  (42,.BZ _ [(40,.m 2),(41,.v<|sV x.id)] [(2,.Aq<|.map mes mn)] I _<|Pf Be (L:=Bt) (t:=104) (a:=40) (b:=41) (km:=2) (n:=mn) (kt:=9) (et:=53) (d1:=.string) (es:=mes) (kv:=vS<|Aa x.id) (j:=j1) (xs:=EZ x p1) (I:=I) rfl Di trivial g1),
  (48,.BZ _ [(46,.m 7),(47,.v<|sV x.id)] [(7,.Aq<|.map mes' mn')] I _<|Pf Be (L:=Bt) (t:=104) (a:=46) (b:=47) (km:=7) (n:=mn') (kt:=9) (et:=53) (d1:=.string) (es:=mes') (kv:=vS<|Aa x.id) (j:=j2) (xs:=EZ y p2) (I:=I) rfl Di trivial g2)] ?_
 refine call ag ?_;by_cases j:x=y;rw[G5 j];exact gg [(51,sH i)]<|bk again [] (i+1) ⟨oG,by rw[V,W,Z,j]⟩;have e:LA a b=fF:=by
  rw[LA];have:(a.AC==b.AC)=fF:=by rw[Nf];intro q;rw[q,hy]at A;exact j (FX A).symm
  rw[this];simp
 rw[e,Gp j];exact gG<|dn [] rfl;have aa:i=lN a.AC:=oG;subst aa;have M:a.AC=b.AC:=by rw[FN,hlen,FN]at Z;exact Z
 have af:(a.AC==b.AC):=by rw[M];simp
 have ab:(a.AD==b.AD):=by rw[s];simp
 have H:LA a b=(JZ a.Ah b.Ah&&decide (a.Bj=b.Bj)&&decide (a.B5=b.B5)):=by
  rw[LA];rw[af,ab,RL,RL];have V:(a.Bj==b.Bj)=decide (a.Bj=b.Bj):=by by_cases q:a.Bj=b.Bj<;>simp[q]
  have W:(a.B5==b.B5)=decide (a.B5=b.B5):=by by_cases q:a.B5=b.B5<;>simp[q]
  rw[V,W]
 rw[H];refine gg [(34,fH (lN a.AC)<|lN a.AC)]<|A0 ae [(1,3),(2,4),(3,5),(4,8),(5,9),(6,10)] ?_;rintro _ rfl;generalize JZ a.Ah b.Ah=r1;cases r1 with
 |false=>
  exact gG<|dn [] rfl
 |true=>
  refine gG<|call C ?_;generalize decide (a.Bj=b.Bj)=r2;cases r2 with
  |false=>
   exact gG<|dn [] rfl
  |true=>
   refine gG<|call D ?_;generalize decide (a.B5=b.B5)=r3;refine gG ?_;exact dn [] (by cases r3<;>rfl) (h:={r:=.v<|vB r3,AV:=CL ⟨ip,mes,mn,⟨oa,lN a.AC,oc⟩,⟨fa,lN a.Bj,fc⟩,⟨la,lN a.B5,lc⟩,sm⟩ a.im a.AD++Qo ⟨ip',mes',mn',⟨S,lN b.AC,U⟩,⟨E,lN b.Bj,F⟩,⟨Q,lN b.B5,R⟩,sm'⟩ b.im b.AD,J:=I})
def AK3(I)(x:Nat)(a:Nat)(k:a<256):∀b e (o:Bw),o.op=.binOp .rem 5 (.tmp x) (.const (.int .u8 8)) 5->(∀p∈[(x,SV.v (.int .u8 (a:Int)))],e p.1=p.2)->LS prog o e b [] I (.v (.int .u8 ((a%8:Nat):Int))) nO:=by
 intro b e o c d;have i:=Ds d (s:=x) (x:=.v (.int .u8 (a:Int))) sP;intro n j w h _ _ _ _;refine⟨w,?_,Bl.refl w⟩;have f:=h (.tmp x) xO;have g:=h (.const (.int .u8 8)) xO;simp[ev,i,AO]at f g;simp[execOp,c,Sem.run_bind,f,g];have l:Int.tmod (a:Int) 8=((a%8:Nat):Int):=by rw[AO0 oG];omega
 have m:prog.underlying 5=sM (.int .u8):=Sw;go_simp;rfl
def AKz{P L}(y:Ed P L){t a b N k off n c i:Nat}{e O B I}(s:L.get t=sM ⟨N,O,.slice e⟩)(r:L.get e=sM B)(G:i<n):
 ∀g u (o:Bw),o.op=.indexAddr t (.tmp a) (.tmp b)->(∀p∈[(a,SV.s k off n c),(b,SV.v<|.int .u8<|Int.ofNat i)],u p.1=p.2)->LS P o u g [] I (.p k<|off+i*B.n) nO:=by
 intro g u o q f;have C:=Ds f (s:=a) (x:=.s k off n c) sP;have D:=Ds f (s:=b) (x:=.v<|.int .u8<|Int.ofNat i) sP;let⟨U,d,z,H,E,T,J,S,hzero⟩:=Dg<|y.get s;let⟨V,R,W,l,F,M,K,m,h⟩:=Dg<|y.get r;have j:=KE J;subst j;intro X Q w A _ _ _ _;refine⟨w,?_,Bl.refl w⟩;have v:=A (.tmp a) xO;have x:=A (.tmp b) xO;simp[ev,C,D]at v x;have:(0:Int)<=(i:Int)/\(i:Int)<(n:Int):=oG;simp[execOp,q,Instr.indexAt,v,x,AO,asIntOf,run_underlying E,G,sizeOf,typeInfo,l,m,Addr.add_mid]
structure MI where
 i:Nat
 J:AB
 s:Bi
def AVb(a:AU Au)(n c b:Nat)(x:MI):Hd where
 Cd:=[(0,.v<|.slice a n c),(1,.v<|iV b),(5,.s 6 0 8 8),(6,.v<|.slice x.s.a x.s.n x.s.c),(7,.v<|iV x.i)]
 Cc:=[(6,.cells ((Kt.map BQ).map .v) 9)]
 J:=x.J
abbrev APW(I:AB)(a:AA Nm):zP:=He I (λq:AU Au×Nat=>.v<|.slice q.1 (lN a) q.2) λJ q=>Av J NL 1 a q.1 q.2<|a.map BQ
def AVe(I l a c C)(hl:Av I JC 1 l a c C)(d)(hm:d<=1000):Fn 10 [.v<|.slice a (lN l) c,.v<|iV d] [] I (APW I<|H0 l d) nO:=by
 refine fo func10 λρ ac w aa=>gG<|loop (λx=>(x.i<=d/\x.i<=lN l)/\Told I x.J 1 9 ((H0 l x.i).map BQ) x.s) (λx=>d-x.i) (AVb a (lN l) c d) 1000 [(6,108)] ⟨0,I,⟨nO,0,0⟩⟩ ⟨⟨Bm _,Bm _⟩,.nil I 1 9⟩ ?_;rintro⟨i,J,⟨A,f,j⟩⟩ ⟨⟨hi,z⟩,s⟩ again T;simp only at hi z s;have hle:=s.st.GJ;have E:∀k,k<=lN l->lN (H0 l k)=k:=λk H=>by unfold H0;rw[DG,Cu];omega
 have X:f=i:=by have D:=s.row.n;rw[DG,E i z]at D;simp only at D;omega
 subst X;by_cases D:f<lN l
 case neg=>
  have e:H0 l d=H0 l f:=by unfold H0;rw[Na oG,Na oG]
  rw[e];have u:=E f z;cases M:f with
  |zero=>
   subst M;refine gg [(12,hF<|((0:Nat):Int)<(lN l:Int))] ?_;have t:H0 l 0=[]:=rfl;rw[t];have ab:A=nO/\j=0\/True:=.inr trivial;exact dn [] ⟨(A,j),J,rfl,hle,⟨⟨rfl,λv Y=>(by cases Y),.inl rfl⟩,Bm _,(by rcases s.row.at_ with⟨_,_,q⟩|⟨_,_,_,_,_,_,q⟩;have q:j=0:=q;show j<=maxLen;rw[q];exact Bm _;exact q),rfl⟩⟩
  |succ n=>
   rw[<-M];let⟨g,oc,p,m⟩:=Oq s.row (by show 0<f;omega);have p:A=sM ⟨g,0,nO⟩:=p;subst p;let⟨Z,n2,n3,n4⟩:=s.st.never (by simp[Bb]) m;refine Le g J oc kR m n2 ?_;have H:Av (J.never g oc) NL 1 (H0 l f) (aP g) j ((H0 l f).map BQ):=s.row.Ou u.symm (by rw[<-WA];exact Rows.flat.2 rfl) λb o Q W=>by
    obtain rfl:g=b:=by simpa using Q
    have e:o=oc:=by have:=W.Ak;rw[m.Ak]at this;exact(FX this).symm
    rw[e];exact Nw _ _ _
   have h:=Z.GJ;generalize J.never g oc=B at H h⊢;exact gg [(12,fH f<|lN l)]<|dn [] ⟨(sM ⟨g,0,nO⟩,j),B,by rw[u],h,H⟩
 by_cases h2:f<d
 case neg=>
  have e:H0 l d=H0 l f:=by rw[show d=f by omega]
  rw[e];have u:=E f z;cases M:f with
  |zero=>
   subst M;refine gg [(12,hT<|((0:Nat):Int)<(lN l:Int)),(16,hF<|((0:Nat):Int)<(d:Int))] ?_;have t:H0 l 0=[]:=rfl;rw[t];exact dn [] ⟨(A,j),J,rfl,hle,⟨⟨rfl,λv Y=>(by cases Y),.inl rfl⟩,Bm _,(by rcases s.row.at_ with⟨_,_,q⟩|⟨_,_,_,_,_,_,q⟩;have q:j=0:=q;show j<=maxLen;rw[q];exact Bm _;exact q),rfl⟩⟩
  |succ n=>
   rw[<-M];let⟨g,oc,p,m⟩:=Oq s.row (by show 0<f;omega);have p:A=sM ⟨g,0,nO⟩:=p;subst p;let⟨Z,n2,n3,n4⟩:=s.st.never (by simp[Bb]) m;refine Le g J oc kR m n2 ?_;have H:Av (J.never g oc) NL 1 (H0 l f) (aP g) j ((H0 l f).map BQ):=s.row.Ou u.symm (by rw[<-WA];exact Rows.flat.2 rfl) λb o Q W=>by
    obtain rfl:g=b:=by simpa using Q
    have e:o=oc:=by have:=W.Ak;rw[m.Ak]at this;exact(FX this).symm
    rw[e];exact Nw _ _ _
   have h:=Z.GJ;generalize J.never g oc=B at H h⊢;exact gg [(12,tH f<|lN l),(16,fH f d)]<|dn [] ⟨(sM ⟨g,0,nO⟩,j),B,by rw[u],h,H⟩
 have hx:l[f]? =sM l[f]:=BS D;have y:(H0 l<|f+1).map BQ=(H0 l f).map BQ++[BQ<|Kt.getD (l[f].toNat%8) []]:=by unfold H0;rw[Kd D,E3,E3];rfl
 have L:(l[f]).toNat<256:=(l[f]).toNat_lt;generalize l[f]=x at hx y L;have G:x.toNat%8<8:=JE _ dC;have F:((Kt.map BQ).map SV.v)[0+x.toNat%8*1]? =sM (.v<|BQ<|Kt.getD (x.toNat%8) []):=by rw[show 0+x.toNat%8*1=x.toNat%8 by omega,GB,GB,BS<|show x.toNat%8<lN Kt from G,DK,BS<|show x.toNat%8<lN Kt from G];rfl
 obtain⟨b,O,arr,e,fr,ad,rfl,q2,q3,q4,q5⟩:=hl.cell AFu hx;subst q3;have q0:=q5 0 _ rfl;simp only[IB]at q0;refine gg [(12,tH f<|lN l),(16,tH f d),(24,Br J ADC b O (lN l) c f D),(25,ED J Sw rfl (O+f*1) (Pv x) (hle _ _ q2) q0),
  (26,.BZ (.binOp .rem 5 (.tmp 25) (.const<|.int .u8 8) 5) [(25,.v<|.int .u8 (x.toNat:Int))] [] J (.v<|.int .u8 ((x.toNat%8:Nat):Int))<|AK3 J 25 x.toNat L),
  (27,.BZ (.indexAddr 38 (.tmp 21)<|.tmp 26) [(21,.s 6 0 8 8),(26,.v<|.int .u8 ((x.toNat%8:Nat):Int))] [] J (.p 6<|0+x.toNat%8*1)<|AKz Be (e:=9) rfl rfl G),
  (28,.BZ (.load 9<|.tmp 27) [(27,.p 6<|0+x.toNat%8*1)] [(6,.cells ((Kt.map BQ).map .v) 9)] J (.v<|BQ<|Kt.getD (x.toNat%8) [])<|Zn Be (L:=Bt) (l:=(Kt.map BQ).map .v) (e:=9) rfl rfl F)] ?_
 refine act (need:=[(1144,.cells ([BQ<|Kt.getD (x.toNat%8) []].map .v) 9)]) (JI Be (x:=.s 1144 0 1 1) (m:=1) (CQ:=(H0 l f).map BQ) (news:=[BQ<|Kt.getD (x.toNat%8) []]) Ve kR s.row (Ez (e:=9) sP rfl<|by simp[BQ,Value.oneCell']) dC<|by show f+1<=16777216;omega) JH ?_;rintro h' ⟨b',c',N,rfl,S,U,V,P,R⟩;have K:=s.app (AE:=N) (news:=[BQ<|Kt.getD (x.toNat%8) []]) rfl (by simp[BQ,Value.oneCell']) S U V P R;generalize J.plus b' _=B at K⊢;refine gg [(19,sH f)] ?_;exact bk again [] ⟨f+1,B,⟨sM ⟨b',0,nO⟩,f+1,c'⟩⟩ ⟨⟨h2,D⟩,by rw[y];exact K⟩
def APL(I:AB)(a:AA<|Nat×AK)(r:Bool):zP:=λ_ h=>∃J,I.le J/\h= {r:=.v<|vB r,AV:=a,J:=J}
def ACb(I n o a b m f)(x:CZ I n a m)(y:CZ I o b f)(E:X7 a)(F:X7 b)(l)(e:B9 l)(C:QL<|Hh a l)(D:QL<|Hh b l)(i:a.AD<=1000000000)(j:b.AD<=1000000000):
 Fn 27 [.p 1 0,.p 6 0,DW l] (CL m a.im a.AD++Qo f b.im b.AD) I (APL I (CL m a.im a.AD++Qo f b.im b.AD)<|sameAt a b l) nO:=by
 refine fo func27 λG z w p=>gG<|A0 (AKL I n a m x E l e) [] ?_;rintro _ ⟨A,r,q,rfl,c,g⟩;refine gG<|A0 (AKL q o b f (y.up c.GJ) F l e) (tK 6) ?_;rintro _ ⟨B,s,k,rfl,d,h⟩;refine gG<|A0 (AWp k r s (Hh a l) (Hh b l) A B (g.up d.GJ) h C D i j) (tK 132++[(6,156),(7,157),(8,158),(9,159),(10,160)]) ?_;rintro _ rfl;exact gG<|dn [] ⟨k,c.GJ.trans d.GJ,rfl⟩
end
section
open Go.AX Go.RowKit Go.Shelf Lz
def ANf:Ren where
 f:=λx=>match x with|221=>264|268=>335|138=>336|143=>337|195=>368|197=>364|218=>369|219=>338|260=>394|217=>370|225=>371|224=>372|267=>373|266=>397|314=>398|n=>n
 t:=λx=>match x with|9=>9|3=>3|31=>38|4=>4|0=>0|105=>451|21=>21|5=>5|46=>302|119=>487|139=>490|138=>489|146=>474|51=>423|n=>n
 g:=λx=>match x with|1=>3|3=>9|4=>10|n=>n
theorem ANe:Lays.n221 prog ANf:=by constructor<;>first|(intros;exact kR)|(constructor<;>first|(intros;exact kR)|(constructor<;>intros<;>exact kR))
def ACA(I:AB)(n c:Nat)(b:AA AF)(e:BN):zP:=λa h=>h= {r:=.s (a+0) 0 n c,nb:=[.As b e],J:=I}
theorem AeF{I n c i e}:VZ (ACA I n c i e) [] I:=by refine⟨?_⟩;rintro a h rfl;refine⟨⟨λk d=>.inr ?_,nA,λb g k d=> ?_,sP,sP⟩,AB.le_refl _⟩;simp[SV.A3]at d;rw[d];show(CX a [AK.As i e]<|a+0).isSome;rw[Nv];rfl;simp at g;subst g;cases d
theorem AUP{F}{fn}{args}{av}{n c}{xs}{e}{I}(m:Tryz.prog.funcs[F]? =some fn)(hb:fn.body.isSome=true)(f:(fn.name== "runtime.NumGoroutine")=false)
 (ha: ∀ρ,(BB ρ args).toArray=av) (h: ∀w,EJ w I->Calls Tryz.prog F av w λx l=>x=.returned (.slice (some ⟨w.heap.size,0,none⟩) n c)/\l=w.alloc (.cells xs.toArray e)):Fn F args [] I (ACA I n c xs e) none:=by
 refine⟨FC.of AeF.EA.out λρ key w k _ g _ _=> ?_,AX.JL m hb f⟩;rw[ha ρ];refine(h w g.1).mono ?_;rintro x l ⟨rfl,rfl⟩;have a:Bl w (w.alloc<|.cells xs.toArray e):=⟨rfl,rfl,rfl,sP,λb hb=>Below.heap_alloc _ _ _ hb⟩;refine⟨_,λ_=>w.heap.size,rfl,⟨rfl,rfl,rfl,a.size,λb hb _ _=>a.block b hb,(λkb d=>by cases d),?_,?_,a.Eo g,λb o hb=>.inl hb,λb o hb=>IM hb⟩,?_⟩;intro j b hj
 match j,hj with
 |0,hj=>cases hj;exact⟨World.alloc_heap_new w _,rfl,.inl<|Ag _⟩
 |j+1,hj=>simp at hj
 intro i j hi hj _;simp at hi hj;omega;simp only[AO,Ab.Bh];rw[Nv];rfl
theorem hi9:(prog.info?<|ANf.t 9).map (λi=>(i.zero,i.size,i.bytes))=sM (sM<|vS ByteArray.empty,1,16):=kR
theorem AUl(s)(f:s.size<=1000000)(w):Calls prog 264 #[vS s,vS ⟨#[10]⟩,.int iK 0,.int iK (-1)] w λe a=>
 e=.returned (.slice (aP w.heap.size) (lN<|Lib.splitB ⟨#[10]⟩ 0 (Lib.countB s ⟨#[10]⟩) s)<|Lib.countB s ⟨#[10]⟩+1)/\a=w.alloc (.cells (Lib.cellsOf (Lib.splitB ⟨#[10]⟩ 0 (Lib.countB s ⟨#[10]⟩) s)<|Lib.countB s ⟨#[10]⟩+1) 9):=by
 have hle:=Lib.countB_le ⟨#[10]⟩ dC s.size s<|Ag _;refine(Any.strings_genSplit_core ANe hi9 s ⟨#[10]⟩ 0 (-1) (Lib.countB s ⟨#[10]⟩+1) w oG dC dC ?_ ?_ dC dC<|by rw[Ac dC];omega).mono ?_;intro x c _;refine(ADy 10 x _).mono ?_;rintro e a ⟨rfl,rfl⟩;refine⟨?_,rfl⟩;have:Lib.index x.data.toList [10]=Lib.indexByte x.data.toList 10:=Lib.index_one _ _;exact Dt (λz=>Ending.returned<|nV z) this.symm;refine(Any.strings_Count_one {ANe with} s 10 w).mono λe a ⟨b,d⟩=>⟨?_,d⟩;rw[b];show _=Ending.returned (Value.int iK ((Lib.count s.data.toList [10]:Nat):Int));rw[Lib.count_one];rfl;intro e a h;exact h
theorem Ab6(s)(b:s.size<=1000000)(w):Calls prog 184 #[vS s,vS ⟨#[10]⟩] w λe a=>
 e=.returned (.slice (aP w.heap.size) (lN (Lib.splitB ⟨#[10]⟩ 0 (Lib.countB s ⟨#[10]⟩) s)) (Lib.countB s ⟨#[10]⟩+1))/\a=w.alloc (.cells (Lib.cellsOf (Lib.splitB ⟨#[10]⟩ 0 (Lib.countB s ⟨#[10]⟩) s) (Lib.countB s ⟨#[10]⟩+1)) 9):=by
 have HX:=Lib.hid (AUl s b w);generalize Lib.cellsOf _ _=d at HX⊢;generalize(Lib.splitB ⟨#[10]⟩ 0 (Lib.countB s ⟨#[10]⟩) s).length=n at HX⊢;generalize Lib.countB s ⟨#[10]⟩+1=c at HX⊢
 go_enter func184,ntmps184
 go_wp2_with (go_at_call 264;refine HX.out.mono ?_;rintro e a ⟨rfl,rfl⟩)
 go_ret
 exact⟨rfl,rfl⟩
theorem Pp(ρ a q)(h:Ab)(e:h.nb=[]):h.Bh ρ a q=ρ:=by funext k;rw[Ab.Bh,CX];rw[e];cases Nat.ble a k<;>rfl
structure PX(I:AB)(d:AA Nat)(ρ:Nat->Nat)(c:AN)(R:Ap)(m:CH)(L:AA Rw)(J:AB)(S:AA Nat)(W:AN):Prop where
 A:After I ρ c W 0 id {r:=.v undef,AV:=CL m R.im R.AD,J:=J}
 s:Cb I d J (CM L m)
 K:CZ J L R m
 S:∀b∈S,c.heap.size<=b/\b<W.heap.size/\J.free b
def PW(I:AB)(d:AA Nat)(ρ:Nat->Nat)(c:AN)(R:Ap)(S:AA Nat)(W:AN):Prop:=∃m L J,PX I d ρ c R m L J S W
theorem ZY(m b a):(CL m b a).map (·.1)=[1,2,3,4,5]:=rfl
theorem AWY(m e a){ρ w}(h:Has w ρ<|CL m e a):∀k∈[1,2,3,4,5],ρ k<w.heap.size:=by
 intro k g;have:k∈(CL m e a).map (·.1):=g;obtain⟨f,b,rfl⟩:=BI.1 this;have i:f.2.live:=by simp[CL,mS]at b;rcases b with rfl|rfl|rfl|rfl|rfl<;>rfl
 let⟨o,j⟩:=AK.UI i ρ;exact Eg<|h f b o j
theorem AWZ{m l:CH}{k f:A6}{g a:Nat}{ρ:Nat->Nat}{b:Nat}(h:∀e∈CL m k g,ρ e.1≠b):∀e∈CL l f a,ρ e.1≠b:=by
 intro e i;have:e.1∈(CL m k g).map (·.1):=by rw[ZY,<-ZY l f a];exact BI.2 ⟨e,i,rfl⟩
 let⟨j,n,o⟩:=BI.1 this;rw[<-o];exact h j n
theorem PW.start{I L ρ w k m}(f:CZ I L k m)(a:Has w ρ<|CL m k.im k.AD)(e:Holds w I):PW I (CM L m) ρ w k [] w:=
 ⟨m,L,I,⟨rfl,rfl,rfl,Ag _,λ_ _ _ _=>rfl,by rwa[Pp _ _ _ _ rfl],(λj b h=>by cases h),(λi j h=>by cases h),e,λb o h=>.inl h,λb o h=>.inl<|by show(I.Ak b).isSome;rw[show I.Ak b=sM o from h];rfl⟩,Cb.refl _ _,f,nA⟩
variable{I:AB}{d:List Nat}{ρ:Nat->Nat}{c:World}{R:Ap}{S:List Nat}{W W':World}
theorem PX.Xa{m L J}(h:PX I d ρ c R m L J S W)(q:∀k∈[1,2,3,4,5],ρ k<c.heap.size)(u:W'.os=W.os)(v:W'.tape=W.tape)(w:W'.output=W.output)(x:W.heap.size<=W'.heap.size)(r:∀b,b<W.heap.size->b∉S->W'.heap[b]? =W.heap[b]?):PX I d ρ c R m L J S W':=by
 let⟨e,C,A,f⟩:=h;refine⟨?_,C,A,λb a=>⟨(f b a).1,by have:=(f b a).2.1;omega,(f b a).2.2⟩⟩;have t:∀b,b<c.heap.size->b∉S:=λb a n=>by have:=(f b n).1;omega
 have p:=e.AV;rw[Pp _ _ _ _ rfl]at p;refine⟨u.trans e.os,v.trans e.tape,w.trans e.output,Ch e.size x,λb a y z=>(r b (QA a e.size)<|t b a).trans<|e.A2 b a y z,?_,(λj b h=>by cases h),(λi j h=>by cases h),?_,e.fresh,e.IX⟩;rw[Pp _ _ _ _ rfl];intro s g o B;have l:s.1∈[1,2,3,4,5]:=by rw[<-ZY m R.im R.AD];exact BI.2 ⟨s,g,rfl⟩
 rw[r _ (QA (q _ l) e.size)<|t _<|q _ l];exact p s g o B;constructor;intro b o a;have:=e.H2.1 b o a;rwa[r b (Eg this) λn=>by have:=(f b n).2.2.1;rw[show J b=sM o from a]at this;cases this];intro b o a;have:=e.H2.2 b o a;rwa[r b (Eg this) λn=>by have:=(f b n).2.2.2;rw[show J.Ak b=sM o from a]at this;cases this]
theorem PW.Xa(h:PW I d ρ c R S W)(a:∀k∈[1,2,3,4,5],ρ k<c.heap.size)(e:W'.os=W.os)(f:W'.tape=W.tape)(g:W'.output=W.output)(i:W.heap.size<=W'.heap.size)(j:∀b,b<W.heap.size->b∉S->W'.heap[b]? =W.heap[b]?):PW I d ρ c R S W':=by let⟨m,L,J,h⟩:=h;exact⟨m,L,J,h.Xa a e f g i j⟩
theorem PW.put(h:PW I d ρ c R S W)(a:∀k∈[1,2,3,4,5],ρ k<c.heap.size){b}(f:b∈S)(o):PW I d ρ c R S (W.putObj b o):=
 h.Xa a rfl rfl rfl (by simp[World.putObj]) λx _ g=>World.putObj_heap_other λe=>g<|by subst e;exact f
theorem PW.set(h:PW I d ρ c R S W)(a:∀k∈[1,2,3,4,5],ρ k<c.heap.size){b}(f:b∈S)(v):PW I d ρ c R S (W.setCell ⟨b,0,nO⟩ v):=
 h.Xa a rfl rfl rfl (by simp[World.setCell]) λx _ g=>Below.heap_setCell _ _ _ _ λe=>g<|by subst e;exact f
theorem PW.alloc(h:PW I d ρ c R S W)(g:∀k∈[1,2,3,4,5],ρ k<c.heap.size)(o):PW I d ρ c R (W.heap.size::S) (W.alloc o):=by let⟨m,L,J,h⟩:=h;have a:=h.Xa (W':=W.alloc o) g rfl rfl rfl sP λx i _=>Below.heap_alloc _ _ _ i;refine⟨m,L,J,a.A,a.s,a.K,λb f=> ?_⟩;rcases Co.1 f with rfl|f;refine⟨h.A.size,sP,?_,?_⟩;rcases e:J.at_ W.heap.size with _|j;rfl;exact absurd (Eg<|h.A.H2.1 _ _ e)<|Ae1 _;rcases e:J.Ak W.heap.size with _|j;rfl;exact absurd (Eg<|h.A.H2.2 _ _ e)<|Ae1 _;exact a.S b f
theorem PW.run{G s k2 rv M}(h:PW I d ρ c R S W)(Z:Holds c I)(v:∀k∈[1,2,3,4,5],ρ k<c.heap.size)(w:∀k∈[1,2,3,4,5],I.free<|ρ k)(z:∀x∈[1,2,3,4,5],∀y∈[1,2,3,4,5],ρ x=ρ y->x=y)
 (Q:∀J L m,CZ J L R m->Fn G s (CL m R.im R.AD) J (Ki J (CM L m) rv k2) nO) (H:(BB ρ s).toArray=M):
 Calls prog G M W λe W'=>e=.returned (AO ρ rv)/\PW I d ρ c k2 S W'/\∀b∈S,W'.heap[b]? =W.heap[b]? :=by
 let⟨m,L,J,h⟩:=h;let⟨g,T,P,p⟩:=h;have r:=g.AV;rw[Pp _ _ _ _ rfl]at r;have r:Has W ρ (CL m R.im R.AD):=r;have n:∀t∈CL m R.im R.AD,t.1∈[1,2,3,4,5]:=λt l=>by rw[<-ZY m R.im R.AD];exact BI.2 ⟨t,l,rfl⟩
 have free:∀k∈[1,2,3,4,5],J.free (ρ k):=λk B=>by constructor;rcases e:J.at_ (ρ k)with _|o;rfl;rcases g.fresh _ _ e with a|⟨a,_⟩;rw[(w k B).1]at a;cases a;have:=v k B;omega;rcases e:J.Ak (ρ k)with _|o;rfl;rcases g.IX _ _ e with a|⟨a,_⟩;rw[(w k B).2]at a;cases a;have:=v k B;omega
 have N:=(Q J L m P).out ρ 100 W (Ag _) r g.H2 (λt l=>free _<|n t l) λx U y V e=>z _ (n x U) _ (n y V) e;rw[H]at N;refine N.mono ?_;rintro e W' ⟨h',q,⟨⟨X,O,C,rfl,K,F⟩,_⟩,hA2,rfl⟩;refine⟨by rw[Pp _ _ _ _ rfl],⟨X,O,C,?_,T.trans K,F,λb f=>⟨(p b f).1,QA (p b f).2.1 hA2.size,?_⟩⟩,λb f=>hA2.A2 b (p b f).2.1 (λt l e=> ?_) (p b f).2.2.2⟩;have A:=hA2.AV;rw[Pp _ _ _ _ rfl]at A;refine⟨hA2.os.trans g.os,hA2.tape.trans g.tape,hA2.output.trans g.output,Ch g.size hA2.size,λb f D E=> ?_,by rwa[Pp _ _ _ _ rfl],(λj b h=>by cases h),(λi j h=>by cases h),hA2.H2,λb o f=> ?_,λb o f=> ?_⟩;refine(hA2.A2 b (QA f g.size) D ?_).trans<|g.A2 b f (AWZ D) E;rcases e:J.Ak b with _|o;rfl;rcases g.IX _ _ e with a|⟨a,_⟩;rw[E]at a;cases a;omega;rcases hA2.fresh b o f with e|⟨e,_⟩;rcases g.fresh b o e with a|⟨a,_⟩;exact .inl a;exact .inr ⟨a,λj u=>by cases u⟩;exact .inr ⟨Ch g.size e,λj u=>by cases u⟩;rcases hA2.IX b o f with e|⟨e,_⟩;let⟨Y,e⟩:=Mz.1 e;rcases g.IX b Y e with a|⟨a,_⟩;exact .inl a;exact .inr ⟨a,λj u=>by cases u⟩;exact .inr ⟨Ch g.size e,λj u=>by cases u⟩;constructor;rcases e:C.at_ b with _|o;rfl;rcases hA2.fresh _ _ e with a|⟨a,_⟩;rw[(p b f).2.2.1]at a;cases a;have:=(p b f).2.1;omega;rcases e:C.Ak b with _|o;rfl;rcases hA2.IX _ _ e with a|⟨a,_⟩;rw[(p b f).2.2.2]at a;cases a;have:=(p b f).2.1;omega;have D:=v _ (AKD (key:=0) (nb:=[]) t l).1;have E:=(p b f).1;have e:ρ t.1=b:=e;omega
theorem PW.at_(h:PW I d ρ c R S W){b o}(a:I b=sM o):W.heap[b]? =sM o:=by let⟨m,L,J,h⟩:=h;exact h.A.H2.1 b o<|h.s.le b o a
theorem AaV{F n P g ps assign body Q a w}(f:F.round=nO)(h1:1<=n){gf lb}(m:a.eval g=.func (.func gf) #[] lb)(e:F.fn gf)(l:∀args w,(callFunc gf args).run P w=.ok (.enter gf args) w)
 (h:∀fn (r:LoopState->AU Code->Loop),F.fn fn->(r=λst i=>{state:=st,pending:=i,fn,tmps:=a.tmps,params:=ps,assign,body,defers:=w.heap.size})->
   CallsIn F (n-1) P gf (#[.func (.yield (w.heap.size+1)) #[] #[]]++lb) ((w.alloc (.deferred (sM []))).alloc (.loop (r .ready nO))) (rangePost F n P (w.heap.size+1) Q {a with defers:=[{target:=.collected w.heap.size,args:=#[]}]++a.defers})):
 (Code.rangeFunc g ps assign body).wpIn F n P Q a w:=by
 refine wpIn_rangeFunc λfn F4=> ?_;rw[f];obtain⟨r,k⟩:∃r:LoopState->AU Code->Loop,r=λst i=>{state:=st,pending:=i,fn,tmps:=a.tmps,params:=ps,assign,body,defers:=w.heap.size}:=⟨_,rfl⟩;obtain⟨V,j⟩:∃V,(w.alloc (.deferred (sM []))).alloc (.loop (r .ready nO))=V:=⟨_,rfl⟩;have hc:=h fn r F4 k;rw[j]at hc;refine⟨w.heap.size+1,[{target:=.collected w.heap.size,args:=#[]}],V,{target:=.fn (.func gf) lb,args:=#[.func (.yield (w.heap.size+1)) #[] #[]]},V,gf,#[.func (.yield (w.heap.size+1)) #[] #[]]++lb,V,?_,?_,?_,?_,λ_=>h1,?_⟩;rw[<-j,k];exact run_enterLoop_outer _ _ _ _ _
 .simp[resolve,m];simp[go_sem]
 intro o b;simp[Target.leads]at b;subst b;exact e
 .simp[invoke,go_sem,l]
 with_reducible exact hc
section
attribute [local go_sem] Oper.semAt_some
def AG6(I:AB)(P:AA Nat)(a:Ap):zP:=λ_ h=>∃(z:Int)(b:CH)(c:AA Rw)(J:AB),h= {r:=.v<|nV z,AV:=CL b a.im a.AD,J:=J}/\Cb I P J (CM c b)/\CZ J c a b
theorem AeB{I P i m g c}:VY (AG6 I P i) (CL m g c) I:=by refine⟨?_⟩;rintro l h ⟨z,o,n,J,rfl,f,_⟩;exact⟨⟨nA,(λj a=>AKD j a),nA,sP,sP⟩,f.le⟩
theorem AMC(I:AB)(L:List Rw)(k:Ap)(m:CH)(hK:CZ I L k m)(C3:List Nm)(f:Option Addr)(n:Nat)(P:List Value)(hs:Av I NL 1 C3 f n P)(hlen:lN C3<=1000000)
 (ai:∀i id,C3[i]? =sM id->∀J L' m',CZ J L' (Fe k (C3.take i)) m'->Fn 25 [.p 1 0,.v (sV id)] (CL m' (Fe k (C3.take i)).im (Fe k (C3.take i)).AD) J (QI J (CM L' m') (F6 (Fe k (C3.take i)) id)) nO):
 Fn 18 [.p 1 0,.v (.slice f (lN C3) n)] (CL m k.im k.AD) I (AG6 I (CM L m) (Fe k C3)) nO:=by
 refine⟨FC.of AeB.out λt a0 w az hH hI ar af=> ?_,JL func18 rfl kR⟩;have c:=AWY m k.im k.AD hH;have s:∀x∈[1,2,3,4,5],∃d∈CL m k.im k.AD,d.1=x:=λx l=>by have:x∈(CL m k.im k.AD).map (·.1):=l;obtain⟨d,h1,h2⟩:=List.mem_map.1 this;exact⟨d,h1,h2⟩
 have ae:∀x∈[1,2,3,4,5],I.free (t x):=λx l=>by obtain⟨d,h1,rfl⟩:=s x l;exact ar d h1
 have ab:∀x∈[1,2,3,4,5],∀y∈[1,2,3,4,5],t x=t y->x=y:=λx l y hy e=>by obtain⟨kx,h1,rfl⟩:=s x l;obtain⟨ky,h2,rfl⟩:=s y hy;exact af kx h1 ky h2 e
 have p0:=PW.start (ρ:=t) hK hH hI;obtain⟨sb,so,ah⟩:∃sb so,0<lN C3->f=sM ⟨sb,so,nO⟩:=by by_cases h0:0<lN C3;obtain⟨b1,G,ad,e1,al,K,q1,_⟩:=hs.cell Ws (List.getElem?_eq_getElem h0);exact⟨b1,G,λ_=>q1⟩;exact⟨0,0,λh=>absurd h h0⟩
 have q:∀W k' S,PW I (CM L m) t w k' S W->∀i,i<lN C3->W.cell? ⟨sb,so+i,nO⟩=sM (vS (Aa (C3.getD i []))):=by intro W k' S p i hi;obtain⟨b1,G,ad,e1,al,K,q1,q2,q3,q4,q5⟩:=hs.cell Ws (List.getElem?_eq_getElem hi);have q3:K=Mg (C3[i]):=q3;subst q3;rw[ah oG]at q1;cases q1;have hb:=p.at_ q2;have:=q5 0 _ rfl;simp only[World.cell?,hb,List.getD_eq_getElem?_getD,List.getElem?_eq_getElem hi,Option.getD_some];rw[show so+i*1+0=so+i by omega]at this;exact this
 generalize F:t 1=d at*;have aa:(BB t [.p 1 0,.v (.slice f (lN C3) n)]).toArray=#[.pointer (aP d),.slice f (lN C3) n]:=by simp[BB,AO,F]
 rw[aa];refine callsIn_wide.1 (?_:CallsIn Fence.wide 6 prog 18 _ w _);refine callsIn_of_wp_marks func18 rfl trivial ?_ rfl;simp only[ntmps18,List.size_toArray,List.length_cons,List.length_nil,Nat.reduceAdd,Nat.reduceSub,Array.replicate_succ,Array.replicate_zero,List.push_toArray,List.append_toArray,List.nil_append,List.cons_append]
 gi_wp2_with (refine⟨trivial,?_⟩;gi_at_call 61;refine(AZx Fence.wide _ trivial rfl _ _ _ rfl rfl).mono ?_;rintro e w' ⟨rfl,rfl⟩)
 have p3:=((p0.alloc c (.cells #[Value.int IntKind.i64 0] 3)).alloc c (.cells #[.pointer (aP d)] 27)).alloc c (.cells #[.slice f (lN C3) n] 38);have O:=Boxed.new w 3 (.int iK 0);have D:=Boxed.new (w.alloc (.cells #[.int iK 0] 3)) 27 (.pointer (aP d));have N:=Boxed.new ((w.alloc (.cells #[.int iK 0] 3)).alloc (.cells #[.pointer (aP d)] 27)) 38 (.slice f (lN C3) n);replace O:=(O.alloc (.cells #[.pointer (aP d)] 27)).alloc (.cells #[.slice f (lN C3) n] 38);replace D:=D.alloc (.cells #[.slice f (lN C3) n] 38);rw[World.size_alloc]at D;rw[World.size_alloc,World.size_alloc]at N;simp only[World.size_alloc]at p3;have ak:(((w.alloc (.cells #[Value.int IntKind.i64 0] 3)).alloc (.cells #[.pointer (aP d)] 27)).alloc (.cells #[.slice f (lN C3) n] 38)).heap.size=w.heap.size+1+1+1:=sP;generalize((w.alloc (.cells #[Value.int IntKind.i64 0] 3)).alloc (.cells #[.pointer (aP d)] 27)).alloc (.cells #[.slice f (lN C3) n] 38)=w3 at p3 O D N ak⊢;refine AaV rfl oG (gf:=119) (lb:=#[.pointer (aP (w.heap.size+1+1)),.pointer (aP (w.heap.size+1))]) rfl trivial (JL func119 kR kR) λfn r aq B=> ?_;have p5:=(p3.alloc c (.deferred (sM []))).alloc c (.loop (r .ready nO));replace O:=(O.alloc (.deferred (sM []))).alloc (.loop (r .ready nO));replace D:=(D.alloc (.deferred (sM []))).alloc (.loop (r .ready nO));replace N:=(N.alloc (.deferred (sM []))).alloc (.loop (r .ready nO));have Ks:=World.alloc_heap_new (w3.alloc (.deferred (sM []))) (.loop (r .ready nO))
 have X:((w3.alloc (.deferred (sM []))).alloc (.loop (r .ready nO))).heap[w3.heap.size]? =sM (.deferred (sM [])):=(Below.heap_alloc _ _ _ sP).trans (World.alloc_heap_new w3 _);simp only[World.size_alloc]at p5 Ks;rw[ak]at p5 Ks X B⊢;generalize(w3.alloc (.deferred (sM []))).alloc (.loop (r .ready nO))=V at p5 O D N Ks X⊢;clear p3 p0;obtain⟨S,U⟩:∃S,[w.heap.size+1+1+1+1,w.heap.size+1+1+1,w.heap.size+1+1,w.heap.size+1,w.heap.size]=S:=⟨_,rfl⟩;rw[U]at p5;have s0:w.heap.size∈S:=by rw[<-U];simp
 have s1:w.heap.size+1∈S:=by rw[<-U];simp
 have s2:w.heap.size+1+1∈S:=by rw[<-U];simp
 have s3:w.heap.size+1+1+1∈S:=by rw[<-U];simp
 have s4:w.heap.size+1+1+1+1∈S:=by rw[<-U];simp
 clear U;obtain⟨J,R⟩:∃J:Nat->World->Prop,J=λi W=>PW I (CM L m) t w (Fe k (C3.take i)) S W/\(∃z,Boxed W w.heap.size 3 (nV z))/\Boxed W (w.heap.size+1) 27 (.pointer (aP d))/\Boxed W (w.heap.size+1+1) 38 (.slice f (lN C3) n)/\W.heap[w.heap.size+1+1+1]? =sM (.deferred (sM []))/\W.heap[w.heap.size+1+1+1+1]? =sM (.loop (r .ready nO)):=⟨_,rfl⟩;refine(AZw (6-1) oG (w.heap.size+1+1+1+1) (w.heap.size+1+1) (w.heap.size+1) ⟨d,0,nO⟩ f sb so (lN C3) n ah hlen (λi=>Aa (C3.getD i [])) J (λi _=>J (i+1)) ?_ ?_ ?_ V N.cell ?_).mono ?_;intro i W hW hi;rw[R]at hW;obtain⟨p,_,E,_⟩:=hW;exact⟨E.cell,q W _ S p i hi⟩;intro i W hW hi;rw[R]at hW⊢;obtain⟨p,⟨z,hX⟩,E,g,Q,A⟩:=hW;have hid:C3[i]? =sM (C3.getD i []):=by rw[List.getD_eq_getElem?_getD,List.getElem?_eq_getElem hi];rfl
 refine(p.run (k2:=(F6 (Fe k (C3.take i)) (C3.getD i [])).1) (rv:=.v (vB (F6 (Fe k (C3.take i)) (C3.getD i [])).2)) hI c ae ab (λJ' L' m' am=>ai i _ hid J' L' m' am) (by simp[BB,AO,F])).mono ?_;rintro e W' ⟨rfl,ao,a⟩;refine⟨_,rfl,?_,⟨z,(a _ s0).trans hX⟩,(a _ s1).trans E,(a _ s2).trans g,(a _ s3).trans Q,(a _ s4).trans A⟩;have:Fe k (C3.take (i+1))=(F6 (Fe k (C3.take i)) (C3.getD i [])).1:=by rw[List.take_add_one,hid];rw[Fe];rw[List.foldl_append];rfl
 rwa[this]
 .intro i b W hW hi;have T:∀Z,J (i+1) Z↔_:=λZ=>by rw[R]
  rw[T]at hW;obtain⟨p,⟨z,hX⟩,E,g,Q,A⟩:=hW;have hy:=run_yield (P:=prog) (args:=#[vB b]) A (by rw[B];rfl);rw[B]at hy;have av:(r .ready nO).state=.ready:=by rw[B]
  have aw:(.loop {r .ready nO with state:=.ready,pending:=nO}:Obj)=.loop (r .ready nO):=by rw[B]
  clear R B;refine⟨fn,_,_,_,hy,roundIn_of_wpIn aq ?_⟩
  gi_wp2
  refine⟨_,run_beginRound A av,?_⟩;have au:w.heap.size+1+1+1+1<W.heap.size:=Eg A;obtain⟨Y,hY⟩:∃Y,W.putObj (w.heap.size+1+1+1+1) (.loop {r .ready nO with state:=.busy})=Y:=⟨_,rfl⟩;have ap:Y.heap[w.heap.size+1+1+1+1]? =sM (.loop {r .ready nO with state:=.busy}):=by rw[<-hY];exact World.putObj_heap_same au
  have H:∀x,x≠w.heap.size+1+1+1+1->Y.heap[x]? =W.heap[x]? :=λx l=>by rw[<-hY];exact World.putObj_heap_other l
  have yP:PW I (CM L m) t w (Fe k (C3.take (i+1))) S Y:=by rw[<-hY];exact p.put c s4 _
  have M:Boxed Y w.heap.size 3 (nV z):=(H _ oG).trans hX;have yR:Boxed Y (w.heap.size+1) 27 (.pointer (aP d)):=(H _ oG).trans E;have ay:Boxed Y (w.heap.size+1+1) 38 (.slice f (lN C3) n):=(H _ oG).trans g;have yD:=(H (w.heap.size+1+1+1) oG).trans Q;rw[hY];have Bz:∀(Z:World)(z':Int),PW I (CM L m) t w (Fe k (C3.take (i+1))) S Z->Boxed Z w.heap.size 3 (nV z')->(∀x,x≠w.heap.size->Z.heap[x]? =Y.heap[x]?)->
   ∃v w',(Instr.endRound (w.heap.size+1+1+1+1) nO).run prog Z=.ok v w'/\(Ending.returned v=.returned tV/\J (i+1) w'):=by
   intro Z z' zP zX zo;have zl:=(zo (w.heap.size+1+1+1+1) oG).trans ap;have he:=run_endRound (P:=prog) nO zl;refine⟨_,_,he,rfl,?_⟩;rw[T];have C:∀x (o:Obj),x≠w.heap.size+1+1+1+1->(Z.putObj (w.heap.size+1+1+1+1) o).heap[x]? =Z.heap[x]? :=λx o l=>World.putObj_heap_other l;refine⟨zP.put c s4 _,⟨z',(C _ _ oG).trans zX⟩,(C _ _ oG).trans ((zo _ oG).trans yR),(C _ _ oG).trans ((zo _ oG).trans ay),(C _ _ oG).trans ((zo _ oG).trans yD),?_⟩;refine(World.putObj_heap_same (Eg zl)).trans ?_;exact congrArg sM aw
  have ac:=Lib.hid Bz;clear T Bz;clear p hX E g Q A;have yc:=M.cell;have yf:=M.frozen;cases b
  .gi_wp2
   exact ac.out Y z yP M λ_ _=>rfl
  .gi_wp2
   exact ac.out _ _ (yP.set c s0 _) (M.set _) λx l=>Below.heap_setCell _ _ _ _ l
 rw[R];exact⟨by simpa[Fe]using p5,⟨0,O⟩,D,N,X,Ks⟩
 .rintro e Z ⟨⟨v,rfl⟩,hZ⟩;rw[R]at hZ;obtain⟨p,⟨z,hX⟩,E,g,Q,A⟩:=hZ;have ag:(r .ready nO).pending=nO:=by rw[B]
  have he:=run_endLoop (P:=prog) A (by rw[B];simp);have yP:=p.put c s4 (.loop {r .ready nO with state:=.exhausted});have H:∀x (o:Obj),x≠w.heap.size+1+1+1+1->(Z.putObj (w.heap.size+1+1+1+1) o).heap[x]? =Z.heap[x]? :=λx o l=>World.putObj_heap_other l;have M:Boxed _ w.heap.size 3 (nV z):=(H _ (.loop {r .ready nO with state:=.exhausted}) oG).trans hX;have yD:=(H (w.heap.size+1+1+1) (.loop {r .ready nO with state:=.exhausted}) oG).trans Q;obtain⟨Y,hY⟩:∃Y,Z.putObj (w.heap.size+1+1+1+1) (.loop {r .ready nO with state:=.exhausted})=Y:=⟨_,rfl⟩;rw[hY]at he yP M yD;rw[ag]at he;refine⟨nO,Y,he,?_⟩;have yc:=M.cell;have yf:=M.frozen;have eF:Fe k (C3.take (lN C3))=Fe k C3:=by rw[List.take_length]
  rw[eF]at yP;clear R B p hX E g Q A hY H he ag ai hs q eF;show Exit.inBlock 0 _ _ _ _
  gi_wp2
  refine⟨sP,.inl ⟨_,_,rfl,run_takeDeferred yD,?_⟩⟩;have zP:=yP.put c s3 (.deferred nO);refine⟨.int iK z,?_,?_⟩
  .simp[results,f18,go_sem]
  obtain⟨m2,L2,J2,u,ax,an,_⟩:=zP;refine⟨{r:=.v (nV z),AV:=CL m2 (Fe k C3).im (Fe k C3).AD,J:=J2},id,⟨z,m2,L2,J2,rfl,ax,an⟩,?_,rfl⟩;have aj:=u.AV;rw[Pp _ _ _ _ rfl]at aj;exact⟨u.os,u.tape,u.output,u.size,u.A2,by rwa[Pp _ _ _ _ rfl],(λj b h=>by cases h),(λi j h=>by cases h),u.H2,u.fresh,u.IX⟩
end
end
section
open Go.AX Lz
inductive Ln where
 |mk (l:AT)
 |int (n:Nat)
 |fn (a b:Nat)
 |op (o:Lz.Op)
deriving DecidableEq,Inhabited
def Fc(o:Lz.Op):AA AH:=if Cf o.code=0 then Gf.getD (o.code-1) []else Gf.getD (o.code-1) []++32::Lib.itoa o.a
def Ln.FD:Ln->AA AH
 | .mk l=>[109,97,114,107,32]++Acx l
 | .int n=>[105,110,116,32]++Lib.itoa n
 | .fn a b=>[102,117,110,32]++Lib.itoa a++32::Lib.itoa b
 | .op o=>Fc o
def NJ:AA Ln:=EC.DN.map (λv=>if v.kind==2 then .mk v.l else .int v.n.toNat)++EC.Ax.flatMap λf=>.fn f.args f.Ai::f.code.map .op
def AJ6:AA (AA AH)->AA AH
 |[]=>[]
 |[x]=>x
 |x::l=>x++10::AJ6 l
def I9:AA AH:=AJ6<|NJ.map Ln.FD
def AXc:lN NJ=39:=by decide+kernel
def AZs:lN I9=257:=by decide+kernel
def AZo:I9.count 10=38:=by decide+kernel
def AZu:Lib.splitK [10] 0 38 I9=NJ.map Ln.FD:=by decide+kernel
def AcN(x):AJ x.data.toList=x:=by apply Xn;simp[AJ]
def AZt:Lib.splitB ⟨#[10]⟩ 0 38 (AJ I9)=NJ.map λx=>AJ x.FD:=by
 have h:=Lib.splitB_data ⟨#[10]⟩ 0 38<|AJ I9;rw[show(AJ I9).data.toList=I9 from rfl,show(⟨#[10]⟩:Ce).data.toList=[10]from rfl,AZu]at h;have a:=Dt (List.map AJ) h;rw[Gk,Gk]at a;rw[show(Lib.splitB ⟨#[10]⟩ 0 38<|AJ I9).map (AJ∘ λx=>x.data.toList)=Lib.splitB ⟨#[10]⟩ 0 38 (AJ I9)from by
  conv=>rhs;rw[<-List.map_id<|Lib.splitB ⟨#[10]⟩ 0 38<|AJ I9]
  exact JD λx _=>AcN x]at a
 exact a
def AZp:Lib.countB (AJ I9) ⟨#[10]⟩=38:=by show Lib.count I9 [10]=38;rw[Lib.count_one,<-AZo]
def Qt:AA AF:=NJ.map λx=>vS<|AJ x.FD
def Ab5(I):Fn 184 [.v<|vS<|AJ I9,.v<|vS ⟨#[10]⟩] [] I (ACA I 39 39 Qt 9) nO:=by refine AUP (av:=#[vS<|AJ I9,vS ⟨#[10]⟩]) func184 rfl kR (λ_=>rfl) λw _=>(Ab6 (AJ I9) (by rw[show(AJ I9).size=lN I9 from by simp[AJ,ByteArray.size],AZs];decide) w).mono ?_;rintro e a ⟨rfl,rfl⟩;rw[AZp,AZt];refine⟨by rw[DG,AXc],?_⟩;congr 2
end
section
open Go.AX Go.RowKit Go.Shelf Lz
section
attribute [local go_sem] Oper.semAt_some
theorem AZg(w ev)(c:w.cell? ⟨Wg.g 15,0,nO⟩=sM ev)(b:ev=.nilIface\/∃f d,ev=.iface f d):Calls prog 247 #[vS (AJ [])] w λe g=>e=.returned (.tuple #[.int iK 0,vB fF])/\Below w.heap.size w g:=by
 have HX:=Lib.hid (Any.strconv_ParseInt_10_at64_syntax AKb (AJ []) dC (by decide+kernel) ev w c b)
 go_enter func247,ntmps247
 go_wp2_with (go_at_call 322;refine HX.out.mono ?_;rintro e j ⟨N,rfl,h,i,a⟩)
 go_wp2
 refine bodyPost_ret (v:=.tuple #[.int iK 0,vB fF]) ?_ rfl ⟨rfl,a⟩;simp[results,f247,go_sem]
theorem AZb(I)(c:Pow I):Fn 247 [.v<|vS<|AJ []] [] I (BW (.t [.v<|.int iK 0,.v fV]) I) nO:=by refine MX (av:=#[vS<|AJ []]) (v:=.tuple #[.int iK 0,vB fF]) func247 kR kR (λ_=>rfl) (λ_=>rfl) rfl λw d=> ?_;let⟨ev,e,f,a,b⟩:=c.err;exact AZg w ev (by simp[World.cell?,d _ _ a]) b
theorem AC0(c)(I)(t x y)(b:Bool)(ht:lN t<=1000)(h:EM c t=(x,y,b)):Fn 185 [.v<|vS<|AJ t,.v<|vS ⟨#[c]⟩] [] I (BW (.t [.v<|vS<|AJ x,.v<|vS<|AJ y,.v<|vB b]) I) nO:=by refine MX (av:=#[vS<|AJ t,vS ⟨#[c]⟩]) (v:=.tuple #[vS<|AJ x,vS<|AJ y,vB b]) Tryz.func185 kR kR (λ_=>rfl) (λ_=>rfl) rfl λw hw=> ?_;have:=ASS c t (by rw[maxLen];omega) w;rw[h]at this;exact this
theorem ON:type_of%(AC0 32):=AC0 32
end
end
section
open Go.AX Lz
def ATu(I:AB)(s:Ce)(i:Nat):Hd where
 Cd:=[(0,.v<|vS s),(4,.v<|iV i)]
 Cc:=[]
 J:=I
def AYb:∀c:Fin 48,∀i:Fin 47,1<=c.1->(((Gf.getD i.1 [])==Gf.getD (c.1-1) [])=decide (i.1+1=c.1)):=by decide+kernel
def ALx(I)(d:EB I)(c)(k:1<=c)(q:c<=47):Fn 339 [.v<|vS<|AJ<|Gf.getD (c-1) []] [] I (BW (.v<|nV c) I) nO:=by let⟨arr,e,p,f,b⟩:=d.at_;let⟨inf,g,j⟩:=AJ0;have a:=AYb ⟨c,oG⟩;refine fo func339 λr o w h=>gG<|loop (ι:=Nat) (λi=>i+1<=c) (λi=>c-i) (ATu I<|AJ<|Gf.getD (c-1) []) 1000 [] 0 oG ?_;rintro i m again T;have b:=b (i+1) oG oG 0 _ rfl;have a:=a ⟨i,oG⟩ k;simp only[Nat.add_sub_cancel]at b a;by_cases n:i+1<c;rw[Gp oG]at a;exact gg [(5,hT<|(i:Int)<47),(8,.op I _ _<|Uq (b:=1) (off:=0) (k:=i) Su g j oG),(10,ED I Di rfl (0+i*4+0) (vS<|AJ<|Gf.getD i []) f<|by simpa using b),(12,.eq (Value.bool<|(AJ<|Gf.getD i []).toList==(AJ<|Gf.getD (c-1) []).toList) fV<|by rw[Jc,Jc,a]),(15,sH i)]<|bk again [] (i+1) oG;have l:c=i+1:=oG;rw[G5 oG]at a;exact gg [(5,hT<|(i:Int)<47),(8,.op I _ _<|Uq (b:=1) (off:=0) (k:=i) Su g j oG),(10,ED I Di rfl (0+i*4+0) (vS<|AJ<|Gf.getD i []) f<|by simpa using b),(12,.eq (Value.bool<|(AJ<|Gf.getD i []).toList==(AJ<|Gf.getD (c-1) []).toList) tV<|by rw[Jc,Jc,a]),(14,hW (1+(i:Int)) (c:Int))]<|fi
def AYZ:∀c:Fin 48,lN (Gf.getD (c.1-1) [])<=5:=by decide+kernel
def AJ4(n:Nat)(h:n<=65535):lN (Lib.itoa (n:Int))<=21:=Lib.itoa_length_le n oG oG
def AL0(I)(a:EB I)(g:Pow I)(o)(h:IY o):Fn 340 [Po o] [] I (BW (.v<|vS<|AJ<|Fc o) I) nO:=by
 let⟨⟨d,f⟩,h3,h4⟩:=SR h;have l:lN (Gf.getD (o.code-1) [])<=5:=AYZ ⟨o.code,oG⟩;have i:o.a<=65535:=by by_cases e:Cf o.code=0;have:=h3 e;omega;exact h4 e
 have k:=AJ4 o.a i;refine fo func340 λm j w c=>gG<|call (XE I a o h)<|gG<|call (QN I a o.code d f) ?_;by_cases e:Cf o.code=0;have b:Fc o=Gf.getD (o.code-1) []:=by rw[Fc];rw[Ac e]
 rw[b];exact gg [(16,hE (Cf o.code) 0)]<|fi;have b:AJ (Fc o)=AJ (Gf.getD (o.code-1) [])++⟨#[32]⟩++AJ (Lib.itoa o.a):=by rw[Fc];rw[AY e];rw[show(⟨#[32]⟩:Ce)=AJ [32]from rfl,ANn,ANn,Eb];rfl
 rw[b];refine gg [(16,hN (Cf o.code) 0),(21,T0 I 20 (AJ<|Gf.getD (o.code-1) []) ⟨#[32]⟩<|by rw[XU];show _+1<=_;rw[maxLen];omega)] ?_;refine call (AAx I g o.a oG oG)<|gg [(25,WL I 21 24 (AJ (Gf.getD (o.code-1) [])++⟨#[32]⟩) (AJ<|Lib.itoa o.a)<|by rw[AGK,XU,XU];show _+1+_<=_;rw[maxLen];omega)] ?_;exact fi
def AAL(o:Lz.Op):Bool:=IY o&&Nat.ble (lN<|Fc o) 16&&(EM 32 (Fc o)==if Cf o.code=0 then(Gf.getD (o.code-1) [],[],false)else(Gf.getD (o.code-1) [],Lib.itoa o.a,true))&&(Cf o.code=0||decide (Lib.parseIntB 64 (Lib.itoa o.a)=.ok (o.a:Int)))
def AZN(I)(a:EB I)(f:Pow I)(o)(h:AAL o):Fn 266 [.v<|.string<|AJ<|Fc o] [] I (BW (.t [Po o,.v<|.bool true]) I) none:=by
 simp[AAL,Bool.and_eq_true,Nat.ble_eq,beq_iff_eq,Bool.or_eq_true,decide_eq_true_eq]at h;let⟨⟨⟨c,hlen⟩,hcut⟩,g⟩:=h;let⟨⟨i,j⟩,h3,h4⟩:=SR c;have n:(AJ<|Fc o).size=(Fc o).length:=XU _;refine fo Tryz.func266 λr p w k=> ?_;by_cases e:Cf o.code=0;rw[if_pos e]at hcut;let⟨d,q⟩:=o;obtain rfl:q=0:=h3 e;exact gg [(12,hF<|((AJ<|Fc ⟨d,0⟩).size:Int)>16)]<|call (ON I _ _ _ _ oG hcut)<|gG<|call (ALx I a d i j)<|gG<|call (AZb I f)<|gG<|call (XE I a ⟨d,0⟩ c)<|gG<|call (AL0 I a f ⟨d,0⟩ c)<|gg [(46,.eq _ _<|AEn<|Fc ⟨d,0⟩)]<|fi;rw[if_neg e]at hcut;have m:=AJ4 o.a<|h4 e;have b:(Lib.itoa (o.a:Int)).length<=20:=by
  have:(Fc o).length=(Gf.getD (o.code-1) []).length+((Lib.itoa o.a).length+1):=by rw[Fc];rw[if_neg e];simp
  omega
 exact gg [(12,hF<|((AJ<|Fc o).size:Int)>16)]<|call (ON I _ _ _ _ oG hcut)<|gG<|call (ALx I a o.code i j)<|gG<|call (Q4 I f _ _ (g.resolve_left<|by simpa using e) rfl b oG oG)<|gg [(31,hT<|(o.a:Int)≥0),(35,hT<|(o.a:Int)<=65535)]<|call (XE I a o c)<|gG<|call (AL0 I a f o c)<|gg [(46,.eq _ _<|AEn<|Fc o)]<|fi
def NR(a:Bi)(b:SV):AK:=.cells [a.sv,b] 322
def AB5(I:AB)(b:Bi)(c:AA AW):zP:=λ_ h=>∃(a:Bi)(J:AB),h= {r:=.v tV,AV:=[(1,NR a<|.v zS)],J:=J}/\Cb I (Bb b.a).toList J (Bb a.a).toList/\C8 J 5 51 (c.flatMap BG) a
def Aa2{I d v l n b c a}(m:C8 I 5 51 (d.flatMap BG) ⟨l,lN d,n⟩)(i:lN (d.flatMap BG++BG v)+lN a=c*5)(j:lN d+1<=c)(k:c<=maxLen)(f:I b=nO)(h:Bb l=sM b\/I.free b):
 Cb I (Bb l).toList (I.plus b<|.cells (d.flatMap BG++BG v++a).toArray 51 (0,0)) [b]/\C8 (I.plus b<|.cells (d.flatMap BG++BG v++a).toArray 51 (0,0)) 5 51 ((d++[v]).flatMap BG) ⟨sM ⟨b,0,nO⟩,lN d+1,c⟩:=by
 refine⟨(Oj (P1:=[]) (P2:=[]) (o:=.cells (d.flatMap BG++BG v++a).toArray 51 (0,0)) f h).cast sP sP,?_⟩;have e:(d++[v]).flatMap BG=d.flatMap BG++BG v:=by rw[Mu];simp
 rw[e];refine⟨?_,λx g=> ?_,.inr ⟨b,a,rfl,Li f,i,j,k⟩⟩;rw[CK,HB (n:=5) λ_=>rfl];show _+5=_;simp only;omega;rcases Bc.1 g with g|g;exact m.one x g;exact U2 v x g
def AId(I g d)(m:C8 I 5 51 (d.flatMap BG) g)(t:lN d<=1000)(v):Fn 333 [.p 1 0,Do v] [(1,NR g<|.v zS)] I (AB5 I g<|d++[v]) nO:=by let⟨o,_⟩:=m.Mn (V:=BG) (λ_=>rfl) dC;let⟨q,u,r⟩:=g;simp only at o;subst o;refine fo func333 λx p w n=>gG<|act (need:=[(228,.cells ((BG v).map .v) 51)]) (JI (I:=I) Be (s:=⟨q,lN d,r⟩) (x:=.s 228 0 1 1) (m:=1) (CQ:=d.flatMap BG) (news:=BG v) LU kR m (Ez (e:=51) sP rfl<|U2 v) dC<|by show lN d+1<=16777216;omega) JH ?_;rintro s ⟨b,c,f,rfl,j,k,l,h,i⟩;let⟨e,a⟩:=Aa2 m j k l h i;generalize I.plus b (.cells (d.flatMap BG++BG v++f).toArray 51 (0,0))=J at e a⊢;exact gG<|dn [] ⟨⟨sM ⟨b,0,nO⟩,lN d+1,c⟩,J,rfl,e,a⟩
abbrev TM(x f:AA AH):Prop:=(x,f)∈[([84],[]),([97],[(1:AH)])]
def AIZ(I)(a:Iw I)(x f)(h:TM x f):Fn 367 [.v<|.string<|AJ x] [] I (BW (.t [.v<|.string<|AJ f,.v tV]) I) none:=by refine MX (av:=#[.string<|AJ x]) (v:=.tuple #[.string<|AJ f,.bool true]) func367 kR kR (λ_=>rfl) (λ_=>rfl) rfl λw b=> ?_;simp[TM,mS,QC]at h;obtain⟨rfl,rfl⟩|⟨rfl,rfl⟩:=h;exact AR5 w;exact AR2 w<|a.AXT b
def AWx(I)(a:Iw I)(t x y f g)(d:lN t<=1000)(c:EM 47 t=(x,y,true))(e:TM x f)(h:TM y g):Fn 334 [.v<|.string<|AJ t] [] I (BW (.t [DW (f,g),.v tV]) I) none:=fo func334 λj i w b=>gG<|call (AC0 47 I t x y true d c)<|gG<|call (AIZ I a x f e)<|gG<|call (AIZ I a y g h)<|gG<|fi
def Aac(I)(i:Pow I)(b c)(m:C8 I 5 51 (c.flatMap BG) b)(k:lN c<=1000)(n:Int)(g: -9223372036854775808<=n)(h:n<=9223372036854775807)(l:Lib.parseIntB 64 (Lib.itoa n)=.ok n)(d:lN (Lib.itoa n)<=20):
 Fn 261 [.p 1 0,.v<|vS<|AJ<|Lib.itoa n] [(1,NR b<|.v zS)] I (AB5 I b<|c++[BH n]) nO:=by
 refine fo func261 λq o w f=>gG<|call (Q4 I i _ n l rfl d g h)<|gG<|A0 (AId I b c m k<|BH n) [] λy j=> ?_;obtain⟨p,J,rfl,e,a⟩:=j;exact gG<|dn [] ⟨p,J,rfl,e,a⟩
def Aab(I)(f:Iw I)(b c)(j:C8 I 5 51 (c.flatMap BG) b)(h:lN c<=1000)(l t x y)(k:lN t<=1000)(i:EM 47 t=(x,y,true))(m:TM x l.1)(n:TM y l.2):
 Fn 262 [.p 1 0,.v<|.string<|AJ t] [(1,NR b<|.v zS)] I (AB5 I b<|c++[D1 l]) none:=by
 refine fo func262 λq o w e=>gG<|call (AWx I f t x y l.1 l.2 k i m n)<|gG<|A0 (AId I b c j h<|D1 l) [] λy g=> ?_;obtain⟨p,J,rfl,d,a⟩:=g;exact gG<|dn [] ⟨p,J,rfl,d,a⟩
def Ge(a b:Nat)(s:Bi):AA AF:=[.int iK a,.int iK b,.slice s.a s.n s.c]
def ZB(a b s):∀x∈Ge a b s,x.oneCell':=by intro x c;simp[Ge]at c;rcases c with rfl|rfl|rfl<;>rfl
def APO(I:AB)(f:Bi)(a b:Nat):zP:=λe h=>∃c d,1<=c/\c<=maxLen/\lN d=(c-1)*3/\h= {r:=.v tV,AV:=[(1,NR f<|.s e 0 1 c)],nb:=[.As (Ge a b ⟨nO,0,0⟩++d) 195],J:=I}
structure ABw(t:AA AH)(a b:Nat):Prop where
 len:lN t<=1000
 cut:EM 32 t=(Lib.itoa a,Lib.itoa b,true)
 ha:a<=255
 hb:b<=255
 pa:Lib.parseIntB 64 (Lib.itoa a)=.ok (a:Int)
 pb:Lib.parseIntB 64 (Lib.itoa b)=.ok (b:Int)
 la:lN (Lib.itoa a)<=20
 lb:lN (Lib.itoa b)<=20
def AaZ(I)(f:Pow I)(e t a b)(h:ABw t a b):Fn 263 [.p 1 0,.v<|vS<|AJ t] [(1,NR e<|.v zS)] I (APO I e a b) nO:=by have n:=h.ha;have o:=h.hb;refine fo func263 λp i w g=>gG<|call (ON I _ _ _ _ h.len h.cut)<|gG<|call (Q4 I f _ _ h.pa rfl h.la oG oG)<|gG<|call (Q4 I f _ _ h.pb rfl h.lb oG oG)<|gg [(36,hF<|(a:Int)<0),(40,hF<|(a:Int)>255),(44,hF<|(b:Int)<0),(48,hF<|(b:Int)>255)]<|act (need:=[(540,.cells ((Ge a b ⟨nO,0,0⟩).map .v) 195)]) (MM (I:=I) Be (n:=0) (cap:=0) (m:=1) (a:=nO) (l:=.v zS) (x:=.s 540 0 1 1) (CQ:=[]) (news:=Ge a b ⟨nO,0,0⟩) ACH kR rfl Ol (Ez (e:=195) (A9.2 rfl) rfl<|ZB _ _ _) (Ag _) oG (λ_=>rfl) oG) M4 ?_;rintro m ⟨d,c,j,k,l,rfl⟩;exact gG<|dn [548] ⟨d,c,j,k,l,rfl⟩
def APP(I:AB)(g:Bi)(n:Nat)(e:AA AF)(a b:Nat):zP:=λf h=>∃c d,n+1<=c/\c<=maxLen/\lN d=(c-(n+1))*3/\h= {r:=.v tV,AV:=[(1,NR g<|.s f 0 (n+1) c),(2,.gone)],nb:=[.As (e++Ge a b ⟨nO,0,0⟩++d) 195],J:=I}
def Aaa(I)(l:Pow I)(k t a b)(h:ABw t a b)(n e c d)(o:n<=1000/\n<=e/\e<=maxLen)(i:lN c=n*3)(j:∀v∈c,v.oneCell')(p:lN d=(e-n)*3):
 Fn 263 [.p 1 0,.v<|vS<|AJ t] [(1,NR k<|.s 2 0 n e),(2,.As (c++d) 195)] I (APP I k n c a b) nO:=by
 have y:=h.ha;have z:=h.hb;refine fo func263 λA q w m=>gG<|call (ON I _ _ _ _ h.len h.cut)<|gG<|call (Q4 I l _ _ h.pa rfl h.la oG oG)<|gG<|call (Q4 I l _ _ h.pb rfl h.lb oG oG)<|gg [(36,hF<|(a:Int)<0),(40,hF<|(a:Int)>255),(44,hF<|(b:Int)<0),(48,hF<|(b:Int)>255)]<|act (need:=[(2,.As (c++d) 195),(540,.cells ((Ge a b ⟨nO,0,0⟩).map .v) 195)]) (Kk (I:=I) Be (n:=n) (m:=1) (cap:=e) (k:=2) (vs:=c++d) (CQ:=c) (news:=Ge a b ⟨nO,0,0⟩) (x:=.s 540 0 1 1) ACH kR sP ?_ ?_ j (Ez (e:=195) sP rfl<|ZB _ _ _) o.2.1 o.2.2 oG) (QP rfl) ?_;rw[CK,i,p,<-Gm];congr 1;omega;rw[O5];rw[i];rintro x ⟨g,f,r,s,u,rfl⟩;exact gG<|dn [548] ⟨g,f,r,s,u,rfl⟩
def APp(I:AB)(g:Bi)(n e:Nat)(d c:AA AF)(a b:Nat)(Aj:AA Lz.Op)(s:Bi):zP:=λ_ h=>∃(f:Bi)(J:AB),h= {r:=.v tV,AV:=[(1,NR g<|.s 2 0 n e),(2,.As (d++Ge a b f++c) 195)],J:=J}/\Cb I (Bb s.a).toList J (Bb f.a).toList/\C8 J 2 211 (Aj.flatMap Cs) f
def AUj{c AE m a b s}(d:lN c=m*3):(c++Ge a b s++AE)[0+m*3+2]? =sM (.slice s.a s.n s.c):=by rw[Eb,GA oG,d,show 0+m*3+2-m*3=2 by omega];rfl
def AUk{c AE m a b s s'}(d:lN c=m*3):BX (c++Ge a b s++AE) (0+m*3+2) [.slice s'.a s'.n s'.c]=c++Ge a b s'++AE:=by rw[Eb,show 0+m*3+2=lN c+2 by omega,ANh,Ut<|by simp[Ge],Eb];rfl
def Abt{I Aj o k m b c a}(l:C8 I 2 211 (Aj.flatMap Cs) ⟨k,lN Aj,m⟩)(h:lN (Aj.flatMap Cs++Cs o)+lN a=c*2)(i:lN Aj+1<=c)(j:c<=maxLen)(d:I b=nO)(g:Bb k=sM b\/I.free b):
 Cb I (Bb k).toList (I.plus b<|.cells (Aj.flatMap Cs++Cs o++a).toArray 211 (0,0)) [b]/\C8 (I.plus b<|.cells (Aj.flatMap Cs++Cs o++a).toArray 211 (0,0)) 2 211 ((Aj++[o]).flatMap Cs) ⟨sM ⟨b,0,nO⟩,lN Aj+1,c⟩:=by
 refine⟨(Oj (P1:=[]) (P2:=[]) d g).cast sP sP,?_⟩;have e:(Aj++[o]).flatMap Cs=Aj.flatMap Cs++Cs o:=by rw[Mu];simp
 rw[e];refine⟨?_,λx f=> ?_,.inr ⟨b,a,rfl,Li d,h,i,j⟩⟩;rw[CK,HB (n:=2) λ_=>rfl];show _+2=_;simp only;omega;rcases Bc.1 f with f|f;exact l.one x f;exact Wy o x f
def AMa(I)(n:EB I)(B:Pow I)(y m f e d a b s Aj)(x:C8 I 2 211 (Aj.flatMap Cs) s)(L:lN Aj<=100000)(D:m+1<=f/\f<=maxLen)(h:lN e=m*3)(o)(E:AAL o):
 Fn 186 [.p 1 0,.v<|vS<|AJ<|Fc o] [(1,NR y<|.s 2 0 (m+1) f),(2,.As (e++Ge a b s++d) 195)] I (APp I y (m+1) f e d a b (Aj++[o]) s) nO:=by
 let⟨A,_⟩:=x.Mn (V:=Cs) (λ_=>rfl) dC;rw[maxLen]at D;have C:=AUj (AE:=d) (a:=a) (b:=b) (s:=s) h;let⟨j,M,k⟩:=s;simp only at A;subst A;refine fo func186 λN H w z=>gG<|call (AZN I n B o E)<|gg [(22,hN ((m+1:Nat):Int) 0),(35,hW (((m+1:Nat):Int)-1) ((m:Nat):Int)),
  (36,.BZ (.indexAddr 30 (.tmp 28)<|.tmp 35) [(28,.s 2 0 (m+1) f),(35,.v<|.int iK ((m:Nat):Int))] [] I (.p 2<|0+m*3)<|I5 Be (L:=Bt) (t:=30) (a:=28) (b:=35) (k:=2) rfl rfl oG),
  (41,.BZ (.load 188<|.tmp 40) [(40,.p 2<|0+m*3+2)] [(2,.As (e++Ge a b ⟨j,lN Aj,k⟩++d) 195)] I (.v<|.slice j (lN Aj) k)<|Nu Be (ty:=⟨1,_,_⟩) (vs:=e++Ge a b ⟨j,lN Aj,k⟩++d) (e:=195) rfl rfl C)] ?_
 refine act (need:=[(420,.cells ((Cs o).map .v) 211)]) (JI (I:=I) Be (s:=⟨j,lN Aj,k⟩) (x:=.s 420 0 1 1) (m:=1) (CQ:=Aj.flatMap Cs) (news:=Cs o) AHS kR x (Ez (e:=211) sP rfl<|Wy o) dC<|by show lN Aj+1<=16777216;omega) JH ?_;rintro K ⟨l,c,G,rfl,r,t,u,p,q⟩;let⟨i,g⟩:=Abt x r t u p q;generalize I.plus l (.cells (Aj.flatMap Cs++Cs o++G).toArray 211 (0,0))=J at i g⊢;refine gG<|B0 (k:=2) (off:=0+m*3+2) (cs:=[.slice (aP l) (lN Aj+1) c]) (vs:=e++Ge a b ⟨j,lN Aj,k⟩++d) (e:=195) (t:=188) (ad:=.tmp 46) (x:=.tmp 44) (ty:=⟨1,_,_⟩) (I':=J) kR kR kR rfl rfl (by simp[Ge];omega) (by intro v F;rw[A9.1 F];rfl) kR ?_;rw[AUk (s':=⟨sM ⟨l,0,nO⟩,lN Aj+1,c⟩) h];exact gG<|dn [] ⟨⟨sM ⟨l,0,nO⟩,lN Aj+1,c⟩,J,rfl,i,g⟩
def O1:AK:=.Ey [vS ⟨#[105,110,116]⟩,vS ⟨#[109,97,114,107]⟩,vS ⟨#[102,117,110]⟩] [.v<|.func (.func 261) #[] #[],.v<|.func (.func 262) #[] #[],.v<|.func (.func 263) #[] #[]]
def AeK(I):Fn 183 [] [] I (AGq I O1) nO:=fo func183 λc b w a=>gG<|dn [108] rfl
structure Live(I J:AB)(z:Nat)(e:BN)(As:AA AF)(s:Bi):Prop where
 st:Cb I [] J (Bb s.a).toList
 row:C8 J z e As s
def Live.next{I J K z e b a s s'}(h:Live I J z e b s)(c:Cb J (Bb s.a).toList K (Bb s'.a).toList)(d:C8 K z e a s'):Live I K z e a s':=⟨h.st.trans c,d⟩
theorem Live.nil(I z e):Live I I z e [] ⟨nO,0,0⟩:=⟨.refl I [],Sg⟩
def Live.never{k:Type}{I J:AB}{R:k->AA AF->Prop}{z:Nat}{e:BN}{xs:AA k}{As:AA AF}{s:Bi}(h:Live I J z e As s)(hlen:s.n=lN xs)(j:0<lN xs)(n:Rows R xs As):
 ∃b o,J.B8 b o/\I.Ak b=nO/\I.le (J.never b o)/\J.Da (J.never b o)/\Av (J.never b o) R z xs s.a s.c As:=by
 obtain⟨b,o,i,d⟩:=Oq h.row oG;have c:=h.st;rw[i]at c;obtain⟨g,l,r,m⟩:=c.never (b:=b) (o:=o) (by simp[Bb]) d;refine⟨b,o,d,l,⟨g.le,λx y p=>g.A2 x y p sP⟩,m,h.row.Ou hlen n λb' q a f=> ?_⟩;rw[i]at a;obtain rfl:b=b':=by simpa using a
 have e:q=o:=by have:=f.Ak;rw[d.Ak]at this;exact(FX this).symm
 rw[e];exact Nw _ _ _
structure AS where
 i:Nat
 J:AB
 cs:Bi
 m:Nat
 cap:Nat
 CQ:AA AF
 s:Bi
 AE:AA AF
def AHX(x:AS):AA (Nat×SV):=[(2,.p 100 0),(5,.p 124 0),(6,.m 132),(17,.s 156 0 39 39),(18,.v<|.int iK 39),(19,.v<|iV x.i)]
def AQR(x:AS):Hd:=match x.m with
 |0=>{Cd:=AHX x,Cc:=[(100,.cells [.v zS,.v zS] 32),(124,NR x.cs<|.v zS),(132,O1),(156,.As Qt 9)],J:=x.J}
 |m+1=>{Cd:=AHX x,Cc:=[(100,.cells [.v zS,.v zS] 32),(124,NR x.cs<|.s 7 0 (m+1) x.cap),(132,O1),(156,.As Qt 9),(7,.As (x.CQ++Ge 1 1 x.s++x.AE) 195)],J:=x.J}
def T1(I:AB)(i:Nat)(t:AA AH)(h:Qt[0+i*1]? =sM (vS<|AJ t)):Hint:=.BZ (.load 9<|.tmp 22) [(22,.p 156<|0+i*1)] [(156,.As Qt 9)] I (.v<|vS<|AJ t)<|Nu Be (L:=Bt) (t:=9) (a:=22) (k:=156) (off:=0+i*1) (ty:=⟨1,_,_⟩) (vs:=Qt) (e:=9) rfl rfl h
def T3(I:AB)(i:Nat)(h:i<39):Hint:=.BZ (.indexAddr 38 (.tmp 17)<|.tmp 19) [(17,.s 156 0 39 39),(19,.v<|iV i)] [] I (.p 156<|0+i*1)<|I5 Be (L:=Bt) (t:=38) (a:=17) (b:=19) (k:=156) (off:=0) (n:=39) (c:=39) (i:=i) (e:=9) (ty:=⟨1,_,_⟩) rfl rfl h
def NH(i){x}(h:NJ[i]? =sM x):Qt[0+i*1]? =sM (vS<|AJ x.FD):=by rw[Qt];rw[show 0+i*1=i by omega,GB,h];rfl
def OL:AA Lz.Op:=(EC.Ax.getD 0 Al).code
def OM:AA Lz.Op:=(EC.Ax.getD 1 Al).code
def AXX:∀j:Fin 20,NJ[6+j.1]? =(OL[j.1]?).map .op:=by decide+kernel
def AXY:∀j:Fin 12,NJ[27+j.1]? =(OM[j.1]?).map .op:=by decide+kernel
def ALz:∀o∈OL++OM,AAL o:=by decide+kernel
structure AsF(I:AB)(x:AS)(Aj:AA Lz.Op):Prop where
 cap:x.m<=x.cap/\x.cap<=maxLen
 AE:lN x.AE=(x.cap-x.m)*3
 cs:x.cs.n=5/\Av x.J F9 5 EC.DN x.cs.a x.cs.c (EC.DN.flatMap BG)
 row:Live I x.J 2 211 (Aj.flatMap Cs) x.s
def AsP(I:AB)(x:AS):Prop:=
 (x.m=0/\x.i<=5/\Live I x.J 5 51 ((EC.DN.take x.i).flatMap BG) x.cs)\/
 (x.m=0+1/\6<=x.i/\x.i<=26/\x.CQ=[]/\AsF I x (OL.take<|x.i-6))\/
 (x.m=1+1/\27<=x.i/\x.i<=39/\Rows (KU x.J) [EC.Ax.getD 0 Al] x.CQ/\AsF I x (OM.take<|x.i-27))
def APK(I:AB):zP:=λ_ h=>∃(a:Dw)(J:AB),h= {r:=.t [.g<|Fa EC a,.v<|.int iK 0,.v<|.int iK 0],J:=J}/\I.le J/\FJ J EC a
def AT5(b l):(if(0:Int)<=0 then(AJ (b::l))[(0:Int).toNat]? else nO)=sM b:=by
 rw[Ac dC];show(AJ (b::l))[0]? =sM b;have h:0<(AJ (b::l)).size:=by rw[XU];simp
 rw[getElem?_pos (AJ (b::l)) 0 h];rfl
def Un{I}(b l):∀w,EJ w I->∃a,(Instr.index 9 (vS<|AJ (b::l))<|.int iK 0).run prog w=.ok (AO id<|.v<|.int .u8 (b.toNat:Int)) a/\Bl w a:=λw _=>
 ⟨w,by
   have d:prog.underlying 9=sM .string:=Di;have c:=AT5 b l;rw[Instr.index];simp only[Sem.run_bind,asIntOf,Sem.run_pure,Result.andThen_ok,run_underlying d,c,AO],Bl.refl w⟩
def Xi:Ae Ar:=#[{key:=vS ⟨#[105,110,116]⟩,val:=.func (.func 261) #[] #[],born:=0},{key:=vS ⟨#[109,97,114,107]⟩,val:=.func (.func 262) #[] #[],born:=1},{key:=vS ⟨#[102,117,110]⟩,val:=.func (.func 263) #[] #[],born:=2}]
def AOs(a):O1.AO a=sM (.map Xi 3):=rfl
def AOM:prog.underlying 323=sM (.map 9 328):=kR
def AX0{I}(c j g)(r:Instr.findNow .string (.string c) Xi.toList 0=some (some (j,.func (.func g) #[] #[]))):
 ∀b i (o:Bw),o.op=.lookup 323 (.tmp 38) (.tmp 39) true->(∀p∈[(38,SV.m 132),(39,SV.v<|.string c)],i p.1=p.2)->LS prog o i b [(132,O1)] I (.t [.v<|.func (.func g) #[] #[],.v tV]) none:=by
 intro b i o h a;have n:=Ds a (s:=38) (x:=.m 132) sP;have q:=Ds a (s:=39) (x:=.v<|.string c) sP;intro s t w m hN _ _ _;refine⟨w,?_,Bl.refl w⟩;have k:=m (.tmp 38) xO;have l:=m (.tmp 39) xO;simp[ev,n,q,AO]at k l;have d:=hN (132,O1) sP _<|AOs s;have f:=MapKept.run_findKey (P:=prog) (w:=w) (Di) r;have e:=MapKept.run_checkKey (P:=prog) (w:=w) (Di)<|show MapKept.IsKey .string (.string c)from trivial;simp[execOp,h,k,l,Instr.lookup,run_underlying AOM,MapKept.run_getObj_map d,e,f,Result.andThen,AO,BB]
def AX1{I}(c)(n:Instr.findNow .string (.string c) Xi.toList 0=some none):
 ∀b h (o:Bw),o.op=.lookup 323 (.tmp 38) (.tmp 39) true->(∀p∈[(38,SV.m 132),(39,SV.v<|.string c)],h p.1=p.2)->LS prog o h b [(132,O1)] I (.t [.v .nilFunc,.v fV]) none:=by
 intro b h o g a;have l:=Ds a (s:=38) (x:=.m 132) sP;have m:=Ds a (s:=39) (x:=.v<|.string c) sP;intro r s w k hN _ _ _;refine⟨w,?_,Bl.refl w⟩;have i:=k (.tmp 38) xO;have j:=k (.tmp 39) xO;simp[ev,l,m,AO]at i j;have d:=hN (132,O1) sP _<|AOs r;have f:=MapKept.run_findKey (P:=prog) (w:=w) (Di) n;have e:=MapKept.run_checkKey (P:=prog) (w:=w) (Di)<|show MapKept.IsKey .string (.string c)from trivial;have q:∀w,(zeroValue 328).run prog w=.ok .nilFunc w:=zeroValue328;simp[execOp,g,i,j,Instr.lookup,run_underlying AOM,MapKept.run_getObj_map d,e,f,q,Result.andThen,AO,BB]
def ZL(I:AB)(a:Ce)(j g:Nat)(b:Instr.findNow .string (.string a) Xi.toList 0=some (some (j,.func (.func g) #[] #[]))):Hint:=.BZ (.lookup 323 (.tmp 38) (.tmp 39) true) [(38,.m 132),(39,.v<|.string a)] [(132,O1)] I (.t [.v<|.func (.func g) #[] #[],.v tV])<|AX0 a j g b
def AJk(I:AB)(a:Ce)(b:Instr.findNow .string (.string a) Xi.toList 0=some none):Hint:=.BZ (.lookup 323 (.tmp 38) (.tmp 39) true) [(38,.m 132),(39,.v<|.string a)] [(132,O1)] I (.t [.v .nilFunc,.v fV])<|AX1 a b
def ALE:AA Lz.Op:=[⟨2,0⟩,⟨1,2⟩,⟨1,3⟩,⟨1,1⟩,⟨40,1⟩,⟨4,0⟩,⟨3,1⟩,⟨2,1⟩,⟨16,12⟩,⟨1,4⟩,⟨18,0⟩,⟨1,0⟩,⟨41,0⟩,⟨8,0⟩,⟨15,8⟩]
def mem1:AA Lz.Op:=[⟨2,0⟩,⟨30,0⟩,⟨3,1⟩,⟨2,1⟩,⟨16,7⟩,⟨18,0⟩,⟨1,4⟩,⟨8,0⟩,⟨15,3⟩]
def Nt(i:Nat):AT:=if i=0 then([],[])else([1],[])
def Pd(i:Nat):Nat:=if i=2 then 2 else if i=3 then 9 else 1
def AVk:∀o∈OL,o∈ALE:=by decide+kernel
def AVl:∀o∈OM,o∈mem1:=by decide+kernel
def Iw.Bf{I J}(hle:I.Da J)(h:Iw I):Iw J:=by let⟨arr,e,a,b,c⟩:=h.at_;exact⟨arr,e,a,hle _ _ b,c⟩
def AAT:Ra EC where
 cs:=dC
 fs:=dC
 ck:=by decide+kernel
 fk f hf:=by
  have ha:∀f∈EC.Ax,f.args<=16/\f.args+f.Ai<=16/\0<lN f.code/\lN f.code<=256/\∀o∈f.code,IY o:=by decide+kernel
  let⟨h1,a,b,c,d⟩:=ha f hf;exact⟨h1,a,⟨b,c⟩,d⟩
def AJQ:ABw (EM 32 (Ln.fn 1 1).FD).2.1 1 1:=⟨by decide+kernel,by decide+kernel,dC,dC,by decide+kernel,by decide+kernel,by decide+kernel,by decide+kernel⟩
def AM8{I}:∀ {d:AA Lz.Ev} {l:AA AF},Rows (KU I) d l->∀v∈l,v.oneCell'
 |[],_,h,v,c=>by cases h;cases c
 |f::d,l,⟨a,b,e,⟨_,_,_,q,_⟩,h⟩,v,c=>by rw[e]at c;rcases Bc.1 c with c|c;rw[q]at c;simp at c;rcases c with rfl|rfl|rfl<;>rfl;exact AM8 h v c
def ANz{l:AA Lz.Op}{j:Nat}{o:Lz.Op}(h:l[j]? =sM o):l.take (j+1)=l.take j++[o]:=by rw[My,h];rfl
def AQd(I)(U:EB I)(Y:Pow I)(hL:Iw I):Fn 133 [.v<|vS<|AJ I9] [] I (APK I) nO:=by
 refine fo func133 λρ af w ab=>gG<|A0 (AeK I) [] λh hh=> ?_;subst hh;refine gG<|A0 (Ab5 I) [] λh hh=> ?_;subst hh;refine gG<|loop (ι:=AS) (AsP I) (λx=>39-x.i) AQR 1000 [] ⟨0,I,⟨nO,0,0⟩,0,0,[],⟨nO,0,0⟩,[]⟩ (.inl ⟨rfl,Bm _,Live.nil I 5 51⟩) ?_;rintro⟨i,J,D,m,t,f,s,l⟩ hp again T;rcases hp with⟨hm,hi,d⟩|⟨hm,hi,a,u,hf⟩|⟨hm,hi,a,u,hf⟩;obtain rfl:m=0:=hm;simp only at hi d;have hle:I.Da J:=d.st.le;obtain a|a|rfl:(i=0\/i=1)\/(i=2\/i=3\/i=4)\/i=5:=oG;refine gg [(20,hT<|((i:Nat):Int)<39),(22,T3 J i oG),(23,T1 J i _<|NH i (show NJ[i]? =sM (Ln.mk<|Nt i) by obtain rfl|rfl:=a<;>decide+kernel)),(28,.op J _ _<|Un ((Ln.mk<|Nt i).FD.headD 0) (Ln.mk<|Nt i).FD.tail)] ?_ (by obtain rfl|rfl:=a<;>exact kR);refine call (ON J (Ln.mk<|Nt i).FD (EM 32 (Ln.mk<|Nt i).FD).1 (EM 32 (Ln.mk<|Nt i).FD).2.1 (EM 32 (Ln.mk<|Nt i).FD).2.2 (by obtain rfl|rfl:=a<;>decide+kernel) rfl) (hobs:=by obtain rfl|rfl:=a<;>exact kR) ?_;refine gg [(40,ZL J (AJ (EM 32 (Ln.mk<|Nt i).FD).1) 1 262 (by obtain rfl|rfl:=a<;>exact kR))] ?_ (by obtain rfl|rfl:=a<;>exact kR);refine A0 (Aab J (Iw.Bf hle hL) D (EC.DN.take i) d.row (by obtain rfl|rfl:=a<;>decide) (Nt i) (EM 32 (Ln.mk<|Nt i).FD).2.1 (AFf (Nt i).1) [84] (by obtain rfl|rfl:=a<;>decide+kernel) (by obtain rfl|rfl:=a<;>decide+kernel) (by obtain rfl|rfl:=a<;>decide+kernel) (by obtain rfl|rfl:=a<;>decide+kernel)) [(1,124)] (hobs:=by obtain rfl|rfl:=a<;>exact kR) ?_;rintro _ ⟨S,N,rfl,q,p⟩
 refine gg [(57,hW (((i:Nat):Int)+1) ((i+1:Nat):Int))] ?_ (by obtain rfl|rfl:=a<;>exact kR);exact bk again [] ⟨i+1,N,S,0,t,f,s,l⟩ (.inl ⟨rfl,by show i+1<=5;omega,by obtain rfl|rfl:=a<;>exact d.next q p⟩) (hh:=by obtain rfl|rfl:=a<;>exact⟨kR,kR,kR⟩);refine gg [(20,hT<|((i:Nat):Int)<39),(22,T3 J i oG),(23,T1 J i _<|NH i (show NJ[i]? =sM (Ln.int<|Pd i) by obtain rfl|rfl|rfl:=a<;>decide+kernel)),(28,.op J _ _<|Un ((Ln.int<|Pd i).FD.headD 0) (Ln.int<|Pd i).FD.tail)] ?_ (by obtain rfl|rfl|rfl:=a<;>exact kR);refine call (ON J (Ln.int<|Pd i).FD (EM 32 (Ln.int<|Pd i).FD).1 (EM 32 (Ln.int<|Pd i).FD).2.1 (EM 32 (Ln.int<|Pd i).FD).2.2 (by obtain rfl|rfl|rfl:=a<;>decide+kernel) rfl) (hobs:=by obtain rfl|rfl|rfl:=a<;>exact kR) ?_;refine gg [(40,ZL J (AJ (EM 32 (Ln.int<|Pd i).FD).1) 0 261 (by obtain rfl|rfl|rfl:=a<;>exact kR))] ?_ (by obtain rfl|rfl|rfl:=a<;>exact kR);refine A0 (Aac J (Pow.Bf hle Y) D (EC.DN.take i) d.row (by obtain rfl|rfl|rfl:=a<;>decide) (Pd i) (by obtain rfl|rfl|rfl:=a<;>decide) (by obtain rfl|rfl|rfl:=a<;>decide) (by obtain rfl|rfl|rfl:=a<;>decide+kernel) (by obtain rfl|rfl|rfl:=a<;>decide+kernel)) [(1,124)] (hobs:=by obtain rfl|rfl|rfl:=a<;>exact kR) ?_;rintro _ ⟨S,N,rfl,q,p⟩;refine gg [(57,hW (((i:Nat):Int)+1) ((i+1:Nat):Int))] ?_ (by obtain rfl|rfl|rfl:=a<;>exact kR);exact bk again [] ⟨i+1,N,S,0,t,f,s,l⟩ (.inl ⟨rfl,by show i+1<=5;omega,by obtain rfl|rfl|rfl:=a<;>exact d.next q p⟩) (hh:=by obtain rfl|rfl|rfl:=a<;>exact⟨kR,kR,kR⟩);have F:D.n=5:=by
  have:=d.row.n;have e:lN ((EC.DN.take 5).flatMap BG)=25:=by decide+kernel
  omega
 let⟨b,o,h1,h2,M,Q,R⟩:=d.never (xs:=EC.DN) (R:=F9) F dC<|Rows.flat.2 rfl;refine Le b J o kR h1 h2 ?_;generalize J.never b o=y at M Q R⊢;refine gg [(20,hT<|((5:Nat):Int)<39),(22,T3 y 5 oG),(23,T1 y 5 _<|NH 5<|show NJ[5]? =sM (Ln.fn 1 1) by decide+kernel),(28,.op y _ _<|Un ((Ln.fn 1 1).FD.headD 0) (Ln.fn 1 1).FD.tail)]<|call (ON y (Ln.fn 1 1).FD (EM 32 (Ln.fn 1 1).FD).1 (EM 32 (Ln.fn 1 1).FD).2.1 (EM 32 (Ln.fn 1 1).FD).2.2 (by decide+kernel) rfl)<|gg [(40,ZL y (AJ (EM 32 (Ln.fn 1 1).FD).1) 2 263 kR)]<|A0 (AaZ y (Y.up M) D (EM 32 (Ln.fn 1 1).FD).2.1 1 1 AJQ) [(1,124)] ?_;rintro _ ⟨E,A,r1,r2,r3,rfl⟩;exact gg [(57,hW (((5:Nat):Int)+1) ((5+1:Nat):Int))]<|bk again [(7,1288)] ⟨5+1,y,D,0+1,E,[],⟨nO,0,0⟩,A⟩<|.inr<|.inl ⟨rfl,by show 6<=5+1;omega,by show 5+1<=26;omega,rfl,⟨⟨r1,r2⟩,r3,⟨F,R⟩,⟨.of M,Sg⟩⟩⟩;obtain rfl:m=0+1:=hm;simp only at hi a u;have hle:I.Da J:=hf.row.st.le;let⟨g,k,n,d⟩:=hf;simp only at g k n d;have B:lN f=0*3:=by rw[u];rfl
 by_cases ac:i<26;obtain⟨j,rfl⟩:∃j,i=6+j:=⟨i-6,oG⟩;have hj:j<20:=oG;obtain⟨o,P⟩:∃o,OL[j]? =sM o:=⟨_,BS<|show j<lN OL from hj⟩;have K:=AXX ⟨j,hj⟩;simp[P,LN]at K;have W:=ALz o<|GC _<|De P;have c:=AVk o<|De P;rw[show 6+j-6=j by omega]at d;have V:=ANz P;simp[ALE,Co,Hp,_root_.or_false]at c;refine gg [(20,hT<|((6+j:Nat):Int)<39),(22,T3 J (6+j) oG),(23,T1 J (6+j) _<|NH (6+j) K),(28,.op J _ _<|Un ((Fc o).headD 0) (Fc o).tail)] ?_ (by obtain rfl|rfl|rfl|rfl|rfl|rfl|rfl|rfl|rfl|rfl|rfl|rfl|rfl|rfl|rfl:=c<;>exact kR);refine call (ON J (Fc o) (EM 32<|Fc o).1 (EM 32<|Fc o).2.1 (EM 32<|Fc o).2.2 (by obtain rfl|rfl|rfl|rfl|rfl|rfl|rfl|rfl|rfl|rfl|rfl|rfl|rfl|rfl|rfl:=c<;>decide+kernel) rfl) (hobs:=by obtain rfl|rfl|rfl|rfl|rfl|rfl|rfl|rfl|rfl|rfl|rfl|rfl|rfl|rfl|rfl:=c<;>exact kR) ?_;refine gg [(40,AJk J (AJ (EM 32<|Fc o).1) (by obtain rfl|rfl|rfl|rfl|rfl|rfl|rfl|rfl|rfl|rfl|rfl|rfl|rfl|rfl|rfl:=c<;>exact kR))] ?_ (by obtain rfl|rfl|rfl|rfl|rfl|rfl|rfl|rfl|rfl|rfl|rfl|rfl|rfl|rfl|rfl:=c<;>exact kR);refine A0 (AMa J (EB.Bf hle U) (Pow.Bf hle Y) D 0 t f l 1 1 s (OL.take j) d.row (by rw[Cu];omega) g B o W) [(1,124),(2,7)] (hobs:=by obtain rfl|rfl|rfl|rfl|rfl|rfl|rfl|rfl|rfl|rfl|rfl|rfl|rfl|rfl|rfl:=c<;>exact kR) ?_;rintro _ ⟨s',N,rfl,q,p⟩;refine gg [(57,hW (((6+j:Nat):Int)+1) ((6+j+1:Nat):Int))] ?_ (by obtain rfl|rfl|rfl|rfl|rfl|rfl|rfl|rfl|rfl|rfl|rfl|rfl|rfl|rfl|rfl:=c<;>exact kR)
 exact bk again [] ⟨6+j+1,N,D,0+1,t,f,s',l⟩ (.inr<|.inl ⟨rfl,by show 6<=6+j+1;omega,by show 6+j+1<=26;omega,u,⟨g,k,⟨n.1,Av.Bf q.le n.2 λ_ _ h=>h⟩,by show Live I N 2 211 ((OL.take<|6+j+1-6).flatMap Cs) s';rw[show 6+j+1-6=j+1 by omega,V];exact d.next q p⟩⟩) (hh:=by obtain rfl|rfl|rfl|rfl|rfl|rfl|rfl|rfl|rfl|rfl|rfl|rfl|rfl|rfl|rfl:=c<;>exact⟨kR,kR,kR⟩);obtain rfl:i=26:=oG;subst u;have C:s.n=20:=by
  have:=d.row.n;have e:lN ((OL.take<|26-6).flatMap Cs)=40:=by decide+kernel
  omega
 let⟨b,o,h1,h2,M,Q,R⟩:=d.never (xs:=OL) (R:=Q2) C dC<|Rows.flat.2 rfl;refine Le b J o kR h1 h2 ?_;have z:=Av.Bf Q n.2 (S:=F9) λ_ _ h=>h;generalize J.never b o=y at M Q R z⊢;refine gg [(20,hT<|((26:Nat):Int)<39),(22,T3 y 26 oG),(23,T1 y 26 _<|NH 26<|show NJ[26]? =sM (Ln.fn 1 1) by decide+kernel),(28,.op y _ _<|Un ((Ln.fn 1 1).FD.headD 0) (Ln.fn 1 1).FD.tail)]<|call (ON y (Ln.fn 1 1).FD (EM 32 (Ln.fn 1 1).FD).1 (EM 32 (Ln.fn 1 1).FD).2.1 (EM 32 (Ln.fn 1 1).FD).2.2 (by decide+kernel) rfl)<|gg [(40,ZL y (AJ (EM 32 (Ln.fn 1 1).FD).1) 2 263 kR)]<|A0 (Aaa y (Y.up M) D (EM 32 (Ln.fn 1 1).FD).2.1 1 1 AJQ 1 t (Ge 1 1 s) l ⟨oG,g⟩ rfl (ZB _ _ _) k) [(1,124),(2,7)] ?_;rintro _ ⟨E,A,r1,r2,r3,rfl⟩;refine gg [(57,hW (((26:Nat):Int)+1) ((26+1:Nat):Int))] ?_;exact bk again [(7,1288)] ⟨26+1,y,D,1+1,E,Ge 1 1 s,⟨nO,0,0⟩,A⟩<|.inr<|.inr ⟨rfl,by show 27<=26+1;omega,by show 26+1<=39;omega,⟨Ge 1 1 s,[],(Hn _).symm,⟨s.a,s.c,_,by unfold Ge;rw[C];rfl,R⟩,rfl⟩,⟨⟨r1,r2⟩,r3,⟨n.1,z⟩,⟨.of M,Sg⟩⟩⟩
 .obtain rfl:m=1+1:=hm;simp only at hi a u;have hle:I.Da J:=hf.row.st.le;let⟨g,k,n,d⟩:=hf;simp only at g k n d;have B:lN f=1*3:=(by have:=u.len<|WI J;simpa using this);by_cases ac:i<39;obtain⟨j,rfl⟩:∃j,i=27+j:=⟨i-27,oG⟩;have hj:j<12:=oG;obtain⟨o,P⟩:∃o,OM[j]? =sM o:=⟨_,BS<|show j<lN OM from hj⟩;have K:=AXY ⟨j,hj⟩;simp[P,LN]at K;have W:=ALz o<|HZ _<|De P;have c:=AVl o<|De P;rw[show 27+j-27=j by omega]at d;have V:=ANz P;simp[mem1,Co,Hp,_root_.or_false]at c;refine gg [(20,hT<|((27+j:Nat):Int)<39),(22,T3 J (27+j) oG),(23,T1 J (27+j) _<|NH (27+j) K),(28,.op J _ _<|Un ((Fc o).headD 0) (Fc o).tail)] ?_ (by obtain rfl|rfl|rfl|rfl|rfl|rfl|rfl|rfl|rfl:=c<;>exact kR);refine call (ON J (Fc o) (EM 32<|Fc o).1 (EM 32<|Fc o).2.1 (EM 32<|Fc o).2.2 (by obtain rfl|rfl|rfl|rfl|rfl|rfl|rfl|rfl|rfl:=c<;>decide+kernel) rfl) (hobs:=by obtain rfl|rfl|rfl|rfl|rfl|rfl|rfl|rfl|rfl:=c<;>exact kR) ?_;refine gg [(40,AJk J (AJ (EM 32<|Fc o).1) (by obtain rfl|rfl|rfl|rfl|rfl|rfl|rfl|rfl|rfl:=c<;>exact kR))] ?_ (by obtain rfl|rfl|rfl|rfl|rfl|rfl|rfl|rfl|rfl:=c<;>exact kR);refine A0 (AMa J (EB.Bf hle U) (Pow.Bf hle Y) D 1 t f l 1 1 s (OM.take j) d.row (by rw[Cu];omega) g B o W) [(1,124),(2,7)] (hobs:=by obtain rfl|rfl|rfl|rfl|rfl|rfl|rfl|rfl|rfl:=c<;>exact kR) ?_;rintro _ ⟨s',N,rfl,q,p⟩;refine gg [(57,hW (((27+j:Nat):Int)+1) ((27+j+1:Nat):Int))] ?_ (by obtain rfl|rfl|rfl|rfl|rfl|rfl|rfl|rfl|rfl:=c<;>exact kR)
  exact bk again [] ⟨27+j+1,N,D,1+1,t,f,s',l⟩ (.inr<|.inr ⟨rfl,by show 27<=27+j+1;omega,by show 27+j+1<=39;omega,u.mono<|SC q.le,⟨g,k,⟨n.1,Av.Bf q.le n.2 λ_ _ h=>h⟩,by show Live I N 2 211 ((OM.take<|27+j+1-27).flatMap Cs) s';rw[show 27+j+1-27=j+1 by omega,V];exact d.next q p⟩⟩) (hh:=by obtain rfl|rfl|rfl|rfl|rfl|rfl|rfl|rfl|rfl:=c<;>exact⟨kR,kR,kR⟩)
  .obtain rfl:i=39:=oG;have C:s.n=12:=by
    have:=d.row.n;have e:lN ((OM.take<|39-27).flatMap Cs)=24:=by decide+kernel
    omega
   let⟨b,o,h1,h2,M,Q,R⟩:=d.never (xs:=OM) (R:=Q2) C dC<|Rows.flat.2 rfl;refine Le b J o kR h1 h2 ?_;have z:=Av.Bf Q n.2 (S:=F9) λ_ _ h=>h;have L:=u.mono<|SC Q;have F:=n.1;let⟨ca,cn,cc⟩:=D;let⟨sa,sn,sc⟩:=s;simp only at F C;subst F;subst C;generalize J.never b o=y at M Q R z L⊢;refine B4 7 y (vs:=f++Ge 1 1 ⟨sa,12,sc⟩++l) (e:=195) λpb Z O ae ad=> ?_;have H:=M.trans O;have X:Rows (KU Z) EC.Ax (f++Ge 1 1 ⟨sa,12,sc⟩):=by have e:EC.Ax=[EC.Ax.getD 0 Al]++[EC.Ax.getD 1 Al]:=rfl;rw[e];exact Rows.append (L.mono<|AJa O)<|Rows.one ⟨sa,sc,_,rfl,R.up O λ_ _ h=>h⟩
   have G:FJ Z EC ⟨ca,cc,EC.DN.flatMap BG,sM ⟨pb,0,nO⟩,t,f++Ge 1 1 ⟨sa,12,sc⟩⟩:=by refine⟨z.up O λ_ _ h=>h,⟨.Og ad (by rw[CK,B];rfl) ?_,g.1,g.2,X⟩⟩;intro v hv;rcases Bc.1 hv with hv|hv;exact AM8 L v hv;exact ZB _ _ _ v hv
   generalize aa:(⟨ca,cc,EC.DN.flatMap BG,sM ⟨pb,0,nO⟩,t,f++Ge 1 1 ⟨sa,12,sc⟩⟩:Dw)=ip at G;refine gg [(20,hF<|((39:Nat):Int)<39)]<|call (AJv Z (U.up H) (Y.up H) EC ip G AAT) (hobs:=by rw[<-aa];exact kR) ?_;exact gG<|done func133 ab [] (h:={r:=.t [.g<|Fa EC ip,.v<|.int iK 0,.v<|.int iK 0],J:=Z}) (by rw[<-aa];exact kR) ⟨ip,Z,rfl,H,G⟩
def AaA(I)(b:EB I)(e:Pow I)(d:Iw I):Fn 84 [.v<|vS<|AJ I9] [] I (AGx I EC) nO:=by refine fo func84 λj i w c=>gG<|A0 (AQd I b e d) [] λh f=> ?_;obtain⟨g,J,rfl,hle,a⟩:=f;exact gG<|dn [] ⟨g,J,rfl,hle,a⟩
def AIB(I)(e:EB I)(q:Pow I)(p:Iw I)(v:Int):Fn 29 [.v<|nV v] [] I (AB1 I<|EU v) nO:=by
 refine fo func29 λz y w k=>gG<|Cz (AaA I e q p) λu J hle b=>gG<|call (ZO J)<|gG<|call (ZO J)<|go func29 [] 5 kR<|B4 140 J (vs:=(EU v).BJ.flatMap FT) (e:=99) λm o c l g=>B4 188 o (vs:=(EU v).BM.flatMap En) (e:=103) λn d a f h=> ?_;have r:Av d Si 3 (EU v).BJ (aP m) 1 ((EU v).BJ.flatMap FT):=by refine⟨.Og (AE:=[]) (e:=99) (by rw[Hn];exact a.at_ _ _ g) rfl ?_,Ag _,by rw[maxLen];decide,Rows.flat.2 rfl⟩;intro x j;let⟨s,_,i⟩:=LJ.1 j;exact XP s x i
 have t:Av d Ro 9 (EU v).BM (aP n) 2 ((EU v).BM.flatMap En):=by refine⟨.Og (AE:=[]) (e:=103) (by rwa[Hn]) rfl ?_,Ag _,by rw[maxLen];decide,Rows.flat.2 rfl⟩;intro x j;let⟨s,_,i⟩:=LJ.1 j;exact Rn s x i
 exact gG<|dn [] ⟨⟨u,sM ⟨m,0,nO⟩,1,(EU v).BJ.flatMap FT,sM ⟨n,0,nO⟩,2,(EU v).BM.flatMap En⟩,d,rfl,(hle.trans c).trans a,⟨(b.up c).up a,r,t⟩⟩
variable{C:Lz.AT}
def AAs{n}(h:n<=200):3+n*(25+4*n)<=200000:=by have:n*(25+4*n)<=200*(25+4*200):=VR h oG;omega
def AVf{im}(h:Ra im)(h1:IQ im)(b:Ie im):VW im where
 ok:=⟨λf a=>(h.fk f a).o,λf a=>by have:=(h.fk f a).a;omega,λf a=>by have:=(h.fk f a).c.2;omega⟩
 im:=h1
 ib:=b
 R7:=by have:=h.fs.2;omega
def AWm{n k}(h:B6 C n k)(a:n<=200):MG C (· =0) (24+4*n) (3+n*(25+4*n)) k:=⟨h.kk,h.bk,oG,by have:=AAs a;omega,by have:=h.AD;omega,zero_and,λp e=>by subst e;exact Ae3 _⟩
def AE5{n k}(h:B6 C n k)(c:n<=200)(b:Ra k.im)(I L m)(d:CZ I L k m)(a)(hid:CB a):
 Fn 25 [.p 1 0,.v<|sV a] (CL m k.im k.AD) I (QI I (CM L m)<|F6 k a) nO:=
 AZv I L k m d (AWm h c) (AVf b h.im h.ib) oG (by have:=AAs c;omega) h.bf oG (by have:=h.AD;omega) a hid
def T6{n k}(h:B6 C n k)(a:n<=200):X7 k where
 E0:=h.kk.ki.E0
 len:=by have:=h.bk.tl;omega
 AC t ht:=by have hi:=h.kk.ki.G3 t ht;refine⟨hi.HM _<|by rw[Ak];simp,by have:=(h.bk.ts t ht).sc;omega,λi=>JV ?_⟩;rw[EF];split;rename_i s hs;exact(hi.Cj.2 s<|De hs).2.1;exact hi.Cj.1.1
 fl:=by have:=h.bf.fl;omega
 ff f hf:=JV (h.bf.fv f hf).2.1
 ob n o ho:=(h.kk.ki.Ep n o ho).Cj
 sl:=by have:=h.bk.sl;have:=AAs a;omega
def ANC(v:Int)(a:C7 v:=by decide):B6 high 120 (KB v):=by have:=Aet GL<|AID v a;rw[show 0+lN GL=120 by decide]at this;exact this
def AfL{v}(h:wv v):BV v.name/\lN v.name<=24:=by rcases h with h|h|h;rw[h.1];exact⟨λx a=>(by cases a),Bm _⟩;rw[h];exact⟨λx a=>(by cases a),Bm _⟩;exact⟨(Z4 h.2.2.2).1,(Z4 h.2.2.2).2.2⟩
def Aen{n k}(h:B6 C n k)(o:n<=200)(j:Aee k):∀f∈k.Bj,X5 f:=λf d=>by let⟨a,e,g,i⟩:=h.bf.fv f d;have l:=j f d;have m:=h.AD;have b:=Z4 i;have c:=AfL a;exact⟨by omega,⟨b.1,by have:=b.2.2;omega⟩,JV e,⟨a.imp_left And.left,JV g⟩,AGB a,⟨c.1,by have:=c.2;omega⟩⟩
def Aem:∀(l:AA Nm) {k:Ap},Aee k->Aee (Fe k l)
 |[],_,h=>h
 |id::l,k,h=>Aem l<|Afr h id
def Ac8{n k}(h:B6 C n k)(i:n<=200)(I L m)(d:CZ I L k m)(t)(c:Af k.AC t.id=some t):Fn 12 [.p 1 0,.v<|sV t.id] (CL m k.im k.AD) I (AG0 I m k.im k.AD t true) none:=by have b:=D2 c;have a:=h.bk.ts t b;exact Ac9 I L k m d t ((h.kk.ki.G3 t b).HM _<|by rw[Ak];simp) c (by have:=a.sc;omega) ⟨by have:=a.c.fr;omega,by have:=a.c.st;omega,by have:=a.c.tr;omega⟩ λf e=>by have:=(a.c.vf f e).1;omega
def PP(n:Nat):Ce:=match n with
 |0=>⟨#[114,117,110]⟩
 |1=>⟨#[119,97,105,116]⟩
 |2=>⟨#[105,100,108,101]⟩
 |3=>⟨#[101,110,100]⟩
 |_=>⟨#[102,97,105,108]⟩
def Af8(n):(PP n).size<=4:=by unfold PP;split<;>decide
def Aei(t:AL):Ce:=(((Aa t.id++⟨#[32]⟩)++PP t.Aw)++⟨#[32]⟩)++AJ (Acx t.g.Ad)
def PL(t:AL):Ce:=if t.Aw=3\/t.Aw=4 then Aei t++(⟨#[32]⟩++Aed t.v)else Aei t
def Aeh(l:AA AL):AA AF:=l.map λt=>vS<|PL t
structure Aej(I:AB):Prop where
 at_:∃arr e fr,I 0=sM (.cells arr e fr)/\∀i,i<5->arr[i]? =sM (vS (PP i))
def Aej.up{I J}(h:Aej I)(hle:I.le J):Aej J:=by let⟨arr,e,a,b,c⟩:=h.at_;exact⟨arr,e,a,hle _ _ b,c⟩
def AfJ:prog.underlying 163=sM (.array 5 9):=kR
structure StW(t:AL):Prop where
 id:BV t.id/\lN t.id<=1000
 st:t.Aw<=4
 l:B9 t.g.Ad
 v:2<=t.Aw->WV t.v/\(-9223372036854775808<=t.v.n/\t.v.n<=9223372036854775807)/\BV t.v.name/\lN t.v.name<=1000
def Told.up{I J K z e a s}(h:Told I J z e a s)(hle:J.le K):Told I K z e a s:=⟨h.st.trans<|.of hle,h.row.A2 λb _ y c=>hle.Ak b y c⟩
abbrev Aes(I:AB)(m:CH)(b:A6)(a:Nat)(s:Ce):zP:=YF I (AEB m b a) (λ_:Unit=>.v<|vS s) λ_ _=>True
def Afu(I)(f:Pow I)(b:Iw I)(hW:Aej I)(m)(im)(AD)(t)(hw:StW t)(c:Fn 12 [.p 1 0,.v (.string (Aa t.id))] (CL m im AD) I (AG0 I m im AD t true) none):
 Fn 74 [.v (.string (Aa t.id)),.p 6 0] (AEB m im AD) I (Aes I m im AD (PL t)) none:=by
 let⟨i9,hi9,d⟩:=AVt;have z:=Aep hw.id.1;have C:=hw.id.2;have A:=Af8 t.Aw;have B:=Aer t.g.Ad;have u:(Aa t.id++⟨#[32]⟩).size<=4001:=by rw[ByteArray.size_append];show _+1<=_;omega
 have v:((Aa t.id++⟨#[32]⟩)++PP t.Aw).size<=4005:=by rw[ByteArray.size_append];omega
 have x:(((Aa t.id++⟨#[32]⟩)++PP t.Aw)++⟨#[32]⟩).size<=4006:=by rw[ByteArray.size_append];show _+1<=_;omega
 have y:(Aei t).size<=6007:=by unfold Aei;rw[ByteArray.size_append];omega
 refine fo Tryz.func74 λρ key w i=>gG<|A0 c [] ?_;rintro _ ⟨q,J,rfl,hle,o⟩;let⟨arr,e,fr,n,p⟩:=(hW.up hle).at_;have hc:arr[0+t.Aw*1]? =some (.string (PP t.Aw)):=by rw[Nat.zero_add,Nat.mul_one];exact p _ (by have:=hw.st;omega)
 refine gg [(14,T0 J 13 (Aa t.id) ⟨#[32]⟩ (by show _+1<=_;unfold maxLen;omega)),(17,.op J _ _ (Uq (b:=0) (off:=0) (k:=t.Aw) AfJ hi9 d (by have:=hw.st;omega))),(18,.op J _ _ (IZ (I:=J) Di rfl n hc)),(19,WL J 14 18 (Aa t.id++⟨#[32]⟩) (PP t.Aw) (by unfold maxLen;omega)),(20,T0 J 19 ((Aa t.id++⟨#[32]⟩)++PP t.Aw) ⟨#[32]⟩ (by show _+1<=_;unfold maxLen;omega))] ?_;refine call (Aeu J (b.up hle) t.g.Ad hw.l) ?_;have g:=WL J 20 24 (((Aa t.id++⟨#[32]⟩)++PP t.Aw)++⟨#[32]⟩) (AJ (Acx t.g.Ad)) (by unfold maxLen;omega);have Bz: ∀ {s},s=PL t->Aes I m im AD (PL t) key {r:=.v (.string s),AV:=AEB m im AD,J:=J}:=λh=>by rw[h];exact⟨(),J,rfl,hle,trivial⟩
 by_cases j:t.Aw=3;have a:=hw.v oG;have e:PL t=Aei t++(⟨#[32]⟩++Aed t.v):=by unfold PL;rw[if_pos (.inl j)]
 have l:=Aez t.v a.2.1 a.2.2;refine gg [(25,WL J 20 24 (((Aa t.id++⟨#[32]⟩)++PP t.Aw)++⟨#[32]⟩) (AJ (Acx t.g.Ad)) (by unfold maxLen;omega)),(28,hE (t.Aw:Int) 3)] ?_;refine call (Ae0 J (f.up hle) (b.up hle) t.v a.1 a.2.1 a.2.2) ?_;refine gg [(38,AUx J 37 ⟨#[32]⟩ (Aed t.v) (by show 1+_<=_;unfold maxLen;omega)),(39,WL J 34 38 (Aei t) (⟨#[32]⟩++Aed t.v) (by rw[ByteArray.size_append];show _+(1+_)<=_;unfold maxLen;omega))] ?_;exact dn [] (Bz e.symm);by_cases k:t.Aw=4;have a:=hw.v oG;have e:PL t=Aei t++(⟨#[32]⟩++Aed t.v):=by unfold PL;rw[if_pos (.inr k)]
 have l:=Aez t.v a.2.1 a.2.2;refine gg [(25,WL J 20 24 (((Aa t.id++⟨#[32]⟩)++PP t.Aw)++⟨#[32]⟩) (AJ (Acx t.g.Ad)) (by unfold maxLen;omega)),(28,hN (t.Aw:Int) 3),(32,hE (t.Aw:Int) 4)] ?_;refine call (Ae0 J (f.up hle) (b.up hle) t.v a.1 a.2.1 a.2.2) ?_;refine gg [(38,AUx J 37 ⟨#[32]⟩ (Aed t.v) (by show 1+_<=_;unfold maxLen;omega)),(39,WL J 34 38 (Aei t) (⟨#[32]⟩++Aed t.v) (by rw[ByteArray.size_append];show _+(1+_)<=_;unfold maxLen;omega))] ?_;exact dn [] (Bz e.symm);have e:PL t=Aei t:=by unfold PL;rw[if_neg (by omega)]
 refine gg [(25,WL J 20 24 (((Aa t.id++⟨#[32]⟩)++PP t.Aw)++⟨#[32]⟩) (AJ (Acx t.g.Ad)) (by unfold maxLen;omega)),(28,hN (t.Aw:Int) 3),(32,hN (t.Aw:Int) 4)] ?_;exact dn [] (Bz e.symm)
def AfR(m:CH)(im:A6)(AD:Nat)(a:AU Au)(c len:Nat)(q:Nat×Bi×AB):Hd where
 Cd:=[(1,.fn (.func 74) [] [.p 6 0]),(5,.v<|.slice q.2.1.a q.2.1.n q.2.1.c),(8,.v<|.slice a len c),(9,.v<|iV len),(10,.v<|iV q.1)]
 Cc:=AEB m im AD
 J:=q.2.2
def AfS(I m u k d a c n)(R:Av I NL 1 (d.map (·.id)) a c n)(W:lN d<=1000000)
 (Q:∀t∈d,∀J,I.le J->Fn 74 [.v<|sV t.id,.p 6 0] (AEB m u k) J (Aes J m u k<|PL t) nO):
 Fn 72 [.v<|.slice a (lN d) c,.fn (.func 74) [] [.p 6 0]] (AEB m u k) I (AB8 I (AEB m u k) 1 9<|Aeh d) nO:=by
 refine fo func72 λX S w K=>gG<|loop (ι:=Nat×Bi×AB) (λq=>q.1<=lN d/\Told I q.2.2 1 9 (Aeh<|d.take q.1) q.2.1) (λq=>lN d-q.1) (AfR m u k a c<|lN d) 1000 [] (0,⟨nO,0,0⟩,I) ⟨Bm _,.nil I 1 9⟩ ?_;rintro⟨i,⟨M,f,N⟩,J⟩ ⟨A,l⟩ again T;simp only at A l;have E:f=i:=by have x:=l.row.n;rw[Aeh]at x;rw[DG,Cu]at x;simp only at x;omega
 subst E;by_cases g:f<lN d;have L:d[f]? =sM d[f]:=BS g;have p:=Q _ (DR g) J l.st.GJ;have j:Aeh (d.take<|f+1)=Aeh (d.take f)++[vS<|PL d[f]]:=by rw[Aeh];rw[Kd g,E3];rfl
 generalize d[f]=t at L p j;have hid:(d.map (·.id))[f]? =sM t.id:=by rw[GB,L];rfl
 obtain⟨b,o,arr,e,U,F,rfl,q2,q3,q4,q5⟩:=(R.up l.st.GJ λ_ _ h=>h).cell Ws hid;have q3:F=Mg t.id:=q3;subst q3;have q0:arr[o+f*1]? =sM (sV t.id):=by have:=q5 0 _ rfl;rw[IB]at this;exact this
 refine gg [(11,tH f<|lN d),(12,Br J Jr b o (lN d) c f g),(13,ED J Di rfl (o+f*1) (sV t.id) q2 q0)]<|A0 p [] ?_;rintro _ ⟨_,G,rfl,r,_⟩;have l:=l.up r;refine gG<|act (need:=[(1064,.cells ([Value.string<|PL t].map .v) 9)]) (JI (I:=G) Be (s:=⟨M,f,N⟩) (x:=.s 1064 0 1 1) (m:=1) (CQ:=Aeh<|d.take f) (news:=[Value.string<|PL t]) Ve kR l.row (Ez (e:=9) sP rfl<|by simp[Value.oneCell']) dC<|by show f+1<=16777216;omega) JH ?_;rintro V ⟨H,P,v,rfl,B,C,D,y,z⟩;have s:=l.app (AE:=v) (news:=[Value.string<|PL t]) rfl (by simp[Value.oneCell']) B C D y z;generalize G.plus H _=O at s⊢;refine gg [(20,sH f)] ?_;exact bk again [] (f+1,⟨sM ⟨H,0,nO⟩,f+1,P⟩,O) ⟨g,by rwa[j]⟩;have A:f=lN d:=oG;subst A;rw[FN]at l;exact gg [(11,fH (lN d)<|lN d)]<|dn [] ⟨⟨M,lN d,N⟩,J,l,rfl⟩
def Afv{i n k}(h:B6 i n k){t}(e:t∈k.AC):StW t:=by have a:=h.kk.ki.G3 t e;have g:=h.bk.ts t e;have c:=Z4 (a.HM t.id (by unfold Ak;simp));refine⟨⟨c.1,by have:=c.2.2;omega⟩,a.Ux,JV a.Cj.1.1,λf=> ?_⟩;have b:=g.vv f;have d:=AfL b;exact⟨⟨b.imp_left And.left,JV a.val.Cj⟩,AGB b,d.1,by have:=d.2;omega⟩
def AfE{l n k}(u:B6 l n k)(q:n<=200)(i:B9 l)(I L m)(o:CZ I L k m)(C:Iw I)(hW:Aej I):
 Fn 22 [.p 1 0,DW l] (CL m k.im k.AD) I (AB8 I (CL m k.im k.AD) 1 9 (Aeh (Hh k l).AC)) nO:=by
 have E:=AKL I L k m o (T6 u q) l i;have f:=Aeo u;have D:=o.pow;let⟨M,K,O,H,y,N,P⟩:=m;refine fo Tryz.func22 λQ G w p=>gG<|A0 E [] ?_;rintro _ ⟨⟨ip',es',n2,⟨v,on,x⟩,fac',lk',sm'⟩,L',J,rfl,hst,hk'⟩;have h:on=lN (Hh k l).AC:=by have:=hk'.Bu.n;rw[List.length_map,List.length_map]at this;simp only at this;omega
 subst h;have hlen:=f.bk.tl;have hle:=hst.GJ;refine gG<|A0 (Af2 J ⟨ip',es',n2,⟨v,lN (Hh k l).AC,x⟩,fac',lk',sm'⟩ k.im k.AD _ (by show(Hh k l).AC.length<=_;omega) hk'.Bu) [(1,132),(2,133),(3,134),(4,135),(5,136)] ?_;rintro _ ⟨⟨a,c⟩,j,rfl,b,z,A,B⟩;have F:Av j NL 1 ((Hh k l).AC.map (·.id)) a c (((Hh k l).AC.map (·.id)).map BQ):=⟨by rw[List.length_map];exact B,by rw[List.length_map];exact z,A,by rw[<-WA];exact Rows.flat.2 rfl⟩;refine gG<|A0 (AfS j ⟨ip',es',n2,⟨v,lN (Hh k l).AC,x⟩,fac',lk',sm'⟩ k.im k.AD (Hh k l).AC a c _ F (by omega) λt r e d=>
  have g:=(hle.trans b).trans d
  Afu e (D.up g) (C.up g) (hW.up g) _ k.im k.AD t (Afv f r) (Ac8 f q e L' _ (hk'.up (b.trans d)) t (NT f.kk.ki.E0 r))) [(1,132),(2,133),(3,134),(4,135),(5,136),(6,140)] ?_
 rintro _ ⟨s,e,told,rfl⟩;exact gG<|dn [] ⟨s,e,⟨(hst.AdN (.of b)).AdN told.st,told.row⟩,rfl⟩
def Pm{n}(h:CB n):BV n:=by rw[CB]at h;simp only[CJ,EQ]at h;exact λx a=>LO<|h.2 x a
def AGE{v}(h:wv v):BV v.name:=by
 rcases h with h|h|h;rw[h.1];exact λx a=>by cases a
 rw[h];exact λx a=>by cases a
 exact Pm h.2.2.2
def AN6{n k}(h:B6 C n k)(o:n<=200){t}(l:t∈k.AC):CB t.id/\TT t:=by
 have g:=h.kk.ki.G3 t l;have a:=h.bk.ts t l;have d:∀x∈t.AI,BV x.name:=λx b=>Pm (g.HM _ (by rw[Ak];exact List.mem_cons_of_mem _ (List.mem_map_of_mem b)));have hid:=g.HM t.id (by rw[Ak];simp);have c:∀y∈t.AI.map (·.Bg)++[t.Bg],BV y:=λy m=>by rw[g.NO]at m;rcases List.mem_cons.1 m with e|e;rw[e];exact Pm hid;obtain⟨x,b,rfl⟩:=List.mem_map.1 e;exact d x b
 refine⟨hid,Pm hid,c _ (List.mem_append_right _ sP),?_,g.val.kind.2,⟨⟨by have:=a.c.fr;omega,by have:=a.c.st;omega,by have:=a.c.tr;omega⟩,λf j=>⟨by have:=(a.c.vf f j).1;omega,λv i=>AGE ((a.c.vf f j).2 v i)⟩,λv i=>AGE (a.c.vs v i)⟩,by have:=a.sc;omega,λx b=>⟨d x b,c _ (List.mem_append_left _ (List.mem_map_of_mem b))⟩⟩;by_cases e:t.Aw=1;exact Pm (a.on e);rw[a.off e];exact λx b=>by cases b
def Ack{a:Type}{n b:Nat}{l:AA a}(h:lN l<=b):lN (l.take n)<=b:=by rw[Cu];omega
def AU9{t u l}(h:CB t.id/\TT t)(a:C4 t l=sM u):CB u.id/\TT u:=by
 rw[C4]at a;dsimp only at a;split at a;cases a;exact h;split at a;cases a
 .cases a;let⟨h0,h1,h2,h3,h4,⟨⟨g,i,j⟩,h6,h7⟩,h8,h9⟩:=h;refine⟨h0,h1,?_,nA,nA,⟨⟨?_,?_,?_⟩,λf c=>h6 f<|Fg c,λv d=>h7 v<|Fg d⟩,?_,λx b=>h9 x<|Fg b⟩;show BV (t.AI.getD (CF t l-1) Al).name;rw[DK];cases e:t.AI[CF t l-1]? with
  |none=>exact λx b=>by cases b
  |some s=>exact(h9 s<|De e).1
  all_goals exact Ack ‹_›
def Ui{n k}(h:B6 C n k)(c:n<=200)(l):QL (Hh k l) where
 E0:=XS h.kk.ki.E0
 len:=Ch (AO6 _ _) (by have:=h.bk.tl;omega)
 AC u hu:=by let⟨t,ht,e⟩:=AGa.1 hu;exact AU9 (AN6 h c ht) e
 Ep x hx:=by
  have a:=ZF h.kk.ki.B0<|(Ho.1 hx).1;have b:=h.kk.ki.Ep _ _ a;exact⟨b.val.kind.2,b.Lr.kind.2,by have:=(h.bk.os _ _ a).q;omega,λw hw=>⟨by
   let⟨t,h1,_⟩:=(h.kk.ki.Dn _ _ a).2 w hw;rw[<-E2 h1];exact(AN6 h c<|D2 h1).2.id,(b.Dn w hw).kind.2⟩⟩
 fl:=Ch (RQ _ _) (by have:=h.bf.fl;omega)
 ff f hf:=by have:=h.bf.fv f (Ho.1 hf).1;exact⟨Pm this.2.2.2,AGE this.1⟩
 ll:=Bm _
 lf x hx:=by cases hx
structure KL(I J:AB)(L:AA Rw)(k:Ap)(m:CH)(L':AA Rw)(k':Ap)(m':CH):Prop where
 st:Cb I [] J (CM L m++CM L' m')
 ka:CZ J L k m
 kb:CZ J L' k' m'
 dj:∀x∈CM L m,x∉CM L' m'
variable{I J K:AB}{L c L':List Rw}{k k2 k':Ap}{m d m':CH}
def KL.swap(h:KL I J L k m L' k' m'):KL I J L' k' m' L k m:=
 ⟨⟨h.st.le,h.st.A2,λx a=>h.st.CE x<|Bc.2 (Bc.1 a).symm⟩,h.kb,h.ka,λx a b=>h.dj x b a⟩
def KL.up(h:KL I J L k m L' k' m')(hle:J.le K):KL I K L k m L' k' m':=⟨h.st.trans<|.of hle,h.ka.up hle,h.kb.up hle,h.dj⟩
def KL.le(h:KL I J L k m L' k' m'):I.le J:=h.st.GJ
def KL.a(h:KL I J L k m L' k' m')(a:Cb J (CM L m) K<|CM c d)(hk:CZ K c k2 d):KL I K c k2 d L' k' m' where
 st:=by
  have g:∀x y,I.B8 x y->x∉CM L m:=λx y e hm=>by rcases h.st.CE x (GC _ hm)with q|q;cases q;exact q y e
  refine⟨h.st.le.trans a.le,λx y e _=>a.A2 x y (h.st.A2 x y e sP)<|g x y e,λx e=> ?_⟩;rcases Bc.1 e with e|e;rcases a.CE x e with q|q;exact h.st.CE x<|GC _ q;exact .inr λy f=>q y<|h.st.A2 x y f sP;exact h.st.CE x<|HZ _ e
 ka:=hk
 kb:=h.kb.A2 a.le λb hb y f=>a.A2 b y f λhm=>h.dj b hm hb
 dj x e f:=by rcases a.CE x e with q|q;exact h.dj x q f;let⟨y,f⟩:=h.kb.hasAll x f;exact q y f
def KL.new(e:Cb I [] J<|CM L m)(hk:CZ J L k m)(a:Cb J [] K<|CM L' m')(b:CZ K L' k' m'):KL I K L k m L' k' m' where
 st:=e.app a
 ka:=hk.up a.GJ
 kb:=b
 dj x hx f:=by rcases a.CE x f with q|q;cases q;let⟨y,f⟩:=hk.hasAll x hx;exact q y f
def AIC(v:Int):RY (EU v) where
 nb:=by show 1<=8;decide
 nt:=by show 0<2/\2<=8;decide
 bx b hb:=by rw[A9.1 hb];show A4 ([1],[])=([1],[]);decide+kernel
 th b hb:=by
  have hb:b=⟨0,FW,high,0,5,0,0⟩\/b=⟨0,([1],[]),high,0,5,0,0⟩:=by simpa[EU]using hb
  rcases hb with rfl|rfl;exact⟨by show 0<2;decide,λf a=>by cases a;rfl,by decide+kernel,by decide+kernel,dC,dC,by show(0:Int)<1;decide,by decide+kernel⟩;exact⟨by show 0<2;decide,λf a=>by cases a;rfl,by decide+kernel,by decide+kernel,dC,dC,by show(0:Int)<1;decide,by decide+kernel⟩
 fs:=by show 2<=1000;decide
def AL9:∀f∈EC.Ax,∃S,Ng EC f S:=λf a=>by
 have a:f=EC.Ax.getD 0 Al\/f=EC.Ax.getD 1 Al:=by simpa[EC]using a
 rcases a with rfl|rfl;exact⟨_,AL8 0 dC⟩;exact⟨_,AL8 1 dC⟩
def AL4{I A B:AB}{b:Nat}{o:Obj}(hle:I.le A)(f:A.Da B)(h:A.Ak b=nO)(g:B.B8 b o):I.Ak b=nO:=by
 cases e:I.Ak b with
 |none=>rfl
 |some y=>
  exfalso;have i:I b=nO:=by
   cases a:I b with
   |none=>rfl
   |some z=>
    have:=f b z<|hle.at_ b z a;rw[g.at_]at this;cases this
  have:=(hle.Ak b y ⟨e,i⟩).Ak;rw[h]at this;cases this
def Aeq{l k}(h:B6 l 0 k)(e:Ra k.im)(a)(n:lN a<=200)(j:∀b∈a,CB b):∀i b,a[i]? =sM b->∀J L' m',CZ J L' (Fe k<|a.take i) m'->Fn 25 [.p 1 0,.v<|sV b] (CL m' (Fe k<|a.take i).im (Fe k<|a.take i).AD) J (QI J (CM L' m')<|F6 (Fe k<|a.take i) b) nO:=λi b hid J L' m' f=>by have g:=(List.getElem?_eq_some_iff.1 hid).1;have hinv:=Aet (a.take i) h;rw[List.length_take,show min i (lN a)=i from Nat.min_eq_left<|Nat.le_of_lt g,Nat.zero_add]at hinv;exact AE5 hinv oG (by rw[AZz];exact e) J L' m' f b<|j b<|List.mem_of_getElem? hid
def AfB:∀a∈GL,CB a:=λa h=>by rw[List.eq_of_mem_replicate h];rfl
def Adg:prog.underlying 27=sM (.pointer<|prog.pointee 27):=kR
def AXw(I){a k b}:∀e h (o:Bw),o.op=.binOp .eql 27 (.tmp a) (.const<|.pointer nO) 27->(∀p∈[(a,SV.p k b)],h p.1=p.2)->LS prog o h e [] I (.v fV) nO:=by intro e h o f g;have s:=Ds g (s:=a) (x:=.p k b) sP;intro n t w l _ _ _ _;refine⟨w,?_,Bl.refl w⟩;have i:=l (.tmp a) xO;have j:=l (.const<|.pointer nO) xO;simp[ev,s,AO]at i j;have q:(eqGuard .eql 27 (.tmp a) (.const<|.pointer nO) (.pointer<|sM ⟨n k,b,nO⟩)<|.pointer nO).run prog w=.ok () w:=rfl;have r:=run_eql_pointer_nil (P:=prog) (w:=w) 27 (sM ⟨n k,b,nO⟩) Adg;simp[execOp,f,Sem.run_bind,i,j,q,Result.andThen_ok,r];rfl
def ZJ(I:AB)(a k:Nat):Hint:=.BZ (.binOp .eql 27 (.tmp a) (.const<|.pointer nO) 27) [(a,.p k 0)] [] I (.v fV)<|AXw I
structure AQ where
 i:Nat
 J:AB
 s:Bi
def AQE(a b:CH)(x:AQ):Hd where
 Cd:=[(1,.p 1 0),(2,.p 6 0),(3,x.s.sv),(4,.v<|iV x.i)]
 Cc:=CL a (EG<|EU 0).im (EG<|EU 0).AD++Qo b (EG<|EU 100).im (EG<|EU 100).AD
 J:=x.J
def APH(I:AB):zP:=λ_ h=>∃J,I.le J/\h= {r:=.v tV,J:=J}
def AM9:∀l:AA FU,Rows Pu (l.map Kq) (KT l)
 |[]=>rfl
 |f::l=>⟨[vS<|Kq f],KT l,rfl,rfl,AM9 l⟩
def Told.never{f:Type}{c I J:AB}{R:f->AA AF->Prop}{z:Nat}{e:BN}{xs:AA f}{As:AA AF}{s:Bi}(h:Told I J z e As s)(hle:c.le I)(hlen:s.n=lN xs)(a:0<lN xs)(k:Rows R xs As):
 ∃b o,J.B8 b o/\c.Ak b=nO/\I.le (J.never b o)/\Av (J.never b o) R z xs s.a s.c As:=by
 let⟨b,o,d,g,i,l,j⟩:=(Live.mk h.st h.row).never hlen a k;exact⟨b,o,d,AL4 hle h.st.le g d,i,j⟩
def AUK(l:AA Nm):l.flatMap Mg=l.map BQ:=WA l
def AQJ(I)(y:EB I)(hP:Pow I)(hL:Iw I):Fn 7 [] [] I (APH I) none:=by
 refine fo func7 λρ br w bm=>gG<|Cz (AIB I y hP hL 0) λqa J0 a a7=>gG<|A0 (YY J0 (y.up a) (hP.up a) (EU 0) qa a7 (AIC 0) AAT AL9) [] ?_;rintro _ ⟨ma,La,J1,rfl,U,ak⟩;have j:=a.trans U.GJ;refine gG<|Cz (AIB J1 (y.up j) (hP.up j) (hL.up j) 100) λqb J2 p a8=> ?_;have f:=j.trans p;refine gG<|A0 (YY J2 (y.up f) (hP.up f) (EU 100) qb a8 (AIC 100) AAT AL9) [] ?_;rintro _ ⟨mb,Lb,v,rfl,V,al⟩;have hd:KL J0 v La (EG<|EU 0) ma Lb (EG<|EU 100) mb:=.new (U.trans<|.of p) (ak.up p) V al;refine gg [(15,ZJ v 14 116),(18,ZJ v 17 140)]<|loop (ι:=AQ) (λx=>x.i<=120/\Told v x.J 1 9 ((GL.take x.i).map BQ) x.s/\x.s.n=x.i) (λx=>120-x.i) (AQE ma mb) 1000 (tK 116++[(6,140),(7,141),(8,142),(9,143),(10,144)]) ⟨0,v,⟨none,0,0⟩⟩ ⟨Bm _,Told.nil v 1 9,rfl⟩ ?_;rintro⟨i,J,sa,g,sc⟩ ⟨hi,Y,aq⟩ again T;simp only at hi Y aq;subst aq;by_cases bh:g<120;refine gg [(21,hT<|(g:Int)<120)]<|act (need:=[(1024,.cells ([BQ [1]].map .v) 9)]) (JI (I:=J) Be (s:=⟨sa,g,sc⟩) (x:=.s 1024 0 1 1) (m:=1) (CQ:=(GL.take g).map BQ) (news:=[BQ [1]]) Ve kR Y.row (Ez (e:=9) sP rfl<|by simp[BQ,Value.oneCell']) dC<|by show g+1<=16777216;omega) JH ?_;rintro h' ⟨b',c',aw,rfl,be,bf,bg,a5,a6⟩;have ar:=Y.app (AE:=aw) (news:=[BQ [1]]) rfl (by simp[BQ,Value.oneCell']) be bf bg a5 a6;have X:(GL.take<|g+1).map BQ=(GL.take g).map BQ++[BQ [1]]:=by
  have:GL[g]? =some [1]:=by unfold GL;rw[List.getElem?_replicate,Ac bh]
  rw[My,this,E3];rfl
 generalize J.plus b' _=K at ar⊢;refine gg [(23,sH g)] ?_;exact bk again [] ⟨g+1,K,⟨some ⟨b',0,none⟩,g+1,c'⟩⟩ ⟨by show g+1<=120;omega,by show Told v K 1 9 ((GL.take<|g+1).map BQ) _;rw[X];exact ar,rfl⟩;obtain rfl:g=120:=oG;have an:Live v J 1 9 (GL.flatMap Mg) ⟨sa,120,sc⟩:=by refine⟨Y.st,?_⟩;rw[AUK];exact Y.row
 let⟨b,o,h1,h2,h3,h4,h5⟩:=an.never (xs:=GL) (R:=NL) (show 120=120 from rfl) dC<|Rows.flat.2 rfl;have am:I.le v:=f.trans V.GJ;have ab:I.Ak b=none:=AL4 am Y.st.le h2 h1;refine Le b J o kR h1 ab ?_;have z:=hd.up h3;generalize J.never b o=K at h3 h5 z⊢;refine gg [(21,hF<|((120:Nat):Int)<120)]<|A0 (AMC K La (EG<|EU 0) ma z.ka GL sa sc (GL.flatMap Mg) h5 dC<|Aeq (AID 0) AAT GL dC AfB) [] ?_;rintro _ ⟨za,Z,H,K2,rfl,s,C⟩;have M:=z.a s C;refine gG<|A0 (AMC K2 Lb (EG<|EU 100) mb M.kb GL sa sc (GL.flatMap Mg) (Av.Bf s.le h5 (S:=NL) λ_ _ h=>h) dC<|Aeq (AID 100) AAT GL dC AfB) (tK 6) ?_;rintro _ ⟨zb,aa,L,K3,rfl,F,D⟩;have N:=(M.swap.a F D).swap;have d:=ANC 0;have c:=ANC 100;have af:=Aen d dC<|Aem GL<|Aev<|EU 0;have ag:=Aen c dC<|Aem GL<|Aev<|EU 100;have ao:QL (Hh (KB 0) high):=Ui d dC _;have ap:QL (Hh (KB 100) high):=Ui c dC _;have hp:=AQI;unfold KB at d c af ag ao ap hp;generalize Fe (EG<|EU 0) GL=u at*;generalize Fe (EG<|EU 100) GL=m at*;let⟨p1,⟨t,p2,p3,p4⟩,p5,⟨o,p6,p7,p8⟩,p9⟩:=hp;have r:I.le K3:=a.trans N.le;refine gG<|A0 (AJC K3 H u Z N.ka (hL.up r) (by have:=d.bf.fl;omega) ([],[]) ⟨dC,dC⟩ af) [] ?_;rintro _ ⟨⟨fa,fn,fc⟩,K4,ah,rfl⟩;have ba:fn=9:=by
  have hn:_=fn*1:=ah.row.n;have e:lN (KT<|D9 u ([],[]))=9:=by unfold KT;rw[DG];exact p1
  rw[e]at hn;omega
 subst ba;refine go func7 [] 2 kR ?_;let⟨b,o',h1,h2,h3,h4⟩:=ah.never (xs:=(D9 u FW).map Kq) (R:=Pu) r (show 9=_ by rw[DG,p1]) (by rw[DG,p1];decide)<|AM9 _;refine Le b K4 o' kR h1 h2 ?_;have O:=N.up h3;generalize K4.never b o'=K5 at h3 h4 O⊢;have G:=E2 p2;have au:=Ac8 d dC K5 H Z O.ka t (by rw[G];exact p2);rw[G]at au;refine gG<|A0 au [] ?_;rintro _ ⟨qt,K6,rfl,q,bq⟩;have ae:=O.up q;have az:=h4.up q (S:=Pu) λ_ _ h=>h;refine gG ?_;refine A0 (Ac4 K6 L m aa ae.kb (λn o ho=>(c.kk.ki.Ep n o ho).Cj) (by have:=c.bk.sl;have:=AAs (n:=120) dC;omega)) (tK 6) ?_;rintro _ ⟨ay,bi,n',m',Lg,K7,W,bb,bo,rfl⟩;have a9:=ae.up W.GJ;have a0:=az.up W.GJ (S:=Pu) λ_ _ h=>h;have ai:=WJ K7 m.Ah ay bi n' m' [1,0] (λx hx=>by simp at hx;omega) (λo ho=>by have:=(c.bk.os [1,0] o ho).q;omega) bb;have bd:Qc m.Ah [1,0]=(o,true):=by unfold Qc;rw[p6]
 rw[bd]at ai;refine gG<|A0 ai [(1,1168),(2,1169),(3,1170)] ?_;rintro _ ⟨qo,K8,rfl,k,bp⟩;have P:=a9.up k;have a1:=a0.up k (S:=Pu) λ_ _ h=>h;let⟨kind,ol,ov,bs,bj,bn,bt,bl⟩:=o;simp only at p7 p8;subst p7;subst p8;have k:=(((h3.trans q).trans W.GJ).trans k);refine gg [(54,hE (t.Aw:Int) 3),(60,hE t.v.n 1 p4)]<|A0 (AJC K8 L m aa P.kb (hL.up<|a.trans P.le) (by have:=c.bf.fl;omega) ([],[]) ⟨dC,dC⟩ ag) (tK 6) ?_;rintro _ ⟨⟨ga,gn,gc⟩,K9,R,rfl⟩;have Q:=P.up R.st.GJ;have a2:=(a1.up R.st.GJ (S:=Pu) λ_ _ h=>h).CW;have aj:lN (D9 m ([],[]))=9:=by rw[show D9 m ([],[])=D9 u ([],[])from p5.symm];exact p1
 have bc:KT (D9 m ([],[]))=((D9 m ([],[])).map Kq).flatMap λx=>[.string x]:=by
  unfold KT;generalize D9 m ([],[])=l;induction l with
  |nil=>rfl
  |cons x l ih=>rw[E4,E4,Kb,ih];rfl
 have E:=R.row;rw[bc]at E;let⟨A,B⟩:=E.Mn (V:=λx=>[Value.string x]) (λ_=>rfl) dC;rw[DG,aj]at A B;have A:gn=9:=A;subst A;have av:=Acz K9 ((D9 u ([],[])).map Kq) ((D9 m ([],[])).map Kq) fa ga fc gc _ _ a2 (B<|by unfold maxLen;decide) (by rw[DG,show(D9 u ([],[])).length=9 from p1];decide);rw[DG,DG,show(D9 u ([],[])).length=9 from p1,aj,show Tr ((D9 u ([],[])).map Kq) ((D9 m ([],[])).map Kq)=true from G5<|by rw[show D9 u ([],[])=D9 m ([],[])from p5]]at av;refine gG<|call av<|gg [(80,SF K9 78 79 (BH (-7)) (BH (-7)) nA nA true<|G5 rfl)]<|call (ZO K9)<|gG ?_;have ad:=ACb K9 H L u m Z aa Q.ka Q.kb (T6 d dC) (T6 c dC) high ALq ao ap (by have:=d.AD;omega) (by have:=c.AD;omega);rw[p9]at ad;refine A0 ad [] ?_;rintro _ ⟨ax,S,rfl⟩;exact gG<|dn [] ⟨ax,a.trans<|Q.le.trans S,rfl⟩
def AEG(i):∃j:Fin 8,EW i=EW j.1:=by rcases Jj i 8 with h|h;exact⟨⟨i,h⟩,rfl⟩;refine⟨⟨0,dC⟩,?_⟩;rw[EW];rw[DK,Jh<|by show 8<=i;exact h];rfl
def Zh(i):A4 (EW i)=EW i:=by
 let⟨j,e⟩:=AEG i;rw[e];have:∀j:Fin 8,A4 (EW j.1)=EW j.1:=by decide+kernel
 exact this j
def AKX(a b):A4 (jn (EW a)<|EW b)=jn (EW a) (EW b)/\fl (EW a) (jn (EW a)<|EW b):=by
 let⟨i,e⟩:=AEG a;let⟨j,c⟩:=AEG b;rw[e,c];have:∀i j:Fin 8,A4 (jn (EW i.1)<|EW j.1)=jn (EW i.1) (EW j.1)/\fl (EW i.1) (jn (EW i.1)<|EW j.1):=by decide+kernel
 exact this i j
def AK9:∀v∈Mb,(v=BH v.n\/(v=D1 v.l/\A4 v.l=v.l)):=by decide+kernel
def Zr(l):∀f∈(Io l).Ax,∃i,i<3/\f=H4 l i:=λf a=>by
 have a:f=H4 l 0\/f=H4 l 1\/f=H4 l 2:=by simpa[Io]using a
 rcases a with rfl|rfl|rfl;exact⟨0,dC,rfl⟩;exact⟨1,dC,rfl⟩;exact⟨2,dC,rfl⟩
def ALA(l):∀f∈(Io l).Ax,∃S,Ng (Io l) f S:=λf a=>by obtain⟨i,_,rfl⟩:=Zr l f a;let⟨S,h,_⟩:=AEZ l i<|AEX l;exact⟨S,h⟩
def Zs(l):Ra (Io l) where
 cs:=by show 16<=64;decide
 fs:=by show 0<3/\3<=16;decide
 ck:=AK9
 fk f b:=by obtain⟨i,_,rfl⟩:=Zr l f b;let⟨S,h,h1,a,d,e⟩:=AEZ l i<|AEX l;exact⟨oG,oG,⟨a,oG⟩,λo c=>(h.op o c).1⟩
def AYB(l):IQ (Io l):=⟨(by decide+kernel:∀v∈Mb,v.kind<=2),(by decide+kernel:∀v∈Mb,A4 v.l=v.l),(by decide+kernel:∀v∈Mb,v.name=[])⟩
def AYA(l):Ie (Io l) where
 cs v hv:=by
  rcases AK9 v hv with h|h;refine .inl ⟨h,?_⟩;have:∀v∈Mb,C7 v.n:=by decide+kernel
  exact this v hv;exact .inr<|.inl h.1
 ar f a:=by obtain⟨i,_,rfl⟩:=Zr l f a;let⟨S,h,h1,b,c,d⟩:=AEZ l i<|AEX l;omega
def AYG(b:Bool)(x):(if b then(0:AH)else UInt8.ofNat<|x/4%4).toNat<=63:=by cases b;have h:x/4%4<4:=JE _ dC;generalize x/4%4=q at h;have:q=0\/q=1\/q=2\/q=3:=oG;rcases this with rfl|rfl|rfl|rfl<;>decide;show(0:AH).toNat<=63;decide
def AHx(a)(b:Bool)(i):(A4 (Ex a b i).l=(Ex a b i).l/\A4 (Ex a b i).c=(Ex a b i).c)/\fl (Ex a b i).l (Ex a b i).c/\(Ex a b i).AR.toNat<=63/\(Ex a b i).box<2/\(Ex a b i).Ao<=999/\(Ex a b i).fn<3:=by refine⟨⟨Zh _,(AKX _ _).1⟩,(AKX _ _).2,AYG _ _,?_,?_,?_⟩;show((CN a (6*i+4)%3:Nat):Int)-1<2;omega;show CN a (6*i+3)%12<=999;omega;show CN a (6*i+1)%3<3;omega
def ACx(c)(a:Bool):QF (Jo c a) (Jb c.BJ 0) (Jb c.BJ 1) (Ex c.BM a 0) (Ex c.BM a 1) (Ex c.BM a 2):=⟨rfl,rfl⟩
def Yo(c)(a:Bool):RY (Jo c a) where
 nb:=by show 2<=8;decide
 nt:=by show 0<3/\3<=8;decide
 bx b hb:=by
  have hb:b=Jb c.BJ 0\/b=Jb c.BJ 1:=by rw[(ACx c a).BJ]at hb;simpa using hb
  rcases hb with rfl|rfl<;>exact Zh _
 th b hb:=by
  have hb:∃i,b=Ex c.BM a i:=by
   rw[(ACx c a).BM]at hb;have:b=Ex c.BM a 0\/b=Ex c.BM a 1\/b=Ex c.BM a 2:=by simpa using hb
   rcases this with h|h|h;exact⟨0,h⟩;exact⟨1,h⟩;exact⟨2,h⟩
  obtain⟨i,rfl⟩:=hb;let⟨⟨f1,d⟩,e,f4,f5,f6,f7⟩:=AHx c.BM a i;refine⟨f7,λf g=> ?_,f1,d,f4,f6,f5,e⟩;have hm:f∈(Io c.Ax).Ax:=De g;obtain⟨j,_,rfl⟩:=Zr c.Ax f hm;rfl
 fs:=by show 3<=1000;decide
def AbU(a i):C7 (Jb a i).v:=by have h:CN a (2*i+1)%4<4:=JE _ dC;show C7 ((CN a (2*i+1)%4:Nat):Int);rw[C7];omega
def ARD(a)(b:Bool)(i):C7 (Ex a b i).n:=by have h:CN a (6*i+5)%4<4:=JE _ dC;show C7 ((CN a (6*i+5)%4:Nat):Int);rw[C7];omega
def AfQ(c)(a:Bool)(m M)(k:∀i,M (Ex c.BM a i).AR):LQ m M 0 (EG<|Jo c a):=by
 refine AYp (ACx c a) (Zh _) (Zh _) (λb d=> ?_) ⟨AbU _ _,AbU _ _⟩ (AYB c.Ax)<|AYA c.Ax;have d:∃i,b=Ex c.BM a i:=by
  have:b=Ex c.BM a 0\/b=Ex c.BM a 1\/b=Ex c.BM a 2:=by simpa using d
  rcases this with h|h|h;exact⟨0,h⟩;exact⟨1,h⟩;exact⟨2,h⟩
 obtain⟨i,rfl⟩:=d;let⟨e,f,l,g,j,n⟩:=AHx c.BM a i;exact⟨e,f,k i,g,j,ARD _ _ _⟩
def APy(I:AB):zP:=λ_ h=>∃J,I.le J/\h= {r:=.v tV,J:=J}
def AVa:∀a∈Kt,CB a:=by decide+kernel
def AVd(l n):∀a∈H0 l n,CB a:=λa hid=>by obtain⟨x,_,rfl⟩:=BI.1 hid;have h:x.toNat%8<lN Kt:=JE _ dC;rw[DK,BS h];exact AVa _<|DR h
def AVc(l n):lN (H0 l n)<=n:=by rw[H0];rw[DG,Cu];omega
def AUz(I:AB)(a b K j:Nat)(c:j<8):Hint:=.BZ (.indexAddr 67 (.tmp a)<|.tmp b) [(a,.s K 0 8 8),(b,.v<|.int .u8<|Int.ofNat j)] [] I (.p K<|0+j*2)<|AKz Be (L:=Bt) (t:=67) (a:=a) (b:=b) (k:=K) (off:=0) (n:=8) (c:=8) (i:=j) (e:=42) rfl rfl c
def AU0(I:AB)(x a:Nat)(b:a<256):Hint:=.BZ (.binOp .rem 5 (.tmp x) (.const<|.int .u8 8) 5) [(x,.v<|.int .u8 (a:Int))] [] I (.v<|.int .u8 ((a%8:Nat):Int))<|AK3 I x a b
def C8.tx{J}{xs}{s}(h:C8 J 1 9 (xs.map Value.string) s)(hm:xs.length<=1000000):s.n=xs.length/\Av J.CW Pu 1 xs s.a s.c (xs.flatMap λx=>[Value.string x]):=by
 have e: ∀l:List ByteArray,l.map Value.string=l.flatMap λx=>[Value.string x]:=λl=>by
  induction l with
  |nil=>rfl
  |cons x l b=>rw[List.map_cons,List.flatMap_cons,b];rfl
 rw[e]at h;let⟨h1,a⟩:=h.Mn (V:=λx=>[Value.string x]) (λ_=>rfl) dC;exact⟨h1,a<|by rw[maxLen];omega⟩
def Ae6(a):Tr a a:=G5 rfl
def AfT(l):KT l=(l.map Kq).map Value.string:=by rw[KT];rw[Gk];rfl
def Aft(l):Aeh l=(l.map PL).map Value.string:=by rw[Aeh];rw[Gk];rfl
def Af4(I)(Y:EB I)(hP:Pow I)(X:Iw I)(Z:Aej I)(c q)(hq:TL I c q)(l:AA AH)(la)(lc:Nat)(f)(hl:Av I JC 1 l la lc f)(m:AH):
 Fn 4 [.g<|Yh c q,.v<|.slice la (lN l) lc,.v<|.int .u8 m.toNat] [] I (APy I) nO:=by
 have aj:m.toNat%8<8:=JE _ dC;have a1:m.toNat<256:=m.toNat_lt;have e:B9 (EW<|m.toNat%8):=AEy _;refine fo func4 λρ a8 w a5=>gG<|A0 (AQJ I Y hP X) [] ?_;rintro _ ⟨R,d,rfl⟩;refine gG<|A0 (Wd R) [] ?_;rintro _ rfl;refine gg [(17,AU0 R 16 m.toNat a1),(18,AUz R 15 17 148 (m.toNat%8) aj),(19,ZI R 18 148 (m.toNat%8) aj)] ?_;generalize EW (m.toNat%8)=at_ at e⊢;have a2:TL R c q:=⟨hq.f.imp λ_ h=>h.up d λx l h=>AH6 d.EA x l h,hq.b.imp λ_ h=>h.up d λ_ _ h=>h,hq.t.imp λ_ h=>h.up d λ_ _ h=>h,hq.fl,hq.fb⟩;refine Cz (AIc R c q a2 tT) λqc J1 ah av=>gG ?_;have p:=d.trans ah;refine A0 (YY J1 (Y.up p) (hP.up p) (Jo c tT) qc av (Yo c tT) (Zs c.Ax)<|ALA c.Ax) [] ?_;rintro _ ⟨ma,La,J2,rfl,am,G⟩;have hz:B6 at_ 0 (EG<|Jo c tT):=AfQ c tT at_ (· =0) λ_=>rfl;have A:Ra (EG<|Jo c tT).im:=Zs c.Ax;have H:Aee (EG<|Jo c tT):=Aev _;generalize EG (Jo c tT)=k0 at G hz A H⊢;refine gg [(24,ZJ J2 23 220)]<|A0 (AKL J2 La k0 ma G (T6 hz dC) at_ e) (tK 220) ?_;rintro _ ⟨mb,Lb,J3,rfl,an,az⟩;have hd:=KL.new am G an az;refine gG<|Cz (AVe J3 l la lc f (hl.up (p.trans<|am.GJ.trans an.GJ) λ_ _ h=>h) 80 dC) λqi J4 ai k=> ?_;let⟨ia,ic⟩:=qi;have aw:=AVc l 80;have F:=AVd l 80;generalize H0 l 80=a at k aw F⊢;have B:=hd.up ai;refine gG<|A0 (AMC J4 La k0 ma B.ka a ia ic _ k oG<|Aeq hz A a oG F) (tK 220) ?_;rintro _ ⟨za,P,y,J5,rfl,J,ae⟩;have C:=B.a J ae
 refine gG<|A0 (AMC J5 Lb (Hh k0 at_) mb C.kb a ia ic _ (Av.Bf J.le k λ_ _ h=>h) oG<|Aeq (Aeo hz) A a oG F) (tK 268) ?_;rintro _ ⟨zb,Q,z,J6,rfl,ak,af⟩;have D:=(C.swap.a ak af).swap;have b:=ER.Fe a<|ER.new hz;have nh:=Aem a<|Afa (l:=at_) H;have nk:=Aem a H;rw[FE]at b;have s:lN a<=200:=oG;generalize Fe (Hh k0 at_) a=O at*;generalize Fe k0 a=kk at*;generalize lN a=n at s b;have au:I.le J6:=p.trans D.le;have a3:LA (Hh O at_) (Hh kk at_):=b.same;have a0:=b.Bo;have a4:=b.thq;refine gG<|A0 (AKL J6 z O Q D.kb (T6 b.a s) at_ e) (tK 268) ?_;rintro _ ⟨m1,L1,J7,rfl,al,ax⟩;have ab:=D.up al.GJ;refine gG<|A0 (AKL J7 y kk P ab.ka (T6 b.b s) at_ e) (tK 220) ?_;rintro _ ⟨m2,L2,J8,rfl,K,ay⟩;have ac:=ab.up K.GJ;have ag:=AWp J8 L1 L2 (Hh O at_) (Hh kk at_) m1 m2 (ax.up K.GJ) ay (Ui b.a s _) (Ui b.b s _) (by show O.AD<=_;have:=b.a.AD;omega) (by show kk.AD<=_;have:=b.b.AD;omega);rw[a3]at ag;refine gG<|A0 ag (tK 388++[(6,412),(7,413),(8,414),(9,415),(10,416)]) ?_;rintro _ rfl;have V:=au.trans<|al.GJ.trans K.GJ;have a6:=b.a.bf.fl;have a7:=b.b.bf.fl;refine gG<|A0 (AJC J8 z O Q ac.kb (X.up V) (by omega) at_ e<|Aen b.a s nh) (tK 268) ?_;rintro _ ⟨⟨fa,fn,fc⟩,J9,E,rfl⟩;have ad:=ac.up E.st.GJ;have W:=V.trans E.st.GJ
 refine gG<|A0 (AJC J9 y kk P ad.ka (X.up W) (by omega) at_ e<|Aen b.b s nk) (tK 220) ?_;rintro _ ⟨⟨ga,gn,gc⟩,S,r,rfl⟩;have t:=ad.up r.st.GJ;have g:=W.trans r.st.GJ;have u:=(E.up r.st.GJ).row;have j:=r.row;rw[a0]at j;rw[AfT]at u j;have hle:lN (D9 O at_)<=1000000:=Ch (RQ _ _) (by omega);let⟨n1,s1⟩:=u.tx (by rwa[DG]);let⟨n2,s2⟩:=j.tx (by rwa[DG]);simp only at n1 n2 s1 s2;subst n1;subst n2;have ao:=Acz S _ _ fa ga fc gc _ _ s1 s2 (by rwa[DG]);rw[Ae6]at ao;refine gG<|call ao<|gG<|A0 (AfE b.a s e S z Q t.kb (X.up g)<|Z.up g) (tK 268) ?_;rintro _ ⟨⟨xa,xn,xc⟩,aq,M,rfl⟩;have i:=g.trans M.st.GJ;refine gG<|A0 (AfE b.b s e aq y P (t.up M.st.GJ).ka (X.up i)<|Z.up i) (tK 220) ?_;rintro _ ⟨⟨ya,yn,yc⟩,T,N,rfl⟩;have U:=i.trans N.st.GJ;have v:=(M.up N.st.GJ).row;have o:=N.row;rw[a4]at o;rw[Aft]at v o;have L:lN (Hh O at_).AC<=1000000:=by have:=(Aeo b.a).bk.tl;omega
 let⟨n3,s3⟩:=v.tx (by rwa[DG]);let⟨n4,s4⟩:=o.tx (by rwa[DG]);simp only at n3 n4 s3 s4;subst n3;subst n4;have ap:=Acz T _ _ xa ya xc yc _ _ s3 s4 (by rwa[DG]);rw[Ae6]at ap;exact gG<|call ap<|gG<|dn [] ⟨T,U,rfl⟩
end
section
open Go.AX Go.ChangeAt Go.ChangeShapes Go.Joins Go.RowKit Go.WideShapes Lz
def We{P w}:∀ {l:AA<|String×DataW Unit} {s:AA MemPlace},DataW.LaidVars P w l s->∀b∈l,∃g t c fuel p,P.globalNamed b.1=some g/\(P.globals[g]?).map (·.type)=some t/\w.var? P b.1=some c/\DataW.trod (λ_=>()) P w 0 (λ_=>true) false fuel t c.toList=some (b.2,p)
 |[],_,_,_,a=>by cases a
 |(n,d)::r,s,h,b,a=>by let⟨g,t,c,fuel,p,q,e,f,i,j,k,_⟩:=h;rcases Co.1 a with rfl|a;exact⟨g,t,c,fuel,p,e,f,i,j⟩;exact We k b a
def ABD{P:B7}{w:AN}{n:String}{g:Nat}{b:Ae AF}(d:P.globalNamed n=sM g)(h:w.var? P n=sM b):∃e a,w.heap[g]? =sM (.cells b e a):=by simp[World.var?,d,Xz]at h;split at h;rename_i c e a f;cases h;exact⟨e,a,f⟩;cases h
def Kw:AA (String×DataW Unit):=[("math/bits.deBruijn32tab",Rows.laid_math_bits_deBruijn32tab),("math/bits.deBruijn64tab",Rows.laid_math_bits_deBruijn64tab),("internal/strconv.uint64pow10",Rows.laid_internal_strconv_uint64pow10),("unicode/utf8.acceptRanges",Rows.laid_unicode_utf8_acceptRanges),("strconv.ErrRange",Rows.laid_strconv_ErrRange),("strconv.ErrSyntax",Rows.laid_strconv_ErrSyntax),("lazaretto/op.table",Rows.laid_lazaretto_op_table),("lazaretto/prin.letters",Rows.laid_lazaretto_prin_letters),("lazaretto/below.words",Rows.laid_lazaretto_below_words),("unicode/utf8.first",Rows.laid_unicode_utf8_first)]
def OG(W:AN):AB:=⟨λb=>W.heap[b]?,λ_=>nO⟩
section
variable {W:World} {s:List MemPlace} (h:DataW.LaidVars Tryz.prog W Kw s)
include h
theorem AWz:Iw (OG W):=by
 let⟨g,t,b,f,p,c,m,n,j⟩:=We h ("lazaretto/prin.letters",Rows.laid_lazaretto_prin_letters) (by simp[Kw]);obtain rfl:=FX<|(show Tryz.prog.globalNamed "lazaretto/prin.letters" =sM 2 by kernel_rfl).symm.trans c;obtain rfl:=FX ((show(Tryz.prog.globals[2]?).map (·.type)=sM 368 by kernel_rfl).symm.trans m);have a:=Lib.cells_of_tab (k:=.u8) (zs:=[97,98,99,100,101,102]) Tryz.underlying368 Tryz.underlying5 kR kR j;let⟨e,d,l⟩:=ABD c n;refine⟨⟨b,e,d,l,λi k=> ?_⟩⟩;let⟨o⟩:=b;simp only at a;subst a
 match i,k with
 |0,_=>rfl
 |1,_=>rfl
 |2,_=>rfl
 |3,_=>rfl
 |4,_=>rfl
 |5,_=>rfl
omit h in
theorem AgA:(Rows.laid_lazaretto_below_words:DataW Unit)=.agg ((List.range 5).map λi=>.lit (.string (PP i).data.toList)):=kR
def Afi:Aej (OG W):=by
 let⟨g,t,cs,f,p,l,ht,u,hd⟩:=We h ("lazaretto/below.words",Rows.laid_lazaretto_below_words) (by simp[Kw]);obtain rfl:=Option.some.inj ((show Tryz.prog.globalNamed "lazaretto/below.words" =some 0 by kernel_rfl).symm.trans l);obtain rfl:=Option.some.inj ((show(Tryz.prog.globals[0]?).map (·.type)=some 163 by kernel_rfl).symm.trans ht);let⟨e,fr,r⟩:=ABD l u;let⟨xs,m,_,v,hl,hlen,q⟩:=DataW.trod_array AfJ hd;refine⟨⟨cs,e,fr,r,λi hi=> ?_⟩⟩;have c9:Tryz.prog.cellsOf 9=1:=kR;have b:=q i oG;rw[c9]at b;obtain⟨y,n⟩: ∃y,xs[i]? =some y:=⟨_,List.getElem?_eq_getElem oG⟩;rw[n]at b;have a:y.1=.lit (.string (PP i).data.toList):=by have c:=(Prod.mk.inj v).1;have j:(Rows.laid_lazaretto_below_words:DataW Unit)=.agg (xs.map (·.1)):=c;rw[AgA]at j;have k:=congrArg (·[i]?) (DataW.agg.inj j);simp only[List.getElem?_map,n,List.getElem?_range hi,Option.map_some,Option.some.injEq]at k;exact k.symm
 let⟨s0,a0,o,_⟩:=DataW.trod_string Tryz.underlying9 b;subst o;simp only[DataW.lit.injEq,Lit.string.injEq]at a;have d:s0=PP i:=ByteArray.ext (Array.toList_inj.1 a);have c:=congrArg (·[0]?) a0;simp only[List.getElem?_take,Nat.zero_lt_one,if_true,List.getElem?_drop,Nat.mul_one,Nat.add_zero]at c;rw[<-Array.getElem?_toList,c,d];rfl
theorem AW0:Pow (OG W):=by
 refine⟨?_,?_⟩;let⟨g,t,b,f,p,a,k,m,i⟩:=We h ("internal/strconv.uint64pow10",Rows.laid_internal_strconv_uint64pow10) (by simp[Kw]);obtain rfl:=FX<|ADk.symm.trans a;obtain rfl:=FX ((show(Tryz.prog.globals[4]?).map (·.type)=sM 422 by kernel_rfl).symm.trans k);let⟨e,c,j⟩:=ABD a m;refine⟨e,c,?_⟩;have:b=(Lib.pow10Tab.map λz=>Value.int .u64 z).toArray:=by rw[<-(Lib.cells_of_tab (k:=.u64) (zs:=Lib.pow10Tab) Tryz.underlying422 Tryz.underlying227 kR kR<|show DataW.trod _ _ _ _ _ _ _ _ _=sM (Lib.tabData .u64 Lib.pow10Tab,p) by rw[i];rfl)]
 rwa[<-this];let⟨g,t,b,f,p,a,k,m,i⟩:=We h ("strconv.ErrSyntax",Rows.laid_strconv_ErrSyntax) (by simp[Kw]);obtain rfl:=FX<|(show Tryz.prog.globalNamed "strconv.ErrSyntax" =sM (Wg.g 15) by kernel_rfl).symm.trans a;let⟨e,c,j⟩:=ABD a m;obtain rfl:=FX ((show(Tryz.prog.globals[Wg.g 15]?).map (·.type)=sM 252 by kernel_rfl).symm.trans k);let⟨_,u,v,n,_,_⟩:=iface_of_trod AOL i;let⟨l⟩:=b;simp only at n;subst n;exact⟨.iface u v,e,c,j,.inr ⟨u,v,rfl⟩⟩
omit h in
theorem Aca:(Rows.laid_lazaretto_op_table:DataW Unit)=.agg ((List.range 47).map λi=>.agg [.lit (.string (Gf.getD i [])),.lit (.int .u8 (Cf (i+1))),.lit (.int .u8 (BP (i+1))),.lit (.int .u8 (D5 (i+1)))]):=kR
theorem AW1:EB (OG W):=by
 let⟨g,t,q,f,p,H,ht,hv,hd⟩:=We h ("lazaretto/op.table",Rows.laid_lazaretto_op_table) (by simp[Kw]);obtain rfl:=FX<|(show Tryz.prog.globalNamed "lazaretto/op.table" =some 1 by kernel_rfl).symm.trans H;obtain rfl:=FX ((show(Tryz.prog.globals[1]?).map (·.type)=some 352 by kernel_rfl).symm.trans ht);let⟨e,fr,ho⟩:=ABD H hv;let⟨T,m,_,hx,hl,hlen,hf⟩:=DataW.trod_array Su hd;refine⟨⟨q,e,fr,ho,λc h1 h2 j x I=> ?_⟩⟩;have l:Tryz.prog.cellsOf 351=4:=kR;have u:=hf (c-1) oG;rw[l]at u;obtain⟨y,J⟩:∃y,T[c-1]? =some y:=⟨_,BS oG⟩;rw[J]at u;have i:y.1=.agg [.lit<|.string<|Gf.getD (c-1) [],.lit<|.int .u8<|Cf c,.lit<|.int .u8<|BP c,.lit<|.int .u8<|D5 c]:=by have o:=(IC hx).1;have E:(Rows.laid_lazaretto_op_table:DataW Unit)=.agg (T.map (·.1)):=o;rw[Aca]at E;have e3:=DataW.agg.inj E;have F:=Dt (·[c-1]?) e3;simp only[GB,J,AGV<|show c-1<47 by omega,LN,QB]at F;rw[<-F,show c-1+1=c by omega]
 let⟨y0,y1,y2,y3,n,z,k,K,M,N,O⟩:=trod_struct4 Tryz.underlying351 u;obtain⟨L,G⟩:∃L,List.take 4 (List.drop ((c-1)*4) q.toList)=L:=⟨_,rfl⟩;rw[G]at k K M N O;rw[l]at k;obtain⟨P,Q,R,S,rfl⟩:∃P Q R S,L=[P,Q,R,S]:=by
  match L,k with
  |[a,b,c,d],_=>exact⟨a,b,c,d,rfl⟩
 have c9:Tryz.prog.cellsOf 9=1:=kR;have Z:Tryz.prog.cellsOf 5=1:=kR;let⟨s0,A,U,_⟩:=DataW.trod_string Tryz.underlying9 K;let⟨n1,B,V,_⟩:=DataW.trod_int Tryz.underlying5 M;let⟨n2,C,X,_⟩:=DataW.trod_int Tryz.underlying5 N;let⟨n3,D,Y,_⟩:=DataW.trod_int Tryz.underlying5 O;simp only[c9,Z,S6,AGP,ABp,List.take_zero,P6,_root_.and_true]at A B C D;subst A B C D U V X Y;rw[z]at i;simp only[DataW.agg.injEq,P6,DataW.lit.injEq,Lit.string.injEq,Lit.int.injEq,_root_.true_and,_root_.and_true]at i;let⟨r0,r1,r2,r3⟩:=i;have w:s0=AJ (Gf.getD (c-1) []):=by rw[<-r0];apply Xn;simp[AJ]
 subst w;subst r1 r2 r3;have v:j<4:=(Ci.1 I).1;have r:q[(c-1)*4+j]? =(Oh c)[j]? :=by have o:=Dt (·[j]?) G;simp only[GO,v,ME,Jg]at o;rw[<-AfM,o];rfl
 rwa[r]
end
end
section
open Go.AX Go.RowKit Lz
def Ql(W:AN):AB:=⟨λb=>W.heap[b]?,λ_=>nO⟩
def AVg(W):Holds W (Ql W):=⟨λ_ _ h=>h,λ_ _ h=>by cases h⟩
def AQv{W W' g d q h}(f:h.AV=[])(a:After (Ql W) g W W' d q h):Below W.heap.size W W':=
 ⟨a.os,a.tape,a.output,a.size,λb e=>a.A2 b e (λi c=>by rw[f]at c;cases c) rfl⟩
def Af5(W)(d:EB<|Ql W)(k:Pow<|Ql W)(j:Iw<|Ql W)(f:Aej<|Ql W)(c q)(p:TL (Ql W) c q){m:Int}(l g)(i:Nat)(a)(n:Av (Ql W) JC 1 l g i a)(o:(Lit.int .u8 m).wf):
 Calls prog 4 #[.agg #[.slice q.fa (lN c.Ax) q.fc,.slice q.ba (lN c.BJ) q.bc,.slice q.ta (lN c.BM) q.tc],.slice g (lN l) i,.int .u8 m] W λe W'=>e=.returned tV/\Below W.heap.size W W':=by
 obtain⟨m,rfl⟩:=AOK o;refine ((Af4 (Ql W) d k j f c q p l g i a n m).out (λ_=>0) 100 W (Ag _) nA (AVg W) nA nA).mono ?_;rintro e W' ⟨h',q',⟨⟨J,hle,rfl⟩,_⟩,hA,rfl⟩;exact⟨rfl,AQv rfl hA⟩
end
end Go.Proofs.YtomehhepbeiinaaGreatDoor
