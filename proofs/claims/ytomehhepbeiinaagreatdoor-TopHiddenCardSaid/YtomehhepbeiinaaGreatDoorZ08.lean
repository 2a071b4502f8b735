/- Part 8 of the proof of TopHidden. No conditions. -/
import Derived.Test.YtomehhepbeiinaaGreatDoorZ07
import Derived.Shelf.Spec.SlicesInsertGrow
set_option maxRecDepth 100000
set_option maxHeartbeats 4000000
set_option linter.all false
open Go renaming run_underlying->rU
open Go.Result renaming andThen_ok->aK
open Go.Builtin renaming zeroCells->zC
open Go.Sem renaming run_bind->rB
open List renaming replicate->lP
open List renaming length->lN
open Option renaming some->sM,none->nO
open Bool renaming true->tT,false->fF
open Go.Value renaming string->vS,bool->vB
open Go.IntKind renaming i64->iK
namespace Go.AX
def Vd{I ρ w d key b r o}(hH:Holds w I)(k:d.os=w.os)(ht:d.tape=w.tape)(g:d.output=w.output)(l:w.heap.size<=d.heap.size)(hb:d.heap[b]? =sM o)(f:I b=nO)(hnew:(I.Ak b).isSome\/w.heap.size<=b)(c:∀x,x<w.heap.size->x≠b->d.heap[x]? =w.heap[x]?):
 After I ρ w d key (λ_=>0) {r:=r,J:=I.plus b o} where
 os:=k
 tape:=ht
 output:=g
 size:=l
 A2 x a _ hO:=c x a λe=>by subst e;rcases hnew with h|h;rw[hO]at h;cases h;omega
 AV kb hkb:=by cases hkb
 nb j x hj:=by simp at hj
 qi i j hi:=by simp at hi
 H2:=by
  refine⟨λx y a=> ?_,λx y a=> ?_⟩;have h0:=hH.1 x y a;rwa[c x (Eg h0) λe=>by rw[e]at a;rw[show I b=sM y from a]at f;cases f];by_cases e:x=b;subst e;rw[Ua]at a;cases a;exact hb;rw[NN _ _ e]at a;have h0:=hH.2 x y a
  grind
 fresh x y a:=.inl a
 IX x y a:=by by_cases e:x=b;rcases hnew with h|h;left;rwa[e];right;exact⟨by rwa[e],λj hj=>by simp at hj⟩;rw[NN _ _ e]at a;left;rw[a];rfl
theorem Li{I:AB}{b o}(h:I b=nO):(I.plus b o).B8 b o:=⟨Ua _ _ _,h⟩
def K0{I:AB}{b x o y}(h:I.B8 x y)(a:x≠b):(I.plus b o).B8 x y:=⟨by rw[NN _ _ a];exact h.Ak,h.at_⟩
def PU{w I}(h:Holds w I){b}(a:w.heap.size<=b):I.free b:=by
 constructor;cases e:I b with
 |none=>rfl
 |some o=>have:=Eg<|h.1 b o e;omega
 cases e:I.Ak b with
 |none=>rfl
 |some o=>have:=Eg<|h.2 b o e;omega
def XR(P:B7){w:AN}{g o e}{a b:AA AF}(c:w.heap[g]? =sM (.cells a.toArray e (0,0)))(i:o+lN b<=lN a)(d:∀v∈b,v.oneCell'):w.setCells g o b=w.setRow g (BX a o b).toArray:=by
 have c1:∀j,j<lN b->(w.cell? ⟨g,o+0+j,nO⟩).isSome:=λj h=>by have:o+j<lN a:=oG;simp[World.cell?,c,this]
 have c2:∀j,j<lN b->w.frozen? ⟨g,o+0+j,nO⟩=fF:=λj h=>by simp[World.frozen?,c]
 have f:=run_storeCells_at P g o e b 0 a.toArray w c (by simpa using i) d;rw[run_storeCells_cells (P:=P) g o b 0 w c1 c2 d]at f;have:=(Result.ok.inj f).2;assumption
end Go.AX
namespace Go.Proofs.YtomehhepbeiinaaGreatDoor
open Tryz
open Go.AX Lz Go.Shelf Go.RowKit
def AD2:Ren where
 f:=λx=>match x with|22=>107|29=>163|30=>164|36=>251|17=>326|n=>n
 t:=λx=>match x with|24=>38|9=>9|3=>3|4=>4|0=>0|n=>n
 g:=λx=>have n:=x;n
def ZU:Lays2.n22 prog AD2:=by constructor<;>first|(intros;exact kR)|(constructor<;>first|(intros;exact kR)|(constructor<;>intros<;>exact kR))
structure QK(I:AB)(ns:AA Nm)(a:AU Au)(c:Nat):Prop where
 at_:(ns=[]/\a=nO/\c=0)\/∃b AE,a=sM ⟨b,0,nO⟩/\I.B8 b (.cells (ns.map BQ++AE).toArray 9 (0,0))/\lN ns+lN AE=c/\c<=maxLen
theorem QK.ns{I e a c}(h:QK I e a c):NsI I e a c:=by rcases h.at_ with⟨rfl,rfl,rfl⟩|⟨b,d,rfl,f,i,g⟩;constructor<;>grind;exact⟨oG,g,λ_=>⟨b,d,rfl,.inr f⟩⟩
def QK.up{I J e a c}(h:QK I e a c)(hle:I.le J):QK J e a c:=by rcases h.at_ with h|⟨b,d,rfl,f,g⟩;exact⟨.inl h⟩;exact⟨.inr ⟨b,d,rfl,hle.Ak _ _ f,g⟩⟩
def Gh(b:AA Nm)(a:AA AF):Obj:=.cells (b.map BQ++a).toArray 9 (0,0)
def Bb:AU Au->AU Nat
 |some x=>sM x.block
 |none=>nO
def AB6(I:AB)(old:AU Au)(d:AA Nm):zP:=λ_ h=>∃b c a,h= {r:=.v<|.slice (aP b) (lN d) c,J:=I.plus b<|Gh d a}/\lN d+lN a=c/\c<=maxLen/\I b=nO/\(Bb old=sM b\/I.free b)
def AeD{I old j a}:VY (AB6 I old j) a I:=by refine⟨?_⟩;rintro i h ⟨b,c,e,rfl,_⟩;exact⟨⟨nA,nA,nA,sP,sP⟩,λ_ _ h=>h⟩
def Uv{l:AA Nm}:∀v∈l.map BQ,v.oneCell':=by intro v a;obtain⟨n,_,rfl⟩:=BI.1 a;rfl
theorem ANg{A J:AA AF}{v o}(a:o=lN A):BX (A++J) o [v]=A++v::J.drop 1:=by simp_all[BX]
theorem Abz{N J:AA AF}{v i o}(c:i<lN N)(a:o=i):BX (BX (N++J) (o+1)<|N.drop i) o [v]=N.take i++v::N.drop i++J.drop 1:=by
 subst a;have b:BX (N++J) (o+1) (N.drop o)=N.take (o+1)++(N.drop o++J.drop 1):=by rw[BX];rw[Ji oG,show o+1+lN (N.drop o)=lN N+1 by simp;omega,S5];simp
 grind[BX]
theorem Aby{A a b D:AA AF}{v o p}(d:o=lN A)(f:p=lN A+1)(g:lN a=1+lN D):BX (BX (A++a++b) o [v]) p D=A++v::D++b:=by subst d f;rw[Eb,ANg rfl];have e:A++v::(a++b).drop 1=(A++[v])++(a++b).drop 1:=sP;rw[e];rw[BX];have c:lN (A++[v])=lN A+1:=sP;rw[<-c,TC,S5,AGO,show 1+lN D=lN a+0 by omega,S5];simp
def AJ2(I)(d:AA Nm)(a c i x)(hr:QK I d a c)(hi:i<=lN d)(hl:lN d<=1000000):
 Fn 107 [.v<|.slice a (lN d) c,.v<|iV i,.s 2 0 1 1] [(2,.cells [.v<|BQ x] 9)] I (AB6 I a (d.take i++x::d.drop i)) nO:=by
 refine⟨FC.of AeD.out λz H w ab hN r V aa=> ?_,AX.JL func107 kR kR⟩;have hlen:lN (d.take i++x::d.drop i)=lN d+1:=by simp;omega
 have J:=hN (2,.cells [.v<|BQ x] 9) (A9.2 rfl) _ rfl;have J:w.heap[z 2]? =sM (.cells [BQ x].toArray 9 (0,0)):=J;have t:=V (2,.cells [.v<|BQ x] 9)<|A9.2 rfl;simp only at t;have C:∀j v,[BQ x][j]? =sM v->w.cell? ⟨z 2,0+j,nO⟩=sM v:=λj v G=>by rw[FE];simpa[World.cell?,J]using G
 have k:∀v∈[BQ x],v.oneCell':=λv u=>by rw[A9.1 u];rfl
 have N:(d.take i++x::d.drop i).map BQ=(d.map BQ).take i++BQ x::(d.map BQ).drop i:=sP;have af:=Bb;have g:∀m:AU Au,i=lN d->c<lN d+1->lN d<=c->(m=nO->lN d=0)->(∀T,m=sM T->∀j v,(d.map BQ)[j]? =sM v->w.cell? (T.add j)=sM v)->a=m->
  Calls prog 107 #[.slice a (lN d) c,.int iK (i:Int),.slice (aP<|z 2) 1 1] w λe S=>∃h q,AB6 I a (d.take i++x::d.drop i) H h/\After I z w S H q h/\e=.returned (AO (h.Bh z H q) h.r):=by
  rintro m rfl hc X O B rfl;have:=Any2.slices_Insert_string_end_grow ZU a (lN d) c (z 2) 0 1 1 (d.map BQ) [BQ x] w dC X hc oG sP rfl O B C k;refine this.mono ?_;rintro e S ⟨rfl,rfl⟩;have P:(w.drew.alloc<|.cells ((d.map BQ++[BQ x]).toArray++zC (Value.string ⟨#[]⟩).cells (grownCap w (lN d+1) c 9-(lN d+1))) 9).heap.size=w.heap.size+1:=sP;have s:=grownCap_le_maxLen w (lN d+1) c 9 (by unfold maxLen;omega);have W:=grownCap_ge w (lN d+1) c 9;refine⟨_,λ_=>0,⟨w.heap.size,grownCap w (lN d+1) c 9,(zC (Value.string ⟨#[]⟩).cells<|grownCap w (lN d+1) c 9-(lN d+1)).toList,rfl,?_,s,(PU r<|Ag _).1,.inr<|PU r<|Ag _⟩,Vd r rfl rfl rfl (by simp) ?_ (PU r<|Ag _).1 (.inr<|Ag _) λy R _=> ?_,?_⟩;rw[hlen,ABN];show _+(_*1)=_;omega;have:=SY w.drew<|.cells ((d.map BQ++[BQ x]).toArray++zC (Value.string ⟨#[]⟩).cells (grownCap w (lN d+1) c 9-(lN d+1))) 9;refine this.trans ?_;unfold Gh;rw[N,Na sP,RN sP];congr 2;apply Lu.1;simp;exact(ADm w.drew _).block y R;rw[hlen];rfl
 rcases hr.at_ with⟨rfl,rfl,rfl⟩|⟨b,n,rfl,E,ae,L⟩;have e0:i=0:=by simpa using hi
 exact g nO e0 sP sP (λ_=>rfl) (λT e=>by cases e) rfl;have f:=r.2 b _ E.Ak;have Y:z 2≠b:=λe=>by have:=t.2;rw[e,E.Ak]at this;cases this
 have B:∀j v,(d.map BQ)[j]? =sM v->w.cell? ⟨b,0+j,nO⟩=sM v:=λj v G=>by
  have ac:=(Ci.1 G).1;rw[FE];simp[World.cell?,f]
  grind
 by_cases hend:i=lN d;by_cases l:c<lN d+1;exact g (aP b) hend l oG (λe=>by cases e) ((by grind[Addr.add_mid])) rfl;subst hend;have:=Any2.slices_Insert_string_end_room ZU b 0 (lN d) c (z 2) 0 1 1 [BQ x] w dC oG (by assumption) rfl (λj G=> ?_) (λj G=> ?_) C k;refine this.mono ?_;rintro e S ⟨rfl,rfl⟩;rw[XR prog f (by simp;omega) k];refine⟨_,λ_=>0,⟨b,c,n.drop 1,rfl,?_,L,E.at_,.inl rfl⟩,Vd r rfl rfl rfl (by simp) ?_ E.at_ (.inl<|by rw[E.Ak];rfl) λy R D=>Ir λe=>D e.symm,?_⟩
 grind
 rw[Lm f];unfold Gh
 grind[ANg]
 rw[hlen];rfl;have:j=0:=oG;subst this;simp[World.cell?,f,IB,FE]
 grind
 simp[World.frozen?,f];have M:i<lN d:=oG;by_cases l:c<lN d+1;have:=Any2.slices_Insert_string_grow ZU b 0 (lN d) c i (z 2) 0 1 1 (d.map BQ) [BQ x] w M dC oG l oG sP rfl B C Uv k;refine this.mono ?_;rintro e S ⟨rfl,rfl⟩;have s:=grownCap_le_maxLen w (lN d+1) c 9 (by unfold maxLen;omega);have W:=grownCap_ge w (lN d+1) c 9;have hX:((d.map BQ).take i).toArray++zC (Value.string ⟨#[]⟩).cells (lN d+1-i)++zC (Value.string ⟨#[]⟩).cells (grownCap w (lN d+1) c 9-(lN d+1))=((d.map BQ).take i++(zC (Value.string ⟨#[]⟩).cells<|lN d+1-i).toList++(zC (Value.string ⟨#[]⟩).cells<|grownCap w (lN d+1) c 9-(lN d+1)).toList).toArray:=by apply Lu.1;simp
 have z1:(zC (Value.string ⟨#[]⟩).cells<|lN d+1-i).toList.length=lN d+1-i:=by rw[ABN];show _*1=_;omega
 have z2:(zC (Value.string ⟨#[]⟩).cells<|grownCap w (lN d+1) c 9-(lN d+1)).toList.length=grownCap w (lN d+1) c 9-(lN d+1):=by rw[ABN];show _*1=_;omega
 rw[show AD2.t 9=9 from rfl,hX];generalize(zC (Value.string ⟨#[]⟩).cells<|lN d+1-i).toList=p at z1⊢;generalize(zC (Value.string ⟨#[]⟩).cells<|grownCap w (lN d+1) c 9-(lN d+1)).toList=o at z2⊢;have Q:(w.alloc<|.cells ((d.map BQ).take i++p++o).toArray 9).drew.heap[w.heap.size]? =sM (.cells ((d.map BQ).take i++p++o).toArray 9 (0,0)):=SY w<|.cells ((d.map BQ).take i++p++o).toArray 9;rw[XR prog Q (by simp;omega) k];have A:=Lm (cells:=(BX ((d.map BQ).take i++p++o) i [BQ x]).toArray) Q;have U:((w.alloc<|.cells ((d.map BQ).take i++p++o).toArray 9).drew.setRow w.heap.size (BX ((d.map BQ).take i++p++o) i [BQ x]).toArray).drew.heap[w.heap.size]? =sM (.cells (BX ((d.map BQ).take i++p++o) i [BQ x]).toArray 9 (0,0)):=A;rw[XR prog U (by grind[AAr]) λv u=>Uv v<|Mx u];have P:(((w.alloc<|.cells ((d.map BQ).take i++p++o).toArray 9).drew.setRow w.heap.size (BX ((d.map BQ).take i++p++o) i [BQ x]).toArray).drew.setRow w.heap.size (BX (BX ((d.map BQ).take i++p++o) i [BQ x]) (i+1)<|(d.map BQ).drop i).toArray).heap.size=w.heap.size+1:=by rw[Bl.setRow];show((w.alloc<|.cells ((d.map BQ).take i++p++o).toArray 9).drew.setRow w.heap.size _).heap.size=_;rw[Bl.setRow];simp
 refine⟨_,λ_=>0,⟨w.heap.size,grownCap w (lN d+1) c 9,o,rfl,by rw[hlen];omega,s,(PU r<|Ag _).1,.inr<|PU r<|Ag _⟩,Vd r rfl rfl rfl (by rw[P];omega) ?_ (PU r<|Ag _).1 (.inr<|Ag _) λy R _=> ?_,?_⟩
 grind[Gh,Lm,Aby]
 have F:w.heap.size≠y:=oG;rw[Ir F];show((w.alloc<|.cells ((d.map BQ).take i++p++o).toArray 9).drew.setRow w.heap.size _).heap[y]? =_;rw[Ir F];exact(ADm w _).block y R;rw[hlen];rfl;have:=Any2.slices_Insert_string_shift ZU b 0 (lN d) c i (z 2) 0 1 1 (d.map BQ) [BQ x] w M dC oG (by assumption) Y sP rfl B (λj G=> ?_) (λj G=> ?_) C Uv k 9 9 1 c (by simp[World.shape?,J]) (by simp[World.shape?,f];omega) oG (by simp[World.frozen?,J]) (by simp[World.frozen?,J]);refine this.mono ?_;rintro e S ⟨rfl,rfl⟩;have K:w.drew.heap[b]? =sM (.cells (d.map BQ++n).toArray 9 (0,0)):=f;rw[XR prog K (by simp;omega) λv u=>Uv v<|Mx u];have A:=Lm (cells:=(BX (d.map BQ++n) (0+(i+1))<|(d.map BQ).drop i).toArray) K;rw[XR prog A (by rw[AAr<|by simp;omega];simp;omega) k];refine⟨_,λ_=>0,⟨b,c,n.drop 1,rfl,?_,L,E.at_,.inl rfl⟩,Vd r rfl rfl rfl (by simp) ?_ E.at_ (.inl<|by rw[E.Ak];rfl) λy R D=>(Ir λe=>D e.symm).trans<|Ir λe=>D e.symm,?_⟩
 grind
 rw[Lm A];unfold Gh
 grind[Abz]
 rw[hlen];rfl;simp[World.cell?,f,FE]
 grind
 simp[World.frozen?,f]
end Go.Proofs.YtomehhepbeiinaaGreatDoor
namespace Go.Proofs.YtomehhepbeiinaaGreatDoor
open Tryz
section
open Go.AX Go.RowKit Go.Shelf Lz
theorem Adj:prog.underlying 42=sM (.struct<|prog.fieldsOf 42):=(Uw 42 dC).1
variable{w:World}
def ACm(a:Bool)(l):(Instr.checkKey a 10000 42<|.agg<|HG l).run prog w=.ok () w:=by rfl
structure Rw where
 l:AT
 ns:AA Nm
 b:Nat
 c:Nat
 AE:AA AF
def Rw.val(r:Rw):AF:=.slice (aP r.b) (lN r.ns) r.c
def Hk(e:Ar)(r:Rw):Prop:=e.key=.agg (HG r.l)/\e.val=r.val
def G9(L:AA Rw)(l:AT)(i:Nat):AU (Nat×AF):=match L with
 |[]=>nO
 |r::L=>if l=r.l then sM (i,r.val)else G9 L l<|i+1
def ATi(a b):(Op.equal 42 (.agg<|HG a)<|.agg<|HG b).run prog w=.ok (decide<|a=b) w:=eqL w
theorem AJK{l}:∀ {a:AA Ar} {L:AA Rw} (i:Nat),C5 Hk a L->(Instr.findAsking 42 (.agg<|HG l) a i).run prog w=.ok (G9 L l i) w
 |_,_,i,.nil=>rfl
 |_,_,i,.cons (a:=e) (b:=r) ⟨c,d⟩ hr=>by rw[Instr.findAsking,G9];rw[c];simp[rB,ATi,aK];by_cases b:l=r.l;simp_all;rw[AY b];simp[b,decide_false,N7,Hq];exact AJK (i+1) hr
theorem ADR{l a L}(h:C5 Hk a L):(Instr.findKey 42 (.agg<|HG l) a).run prog w=.ok (G9 L l 0) w:=by grind[run_findKey_eq,Adj,AJK]
theorem Ri:∀ {L:AA Rw} {l:AT} {i j:Nat} {v:AF},G9 L l i=sM (j,v)->∃k r,j=i+k/\L[k]? =sM r/\r.l=l/\v=r.val
 |[],_,_,_,_,h=>by cases h
 |r::L,l,i,j,v,h=>by rw[G9]at h;split at h;simp_all;let⟨k,c,d,a,b⟩:=Ri h;exact⟨k+1,c,oG,by simpa using a,b⟩
theorem ACN:∀ {L:AA Rw} {l:AT} {i:Nat},G9 L l i=nO->∀r∈L,r.l≠l
 |[],_,_,_=>λ_ h=>by cases h
 |r::L,l,i,h=>by
  rw[G9]at h;split at h;cases h;rename_i b;intro c a;rcases Co.1 a with e|e
  grind
  exact ACN h c e
def Xb:prog.underlying 176=sM (.map 42 38):=kR
def AeO:∀w,(zeroValue 38).run prog w=.ok zS w:=zeroValue38
theorem AXy{a b d n c L l I}(h:C5 Hk c.toList L){v}(s:v=match G9 L l 0 with|some x=>x.2|none=>.slice nO 0 0):
 HL prog (.lookup 176 (.tmp a) (.tmp b) fF) [(a,SV.m d),(b,DW l)] [(d,.Aq<|.map c n)] I (.v v):=by
 refine .of ?_;rintro r k w ⟨e,f,_⟩ _ hN _ o p;have f:k.eval (.tmp b)=.agg (HG l):=f;have e:k.eval (.tmp a)=.map (sM<|r d):=e;have g:=hN (d,.Aq<|.map c n) sP _ rfl;have j:=ADR (w:=w) (l:=l) h;have i:=ACm (w:=w) c.isEmpty l;have q:=AeO w;simp[execOp,p,e,f,Instr.lookup,rB,rU Xb,aK,MapKept.run_getObj_map g,Sem.run_pure,i,j];cases m:G9 L l 0 with
 |none=>simp_all[AO]
 |some x=>simp_all[AO]
def AbG(l):Instr.sameBits 10000 (.agg<|HG l) (.agg<|HG l):=by rw[show(10000:Nat)=9998+2 from rfl];have a:∀s:Ce,(s==s):=λs=>MapKept.sameBits_self (d:=.string) (k:=vS s) trivial 1;simp[Instr.sameBits,a]
def putRow(a:Ae Ar)(n:Nat)(L:AA Rw)(l:AT)(v:AF):Ae Ar×Nat:=match G9 L l 0 with
 |some x=>(a.modify x.1 λe=>{e with key:=.agg<|HG l,val:=v},n)
 |none=>(a.push {key:=.agg<|HG l,val:=v,born:=n},n+1)
theorem ALQ{c n L l v}(h:C5 Hk c.toList L)(w r)(p:w.heap[r]? =sM (.map c n)):
 (Instr.mapUpdate 176 (.map<|sM r) (.agg<|HG l) v).run prog w=.ok () {w with heap:=w.heap.setIfInBounds r<|.map (putRow c n L l v).1 (putRow c n L l v).2}:=by
 have m:=ADR (w:=w) (l:=l) h;have g:=ACm (w:=w) fF l;simp only[Instr.mapUpdate,rB,rU Xb,aK,MapKept.run_getObj_map p,g,m];rw[putRow];cases f:G9 L l 0 with
 |none=>grind[MapKept.run_setObj_map]
 |some x=>
  let⟨j,u⟩:=x;let⟨k,z,A,B,o,_⟩:=Ri f;have D:(c[j]?.map (·.key)).getD (.agg<|HG l)=.agg (HG l):=by
   cases e:c[j]? with
   |none=>rfl
   |some y=>
    have:∀ {a:AA Ar} {b:AA Rw} {i:Nat} {y:Ar} {q:Rw},C5 Hk a b->a[i]? =sM y->b[i]? =sM q->Hk y q:=by
     intro a b i y q d;induction d generalizing i with
     |nil=>intro h;simp at h
     |cons C E F=>
      grind
    simp only[LN,TH];rw[(this h (i:=j) (y:=y) (q:=z) (by simpa using e) gR).1,o]
  have s:(Instr.keyThatStays (.agg<|HG l)<|.agg<|HG l).run prog w=.ok (.agg<|HG l) w:=by simp[Instr.keyThatStays,AbG]
  grind[rB,aK,MapKept.run_setObj_map]
end
section
open Go.AX Lz
section
variable {I J:AB} (k:I.Da J)
include k
def Dk.Bf{c n a xs}(h:Dk I c a n xs):Dk J c a n xs:=
 ⟨h.len,h.one,h.at_.imp id λ⟨b,d,arr,e,f,g,i,j⟩=>⟨b,d,arr,e,f,g,k b _ i,j⟩⟩
def Av.Bf{e:Type}{R S:e->AA AF->Prop}{b c:Nat}{d:AA e}{a:AU Au}{cells:AA AF}(h:Av I R b d a c cells)(f:∀x l,R x l->S x l):Av J S b d a c cells:=
 ⟨Dk.Bf k h.sl,h.cap,h.max,h.CE.mono f⟩
def AUd(f l)(h:Gd I f l):Gd J f l:=by let⟨b,c,a,e,q⟩:=h;exact⟨b,c,a,e,Av.Bf k q λ_ _ h=>h⟩
def C0.Bf{c p}(h:C0 I c p):C0 J c p:=
 ⟨Av.Bf k h.f<|AUd k,Av.Bf k h.s λ_ _ h=>h,Av.Bf k h.t λ_ _ h=>h⟩
def DZ.Bf{t a}(h:DZ I t a):DZ J t a:=⟨C0.Bf k h.c,Av.Bf k h.s λ_ _ h=>h⟩
def SC(f l)(h:KU I f l):KU J f l:=by rw[KU]at h⊢;let⟨b,c,a,e,q⟩:=h;exact⟨b,c,a,e,Av.Bf k q λ_ _ h=>h⟩
def FJ.Bf{a p}(h:FJ I a p):FJ J a p:=⟨Av.Bf k h.k λ_ _ h=>h,Av.Bf k h.u<|SC k⟩
def EB.Bf(h:EB I):EB J:=by let⟨arr,e,a,b,c⟩:=h.at_;exact⟨arr,e,a,k _ _ b,c⟩
def Pow.Bf(h:Pow I):Pow J:=by let⟨⟨e,c,d⟩,⟨ev,b,a,f,g⟩⟩:=h;exact⟨⟨e,c,k _ _ d⟩,⟨ev,b,a,k _ _ f,g⟩⟩
def FY.Bf{o q}(h:FY I o q):FY J o q:=Av.Bf k h λ_ _ h=>h
def C9.Bf{s a ck}(h:C9 I s a ck):C9 J s a ck:=.of (h.toM.mono λ_ _ z=>FY.Bf k z) h.bo
end
structure El(I:AB)(s:Az)(L:AA Rw)(es:Ae Ar)(ck:Nat):Prop where
 Gb:C5 Hk es.toList L
 B8:∀r∈L,I.B8 r.b (Gh r.ns r.AE)/\lN r.ns+lN r.AE=r.c/\r.c<=maxLen
 bl:(L.map (·.b)).Nodup
 lb:(L.map (·.l)).Nodup
 ok:∀r∈L,∀n∈r.ns,CB n
 len:∀r∈L,lN r.ns<=lN s
 mem:∀n l,(∃r∈L,r.l=l/\n∈r.ns)↔∃o,Am s n=sM o/\o.l=l
 bo:Ic es ck
 Z9:∀r∈L,r.ns.Nodup
 ne:∀r∈L,r.ns≠[]
def El.up{I J s L a ck}(h:El I s L a ck)(hle:I.le J):El J s L a ck:={h with B8:=λr b=>⟨hle.Ak _ _ (h.B8 r b).1,(h.B8 r b).2⟩}
def KA(L:AA Rw)(r:Rw):AA Rw:=match G9 L r.l 0 with
 |some x=>L.set x.1 r
 |none=>L++[r]
def IP(L:AA Rw)(l:AT):AA Nm×AU Au×Nat:=match G9 L l 0 with
 |some x=>match L[x.1]? with|some r=>(r.ns,sM ⟨r.b,0,nO⟩,r.c)|none=>([],nO,0)
 |none=>([],nO,0)
def Aa1(L l):(match G9 L l 0 with|some x=>x.2|none=>.slice nO 0 0)=Value.slice (IP L l).2.1 (lN (IP L l).1) (IP L l).2.2:=by
 rw[IP];cases h:G9 L l 0 with
 |none=>rfl
 |some x=>
  let⟨j,v⟩:=x;let⟨k,r,a,b,d,c⟩:=Ri h;have:L[j]? =sM r:=by rwa[a,FE]
  simp[this];exact c
def Aa0{I s L f c}(h:El I s L f c)(l):QK I (IP L l).1 (IP L l).2.1 (IP L l).2.2/\(∀n∈(IP L l).1,CB n)/\lN (IP L l).1<=lN s:=by
 rw[IP];cases a:G9 L l 0 with
 |none=>exact⟨⟨.inl ⟨rfl,rfl,rfl⟩⟩,nA,Bm _⟩
 |some x=>
  let⟨j,v⟩:=x;let⟨k,r,d,e,p,q⟩:=Ri a;have:L[j]? =sM r:=by rwa[d,FE]
  simp[this];have b:=De this;let⟨g,i,m⟩:=h.B8 r b;exact⟨⟨.inr ⟨r.b,r.AE,rfl,g,i,m⟩⟩,h.ok r b,h.len r b⟩
def AQC{a L}(h:C5 Hk a L){f r}(c:∀e,Hk (f e) r):∀j:Nat,C5 Hk (a.modify j f) (L.set j r):=by
 induction h with
 |nil=>intro j;cases j<;>exact .nil
 |cons b d g=>
  intro j;cases j with
  |zero=>exact .cons (c _) d
  |succ j=>exact .cons b<|g j
def AMR{a n L}(h:C5 Hk a.toList L){r}:C5 Hk (putRow a n L r.l r.val).1.toList (KA L r):=by
 rw[putRow,KA];cases b:G9 L r.l 0 with
 |none=>
  simp[P5];exact h.snoc ⟨rfl,rfl⟩
 |some x=>
  simp[AGF];exact AQC h (λe=>⟨rfl,rfl⟩) x.1
def ALi{m:Type}{l:List m}(h:l.Nodup){j x}(k:∀i,i≠j->∀y,l[i]? =sM y->y≠x):(l.set j x).Nodup:=by
 rw[List.nodup_iff_pairwise_ne,List.pairwise_iff_getElem];intro a b f g n;rw[List.length_set]at f g;rw[List.getElem_set,List.getElem_set];split;split;omega;rename_i c d;exact λq=>k b (λe=>d e.symm) _ (List.getElem?_eq_getElem g) q.symm;split;rename_i c d;exact k a (λe=>c e.symm) _<|List.getElem?_eq_getElem f
 grind[List.pairwise_iff_getElem]
def AMQ{a n L l v}(h:Ic a n):Ic (putRow a n L l v).1 (putRow a n L l v).2:=by rw[putRow];split;exact h.modify _ (λe=>{e with key:=.agg<|HG l,val:=v}) λ_=>rfl;exact h.push _ _
def El.add{I s L V m}(h:El I s L V m){nm o}(J:Ew s nm o)(Y:CB nm){b c AE ns}(H:∀x,x∈ns↔x∈(IP L o.l).1\/x=nm)(Q:lN ns=lN (IP L o.l).1+1)(ab:ns.Perm (nm::(IP L o.l).1))(hc:lN ns+lN AE=c)(hm:c<=maxLen)(ag:I b=nO)(p:Bb (IP L o.l).2.1=sM b\/I.free b):
 El (I.plus b<|Gh ns AE) (Cy s nm o) (KA L ⟨o.l,ns,b,c,AE⟩) (putRow V m L o.l<|.slice (aP b) (lN ns) c).1 (putRow V m L o.l<|.slice (aP b) (lN ns) c).2/\(∀x y,I.B8 x y->(∀r∈L,r.b≠x)->(I.plus b<|Gh ns AE).B8 x y)/\∀r∈KA L ⟨o.l,ns,b,c,AE⟩,(∃r0∈L,r0.b=r.b)\/I.free r.b:=by
 have hlen:lN (Cy s nm o)=lN s+1:=by rw[Cy];rw[if_pos J];simp
 have O:=I3 J;have aa:Am s nm=nO:=by rw[Ew]at J;simp only[Bool.and_eq_true]at J;exact Option.isNone_iff_eq_none.1 J.2
 have d:∀r∈L,nm∉r.ns:=λr a g=>by
  let⟨W,D,_⟩:=(h.mem nm r.l).1 ⟨r,a,rfl,g⟩
  grind
 have w:C5 Hk (putRow V m L o.l<|.slice (aP b) (lN ns) c).1.toList (KA L ⟨o.l,ns,b,c,AE⟩):=AMR (r:=⟨o.l,ns,b,c,AE⟩) h.Gb;have hnew:ns.Nodup:=by
  rw[ab.nodup_iff,List.nodup_cons];have U:(IP L o.l).1=[]\/∃r∈L,(IP L o.l).1=r.ns:=by rw[IP];split;split;rename_i r a;exact .inr ⟨r,List.mem_of_getElem? a,rfl⟩;exact .inl rfl;exact .inl rfl
  rcases U with e|⟨r,a,e⟩
  grind
  rw[e];exact⟨d r a,h.Z9 r a⟩
 have z:∀r∈KA L ⟨o.l,ns,b,c,AE⟩,r.ns.Nodup:=λr a=>by
  have:r∈L\/r=⟨o.l,ns,b,c,AE⟩:=by rw[KA]at a;split at a;exact List.mem_or_eq_of_mem_set a;rcases List.mem_append.1 a with q|q;exact .inl q;exact .inr<|List.mem_singleton.1 q
  rcases this with q|q;exact h.Z9 r q;rwa[q]
 have A:∀r∈KA L ⟨o.l,ns,b,c,AE⟩,r.ns≠[]:=λr a=>by
  have:r∈L\/r=⟨o.l,ns,b,c,AE⟩:=by rw[KA]at a;split at a;exact List.mem_or_eq_of_mem_set a;rcases List.mem_append.1 a with q|q;exact .inl q;exact .inr<|List.mem_singleton.1 q
  rcases this with q|q;exact h.ne r q
  grind
 have T:=AMQ (L:=L) (l:=o.l) (v:=.slice (aP b) (lN ns) c) h.bo;cases S:G9 L o.l 0 with
 |none=>
  have R:IP L o.l=([],nO,0):=by rw[IP];rw[S]
  rw[R]at H Q p;have G:I.free b:=by rcases p with p|p;cases p;exact p
  have u:KA L ⟨o.l,ns,b,c,AE⟩=L++[⟨o.l,ns,b,c,AE⟩]:=by rw[KA];simp only[S]
  have F:∀r∈L,r.b≠b:=λr a e=>by have:=(h.B8 r a).1.Ak;rw[e,G.2]at this;cases this
  rw[u]at w z A⊢;have ad:=ACN S;refine⟨⟨w,λr a=> ?_,?_,?_,λr a=> ?_,λr a=> ?_,λn l=> ?_,T,z,A⟩,λx y N t=> ?_,λr a=> ?_⟩;rcases List.mem_append.1 a with q|q;exact⟨K0 (h.B8 r q).1<|F r q,(h.B8 r q).2⟩
  grind[Li]
  rw[List.map_append,List.nodup_append];refine⟨h.bl,sP,λx N y hy=> ?_⟩
  grind
  rw[List.map_append,List.nodup_append];refine⟨h.lb,sP,λx N y hy=> ?_⟩
  grind
  rcases List.mem_append.1 a with q|q;exact h.ok r q
  grind
  rw[hlen];rcases List.mem_append.1 a with q|q;have:=h.len r q;omega
  grind
  rw[O];constructor;rintro⟨r,a,K,g⟩;rcases List.mem_append.1 a with q|q;have t:n≠nm:=λe=>d r q (by rwa[<-e]);rw[if_neg t];exact(h.mem n l).1 ⟨r,q,K,g⟩
  grind
  rintro⟨W,D,P⟩;split at D;simp_all;let⟨r,a,h1,h2⟩:=(h.mem n l).2 ⟨W,D,P⟩
  grind
  exact K0 N λe=>by rw[e]at N;have:=N.Ak;rw[G.2]at this;cases this
  grind
 |some x=>
  let⟨j,v⟩:=x;let⟨k,r0,e1,e2,e3,e4⟩:=Ri S;have X:L[j]? =sM r0:=by rwa[e1,Nat.zero_add]
  have ah:=(List.getElem?_eq_some_iff.1 X).1;have R:IP L o.l=(r0.ns,sM ⟨r0.b,0,nO⟩,r0.c):=by rw[IP];rw[S];simp only[X]
  have B:=List.mem_of_getElem? X;rw[R]at H Q p;simp only at H Q p;have u:KA L ⟨o.l,ns,b,c,AE⟩=L.set j ⟨o.l,ns,b,c,AE⟩:=by rw[KA];simp only[S]
  rw[u]at w z A⊢;have F:∀i r,i≠j->L[i]? =sM r->r.b≠b:=λi r f E e=>by
   rcases p with p|p;have p:r0.b=b:=by simpa[Bb]using p
   have Y:=List.pairwise_iff_getElem.1 h.bl
   grind
   have:=(h.B8 r<|List.mem_of_getElem? E).1.Ak;rw[e,p.2]at this;cases this
  have C:∀r∈L.set j ⟨o.l,ns,b,c,AE⟩,r=⟨o.l,ns,b,c,AE⟩\/∃i,i≠j/\L[i]? =sM r:=by grind[List.mem_iff_getElem?]
  have ae:(⟨o.l,ns,b,c,AE⟩:Rw)∈L.set j ⟨o.l,ns,b,c,AE⟩:=List.mem_iff_getElem?.2 ⟨j,by grind⟩;have af:∀i r,i≠j->L[i]? =sM r->r∈L.set j ⟨o.l,ns,b,c,AE⟩:=λi r f E=>List.mem_iff_getElem?.2 ⟨i,by grind⟩;have ac:∀i r,i≠j->L[i]? =sM r->r.l≠o.l:=λi r f E e=>by
   have Y:=List.pairwise_iff_getElem.1 h.lb
   grind
  refine⟨⟨w,λr a=> ?_,?_,?_,λr a=> ?_,λr a=> ?_,λn l=> ?_,T,z,A⟩,λx y N t=> ?_,λr a=> ?_⟩;rcases C r a with e|⟨i,f,E⟩
  grind[Li]
  have M:=List.mem_of_getElem? E;exact⟨K0 (h.B8 r M).1<|F i r f E,(h.B8 r M).2⟩;rw[List.map_set];refine ALi h.bl λi f x N e=> ?_
  grind
  rw[List.map_set];refine ALi h.lb λi f x N e=> ?_
  grind
  rcases C r a with e|⟨i,f,E⟩;rw[e];intro n Z;rcases(H n).1 Z with q|q;exact h.ok r0 B n q;rwa[q];exact h.ok r<|List.mem_of_getElem? E;rw[hlen];rcases C r a with e|⟨i,f,E⟩;rw[e];have:=h.len r0 B
  grind
  have:=h.len r<|List.mem_of_getElem? E;omega;rw[O];constructor;rintro⟨r,a,K,g⟩;rcases C r a with e|⟨i,f,E⟩;rw[e]at K g;rcases(H n).1 g with q|q;have t:n≠nm:=λe=>d r0 B (by rwa[<-e]);rw[if_neg t];exact(h.mem n l).1 ⟨r0,B,by rwa[e3],q⟩
  grind
  have M:=List.mem_of_getElem? E;have t:n≠nm:=λe=>d r M (by rwa[<-e]);rw[if_neg t];exact(h.mem n l).1 ⟨r,M,K,g⟩;rintro⟨W,D,P⟩;split at D
  grind
  let⟨r,a,h1,h2⟩:=(h.mem n l).2 ⟨W,D,P⟩
  grind[List.mem_iff_getElem?]
  refine K0 N λe=> ?_;rcases p with p|p
  grind[Bb]
  have:=N.Ak;rw[e,p.2]at this;cases this
  grind[Bb]
def C9.AP7{I s e n}(h:C9 I s e n){c o}(a:Ew s c o)(f:BV c){q}(g:FY I o q):C9 I (Cy s c o) (e.push {key:=vS<|Aa c,val:=.agg (GK o q).toArray,born:=n}) (n+1):=by
 have d:Cy s c o=s++[(c,o)]:=by rw[Cy];rw[if_pos a]
 have b:Am s c=nO:=by rw[Ew]at a;simp only[Bool.and_eq_true]at a;exact Option.isNone_iff_eq_none.1 a.2
 rw[d];exact .of (h.toM.add b f g n)<|h.bo.push _ _
def F5{n}(h:CB n):BV n:=by rw[CB]at h;simp[Bool.and_eq_true,List.all_eq_true,decide_eq_true_eq]at h;exact h.2
def APG(I:AB)(L:AA Rw)(f:Az):zP:=λ_ h=>∃(a b:Ae Ar)(e d:Nat)(c:AA Rw)(J:AB),I.Da J/\C9 J f a e/\El J f c b d/\(∀x y,I.B8 x y->(∀r∈L,r.b≠x)->J.B8 x y)/\(∀r∈c,(∃g∈L,g.b=r.b)\/∀y,¬I.B8 r.b y)/\h= {r:=.v<|.int iK 0,AV:=LB a b e d,J:=J}
theorem Pg{a:Type}{l:List a}{i x y}:x∈l.take i++y::l.drop i↔x∈l\/x=y:=by grind[List.take_append_drop]
def YO(I)(hP:Pow I)(s D v n m L e o q)(A:Ew s e o)(W:B9 o.l)(Z:lN o.var.q<=1000000)(hq:FY I o q)(h:C9 I s D n)(hN:El I s L v m)(hs:lN s<=900000):
 Fn 89 [.p 1 0,.v<|sV e,.g<|Fx o q] (LB D v n m) I (APG I L<|Cy s e o) nO:=by
 have k:=A;rw[Ew]at k;simp only[Bool.and_eq_true,decide_eq_true_eq]at k;let⟨⟨⟨t,hk⟩,hnl⟩,hno⟩:=k;have u:=F5 t;have j:=(h.find u).1<|Option.isNone_iff_eq_none.1 hno;have F:=Zm I o.l W;rw[show(Lz.A4 o.l==o.l)=tT by simpa using hnl]at F;refine fo func89 λρ key w ab=>gG<|call (ALm I hP e t)<|gg [(18,hF<|(o.kind:Int)<3),(23,hF<|(o.kind:Int)>7)]<|call F<|gg [(37,Aez Aer I tT 35 36 2 n ABM j)]<|Cz (Yp I o q Z hq) λN J hle Y=>gG<|Qv (t:=175) (km:=2) (m0:=n) (m1:=n+1) (es:=D) (es':=D.push {key:=vS<|Aa e,val:=.agg (GK o N).toArray,born:=n}) (m:=.tmp 44) (k:=.tmp 45) (x:=.tmp 47) (kv:=vS<|Aa e) (v:=.agg (GK o N).toArray) (sk:=.v<|sV e) (sx:=.g<|Fx o N) (I':=J) kR kR kR (λ_=>rfl) kR (λρ=>by rfl) (λw r R=>Wn (kv:=vS<|Aa e) (v:=.agg (GK o N).toArray) Pw Di trivial j w r R) kR ?_;have E:=hN.up hle;let⟨i,B,G⟩:=Aa0 E o.l;have l:=Aa1 L o.l;generalize K:IP L o.l=aa at i B G l;let⟨a,O,P⟩:=aa;simp only at i B G l;refine gg [(54,.BZ (.lookup 176 (.tmp 51) (.tmp 53) fF) [(51,.m 3),(53,DW o.l)] [(3,.Aq<|.map v m)] J (.v<|.slice O (lN a) P)<|AXy hN.Gb l.symm)]<|Cz (AJH J (hP.up hle) a O P e i.ns B t oG) λp C f hp=> ?_;let⟨d,pf⟩:=p;have X:d<=lN a:=hp.1;refine gG<|A0 (AJ2 C a O P d e (i.up f) X oG) [(2,636)] λh' hh=> ?_;obtain⟨b,c,g,rfl,T,U,Q,S⟩:=hh
 refine gG<|Qv (t:=176) (km:=3) (m0:=m) (m1:=(putRow v m L o.l<|.slice (aP b) (lN (a.take d++e::a.drop d)) c).2) (es:=v) (es':=(putRow v m L o.l<|.slice (aP b) (lN (a.take d++e::a.drop d)) c).1) (m:=.tmp 64) (k:=.tmp 66) (x:=.tmp 71) (kv:=.agg<|HG o.l) (v:=.slice (aP b) (lN (a.take d++e::a.drop d)) c) (sk:=DW o.l) (sx:=.v<|.slice (aP b) (lN (a.take d++e::a.drop d)) c) (I':=C.plus b<|Gh (a.take d++e::a.drop d) g) kR kR kR (λ_=>rfl) kR (λρ=>rfl) (λw r R=>ALQ hN.Gb w r R) kR<|gG ?_;have H:=El.add (E.up f) A t (b:=b) (c:=c) (AE:=g) (ns:=a.take d++e::a.drop d) (λx=>by rw[K];exact Pg) gR (by grind[List.take_append_drop]) T U Q (by rw[K];exact S);refine dn [] ?_ (h:={r:=.v<|.int iK 0,AV:=LB (D.push {key:=vS<|Aa e,val:=.agg (GK o N).toArray,born:=n}) (putRow v m L o.l<|.slice (aP b) (lN (a.take d++e::a.drop d)) c).1 (n+1) (putRow v m L o.l<|.slice (aP b) (lN (a.take d++e::a.drop d)) c).2,J:=C.plus b<|Gh (a.take d++e::a.drop d) g});refine⟨_,_,_,_,_,C.plus b<|Gh (a.take d++e::a.drop d) g,λx y M=>(hle.trans f).at_ x y M,C9.Bf (I:=J) (J:=C.plus b<|Gh (a.take d++e::a.drop d) g) (λx y M=>f.at_ x y M)<|(h.up hle).AP7 A u Y,H.1,λx y M V=>H.2.1 x y ((hle.trans f).Ak x y M) V,λr hr=>(H.2.2 r hr).imp id λhf y hy=> ?_,rfl⟩;have:=((hle.trans f).Ak _ _ hy).Ak;rw[hf.2]at this;cases this
structure Dd(I:AB)(L:AA Rw)(J:AB)(L':AA Rw):Prop where
 le:I.Da J
 A2:∀x y,I.B8 x y->(∀r∈L,r.b≠x)->J.B8 x y
 CE:∀r∈L',(∃r0∈L,r0.b=r.b)\/∀y,¬I.B8 r.b y
def Dd.of{I J L}(h:I.le J):Dd I L J L:=⟨h.EA,λx y b _=>h.Ak x y b,λr a=>.inl ⟨r,a,rfl⟩⟩
theorem Dd.refl(I L):Dd I L I L:=.of<|AB.le_refl I
def Dd.trans{I J K L L' a}(h:Dd I L J L')(k:Dd J L' K a):Dd I L K a where
 le:=h.le.trans k.le
 A2 x y hx hne:=k.A2 x y (h.A2 x y hx hne) λr d e=>by rcases h.CE r d with⟨r0,h0,b⟩|c;exact hne r0 h0<|b.trans e;exact c y (by rwa[e])
 CE r d:=by rcases k.CE r d with⟨r0,h0,b⟩|c;rw[<-b];exact h.CE r0 h0;by_cases hex:∃r0∈L,r0.b=r.b;exact .inl hex;right;intro y g;exact c y<|h.A2 _ y g λr0 h0 e=>hex ⟨r0,h0,e⟩
def EZ(t:AL)(a:DV):AA AF:=
 [vS<|Aa t.id,vS<|Aa t.Bg,vS<|AJ t.g.Ad.1,vS<|AJ t.g.Ad.2,vS<|AJ t.g.A5.1,vS<|AJ t.g.A5.2,
  .slice a.p.fa (lN t.c.AG) a.p.fc,.slice a.p.sa (lN t.c.stack) a.p.sc,.slice a.p.ta (lN t.c.AP) a.p.tc,.slice a.ca (lN t.AI) a.cc,.int iK t.A7,.int iK t.Ao,.int iK t.Aw,vS<|Aa t.on,
  .int iK t.v.kind,.int iK t.v.n,vS<|Aa t.v.name,vS<|AJ t.v.l.1,vS<|AJ t.v.l.2,vB t.ex]
def AFj(t a):Dr t a=(EZ t a).map .v:=rfl
def Ps(I:AB)(t:AL)(l:AA AF):Prop:=∃a,l=EZ t a/\DZ I t a
def W5(x:AT×AW):AA AF:=[vS<|AJ x.1.1,vS<|AJ x.1.2]++BG x.2
def SU(x:AT×AW)(l:AA AF):Prop:=l=W5 x
def M9(x:Gr):AA AF:=[.int iK x.op,vS<|AJ x.Qa.1,vS<|AJ x.Qa.2,vS<|AJ x.to.1,vS<|AJ x.to.2,.int .u8 x.AR.toNat]
def Tp(x:Gr)(l:AA AF):Prop:=l=M9 x
def N6(I:AB)(x:Nm×AA AW)(l:AA AF):Prop:=∃a c b,l=[vS<|Aa x.1,.slice a (lN x.2) c]/\Av I F9 5 x.2 a c b
def Ac6{I}(t l)(h:Ps I t l):lN l=20:=by obtain⟨_,rfl,_⟩:=h;rfl
def AZT(t l)(h:SU t l):lN l=7:=by rw[h];rfl
def ATH(t l)(h:Tp t l):lN l=6:=by rw[h];rfl
def AeJ{I}(t l)(h:N6 I t l):lN l=2:=by obtain⟨_,_,_,rfl,_⟩:=h;rfl
structure Ix{a:Type}(I:AB)(R:a->AA AF->Prop)(size:Nat)(xs:AA a)(s:Bi):Prop where
 n:s.n=lN xs
 sl:∃cells,Av I R size xs s.a s.c cells
def Ix.Bf{c:Type}{I J:AB}{R S:c->AA AF->Prop}{a:Nat}{b:AA c}{s:Bi}(h:Ix I R a b s)(hle:I.Da J)(d:∀x l,R x l->S x l):Ix J S a b s:=⟨h.n,h.sl.imp λ_ q=>Av.Bf hle q d⟩
theorem Ix.nil{b:Type}{I R a}:Ix I R a ([]:AA b) ⟨nO,0,0⟩:=⟨rfl,[],Av.empty⟩
structure G6{a:Type}(I:AB)(R:a->AA AF->Prop)(size:Nat)(xs:AA a)(s:Bi):Prop where
 ls:Ix I R size xs s
 nil:xs=[]->s=⟨nO,0,0⟩
def G6.Bf{c:Type}{I J:AB}{R S:c->AA AF->Prop}{a:Nat}{b:AA c}{s:Bi}(h:G6 I R a b s)(hle:I.Da J)(d:∀x l,R x l->S x l):G6 J S a b s:=⟨h.ls.Bf hle d,h.nil⟩
def G6.empty{b:Type}{I R a}:G6 I R a ([]:AA b) ⟨nO,0,0⟩:=⟨Ix.nil,λ_=>rfl⟩
def G6.one{a:Type}{I:AB}{R:a->AA AF->Prop}{size b cap:Nat}{x:a}{row AE:AA AF}{e:BN}(d:I b=sM (.cells (row++AE).toArray e (0,0)))(g:R x row)(j:lN row=size)(c:∀v∈row,v.oneCell')(i:1<=cap)(k:cap<=maxLen):G6 I R size [x] ⟨sM ⟨b,0,nO⟩,1,cap⟩:=
 ⟨⟨rfl,row,Dk.Og d (by rw[j];simp) c,i,k,row,[],sP,g,rfl⟩,λh=>by cases h⟩
structure Env where
 im:A6
 ip:Dw
 AD:Nat
 AP:Nat
 o:Lz.Op
 l:AA AW
 args:Bi
 AR:AH
abbrev Env.x(E:Env)(i:Nat):=E.l.getD i AZ
structure DU where
 a:DV
 BU:Bi
 out:Bi
 Bo:Bi
 BY:Bi
 sm:Sm
 L:AA Rw
def MR(E:Env)(m:DU)(k:Lz.Call):Cl:={im:=E.im,ip:=E.ip,AD:=E.AD,t:=k.t,a:=m.a,AP:=E.AP,BU:=m.BU,out:=m.out,Bo:=m.Bo,BY:=m.BY,done:=k.e.done,o:=E.o,args:=E.args,AR:=E.AR}
abbrev Bn(E:Env)(m:DU)(k:Lz.Call):AA (Nat×AK):=IT (MR E m k) m.sm
structure By(I:AB)(E:Env)(k:Lz.Call)(m:DU):Prop where
 tab:EB I
 pow:Pow I
 img:FJ I E.im E.ip
 args:Ix I F9 5 E.l E.args
 AC:DZ I k.t m.a
 B0:C9 I k.s m.sm.es m.sm.n
 Dl:El I k.s m.L m.sm.ns m.sm.m
 BU:G6 I (Ps I) 20 k.e.BU m.BU
 out:G6 I SU 7 k.e.out m.out
 Bo:G6 I Tp 6 k.e.Bo m.Bo
 BY:G6 I (N6 I) 2 k.e.BY m.BY
def AFl{I J}(hle:I.Da J)(t l)(h:Ps I t l):Ps J t l:=by let⟨a,e,q⟩:=h;exact⟨a,e,DZ.Bf hle q⟩
def ABJ{I J}(hle:I.Da J)(t l)(h:N6 I t l):N6 J t l:=by let⟨a,c,b,e,q⟩:=h;exact⟨a,c,b,e,Av.Bf hle q λ_ _ h=>h⟩
def By.move{I J E k k' m m'}(h:By I E k m)(hle:I.Da J)(he:k'.e.BU=k.e.BU/\k'.e.out=k.e.out/\k'.e.Bo=k.e.Bo/\k'.e.BY=k.e.BY)(hm:m'.BU=m.BU/\m'.out=m.out/\m'.Bo=m.Bo/\m'.BY=m.BY)(ht:DZ J k'.t m'.a)(hs:C9 J k'.s m'.sm.es m'.sm.n)(a:El J k'.s m'.L m'.sm.ns m'.sm.m):By J E k' m' where
 tab:=EB.Bf hle h.tab
 pow:=Pow.Bf hle h.pow
 img:=FJ.Bf hle h.img
 args:=h.args.Bf hle λ_ _ h=>h
 AC:=ht
 B0:=hs
 Dl:=a
 BU:=by rw[he.1,hm.1];exact h.BU.Bf hle<|AFl hle
 out:=by rw[he.2.1,hm.2.1];exact h.out.Bf hle λ_ _ h=>h
 Bo:=by rw[he.2.2.1,hm.2.2.1];exact h.Bo.Bf hle λ_ _ h=>h
 BY:=by rw[he.2.2.2,hm.2.2.2];exact h.BY.Bf hle<|ABJ hle
def By.Lp{I J E k m}(h:By I E k m)(hle:I.le J){t a}(b:DZ J t a):By J E {k with t:=t} {m with a:=a}:=
 h.move hle.EA ⟨rfl,rfl,rfl,rfl⟩ ⟨rfl,rfl,rfl,rfl⟩ b (h.B0.up hle)<|h.Dl.up hle
def EK(I:AB)(L:AA Rw)(E:Env)(b:Lz.Call)(r:SV):zP:=λ_ h=>∃a J,h= {r:=r,AV:=Bn E a b,J:=J}/\Dd I L J a.L/\By J E b a
def Vx{c s key nb}:∀d∈IT c s,d.1∈[1,2,3,4]/\∀k∈d.2.A3,k∈[1,2,3,4]\/(CX key nb k).isSome:=by intro d b;simp[IT,mS]at b;rcases b with rfl|rfl|rfl|rfl;refine⟨sP,λk a=> ?_⟩;simp[Cl.B3,Cl.row,Fa,Dr,Bi.sv,AK.A3,DF,SV.A3]at a;subst a;exact .inl sP;exact⟨sP,λk a=>by simp[AK.A3,DF,SV.A3]at a;rcases a with rfl|rfl<;>exact .inl sP⟩;exact⟨sP,nA⟩;exact⟨sP,nA⟩
def AOi{I L E j r c s}(g:r.A3=[]):VY (EK I L E j r) (IT c s) I:=by refine⟨?_⟩;rintro m h ⟨o,J,rfl,i,_⟩;exact⟨⟨(λk d=>by rw[g]at d;cases d),(λl a=>Vx l a),nA,sP,by simp[IT]⟩,i.le⟩
variable{F:FuncId}{fn:Func}{n:Nat}{I:AB}{w:World}{ρ:Nat->Nat}{A:List Nat}{R:Ec}{f:Bv}
def KO{a I' G E m k c L}(h:Fn G a (Bn E m k) I' (EK I' L E c<|.t []) nO)(hnext:∀b J,Dd I' L J b.L->By J E c b->At F fn n I w ρ A R (f.out (BA []) {r:=.t [],AV:=Bn E b c,J:=J}))(hobs:FH f n G [] (Bn E m k) a I':=by exact kR):At F fn n I w ρ A R f:=
 A0 h [] (hobs:=hobs) λh g=>by obtain⟨b,J,rfl,d,e⟩:=g;exact hnext b J d e
def Rq{a g l G E m k d L o}{b:Int}{j:Nat}(h:Fn G a (Bn E m k) g (EK g L E d<|.v undef)<|sM<|Hg b)(i:Dd l o g L)(e:FH f n G [] (Bn E m k) a g)
 (hend:∀c J,Is (f.σ.EV nO (EL f)<|({r:=.v undef,AV:=Bn E c d,J:=J}:Ab).rn<|BA []) A=sM (Bn E c d)/\GM (Ip<|Bn E c d) A):At F fn n I w ρ A (Ends A I ρ j w (EK l o E d<|.v undef)<|sM<|Hg b) f:=
 Kl h [] (hobs:=e) λh s=>by obtain⟨c,J,rfl,p,q⟩:=s;exact⟨Bn E c d,(hend c J).1,(hend c J).2,c,J,rfl,i.trans p,q⟩
variable{E:Env}{k:Lz.Call}{m:DU}
def Uu(h:By I E k m)(v)(b:lN k.t.c.stack<=1000000):Fn 304 [.p 1 0,Do v] (Bn E m k) I (EK I m.L E (k.push v)<|.t []) nO:=by refine(ANi I m.sm (MR E m k) v b h.AC.c).to ?_;rintro d x ⟨q,J,rfl,hle,c⟩;exact⟨{m with a:={m.a with p:=q}},J,rfl,.of hle,h.Lp hle ⟨c,h.AC.s.up (hle) λ_ _ h=>h⟩⟩
def AbT(h:By I E k m)(b:lN k.t.c.stack<=1000000):Fn 226 [.p 1 0] (Bn E m k) I (EK I m.L E (k.push<|D1 k.t.g.Ad)<|.t []) nO:=by refine(AbS I m.sm (MR E m k) b h.AC.c).to ?_;rintro d x ⟨q,J,rfl,hle,c⟩;exact⟨{m with a:={m.a with p:=q}},J,rfl,.of hle,h.Lp hle ⟨c,h.AC.s.up (hle) λ_ _ h=>h⟩⟩
def AbP(h:By I E k m)(b:lN k.t.c.stack<=1000000):Fn 227 [.p 1 0] (Bn E m k) I (EK I m.L E (k.push<|D1 k.t.g.A5)<|.t []) nO:=by refine(AbO I m.sm (MR E m k) b h.AC.c).to ?_;rintro d x ⟨q,J,rfl,hle,c⟩;exact⟨{m with a:={m.a with p:=q}},J,rfl,.of hle,h.Lp hle ⟨c,h.AC.s.up (hle) λ_ _ h=>h⟩⟩
def By.Bp(h:By I E k m)(g):By I E (k.Bp g) m:=h.move (λ_ _ h=>h) ⟨rfl,rfl,rfl,rfl⟩ ⟨rfl,rfl,rfl,rfl⟩ ⟨h.AC.c,h.AC.s⟩ h.B0 h.Dl
def AFW(h:By I E k m)(l)(c:Mh k.t.g)(b:B9 l)(a:(Et k.t.g l).2=0):Fn 297 [.p 1 0,DW l] (Bn E m k) I (EK I m.L E (k.Bp (Et k.t.g l).1)<|.t []) nO:=by refine(AcC I m.sm (MR E m k) l c b a).to ?_;rintro d x ⟨_,J,rfl,hle,_⟩;exact⟨m,J,rfl,.of hle,(h.Bp _).move hle.EA ⟨rfl,rfl,rfl,rfl⟩ ⟨rfl,rfl,rfl,rfl⟩ (DZ.up ⟨h.AC.c,h.AC.s⟩ hle) (h.B0.up hle)<|h.Dl.up hle⟩
def AFX(h:By I E k m)(l)(c:Mh k.t.g)(b:B9 l)(a:(Et k.t.g l).2≠0):Fn 297 [.p 1 0,DW l] (Bn E m k) I (EK I m.L E k<|.v undef) (sM<|Hg (Et k.t.g l).2):=by refine(AcD I m.sm (MR E m k) l c b a).to ?_;rintro d x rfl;exact⟨m,I,rfl,.refl _ _,h⟩
def AHw(g l):Rm g l=if Dh g l=0 then(⟨A4 l,g.A5⟩,0)else(g,Dh g l):=by rw[Rm,Dh];cases fl g.Ad l<;>cases fl l g.A5<;>simp
def ANK(h:By I E k m)(l)(e:Mh k.t.g)(d:B9 l)(c:Dh k.t.g l=0):Fn 307 [.p 1 0,DW l] (Bn E m k) I (EK I m.L E (k.Bp ⟨A4 l,k.t.g.A5⟩)<|.t []) nO:=by have b:=AHz I k.t.g l e d;rw[AHw,Ac c]at b;exact fo func307 λg f w a=>gG<|call b<|gG<|call (UP I)<|gG<|dn [] ⟨m,I,rfl,.refl _ _,h.Bp _⟩
def ANL(h:By I E k m)(l)(i:Mh k.t.g)(g:B9 l)(a:Dh k.t.g l≠0):Fn 307 [.p 1 0,DW l] (Bn E m k) I (EK I m.L E k<|.v undef) (sM<|Hg<|Dh k.t.g l):=by
 have b:=AHz I k.t.g l i g;rw[AHw,AY a]at b;generalize Dh k.t.g l=e at b a;exact fo func307 λn j w c=>gG<|call b<|gG<|Kl (Zu I e a) [] λd f=>by rw[show d=_ from f];exact⟨Bn E m k,kR,kR,m,I,rfl,.refl _ _,h⟩
def ANb(h:By I E k m)(g:CB k.t.Bg)(f:k.t.A7<=1000000)(i:k.t.Ao<=1000000){t n}(b:GI k.t=sM (t,n)):Fn 313 [.p 1 0] (Bn E m k) I (EK I m.L E {k with t:=t}<|.v<|sV n) nO:=by
 have c:=Z6 I h.pow k.t m.a g f i;have e:I7 k.t=(t,n,tT):=by rw[I7];rw[b]
 rw[e]at c;refine fo func313 λl j w a=>gG<|call c<|gG<|dn [] ⟨m,I,rfl,.refl _ _,?_⟩ (h:={r:=.v<|sV n,AV:=Bn E m {k with t:=t},J:=I});have d:=(Mf b).1;refine h.move (λ_ _ h=>h) ⟨rfl,rfl,rfl,rfl⟩ ⟨rfl,rfl,rfl,rfl⟩ ?_ h.B0 h.Dl;rw[d];exact⟨h.AC.c,h.AC.s⟩
def ANc(h:By I E k m)(i:CB k.t.Bg)(f:k.t.A7<=1000000)(j:k.t.Ao<=1000000)(g:GI k.t=nO):Fn 313 [.p 1 0] (Bn E m k) I (EK I m.L E k<|.v undef) (sM<|Hg (-5)):=by
 have b:=Z6 I h.pow k.t m.a i f j;have e:I7 k.t=(k.t,[],fF):=by rw[I7];rw[g]
 rw[e]at b;exact fo func313 λn l w a=>gG<|call b<|gG<|Kl (Tt I (-5)) [] λc d=>by rw[show c=_ from d];exact⟨Bn E m k,kR,kR,m,I,rfl,.refl _ _,h⟩
def XW(h:By I E k m)(n):Fn 308 [.p 1 0,.v<|sV n] (Bn E m k) I (EK I m.L E (FG k n)<|.t []) nO:=fo func308 λc b w a=>gG<|dn [] ⟨m,I,rfl,.refl _ _,h.move (λ_ _ h=>h) ⟨rfl,rfl,rfl,rfl⟩ ⟨rfl,rfl,rfl,rfl⟩ ⟨h.AC.c,h.AC.s⟩ h.B0 h.Dl⟩
def Ov:AA (Nat×Nat):=[(1,2),(2,3),(3,4)]
def ANG(h:By I E k m)(n o q)(c:Ew k.s n o)(d:B9 o.l)(g:lN o.var.q<=1000000)(A:FY I o q)(B:lN k.s<=900000)(y:lN k.t.c.stack<=1000000):Fn 315 [.p 1 0,.v<|sV n,.g<|Fx o q] (Bn E m k) I (EK I m.L E (OE k n o)<|.t []) nO:=by refine fo func315 λH C w j=>gG<|A0 (YO I h.pow k.s m.sm.es m.sm.ns m.sm.n m.sm.m m.L n o q c d g A h.B0 h.Dl B) Ov λx v=> ?_;obtain⟨a,i,G,D,L',J,hle,p,r,t,u,rfl⟩:=v;have z:By J E {k with s:=Cy k.s n o} {m with sm:=⟨a,G,i,D⟩,L:=L'}:=h.move hle ⟨rfl,rfl,rfl,rfl⟩ ⟨rfl,rfl,rfl,rfl⟩ (DZ.Bf hle h.AC) p r;have f:Dd I m.L J L':=⟨hle,t,u⟩;exact gG<|KO (Uu z (BZ o.kind n o.l) y) λF l e b=>gG<|dn [] ⟨F,l,rfl,f.trans e,b⟩
structure Rb(k:Lz.Call)(o:Ob):Prop where
 g:Mh k.t.g
 l:B9 o.l
 Bg:CB k.t.Bg
 A7:k.t.A7<=1000000
 Ao:k.t.Ao<=1000000
 len:lN k.s<=900000
 N3:lN k.t.c.stack<=1000000
 kind:3<=o.kind/\o.kind<=7
 A4:A4 o.l=o.l
 q:o.var.q=[]
 new:∀t n,GI k.t=sM (t,n)->Am k.s n=nO
def ARc{p n i}(h:child p i=some n):CB n:=by rw[child]at h;split at h;rename_i c;cases h;simp only[Bool.and_eq_true,decide_eq_true_eq]at c;let⟨⟨b,d⟩,h3⟩:=c;rw[CB]at b⊢;simp only[Bool.and_eq_true,decide_eq_true_eq,List.all_eq_true,List.length_append,List.length_singleton,List.mem_append,List.mem_singleton]at b⊢;refine⟨⟨oG,oG⟩,λx a=> ?_⟩;rcases a with a|a;exact b.2 x a;rwa[a];cases h
def Rb.ok{o}(M:Rb k o){t n}(a:GI k.t=sM (t,n)):Ew k.s n o:=by rw[Ew];rw[M.new t n a,ARc (Mf a).2.1];simp[M.kind,M.A4]
def Abq(h:By I E k m)(o q)(l:FY I o q)(M:Rb k o){t n}(j:Dh k.t.g o.l=0)(d:GI k.t=sM (t,n)):Fn 300 [.p 1 0,.g<|Fx o q] (Bn E m k) I (EK I m.L E (OE {k with t:=t} n o)<|.t []) nO:=by have g:=Pz I k.t.g o.l M.g M.l;rw[j]at g;refine fo func300 λx r w f=>gG<|call g<|gG<|call (UP I)<|gG<|A0 (ANb h M.Bg M.A7 M.Ao d) [] ?_;rintro _ ⟨v,u,rfl,a,b⟩;refine gG ?_;refine KO (ANG (k:={k with t:=t}) b n o q (M.ok d) M.l (by rw[M.q];simp) (FY.Bf a.le l) M.len<|by show lN t.c.stack<=_;rw[(Mf d).1];exact M.N3) λs i e c=> ?_;exact gG<|dn [] ⟨s,i,rfl,a.trans e,c⟩
def Abr(h:By I E k m)(o q)(M:Rb k o)(a:Dh k.t.g o.l≠0):Fn 300 [.p 1 0,.g<|Fx o q] (Bn E m k) I (EK I m.L E k<|.v undef) (sM<|Hg<|Dh k.t.g o.l):=by
 have c:=Pz I k.t.g o.l M.g M.l;generalize Dh k.t.g o.l=e at c a;exact fo func300 λi g w b=>gG<|call c<|gG<|Kl (Zu I e a) [] λd f=>by rw[show d=_ from f];exact⟨Bn E m k,kR,kR,m,I,rfl,.refl _ _,h⟩
def Abs(h:By I E k m)(o q)(M:Rb k o)(c:Dh k.t.g o.l=0)(d:GI k.t=nO):Fn 300 [.p 1 0,.g<|Fx o q] (Bn E m k) I (EK I m.L E k<|.v undef) (sM<|Hg (-5)):=by have b:=Pz I k.t.g o.l M.g M.l;rw[c]at b;exact fo func300 λg e w a=>gG<|call b<|gG<|call (UP I)<|gG<|Rq (ANc h M.Bg M.A7 M.Ao d) (.refl _ _) kR λf J=>⟨kR,kR⟩
def Ow(k:Lz.Call)(x:AW):Ob×Bool:=match EY k x with|some o=>(o,tT)|none=>(Db,fF)
def AHB(I:AB)(L:AA Rw)(E:Env)(k:Lz.Call)(r:Ob×Bool):zP:=λ_ h=>∃a q J,h= {r:=.t [.g<|Fx r.1 q,.v<|vB r.2],AV:=Bn E a k,J:=J}/\Dd I L J a.L/\By J E k a/\FY J r.1 q
def AcH(h:By I E k m)(x)(l:BV x.name)(d:∀n o,Am k.s n=sM o->lN o.var.q<=1000000):Fn 306 [.p 1 0,Do x] (Bn E m k) I (AHB I m.L E k<|Ow k x) nO:=by
 refine fo func306 λs r w i=>gG<|A0 (WJ I k.s m.sm.es m.sm.ns m.sm.n m.sm.m x.name l (λo p=>d _ o p) h.B0) Ov λy j=> ?_;obtain⟨q,J,rfl,hle,a⟩:=j;have c:By J E k m:=h.move hle.EA ⟨rfl,rfl,rfl,rfl⟩ ⟨rfl,rfl,rfl,rfl⟩ (h.AC.up hle) (h.B0.up hle)<|h.Dl.up hle;rw[Ow,EY];rw[Qc]at a⊢;cases f:Am k.s x.name with
 |none=>
  rw[f]at a;simp only at a⊢;exact gG<|dn [] ⟨m,HY,J,rfl,.of hle,c,NY⟩
 |some o=>
  rw[f]at a;simp only at a⊢;by_cases g:o.kind=x.kind;by_cases b:o.l=x.l;rw[Ac ⟨g,b⟩];exact gg [(25,EN (o.kind:Int) (x.kind:Int)),(32,T4 J 29 31 o.l x.l tT<|G5 b)]<|dn [] ⟨m,q,J,rfl,.of hle,c,a⟩;rw[AY λe=>b e.2];exact gg [(25,EN (o.kind:Int) (x.kind:Int)),(32,T4 J 29 31 o.l x.l fF<|Gp b)]<|dn [] ⟨m,HY,J,rfl,.of hle,c,NY⟩;rw[AY λe=>g e.1];exact gg [(25,Fs (o.kind:Int) (x.kind:Int))]<|dn [] ⟨m,HY,J,rfl,.of hle,c,NY⟩
def kI(n:Nat):AF:=.int iK (n:Int)
abbrev NI(a:AA Nat):AK:=.As (a.map kI) 3
abbrev Ns(a:AA Nat):AK:=.cells ((a.map kI).map .v) 3
abbrev DJ(E:Env)(m:DU)(k:Lz.Call)(b:AK):AA (Nat×AK):=[(1,(MR E m k).B3),(2,Sl),(3,.Aq<|.map m.sm.es m.sm.n),(4,.Aq<|.map m.sm.ns m.sm.m),(5,b)]
def Iy(I:AB)(L:AA Rw)(E:Env)(c:Lz.Call)(b:AK)(r:SV):zP:=λ_ h=>∃a J,h= {r:=r,AV:=DJ E a c b,J:=J}/\Dd I L J a.L/\By J E c a
def ARg{E m k b}(f:∀x∈b.A3,x∈[1,2,3,4,5]){e g}:∀d∈DJ E m k b,d.1∈[1,2,3,4,5]/\∀k∈d.2.A3,k∈[1,2,3,4,5]\/(CX e g k).isSome:=by intro d c;simp[mS]at c;rcases c with rfl|rfl|rfl|rfl|rfl;refine⟨sP,λk a=> ?_⟩;simp[Cl.B3,Cl.row,Fa,Dr,Bi.sv,AK.A3,DF,SV.A3]at a;subst a;exact .inl sP;exact⟨sP,λk a=>by simp[AK.A3,DF,SV.A3]at a;rcases a with rfl|rfl<;>exact .inl sP⟩;exact⟨sP,nA⟩;exact⟨sP,nA⟩;exact⟨sP,λk a=>.inl<|f k a⟩
def AeA{I L E k i m b e r}(f:r.A3=[])(a:∀x∈b.A3,x∈[1,2,3,4,5]):VY (Iy I L E i b r) (DJ E m k e) I:=by refine⟨?_⟩;rintro l h ⟨n,J,rfl,g,_⟩;exact⟨⟨(λk d=>by rw[f]at d;cases d),(λj c=>ARg a j c),nA,sP,sP⟩,g.le⟩
def AKp(a ρ):(Ns a).AO ρ=(NI a).AO ρ:=by simp only[AK.AO];rw[Gw]
def AKq(b):(Ns b).A3=[]:=by
 have:∀l:AA AF,DF (l.map SV.v)=[]:=λl=>by
  induction l with
  |nil=>rfl
  |cons x l a=>simp[DF,SV.A3,a]
 exact this _
def Fn.AHs{F l I L E k C m b p r z}(h:Fn F l (DJ E m k b) I (Iy I L E C b r) z)(t:∀ρ,p.AO ρ=b.AO ρ)(hb:b.A3=[])(O:p.A3=[])(X:r.A3=[]):Fn F l (DJ E m k p) I (Iy I L E C p r) z:=by
 refine⟨FC.of (AeA X λx K=>by rw[O]at K;cases K).out λρ H w G hN T P D=> ?_,h.Gb⟩;have mem:∀g∈DJ E m k b,∃c∈DJ E m k p,c.1=g.1/\∀ρ,c.2.AO ρ=g.2.AO ρ:=λg a=>by simp[mS]at a;rcases a with rfl|rfl|rfl|rfl|rfl;exact⟨_,DT,rfl,λ_=>rfl⟩;exact⟨(2,Sl),sP,rfl,λ_=>rfl⟩;exact⟨(3,.Aq<|.map m.sm.es m.sm.n),sP,rfl,λ_=>rfl⟩;exact⟨(4,.Aq<|.map m.sm.ns m.sm.m),sP,rfl,λ_=>rfl⟩;exact⟨(5,p),sP,rfl,t⟩
 refine(h.out ρ H w G (λg a o v=> ?_) T (λg a=> ?_) λx K y Q e=> ?_).mono ?_;let⟨c,u,s,N⟩:=mem g a;rw[<-s];exact hN c u o (by rwa[N]);let⟨c,u,s,_⟩:=mem g a;rw[<-s];exact P c u;let⟨Y,u,s,_⟩:=mem x K;let⟨Z,N,S,_⟩:=mem y Q;rw[<-s,<-S];exact D Y u Z N (by rwa[s,S]);rintro e w' ⟨x,q,⟨⟨d,J,rfl,u,s⟩,_⟩,A,he⟩;have M:∀R:AK,Ab.Bh {r:=r,AV:=DJ E d C R,J:=J} ρ H q=ρ:=λR=>by funext n;exact F7 (by rw[CX];split<;>rfl)
 refine⟨{r:=r,AV:=DJ E d C p,J:=J},q,⟨d,J,rfl,u,s⟩,⟨A.os,A.tape,A.output,A.size,λy Q f U=>A.A2 y Q (λg a=> ?_) U,?_,λj y W=>by simp at W,λi j V=>by simp at V,A.H2,A.fresh,A.IX⟩,?_⟩;simp[mS]at a;rcases a with rfl|rfl|rfl|rfl|rfl;exact f (1,(MR E d C).B3) sP;exact f (2,Sl) sP;exact f (3,.Aq<|.map d.sm.es d.sm.n) sP;exact f (4,.Aq<|.map d.sm.ns d.sm.m) sP;exact f (5,p) sP;have B:=A.AV;rw[M]at B⊢;intro g a o v;simp[mS]at a;rcases a with rfl|rfl|rfl|rfl|rfl;exact B (1,(MR E d C).B3) sP o v;exact B (2,Sl) sP o v;exact B (3,.Aq<|.map d.sm.es d.sm.n) sP o v;exact B (4,.Aq<|.map d.sm.ns d.sm.m) sP o v;exact B (5,b) sP o (by rwa[<-t]);rw[he];cases z with
 |some ch=>rfl
 |none=>simp only;rw[M,M]
def kHd(I:AB)(E:Env)(m:DU)(k:Lz.Call)(ks:AA Nat)(i:Nat):Hd where
 Cd:=[(0,.p 1 0),(6,.s 5 0 (lN ks)<|lN ks),(7,.v<|iV<|lN ks),(8,.v<|iV i)]
 Cc:=DJ E m k<|NI ks
 J:=I
def AKr{b:AA Nat}{i a}(h:b[i]? =sM a):(b.map kI)[0+i*1]? =sM (kI a):=by rw[FE,TG,GB,h];rfl
def Abd(h:By I E k m)(a:AA Nat)(hlen:lN a<=lN E.l)(G:lN a<=1000)(y:∀i kd,a[i]? =sM kd->kd=0\/(E.x i).kind=kd):Fn 296 [.p 1 0,.s 5 0 (lN a)<|lN a] (DJ E m k<|NI a) I (Iy I m.L E k (NI a)<|.t []) nO:=by
 let⟨A,r,p⟩:=h.args;let⟨im,ip,AD,AP,o,l,⟨B,K,x⟩,AR⟩:=E;simp only at hlen y A p;subst A;refine fo func296 λN J w z=> ?_;refine gG<|loop (ι:=Nat) (λi=>i<=lN a) (λi=>lN a-i) (kHd I ⟨im,ip,AD,AP,o,l,⟨B,lN l,x⟩,AR⟩ m k a) 300 [] 0 (Bm _) ?_;rintro i M again T;by_cases f:i<lN a;have u:a[i]? =sM a[i]:=BS f;have j:=y i _ u;have s:=AKr u;generalize a[i]=kd at u j s;by_cases C:kd=0;exact gg [(9,tH i<|lN a),(11,Aee Be I 100 6 8 5 0 (lN a) (lN a) i 1 rfl rfl f),(12,Aen Be I 3 11 5 (0+i*1) 3 rfl rfl s),(14,EN (kd:Int) 0),(28,sH i)]<|bk again [] (i+1) (by show i+1<=lN a;omega);have d:(l.getD i AZ).kind=kd:=j.resolve_left C;have g:i<lN l:=oG;have t:l[i]? =sM (l.getD i AZ):=by rw[DK,BS g];rfl
 obtain⟨b,q,arr,e,L,v,rfl,D,F,_,H⟩:=p.cell Jd t;have n:v=BG (l.getD i AZ):=F;have c:=H 0 (.int iK ((l.getD i AZ).kind:Int)) (by rw[n];rfl);rw[d]at c;exact gg [(9,tH i<|lN a),(11,Aee Be I 100 6 8 5 0 (lN a) (lN a) i 1 rfl rfl f),(12,Aen Be I 3 11 5 (0+i*1) 3 rfl rfl s),(14,Fs (kd:Int) 0),(21,Br I Gx b q (lN l) x i g),(23,ED I Ek rfl (q+i*5+0) (iV kd) D c),(25,EN (kd:Int) (kd:Int) rfl),(28,sH i)]<|bk again [] (i+1) (by show i+1<=lN a;omega);exact gg [(9,fH i<|lN a)]<|dn [] ⟨m,I,rfl,.refl _ _,h⟩
def Abe(h:By I E k m)(a:AA Nat)(hlen:lN a<=lN E.l)(S:lN a<=1000)(G:∃i kd,a[i]? =sM kd/\kd≠0/\(E.x i).kind≠kd):Fn 296 [.p 1 0,.s 5 0 (lN a)<|lN a] (DJ E m k<|NI a) I (Iy I m.L E k (NI a)<|.v undef) (sM<|Hg (-1)):=by
 let⟨J,z,u⟩:=h.args;let⟨im,ip,AD,AP,o,l,⟨K,X,v⟩,AR⟩:=E;simp only at hlen G J u;subst J;refine fo func296 λρ V w H=> ?_;refine gG ?_;refine loop (ι:=Nat) (λi=>i<=lN a/\∃j kd,i<=j/\a[j]? =sM kd/\kd≠0/\(l.getD j AZ).kind≠kd) (λi=>lN a-i) (kHd I ⟨im,ip,AD,AP,o,l,⟨K,lN l,v⟩,AR⟩ m k a) 300 [] 0 ⟨Bm _,by let⟨i,kd,A,M⟩:=G;exact⟨i,kd,Bm _,A,M⟩⟩ ?_;rintro i ⟨Z,j,W,P,f,r,s⟩ again T;have Q:=(Ci.1 f).1;have g:i<lN a:=oG;have C:a[i]? =sM a[i]:=BS g;have y:=AKr C;generalize a[i]=kd at C y;have hnext:(kd=0\/(l.getD i AZ).kind=kd)->i+1<=lN a/\∃j kd,i+1<=j/\a[j]? =sM kd/\kd≠0/\(l.getD j AZ).kind≠kd:=λq=>by refine⟨oG,j,W,?_,f,r,s⟩;rcases Jj i j with x|x;exact x;have:i=j:=oG;subst this;rw[C]at f;cases f;rcases q with q|q;exact(r q).elim;exact(s q).elim
 by_cases L:kd=0;exact gg [(9,tH i<|lN a),(11,Aee Be I 100 6 8 5 0 (lN a) (lN a) i 1 rfl rfl g),(12,Aen Be I 3 11 5 (0+i*1) 3 rfl rfl y),(14,EN (kd:Int) 0),(28,sH i)]<|bk again [] (i+1)<|hnext<|.inl L;have n:i<lN l:=oG;have B:l[i]? =sM (l.getD i AZ):=by rw[DK,BS n];rfl
 obtain⟨b,d,arr,e,Y,D,rfl,F,N,_,U⟩:=u.cell Jd B;have t:D=BG (l.getD i AZ):=N;have c:=U 0 (.int iK ((l.getD i AZ).kind:Int)) (by rw[t];rfl);generalize R:(l.getD i AZ).kind=p at c hnext;by_cases A:p=kd;subst A;exact gg [(9,tH i<|lN a),(11,Aee Be I 100 6 8 5 0 (lN a) (lN a) i 1 rfl rfl g),(12,Aen Be I 3 11 5 (0+i*1) 3 rfl rfl y),(14,Fs (p:Int) 0),(21,Br I Gx b d (lN l) v i n),(23,ED I Ek rfl (d+i*5+0) (iV p) F c),(25,EN (p:Int) (p:Int) rfl),(28,sH i)]<|bk again [] (i+1)<|hnext<|.inr rfl;exact gg [(9,tH i<|lN a),(11,Aee Be I 100 6 8 5 0 (lN a) (lN a) i 1 rfl rfl g),(12,Aen Be I 3 11 5 (0+i*1) 3 rfl rfl y),(14,Fs (kd:Int) 0),(21,Br I Gx b d (lN l) v i n),(23,ED I Ek rfl (d+i*5+0) (iV p) F c),(25,Fs (p:Int) (kd:Int))]<|Kl (Tt I (-1)) [] λx O=>by rw[show x=_ from O];exact⟨DJ ⟨im,ip,AD,AP,o,l,⟨sM ⟨b,d,nO⟩,lN l,v⟩,AR⟩ m k<|NI a,kR,kR,m,I,rfl,.refl _ _,h⟩
def Ix.Cp{I l s}(h:Ix I F9 5 l s)(B:0<lN l):∃b d arr e q,s=⟨sM ⟨b,d,nO⟩,lN l,s.c⟩/\I b=sM (.cells arr e q)/\∀i x,l[i]? =sM x->∀j u,(BG x)[j]? =sM u->arr[d+i*5+j]? =sM u:=by let⟨v,g,p⟩:=h;let⟨b,d,arr,e,q,t,y,z⟩:=p.sl.open_ B;refine⟨b,d,arr,e,q,?_,y,λi x C j u o=> ?_⟩;let⟨a,n,c⟩:=s;simp only at t v⊢;rw[t,v];have r:=p.CE.get Jd C;have r:(g.drop<|i*5).take 5=BG x:=r;rw[<-r,GO]at o;split at o;rw[Jg]at o;rw[Nb];exact z _ u o;cases o
structure GR(E:Env)(k:Lz.Call):Prop where
 g:Mh k.t.g
 len:Kf k.t.c
 Bg:CB k.t.Bg
 A7:k.t.A7<=1000000
 Ao:k.t.Ao<=1000000
 XN:lN k.t.AI<=900000
 B0:lN k.s<=900000
 Ep:∀n o,Am k.s n=sM o->B9 o.l/\lN o.var.q<=900000
 Cj:∀v∈E.l,B9 v.l/\BV v.name
 A4:∀v∈E.l,A4 v.l=v.l
 new:∀t n,GI k.t=sM (t,n)->Am k.s n=nO
 e:k.e=A8
 AD:E.AD<=1000000
def rv:AU Int->SV
 |none=>.t []
 |some _=>.v undef
def px:AU Int->AU (AA PanicEntry)
 |none=>nO
 |some c=>sM<|Hg c
abbrev IR(F:Ba)(I:AB)(E:Env)(m:DU)(k:Lz.Call)(r:CR):Prop:=Fn F [.p 1 0] (Bn E m k) I (EK I m.L E r.1<|rv r.2)<|px r.2
variable{I':AB}
def AEC(a K)(h:By I' E k m)(hlen:lN a<=lN E.l)(d:lN a<=1000)(o:∀i e,a[i]? =sM e->e=0\/(E.x i).kind=e)
 (b:FH f n 296 [(5,K)] (DJ E m k<|Ns a) [.p 1 0,.s 5 0 (lN a)<|lN a] I')
 (hnext:∀c J,Dd I' m.L J c.L->By J E k c->At F fn n I w ρ A R (f.out (BA [(5,K)]) {r:=.t [],AV:=DJ E c k<|Ns a,J:=J})):At F fn n I w ρ A R f:=
 A0 ((Abd h a hlen d o).AHs (AKp a) rfl (AKq a) rfl) [(5,K)] (hobs:=b) λh l=>by obtain⟨c,J,rfl,g,j⟩:=l;exact hnext c J g j
def AKN{l o j}(a K)(h:By I' E k m)(e:Dd l o I' m.L)(hlen:lN a<=lN E.l)(d:lN a<=1000)(t:∃i g,a[i]? =sM g/\g≠0/\(E.x i).kind≠g)
 (c:FH f n 296 [(5,K)] (DJ E m k<|Ns a) [.p 1 0,.s 5 0 (lN a)<|lN a] I')
 (hend:∀b J,Is (f.σ.EV nO (EL f)<|({r:=.v undef,AV:=DJ E b k<|Ns a,J:=J}:Ab).rn<|BA [(5,K)]) A=sM (Bn E b k)/\GM (Ip<|Bn E b k) A/\(f.σ.EV nO (EL f)<|({r:=.v undef,AV:=DJ E b k<|Ns a,J:=J}:Ab).rn<|BA [(5,K)]).im=J):At F fn n I w ρ A (Ends A I ρ j w (EK l o E k<|.v undef)<|sM<|Hg (-1)) f:=
 Kl ((Abe h a hlen d t).AHs (AKp a) rfl (AKq a) rfl) [(5,K)] (hobs:=c) λh s=>by obtain⟨b,J,rfl,p,q⟩:=s;exact⟨Bn E b k,(hend b J).1,(hend b J).2.1,b,J,by rw[(hend b J).2.2],e.trans p,q⟩
def AWl{l:AA AW}{a}(h:(l.getD 0 AZ).kind=a):∀i kd,[a][i]? =sM kd->kd=0\/(l.getD i AZ).kind=kd:=by
 intro i kd b
 match i,b with
 |0,b=>cases b;exact .inr h
 |i+1,b=>simp at b
def kx{l:AA AW}{ks:AA Nat}(i kd:Nat)(a:ks[i]? =sM kd)(b:kd≠0)(c:(l.getD i AZ).kind≠kd):∃i kd,ks[i]? =sM kd/\kd≠0/\(l.getD i AZ).kind≠kd:=⟨i,kd,a,b,c⟩
def getD_some{l:AA AW}{i}(h:i<lN l):l[i]? =sM (l.getD i AZ):=by rw[DK,BS h];rfl
def AEH{arr:Ae AF}{o:Nat}{x:AW}(h:∀j u,(BG x)[j]? =sM u->arr[o+j]? =sM u):∀j v,[Value.string<|AJ x.l.1,vS<|AJ x.l.2][j]? =sM v->arr[o+3+j]? =sM v:=by
 intro j v a;rw[Nb];refine h (3+j) v ?_
 match j,a with
 |0,a=>exact a
 |1,a=>exact a
 |j+2,a=>simp at a
def AaQ(h:By I E k m)(P:GR E k)(B:lN E.l=1)(N:E.o.code=27):IR 228 I E m k (CO E.im E.AD E.o E.AR E.l k):=by
 obtain⟨b,d,arr,e,W,a,M,s⟩:=h.args.Cp oG;obtain⟨S,X,H,K,o,l,r,y⟩:=E;simp only at B N a s h P;generalize r.c=L at a;subst a;have G:=s 0 _<|getD_some oG;have p:=P.Cj _<|De<|getD_some (l:=l) (i:=0) oG;have j:=AWl (l:=l) (a:=2);have u:=kx (l:=l) (ks:=[2]) 0 2 rfl dC;have Q:CO S H o y l k=if(l.getD 0 AZ).kind≠2 then(k,sM (-1))else G1 k (l.getD 0 AZ).l λk=>(k,nO):=by rw[CO];rw[N];rfl
 rw[Q];generalize l.getD 0 AZ=x at G p j u;by_cases t:x.kind=2
 .rw[AY<|by simpa using t];rw[G1];by_cases z:(Et k.t.g x.l).2=0
  .rw[AY<|by simpa using z];refine fo func228 λρ v w g=> ?_;refine gG<|AEC [2] 108 h (by simp[B]) sP (j t) kR λU q c i=> ?_;refine gg [(10,Br q Gx b d (lN l) L 0),(12,D8 q Sf (d+0*5+3) [vS<|AJ x.l.1,vS<|AJ x.l.2] rfl (c.le _ _ M)<|AEH G)]<|KO (AFW i x.l P.g p.1 z) λV O D C=> ?_;exact gG<|dn [] ⟨V,O,rfl,c.trans D,C⟩
  .rw[Ac z];refine fo func228 λρ v w g=> ?_;refine gG<|AEC [2] 108 h (by simp[B]) sP (j t) kR λU q c i=> ?_;exact gg [(10,Br q Gx b d (lN l) L 0),(12,D8 q Sf (d+0*5+3) [vS<|AJ x.l.1,vS<|AJ x.l.2] rfl (c.le _ _ M)<|AEH G)]<|Rq (AFX i x.l P.g p.1 z) c kR λT J=>⟨kR,kR⟩
 .rw[Ac t];refine fo func228 λρ v w g=> ?_;exact gG<|AKN [2] 108 h (.refl _ _) (by simp[B]) sP (u t) kR λT J=>⟨kR,kR,kR⟩
abbrev Du:AK:=.cells [.p 1 0] 216
variable{k':Lz.Call}
def AIH{args G L}(c)(h:Fn G args (DJ E m k Du) I' (Iy I' L E k' Du<|.t []) nO)(a:FH f n G c (DJ E m k Du) args I')(hnext:∀b J,Dd I' L J b.L->By J E k' b->At F fn n I w ρ A R (f.out (BA c) {r:=.t [],AV:=DJ E b k' Du,J:=J})):At F fn n I w ρ A R f:=
 A0 h c (hobs:=a) λh g=>by obtain⟨b,J,rfl,d,e⟩:=g;exact hnext b J d e
def ARP{args G L Q v}{b:Int}{key:Nat}(d)(h:Fn G args (DJ E m k Du) I' (Iy I' L E k' Du<|.v undef)<|sM<|Hg b)(e:Dd v Q I' L)(c:FH f n G d (DJ E m k Du) args I')
 (hend:∀a J,Is (f.σ.EV nO (EL f)<|({r:=.v undef,AV:=DJ E a k' Du,J:=J}:Ab).rn<|BA d) A=sM (DJ E a k' Du)/\GM (Ip<|DJ E a k' Du) A/\(f.σ.EV nO (EL f)<|({r:=.v undef,AV:=DJ E a k' Du,J:=J}:Ab).rn<|BA d).im=J):At F fn n I w ρ A (Ends A I ρ key w (Iy v Q E k' Du<|.v undef)<|sM<|Hg b) f:=
 Kl h d (hobs:=c) λh j=>by obtain⟨a,J,rfl,g,i⟩:=j;exact⟨DJ E a k' Du,(hend a J).1,(hend a J).2.1,a,J,by rw[(hend a J).2.2],e.trans g,i⟩
def ARQ{args G L Q v}{b:Int}{key:Nat}(d)(h:Fn G args (DJ E m k Du) I' (Iy I' L E k' Du<|.v undef)<|sM<|Hg b)(e:Dd v Q I' L)(c:FH f n G d (DJ E m k Du) args I')
 (hend:∀a J,Is (f.σ.EV nO (EL f)<|({r:=.v undef,AV:=DJ E a k' Du,J:=J}:Ab).rn<|BA d) A=sM (Bn E a k')/\GM (Ip<|Bn E a k') A/\(f.σ.EV nO (EL f)<|({r:=.v undef,AV:=DJ E a k' Du,J:=J}:Ab).rn<|BA d).im=J):At F fn n I w ρ A (Ends A I ρ key w (EK v Q E k'<|.v undef)<|sM<|Hg b) f:=
 Kl h d (hobs:=c) λh j=>by obtain⟨a,J,rfl,g,i⟩:=j;exact⟨Bn E a k',(hend a J).1,(hend a J).2.1,a,J,by rw[(hend a J).2.2],e.trans g,i⟩
def AII{args v G L Q}{a:Int}{key:Nat}(h:Fn G args (Bn E m k) I' (EK I' L E k'<|.v undef)<|sM<|Hg a)(d:Dd v Q I' L)(c:FH f n G [] (Bn E m k) args I')
 (hend:∀b J,Is (f.σ.EV nO (EL f)<|({r:=.v undef,AV:=Bn E b k',J:=J}:Ab).rn<|BA []) A=sM (DJ E b k' Du)/\GM (Ip<|DJ E b k' Du) A):At F fn n I w ρ A (Ends A I ρ key w (Iy v Q E k' Du<|.v undef)<|sM<|Hg a) f:=
 Kl h [] (hobs:=c) λh i=>by obtain⟨b,J,rfl,e,g⟩:=i;exact⟨DJ E b k' Du,(hend b J).1,(hend b J).2,b,J,rfl,d.trans e,g⟩
def ARS{I' x}(h:Fn 306 [.p 1 0,Do x] (Bn E m k) I' (AHB I' m.L E k<|Ow k x) nO)(a:FH f n 306 [] (Bn E m k) [.p 1 0,Do x] I')(hnext:∀b q J,Dd I' m.L J b.L->By J E k b->FY J (Ow k x).1 q->At F fn n I w ρ A R (f.out (BA []) {r:=.t [.g<|Fx (Ow k x).1 q,.v<|vB (Ow k x).2],AV:=Bn E b k,J:=J})):At F fn n I w ρ A R f:=
 A0 h [] (hobs:=a) λh g=>by obtain⟨b,q,J,rfl,c,d,e⟩:=g;exact hnext b q J c d e
def Ac0{k x}(h:EY k x=nO):Ow k x=(Db,fF):=by rw[Ow];rw[h]
def Ac1{k x o}(h:EY k x=sM o):Ow k x=(o,tT):=by rw[Ow];rw[h]
variable{v:AB}{Q:List Rw}{key:Nat}{args:List SV}{G:FuncId}{q:CR}
def fO(e:Dd v Q I' m.L)(h:Fn G args (Bn E m k) I' (EK I' m.L E q.1<|rv q.2)<|px q.2)
 (l:FH f n G [] (Bn E m k) args I':=by exact kR)
 (c1:∀(a:DU)(b:AB)(c:Lz.Call),Rs [] n A (f.out (BA []) {r:=.t [],AV:=Bn E a c,J:=b}):=by intro _ _ _;exact kR)
 (c2:∀(a:DU)(b:AB)(c:Lz.Call),KY Bt fn.results.toList A [] key (rX [] n A<|f.out (BA []) {r:=.t [],AV:=Bn E a c,J:=b}).f=sM {r:=.t [],AV:=Bn E a c,J:=b}:=by intro _ _ _;exact kR)
 (o:∀(a:DU)(b:AB)(c:Lz.Call),Is (f.σ.EV nO (EL f)<|({r:=.v undef,AV:=Bn E a c,J:=b}:Ab).rn<|BA []) A=sM (Bn E a c)/\GM (Ip<|Bn E a c) A:=by intro _ _ _;exact⟨kR,kR⟩)
 (d:100<=key:=by assumption):At F fn n I w ρ A (Ends A I ρ key w (EK v Q E q.1<|rv q.2)<|px q.2) f:=by
 obtain⟨k',_|j⟩:=q;exact KO h (hobs:=l) λa b i g=>gG (dn [] ⟨a,b,rfl,e.trans i,g⟩ (c2 a b k') d)<|c1 a b k';exact Rq h e l λa b=>o a b k'
def fBB(g:Dd v Q I' m.L)(d)(h:Fn G args (DJ E m k Du) I' (Iy I' m.L E q.1 Du<|rv q.2)<|px q.2)
 (o:FH f n G d (DJ E m k Du) args I':=by exact kR)
 (c1:∀(a:DU)(b:AB)(c:Lz.Call),Rs [] n A (f.out (BA d) {r:=.t [],AV:=DJ E a c Du,J:=b}):=by intro _ _ _;exact kR)
 (c2:∀(a:DU)(b:AB)(c:Lz.Call),KY Bt fn.results.toList A [] key (rX [] n A<|f.out (BA d) {r:=.t [],AV:=DJ E a c Du,J:=b}).f=sM {r:=.t [],AV:=DJ E a c Du,J:=b}:=by intro _ _ _;exact kR)
 (p:∀(a:DU)(b:AB)(c:Lz.Call),Is (f.σ.EV nO (EL f)<|({r:=.v undef,AV:=DJ E a c Du,J:=b}:Ab).rn<|BA d) A=sM (DJ E a c Du)/\GM (Ip<|DJ E a c Du) A/\(f.σ.EV nO (EL f)<|({r:=.v undef,AV:=DJ E a c Du,J:=b}:Ab).rn<|BA d).im=b:=by intro _ _ _;exact⟨kR,kR,kR⟩)
 (e:100<=key:=by assumption):At F fn n I w ρ A (Ends A I ρ key w (Iy v Q E q.1 Du<|rv q.2)<|px q.2) f:=by
 obtain⟨k',_|l⟩:=q;exact AIH d h o λa b j i=>gG (dn [] ⟨a,b,rfl,g.trans j,i⟩ (c2 a b k') e)<|c1 a b k';exact ARP d h g o λa b=>p a b k'
def cg{R r}(h:Fn G args [] I' (BW r I') nO)(a)(c:At F fn n I w ρ A R (rX a n A<|f.out (BA []) {r:=r,J:=I'}).f)
 (d:FH f n G [] [] args I':=by exact kR) (b:Rs a n A (f.out (BA []) {r:=r,J:=I'}):=by exact kR):At F fn n I w ρ A R f:=
 call h (hobs:=d)<|gg a c b
def Vu{R x}(j l:∀J,v.Da J->G8 prog)(h:Dd v Q I' m.L)(u:By I' E k m)(B:BV x.name)(z:∀n o,Am k.s n=sM o->lN o.var.q<=1000000)
 (s:EY k x=nO->∀b q a (c:Dd v Q a b.L),By a E k b->At F fn n I w ρ A R (rX (j a c.le) n A<|f.out (BA []) {r:=.t [.g<|Fx Db q,.v fV],AV:=Bn E b k,J:=a}).f)
 (t:∀d,EY k x=sM d->∀b q a (c:Dd v Q a b.L),By a E k b->FY a d q->At F fn n I w ρ A R (rX (l a c.le) n A<|f.out (BA []) {r:=.t [.g<|Fx d q,.v tV],AV:=Bn E b k,J:=a}).f)
 (y:FH f n 306 [] (Bn E m k) [.p 1 0,Do x] I':=by exact kR)
 (p:∀b q a c,Rs (j a c) n A (f.out (BA []) {r:=.t [.g<|Fx Db q,.v fV],AV:=Bn E b k,J:=a}):=by intro _ _ _ _;exact kR)
 (c1:∀d b q a c,Rs (l a c) n A (f.out (BA []) {r:=.t [.g<|Fx d q,.v tV],AV:=Bn E b k,J:=a}):=by intro _ _ _ _ _;exact kR):At F fn n I w ρ A R f:=
 ARS (AcH u x B z) y λb q a c e g=>by
  cases i:EY k x with
  |none=>rw[Ac0 i];exact gg _ (s i b q a (h.trans c) e)<|p b q a _
  |some d=>rw[Ac1 i]at g⊢;exact gg _ (t d i b q a (h.trans c) e g)<|c1 d b q a _
def ANl(h:By I E k m)(o q)(i:lN k.t.c.stack<=1000000):Fn 302 [.p 1 0,.g<|Fx o q] (Bn E m k) I (EK I m.L E (Ej k o).1<|rv (Ej k o).2) (px (Ej k o).2):=by
 rw[Ej];cases hex:o.ex with
 |true=>
  rw[Ac rfl];exact fo func302 λρ key w a=>gg [(5,.eq (Value.bool o.ex) tV<|by rw[hex])]<|Kl (Tt I o.v.n) [] λe g=>by rw[show e=_ from g];exact⟨Bn E m k,kR,kR,m,I,rfl,.refl _ _,h⟩
 |false=>
  rw[AY sP];exact fo func302 λρ key w a=>gg [(5,.eq (Value.bool o.ex) fV<|by rw[hex])]<|KO (Uu h o.v i) λj d c b=>gG<|dn [] ⟨j,d,rfl,c,b⟩
def Ab9(h:By I E k m)(o q)(e:lN k.t.c.stack<=1000000):Fn 303 [.g<|Fx o q,.p 5 0] (DJ E m k Du) I (Iy I m.L E (k.push o.v) Du<|.t []) nO:=fo func303 λρ key w c=>gG<|KO (Uu h o.v e) λg d b a=>gG<|dn [] ⟨g,d,rfl,b,a⟩
structure ABy(k:Lz.Call)(x:AW):Prop where
 g:Mh k.t.g
 l:B9 x.l
 n:BV x.name
 q:∀n o,Am k.s n=sM o->lN o.var.q<=1000000
 N3:lN k.t.c.stack<=1000000
def ANu{k l f}(h:(Et k.t.g l).2=0):G1 k l f=f (k.Bp (Et k.t.g l).1):=by rw[G1];rw[AY<|by simpa using h]
def ANt{k l f}(h:(Et k.t.g l).2≠0):G1 k l f=(k,sM (Et k.t.g l).2):=by rw[G1];rw[Ac h]
def AcA(h:By I E k m)(x)(P:ABy k x)
 (d:∀I k m o q,By I E k m->FY I o q->lN k.t.c.stack<=1000000->Fn 302 [.p 1 0,.g<|Fx o q] (Bn E m k) I (EK I m.L E (Ej k o).1<|rv (Ej k o).2) (px (Ej k o).2)):
 Fn 301 [.p 1 0,Do x,.fn (.func 302) [.p 1 0] []] (Bn E m k) I (EK I m.L E (Ff k x Ej).1<|rv (Ff k x Ej).2) (px (Ff k x Ej).2):=by
 refine fo func301 λρ key w l=>gG ?_;rw[Ff];by_cases a:(Et k.t.g x.l).2=0;rw[ANu a];exact KO (AFW h x.l P.g P.l a) λy t g c=>gG (Vu (λ_ _=>[]) (λ_ _=>[]) g c P.n P.q (λi p q j e b=>by rw[i];exact fO (q:=(_,nO)) e<|Uu b (BH 0) P.N3) λs i p q j e b r=>by rw[i];exact fO e<|d j _ p s q b r P.N3);rw[ANt a];exact Rq (AFX h x.l P.g P.l a) (.refl _ _) kR λu J=>⟨kR,kR⟩
def AFV{G}(y:G=303\/G=316\/G=321)(h:By I E k m)(x)(P:ABy k x)(g)
 (e:∀I k m o q,By I E k m->FY I o q->lN k.t.c.stack<=1000000->Fn G [.g<|Fx o q,.p 5 0] (DJ E m k Du) I (Iy I m.L E (g k o).1 Du<|rv (g k o).2) (px (g k o).2)):
 Fn 301 [.p 1 0,Do x,.fn (.func G) [] [.p 5 0]] (DJ E m k Du) I (Iy I m.L E (Ff k x g).1 Du<|rv (Ff k x g).2) (px (Ff k x g).2):=by
 rcases y with rfl|rfl|rfl<;>
 .refine fo func301 λρ key w s=>gG ?_;rw[Ff];by_cases a:(Et k.t.g x.l).2=0;rw[ANu a];exact KO (AFW h x.l P.g P.l a) λK D j c=>gG (Vu (λ_ _=>[]) (λ_ _=>[]) j c P.n P.q (λp t q r i b=>by rw[p];exact KO (Uu b (BH 0) P.N3) λB u l d=>gG<|dn [] ⟨B,u,rfl,i.trans l,d⟩) λC p t q r i b z=>by rw[p];exact fBB i []<|e r _ t C q b z P.N3);rw[ANt a];exact AII (AFX h x.l P.g P.l a) (.refl _ _) kR λH J=>⟨kR,kR⟩
def AAq(h:By I E k m)(o q)(c:FY I o q)(M:Rb k o):Fn 300 [.p 1 0,.g<|Fx o q] (Bn E m k) I (EK I m.L E (Fv k o).1<|rv (Fv k o).2) (px (Fv k o).2):=by
 rw[Fv];by_cases a:Dh k.t.g o.l=0;rw[AY<|by simpa using a];cases b:GI k.t with
 |none=>exact Abs h o q M a b
 |some p=>exact Abq h o q c M a b
 rw[Ac a];exact Abr h o q M a
def AFd(h:By I E k m)(i:Nat)(s:lN E.im.Ax<=1000000):Fn 314 [.p 1 0,.v<|iV i] (Bn E m k) I (BW (.v<|.int iK (varsOf E.im i:Nat)) I) nO:=by
 refine Fn.same (need:=Bn E m k) ?_ rfl;have j:=h.img.u;let⟨im,⟨C,D,F,G,t,H⟩,AD,AP,o,l,args,AR⟩:=E;simp only at j s⊢;rw[varsOf];cases d:im.Ax[i]? with
 |some f=>
  have b:=(Ci.1 d).1;obtain⟨n,a,g,z,p,v,x,y,rfl,q,A,B,r⟩:=OR j d;exact fo func314 λu e w c=>gg [(6,hF<|(i:Int)<0),(15,hF<|(i:Int)≥(lN im.Ax:Int)),(23,Br I M7 n a (lN im.Ax) t i b),(25,ED I Ek rfl (a+i*3+1) _ q<|r 1 _ rfl)]<|dn [] rfl
 |none=>
  have b:=AO3.1 d;exact fo func314 λu e w c=>gg [(6,hF<|(i:Int)<0),(15,hT<|(i:Int)≥(lN im.Ax:Int))]<|dn [] rfl
def U7(n:Nm)(k:Lz.Call)(a:Ob):CR:=if a.done then Ej k a else(FG k n,nO)
def AcT(h:By I E k m)(o q)(H:lN k.t.c.stack<=1000000)(x)(r:E.l[0]? =sM x):Fn 316 [.g<|Fx o q,.p 5 0] (DJ E m k Du) I (Iy I m.L E (U7 x.name k o).1 Du<|rv (U7 x.name k o).2) (px (U7 x.name k o).2):=by
 let⟨b,p,arr,e,L,a,G,i⟩:=h.args.Cp<|VO<|De r;let⟨M,N,K,A,Q,l,g,C⟩:=E;simp only at r a i h;generalize g.c=F at a;subst a;have u:=(Ci.1 r).1;have v:=i 0 _ r 2 (sV x.name) rfl;rw[U7];cases t:o.done with
 |true=>
  rw[Ac rfl];have j:=ANl h o q H;generalize Ej k o=z at j⊢;obtain⟨O,_|B⟩:=z;simp[rv,px]at j⊢;exact fo func316 λD n w c=>gg [(4,.eq (Value.bool o.done) tV<|by rw[t])]<|KO j λy s f d=>gG<|dn [] ⟨y,s,rfl,f,d⟩;simp[rv,px]at j⊢;exact fo func316 λD n w c=>gg [(4,.eq (Value.bool o.done) tV<|by rw[t])]<|AII j (.refl _ _) kR λP J=>⟨kR,kR⟩
 |false=>
  rw[AY sP];exact fo func316 λD n w c=>gg [(4,.eq (Value.bool o.done) fV<|by rw[t]),(13,Br I Gx b p (lN l) F 0 u),(15,ED I Di rfl (p+0*5+2) (sV x.name) G v)]<|KO (XW h x.name) λy s f d=>gG<|dn [] ⟨y,s,rfl,f,d⟩
def Tq(b:A6)(x:AW)(k:Lz.Call)(a:Ob):CR:=match Gc k.t.c a.fn (varsOf b a.fn) [x] a.AR with
 |some c=>({k with t:={k.t with c:=c}},nO)
 |none=>(k,sM (-6))
def Ix.one{I l s}(h:Ix I F9 5 l s){x}(d:l[0]? =sM x):∃al,Av I F9 5 [x] s.a s.c al:=by
 let⟨f,b,a⟩:=h;have c:=(Ci.1 d).1;have e:l.take 1=[x]:=by
  cases l with
  |nil=>cases d
  |cons y l=>simp at d;subst d;rfl
 refine⟨b.take<|1*5,?_,Ch c a.cap,a.max,?_⟩;exact a.sl.take c;have:=a.CE.take Jd 1;rw[e]at this;exact this
def AbV(h:By I E k m)(o q)(H:lN k.t.c.stack<=1000000)(i:lN E.im.Ax<=1000000)(x)(n:E.l[0]? =sM x):Fn 321 [.g<|Fx o q,.p 5 0] (DJ E m k Du) I (Iy I m.L E (Tq E.im x k o).1 Du<|rv (Tq E.im x k o).2) (px (Tq E.im x k o).2):=by
 let⟨b,d,arr,e,Q,c,R,t⟩:=h.args.Cp<|VO<|De n;let⟨B,S,M,z,T,l,g,C⟩:=E;simp only at n c t h i⊢;let⟨O,P,ac⟩:=g;simp only at c;cases c;have K:=(Ci.1 n).1;have A:lN l<=ac:=by let⟨_,r,v⟩:=h.args;exact v.cap
 have f:=AFd h o.fn i;simp only at f;rw[Tq,Gc];by_cases u:16<=lN k.t.c.AG;rw[Ac u];simp[rv,px];exact fo func321 λN y w j=>gg [(21,.op I _ _<|Us (t:=29) (e:=51) (a:=sM ⟨b,d,nO⟩) (n:=lN l) (c:=ac) (m:=1) NW (Qm.choose_spec.1) oG)]<|IG f []<|gG<|call (AI3 I k.t.c m.a.p o.fn (varsOf B o.fn) (aO b d) 1 ac o.AR u)<|gG<|Kl (Tt I (-6)) [] λF G=>by rw[show F=_ from G];exact⟨DJ _ m k Du,kR,kR,m,I,rfl,.refl _ _,h⟩
 rw[AY u];simp[rv,px];let⟨D,s⟩:=Ix.one h.args n;exact fo func321 λN y w j=>gg [(21,.op I _ _<|Us (t:=29) (e:=51) (a:=sM ⟨b,d,nO⟩) (n:=lN l) (c:=ac) (m:=1) NW (Qm.choose_spec.1) oG)]<|IG f []<|gG<|Cz (ADG I k.t.c m.a.p o.fn (varsOf B o.fn) [x] ⟨b,d,nO⟩ ac D o.AR h.AC.c s oG sP H) λp J hle L=>gG<|dn [] ⟨{m with a:={m.a with p:=p}},J,rfl,.of hle,h.Lp hle ⟨L,h.AC.s.up hle λ_ _ h=>h⟩⟩
structure TJ(J:AB)(l:AA AW)(b off:Nat):Prop where
 out:∃arr e fr,J b=sM (.cells arr e fr)/\∀i x,l[i]? =sM x->∀j u,(BG x)[j]? =sM u->arr[off+i*5+j]? =sM u
section
variable {J K:AB} {l:List AW} {b off:Nat} (A:TJ J l b off) (U i:Nat) (L:i<l.length) (s:Nat)
def TJ.up(A:TJ J l b off)(h:J.Da K):TJ K l b off:=let⟨x,e,f,p,q⟩:=A.out;⟨x,e,f,h _ _ p,q⟩
include A L in
def ldA:∀w,EJ w J->∃a,(Instr.loadAt 51<|.pointer<|sM ⟨b,off+i*5,nO⟩).run prog w=.ok (AO id<|Do<|l.getD i AZ) a/\Bl w a:=by let⟨x,e,f,p,q⟩:=A.out;exact Wh (o:=off+i*5) Oo (BG _) rfl p<|q i _<|getD_some L
include A L in
def ldL:∀w,EJ w J->∃a,(Instr.loadAt 42<|.pointer<|sM ⟨b,off+i*5+3,nO⟩).run prog w=.ok (AO id<|DW (l.getD i AZ).l) a/\Bl w a:=by let⟨x,e,f,p,q⟩:=A.out;exact Wh (o:=off+i*5+3) Sf [vS<|AJ _,vS<|AJ _] rfl p<|AEH<|q i _<|getD_some L
def MY:G8 prog:=[(s,Br J Gx b off (lN l) U i L),(s+1,.op J _ _<|ldA A i L)]
def OT:G8 prog:=[(s,Br J Gx b off (lN l) U i L),(s+2,.op J _ _<|ldL A i L)]
end
def bad(l:AA AW)(c:AA Nat)(j:Nat):Prop:=∃i a,c[i]? =sM a/\a≠0/\(l.getD (j+i) AZ).kind≠a
def AQh{l j}:bad l [] j↔False:=⟨λ⟨_,_,h,_⟩=>(by cases h),False.elim⟩
def AQg{l a j o}:bad l (a::o) j↔(a≠0/\(l.getD j AZ).kind≠a)\/bad l o (j+1):=by constructor;rintro⟨_|i,e,c,d,g⟩;cases c;exact .inl ⟨d,g⟩;exact .inr ⟨i,e,c,d,by rwa [show j+1+i=j+(i+1) by omega]⟩;rintro(⟨h,k⟩|⟨i,e,c,d,g⟩);exact⟨0,a,rfl,h,k⟩;exact⟨i+1,e,c,d,by rwa [show j+(i+1)=j+1+i by omega]⟩
abbrev JX(E:Env)(b off U:Nat):Env:={E with args:=⟨sM ⟨b,off,nO⟩,lN E.l,U⟩}
abbrev Nz:AA Nat:=[1,2,3,4]
def GR.make(P:GR E k){o}(i)(L:i<lN E.l)(c:o.l=(E.x i).l)(d:3<=o.kind/\o.kind<=7)(e:o.var.q=[]):Rb k o:=
 have a:=De<|getD_some L
 ⟨P.g,c▸(P.Cj _ a).1,P.Bg,P.A7,P.Ao,P.B0,Ch P.len.s dC,d,by rw[c];exact P.A4 _ a,e,P.new⟩
def GR.ol(P:GR E k)(i)(L:i<lN E.l):B9 (E.x i).l:=(P.Cj _<|De<|getD_some L).1
def GR.read(P:GR E k)(i)(L:i<lN E.l):ABy k (E.x i):=
 have a:=P.Cj _<|De<|getD_some L
 ⟨P.g,a.1,a.2,λn o c=>Ch (P.Ep n o c).2 dC,Ch P.len.s dC⟩
def Jz(W:prog.funcs[F]? =sM fn)(d K)(h:By I E k m)(O:0<lN E.l/\lN d<=lN E.l){c:Prop}[Decidable c]{q r}(e:q=if c then(k,sM (-1))else r)
 (hr:∀b off U D t,Dd I m.L t D.L->By t (JX E b off U) k D->TJ I E.l b off->¬c->∀ρ key w,100<=key->At F fn fn.ntmps I w ρ Nz (Ends Nz I ρ key w (EK I m.L (JX E b off U) r.1<|rv r.2)<|px r.2) ((rX [] fn.ntmps (Nz)<|init [.p 1 0] (Bn (JX E b off U) m k) I<|MP fn).f.out (BA [(5,K)]) {r:=.t [],AV:=DJ (JX E b off U) D k<|Ns d,J:=t}))
 (R:bad E.l d 0↔c:=by simp[AQg,AQh]) (C:lN d<=1000:=by decide) (V:fn.body.isSome:=by rfl) (B:(fn.name== "runtime.NumGoroutine")=fF:=by rfl) (hE:∀b off U,V7 [.p 1 0] (Bn (JX E b off U) m k) fn.ntmps:=by intro _ _ _;exact kR)
 (T:∀b off U,Rs [] fn.ntmps (Nz) (init [.p 1 0] (Bn (JX E b off U) m k) I<|MP fn):=by intro _ _ _;exact kR)
 (X:∀b off U,FH (rX [] fn.ntmps (Nz)<|init [.p 1 0] (Bn (JX E b off U) m k) I<|MP fn).f fn.ntmps 296 [(5,K)] (DJ (JX E b off U) m k<|Ns d) [.p 1 0,.s 5 0 (lN d)<|lN d] I:=by intro _ _ _;exact kR)
 (he:∀b off U (H:DU)(J:AB),Is ((rX [] fn.ntmps (Nz)<|init [.p 1 0] (Bn (JX E b off U) m k) I<|MP fn).f.σ.EV nO (EL (rX [] fn.ntmps (Nz)<|init [.p 1 0] (Bn (JX E b off U) m k) I<|MP fn).f)<|({r:=.v undef,AV:=DJ (JX E b off U) H k<|Ns d,J:=J}:Ab).rn<|BA [(5,K)]) Nz=sM (Bn (JX E b off U) H k)/\GM (Ip<|Bn (JX E b off U) H k) Nz/\((rX [] fn.ntmps (Nz)<|init [.p 1 0] (Bn (JX E b off U) m k) I<|MP fn).f.σ.EV nO (EL (rX [] fn.ntmps (Nz)<|init [.p 1 0] (Bn (JX E b off U) m k) I<|MP fn).f)<|({r:=.v undef,AV:=DJ (JX E b off U) H k<|Ns d,J:=J}:Ab).rn<|BA [(5,K)]).im=J:=by intro _ _ _ _ _;exact⟨kR,kR,kR⟩):IR F I E m k q:=by
 let⟨b,off,arr,x,Y,g,Z,M⟩:=h.args.Cp O.1;let⟨im,ip,AD,AP,o,l,⟨aa,an,U⟩,AR⟩:=E;simp only at g;cases g;rw[e];by_cases u:bad l d 0;rw[Ac<|R.1 u];refine fo W (λρ key w j=> ?_) V B<|hE b off U;refine gG ?_<|T b off U;exact AKN d K h (.refl _ _) O.2 C (let⟨i,S,p,q,s⟩:=u;⟨i,S,p,q,by rwa [FE]at s⟩) (X b off U)<|he b off U;rw[AY λy=>u<|R.2 y];refine fo W (λρ key w j=> ?_) V B<|hE b off U;refine gG ?_<|T b off U;exact AEC d K h O.2 C (λi S y=>Decidable.or_iff_not_imp_left.2 λa=>Decidable.byContradiction λz=>u ⟨i,S,y,a,by rwa [FE]⟩) (X b off U) λD t P N=>hr b off U D t P N ⟨arr,x,Y,Z,M⟩ (λy=>u<|R.2 y) ρ key w j
def fB(j:Dd v Q I' m.L)(e)(h:Fn G args (DJ E m k Du) I' (Iy I' m.L E q.1 Du<|rv q.2)<|px q.2)
 (x:FH f n G e (DJ E m k Du) args I':=by exact kR)
 (c1:∀(a:DU)(c:AB)(d:Lz.Call),Rs [] n A (f.out (BA e) {r:=.t [],AV:=DJ E a d Du,J:=c}):=by intro _ _ _;exact kR)
 (c2:∀(a:DU)(c:AB)(d:Lz.Call),KY Bt fn.results.toList A [] key (rX [] n A<|f.out (BA e) {r:=.t [],AV:=DJ E a d Du,J:=c}).f=sM {r:=.t [],AV:=Bn E a d,J:=c}:=by intro _ _ _;exact kR)
 (y:∀(a:DU)(c:AB)(d:Lz.Call),Is (f.σ.EV nO (EL f)<|({r:=.v undef,AV:=DJ E a d Du,J:=c}:Ab).rn<|BA e) A=sM (Bn E a d)/\GM (Ip<|Bn E a d) A/\(f.σ.EV nO (EL f)<|({r:=.v undef,AV:=DJ E a d Du,J:=c}:Ab).rn<|BA e).im=c:=by intro _ _ _;exact⟨kR,kR,kR⟩)
 (g:100<=key:=by assumption):At F fn n I w ρ A (Ends A I ρ key w (EK v Q E q.1<|rv q.2)<|px q.2) f:=by
 obtain⟨t,_|u⟩:=q;exact AIH e h x λa c p o=>gG (dn [] ⟨a,c,rfl,j.trans p,o⟩ (c2 a c t) g)<|c1 a c t;exact ARQ e h j x λa c=>y a c t
def cM{r}(e)(d:Dd v Q I' m.L)(o:By I' E k m)(x:Int)(u:x≠0->r=(k,sM x))
 (t:x=0->At F fn n I w ρ A (Ends A I ρ key w (EK v Q E r.1<|rv r.2)<|px r.2) (rX e n A<|f.out (BA []) {r:=.t [],J:=I'}).f)
 (g:FH f n 299 [] [] [.v<|nV x] I':=by exact kR)
 (h:Rs e n A (f.out (BA []) {r:=.t [],J:=I'}):=by exact kR)
 (a:Is (f.σ.EV nO (EL f)<|({r:=.v undef,J:=I'}:Ab).rn<|BA []) A=sM (Bn E m k)/\GM (Ip<|Bn E m k) A/\(f.σ.EV nO (EL f)<|({r:=.v undef,J:=I'}:Ab).rn<|BA []).im=I':=by exact⟨kR,kR,kR⟩):At F fn n I w ρ A (Ends A I ρ key w (EK v Q E r.1<|rv r.2)<|px r.2) f:=by
 by_cases c:x=0;subst c;exact cg (UP I') e (t rfl) g h;rw[u c];refine Kl (Zu I' x c) [] (hobs:=g) λj p=> ?_;rw[show j=_ from p];exact⟨_,a.1,a.2.1,m,I',(by rw[a.2.2];rfl),d,o⟩
def By.up{J}(h:By I E k m)(hle:I.le J):By J E k m:=h.move hle.EA ⟨rfl,rfl,rfl,rfl⟩ ⟨rfl,rfl,rfl,rfl⟩ (h.AC.up hle) (h.B0.up hle)<|h.Dl.up hle
def cA1{R t e g}(K d)(p:Gq prog Bt t e g)(M:lN d=g)(o:d.all (·.oneCell'))
 (z:∀h J c a,I'.le J->J h=sM (.cells (d++a).toArray e (0,0))->1<=c->c<=maxLen->At F fn n I w ρ A R ((rX [] n A<|f.act {r:=.s (EL f) 0 1 c,nb:=[.As (d++a) e],J:=I'}).f.B4 (K+8) h J))
 (B:OB f n [(K,.cells (d.map .v) e)] I':=by exact kR) (x:O9 f.σ.tm (Mo f).op=sM (t,.v zS,.s K 0 1 1):=by kernel_rfl)
 (j:∀c a,Rs [] n A (f.act {r:=.s (EL f) 0 1 c,nb:=[.As (d++a) e],J:=I'}):=by intro _ _;exact kR) (y:∀c a,(SB (rX [] n A<|f.act {r:=.s (EL f) 0 1 c,nb:=[.As (d++a) e],J:=I'}).f A<|K+8,(rX [] n A<|f.act {r:=.s (EL f) 0 1 c,nb:=[.As (d++a) e],J:=I'}).f.σ.im)=(sM (d++a,e),I'):=by intro _ _;exact kR):At F fn n I w ρ A R f:=by
 refine act (need:=[(K,.cells (d.map .v) e)]) (hobs:=B) (MM (I:=I') Be (n:=0) (cap:=0) (m:=1) (a:=nO) (l:=.v zS) (x:=.s K 0 1 1) (CQ:=[]) (news:=d) p x rfl Ol (Ez (e:=e) (A9.2 rfl) (by omega)<|SQ o) (Ag _) oG (λ_=>rfl) oG) M4 ?_;rintro H ⟨c,a,C,D,r3,rfl⟩;exact gG (B4 (K+8) I' (hobs:=(y c a)) λh J hle _ u=>z h J c a hle u C D)<|j c a
def ALZ{F o e f}(hF:F=230/\f=f230/\o=3/\e=29\/F=232/\f=f232/\o=4/\e=32)(j:prog.funcs[F]? =sM f)(h:By I E k m)(P:GR E k)(n:lN E.l=2)(c:E.o.code=e):IR F I E m k (CO E.im E.AD E.o E.AR E.l k):=by rcases hF with⟨rfl,rfl,rfl,rfl⟩|⟨rfl,rfl,rfl,rfl⟩;exact Jz (r:=Fv k {Db with kind:=3,l:=(E.x 1).l,v:=(E.x 0)}) j [0,2] 108 h (by simp[n]) (by rw[CO];rw[c];rfl) λb i d r p a c A _ s g w q=>gg (OT (A.up a.le) d 1 oG 10++MY (A.up a.le) d 0 oG 17)<|fO a<|AAq c _ HY NY<|P.make 1 oG rfl ⟨sP,sP⟩ rfl;exact Jz (r:=Fv k {Db with kind:=4,l:=(E.x 1).l,v:=(E.x 0)}) j [0,2] 108 h (by simp[n]) (by rw[CO];rw[c];rfl) λb i d r p a c A _ s g w q=>gg (OT (A.up a.le) d 1 oG 10++MY (A.up a.le) d 0 oG 17)<|fO a<|AAq c _ HY NY<|P.make 1 oG rfl ⟨sP,sP⟩ rfl
def AYl(h:By I E k m)(P:GR E k)(e:lN E.l=1)(a:E.o.code=35):IR 235 I E m k (CO E.im E.AD E.o E.AR E.l k):=
 Jz (r:=Fv k {Db with kind:=5,l:=(E.x 0).l}) func235 [2] 108 h (by simp[e]) (by rw[CO];rw[a];rfl) λb g d n i c a A _ o f w j=>gg (OT (A.up c.le) d 0 oG 10)<|fO c<|AAq a _ HY NY<|P.make 0 oG rfl ⟨sP,sP⟩ rfl
def AYi(h:By I E k m)(P:GR E k)(e:lN E.l=1)(a:E.o.code=45):IR 244 I E m k (CO E.im E.AD E.o E.AR E.l k):=
 Jz (r:=Fv k {Db with kind:=7,l:=(E.x 0).l,fn:=E.o.a,AR:=E.AR}) func244 [2] 108 h (by simp[e]) (by rw[CO];rw[a];rfl) λb g d n i c a A _ o f w j=>gg (OT (A.up c.le) d 0 oG 10)<|fO c<|AAq a _ HY NY<|P.make 0 oG rfl ⟨sP,sP⟩ rfl
def AZK(h:By I E k m)(P:GR E k)(e:lN E.l=1)(c:E.o.code=30):IR 231 I E m k (CO E.im E.AD E.o E.AR E.l k):=
 Jz func231 [3] 108 h (by simp[e]) (by rw[CO];rw[c];rfl) λb g d n i a c A _ p f w j=>gg (MY (A.up a.le) d 0 oG 10)<|fO a<|AcA c _ (P.read 0 oG) λI k m o q h l a=>ANl h o q a
def Aag(h:By I E k m)(P:GR E k)(e:lN E.l=1)(c:E.o.code=33):IR 233 I E m k (CO E.im E.AD E.o E.AR E.l k):=
 Jz func233 [4] 116 h (by simp[e]) (by rw[CO];rw[c];rfl) λb g d n i a c A _ p f w j=>gg (MY (A.up a.le) d 0 oG 10)<|fB a [(5,100)]<|AFV (.inl rfl) c _ (P.read 0 oG) (λk o=>(k.push o.v,nO)) λI k m o q h l a=>Ab9 h o q a
def Ad1(h:By I E k m)(P:GR E k)(e:lN E.l=1)(c:E.o.code=39):IR 239 I E m k (CO E.im E.AD E.o E.AR E.l k):=
 Jz func239 [6] 116 h (by simp[e]) (by rw[CO];rw[c];rfl) λb g d n i a c A _ p f w j=>gg (MY (A.up a.le) d 0 oG 10)<|fB a [(5,100)]<|AFV (.inr<|.inl rfl) c _ (P.read 0 oG) (U7 (E.x 0).name) λI k m o q h l a=>AcT h o q a _<|getD_some<|show 0<lN E.l by omega
def ATN(h:By I E k m)(P:GR E k)(f:lN E.l=2)(c:E.o.code=46)(d:lN E.im.Ax<=1000000):IR 245 I E m k (CO E.im E.AD E.o E.AR E.l k):=
 Jz func245 [0,7] 116 h (by simp[f]) (by rw[CO];rw[c];rfl) λb i e p j a c A _ r g w l=>gg (MY (A.up a.le) e 1 oG 10)<|fB a [(5,100)]<|AFV (.inr<|.inr rfl) c _ (P.read 1 oG) (Tq E.im<|E.x 0) λI k m o q h n a=>AbV h o q a d _<|getD_some<|show 0<lN E.l by omega
def AQL:Gq prog Bt 121 53 20:=⟨⟨_,rfl⟩,⟨_,_,rfl,rfl⟩,kR⟩
def AQM:Gq prog Bt 122 135 7:=⟨⟨_,rfl⟩,⟨_,_,rfl,rfl⟩,kR⟩
def AQN:Gq prog Bt 123 61 6:=⟨⟨_,rfl⟩,⟨_,_,rfl,rfl⟩,kR⟩
def AHR:Gq prog Bt 124 141 2:=⟨⟨_,rfl⟩,⟨_,_,rfl,rfl⟩,kR⟩
def SK(E:Env)(k:Lz.Call)(g:Lz.St)(b to:AT)(a:Bool):Lz.Call:={k.Bp g with e:=if a then{k.e with Bo:=k.e.Bo++[⟨E.o.code,b,to,E.AR⟩]}else k.e}
def ANW(h:By I E k m)(n:k.e=A8)(g f to)(b:Bool):Fn 319 [.p 1 0,Jv g,DW f,DW to,.v<|vB b] (Bn E m k) I (EK I m.L E (SK E k g f to b)<|.t []) nO:=by
 cases b with
 |false=>
  exact fo func319 λx l w i=>gG<|dn [] ⟨m,I,rfl,.refl _ _,h.Bp g⟩
 |true=>
  have e:=h.Bo.nil (by rw[n];rfl);let⟨a,d,out,Bo,c,p,L⟩:=m;simp only at e;subst e;refine fo func319 λx l w i=>gG<|cA1 (I':=I) 324 (M9 ⟨E.o.code,f,to,E.AR⟩) AQN rfl rfl λq J j o hle t u v=> ?_;have s:=(h.Bp g).move hle.EA ⟨rfl,rfl,rfl,rfl⟩ ⟨rfl,rfl,rfl,rfl⟩ (DZ.up ⟨h.AC.c,h.AC.s⟩ hle) (h.B0.up hle)<|h.Dl.up hle;exact dn [] ⟨_,J,rfl,.of hle,{s with Bo:=by rw[show(SK E k g f to tT).e.Bo=k.e.Bo++_ from rfl,n];exact G6.one t rfl rfl (SQ rfl) u v}⟩ (h:={r:=.t [],AV:=Bn E ⟨a,d,out,⟨sM ⟨q,0,nO⟩,1,j⟩,c,p,L⟩<|SK E k g f to tT,J:=J})
def AXm(h:By I E k m)(P:GR E k)(g:lN E.l=1)(a:E.o.code=28):IR 229 I E m k (CO E.im E.AD E.o E.AR E.l k):=
 Jz func229 [2] 108 h (by simp[g]) (by rw[CO];rw[a];rfl) λb l f j d c a A _ o i w n=>gg (OT (A.up c.le) f 0 oG 17)<|cg (AXl d k.t.g _ P.g<|P.ol 0 oG) []<|cM [] c a _ (λe=>Ac e) λe=>by rw[AY λq=>q e];exact dn [] ⟨j,d,rfl,c,a.Bp _⟩
def ASq(h:By I E k m)(P:GR E k)(g:lN E.l=1)(a:E.o.code=42):IR 242 I E m k (CO E.im E.AD E.o E.AR E.l k):=
 Jz (r:=if(Ih k.t.g (E.x 0).l E.AR).2.1≠0 then(k,sM (Ih k.t.g (E.x 0).l E.AR).2.1)else(SK E k (Ih k.t.g (E.x 0).l E.AR).1 k.t.g.Ad (E.x 0).l (Ih k.t.g (E.x 0).l E.AR).2.2,nO)) func242 [2] 108 h (by simp[g]) (by rw[CO,SK];rw[a];rfl) λb j f n d c a A _ o i w l=>gg (OT (A.up c.le) f 0 oG 20)<|cg (ASp d k.t.g _ E.AR P.g<|P.ol 0 oG) []<|cM [] c a _ (λe=>Ac e) λe=>by rw[AY λq=>q e];exact fO c<|ANW a P.e _ _ _ _
def AXW(h:By I E k m)(P:GR E k)(g:lN E.l=1)(a:E.o.code=43):IR 243 I E m k (CO E.im E.AD E.o E.AR E.l k):=
 Jz (r:=if(Il k.t.g (E.x 0).l E.AR).2.1≠0 then(k,sM (Il k.t.g (E.x 0).l E.AR).2.1)else(SK E k (Il k.t.g (E.x 0).l E.AR).1 k.t.g.A5 (E.x 0).l (Il k.t.g (E.x 0).l E.AR).2.2,nO)) func243 [2] 108 h (by simp[g]) (by rw[CO,SK];rw[a];rfl) λb j f n d c a A _ o i w l=>gg (OT (A.up c.le) f 0 oG 20)<|cg (AXV d k.t.g _ E.AR P.g<|P.ol 0 oG) []<|cM [] c a _ (λe=>Ac e) λe=>by rw[AY λq=>q e];exact fO c<|ANW a P.e _ _ _ _
def AbY(s n o):lN (Cn s n o)=lN s:=by rw[Cn];split;rfl;split;rfl;simp
def El.set{I s L d ck}(h:El I s L d ck)(c o):El I (Cn s c o) L d ck:=by
 refine{h with len:=λr j=>by rw[AbY];exact h.len r j,mem:=λn l=>(h.mem n l).trans ?_};rw[PV];cases i:Am s c with
 |none=>exact Iff.rfl
 |some w=>
  simp only;split;rename_i g;by_cases e:n=c;subst e;rw[i,Ac rfl];constructor;rintro⟨p,a,b⟩;cases a;exact⟨o,rfl,g.2.symm.trans b⟩;rintro⟨p,a,b⟩;cases a;exact⟨w,rfl,g.2.trans b⟩;rw[AY e];exact Iff.rfl
def ACk{b o q}(h:By I' E k m)(j:BV b)(i:lN o.var.q<=1000000)(l:FY I' o q)(c:FH f n 145 Ov (LB m.sm.es m.sm.ns m.sm.n m.sm.m) [.p 1 0,.v<|sV b,.g<|Fx o q] I')
 (hnext:∀a d J,Dd I' m.L J m.L->By J E {k with s:=Cn k.s b o} {m with sm:=⟨a,d,m.sm.ns,m.sm.m⟩}->At F fn n I w ρ A R (f.out (BA Ov) {r:=.v<|.int iK<|XQ k.s b o,AV:=LB a m.sm.ns d m.sm.m,J:=J})):At F fn n I w ρ A R f:=
 A0 (ANS I' k.s m.sm.es m.sm.ns m.sm.n m.sm.m b o q j i l h.B0) Ov (hobs:=c) λp g=>by obtain⟨a,d,J,hle,e,rfl⟩:=g;exact hnext a d J (.of hle)<|h.move hle.EA ⟨rfl,rfl,rfl,rfl⟩ ⟨rfl,rfl,rfl,rfl⟩ (h.AC.up hle) e<|(h.Dl.up hle).set b o
def Vt{g i d o q}(e:Dd g i I' m.L)(h:By I' E k m)(t:BV d)(p:lN o.var.q<=1000000)(u:FY I' o q)
 (x:∀a b J,Dd g i J ({m with sm:=⟨a,b,m.sm.ns,m.sm.m⟩}:DU).L->By J E {k with s:=Cn k.s d o} {m with sm:=⟨a,b,m.sm.ns,m.sm.m⟩}->At F fn n I w ρ A R (rX [] n A<|f.out (BA Ov) {r:=.v<|.int iK<|XQ k.s d o,AV:=LB a m.sm.ns b m.sm.m,J:=J}).f)
 (c:FH f n 145 Ov (LB m.sm.es m.sm.ns m.sm.n m.sm.m) [.p 1 0,.v<|sV d,.g<|Fx o q] I':=by exact kR)
 (j:∀a b J,Rs [] n A (f.out (BA Ov) {r:=.v<|.int iK<|XQ k.s d o,AV:=LB a m.sm.ns b m.sm.m,J:=J}):=by intro _ _ _;exact kR):At F fn n I w ρ A R f:=
 ACk h t p u c λa b J v l=>gG (x a b J (e.trans v) l)<|j a b J
def GR.qs(P:GR E k):∀n o,Am k.s n=sM o->lN o.var.q<=1000000:=λn o a=>Ch (P.Ep n o a).2 dC
def GR.nm(P:GR E k)(i)(a:i<lN E.l):BV (E.x i).name:=(P.Cj _<|De<|getD_some a).2
def AZV(h:By I E k m)(P:GR E k)(C:lN E.l=2)(d:E.o.code=41):IR 241 I E m k (CO E.im E.AD E.o E.AR E.l k):=
 Jz func241 [0,2] 108 h (by simp[C]) (by rw[CO];rw[d];rfl) λb H u G p l d A _ ρ D w M=>by have g:=d.out.nil (by rw[P.e];rfl);let⟨t,c,x,i,a,j,s⟩:=G;simp only at g;subst g;refine gg (OT (A.up l.le) u 1 oG 10)<|cg (Pz p k.t.g _ P.g<|P.ol 1 oG) []<|cM (MY (A.up l.le) u 0 oG 32) l d _ (λe=>Ac e) λe=> ?_;rw[AY λq=>q e];refine cA1 (I':=p) 372 (W5 ((E.x 1).l,(E.x 0))) AQM rfl rfl λy J o v hle B K L=> ?_;have z:=d.move (k':=k) hle.EA ⟨rfl,rfl,rfl,rfl⟩ ⟨rfl,rfl,rfl,rfl⟩ (d.AC.up hle) (d.B0.up hle)<|d.Dl.up hle;exact dn [] ⟨_,J,rfl,l.trans<|.of hle,{z with out:=by show G6 J SU 7 (k.e.out++_) _;rw[P.e];exact G6.one B rfl rfl (SQ rfl) K L}⟩ (h:={r:=.t [],AV:=Bn _ ⟨t,c,⟨sM ⟨y,0,nO⟩,1,o⟩,i,a,j,s⟩ {k with e:={k.e with out:=k.e.out++[((E.x 1).l,(E.x 0))]}},J:=J})
def AeM(h:By I E k m)(P:GR E k)(B:lN E.l=2)(i:E.o.code=34):IR 234 I E m k (CO E.im E.AD E.o E.AR E.l k):=
 Jz func234 [4,0] 108 h (by simp[B]) (by rw[CO];rw[i];rfl) λb H y L z p i A _ ρ D w K=>gg (MY (A.up p.le) y 0 oG 12) (cg (Pz z k.t.g _ P.g<|P.ol 0 oG) [] (cM [] p i _ (λe=>Ac e) λe=>by
  rw[AY λq=>q e]
  refine Vu (λ_ _=>[]) (λ_ h=>MY (A.up h) y 1 (by omega) 34) p i (P.nm 0 oG) P.qs (λj d q u c a=> ?_) λg j d q u c a C=> ?_
  .rw[j]
   exact dn [] ⟨d,u,rfl,c,a⟩
  .rw[j]
   exact Vt (o:={g with v:=(E.x 1)}) c a (P.nm 0 oG) (show lN g.var.q<=_ from P.qs _ _ (HV j).1) C λl G x t o=>dn [] ⟨_,x,rfl,t,o⟩))
def AEt(n):(!((Aa n).toList==ByteArray.empty.toList))=decide (n≠[]):=by
 have d:(Aa n).toList=Dm n:=Jc _;have f:ByteArray.empty.toList=([]:AA AH):=by rw[show ByteArray.empty=AJ []from rfl,Jc]
 rw[d,f];cases n with
 |nil=>rfl
 |cons x l=>
  have:Dm (x::l)≠[]:=by
   have c:dec x≠[]:=by rw[dec];split<;>(try split)<;>simp
   cases l with
   |nil=>exact c
   |cons y l=>simp[Dm,c]
  cases e:Dm (x::l)with
  |nil=>exact(this e).elim
  |cons a b=>simp
def AcU(h:By I E k m)(n:k.e.BY=[])(b):Fn 310 [.p 1 0,.v<|sV b,.v zS] (Bn E m k) I (EK I m.L E (EO k b [])<|.t []) nO:=by have g:=AEt b;rw[EO];by_cases f:b=[];rw[Ac f];rw[show decide (b≠[])=fF by simp[f]]at g;exact fo func310 λy j w d=>gg [(7,.eq (Value.bool<|!((Aa b).toList==ByteArray.empty.toList)) fV<|by rw[g])]<|dn [] ⟨m,I,rfl,.refl _ _,h⟩;rw[AY f];rw[show decide (b≠[])=tT by simp[f]]at g;have o:=h.BY.nil n;let⟨a,c,out,l,BY,x,L⟩:=m;simp only at o;subst o;refine fo func310 λy j w d=>gg [(7,.eq (Value.bool<|!((Aa b).toList==ByteArray.empty.toList)) tV<|by rw[g])]<|cA1 (I':=I) 188 [vS<|Aa b,.slice nO 0 0] AHR rfl rfl λq J i p hle t u v=> ?_;have s:=h.up hle;exact dn [] ⟨_,J,rfl,.of hle,{s with BY:=by show G6 J (N6 J) 2 (k.e.BY++_) _;rw[n];exact G6.one (R:=N6 J) (size:=2) (x:=(b,[])) t ⟨nO,0,[],rfl,Av.empty⟩ rfl (SQ rfl) u v}⟩ (h:={r:=.t [],AV:=Bn E ⟨a,c,out,l,⟨sM ⟨q,0,nO⟩,1,i⟩,x,L⟩ {k with e:={k.e with BY:=k.e.BY++[(b,[])]}},J:=J})
def AH1{k l f}(h:Dh k.t.g l=0):Ga k l f=f (k.Bp ⟨A4 l,k.t.g.A5⟩):=by rw[Ga];rw[AY<|by simpa using h]
def AH0{k l f}(h:Dh k.t.g l≠0):Ga k l f=(k,sM<|Dh k.t.g l):=by rw[Ga];rw[Ac h]
def take_len(x)(id):(GN x id).1.q.length<=x.q.length+1:=by rw[GN];split;simp;split;simp;simp only;have:=List.length_eraseIdx_le x.q (by assumption);omega
def ANw(x:AW)(k:Lz.Call):CR:=match EY k x with
 |none=>(FG k x.name,nO)
 |some a=>
  let r:=GN a.var k.t.id;let k:={k with s:=Cn k.s x.name {a with var:=r.1}}
  match r.2.1 with
  |none=>(FG k x.name,nO)
  |some v=>(EO (k.push v) r.2.2 [],nO)
def Acf(h:By I E k m)(P:GR E k)(H:lN E.l=1)(o:E.o.code=36):IR 236 I E m k (CO E.im E.AD E.o E.AR E.l k):=
 Jz (c:=(E.x 0).kind≠5) (r:=Ga k (E.x 0).l<|ANw<|E.x 0) func236 [5] 108 h (by simp[H]) (by rw[CO];rw[o];rfl) λb O G V Q u o A _ Y L w T=>gg (MY (A.up u.le) G 0 oG 15)<|by
  by_cases n:Dh k.t.g (E.x 0).l=0;rw[AH1 n];refine KO (ANK o _ P.g (P.ol 0 oG) n) λW R x s=>gG (Vu (λ_ _=>[]) (λ_ _=>[]) (u.trans x) s (P.nm 0 oG) P.qs (λp M q B d c=> ?_) λl p M q B d c K=> ?_)<;>unfold ANw<;>rw[p];exact fO (q:=(_,nO)) d<|XW c _;have j:=Ace B l.var q k.t.id (P.Ep _ _ (HV p).1).2 K;have f:lN (GN l.var k.t.id).1.q<=1000000:=by have:=take_len l.var k.t.id;have:=(P.Ep _ _ (HV p).1).2;omega
  simp only;rw[show(k.Bp ⟨A4 (E.x 0).l,k.t.g.A5⟩).t.id=k.t.id from rfl];generalize GN l.var k.t.id=z at j f⊢;obtain⟨C,_|v,wid⟩:=z;exact Cz j λq4 D a g=>gG<|Vt (o:={l with var:=C}) (d.trans<|.of a) (c.up a) (P.nm 0 oG) f g λr N F i e=>fO (q:=(_,nO)) i<|XW e _;exact Cz j λq4 D a g=>gG (Vt (o:={l with var:=C}) (d.trans<|.of a) (c.up a) (P.nm 0 oG) f g λr N F i e=>KO (Uu e v<|Ch P.len.s dC) λX S y t=>gG<|fO (q:=(_,nO)) (i.trans y)<|AcU t (by show k.e.BY=[];rw[P.e];rfl) wid);rw[AH0 n];exact Rq (ANL o _ P.g (P.ol 0 oG) n) u kR λU J=>⟨kR,kR⟩
def Ade:prog.underlying 2=sM (.int iK):=kR
def ATJ{t}{j f:Nat}{arg c l}{a d:Int}{g:Nat}{e:Int}(h:Js t j f arg c l a d g=.inr e):e≠0:=by rw[Js]at h;split at h;cases h;decide;split at h;cases h;decide;split at h;rename_i n;cases h;exact n;split at h;cases h;decide;split at h;cases h;decide;split at h;cases h;decide;cases h
section
variable {J:AB} {l:List AW} {b off:Nat} (A:TJ J l b off) (U i:Nat) (L:i<l.length) (s:Nat)
include A L in
def ldN:∀w,EJ w J->∃a,(Instr.loadAt 2<|.pointer<|sM ⟨b,off+i*5+1,nO⟩).run prog w=.ok (AO id<|.v<|.int iK (l.getD i AZ).n) a/\Bl w a:=by let⟨x,e,f,p,q⟩:=A.out;exact IZ Ade rfl p<|q i _ (getD_some L) 1 _ rfl
def ADq:G8 prog:=[(s,Br J Gx b off (lN l) U i L),(s+2,.op J _ _<|ldN A i L)]
end
def AbQ(h:By I E k m)(P:GR E k)(x:lN E.l=4)(d:E.o.code=40)(p:lN E.im.Ax<=1000000):IR 240 I E m k (CO E.im E.AD E.o E.AR E.l k):=
 Jz (c:=(E.x 1).kind≠1\/(E.x 2).kind≠1\/(E.x 3).kind≠2) (r:=match Js k.t E.o.a (varsOf E.im E.o.a) (E.x 0) E.AR (E.x 3).l (E.x 2).n (E.x 1).n E.AD with| .inl t=>({k with t:=t},nO)| .inr j=>(k,sM j)) func240 [0,1,1,2] 108 h (by simp[x]) (by rw[CO];rw[d];rfl) λb off U n o f d A _ B y w z=>gg (ADq (A.up f.le) U 1 oG 13++ADq (A.up f.le) U 2 oG 20++MY (A.up f.le) U 0 oG 44++OT (A.up f.le) U 3 oG 54)<|by
  have g:ABv o k.t n.a (E.x 3).l:=⟨d.pow,d.AC,P.Bg,P.A7,P.Ao,P.XN,P.len,P.ol 3 oG,P.g⟩;refine IG (AFd d E.o.a p) [] ?_;cases u:Js k.t E.o.a (varsOf E.im E.o.a) (E.x 0) E.AR (E.x 3).l (E.x 2).n (E.x 1).n E.AD with
  |inl t=>exact gG<|Cz (Acs o k.t t n.a E.o.a (varsOf E.im E.o.a) (E.x 0) E.AR (E.x 3).l (E.x 2).n (E.x 1).n E.AD g P.AD u) λq v c r=>gG<|cg (UP v) []<|dn [] ⟨{n with a:=q},v,rfl,f.trans<|.of c,d.Lp c r⟩
  |inr j=>exact gG<|cg (Acr o k.t n.a E.o.a (varsOf E.im E.o.a) (E.x 0) E.AR (E.x 3).l (E.x 2).n (E.x 1).n E.AD j g u) []<|cM [] f d j (λ_=>rfl) λe=>absurd e<|ATJ u
def Yq:DL:=⟨nO,0,[],nO,0,[],nO,0,[]⟩
def ASH{I}:C0 I ⟨[],[],[]⟩ Yq:=⟨Av.empty,Av.empty,Av.empty⟩
def fX(b:Dd v Q I' m.L)(d:By I' E k m)(x:Int)(g:FH f n 312 [] [] [.v<|nV x] I':=by exact kR)
 (a:Is (f.σ.EV nO (EL f)<|({r:=.v undef,J:=I'}:Ab).rn<|BA []) A=sM (Bn E m k)/\GM (Ip<|Bn E m k) A/\(f.σ.EV nO (EL f)<|({r:=.v undef,J:=I'}:Ab).rn<|BA []).im=I':=by exact⟨kR,kR,kR⟩):At F fn n I w ρ A (Ends A I ρ key w (EK v Q E k<|.v undef)<|sM<|Hg x) f:=by
 refine Kl (Tt I' x) [] (hobs:=g) λc e=> ?_;rw[show c=_ from e];exact⟨_,a.1,a.2.1,m,I',(by rw[a.2.2]),b,d⟩
def R9(b:A6)(o:Lz.Op)(x:AW)(a:AH):Ay:=⟨[⟨o.a,0,0,a,[x]++lP (min (varsOf b o.a) 16) (BH 0)⟩],[],[]⟩
def ADe(c:A6)(o:Lz.Op)(x:AW)(b:AH)(k:Lz.Call)(t:AL)(a:Nm)(d:AT)(Ao:Nat):Lz.Call:=
 {k with t:={t with Ao:=t.Ao-Ao},e:={k.e with BU:=k.e.BU++[Jw a ⟨t.g.Ad,A4 d⟩ (R9 c o x b) Ao]}}
def AUa(h:By I E k m)(P:GR E k)(hl:lN E.l=3)(hc:E.o.code=38)(Z:lN E.im.Ax<=1000000):IR 238 I E m k (CO E.im E.AD E.o E.AR E.l k):=
 Jz (c:=(E.x 1).kind≠1\/(E.x 2).kind≠2) (r:=if Dh k.t.g (E.x 2).l≠0 then(k,sM (Dh k.t.g (E.x 2).l))else if(E.x 1).n<0\/999<(E.x 1).n\/(k.t.Ao:Int)<=(E.x 1).n then(k,sM (-5))else match GI k.t with|none=>(k,sM (-5))|some (t,a)=>(OE (ADe E.im E.o (E.x 0) E.AR k t a (E.x 2).l (E.x 1).n.toNat) a {Db with kind:=6,l:=(E.x 2).l},nO)) Tryz.func238 [0,1,2] 108 h (by simp[hl]) (by unfold CO ADe R9;rw[hc];rfl) λb y ac m1 J1 g i A _ ρ key w hk=>by
  have af:lN E.l<=ac:=by let⟨_,R,ae⟩:=i.args;exact ae.cap
  cases S:decide ((E.x 1).n<0)<;>cases T:decide ((E.x 1).n>999)<;>cases U:decide ((k.t.Ao:Int)<=(E.x 1).n)<;>
   refine gg (ADq (A.up g.le) ac 1 oG 15++OT (A.up g.le) ac 2 oG 22) (cg (Pz J1 k.t.g _ P.g (P.ol 2 oG)) [] (cM [(34,.eq _ _ (congrArg Value.bool S)),(37,.eq _ _ (congrArg Value.bool T)),(46,.eq _ _ (congrArg Value.bool U))] g i _ (λe=>if_pos e) λe=> ?_))<;>rw[if_neg λq=>q e]
  rotate_left
  iterate 7
   rw[if_pos (by simp only[decide_eq_true_eq]at S T U;omega)];exact fX g i (-5)
  simp only[decide_eq_false_iff_not]at S T U;rw[if_neg (by omega)];cases s:GI k.t with
  |none=>exact Rq (ANc i P.Bg P.A7 P.Ao s) g kR λm' J=>⟨kR,kR⟩
  |some p=>
   let⟨t,a⟩:=p;have H:=(Mf s).1;have ah:t.Ao=k.t.Ao-1:=by rw[H]
   have o:=(P.make (o:={Db with kind:=6,l:=(E.x 2).l}) 2 oG rfl ⟨sP,sP⟩ rfl).ok s;obtain⟨rm,ab⟩:∃rm:Nat,(E.x 1).n=(rm:Int):=⟨(E.x 1).n.toNat,oG⟩;have D:(E.x 1).n.toNat=rm:=oG;simp only[D];refine A0 (ANb i P.Bg P.A7 P.Ao s) [] ?_;rintro _ ⟨m2,J2,rfl,ad,r⟩;have ag:=P.Ao;have z:=r.BU.nil (by show k.e.BU=[];rw[P.e];rfl);let⟨a2,V,x,log2,d,L,N⟩:=m2;simp only at z;subst z;let⟨al,X⟩:=Ix.one r.args (getD_some (show 0<lN E.l by omega));refine gg [(69,.op J2 _ _ (Us (t:=29) (e:=51) (a:=sM ⟨b,y,nO⟩) (n:=lN E.l) (c:=ac) (m:=1) NW (Qm.choose_spec.1) oG))]<|IG (AFd r E.o.a Z) []<|gG (Cz (ADG J2 ⟨[],[],[]⟩ Yq E.o.a (varsOf E.im E.o.a) [(E.x 0)] ⟨b,y,nO⟩ ac al E.AR ASH X sP sP sP) λpc J3 u aa=> ?_);have j:=r.up u;have C:=AEp J3 a ⟨t.g.Ad,Lz.A4 (E.x 2).l⟩ (R9 E.im E.o (E.x 0) E.AR) pc rm aa;rw[<-ab]at C;refine gG (cg (UU J3 _ (P.ol 2 oG)) [(92,hW ((t.Ao:Int)-(E.x 1).n) ((t.Ao-rm:Nat):Int))] (Cz C λM J4 B W=>gG ?_));refine act (need:=[(964,.cells ((EZ (Jw a ⟨t.g.Ad,Lz.A4 (E.x 2).l⟩ (R9 E.im E.o (E.x 0) E.AR) rm) M).map .v) 53)]) (MM (I:=J4) Be (n:=0) (cap:=0) (m:=1) (a:=nO) (l:=.v zS) (x:=.s 964 0 1 1) (CQ:=[]) (news:=(EZ (Jw a ⟨t.g.Ad,Lz.A4 (E.x 2).l⟩ (R9 E.im E.o (E.x 0) E.AR) rm) M)) AQL kR rfl Ol (Ez (e:=53) (List.mem_singleton.2 rfl) rfl (SQ rfl)) (Nat.le_refl _) oG (λ_=>rfl) oG) M4 ?_;rintro h' ⟨O,K,r1,r2,r3,rfl⟩
   refine go Tryz.func238 [] 5 kR (B4 972 J4 (vs:=[]++(EZ (Jw a ⟨t.g.Ad,Lz.A4 (E.x 2).l⟩ (R9 E.im E.o (E.x 0) E.AR) rm) M)++K) (e:=53) λbb J hle _ hJ=> ?_);have c:=B.trans hle;have h1:=j.move (k':={k with t:={t with Ao:=t.Ao-rm}}) (m':=⟨a2,⟨nO,0,0⟩,x,log2,d,L,N⟩) c.EA ⟨rfl,rfl,rfl,rfl⟩ ⟨rfl,rfl,rfl,rfl⟩ (DZ.up ⟨j.AC.c,j.AC.s⟩ c) (j.B0.up c) (j.Dl.up c);have Y:By J (JX E b y ac) (ADe E.im E.o (E.x 0) E.AR k t a (E.x 2).l rm) ⟨a2,⟨sM ⟨bb,0,nO⟩,1,O⟩,x,log2,d,L,N⟩:={h1 with BU:=by show G6 J (Ps J) 20 (k.e.BU++[Jw a ⟨t.g.Ad,Lz.A4 (E.x 2).l⟩ (R9 E.im E.o (E.x 0) E.AR) rm]) _;rw[P.e];exact G6.one (R:=Ps J) (size:=20) hJ ⟨M,rfl,W.up hle⟩ rfl (SQ rfl) r1 r2};exact gG (fO (q:=(_,nO)) ((g.trans ad).trans (.of (L:=N) (u.trans c))) (ANG Y a {Db with kind:=6,l:=(E.x 2).l} HY o (P.ol 2 oG) (by show 0<=_;omega) NY P.B0 (by show lN t.c.stack<=_;rw[H];exact Nat.le_trans P.len.s dC)))
def AcP{l r}(h:∀x∈l,x∈r):GM l r:=by rw[GM];exact EQ.2 λx a=>Wl<|h x a
def AMe(b)(l:AA AF):IN b (l.map SV.v)=l.map SV.v:=by
 induction l with
 |nil=>rfl
 |cons x l a=>simp[E4,IN,SV.Bh,a]
def Aak(a l r):IN a (l++r)=IN a l++IN a r:=by
 induction l with
 |nil=>rfl
 |cons x l b=>simp[F1,IN,b]
def ASk{F d n I w l A a j f}(B:prog.funcs[F]? =sM d)(c:100<=a)(k){r u b J}
 (g:((f.rg.isNone&&ADE f.todo),AAZ Bt f.σ d.results.toList,Is f.σ A,f.σ.hp k,f.σ.im)=(tT,sM r,sM u,sM b,J))
 (h:(GM r.A3 (A++[k])&&GM (Ip u) (A++[k])&&(!Oc k A)&&Kv 100 A)) (C:∀x∈b.A3,x∈A++[k]) (D:b.live)
 (e:j a {r:=r.Bh<|FB a [k],AV:=u.map λi=>(i.1,i.2.Bh<|FB a [k]),nb:=[b.Bh<|FB a [k]],J:=J}):At F d n I w l A (Ends A I l a w j nO) f:=by
 simp only[QC]at g;obtain⟨o,p,q,s,rfl⟩:=g;simp only[CJ]at h;let⟨⟨⟨t,v⟩,b3⟩,b4⟩:=h;refine done B c [k] (h:=_) ?_ e;rw[KY];have y:Tb f.σ [k]=sM [b]:=by simp only[Tb,s]
 have z:GM (([b]:AA AK).flatMap AK.A3) (A++[k]):=AcP (by simpa using C);rw[o,p,q,y];simp only[t,v,z,b4,List.all_cons,List.all_nil,D,b3,ABS,RL,E4,Mw];rfl
def Cl.Aa3(c:Cl)(a b:SV):AA SV:=Fa c.im c.ip++a::.v (nV c.AD)::(Dr c.t c.a++[.v<|nV c.AP,c.BU.sv,c.out.sv,c.Bo.sv,b,.v<|vB c.done,.v<|nV c.o.code,.v<|nV c.o.a,c.args.sv,.v<|.int .u8 c.AR.toNat])
abbrev clW(E:Env)(m:DU)(k:Lz.Call)(a:SV)(b:AK):AA (Nat×AK):=[(1,.cells ((MR E m k).Aa3 (.p 2 0) a) 218),(2,Sl),(3,.Aq<|.map m.sm.es m.sm.n),(4,.Aq<|.map m.sm.ns m.sm.m),(5,b)]
abbrev Xh(b:Nm)(a:AA AF):AK:=.cells (([.v<|sV b,.s 5 0 1 1]:AA SV)++a.map SV.v) 141
def APz(I:AB)(E:Env)(m:DU)(k:Lz.Call)(d:Nm)(y:AW):zP:=λc h=>∃(a:Nat)(b:AA AF),1<=a/\a<=maxLen/\lN b=(a-1)*2/\h= {r:=.t [],AV:=clW E m k (.s c 0 1 a)<|H3 y,nb:=[Xh d b],J:=I}
def AeH(b a):(Xh b a).A3=[5]:=by show DF _=_;rw[Zb,Pb];rfl
def AXa{I g i e l d}(o:∀x∈DF l,x∈d.map (·.1)):∀h:Ab,(∃(a:Nat)(c:AA AF),1<=a/\a<=maxLen/\lN c=(a-1)*i/\h= {r:=.s g 0 1 a,nb:=[.cells (l++c.map SV.v) e],J:=I})->h.wf I g d []:=by rintro p ⟨a,c,s,t,r3,rfl⟩;refine⟨λk f=>.inr ?_,nA,λb n k f=>.inl ?_,sP,AB.Hj _,sP⟩;simp[SV.A3]at f;rw[f];exact nb0 _ _;rw[A9.1 n]at f;change k∈DF _ at f;rw[Zb,Pb,Hn]at f;simpa using o k f
def AcW(h:By I E k m)(q:k.e.BY=[])(b)(r:b≠[])(y):Fn 310 [.p 1 0,.v<|sV b,.s 5 0 1 1] (DJ E m k<|H3 y) I (APz I E m k b y) nO:=by
 have j:=AEt b;rw[show decide (b≠[])=tT by simp[r]]at j;have n:=h.BY.nil q;let⟨a,d,out,g,i,u,L⟩:=m;simp only at n;subst n;refine fo func310 λz f w e=>gg [(7,.eq (Value.bool<|!((Aa b).toList==ByteArray.empty.toList)) tV<|by rw[j])] ?_;refine act (need:=[(188,.cells [.v<|sV b,.s 5 0 1 1] 141),(5,H3 y)]) (AQP (I:=I) (k:=188) (l:=[.v<|sV b,.s 5 0 1 1]) (e':=141) (size:=2) Be AHR kR DT rfl (λz v l=>by simp[BB,AO]at l;rcases l with rfl|rfl<;>rfl)) (AXa<|by simp[DF,SV.A3]) ?_;rintro A ⟨c,AE,s,t,r3,rfl⟩;refine gG<|ASk func310 e 196 (r:=.t []) (u:=clW E ⟨a,d,out,g,⟨nO,0,0⟩,u,L⟩ k (.s 196 0 1 c)<|H3 y) (b:=Xh b AE) (J:=I) kR kR ?_ rfl ?_;intro x o;rw[AeH]at o;rw[A9.1 o];simp;refine⟨c,AE,s,t,r3,?_⟩;have p:(Xh b AE).Bh (FB f [196])=Xh b AE:=by show AK.cells (IN _<|_++_) _=_;rw[Aak,AMe];rfl
 rw[p];rfl
def Q6(x a v):lN (Gg x a v).1.q<=lN x.q+1:=by rw[Gg];split;simp;split;simp;simp only;have:=AGX x.q (by assumption);omega
def AMO(x y:AW)(k:Lz.Call):CR:=match EY k x with
 |none=>(FG k x.name,nO)
 |some a=>
  let r:=Gg a.var k.t.id y;let k:={k with s:=Cn k.s x.name {a with var:=r.1}}
  if !r.2.1 then(FG k x.name,nO)else(EO k r.2.2 [y],nO)
def AcV(h:By I E k m)(y):Fn 310 [.p 1 0,.v<|vS<|Aa [],.s 5 0 1 1] (DJ E m k<|H3 y) I (Iy I m.L E k (H3 y)<|.t []) nO:=by have b:=AEt [];rw[show decide (([]:Nm)≠[])=fF by simp]at b;exact fo func310 λd c w a=>gg [(7,.eq (Value.bool<|!((Aa []).toList==ByteArray.empty.toList)) fV<|by rw[b])]<|dn [] ⟨m,I,rfl,.refl _ _,h⟩
def AaE(h:By I E k m)(P:GR E k)(hl:lN E.l=2)(D:E.o.code=37):IR 237 I E m k (CO E.im E.AD E.o E.AR E.l k):=
 Jz (c:=(E.x 0).kind≠5) (r:=Ga k (E.x 0).l<|AMO (E.x 0)<|E.x 1) func237 [5,0] 108 h (by simp[hl]) (by rw[CO];rw[D];rfl) λb X L m1 J1 F D A _ ρ aa w hk=>gg (MY (A.up F.le) L 0 oG 15++MY (A.up F.le) L 1 oG 21)<|by
  by_cases C:Dh k.t.g (E.x 0).l=0;rw[AH1 C];refine KO (ANK D _ P.g (P.ol 0 oG) C) λm2 J2 T Q=>gG (Vu (λ_ _=>[]) (λ_ _=>[]) (F.trans T) Q (P.nm 0 oG) P.qs (λG H q J3 g f=> ?_) λy G H q J3 g f hq=> ?_)<;>unfold AMO<;>rw[G];exact fO (q:=(_,nO)) g<|XW f _;have u:=AaD J3 y.var q k.t.id (E.x 1) (P.Ep _ _ (HV G).1).2 hq;have t:lN (Gg y.var k.t.id<|E.x 1).1.q<=1000000:=by have:=Q6 y.var k.t.id<|E.x 1;have:=(P.Ep _ _ (HV G).1).2;omega
  have l:k.e.BY=[]:=by rw[P.e];rfl
  simp only;rw[show(k.Bp ⟨A4 (E.x 0).l,k.t.g.A5⟩).t.id=k.t.id from rfl];generalize Gg y.var k.t.id (E.x 1)=Y at u t⊢;obtain⟨Z,_|_,wid⟩:=Y;exact Cz u λq4 J4 a v=>gG<|Vt (o:={y with var:=Z}) (g.trans<|.of a) (f.up a) (P.nm 0 oG) t v λz n' K i d=>fO (q:=(_,nO)) i<|XW d _;refine Cz u λq4 J4 a v=>gG<|Vt (o:={y with var:=Z}) (g.trans<|.of a) (f.up a) (P.nm 0 oG) t v λz n' K i d=> ?_;by_cases W:wid=[];subst W;refine A0 (AcV d<|E.x 1) [(5,636)] λh' S=> ?_;obtain⟨m6,J6,rfl,U,R⟩:=S;exact gG<|dn [] ⟨m6,J6,rfl,i.trans U,R⟩;refine A0 (AcW d l wid W<|E.x 1) [(5,636)] λh' S=> ?_;obtain⟨M,c,r1,r2,r3,rfl⟩:=S;refine gG<|B4 636 K (vs:=BG<|E.x 1) (e:=51) λo K1 B _ N=> ?_;refine Om 644 (b:=.cells (.v (sV wid)::.v (.slice (aP o) 1 1)::Hz 636 o (IN (BA [(5,636)])<|c.map SV.v)) 141) (b':=.As ([vS<|Aa wid,.slice (aP o) 1 1]++c) 141) kR (λρ=> ?_) nA rfl ?_;rw[AMe,ADh];exact(AF2 ([vS<|Aa wid,.slice (aP o) 1 1]++c) 141 ρ).symm;refine B4 644 K1 (vs:=[vS<|Aa wid,.slice (aP o) 1 1]++c) (e:=141) λb2 n j _ O=> ?_;have hle:K.le n:=B.trans j;have h1:=d.up hle;let⟨p,V⟩:=(G6.one (R:=F9) (size:=5) (x:=(E.x 1)) (row:=BG<|E.x 1) (AE:=[]) (I:=n) (b:=o) (cap:=1) (e:=51) (by simpa using j _ _ N) rfl rfl (AAK<|E.x 1) oG<|by rw[maxLen];omega).ls.sl;rw[EO];rw[AY W]
  exact dn [] ⟨_,n,rfl,i.trans<|.of hle,{h1 with BY:=by show G6 n (N6 n) 2 (k.e.BY++[(wid,[(E.x 1)])]) _;rw[l];exact G6.one (R:=N6 n) (size:=2) (x:=(wid,[(E.x 1)])) O ⟨sM ⟨o,0,nO⟩,1,p,rfl,V⟩ rfl (SQ rfl) r1 r2}⟩ (h:={r:=.t [],AV:=Bn (JX E b X L) {H with sm:=⟨z,n',H.sm.ns,H.sm.m⟩,BY:=⟨sM ⟨b2,0,nO⟩,1,M⟩} {k.Bp ⟨A4 (E.x 0).l,k.t.g.A5⟩with s:=Cn k.s (E.x 0).name {y with var:=Z},e:={k.e with BY:=k.e.BY++[(wid,[(E.x 1)])]}},J:=n});rw[AH0 C];exact Rq (ANL D _ P.g (P.ol 0 oG) C) F kR λm' J=>⟨kR,kR⟩
def AJF(s:Az)(id:Nm)(v:AW)(ex:Bool):Az:=match Am s id with
 |some o=>if o.kind=6 then Cn s id {o with v:=v,ex:=ex,done:=tT}else s
 |none=>s
def AT1(k)(v)(ex:Bool):E7 k v ex=if(Fq k.t v ex).Aw≠3/\(Fq k.t v ex).Aw≠4 then{k with t:=Fq k.t v ex}else⟨AJF k.s (Fq k.t v ex).id v ex,Fq k.t v ex,{k.e with done:=tT}⟩:=rfl
def AFS(h:By I E k m)(v)(ex:Bool)(hid:BV k.t.id)(H: ∀n o,Am k.s n=some o->o.var.q.length<=1000000):Fn 103 [.p 1 0,Do v,.v (.bool ex)] (Bn E m k) I (EK I m.L E (E7 k v ex) (.t [])) none:=by
 rw[AT1];have z:=λa (ha:DZ I k.t a)=>AT2 I k.t a v ex ha;have e:BV (Fq k.t v ex).id:=hid;generalize Fq k.t v ex=u at z e⊢;by_cases F:u.Aw=3\/u.Aw=4
 .rw[if_neg oG];have hend: ∀(J:AB) (m1:DU) (s':Az),By J E {k with s:=s',t:=u} m1->By J E (⟨s',u,{k.e with done:=true}⟩:Lz.Call) m1:=λJ m1 s' hh=>{tab:=hh.tab,pow:=hh.pow,img:=hh.img,args:=hh.args,AC:=hh.AC,B0:=hh.B0,Dl:=hh.Dl,BU:=hh.BU,out:=hh.out,Bo:=hh.Bo,BY:=hh.BY};have C:(u.Aw=3)\/(u.Aw≠3/\u.Aw=4):=oG;rw[AJF];refine fo Tryz.func103 λρ key w p=>gG<|Cz (z m.a h.AC) λa j b ha=> ?_;have d:By j E {k with t:=u} {m with a:=a}:=h.Lp b ha;have A:Dd I m.L j m.L:=.of b;have G:=WJ j k.s m.sm.es m.sm.ns m.sm.n m.sm.m u.id e (λo K=>H _ o K) d.B0;rw[Qc]at G;rcases C with F|⟨F,M⟩;refine gg [(23,EN (u.Aw:Int) 3)] ?_
  rotate_left
  refine gg [(23,Fs (u.Aw:Int) 3),(30,EN (u.Aw:Int) 4)] ?_
  all_goals
   refine A0 G Ov λy hh=> ?_;obtain⟨q,l,rfl,c,g⟩:=hh;have f:By l E {k with t:=u} {m with a:=a}:=d.move c.EA ⟨rfl,rfl,rfl,rfl⟩ ⟨rfl,rfl,rfl,rfl⟩ (d.AC.up c) (d.B0.up c) (d.Dl.up c);have i:Dd I m.L l m.L:=A.trans (.of c);cases hgo:Am k.s u.id with
   |none=>
    simp[hgo]at g⊢;exact gG<|dn [] ⟨_,l,rfl,i,hend _ _ _ f⟩ (h:={r:=.t [],AV:=Bn E {m with a:=a} ⟨k.s,u,{k.e with done:=true}⟩,J:=l})
   |some o=>
    simp[hgo]at g⊢;by_cases hk:o.kind=6
    .rw[if_pos hk];exact gg [(49,hE (o.kind:Int) 6)]<|ACk (k:={k with t:=u}) (o:={o with v:=v,ex:=ex,done:=true}) (q:=q) f e (show o.var.q.length<=1000000 from H _ _ hgo) g kR λes' L D B x=>gG<|dn [] ⟨_,D,rfl,i.trans B,hend _ _ _ x⟩ (h:={r:=.t [],AV:=Bn E {m with a:=a,sm:=⟨es',L,m.sm.ns,m.sm.m⟩} ⟨Cn k.s u.id {o with v:=v,ex:=ex,done:=true},u,{k.e with done:=true}⟩,J:=D})
    .rw[if_neg hk];exact gg [(49,hN (o.kind:Int) 6)]<|dn [] ⟨_,l,rfl,i,hend _ _ _ f⟩ (h:={r:=.t [],AV:=Bn E {m with a:=a} ⟨k.s,u,{k.e with done:=true}⟩,J:=l})
 rw[if_pos oG];exact fo Tryz.func103 λρ key w p=>gG<|Cz (z m.a h.AC) λa j b ha=>gg [(23,Fs (u.Aw:Int) 3),(30,Fs (u.Aw:Int) 4)]<|dn [] ⟨_,j,rfl,.of b,h.Lp b ha⟩ (h:={r:=.t [],AV:=Bn E {m with a:=a} {k with t:=u},J:=j})
def AaT(c)(a:Int)(b:Nat):(FF c a b).2=.Iu\/∃v,(FF c a b).2=.failed v:=by rw[FF];split<;>simp
def ANk(h:By I E k m)(c p)(b:Int)(y:Kf c)(z:C0 I c p)(hid:BV k.t.id)(A:∀n o,Am k.s n=sM o->lN o.var.q<=1000000):Fn 159 [.p 1 0,.g<|Dx c p,.v<|nV b] (Bn E m k) I (EK I m.L E (EH k c b E.AP)<|.t []) nO:=by have i:=AMX I c p b E.AP y z;have d:=AaT c b E.AP;rw[EH];generalize FF c b E.AP=l at i d⊢;let⟨u,D⟩:=l;simp only at d;refine fo func159 λF B w s=>gG ?_;rcases d with rfl|⟨v,rfl⟩;exact Cz i λq J hle e=>gG<|dn [] ⟨_,J,rfl,.of hle,h.Lp hle ⟨e,h.AC.s.up hle λ_ _ h=>h⟩⟩ (h:={r:=.t [],AV:=Bn E {m with a:={m.a with p:=q}} {k with t:={k.t with c:=u}},J:=J});refine Cz i λq J hle e=>gG ?_;have f:By J E {k with t:={k.t with c:=u}} {m with a:={m.a with p:=q}}:=h.Lp hle ⟨e,h.AC.s.up hle λ_ _ h=>h⟩;exact KO (AFS f v tT hid A) λC x j g=>gG<|dn [] ⟨C,x,rfl,Dd.trans (.of hle) j,g⟩
theorem AcX(v w):(Instr.typeAssert (.iface 295 v) 20 295 tT).run prog w=.ok (.tuple #[v,vB tT]) w:=by rfl
theorem ARW(p q)(n m:Int)(h:Bool)(a w)(j:w.cell? p=sM (nV m))(l:w.frozen? p=fF)(b:w.cell? q=sM (vB h))(c:w.frozen? q=fF)(f:p≠q):
 CallsD prog 225 #[.pointer (sM p),.pointer (sM q)] (.panicking ({v:=.iface 295 (.agg #[.int iK n]),recovered:=fF}::a)) w λe o r=>
  e=.returned (.tuple #[])/\o=.panicking ({v:=.iface 295 (.agg #[.int iK n]),recovered:=tT}::a)/\r=(w.setCell p (nV n)).setCell q tV:=by
 refine callsD_of_wpS func225 rfl λi s k=> ?_;apply wpS_seq;apply wpS_region;simp[wpOpsS,go_sem,recoverD,k,ntmps225,Exit.thenS];apply wpS_seq;apply wpS_region;simp[wpOpsS,go_sem,Exit.thenS];refine wpS_cond (t:=tT) (by simp[Act.eval,Array.replicate]) ?_;simp[ME];apply wpS_seq;apply wpS_region;simp[wpOpsS,go_sem,Exit.thenS,j,l,b,c,AcX];have d:(w.setCell p (nV n)).cell? q=sM (vB h):=by rwa[World.cell?_setCell_other (h:=f)]
 have g:(w.setCell p (nV n)).frozen? q=fF:=by rwa[World.frozen?_setCell]
 apply wpS_region;simp[wpOpsS,go_sem,d,g,bodyPostS,results,results225]
theorem ARV(p q w):
 CallsD prog 225 #[.pointer (sM p),.pointer (sM q)] .returning w λe c d=>e=.returned (.tuple #[])/\c=.returning/\d=w:=by
 refine callsD_of_wpS func225 rfl λa f b=> ?_;apply wpS_seq;apply wpS_region;simp[wpOpsS,go_sem,recoverD,b,ntmps225,Exit.thenS];apply wpS_seq;apply wpS_region;simp[wpOpsS,go_sem,Exit.thenS];refine wpS_cond (t:=fF) (by simp[Act.eval,Array.replicate]) ?_;simp[N7,Hq];refine wpS_of_wp (wp_skip ?_);cases a;simp_all[bodyPostS,results,results225]
structure YK(n:Nat)(w:AN):Prop where
 c:w.cell? ⟨n,0,nO⟩=sM (.int iK 0)
 z:w.frozen? ⟨n,0,nO⟩=fF
 c2:w.cell? ⟨n+1,0,nO⟩=sM fV
 z2:w.frozen? ⟨n+1,0,nO⟩=fF
set_option maxRecDepth 100000 in
theorem AXN{G:Ba}(hE:AX.Enters prog G){p:AF}{w:AN}{S:AN->Prop}(k:Calls prog G #[p] ((w.alloc (.cells #[.int iK 0] 295)).alloc (.cells #[vB fF] 4)) λe a=>e=.returned (.tuple #[])/\YK w.heap.size a/\S a):
 Calls prog 157 #[p,.func (.func G) #[] #[]] w λe c=>∃a,S a/\e=.returned (.tuple #[.agg #[.int iK 0],vB fF])/\c=(a.setCell ⟨w.heap.size,0,nO⟩ (.int iK 0)).setCell ⟨w.heap.size+1,0,nO⟩ fV:=by
 have m:∀(h:Go.Fn)(first b:Ae AF)(w:AN),(Instr.makeFunc h first b).run prog w=.ok (.func h first b) w:=λ_ _ _ _=>rfl
 go_enter_defers func157,ntmps157
 go_wp2
 rw[hE];simp[Oper.upon];refine k.mono ?_;rintro e a ⟨rfl,d,n⟩;have l:=d.c;have q:=d.z;have g:=d.c2;have o:=d.z2
 go_wp2
 refine leaves_cons (f:=225) (args:=#[.pointer (aP w.heap.size),.pointer (aP (w.heap.size+1))]) sP (by simp[go_sem])<|(ARV ⟨w.heap.size,0,nO⟩ ⟨w.heap.size+1,0,nO⟩ _).mono ?_;have f:(⟨w.heap.size,0,nO⟩:Au)≠⟨w.heap.size+1,0,nO⟩:=by intro e;simp at e
 have i:(a.setCell ⟨w.heap.size,0,nO⟩ (.int iK 0)).cell? ⟨w.heap.size,0,nO⟩=sM (.int iK 0):=World.cell?_setCell_same _ _ _ l;have j:((a.setCell ⟨w.heap.size,0,nO⟩ (.int iK 0)).setCell ⟨w.heap.size+1,0,nO⟩ fV).cell? ⟨w.heap.size+1,0,nO⟩=sM fV:=World.cell?_setCell_same (u:=vB fF) _ _ _ (by rwa[World.cell?_setCell_other (h:=f)]);rintro e r c ⟨rfl,rfl,rfl⟩;simp[Leaves,settle,results,results157,go_sem,i,j];exact⟨a,n,rfl⟩
set_option maxRecDepth 100000 in
theorem AXP{G:Ba}(hE:AX.Enters prog G){p:AF}{w:AN}{n:Int}{S:AN->Prop}(j:Calls prog G #[p] ((w.alloc (.cells #[.int iK 0] 295)).alloc (.cells #[vB fF] 4)) λe a=>e=.panicked (Hg n)/\YK w.heap.size a/\S a):
 Calls prog 157 #[p,.func (.func G) #[] #[]] w λe f=>∃a,S a/\e=.returned (.tuple #[.agg #[.int iK n],vB tT])/\f=(a.setCell ⟨w.heap.size,0,nO⟩ (nV n)).setCell ⟨w.heap.size+1,0,nO⟩ tV:=by
 have k:∀(g:Go.Fn)(first c:Ae AF)(w:AN),(Instr.makeFunc g first c).run prog w=.ok (.func g first c) w:=λ_ _ _ _=>rfl
 go_enter_defers func157,ntmps157
 go_wp2
 rw[hE];simp[Oper.upon];refine j.mono ?_;rintro e a ⟨rfl,b,l⟩;have d:(⟨w.heap.size,0,nO⟩:Au)≠⟨w.heap.size+1,0,nO⟩:=by intro e;simp at e
 have h:(a.setCell ⟨w.heap.size,0,nO⟩ (nV n)).cell? ⟨w.heap.size,0,nO⟩=sM (nV n):=World.cell?_setCell_same _ _ _ b.c;have i:((a.setCell ⟨w.heap.size,0,nO⟩ (nV n)).setCell ⟨w.heap.size+1,0,nO⟩ tV).cell? ⟨w.heap.size+1,0,nO⟩=sM tV:=World.cell?_setCell_same (u:=vB fF) _ _ _ (by rw[World.cell?_setCell_other (h:=d)];exact b.c2)
 go_wp2
 refine leaves_cons (f:=225) (args:=#[.pointer (aP w.heap.size),.pointer (aP (w.heap.size+1))]) sP (by simp[go_sem])<|(ARW ⟨w.heap.size,0,nO⟩ ⟨w.heap.size+1,0,nO⟩ n 0 fF [] _ b.c b.z b.c2 b.z2 d).mono ?_;rintro e m f ⟨rfl,rfl,rfl⟩;simp[Leaves,settle,results,results157,go_sem,h,i];exact⟨a,l,rfl⟩
abbrev Mr(w:AN):AN:=(w.alloc<|.cells #[.int iK 0] 295).alloc<|.cells #[vB fF] 4
def Ss(w):(Mr w).heap.size=w.heap.size+2:=by show((w.heap.push _).push _).size=_;rw[NZ,NZ]
def AA6(w){b}(h:b<w.heap.size):(Mr w).heap[b]? =w.heap[b]? :=by show((w.heap.push _).push _)[b]? =_;rw[VF,AY<|by rw[NZ];omega,VF,AY oG]
def AdV(w):(Mr w).heap[w.heap.size]? =sM (.cells #[.int iK 0] 295 (0,0)):=by show((w.heap.push _).push _)[w.heap.size]? =_;rw[VF,AY<|by rw[NZ];omega,VF,Ac rfl]
def AdW(w):(Mr w).heap[w.heap.size+1]? =sM (.cells #[vB fF] 4 (0,0)):=by show((w.heap.push _).push _)[w.heap.size+1]? =_;rw[VF,Ac<|by rw[NZ]]
def AdU{n:Nat}{w}(a:w.heap[n]? =sM (.cells #[.int iK 0] 295 (0,0)))(b:w.heap[n+1]? =sM (.cells #[vB fF] 4 (0,0))):YK n w:=by refine⟨?_,?_,?_,?_⟩;unfold World.cell?;simp only[a];rfl;unfold World.frozen?;simp only[a];rfl;unfold World.cell?;simp only[b];rfl;unfold World.frozen?;simp only[b];rfl
def ANT(w:AN)(n o v){b}(h:b≠n):(w.setCell ⟨n,o,nO⟩ v).heap[b]? =w.heap[b]? :=by simp only[World.setCell,ABP];rw[AY λe=>h e.symm]
def ANU(w:AN)(a v):(w.setCell a v).heap.size=w.heap.size:=by simp only[World.setCell,Xm]
def AKk{I n w x c q h E F G}(A:After I n (Mr w) x c q h)(d:h.nb=[])(C:Holds w I)(y:∀v∈h.AV,n v.1<w.heap.size):
 After I n w ((x.setCell ⟨w.heap.size,0,nO⟩ F).setCell ⟨w.heap.size+1,0,nO⟩ G) c q {h with r:=E}:=by
 have J:=A.size;rw[Ss]at J;have u:∀b,b≠w.heap.size->b≠w.heap.size+1->((x.setCell ⟨w.heap.size,0,nO⟩ F).setCell ⟨w.heap.size+1,0,nO⟩ G).heap[b]? =x.heap[b]? :=λb e H=>by rw[ANT _ _ _ _ H,ANT _ _ _ _ e]
 have l:∀k,Ab.Bh h n c q k=n k:=λk=>by rw[Ab.Bh,CX];rw[d];cases Nat.ble c k<;>simp
 have m:Ab.Bh {h with r:=E} n c q=Ab.Bh h n c q:=rfl;have t:∀b,(∃o,h.J b=sM o)\/(∃o,h.J.Ak b=sM o)->b≠w.heap.size/\b≠w.heap.size+1:=by rintro b (⟨o,g⟩|⟨o,g⟩);rcases A.fresh b o g with e|⟨e,_⟩;have:=Eg<|C.1 b o e;omega;rw[Ss]at e;omega;rcases A.IX b o g with e|⟨e,_⟩;obtain⟨K,B⟩:=Mz.1 e;have:=Eg<|C.2 b K B;omega;rw[Ss]at e;omega
 refine⟨A.os,A.tape,A.output,by rw[ANU,ANU];omega,λb a z g=> ?_,λv s o g=> ?_,λj b f=> ?_,λi j D=> ?_,⟨λb o a=> ?_,λb o a=> ?_⟩,λb o a=> ?_,λb o a=> ?_⟩;rw[u b oG oG,A.A2 b (by rw[Ss];omega) z g,AA6 w a];rw[m]at g⊢;have:=y v s;rw[u _ (by rw[l];omega)<|by rw[l];omega];exact A.AV v s o g;simp only[d]at f;simp at f;simp only[d]at D;simp at D;rw[u b (t b<|.inl ⟨o,a⟩).1 (t b<|.inl ⟨o,a⟩).2];exact A.H2.1 b o a;rw[u b (t b<|.inr ⟨o,a⟩).1 (t b<|.inr ⟨o,a⟩).2];exact A.H2.2 b o a;refine(A.fresh b o a).imp id λ⟨p,r⟩=>⟨by rw[Ss]at p;omega,λj f=>by simp only[d]at f;simp at f⟩;refine(A.IX b o a).imp id λ⟨p,r⟩=>⟨by rw[Ss]at p;omega,λj f=>by simp only[d]at f;simp at f⟩
def ACn{E m k b w}(h:Has w b<|Bn E m k):∀x∈[1,2,3,4],b x<w.heap.size:=by intro x a;simp[mS]at a;rcases a with rfl|rfl|rfl|rfl;exact Eg<|h (1,(MR E m k).B3) (by simp[IT]) _ rfl;exact Eg<|h (2,Sl) (by simp[IT]) _ rfl;exact Eg<|h (3,.Aq<|.map m.sm.es m.sm.n) (by simp[IT]) _ rfl;exact Eg<|h (4,.Aq<|.map m.sm.ns m.sm.m) (by simp[IT]) _ rfl
def AKm{I E k t m G r g}(h:Fn G [.p 1 0] (Bn E m k) I (EK I m.L E t r) g)(ρ c w)(n:100<=c)(hN:Has w ρ<|Bn E m k)(j:Holds w I)(B:∀f∈Bn E m k,I.free<|ρ f.1)(l:∀x∈Bn E m k,∀y∈Bn E m k,ρ x.1=ρ y.1->x.1=y.1):
 Calls prog G (BB ρ [.p 1 0]).toArray (Mr w) λe u=>e=(match g with|none=>.returned (AO ρ r)|some C=>.panicked C)/\YK w.heap.size u/\∃m' J q,After I ρ (Mr w) u c q {r:=r,AV:=Bn E m' t,J:=J}/\Dd I m.L J m'.L/\By J E t m':=by
 have p:=ACn hN;have z:Has (Mr w) ρ (Bn E m k):=λf d o K=>by rw[AA6 w<|p f.1 (Vx (key:=0) (nb:=[]) f d).1];exact hN f d o K
 have v:Holds (Mr w) I:=⟨λb o i=>by rw[AA6 w<|Eg<|j.1 b o i];exact j.1 b o i,λb o i=>by rw[AA6 w<|Eg<|j.2 b o i];exact j.2 b o i⟩;refine(h.out ρ c (Mr w) n z v B l).mono ?_;rintro e u ⟨y,q,⟨⟨m',J,rfl,L,H⟩,_⟩,A,rfl⟩;have s:∀b,w.heap.size<=b->I.Ak b=nO:=λb i=>by
  cases e:I.Ak b with
  |none=>rfl
  |some o=>have:=Eg<|j.2 b o e;omega
 have a:∀b,w.heap.size<=b->b<w.heap.size+2->u.heap[b]? =(Mr w).heap[b]? :=λb F M=>A.A2 b (by rw[Ss];omega) (λf d=>by have:=p f.1 (Vx (key:=0) (nb:=[]) f d).1;omega)<|s b F
 have D:Ab.Bh {r:=r,AV:=Bn E m' t,J:=J} ρ c q=ρ:=by funext x;rw[Ab.Bh,CX];cases Nat.ble c x<;>simp
 refine⟨?_,AdU (by rw[a _ (Ag _) oG,AdV])<|by rw[a _ oG oG,AdW],m',J,q,A,L,H⟩;rw[D];cases g<;>rfl
def Abf{I E k f m G}(h:Fn G [.p 1 0] (Bn E m k) I (EK I m.L E f<|.t []) nO):Fn 157 [.p 1 0,.v<|.func (.func G) #[] #[]] (Bn E m k) I (EK I m.L E f<|.t [.g [.v<|.int iK 0],.v fV]) nO:=by refine⟨FC.of (AOi rfl).out λl c w b hN n g a=> ?_,AX.JL func157 kR kR⟩;refine(AXN h.Gb (p:=.pointer<|aP<|l 1) (w:=w) (S:=λp=>∃d J q,After I l (Mr w) p c q {r:=.t [],AV:=Bn E d f,J:=J}/\Dd I m.L J d.L/\By J E f d)<|AKm h l c w b hN n g a).mono ?_;rintro e u ⟨p,⟨d,J,q,A,t,s⟩,rfl,rfl⟩;have j:=ACn hN;exact⟨_,q,⟨d,J,rfl,t,s⟩,AKk A rfl n λo i=>j o.1 (Vx (key:=0) (nb:=[]) o i).1,rfl⟩
def Abg{I E k f m G}{n:Int}(h:Fn G [.p 1 0] (Bn E m k) I (EK I m.L E f<|.v undef)<|sM<|Hg n):Fn 157 [.p 1 0,.v<|.func (.func G) #[] #[]] (Bn E m k) I (EK I m.L E f<|.t [.g [.v<|nV n],.v tV]) nO:=by refine⟨FC.of (AOi rfl).out λl c w b hN o g a=> ?_,AX.JL func157 kR kR⟩;refine(AXP h.Gb (n:=n) (p:=.pointer<|aP<|l 1) (w:=w) (S:=λs=>∃d J q,After I l (Mr w) s c q {r:=.v undef,AV:=Bn E d f,J:=J}/\Dd I m.L J d.L/\By J E f d)<|AKm h l c w b hN o g a).mono ?_;rintro e v ⟨s,⟨d,J,q,A,u,t⟩,rfl,rfl⟩;have j:=ACn hN;exact⟨_,q,⟨d,J,rfl,u,t⟩,AKk A rfl o λp i=>j p.1 (Vx (key:=0) (nb:=[]) p i).1,rfl⟩
def Gz(k:Lz.Call)(o:Lz.Op):Lz.Call:={k with t:={k.t with c:=D4 (FR k.t.c<|BP o.code) λf=>{f with pc:=f.pc+1}}}
def OP(E:Env)(k:Lz.Call)(o:Lz.Op)(f:Cw)(a:Bi):Env:={E with o:=o,l:=Ct k.t.c<|BP o.code,args:=a,AR:=f.AR}
def APJ(I:AB)(L:AA Rw)(E:Env)(k:Lz.Call)(o:Lz.Op)(f:Cw)(c:Lz.Call):zP:=λ_ h=>∃a b J,h= {r:=.t [],AV:=Bn (OP E k o f a) b c,J:=J}/\Dd I L J b.L/\By J (OP E k o f a) c b
structure ABs(E:Env)(k:Lz.Call)(o:Lz.Op)(f:Cw):Prop where
 top:k.t.c.top=sM f
 pop:HQ k.t.c (BP o.code)
 len:Kf k.t.c
 pc:f.pc<=1000000000
 R7:lN E.im.Ax<=1000000
 op:∀a,GR (OP E k o f a) (Gz k o)
 id:BV (CO E.im E.AD o f.AR (Ct k.t.c (BP o.code)) (Gz k o)).1.t.id
 q:∀n ob,Am (CO E.im E.AD o f.AR (Ct k.t.c (BP o.code)) (Gz k o)).1.s n=sM ob->lN ob.var.q<=1000000
def Ac5(t:AL)(a:DV)(n:Nat):AA SV:=
 [.v<|sV t.id,.v<|sV t.Bg,.v<|vS<|AJ t.g.Ad.1,.v<|vS<|AJ t.g.Ad.2,.v<|vS<|AJ t.g.A5.1,.v<|vS<|AJ t.g.A5.2,
  .v<|.slice a.p.fa n a.p.fc,.v<|.slice a.p.sa (lN t.c.stack) a.p.sc,.v<|.slice a.p.ta (lN t.c.AP) a.p.tc,.v<|.slice a.ca (lN t.AI) a.cc,.v<|nV t.A7,.v<|nV t.Ao,.v<|nV t.Aw,.v<|sV t.on,
  .v<|nV t.v.kind,.v<|nV t.v.n,.v<|sV t.v.name,.v<|vS<|AJ t.v.l.1,.v<|vS<|AJ t.v.l.2,.v<|vB t.ex]
def Cl.AMx(c:Cl)(a:SV)(n:Nat):AA SV:=Fa c.im c.ip++a::.v (nV c.AD)::(Ac5 c.t c.a n++[.v<|nV c.AP,c.BU.sv,c.out.sv,c.Bo.sv,c.BY.sv,.v<|vB c.done,.v<|nV c.o.code,.v<|nV c.o.a,c.args.sv,.v<|.int .u8 c.AR.toNat])
def AMy(c:Cl){n}(h:n=lN c.t.c.AG):AK.cells (c.AMx (.p 2 0) n) 218=c.B3:=by subst h;rfl
def AJ8(k o):lN (Gz k o).t.c.AG=lN k.t.c.AG:=by simp[Gz,D4,FR]
def ACL(c:Nat):Nat:=if c<31 then c+201 else if c<44 then c+200 else c+199
def AQZ{J}(o f)(b:o.code∈[25,26,27,28,29,30,32,33,34,35,36,37,38,39,40,41,42,43,45,46])(A:ABs E k o f)(s:BP o.code<=lN k.t.c.stack)(t a)(d:By J (OP E k o f a) (Gz k o) t):
 IR (ACL o.code) J (OP E k o f a) t (Gz k o) (CO E.im E.AD o f.AR (Ct k.t.c<|BP o.code)<|Gz k o):=by
 simp[mS]at b;have u:∀n,BP o.code=n->lN (Ct k.t.c<|BP o.code)=n:=λn q=>by rw[N1 s,q]
 have p:o.code=25->CO E.im E.AD o f.AR (Ct k.t.c<|BP o.code) (Gz k o)=((Gz k o).push<|D1 (Gz k o).t.g.Ad,nO):=λq=>by rw[CO];rw[q];rfl
 have l:o.code=26->CO E.im E.AD o f.AR (Ct k.t.c<|BP o.code) (Gz k o)=((Gz k o).push<|D1 (Gz k o).t.g.A5,nO):=λq=>by rw[CO];rw[q];rfl
 have i:=A.op a;have g:∀G,ACL o.code=G->IR G J (OP E k o f a) t (Gz k o) (CO E.im E.AD o f.AR (Ct k.t.c<|BP o.code)<|Gz k o)->IR (ACL o.code) J (OP E k o f a) t (Gz k o) (CO E.im E.AD o f.AR (Ct k.t.c<|BP o.code)<|Gz k o):=λ_ e h=>by rwa[e]
 have j:∀n c,o.code=c->BP c=n->lN (Ct k.t.c<|BP o.code)=n:=λn c q r=>u n<|q▸r;rcases b with b|b|b|b|b|b|b|b|b|b|b|b|b|b|b|b|b|b|b|b;rw[p b,b];exact AbT d (by have:=i.len.s;omega);rw[l b,b];exact AbP d (by have:=i.len.s;omega);exact g _ (by rw[b];rfl)<|AaQ d i (j 1 _ b rfl) b;exact g _ (by rw[b];rfl)<|AXm d i (j 1 _ b rfl) b;exact g _ (by rw[b];rfl)<|ALZ (.inl ⟨rfl,rfl,rfl,rfl⟩) func230 d i (j 2 _ b rfl) b;exact g _ (by rw[b];rfl)<|AZK d i (j 1 _ b rfl) b;exact g _ (by rw[b];rfl)<|ALZ (.inr ⟨rfl,rfl,rfl,rfl⟩) func232 d i (j 2 _ b rfl) b;exact g _ (by rw[b];rfl)<|Aag d i (j 1 _ b rfl) b;exact g _ (by rw[b];rfl)<|AeM d i (j 2 _ b rfl) b;exact g _ (by rw[b];rfl)<|AYl d i (j 1 _ b rfl) b;exact g _ (by rw[b];rfl)<|Acf d i (j 1 _ b rfl) b;exact g _ (by rw[b];rfl)<|AaE d i (j 2 _ b rfl) b;exact g _ (by rw[b];rfl)<|AUa d i (j 3 _ b rfl) b A.R7;exact g _ (by rw[b];rfl)<|Ad1 d i (j 1 _ b rfl) b;exact g _ (by rw[b];rfl)<|AbQ d i (j 4 _ b rfl) b A.R7;exact g _ (by rw[b];rfl)<|AZV d i (j 2 _ b rfl) b;exact g _ (by rw[b];rfl)<|ASq d i (j 1 _ b rfl) b;exact g _ (by rw[b];rfl)<|AXW d i (j 1 _ b rfl) b;exact g _ (by rw[b];rfl)<|AYi d i (j 1 _ b rfl) b;exact g _ (by rw[b];rfl)<|ATN d i (j 2 _ b rfl) b A.R7
def AQU(h:By I E k m)(o f)(hc:asks o.code)(A:ABs E k o f):Fn 104 [.p 1 0,.g [.v<|.int .i64 o.code,.v<|.int .i64 o.a]] (Bn E m k) I (APJ I m.L E k o f<|Gt E.im E.AD E.AP o k) none:=by
 let⟨b,af,arr,e,fr,va,vc,ai,X,aj,a6,ap,Q⟩:=Tx h.AC.c A.top;have a5:=A.pc;have l1:=A.len.f;have l2:=A.len.s;have ad:BP o.code<=k.t.c.stack.length:=by have:=A.pop;simp[HQ,Bool.and_eq_true,decide_eq_true_eq]at this;omega
 have hm:o.code∈[25,26,27,28,29,30,32,33,34,35,36,37,38,39,40,41,42,43,45,46]:=by rw[asks]at hc;exact List.contains_iff_mem.1 hc
 have R:=λJ=>AQZ (J:=J) o f hm A ad;have Z:Gt E.im E.AD E.AP o k=(match CO E.im E.AD o f.AR (Ct k.t.c<|BP o.code) (Gz k o)with|(N,none)=>N|(N,some a)=>EH N k.t.c a E.AP):=by
  have hd:(k.t.c.top.getD default).AR=f.AR:=by rw[A.top];rfl
  show(match CO E.im E.AD o (k.t.c.top.getD default).AR (Ct k.t.c<|BP o.code) (Gz k o)with|(N,none)=>N|(N,some a)=>EH N k.t.c a E.AP)=_;rw[hd]
 rw[Z];have hid:=A.id;have hq:=A.q;generalize CO E.im E.AD o f.AR (Ct k.t.c<|BP o.code) (Gz k o)=ay at R hid hq⊢;have aa:=A.pop;have M:=A.top;have hp:=λJ (hle:I.le J)=>AAU J k.t.c m.a.p (BP o.code) f A.top A.pop oG oG<|h.AC.c.up hle;have W:=h.AC.c;have ae:=h.tab;let⟨a,z⟩:=o;simp only at hm R hp Z⊢;have V:1<=a/\a<=47:=by simp[List.mem_cons,List.not_mem_nil,_root_.or_false]at hm;omega
 let⟨im,ip,T,n,o0,l0,i,l⟩:=E;let⟨⟨⟨fa,fc,fl,sa,sc,sl,ta,tc,tl⟩,ca,cc,cl⟩,BU,out,Bo,BY,sm,L⟩:=m;simp only at X;subst X;refine fo Tryz.func104 λρ a7 w a1=>gG<|call (QN I ae a V.1 V.2)<|gg [(28,hW ((k.t.c.AG.length:Int)-1) ((k.t.c.AG.length-1:Nat):Int)),(29,Br I PO b af k.t.c.AG.length fc<|k.t.c.AG.length-1),(31,ED I Sw rfl (af+(k.t.c.AG.length-1)*5+3) _ aj<|Q 3 _ rfl)]<|Cz (hp I<|AB.le_refl I) λq J hle aq=> ?_;let⟨r,ab⟩:=aq;let⟨⟨a8,ax,d,B,C,D,F,G,H⟩,qa,qc,ql⟩:=q;simp only at r ab;let⟨b1,ag,az,a3,a4,h1,h2,h3⟩:=r.f.sl.open_ ap;simp only at h1;subst h1;refine gG<|PE (Yl J ⟨b1,ag,none⟩ k.t.c.AG.length ax d oG r.f.sl) λj AE ak s hj=> ?_;have P:GY J (FR k.t.c<|BP a) j d AE:=⟨r.f.CE,ak,s,hj⟩;let⟨_,a9,ba,ah,a2,t⟩:=P.top (f:=f) M;refine gg [(76,hW ((k.t.c.AG.length:Int)-1) ((k.t.c.AG.length-1:Nat):Int)),
  (77,Aee Be J 45 68 76 572 0 k.t.c.AG.length j (k.t.c.AG.length-1) 5 rfl rfl oG),
  (79,Aen Be J 3 78 572 (0+(k.t.c.AG.length-1)*5+1) 65 rfl rfl<|t 1 _ rfl),
  (80,hW ((f.pc:Int)+1) ((f.pc+1:Nat):Int)),
  (81,Aee Be J 45 68 76 572 0 k.t.c.AG.length j (k.t.c.AG.length-1) 5 rfl rfl oG)] ?_
 have a0:d.length=k.t.c.AG.length*5:=P.len;refine B0 (k:=572) (off:=0+(k.t.c.AG.length-1)*5+1) (t:=3) (ad:=.tmp 82) (x:=.tmp 80) (e:=65) (vs:=d++AE) (cs:=[.int .i64 ((f.pc+1:Nat):Int)]) (ty:=⟨1,_,_⟩) (I':=J) kR kR kR rfl rfl (by simp[List.length_append,List.length_singleton];omega) (by intro v hv;rw[List.mem_singleton.1 hv];rfl) kR ?_;refine go Tryz.func104 [] 1 kR<|B4 572 J (vs:=BX (d++AE) (0+(k.t.c.AG.length-1)*5+1) [.int .i64 ((f.pc+1:Nat):Int)]) (e:=65) λbb O g _ U=> ?_;let⟨y,av⟩:=P.HW (f:=f) M g (j:=1) (cs:=[.int .i64 ((f.pc+1:Nat):Int)]) (g:=λf=>{f with pc:=f.pc+1}) ZA sP;have aw:BX (d++AE) (0+(k.t.c.AG.length-1)*5+1) [.int .i64 ((f.pc+1:Nat):Int)]=BX d ((k.t.c.AG.length-1)*5+1) [.int .i64 ((f.pc+1:Nat):Int)]++AE:=av;rw[aw]at U;have c:I.le O:=hle.trans g;have an:C0 O (Gz k ⟨a,z⟩).t.c ⟨some ⟨bb,0,none⟩,j,BX d ((k.t.c.AG.length-1)*5+1) [.int .i64 ((f.pc+1:Nat):Int)],B,C,D,F,G,H⟩:=
  ⟨Av.Ky U y.CE (JN O) (AAJ y.CE) y.hc y.hm,(r.up g).s,(r.up g).t⟩
 have au:BP a<=k.t.c.stack.length:=by simp[HQ,Bool.and_eq_true,decide_eq_true_eq]at aa;omega
 have am:By O (OP ⟨im,ip,T,n,o0,l0,i,l⟩ k ⟨a,z⟩ f ⟨qa,BP a,qc⟩) (Gz k ⟨a,z⟩) ⟨⟨⟨some ⟨bb,0,none⟩,j,BX d ((k.t.c.AG.length-1)*5+1) [.int .i64 ((f.pc+1:Nat):Int)],B,C,D,F,G,H⟩,ca,cc,cl⟩,BU,out,Bo,BY,sm,L⟩:=
  {
   tab:=EB.Bf c.EA h.tab,pow:=Pow.Bf c.EA h.pow,img:=FJ.Bf c.EA h.img,args:=⟨(N1 au).symm,ql,ab.up g λ_ _ h=>h⟩,AC:=⟨an,h.AC.s.up c λ_ _ h=>h⟩,B0:=h.B0.up c,Dl:=h.Dl.up c,
   BU:=h.BU.Bf c.EA<|AFl c.EA,out:=h.out.Bf c.EA λ_ _ h=>h,Bo:=h.Bo.Bf c.EA λ_ _ h=>h,BY:=h.BY.Bf c.EA<|ABJ c.EA}
 have p:=R O _ _ am;have ac:Dd I L O L:=.of c;refine Om 1 (b:=.cells ((MR (OP ⟨im,ip,T,n,o0,l0,i,l⟩ k ⟨a,z⟩ f ⟨qa,BP a,qc⟩) ⟨⟨⟨some ⟨bb,0,none⟩,j,BX d ((k.t.c.AG.length-1)*5+1) [.int .i64 ((f.pc+1:Nat):Int)],B,C,D,F,G,H⟩,ca,cc,cl⟩,BU,out,Bo,BY,sm,L⟩<|Gz k ⟨a,z⟩).AMx (.p 2 0) k.t.c.AG.length) 218)
  (b':=(MR (OP ⟨im,ip,T,n,o0,l0,i,l⟩ k ⟨a,z⟩ f ⟨qa,BP a,qc⟩) ⟨⟨⟨some ⟨bb,0,none⟩,j,BX d ((k.t.c.AG.length-1)*5+1) [.int .i64 ((f.pc+1:Nat):Int)],B,C,D,F,G,H⟩,ca,cc,cl⟩,BU,out,Bo,BY,sm,L⟩<|Gz k ⟨a,z⟩).B3) kR (λρ=>by rw[AMy _ (AJ8 k ⟨a,z⟩).symm]) (λx hx=>by rwa[AMy _ (AJ8 k ⟨a,z⟩).symm]) rfl ?_
 refine gG<|A0 (AQc O) [] λh' Y=> ?_;rw[show h'=_ from Y];simp[List.mem_cons,List.not_mem_nil,_root_.or_false]at hm;rcases hm with rfl|rfl|rfl|rfl|rfl|rfl|rfl|rfl|rfl|rfl|rfl|rfl|rfl|rfl|rfl|rfl|rfl|rfl|rfl|rfl
 all_goals(
  refine gG ?_;obtain⟨N,_|a⟩:=ay;simp[rv,px]at p⊢;refine A0 (Abf p) [] λh' Y=> ?_;obtain⟨m2,J2,rfl,S,s⟩:=Y;exact gG<|dn [] ⟨_,m2,J2,rfl,ac.trans S,s⟩;simp[rv,px]at p⊢;refine A0 (Abg p) [] λh' Y=> ?_;obtain⟨m2,J2,rfl,S,s⟩:=Y;refine gG ?_;have K:=ac.trans S;exact KO (ANk s k.t.c _ a A.len (C0.Bf K.le W) hid hq) λm3 J3 ar al=>gG<|dn [] ⟨_,m3,J3,rfl,K.trans ar,al⟩)
def AS8(m:DU)(k:Lz.Call):AA SV:=[m.BU.sv,m.out.sv,m.Bo.sv,m.BY.sv,.v<|vB k.e.done]
def AGs(I:AB)(L:AA Rw)(c:Lz.Call):zP:=λ_ h=>∃E b J,h= {r:=.t [.g<|Dr c.t b.a,.g<|AS8 b c],AV:=LB b.sm.es b.sm.ns b.sm.n b.sm.m,J:=J}/\Dd I L J b.L/\By J E c b
def Jq(im:A6)(i:Dw)(AD b:Nat):Env:=⟨im,i,AD,b,⟨0,0⟩,[],⟨nO,0,0⟩,0⟩
def OZ(a:DV)(l:Sm)(L:AA Rw):DU:=⟨a,⟨nO,0,0⟩,⟨nO,0,0⟩,⟨nO,0,0⟩,⟨nO,0,0⟩,l,L⟩
structure AGi(I:AB)(im:A6)(i:Dw)(t:AL)(a:DV)(s:Az)(AD:Nat)(l:Sm)(L:AA Rw):Prop where
 step:O8 I im i t.c a.p
 cl:By I (Jq im i AD (CV t).2) ⟨s,t,A8⟩ (OZ a l L)
 XN:lN t.AI<=1000000
 id:BV t.id
 q:∀n o,Am s n=sM o->lN o.var.q<=1000000
 ask:∀o,(Es im t.c (CV t).1 (CV t).2).2=.asked o->asks o.code/\∃f,ABs (Jq im i AD (CV t).2) ⟨s,t,A8⟩ o f
variable{im:A6}{i:Dw}{t:AL}{a:DV}{s:Az}{AD:Nat}{l:Sm}{L:List Rw}
def ASe(D:AGi I im i t a s AD l L):Fn 46 [.g<|Fa im i,.g<|Dr t a,.p 1 0,.v<|nV AD] (LB l.es l.ns l.n l.m) I (AGs I L<|C6 im t s AD) nO:=by
 have b:=D.cl;have n:=AJP I t a b.AC.s D.XN;have hid:=D.id;have H:=D.q;by_cases M:t.Aw=0;have d:=AcG D.step (CV t).1 (CV t).2;have x:=D.ask;have F:C6 im t s AD=(match(Es im t.c (CV t).1 (CV t).2)with
  |(c,.Iu)=>⟨s,{t with c:=c},A8⟩
  |(c,.ended v)=>E7 ⟨s,{t with c:=c},A8⟩ v fF
  |(c,.failed v)=>E7 ⟨s,{t with c:=c},A8⟩ v tT
  |(_,.asked o)=>Gt im AD (CV t).2 o ⟨s,t,A8⟩):=by
  rw[C6];rw[AY oG];simp only;generalize Es im t.c (CV t).1 (CV t).2=y;obtain⟨c,_|_|_|_⟩:=y<;>rfl
 rw[F];generalize Es im t.c (CV t).1 (CV t).2=y at d x⊢;generalize CV t=fl at*;let⟨P,u⟩:=fl;obtain⟨c,_|v|v|o⟩:=y;simp only at d b⊢;refine fo func46 λE r w j=>gg [(17,EN (t.Aw:Int) 0)]<|call n<|gG<|Cz d λq J hle k=>gG ?_;have e:By J (Jq im i AD u) ⟨s,{t with c:=c},A8⟩ (OZ {a with p:=q} l L):=b.Lp hle ⟨k,b.AC.s.up hle λ_ _ h=>h⟩;exact dn [] ⟨_,_,J,rfl,.of hle,e⟩;simp only at d b⊢;refine fo func46 λE r w j=>gg [(17,EN (t.Aw:Int) 0)]<|call n<|gG<|Cz d λq J hle k=>gG ?_;have e:By J (Jq im i AD u) ⟨s,{t with c:=c},A8⟩ (OZ {a with p:=q} l L):=b.Lp hle ⟨k,b.AC.s.up hle λ_ _ h=>h⟩;refine A0 (AFS e v fF hid H) [(1,364),(2,1),(3,2),(4,3)] λG B=> ?_;obtain⟨K,z,rfl,m,g⟩:=B;exact gG<|dn [] ⟨_,_,z,rfl,Dd.trans (L':=L) (.of hle) m,g⟩;simp only at d b⊢;refine fo func46 λE r w j=>gg [(17,EN (t.Aw:Int) 0)]<|call n<|gG<|Cz d λq J hle k=>gG ?_;have e:By J (Jq im i AD u) ⟨s,{t with c:=c},A8⟩ (OZ {a with p:=q} l L):=b.Lp hle ⟨k,b.AC.s.up hle λ_ _ h=>h⟩;refine A0 (AFS e v tT hid H) [(1,364),(2,1),(3,2),(4,3)] λG B=> ?_;obtain⟨K,z,rfl,m,g⟩:=B;exact gG<|dn [] ⟨_,_,z,rfl,Dd.trans (L':=L) (.of hle) m,g⟩;let⟨N,f,A⟩:=x o rfl;simp only at d b A⊢;refine fo func46 λE r w j=>gg [(17,EN (t.Aw:Int) 0)]<|call n<|gG<|Cz d λq J hle k=>gG ?_;have e:By J (Jq im i AD u) ⟨s,t,A8⟩ (OZ a l L):=b.move hle.EA ⟨rfl,rfl,rfl,rfl⟩ ⟨rfl,rfl,rfl,rfl⟩ (b.AC.up hle) (b.B0.up hle)<|b.Dl.up hle;refine A0 (AQU e o f N A) [(1,364),(2,1),(3,2),(4,3)] λG B=> ?_;obtain⟨O,K,z,rfl,m,g⟩:=B
 have C:Gt (Jq im i AD u).im (Jq im i AD u).AD (Jq im i AD u).AP o ⟨s,t,A8⟩=Gt im AD u o ⟨s,t,A8⟩:=rfl;rw[C]at g;rw[C];generalize Gt im AD u o ⟨s,t,A8⟩=Q at g⊢;exact gG<|dn [] ⟨_,_,z,rfl,Dd.trans (L':=L) (.of hle) m,g⟩;have F:C6 im t s AD=⟨s,t,A8⟩:=by rw[C6];rw[Ac M]
 rw[F];exact fo func46 λE r w j=>gg [(17,Fs (t.Aw:Int) 0)]<|dn [] ⟨_,_,I,rfl,.refl _ _,b⟩
def Ad4(I t a v)(o:lN t.c.stack<=1000000)(h:DZ I t a):Fn 108 [.g<|Dr t a,.s 1 0 1 1] [(1,H3 v)] I (AGo I (H3 v) (λa:DV=>.g<|Dr (DX t [v]) a) λJ a=>DZ J (DX t [v]) a) nO:=by
 have c:Rows F9 (t.c.stack++[v]) (a.p.sl++BG v):=h.c.s.CE.append<|Rows.flat.2 sP;refine fo func108 λB q w j=>gG<|call (ACp I a.p.sa (lN t.c.stack) a.p.sc h.c.s.cap)<|gG<|act (need:=[(1,H3 v)]) (MM Be (x:=.s 1 0 1 1) (news:=BG v) LU kR rfl h.c.s.sl.reads (Ez (e:=51) sP rfl<|AAK v) (Ag _) oG (λe=> ?_) oG) M4 ?_;rcases h.c.s.sl.at_ with h|⟨b,u,arr,z,A,g,_⟩;exact h;rw[e]at g;cases g;rintro g ⟨d,f,x,y,r3,rfl⟩;refine go func108 [] 4 kR<|B4 188 I (vs:=a.p.sl++BG v++f) (e:=51) λb J hle _ m=>gG ?_;have el:lN (t.c.stack++[v])=lN t.c.stack+1:=sP;have i:Av J F9 5 (t.c.stack++[v]) (aP b) d (a.p.sl++BG v):=Av.Ky m c Jd (λv k=>Pn v<|by rw[Rows.flat.1 c]at k;exact k) (by rwa[el]) y;refine dn [] ⟨{a with p:={a.p with sa:=sM ⟨b,0,nO⟩,sc:=d,sl:=a.p.sl++BG v}},J,?_,hle,⟨⟨(h.up hle).c.f,i,(h.up hle).c.t⟩,(h.up hle).s⟩⟩ (h:={r:=.g [.v<|sV t.id,.v<|sV t.Bg,.v<|vS<|AJ t.g.Ad.1,.v<|vS<|AJ t.g.Ad.2,.v<|vS<|AJ t.g.A5.1,.v<|vS<|AJ t.g.A5.2,.v<|.slice a.p.fa (lN t.c.AG) a.p.fc,.v<|.slice (aP b) (lN t.c.stack+1) d,.v<|.slice a.p.ta (lN t.c.AP) a.p.tc,.v<|.slice a.ca (lN t.AI) a.cc,.v<|nV t.A7,.v<|nV t.Ao,.v<|.int iK (0:Nat),.v<|vS<|Aa [],.v<|nV t.v.kind,.v<|nV t.v.n,.v<|sV t.v.name,.v<|vS<|AJ t.v.l.1,.v<|vS<|AJ t.v.l.2,.v<|vB t.ex],AV:=[(1,H3 v)],J:=J});simp[DX,Dr,el]
def UA:Dw:=⟨nO,0,[],nO,0,[]⟩
def Aao(b:By I (Jq ⟨[],[]⟩ UA 0 (CV t).2) ⟨s,t,A8⟩<|OZ a l L)(v)(p:Bool)(j:Kf t.c)(h:lN t.AI<=1000000)(hid:BV t.id)(E:∀n o,Am s n=sM o->lN o.var.q<=1000000):
 Fn 110 [.g<|Dr t a,.p 1 0,Do v,.v<|vB p] (LB l.es l.ns l.n l.m) I (AGs I L<|Dv t s v p) nO:=by
 have D:=j.s;cases p with
 |false=>
  have m:Dv t s v fF=⟨s,DX t [v],A8⟩:=rfl;rw[m];refine fo func110 λF A w g=>gG<|A0 (Ad4 I t a v oG b.AC) [(1,164)] λC x=> ?_;obtain⟨i,J,rfl,hle,k⟩:=x;refine gG ?_;have c:By J (Jq ⟨[],[]⟩ UA 0 (CV t).2) ⟨s,DX t [v],A8⟩ (OZ i l L):=b.Lp hle k;exact dn [] ⟨_,_,J,rfl,.of hle,c⟩
 |true=>
  have m:Dv t s v tT=EH ⟨s,DX t [],A8⟩ (DX t []).c v.n (CV t).2:=rfl;have r:=AJP I t a b.AC.s h;have q:Kf (DX t []).c:=⟨j.f,by simpa[DX]using j.s,j.t⟩;have e:BV (DX t []).id:=hid;rw[m];generalize CV t=fl at*;let⟨G,tr⟩:=fl;simp only at b⊢;refine fo func110 λF A w g=>gG<|call r<|gG<|Cz (AOf I t a nO 0 b.AC) λi J hle k=> ?_;have c:By J (Jq ⟨[],[]⟩ UA 0 tr) ⟨s,DX t [],A8⟩ (OZ i l L):=b.Lp hle k;generalize DX t []=u at*;refine gG<|A0 (ANk c u.c i.p v.n q k.c e E) [(1,244),(2,1),(3,2),(4,3)] λC x=> ?_;obtain⟨K,B,rfl,y,d⟩:=x;have f:EH ⟨s,u,A8⟩ u.c v.n (Jq ⟨[],[]⟩ UA 0 tr).AP=EH ⟨s,u,A8⟩ u.c v.n tr:=rfl;rw[f]at d;rw[f];generalize EH ⟨s,u,A8⟩ u.c v.n tr=H at d⊢;exact gG<|dn [] ⟨_,_,B,rfl,Dd.trans (.of hle) y,d⟩
abbrev Tm:=AA<|Nm×AL
abbrev D6(I:AB)(s:Tm)(a:Ae Ar):Prop:=Aeh EZ (DZ I) s a
def D6.up{I J s es}(h:D6 I s es)(hle:I.le J):D6 J s es:=h.mono λ_ _ z=>z.up hle
end
end Go.Proofs.YtomehhepbeiinaaGreatDoor
