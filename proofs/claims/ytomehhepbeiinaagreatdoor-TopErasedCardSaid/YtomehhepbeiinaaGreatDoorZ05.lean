/- Part 5 of the proof of TopErased. No conditions. -/
import Derived.Test.YtomehhepbeiinaaGreatDoorZ04
import Derived.Shelf.Strconv.Itoa4
import Derived.Shelf.Strconv.ParseIntPublic10
import Derived.Shelf.Lay
set_option maxRecDepth 100000
set_option maxHeartbeats 4000000
set_option linter.all false
open List renaming length->lN
open Option renaming some->sM,none->nO
open Bool renaming true->tT,false->fF
open Go.Value renaming string->vS,bool->vB
open Go.IntKind renaming i64->iK
namespace Go.Proofs.YtomehhepbeiinaaGreatDoor
open Tryz
section
open Go.AX Lz
abbrev Hint:=It prog
def hT(p:Prop)[Decidable p](h:p:=by omega):Hint:=.eq (Value.bool<|decide p) tV<|bT h
def hF(p:Prop)[Decidable p](h: ¬p:=by omega):Hint:=.eq (Value.bool<|decide p) fV<|bF h
def hE(a b:Int)(h:a=b:=by omega):Hint:=.eq (Value.bool<|a==b) tV<|Y0 h
def hN(a b:Int)(h:a≠b:=by omega):Hint:=.eq (Value.bool<|a==b) fV<|QW h
def Fs(a b:Int)(h:a≠b:=by omega):Hint:=.eq (Value.bool<|a !=b) tV<|neT h
def EN(a b:Int)(h:a=b:=by omega):Hint:=.eq (Value.bool<|a !=b) fV<|neF h
def hW(n m:Int)(e:n=m:=by omega)(h: -9223372036854775808<=m/\m<9223372036854775808:=by omega):Hint:=.eq _ _<|iw e h
abbrev sH(x:Nat)(e:(x:Int)+1=((x+1:Nat):Int):=by omega)(h: -9223372036854775808<=((x+1:Nat):Int)/\((x+1:Nat):Int)<9223372036854775808:=by omega):=hW ((x:Int)+1) ((x+1:Nat):Int) e h
abbrev tH(x y:Nat)(h:(x:Int)<(y:Int):=by omega):=hT ((x:Int)<(y:Int)) h
abbrev fH(x y:Nat)(h:¬(x:Int)<(y:Int):=by omega):=hF ((x:Int)<(y:Int)) h
def OU(I:AB)(a:Ae BN)(x y z:Int)(h:max x y=z:=by omega):Hint:=.op I _ _<|ANY (ts:=a) (t:=3) z h
def ADp(I:AB)(a:Ae BN)(x y z:Int)(h:min x y=z:=by omega):Hint:=.op I _ _<|ANZ (ts:=a) (t:=3) z h
structure IE(t e size:Nat):Prop where
 ht:prog.underlying t=sM (.slice e)
 hi:∃i,prog.info? e=sM i/\i.size=size
def ix{I t e a b off n c k}(E:IE t e a)(g:k<n):
 ∀w,EJ w I->∃d,(Instr.indexAt t (.slice (aO b off) n c)<|iV k).run prog w=.ok (AO id<|.v<|.pointer<|sM ⟨b,off+k*a,nO⟩) d/\Bl w d:=by
 let⟨i,f,h⟩:=E.hi;exact Uo E.ht f h g
def Br(I:AB){t e a:Nat}(E:IE t e a)(b d n c k:Nat)(f:k<n:=by omega):Hint:=.op I _ _<|ix (b:=b) (off:=d) (c:=c) E f
structure Ht(t size:Nat):Prop where
 ht:∃d,prog.underlying t=sM d/\d.isRow
 hi:∃i,prog.info? t=sM i/\i.size=size
def Wh{I t a b o}(R:Ht t a){arr e g}(c:AA AF)(m:lN c=a)(h:I b=sM (.cells arr e g))(q:∀j v,c[j]? =sM v->arr[o+j]? =sM v):
 ∀w,EJ w I->∃f,(Instr.loadAt t<|.pointer<|aO b o).run prog w=.ok (AO id<|.g<|c.map .v) f/\Bl w f:=by
 let⟨d,k,n⟩:=R.ht;let⟨i,l,p⟩:=R.hi;exact Ur c rfl k n l (p.trans m.symm) h q
def D8(I:AB){t a:Nat}(R:Ht t a){b:Nat}{arr:Ae AF}{e:BN}{d:Nat×Nat}(o:Nat)(c:AA AF)(g:lN c=a)(f:I b=sM (.cells arr e d))(h:∀j v,c[j]? =sM v->arr[o+j]? =sM v):Hint:=.op I _ _<|Wh (o:=o) R c g f h
def ED(I:AB){t:Nat}{d:TypeDesc}(g:prog.underlying t=sM d)(f:d.isRow=fF){b:Nat}{arr:Ae AF}{e:BN}{a:Nat×Nat}(o:Nat)(v:AF)(c:I b=sM (.cells arr e a))(h:arr[o]? =sM v):Hint:=.op I _ _<|IZ g f c h
def PO:IE 45 65 5:=⟨U0,ZT⟩
def Gx:IE 29 51 5:=⟨NW,Qm⟩
def V6:IE 46 118 3:=⟨Sv,ZS⟩
def Rz:IE 49 114 14:=⟨U1,WW⟩
def M7:IE 30 195 3:=⟨AFx,ADz⟩
def Jr:IE 38 9 1:=⟨AON,AVt⟩
def R0:IE 83 261 7:=⟨AA9,AVs⟩
def row_of{t size}(d i)(a:prog.underlying t=sM d)(b:d.isRow)(c:prog.info? t=sM i)(e:i.size=size):Ht t size:=⟨⟨d,a,b⟩,⟨i,c,e⟩⟩
def Oo:Ht 51 5:=by refine row_of ((prog.underlying 51).getD Al) ((prog.info? 51).getD Al) ?_ ?_ ?_ ?_<;>exact kR
def XJ:Ht 65 5:=by refine row_of ((prog.underlying 65).getD Al) ((prog.info? 65).getD Al) ?_ ?_ ?_ ?_<;>exact kR
def XH:Ht 118 3:=by refine row_of ((prog.underlying 118).getD Al) ((prog.info? 118).getD Al) ?_ ?_ ?_ ?_<;>exact kR
def XG:Ht 114 14:=by refine row_of ((prog.underlying 114).getD Al) ((prog.info? 114).getD Al) ?_ ?_ ?_ ?_<;>exact kR
def AM1:Ht 195 3:=by refine row_of ((prog.underlying 195).getD Al) ((prog.info? 195).getD Al) ?_ ?_ ?_ ?_<;>exact kR
def XI:Ht 211 2:=by refine row_of ((prog.underlying 211).getD Al) ((prog.info? 211).getD Al) ?_ ?_ ?_ ?_<;>exact kR
def AAi:Ht 261 7:=by refine row_of ((prog.underlying 261).getD Al) ((prog.info? 261).getD Al) ?_ ?_ ?_ ?_<;>exact kR
def Sf:Ht 42 2:=by refine row_of ((prog.underlying 42).getD Al) ((prog.info? 42).getD Al) ?_ ?_ ?_ ?_<;>exact kR
def AFw:prog.underlying 188=sM (.slice 211):=kR
def AVr:∃i,prog.info? 211=sM i/\i.size=2:=XI.hi
def PN:IE 188 211 2:=⟨AFw,AVr⟩
def Av.cell{o:Type}{I R d c k}{n:List o}{a g x}(h:Av I R d n a c g)(u:∀x l,R x l->lN l=d)(p:n[k]? =sM x):
 ∃b f arr e m l,a=sM ⟨b,f,nO⟩/\I b=sM (.cells arr e m)/\R x l/\k<lN n/\∀j v,l[j]? =sM v->arr[f+k*d+j]? =sM v:=by
 have t:=(List.getElem?_eq_some_iff.1 p).1;let⟨b,f,arr,e,m,q,r,s⟩:=h.sl.open_ oG;refine⟨b,f,arr,e,m,_,q,r,h.CE.get u p,t,λj v i=> ?_⟩;rw[List.getElem?_take]at i;split at i;rw[List.getElem?_drop]at i;rw[Nat.add_assoc];exact s _ v i;cases i
def SR{o}(h:IY o):(1<=o.code/\o.code<=47)/\(Cf o.code=0->o.a=0)/\(Cf o.code≠0->o.a<=65535):=by simp[IY,UX,Bool.and_eq_true,decide_eq_true_eq]at h;refine⟨h.1,λe=> ?_,λe=> ?_⟩;have:=h.2;rw[if_pos e]at this;simpa using this;have:=h.2;rw[if_neg e]at this;simpa using this
def XE(I)(a:EB I)(o)(h:IY o):Fn 198 [Po o] [] I (BW (.v tV) I) nO:=by let⟨⟨c,d⟩,h3,h4⟩:=SR h;refine fo func198 λg f w b=>gG<|call (QN I a o.code c d) ?_;by_cases e:Cf o.code=0;refine gg [(15,hE (Cf o.code) 0),(18,hE o.a 0 (by have:=h3 e;omega))] ?_;exact fi;have:=h4 e;exact gg [(15,hN (Cf o.code) 0),(21,hT<|(o.a:Int)≥0),(25,hT<|(o.a:Int)<=65535)]<|fi
def Qb(f:Cw)(a:AU Au)(b:Nat):AA AF:=[.int iK f.fn,.int iK f.pc,.int iK f.Cp,.int .u8 f.AR.toNat,.slice a (lN f.Ai) b]
def ADg(f:Cw)(a:AU Au)(b:Nat):SV:=.g [.v<|nV f.fn,.v<|nV f.pc,.v<|nV f.Cp,.v<|.int .u8 f.AR.toNat,.v<|.slice a (lN f.Ai) b]
def AZM(I)(g:EB I)(a p f z A d o)(t:FJ I a p)(k:a.Ax[f.fn]? =sM d)(h:1<=o.code)(i:o.code<=47):Fn 199 [.g<|Fa a p,ADg f z A,Po o] [] I (BW (.v<|vB<|Iq a f o) I) nO:=by
 refine fo func199 λM x w l=>gG<|call (QN I g o.code h i) ?_;have F:=(AAO o.code h i).1;by_cases m:Cf o.code=1;refine gg [(18,hE (Cf o.code) 1)]<|call (VA I o.a<|lN a.DN)<|gG ?_;rw[show Iq a f o=decide (o.a<lN a.DN) by unfold Iq;rw[m];rfl];exact fi;by_cases n:Cf o.code=2;refine gg [(18,hN (Cf o.code) 1),(26,hE (Cf o.code) 2)]<|call (VA I o.a<|lN f.Ai)<|gG ?_;rw[show Iq a f o=decide (o.a<lN f.Ai) by unfold Iq;rw[n];rfl];exact fi;by_cases q:Cf o.code=3;let⟨b,c,arr,e,E,B,C,D,j,s,_,u,v⟩:=OR t.u k;let⟨G,H,J,K,y,L⟩:=p;simp only at j;subst j;refine gg [(18,hN (Cf o.code) 1),(26,hN (Cf o.code) 2),(34,hE (Cf o.code) 3),(41,Br I M7 b c (lN a.Ax) y f.fn u),(43,ED I AFw rfl (c+f.fn*3+2) _ s<|v 2 _ rfl)]<|call (VA I o.a<|lN d.code)<|gG ?_;rw[show Iq a f o=decide (o.a<lN d.code) by unfold Iq;rw[q];simp[DK,k]];exact fi;by_cases r:Cf o.code=4;refine gg [(18,hN (Cf o.code) 1),(26,hN (Cf o.code) 2),(34,hN (Cf o.code) 3),(47,hE (Cf o.code) 4)]<|call (VA I o.a<|lN a.Ax)<|gG ?_;rw[show Iq a f o=decide (o.a<lN a.Ax) by unfold Iq;rw[r];rfl];exact fi;refine gg [(18,hN (Cf o.code) 1),(26,hN (Cf o.code) 2),(34,hN (Cf o.code) 3),(47,hN (Cf o.code) 4)] ?_;rw[show Iq a f o=tT by unfold Iq;have:Cf o.code=0\/Cf o.code=5:=oG;rcases this with e|e<;>(rw[e];rfl)]
 exact fi
variable{F:FuncId}{O:Func}{n:Nat}{I:AB}{w:World}{ρ:Nat->Nat}{A:List Nat}{R:Ec}{f:Bv}
def PE{c I' G d m e i}(h:Fn G c [] I' (Va I' d m e i) nO)(hnext:∀b a,m<=b->b<=maxLen->lN a=(b-m)*d->At F O n I w ρ A R (f.out (BA []) {r:=.s (EL f) 0 m b,nb:=[.As (i++a) e],J:=I'}))(g:FH f n G [] [] c I':=by exact kR):At F O n I w ρ A R f:=
 A0 h [] (hobs:=g) λh o=>by obtain⟨b,a,j,k,l,rfl⟩:=o;exact hnext b a j k l
def B0{vs cs e t k off ad x ty I'}(m:(Mo f).op=.store t ad x)(q:ev f.σ.tm ad=.p k off)(z:(ev f.σ.tm x).cs=sM (cs.map .v))(o:Bt.get t=sM ty)(y:lN cs=ty.n)(s:off+lN cs<=lN vs)(p:∀v∈cs,v.oneCell')
 (a:OB f n [(k,.As vs e)] I') (hnext:At F O n I w ρ A R<|f.act {r:=.v undef,AV:=[(k,.As (BX vs off cs) e)],J:=I'}):At F O n I w ρ A R f:=by
 refine act (need:=[(k,.As vs e)]) (hobs:=a) (AJu (I:=I') Be (L:=Bt) m q z o y s p<|A9.2 rfl) ?_ ?_;intro h g;subst g;refine{r:= ?_,u:= ?_,n:= ?_,l:=by simp,le:=AB.Hj _,d:=by simp};intro k i;cases i;intro B j;rw[A9.1 j];refine⟨A9.2 rfl,?_,?_⟩;intro b c;rw[(IC<|A9.1 c).2];rfl;intro k i;cases i;intro b c;cases c;intro h g;subst g;exact hnext
def AAr{l a:AA AF}{o}(h:o+lN a<=lN l):lN (BX l o a)=lN l:=by rw[BX];simp[CK,Cu,Lw];omega
def Ut{a b c:AA AF}{o}(h:o+lN c<=lN a):BX (a++b) o c=BX a o c++b:=by unfold BX;rw[Ji oG,VI h];simp
def ANh{a b cs:AA AF}{o}:BX (a++b) (lN a+o) cs=a++BX b o cs:=by unfold BX;rw[AGb,Nb,S5];simp
theorem Rows.AV{p:Type}{R S c j}{cs:AA AF}(o:∀x l,R x l->lN l=c)(d:∀x l,R x l->S x l):∀ {i:AA p} {l:AA AF} {k:Nat} {x x':p},Rows R i l->i[k]? =sM x->(∀h,R x h->S x' (BX h j cs))->j+lN cs<=c->Rows S (i.set k x') (BX l (k*c+j) cs)
 |y::i,l,0,x,x',⟨a,b,e,g,m⟩,hx,hf,hj=>by cases hx;have:=o _ _ g;refine⟨BX a j cs,b,?_,hf a g,m.mono d⟩;rw[e,Nat.zero_mul,FE,Ut oG]
 |y::i,l,k+1,x,x',⟨a,b,e,g,m⟩,hx,hf,hj=>by have:=o _ _ g;refine⟨a,BX b (k*c+j) cs,?_,d _ _ g,Rows.AV o d m hx hf hj⟩;rw[e,<-ANh,this];congr 1;rw[Gm];omega
def modify_eq{a:Type}{l:AA a}{k x f}(h:l[k]? =sM x):l.modify k f=l.set k (f x):=by apply VJ;intro i;rw[RP,VL];by_cases e:k=i;subst e;rw[Ac rfl,h,Ac (Ci.1 h).1];simp;rw[AY e];simp only[AY e];cases l[i]? <;>rfl
def ZA{I f}{pc:Nat}:∀b,Gd I f b->Gd I {f with pc:=pc} (BX b 1 [.int iK pc]):=by rintro b ⟨c,d,a,rfl,q⟩;exact⟨c,d,a,rfl,q⟩
def AUg{I f m}:∀b,Gd I f b->Gd I {f with AR:=m} (BX b 3 [.int .u8 m.toNat]):=by rintro b ⟨c,d,a,rfl,q⟩;exact⟨c,d,a,rfl,q⟩
def Av.Ky{h:Type}{J R a b c}{d:AA h}{l AE:AA AF}{e}(j:J b=sM (.cells (l++AE).toArray e (0,0)))(g:Rows R d l)(m:∀x l,R x l->lN l=a)(i:∀v∈l,v.oneCell')(k:lN d<=c)(o:c<=maxLen):Av J R a d (aP b) c l:=
 ⟨Dk.Og j (g.len m) i,k,o,g⟩
def AAJ{I d l}(h:Rows (Gd I) d l):∀v∈l,v.oneCell':=by
 induction d generalizing l with
 |nil=>cases h;intro v c;cases c
 |cons x d e=>
  obtain⟨a,b,rfl,⟨_,_,_,rfl,_⟩,h2⟩:=h;intro v c;rcases Bc.1 c with c|c;simp at c;rcases c with rfl|rfl|rfl|rfl|rfl<;>rfl;exact e h2 v c
abbrev APx(I:AB)(u:Ay):zP:=He I (λq:DL=>.t [.g<|Dx u q,.v tV]) λJ q=>C0 J u q
def AN7(I)(c:Ay)(p)(b:Int)(a:Nat)(e:lN c.AP-1<a\/lN c.AP=0)(g:lN c.AP<=1000000):Fn 224 [.g<|Dx c p,.v<|nV b,.v<|nV a] [] I (BW (.t [.g<|Dx c p,.v fV]) I) nO:=fo func224 λh f w d=>gg [(15,hW ((lN c.AP:Int)-1) ((lN c.AP:Int)-1) rfl),(18,OU I #[3,3] a 0 a oG),(19,hT<|(lN c.AP:Int)-1<(a:Int))]<|fi
def AdC(I c p)(f:Int)(a:Nat)(t)(h:C0 I c p)(s:c.AP.getLast?=sM t)(r:a<=lN c.AP-1)(n:t.AG<1\/lN c.AG<t.AG\/lN c.stack<t.Cg)(C:lN c.AP<=1000000):Fn 224 [.g<|Dx c p,.v<|nV f,.v<|nV a] [] I (BW (.t [.g<|Dx c p,.v fV]) I) nO:=by let⟨b,d,arr,e,z,l,m,g,q,i,j⟩:=h.t.cell Uy<|SD s;rw[Oy]at q;subst q;let⟨x,y,fl,D,E,F,G,k,H⟩:=p;simp only at m;subst m;refine fo func224 λJ v w o=> ?_;by_cases A:t.AG<1;exact gg [(15,hW ((lN c.AP:Int)-1) ((lN c.AP-1:Nat):Int)),(18,OU I #[3,3] a 0 a oG),(19,hF<|((lN c.AP-1:Nat):Int)<(a:Int)),(24,Br I V6 b d (lN c.AP) k (lN c.AP-1) i),(25,D8 I XH (d+(lN c.AP-1)*3) (Ea t) rfl g j),(28,hT<|(t.AG:Int)<1)]<|fi;by_cases B:lN c.AG<t.AG;exact gg [(15,hW ((lN c.AP:Int)-1) ((lN c.AP-1:Nat):Int)),(18,OU I #[3,3] a 0 a oG),(19,hF<|((lN c.AP-1:Nat):Int)<(a:Int)),(24,Br I V6 b d (lN c.AP) k (lN c.AP-1) i),(25,D8 I XH (d+(lN c.AP-1)*3) (Ea t) rfl g j),(28,hF<|(t.AG:Int)<1),(35,hT<|(t.AG:Int)>lN c.AG)]<|fi;exact gg [(15,hW ((lN c.AP:Int)-1) ((lN c.AP-1:Nat):Int)),(18,OU I #[3,3] a 0 a oG),(19,hF<|((lN c.AP-1:Nat):Int)<(a:Int)),(24,Br I V6 b d (lN c.AP) k (lN c.AP-1) i),(25,D8 I XH (d+(lN c.AP-1)*3) (Ea t) rfl g j),(28,hF<|(t.AG:Int)<1),(35,hF<|(t.AG:Int)>lN c.AG),(40,hF<|(t.Cg:Int)<0),(48,hT<|(t.Cg:Int)>lN c.stack)]<|fi
def AdD(I c p)(d:Int)(g:Nat)(t)(h:C0 I c p)(ht:c.AP.getLast?=sM t)(ab:g<=lN c.AP-1)(h1:1<=t.AG)(h2:t.AG<=lN c.AG)(h3:t.Cg<=lN c.stack)(hl:lN c.AP<=1000000)(aa:lN c.AG<=1000000)(ac:lN c.stack<=1000000):
 Fn 224 [.g<|Dx c p,.v<|nV d,.v<|nV g] [] I (APx I ⟨KC (c.AG.take t.AG) (t.AG-1) t.at_,c.stack.take t.Cg++[BH d],c.AP.take<|lN c.AP-1⟩) nO:=by
 let⟨b,u,arr,e,fr,l,R,Z,T,hk,L⟩:=h.t.cell Uy<|SD ht;rw[Oy]at T;subst T;let⟨fa,X,fl,U,sc,V,ta,W,tl⟩:=p;simp only at R;subst R;have j:=h.f.take (JN I) t.AG;let⟨N,C,M,e2,Y,E,_⟩:=j.sl.open_ sO;simp only at E;subst E;have hlen:lN (c.AG.take t.AG)=t.AG:=sO
 have n:min t.AG (lN c.AG)=t.AG:=oG;rw[n]at j;have B:=j.sl;rw[hlen]at B;refine fo func224 λρ ad w S=>gg [(15,hW ((lN c.AP:Int)-1) ((lN c.AP-1:Nat):Int)),(18,OU I #[3,3] g 0 g oG),(19,hF<|((lN c.AP-1:Nat):Int)<(g:Int)),(24,Br I V6 b u (lN c.AP) W (lN c.AP-1) hk),(25,D8 I XH (u+(lN c.AP-1)*3) (Ea t) rfl Z L),(28,hF<|(t.AG:Int)<1),(35,hF<|(t.AG:Int)>lN c.AG),(40,hF<|(t.Cg:Int)<0),(48,hF<|(t.Cg:Int)>lN c.stack)] ?_;have A:=Yr I (aO N C) (lN c.AG) X t.AG h.f.cap;rw[n]at A;refine call A<|gG<|PE (Yl I ⟨N,C,nO⟩ t.AG t.AG _ oG B) λy s G H hj=>gg [(60,hW ((t.AG:Int)-1) ((t.AG-1:Nat):Int)),
  (63,.BZ (.indexAddr 45 (.tmp 57)<|.tmp 60) [(57,.s 484 0 t.AG y),(60,.v<|.int iK<|Int.ofNat<|t.AG-1)] [] I (.p 484<|0+(t.AG-1)*5)<|I5 Be (e:=65) (ty:=⟨5,_,_⟩) rfl rfl oG)] ?_
 have D:=j.CE.len<|JN I;rw[hlen]at D;refine B0 (k:=484) (off:=0+(t.AG-1)*5+1) (t:=3) (ad:=.tmp 64) (x:=.tmp 62) (e:=65) (vs:=fl.take (t.AG*5)++s) (cs:=[.int iK t.at_]) (ty:=⟨1,_,_⟩) (I':=I) kR kR kR rfl rfl (by simp[CK,D,O3];omega) (by intro v L;rw[A9.1 L];rfl) kR ?_;refine gG<|call (Vz I U (lN c.stack) sc t.Cg h.s.cap)<|gG ?_;have F:=h.s.take Jd t.Cg;have f:min t.Cg (lN c.stack)=t.Cg:=oG;have k:lN (c.stack.take t.Cg)=t.Cg:=sO
 have q:=F.sl;rw[f]at q;rw[k]at q;refine KR (AHG I U (min t.Cg<|lN c.stack) (min t.Cg<|lN c.stack) (V.take<|t.Cg*5) (BH d) (Ag _) oG<|by rwa[f]) λa m J hle q1 q2 q3=> ?_;refine gG<|call (AIg J (aO b u) (lN c.AP) W (lN c.AP-1) h.t.cap)<|gG<|B4 484 J (vs:=BX (fl.take (t.AG*5)++s) (0+(t.AG-1)*5+1) [.int iK t.at_]) (e:=65) λO K i _ Q=> ?_;have z:∃x,(c.AG.take t.AG)[t.AG-1]? =sM x:=⟨(c.AG.take t.AG)[t.AG-1]'oG,BS oG⟩;let⟨x,z⟩:=z;have o:Rows (Gd K) (KC (c.AG.take t.AG) (t.AG-1) t.at_) (BX (fl.take<|t.AG*5) ((t.AG-1)*5+1) [.int iK t.at_]):=by rw[KC];rw[modify_eq z];exact(j.CE.AV (JN I) (λ_ _ h=>h) z ZA sP).mono<|Nl<|hle.trans i
 have hnew:C0 K ⟨KC (c.AG.take t.AG) (t.AG-1) t.at_,c.stack.take t.Cg++[BH d],c.AP.take<|lN c.AP-1⟩ ⟨sM ⟨O,0,nO⟩,y,BX (fl.take<|t.AG*5) ((t.AG-1)*5+1) [.int iK t.at_],a,m,V.take (t.Cg*5)++BG (BH d),sM ⟨b,u,nO⟩,min (lN c.AP-1)<|lN c.AP,tl.take<|min (lN c.AP-1) (lN c.AP)*3⟩:=by refine⟨?_,?_,(h.up<|hle.trans i).t.take Uy<|lN c.AP-1⟩;refine Av.Ky (l:=BX (fl.take<|t.AG*5) ((t.AG-1)*5+1) [.int iK t.at_]) (AE:=s) (e:=65) ?_ o (JN K) (AAJ o) ?_ H;rw[FE,Ut<|by simp[D,O3];omega]at Q;exact Q;simp[KC,N8,hlen];exact G;have P:lN (c.stack.take t.Cg++[BH d])=min t.Cg (lN c.stack)+1:=sP;refine⟨?_,by rwa[P],q2,?_⟩;rw[P];exact q3.up i;have:=F.CE;rw[f]at this;exact this.append<|Rows.one rfl
 refine dn [] ⟨_,K,?_,hle.trans i,hnew⟩ (h:={r:=.t [.g [.v<|.slice (aP O) t.AG y,.v<|.slice a (min t.Cg (lN c.stack)+1) m,.v<|.slice (aO b u) (min (lN c.AP-1)<|lN c.AP)<|min (lN c.AP-1)<|lN c.AP],.v tV],J:=K});simp[Dx,KC,f,k,n]
def AAQ(k:Nat)(v:AW)(o:Lz.Op):AA SV:=[.v<|nV k,.v<|nV v.kind,.v<|nV v.n,.v<|sV v.name,.v<|vS<|AJ v.l.1,.v<|vS<|AJ v.l.2,.v<|nV o.code,.v<|nV o.a]
def AZU:Lz.Out->SV
 | .Iu=>.g<|AAQ 0 AZ ⟨0,0⟩
 | .ended v=>.g<|AAQ 1 v ⟨0,0⟩
 | .failed v=>.g<|AAQ 2 v ⟨0,0⟩
 | .asked o=>.g<|AAQ 3 AZ o
abbrev YH(I:AB)(r:Ay×Lz.Out):zP:=He I (λq:DL=>.t [.g<|Dx r.1 q,AZU r.2]) λJ q=>C0 J r.1 q
structure Kf(c:Ay):Prop where
 f:lN c.AG<=900000
 s:lN c.stack<=900000
 t:lN c.AP<=900000
def AMX(I c p)(a:Int)(b:Nat)(i:Kf c)(h:C0 I c p):Fn 153 [.g<|Dx c p,.v<|nV a,.v<|nV b] [] I (YH I<|FF c a b) nO:=by
 have u:=i.f;have v:=i.s;have x:=i.t;refine fo func153 λo m w n=>gG ?_;have f:NU c a b=nO->Fn 224 [.g<|Dx c p,.v<|nV a,.v<|nV b] [] I (BW (.t [.g<|Dx c p,.v fV]) I) nO->At 153 f153 f153.ntmps I w o (([]:AA<|Nat×AK).map (·.1)) (Ends (([]:AA<|Nat×AK).map (·.1)) I o m w (YH I<|FF c a b) nO) (rX [] f153.ntmps (([]:AA<|Nat×AK).map (·.1))<|init [.g<|Dx c p,.v<|nV a,.v<|nV b] [] I<|MP f153).f:=λl k=>by
  refine call k<|gG<|call (U9 I a)<|gG ?_;have e:FF c a b=(c,.failed<|BH a):=by rw[FF];rw[l]
  rw[e];exact dn [] ⟨p,I,rfl,AB.le_refl _,h⟩
 cases d:c.AP.getLast? with
 |none=>
  have r:lN c.AP=0:=by rw[S8]at d;rw[d];rfl
  exact f (by rw[NU];rw[d])<|AN7 I c p a b (.inr r) oG
 |some t=>
  by_cases g:lN c.AP-1<b;exact f (by rw[NU];rw[d];simp only;rw[Ac g])<|AN7 I c p a b (.inl g) oG;by_cases j:t.AG<1\/lN c.AG<t.AG\/lN c.stack<t.Cg;exact f (by rw[NU];rw[d];simp only;rw[AY g,Ac j])<|AdC I c p a b t h d oG j oG;have e:FF c a b=(⟨KC (c.AG.take t.AG) (t.AG-1) t.at_,c.stack.take t.Cg++[BH a],c.AP.take<|lN c.AP-1⟩,.Iu):=by rw[FF,NU];rw[d];simp only;rw[AY g,AY j]
  rw[e];exact Cz (AdD I c p a b t h d oG oG oG oG oG oG oG) λq J hle s=>gG<|dn [] ⟨q,J,rfl,hle,s⟩
def AIU(I)(ad)(n c)(xs)(hc:n<=16777216)(h:Dk I 5 (some ad) n xs):Fn 42 [.v (.slice (some ad) n c)] [] I (Va I 5 n 51 xs) none:=by refine Ju 8 Tryz.func42 Tryz.ntmps42 rfl rfl kR λρ key w a=>gg [(4,.op I _ (.v (.bool false)) (MV (a:=some ad) (n:=n) (c:=c) (.tmp 3) (.const (.slice none 0 0)) NW))]<|act (need:=[(124,.As [] 51)]) (Kk Be (n:=0) (vs:=[]) (CQ:=[]) LU kR sP rfl rfl sP (h.reads (c:=c)) (Nat.le_refl _) (by rw[maxLen];omega) oG) (QO (.inr ⟨_,_,_,rfl,rfl⟩)) ?_;rintro h' ⟨cap,AE,h1,b,d,rfl⟩;refine gG ?_;exact dn [140] ⟨cap,AE,oG,b,by rw[d];simp,sP⟩ (h:={r:=.s (key+0) 0 (0+n) cap,nb:=[.As (xs++AE) 51],J:=I})
def QP{I g n i k t e q o v m}(s:m.live):∀h,VU I g n i e [(k,.gone)] o h->h.wf I g [(k,.As v q),(t,m)] []:=by rintro h ⟨p,f,_,_,_,rfl⟩;refine{r:=λx c=> ?_,u:=λw j=> ?_,n:=λb a x c=> ?_,l:=by simp,le:=AB.Hj _,d:=by simp};right;simp[SV.A3,A9]at c;subst c;have:=Nv (key:=x) (nb:=[AK.As (o++f) e]) (j:=0);simp[IB]at this;rw[this];rfl;rw[A9.1 j];refine⟨sP,λb a=> ?_,nA⟩;rcases Co.1 a with e|e;rw[(IC e).2];rfl;rwa[(IC<|A9.1 e).2];rw[A9.1 a]at c;cases c
def AI3(I)(c:Ay)(p)(h b:Nat)(e)(g f:Nat)(a:AH)(j:16<=lN c.AG):Fn 140 [.g<|Dx c p,.v<|nV h,.v<|nV b,.v<|.slice e g f,.v<|.int .u8 a.toNat] [] I (BW (.t [.g<|Dx c p,.v fV]) I) nO:=fo func140 λk i w d=>gg [(16,hT<|(lN c.AG:Int)≥16)]<|fi
def AFK{a l}(h:Rows F9 a l):l=a.flatMap BG:=Rows.flat.1 h
def Pn{c:AA AW}:∀v∈c.flatMap BG,v.oneCell':=by intro v b;let⟨x,_,a⟩:=LJ.1 b;simp[BG]at a;rcases a with rfl|rfl|rfl|rfl|rfl<;>rfl
def UH(a:AA AW):lN (a.flatMap BG)=lN a*5:=by
 induction a with
 |nil=>rfl
 |cons x a b=>rw[Kb,CK,b,FM,Gm];simp[BG];omega
abbrev AB3(I:AB)(u:Ay):zP:=He I (λq:DL=>.t [.g<|Dx u q,.v tV]) λJ q=>C0 J u q
def Im(a:AA AW)(i:Nat):AA AW:=a++List.replicate i (BH 0)
def AXe(a i):(Im a<|i+1).flatMap BG=(Im a i).flatMap BG++BG (BH 0):=by unfold Im;rw[List.replicate_succ',<-Eb,Mu];simp
def Ld(a:AA AF):Nat->AA AF
 |0=>a
 |i+1=>Ld a i++BG (BH 0)
def UK(a):∀i,Ld (a.flatMap BG) i=(Im a i).flatMap BG
 |0=>by simp[Ld,Im]
 |i+1=>by rw[AXe,<-UK a i];rfl
structure TN where
 i:Nat
 cap:Nat
 AE:AA AF
def ATE(I:AB)(c:Ay)(p:DL)(fn n m:Nat)(AR:AH)(al:AA AF)(x:TN):Hd where
 Cd:=[(1,.v<|nV fn),(4,.v<|.int .u8 AR.toNat),(5,.p 100 0),(10,.p 108 0),(11,.v fV),(12,.s 116 0 (n+x.i) x.cap),(22,.v<|.int iK (m:Nat)),(23,.v<|nV x.i)]
 Cc:=[(100,.cells (Dx c p) 48),(108,.cells [.v zS,.v zS,.v zS] 48),(116,.As (Ld al x.i++x.AE) 51)]
 J:=I
def ADG(I)(c:Ay)(p)(t d:Nat)(e:AA AW)(A)(z:Nat)(s)(f:AH)(h:C0 I c p)(G:F3 I e (sM A) z s)(Y:lN c.AG<16)(L:lN e<=1000)(P:lN c.stack<=1000000):
 Fn 140 [.g<|Dx c p,.v<|nV t,.v<|nV d,.v<|.slice (sM A) (lN e) z,.v<|.int .u8 f.toNat] [] I (AB3 I {c with AG:=c.AG++[⟨t,0,lN c.stack,f,e++List.replicate (min d 16) (BH 0)⟩]}) nO:=by
 have l:=AFK G.CE;refine fo func140 λρ Q w H=>gg [(16,hF<|(lN c.AG:Int)≥16)]<|PE (AIU I A (lN e) z s oG G.sl) λg k B C N=>gg [(21,OU I #[3,3] d 0 d oG),(22,ADp I #[3,3] d 16 ((min d 16:Nat):Int) oG)]<|loop (ι:=TN) (λx=>x.i<=min d 16/\lN e+x.i<=x.cap/\x.cap<=maxLen/\lN x.AE=(x.cap-(lN e+x.i))*5) (λx=>min d 16-x.i)
  (ATE I c p t (lN e) (min d 16) f s) 300 [(116,164)] ⟨0,g,k⟩ ⟨Bm _,B,C,by simpa using N⟩ ?_
 rintro⟨i,g,k⟩ ⟨M,q1,q2,q3⟩ again T;simp only at M q1 q2 q3;by_cases O:i<min d 16;refine gg [(24,hT<|(i:Int)<((min d 16:Nat):Int))] ?_;refine act (need:=[(116,.As (Ld s i++k) 51),(324,.cells ((BG<|BH 0).map .v) 51)]) (Kk (I:=I) Be (vs:=Ld s i++k) (CQ:=Ld s i) (news:=BG<|BH 0) (x:=.s 324 0 1 1) LU kR sP ?_ ?_ (λv u=>Pn v<|by rw[l,UK]at u;exact u) (Ez (e:=51) sP rfl (by intro v u;simp[BG,BH]at u;rcases u with rfl|rfl|rfl|rfl|rfl<;>rfl)) q1 q2 oG) (QP rfl) ?_;rw[CK,l,UK,UH,q3];simp[Im,CK,AGY];rw[<-Gm];congr 1;omega;rw[O5];rw[l,UK,UH];simp[Im];rintro X ⟨n,q,Z,R,S,rfl⟩;refine gg [(29,sH i)] ?_;exact bk again [(116,332)] ⟨i+1,n,q⟩ ⟨by show i+1<=_;omega,by show lN e+(i+1)<=n;omega,R,by show lN q=(n-(lN e+(i+1)))*5;rw[S];congr 1⟩;have D:i=min d 16:=oG;subst D;refine go func140 [(24,hF<|(((min d 16:Nat)):Int)<((min d 16:Nat):Int))] 8 kR<|B4 116 I (vs:=Ld s (min d 16)++k) (e:=51) λb J hle _ F=> ?_;rw[l,UK]at F;have E:lN (Im e<|min d 16)=lN e+min d 16:=by simp[Im]
 refine gG<|KR (YM J p.fa (lN c.AG) p.fc p.fl t 0 (lN c.stack) f.toNat (aP b) (lN e+min d 16) g h.f.cap oG<|h.f.sl.up hle) λa m K j U V W=>gG ?_;have y:F3 K (Im e<|min d 16) (aP b) g ((Im e<|min d 16).flatMap BG):=Av.Ky (j _ _ F) (Rows.flat.2 rfl) Jd (λv u=>Pn v u) oG q2;have o:(c.AG++[(⟨t,0,lN c.stack,f,e++List.replicate (min d 16) (BH 0)⟩:Cw)]).length=lN c.AG+1:=sP;have hnew:C0 K {c with AG:=c.AG++[⟨t,0,lN c.stack,f,e++List.replicate (min d 16) (BH 0)⟩]} {p with fa:=a,fc:=m,fl:=p.fl++[.int iK t,.int iK 0,.int iK<|lN c.stack,.int .u8 f.toNat,.slice (aP b) (lN e+min d 16) g]}:=by refine⟨⟨by rwa[o],by rwa[o],V,?_⟩,(h.up<|hle.trans j).s,(h.up<|hle.trans j).t⟩;refine(h.f.CE.mono<|Nl<|hle.trans j).append<|Rows.one ⟨sM ⟨b,0,nO⟩,g,_,?_,y⟩;show _=[_,_,_,_,Value.slice (aP b) (lN<|Im e<|min d 16) g];rw[E];rfl
 refine dn [] ⟨_,K,?_,hle.trans j,hnew⟩ (h:={r:=.t [.g [.v<|.slice a (lN c.AG+1) m,.v<|.slice p.sa (lN c.stack) p.sc,.v<|.slice p.ta (lN c.AP) p.tc],.v tV],J:=K});simp[Dx]
def AdP(t:Fj):SV:=.g [.v<|nV t.AG,.v<|nV t.Cg,.v<|nV t.at_]
abbrev Lc(left:Nat):AK:=.cells [.v<|nV left] 3
abbrev TR(I:AB)(a:AA<|Nat×AK)(r:SV):zP:=λ_ h=>h= {r:=r,AV:=a,J:=I}
def OK{b a I' G r}(h:Fn G b a I' (TR I' a r) nO)(e:SL a)(d)(hnext:At F O n I w ρ A R<|f.out (BA d) {r:=r,J:=I'})(c:VV f n G d a [] b I':=by exact kR):At F O n I w ρ A R f:=
 IG (Fn.same h e) d hnext c
def AMl(I t left):Fn 347 [AdP t,.p 1 0] [(1,Lc left)] I (TR I [(1,Lc left)]<|.v<|vB<|decide<|left<t.AG) nO:=by refine fo func347 λρ b w a=> ?_;have e:Value.bool (decide<|(t.AG:Int)>(left:Int))=vB (decide<|left<t.AG):=sP;exact gg [(7,.eq _ _ e)]<|dn [] rfl
def Hm(l:AA Fj):AA AF:=l.flatMap Ea
def XZ(l):lN (Hm l)=lN l*3:=by
 induction l with
 |nil=>rfl
 |cons x l a=>unfold Hm at*;rw[Kb,CK,a,FM,Gm];simp[Ea];omega
def AOF{l i t}(h:l[i]? =sM t)(a):((Hm l++a).drop<|0+i*3).take 3=Ea t:=by have d:=(Ci.1 h).1;rw[FE,VI<|by rw[XZ];omega,Ji<|by rw[Lw,XZ];omega];exact Rows.get (λx l h=>by rw[h];rfl) ((Rows.flat).2 (rfl:l.flatMap Ea=l.flatMap Ea)) h
def Qj(left:Nat):AA Fj->AU Nat:=List.findIdx? λt=>decide<|left<t.AG
def PZ(left:Nat)(l:AA Fj):SV:=match Qj left l with|some i=>.v (nV i)|none=>.v<|.int iK (-1)
abbrev AAA(l:AA Fj)(a:AA AF)(left:Nat):AA (Nat×AK):=[(1,.As (Hm l++a) 118),(2,Lc left)]
def AWD(I:AB)(l:AA Fj)(cap:Nat)(AE:AA AF)(left i:Nat):Hd where
 Cd:=[(0,.s 1 0 (lN l) cap),(1,.fn (.func 347) [] [.p 2 0]),(4,.v<|.int iK 0),(7,.v<|nV<|lN l),(8,.v<|nV i)]
 Cc:=AAA l AE left
 J:=I
def AVp(I l c a left)(y:lN l<=1000000):Fn 385 [.s 1 0 (lN l) c,.fn (.func 347) [] [.p 2 0]] (AAA l a left) I (TR I (AAA l a left)<|PZ left l) nO:=by
 refine fo func385 λρ s w q=>gG<|loop (λi=>i<=lN l/\∀j t,j<i->l[j]? =sM t->t.AG<=left) (λi=>lN l-i) (AWD I l c a left) 300 [] 0 ⟨Bm _,λj t h=>oG⟩ ?_;rintro i ⟨v,d⟩ again T;by_cases b:i<lN l;have k:l[i]? =sM l[i]:=BS b;generalize l[i]=t at k;refine gg [(9,tH i<|lN l),
  (14,.BZ (.indexAddr 46 (.tmp 12)<|.tmp 13) [(12,.s 1 0 (lN l) c),(13,.v<|.int iK<|Int.ofNat i)] [] I (.p 1<|0+i*3)<|I5 Be (ty:=⟨3,_,_⟩) rfl rfl b),
  (15,.BZ (.load 118<|.tmp 14) [(14,.p 1<|0+i*3)] [(1,.As (Hm l++a) 118)] I (.g<|(Ea t).map .v)<|AK0 Be rfl rfl (AOF k a)<|by rw[CK,XZ];show 0+i*3+3<=_;omega)] ?_
 refine OK (AMl I t left) rfl [(1,2)] ?_;by_cases m:left<t.AG;rw[G5 m];refine gG ?_;have e:PZ left l=.v (nV i):=by
  have:Qj left l=sM i:=by rw[Qj];rw[Lv];refine⟨b,by rw[BS b]at k;cases k;simpa using m,λj g=> ?_⟩;have:=d j _ g<|BS oG;simp;omega
  rw[PZ];rw[this]
 rw[e];exact dn [] rfl;rw[Gp m];exact gg [(18,sH i)]<|bk again [] (i+1) ⟨b,λj u g p=>by by_cases e:j=i;subst e;rw[k]at p;cases p;omega;exact d j u oG p⟩
 have o:i=lN l:=oG;subst o;refine gg [(9,fH (lN l)<|lN l)] ?_;have e:PZ left l=.v (.int iK (-1)):=by
  have:Qj left l=nO:=by rw[Qj];rw[ABc];intro x r;obtain⟨j,g,rfl⟩:=P9.1 r;have:=d j _ g<|BS g;simp;omega
  rw[PZ];rw[this]
 rw[e];exact dn [] rfl
def Hi(left:Nat)(l:AA Fj):AA Fj:=l.filter λt=>decide<|t.AG<=left
structure DlX where
 i:Nat
 j:Nat
 vs:AA AF
def ASd(I:AB)(n cap left:Nat)(x:DlX):Hd where
 Cd:=[(0,.s 1 0 n cap),(1,.fn (.func 347) [] [.p 2 0]),(4,.v zS),(5,.v<|nV x.i),(6,.v<|nV x.j)]
 Cc:=[(1,.As x.vs 118),(2,Lc left)]
 J:=I
structure DlP(l:AA Fj)(left len:Nat)(x:DlX):Prop where
 lt:x.j<=lN l
 i:x.i=lN (Hi left (l.take x.j))
 len:lN x.vs=len
 pre:x.vs.take (x.i*3)=Hm (Hi left (l.take x.j))
 post:∀k t,x.j<=k->l[k]? =sM t->(x.vs.drop (0+k*3)).take 3=Ea t
def AKB{l:AA Fj}{left j}{t:Fj}(h:l[j]? =sM t):Hi left (l.take<|j+1)=Hi left (l.take j)++(if t.AG<=left then[t]else[]):=by rw[Hi];rw[My,h,VK];congr 1;by_cases e:t.AG<=left;simp[e];simp[e]
def AWQ(left)(l:AA Fj)(j)(h:j<=lN l):lN (Hi left (l.take j))<=j:=by have:=RQ (λt:Fj=>decide<|t.AG<=left)<|l.take j;rw[Hi];rw[Cu]at this;omega
def AB2(I:AB)(l:AA Fj)(left b len:Nat):zP:=λ_ h=>∃a,lN (Hm (Hi left l)++a)=len/\h= {r:=.s 1 0 (lN<|Hi left l) b,AV:=[(1,.As (Hm (Hi left l)++a) 118),(2,Lc left)],J:=I}
def ASc(I l cap a left)(hl:lN l<=1000000)(hc:lN l<=cap)(Z:lN a=(cap-lN l)*3):Fn 346 [.s 1 0 (lN l) cap,.fn (.func 347) [] [.p 2 0]] (AAA l a left) I (AB2 I l left cap<|lN<|Hm l++a) nO:=by
 have hlen:lN (Hm l++a)=cap*3:=by rw[CK,XZ,Z,<-Gm];congr 1;omega
 refine fo func346 λρ U w ag=>gG ?_;have y:=AVp I l cap a left hl;cases M:Qj left l with
 |none=>
  rw[show PZ left l=.v (.int iK (-1)) by rw[PZ];rw[M]]at y;refine OK y rfl []<|gG ?_;have e:Hi left l=l:=by rw[Hi];rw[RO];intro t s;rw[Qj]at M;rw[ABc]at M;have:=M t s;simp at this;exact G5 this
  have W:AB2 I l left cap (lN<|Hm l++a) U {r:=.s 1 0 (lN l) cap,AV:=[(1,.As (Hm l++a) 118),(2,Lc left)],J:=I}:=⟨a,by rw[e],by rw[e]⟩;exact dn [] W (h:={r:=.s 1 0 (lN l) cap,AV:=[(1,.As (Hm l++a) 118),(2,Lc left)],J:=I})
 |some i0=>
  rw[show PZ left l=.v (nV i0) by rw[PZ];rw[M]]at y;have H:=M;rw[Qj]at H;rw[Lv]at H;obtain⟨N,ae,ad⟩:=H;refine OK y rfl []<|gg [(12,hN (i0:Int) (-1)),(15,sH i0)] ?_;have ab:Hi left (l.take i0)=l.take i0:=by rw[Hi];rw[RO];intro t s;obtain⟨j,Z,rfl⟩:=P9.1 s;rw[Cu]at Z;have:=ad j oG;rw[VN];simp at this;exact G5 this
  have Q:Hi left (l.take<|i0+1)=l.take i0:=by rw[AKB<|BS N,ab];simp at ae;rw[AY oG,Hn]
  refine loop (ι:=DlX) (DlP l left (lN<|Hm l++a)) (λx=>lN l-x.j) (ASd I (lN l) cap left) 300 [] ⟨i0,i0+1,Hm l++a⟩ ⟨N,?_,rfl,?_,λk t _ s=>AOF s a⟩ ?_;show i0=lN (Hi left (l.take<|i0+1));rw[Q,Cu];omega;show(Hm l++a).take (i0*3)=Hm (Hi left (l.take<|i0+1));rw[Q,Ji<|by rw[XZ];omega];exact Rows.flat.1 (((Rows.flat (f:=Ea)).2 (rfl:l.flatMap Ea=l.flatMap Ea)).take (k:=3) (λx l h=>by rw[h];rfl) i0);rintro⟨i,j,g⟩ ⟨P,L,c,m,o⟩ again T;simp only at P L c m o;have X:i<=j:=by rw[L];exact AWQ left l j P
  by_cases z:j<lN l;have s:l[j]? =sM l[j]:=BS z;generalize l[j]=t at s;have p:=AKB (left:=left) s;refine gg [(19,tH j<|lN l),
   (24,.BZ (.indexAddr 46 (.tmp 22)<|.tmp 23) [(22,.s 1 0 (lN l) cap),(23,.v<|.int iK<|Int.ofNat j)] [] I (.p 1<|0+j*3)<|I5 Be (L:=Bt) (t:=46) (a:=22) (b:=23) rfl rfl z),
   (25,.BZ (.load 118<|.tmp 24) [(24,.p 1<|0+j*3)] [(1,.As g 118)] I (.g<|(Ea t).map .v)<|AK0 Be rfl rfl (o j t (Ag _) s)<|by rw[c,hlen];show 0+j*3+3<=_;omega)] ?_
  refine OK (AMl I t left) rfl [(1,2)] ?_;by_cases K:left<t.AG;rw[G5 K];rw[AY oG,Hn]at p;refine gg [(21,sH j)] ?_;exact bk again [] ⟨i,j+1,g⟩ ⟨z,by show i=_;rwa[p],c,by show g.take (i*3)=_;rwa[p],λk t E s=>o k t (by have:j+1<=k:=E;omega) s⟩;rw[Gp K];rw[Ac oG]at p;refine gg [(33,.BZ (.indexAddr 46 (.tmp 30)<|.tmp 31) [(30,.s 1 0 (lN l) cap),(31,.v<|.int iK<|Int.ofNat i)] [] I (.p 1<|0+i*3)<|I5 Be (off:=0) (n:=lN l) (c:=cap) (i:=i) (e:=118) (ty:=⟨3,_,_⟩) rfl rfl oG)] ?_;refine B0 (k:=1) (off:=0+i*3) (t:=118) (ad:=.tmp 33) (x:=.tmp 32) (e:=118) (vs:=g) (cs:=Ea t) (ty:=⟨3,_,_⟩) (I':=I) kR kR kR rfl rfl (by rw[c,hlen];show 0+i*3+3<=_;omega) (by intro v hv;simp[Ea]at hv;rcases hv with rfl|rfl|rfl<;>rfl) kR ?_;refine gg [(35,sH i),(21,sH j)] ?_;have G:lN (BX g (0+i*3)<|Ea t)=lN g:=AAr (by rw[c,hlen];show 0+i*3+3<=_;omega);refine bk again [] ⟨i+1,j+1,BX g (0+i*3)<|Ea t⟩ ⟨z,?_,by show(BX g (0+i*3)<|Ea t).length=_;rw[G,c],?_,λk t' E af=> ?_⟩;show i+1=_;rw[p,CK,<-L];rfl;show(BX g (0+i*3)<|Ea t).take ((i+1)*3)=_;rw[p];rw[Hm]at m⊢;rw[Mu,<-m,FE];rw[BX];have V:lN (g.take<|i*3)=i*3:=by rw[Cu,c,hlen];omega
  rw[Eb,show(i+1)*3=lN (g.take<|i*3)+3 by rw[V,Gm],AGb,Ji<|by show 3<=3;omega];rfl;show((BX g (0+i*3)<|Ea t).drop<|0+k*3).take 3=_;have ah:j+1<=k:=E;rw[<-(o k t' oG af)];rw[BX];have V:lN (g.take<|0+i*3)=i*3:=by rw[Cu,c,hlen];omega
  rw[List.drop_append,List.drop_eq_nil_of_le<|by rw[CK,V];show _<=0+k*3;simp[Ea];omega,F2,AGO];congr 2;rw[CK,V];simp[Ea];omega;have aa:j=lN l:=oG;subst aa;rw[FN]at L m;have Y:i<=cap:=oG;refine gg [(19,fH (lN l)<|lN l),
   (38,.BZ (.slice 46 (.tmp 36) (sM<|.tmp 37) nO nO) [(36,.s 1 0 (lN l) cap),(37,.v<|.int iK<|Int.ofNat i)] [] I (.s 1 (if cap=i then 0 else i*3) (lN l-i)<|cap-i)<|AKy Be (L:=Bt) (t:=46) (a:=36) (b:=37) (k:=1) (n:=lN l) (c:=cap) (i:=i) (e:=118) (ty:=⟨3,_,_⟩) rfl rfl X)] ?_
  have B:(if cap=i then 0 else i*3)+(lN l-i)*3<=lN g:=by rw[c,hlen];split<;>omega
  refine act (need:=[(1,.As g 118)]) (AJt (I:=I) Be (L:=Bt) (t:=46) (k:=1) (off:=if cap=i then 0 else i*3) (n:=lN l-i) (c:=cap-i) (x:=.tmp 38) (vs:=g) (e:=118) (e':=118) (ty:=⟨3,_,_⟩) kR kR rfl rfl (by decide+kernel) rfl dC B<|A9.2 rfl) ?_ ?_;rintro h ⟨C,_,_,rfl⟩;refine{r:=nA,u:=λkb ac=> ?_,n:=nA,l:=by simp,le:=AB.Hj _,d:=by simp};rw[A9.1 ac];exact⟨A9.2 rfl,λb K=>by rw[(IC<|A9.1 K).2];rfl,nA⟩;rintro h ⟨C,D,_,rfl⟩;refine gg [(41,.BZ (.slice 46 (.tmp 39) nO (sM<|.tmp 40) nO) [(39,.s 1 0 (lN l) cap),(40,.v<|.int iK<|Int.ofNat i)] [] I (.s 1 0 i cap)<|AK4 Be (L:=Bt) (t:=46) (a:=39) (b:=40) (k:=1) (n:=lN l) (c:=cap) (i:=i) (e:=118) (ty:=⟨3,_,_⟩) rfl rfl Y)] ?_;have q:(BX g (if cap=i then 0 else i*3) C).take (i*3)=Hm (Hi left l):=by rw[<-m];by_cases e:cap=i;have:lN l-i=0:=oG;rw[this]at D;have S:C=[]:=Ib (by rw[D];simp);subst S;rw[BX];simp;rw[AY e];rw[BX];rw[Eb,Ji<|by rw[Cu,c,hlen];omega,IA,Xw]
  have G:lN (BX g (if cap=i then 0 else i*3) C)=lN g:=AAr (by rwa[D]);have W:AB2 I l left cap (lN<|Hm l++a) U {r:=.s 1 0 i cap,AV:=[(1,.As (BX g (if cap=i then 0 else i*3) C) 118),(2,Lc left)],J:=I}:=by refine⟨(BX g (if cap=i then 0 else i*3) C).drop<|i*3,?_,?_⟩;rw[<-q,TB,G,c];rw[<-q,TB,L]
  exact dn [] W (h:={r:=.s 1 0 i cap,AV:=[(1,.As (BX g (if cap=i then 0 else i*3) C) 118),(2,Lc left)],J:=I})
def ARv(I)(ad)(n c)(xs)(hc:n<=16777216)(h:Dk I 3 (some ad) n xs):Fn 43 [.v (.slice (some ad) n c)] [] I (Va I 3 n 118 xs) none:=by refine Ju 8 Tryz.func43 Tryz.ntmps43 rfl rfl kR λρ key w a=>gg [(4,.op I _ (.v (.bool false)) (MV (a:=some ad) (n:=n) (c:=c) (.tmp 3) (.const (.slice none 0 0)) Sv))]<|act (need:=[(124,.As [] 118)]) (Kk Be (n:=0) (vs:=[]) (CQ:=[]) ACJ kR sP rfl rfl sP (h.reads (c:=c)) (Nat.le_refl _) (by rw[maxLen];omega) oG) (QO (.inr ⟨_,_,_,rfl,rfl⟩)) ?_;rintro h' ⟨cap,AE,h1,b,d,rfl⟩;refine gG ?_;exact dn [140] ⟨cap,AE,oG,b,by rw[d];simp,sP⟩ (h:={r:=.s (key+0) 0 (0+n) cap,nb:=[.As (xs++AE) 118],J:=I})
def ARu(I c):Fn 43 [.v<|.slice nO 0 c] [] I (BW (.v zS) I) nO:=Ju 8 func43 ntmps43 rfl rfl kR λρ b w a=>gg [(4,.op I _ (.v tV)<|MV (a:=nO) (n:=0) (c:=c) (.tmp 3) (.const zS) Sv)]<|fi
def AWE(I:AB)(left:Nat)(_:Unit):Hd where
 Cd:=[(4,.v<|.int iK 0),(7,.v<|.int iK 0),(8,.v<|.int iK 0)]
 Cc:=[(2,Lc left)]
 J:=I
def AVo(I)(left:Nat):Fn 385 [.v zS,.fn (.func 347) [] [.p 2 0]] [(2,Lc left)] I (TR I [(2,Lc left)]<|.v<|.int iK (-1)) nO:=by refine fo func385 λρ b w a=>gG<|loop (λ_=>True) (λ_=>0) (AWE I left) 300 [] () trivial ?_;rintro _ _ _ T;exact gG<|dn [] rfl
def ASb(I left):Fn 346 [.v zS,.fn (.func 347) [] [.p 2 0]] [(2,Lc left)] I (TR I [(2,Lc left)]<|.v zS) nO:=fo func346 λρ b w a=>gG<|OK (AVo I left) rfl []<|gG<|dn [] rfl
abbrev APo(I:AB)(c:Ay)(v:AW):zP:=He I (λq:DL=>.t [.g<|Dx (Ei c) q,Do v,.v tV]) λJ q=>C0 J (Ei c) q
def Aar(I c p f)(V:c.top=some f)(B:HQ c 1)(S:Kf c)(h:C0 I c p):Fn 286 [.g<|Dx c p] [] I (APo I c<|(Ct c 1).getD 0 AZ) none:=by
 have l1:=S.f;have l2:=S.s;have l3:=S.t;have C:=AAU I c p 1 f V B oG oG h;let⟨b,a,arr,e,fr,va,vc,Q,y,hI,ah,af,o⟩:=Tx h V;let⟨fa,fc,fl,M,sc,sl,ta,N,tl⟩:=p;simp only at y;subst y;have hb:MN c=f.Cp:=by rw[MN];rw[V]
 have i:=B;simp[HQ,Bool.and_eq_true,decide_eq_true_eq]at i;rw[hb]at i;let⟨k1,k2⟩:=i;have ag:(Ct c 1).length=1:=N1 oG;obtain⟨v,P⟩:∃v,(Ct c 1)[0]? =some v:=⟨_,List.getElem?_eq_getElem oG⟩;have aa:(Ct c 1).getD 0 AZ=v:=by rw[List.getD_eq_getElem?_getD,P];rfl
 rw[aa];refine fo Tryz.func286 λρ ai w ac=>gG<|Cz C λq J hle hq=> ?_;let⟨X,D⟩:=hq;let⟨qp,qa,qc,ql⟩:=q;simp only at X D;obtain⟨b2,g,ab,e2,ad,rfl,t,Z⟩:=Xc D oG;have H:=Z 0 v P;refine gg [(21,hN (c.AG.length:Int) 0),(28,hW ((c.AG.length:Int)-1) ((c.AG.length-1:Nat):Int)),(34,Br J PO b a c.AG.length fc<|c.AG.length-1),(36,ED J Ek rfl (a+(c.AG.length-1)*5+2) (.int .i64 f.Cp) (hle _ _ hI)<|o 2 _ rfl)]<|call (Vz J M c.stack.length sc f.Cp h.s.cap)<|gG<|call (Yr J (some ⟨b,a,none⟩) c.AG.length fc (c.AG.length-1) h.f.cap)<|gG ?_;have j:Hi (c.AG.length-1) c.AP=(Ei c).AP:=rfl;have z:=(h.up hle).f.take (JN J)<|c.AG.length-1;have E:=(h.up hle).s.take Jd f.Cp;have k:(Ei c).AG=c.AG.take (c.AG.length-1):=rfl;have hrs:(Ei c).stack=c.stack.take f.Cp:=by simp[Ei,hb]
 cases ta with
 |none=>
  have h0:c.AP.length=0:=h.t.sl.Wr;have l:c.AP=[]:=List.eq_nil_of_length_eq_zero h0;have e0:(SV.v<|Value.slice none c.AP.length N)=.v (.slice none 0 N):=by rw[h0]
  have U:Fn 43 [.v<|.slice none c.AP.length N] [] J (BW (.v<|.slice none 0 0) J) none:=by rw[e0];exact ARu J N
  refine call U<|gG<|OK (ASb J<|c.AG.length-1) rfl [(2,308)]<|gg [(52,Br J Gx b2 g 1 qc 0),(53,D8 J Oo (g+0*5) (BG v) rfl t H)] ?_;have hnew:C0 J (Ei c) ⟨some ⟨b,a,none⟩,min (c.AG.length-1) c.AG.length,fl.take<|min (c.AG.length-1) c.AG.length*5,M,min f.Cp c.stack.length,sl.take<|min f.Cp c.stack.length*5,none,0,[]⟩:=by refine⟨by rwa[k],by rwa[hrs],?_⟩;rw[<-j,l];exact Av.empty
  refine dn [] ⟨_,J,?_,hle,hnew⟩ (h:={r:=.t [.g [.v<|.slice (some ⟨b,a,none⟩) (min (c.AG.length-1) c.AG.length)<|min (c.AG.length-1) c.AG.length,.v<|.slice M (min f.Cp c.stack.length)<|min f.Cp c.stack.length,.v<|.slice none 0 0],Do v,.v<|.bool true],J:=J});simp[Dx,k,hrs,<-j,l,Hi]
 |some ta=>
  have G:tl=Hm c.AP:=Rows.flat.1 h.t.CE;refine PE (ARv J ta c.AP.length N tl oG (h.up hle).t.sl) λm L u T hj=> ?_;rw[G];refine gG<|A0 (ASc J c.AP m L (c.AG.length-1) oG u hj) [(1,476),(2,308)] ?_;rintro _ ⟨s,ae,rfl⟩;refine gg [(52,Br J Gx b2 g 1 qc 0),(53,D8 J Oo (g+0*5) (BG v) rfl t H)]<|B4 476 J (vs:=Hm (Hi (c.AG.length-1) c.AP)++s) (e:=118) λb3 K d _ hK=> ?_;have W:(Hi (c.AG.length-1) c.AP).length<=c.AP.length:=List.length_filter_le _ _;have hnew:C0 K (Ei c) ⟨some ⟨b,a,none⟩,min (c.AG.length-1) c.AG.length,fl.take<|min (c.AG.length-1) c.AG.length*5,M,min f.Cp c.stack.length,sl.take<|min f.Cp c.stack.length*5,some ⟨b3,0,none⟩,m,Hm<|Hi (c.AG.length-1) c.AP⟩:=by refine⟨by rw[k];exact z.up d<|Nl d,by rw[hrs];exact E.up d λ_ _ h=>h,?_⟩;rw[<-j];refine Av.Ky hK (Rows.flat.2 rfl) Uy (λv P=> ?_) (Nat.le_trans W u) T;let⟨x,_,hx⟩:=List.mem_flatMap.1 P;simp[Ea]at hx;rcases hx with rfl|rfl|rfl<;>rfl
  refine dn [] ⟨_,K,?_,hle.trans d,hnew⟩ (h:={r:=.t [.g [.v<|.slice (some ⟨b,a,none⟩) (min (c.AG.length-1) c.AG.length)<|min (c.AG.length-1) c.AG.length,.v<|.slice M (min f.Cp c.stack.length)<|min f.Cp c.stack.length,.v<|.slice (some ⟨b3,0,none⟩) (Hi (c.AG.length-1) c.AP).length m],Do v,.v<|.bool true],J:=K});simp[Dx,k,hrs,<-j]
structure GY(I:AB)(c:Ay)(cap:Nat)(fl AE:AA AF):Prop where
 CE:Rows (Gd I) c.AG fl
 hc:lN c.AG<=cap
 hm:cap<=maxLen
 hj:lN AE=(cap-lN c.AG)*5
def GY.up{I J c a fl AE}(h:GY I c a fl AE)(hle:I.le J):GY J c a fl AE:=⟨h.CE.mono<|Nl hle,h.hc,h.hm,h.hj⟩
def GY.len{I c b fl a}(h:GY I c b fl a):lN fl=lN c.AG*5:=h.CE.len<|JN I
theorem GY.top{I c k fl b}(h:GY I c k fl b){f}(n:c.top=sM f):0<lN c.AG/\∃g i a,F3 I f.Ai g i a/\∀j v,(Qb f g i)[j]? =sM v->(fl++b)[0+(lN c.AG-1)*5+j]? =sM v:=by have l:=SD (l:=c.AG) (x:=f) n;have o:=(Ci.1 l).1;let⟨g,i,a,e,q⟩:=h.CE.get (JN I) l;refine⟨oG,g,i,a,q,λj v d=> ?_⟩;have m:((fl.drop<|(lN c.AG-1)*5).take 5)=Qb f g i:=e;rw[<-m,GO]at d;split at d;rw[Jg]at d;rwa[FE,Gj (Ci.1 d).1];cases d
def GY.HW{I J c a fl AE}(h:GY I c a fl AE){f}(e:c.top=sM f)(hle:I.le J){j cs g}(i:∀b,Gd J f b->Gd J (g f) (BX b j cs))(k:j+lN cs<=5):
 GY J (D4 c g) a (BX fl ((lN c.AG-1)*5+j) cs) AE/\BX (fl++AE) (0+(lN c.AG-1)*5+j) cs=BX fl ((lN c.AG-1)*5+j) cs++AE:=by
 have d:=SD (l:=c.AG) (x:=f) e;have l:=(Ci.1 d).1;have m:=h.len;refine⟨⟨?_,?_,h.hm,?_⟩,?_⟩;show Rows (Gd J) (c.AG.modify (lN c.AG-1) g) _;rw[modify_eq d];exact(h.CE.mono<|Nl hle).AV (JN J) (λ_ _ h=>h) d i k;simpa[D4]using h.hc;simpa[D4]using h.hj;rw[FE,Ut oG]
theorem GY.B4{J c d b fl a}(h:GY J c d fl a)(e:J b=sM (.cells (fl++a).toArray 65 (0,0))):Av J (Gd J) 5 c.AG (aP b) d fl:=
 Av.Ky e h.CE (JN J) (AAJ h.CE) h.hc h.hm
abbrev CS.NM(m:CS)(k a:Nat):AK:=.cells (m.row<|.s k 0 (lN m.c.AG) a) 282
def X9(I:AB)(m:CS)(c:Ay)(n:Nat)(f:AA AW):zP:=λd h=>∃(J:AB)(q:DL)(ta:AU Au)(tc:Nat)(e:AA AF)(b:Nat)(fl a:AA AF),I.le J/\Av J F9 5 c.stack q.sa q.sc q.sl/\Av J Oy 3 c.AP q.ta q.tc q.tl/\GY J c b fl a/\F3 J f ta tc e/\
 h= {r:=.t [],AV:=[(1,({m with c:=c,p:=q,ta:=ta,tn:=n,tc:=tc}:CS).NM d b)],nb:=[.As (fl++a) 65],J:=J}
def AQr(I)(ae:EB I)(d g m f o)(hi:FJ I d g)(H:m.ia=g.ka)(L:m.iN=lN d.DN)(K:m.ic=g.kc)(M:m.ja=g.ua)(O:m.jn=lN d.Ax)(N:m.jc=g.uc)(ho:m.oc=o.code)(R:m.oa=o.a)
 (G:m.was.top=sM f) (af:f.pc<=100000) (ab:Fn 200 [.g<|Fa d g,Po o] [] I (BW (.v<|.int iK<|CU d o) I) nO) (t:HQ m.was<|CU d o) (V:Kf m.was) (h:C0 I m.was m.wp):
 Fn 152 [.p 1 0] [(1,m.B3)] I (X9 I m (Fl d m.was o) (CU d o)<|Ct m.was<|CU d o) nO:=by
 have l1:=V.f;have l2:=V.s;let⟨ia,iN,ic,ja,jn,jc,was,wp,c0,p0,oc,oa,ta,tn,tc,fr,tr,ok,ov,xc,xa,wrong,code⟩:=m;simp only at H L K M O N ho R G t V h l1 l2;subst H L K M O N ho R;refine fo func152 λρ l w P=>gG<|call ab<|gG<|Cz (AAU I was wp (CU d o) f G t oG oG h) λq J hle hq=> ?_;let⟨j,T⟩:=hq;have Q:0<lN was.AG:=VO (by have:f∈was.AG:=ABj G;exact this)
 let⟨⟨ah,s,a,z,A,B,C,D,E⟩,qa,qc,ql⟩:=q;simp only at j T;let⟨b,n,arr,e,ad,h1,h2,h3⟩:=j.f.sl.open_ Q;simp only at h1;subst h1;refine gG<|PE (Yl J ⟨b,n,nO⟩ (lN was.AG) s a oG j.f.sl) λi AE W X hj=> ?_;have u:GY J (FR was<|CU d o) i a AE:=⟨j.f.CE,W,X,hj⟩;refine gG<|OK (AA2 J ({ia:=g.ka,iN:=lN d.DN,ic:=g.kc,ja:=g.ua,jn:=lN d.Ax,jc:=g.uc,was:=was,wp:=wp,c:=FR was<|CU d o,p:=⟨sM ⟨b,n,nO⟩,s,a,z,A,B,C,D,E⟩,oc:=o.code,oa:=o.a,ta:=qa,tn:=CU d o,tc:=qc,fr:=fr,tr:=tr,ok:=ok,ov:=ov,xc:=xc,xa:=xa,wrong:=wrong,code:=code}:CS) i (a++AE) Q<|by show lN was.AG<=_;omega) rfl [(1,1),(2,356)] ?_;let⟨_,va,vc,U,ag,x⟩:=u.top (f:=f) G;have k:=x 1 _ rfl;refine gg [(40,.BZ (.load 3<|.tmp 39) [(39,.p 356<|0+(lN was.AG-1)*5+1)] [(356,.As (a++AE) 65)] J (.v<|nV f.pc)<|Nu Be (L:=Bt) (t:=3) (a:=39) (k:=356) (off:=0+(lN was.AG-1)*5+1) (ty:=⟨1,_,_⟩) (vs:=a++AE) (e:=65) rfl rfl k),(41,sH f.pc)] ?_;have ac:lN a=lN was.AG*5:=u.len;refine B0 (k:=356) (off:=0+(lN was.AG-1)*5+1) (t:=3) (ad:=.tmp 43) (x:=.tmp 41) (e:=65) (vs:=a++AE) (cs:=[.int iK ((f.pc+1:Nat):Int)]) (ty:=⟨1,_,_⟩) (I':=J) kR kR kR rfl rfl (by simp[CK,O3];omega) (by intro v hv;rw[A9.1 hv];rfl) kR ?_;refine gG ?_;let⟨Z,aa⟩:=u.HW (f:=f) G (AB.le_refl J) (j:=1) (cs:=[.int iK ((f.pc+1:Nat):Int)]) (g:=λf=>{f with pc:=f.pc+1}) ZA sP;have hs:BX a ((lN was.AG-1)*5+1) [.int iK ((f.pc+1:Nat):Int)]++AE=BX (a++AE) (0+(lN was.AG-1)*5+1) [.int iK ((f.pc+1:Nat):Int)]:=aa.symm
 have hlen:lN (Fl d was o).AG=lN was.AG:=by simp[Fl,D4,FR]
 generalize y:({ia:=g.ka,iN:=lN d.DN,ic:=g.kc,ja:=g.ua,jn:=lN d.Ax,jc:=g.uc,was:=was,wp:=wp,c:=Fl d was o,p:=⟨sM ⟨b,n,nO⟩,s,a,z,A,B,C,D,E⟩,oc:=o.code,oa:=o.a,ta:=qa,tn:=CU d o,tc:=qc,fr:=fr,tr:=tr,ok:=ok,ov:=ov,xc:=xc,xa:=xa,wrong:=wrong,code:=code}:CS)=m';have S:m'.NM l i=.cells (m'.row<|.s l 0 (lN was.AG) i) 282:=by rw[CS.NM];rw[<-y];simp[hlen]
 have F:X9 I (⟨g.ka,lN d.DN,g.kc,g.ua,lN d.Ax,g.uc,was,wp,c0,p0,o.code,o.a,ta,tn,tc,fr,tr,ok,ov,xc,xa,wrong,code⟩:CS) (Fl d was o) (CU d o) (Ct was<|CU d o) l {r:=.t [],AV:=[(1,.cells (m'.row<|.s l 0 (lN was.AG) i) 282)],nb:=[.As (BX (a++AE) (0+(lN was.AG-1)*5+1) [.int iK ((f.pc+1:Nat):Int)]) 65],J:=J}:=
  ⟨J,⟨sM ⟨b,n,nO⟩,s,a,z,A,B,C,D,E⟩,qa,qc,ql,i,_,AE,hle,j.s,j.t,Z,T,by rw[<-hs,<-S,<-y];rfl⟩
 subst y;exact done func152 P [356] kR F
def Re(I:AB)(m:CS)(b:Nat)(d:Ay):zP:=λ_ h=>∃(J:AB)(fl a:AA AF),I.le J/\GY J d b fl a/\h= {r:=.t [],AV:=[(1,({m with c:=d}:CS).NM 2 b),(2,.As (fl++a) 65)],J:=J}
def AEz(c g):lN (D4 c g).AG=lN c.AG:=by simp[D4]
def AJ7(I m b fl a f)(e:m.c.top=sM f)(hF:GY I m.c b fl a)(c:lN m.c.AG<=1000000):Fn 210 [.p 1 0] (Pk m b<|fl++a) I (Re I m b<|D4 m.c λf=>{f with pc:=m.oa}) nO:=by have l:=hF.len;let⟨d,_⟩:=hF.top e;let⟨g,i⟩:=hF.HW e (AB.le_refl I) (j:=1) (cs:=[.int iK m.oa]) (g:=λf=>{f with pc:=m.oa}) ZA sP;have h:=AWL I m b (fl++a) d c (by rw[CK];omega);rw[i]at h;refine h.to λk x j=> ?_;subst j;refine⟨I,_,a,AB.le_refl _,g,?_⟩;rw[CS.NM];simp[AEz];rfl
def Abh{I}(x y)(a:Nat)(g:a<=1000000):∀w,EJ w I->∃b,((do eqGuard .and 3 x y (nV a)<|.int iK 255;binOp .and 3 (nV a) (.int iK 255):Sem AF)).run prog w=.ok (AO id<|.v<|.int iK ((a%256:Nat):Int)) b/\Bl w b:=λw _=>
 ⟨w,by
   have e:(BitVec.ofInt 64 (a:Int)&&&BitVec.ofInt 64 255).toNat=a%256:=by
    rw[BitVec.toNat_and];have c:(BitVec.ofInt 64 (a:Int)).toNat=a:=by rw[BitVec.toNat_ofInt];simp;omega
    have d:(BitVec.ofInt 64 255).toNat=255:=dC;rw[c,d];exact AO9 a 8
   have f:IntKind.i64.wrap ((BitVec.ofInt 64 (a:Int)&&&BitVec.ofInt 64 255).toNat:Int)=((a%256:Nat):Int):=by rw[e];exact AF9 oG
   simp only[eqGuard_and,binOp_and,Op.intBits,Sem.run_bind,Sem.run_pure,Result.andThen_ok,AO];exact Dt (λz=>Result.ok (Value.int iK z) w) f,Bl.refl w⟩
def Abi{I}(x y)(a b:AH):∀w,EJ w I->∃c,((do eqGuard .and 5 x y (.int .u8 a.toNat)<|.int .u8 b.toNat;binOp .and 5 (.int .u8 a.toNat) (.int .u8 b.toNat):Sem AF)).run prog w=.ok (AO id<|.v<|.int .u8<|(a&&&b).toNat) c/\Bl w c:=λw _=>
 ⟨w,by
   have h:=ACU a b;simp only[eqGuard_and,binOp_and,Op.intBits,Sem.run_bind,Sem.run_pure,Result.andThen_ok,AO];exact Dt (λz=>Result.ok (Value.int .u8 z) w) h,Bl.refl w⟩
def AXQ(I)(m:CS)(b fl a)(f:Cw)(o:m.c.top=sM f)(hF:GY I m.c b fl a)(j:lN m.c.AG<=1000000)(l:m.oa<=1000000):Fn 221 [.p 1 0] (Pk m b<|fl++a) I (Re I m b<|D4 m.c λf=>{f with AR:=f.AR&&&UInt8.ofNat (m.oa%256)}) nO:=by
 have x:=hF.len;let⟨k,y,z,h,u,d⟩:=hF.top o;let⟨q,i⟩:=hF.HW o (AB.le_refl I) (j:=3) (cs:=[.int .u8 (f.AR&&&UInt8.ofNat (m.oa%256)).toNat]) (g:=λf=>{f with AR:=f.AR&&&UInt8.ofNat (m.oa%256)}) AUg sP;have e:(UInt8.ofNat<|m.oa%256).toNat=m.oa%256:=by rw[UInt8.toNat_ofNat'];omega
 refine fo func221 λA n w g=> ?_;have p:Value.int .u8 (IntKind.u8.wrap ((m.oa%256:Nat):Int))=.int .u8 (UInt8.ofNat<|m.oa%256).toNat:=by rw[e];congr 1;simp[IntKind.wrap];have:IntKind.u8.bits=8:=rfl;have i:IntKind.u8.signed=fF:=rfl;simp[this,i]
 refine gg [(12,.op I _ _<|Abh (.tmp 11) (.const<|.int iK 255) m.oa l),(13,.eq _ _ p)]<|OK (AA2 I m b (fl++a) k j) rfl []<|gg [(6,.BZ (.load 5<|.tmp 5) [(5,.p 2<|0+(lN m.c.AG-1)*5+3)] [(2,.As (fl++a) 65)] I (.v<|.int .u8 f.AR.toNat)<|Nu Be (L:=Bt) (t:=5) (a:=5) (k:=2) (off:=0+(lN m.c.AG-1)*5+3) (ty:=⟨1,_,_⟩) (vs:=fl++a) (e:=65) rfl rfl<|d 3 _ rfl),
  (14,.op I _ _<|Abi (.tmp 6) (.tmp 13) f.AR<|UInt8.ofNat<|m.oa%256)] ?_
 refine B0 (k:=2) (off:=0+(lN m.c.AG-1)*5+3) (t:=5) (ad:=.tmp 16) (x:=.tmp 14) (e:=65) (vs:=fl++a) (cs:=[.int .u8 (f.AR&&&UInt8.ofNat (m.oa%256)).toNat]) (ty:=⟨1,_,_⟩) (I':=I) kR kR kR rfl rfl (by simp[CK,O3];omega) (by intro v t;rw[A9.1 t];rfl) kR ?_;refine gG ?_;have s:Re I m b (D4 m.c λf=>{f with AR:=f.AR&&&UInt8.ofNat (m.oa%256)}) n {r:=.t [],AV:=[(1,m.NM 2 b),(2,.As (BX (fl++a) (0+(lN m.c.AG-1)*5+3) [.int .u8 (f.AR&&&UInt8.ofNat (m.oa%256)).toNat]) 65)],J:=I}:=by refine⟨I,_,a,AB.le_refl _,q,?_⟩;rw[i];rw[CS.NM];simp[AEz];rfl
 exact done func221 g [] kR s
abbrev ALX(m:CS)(a:Nat)(b:AA AF):AA (Nat×AK):=[(1,m.NM 3 a),JS,(3,.As b 65)]
def AG5(I:AB)(m:CS)(b:Nat)(d:Ay):zP:=λ_ h=>∃(J:AB)(fl a:AA AF),I.le J/\GY J d b fl a/\h= {r:=.t [],AV:=[(1,({m with c:=d}:CS).NM 3 b),JS,(3,.As (fl++a) 65)],J:=J}
abbrev AD9(c:Ay)(a:Nat):Ay:=D4 c λf=>{f with pc:=a}
def AWJ(I m b fl a f x)(j:x.n≠0)(i:m.c.top=sM f)(hF:GY I m.c b fl a)(g:lN m.c.AG<=1000000):Fn 285 [Do x,.p 2 0] (ALX m b<|fl++a) I (AG5 I m b<|AD9 m.c m.oa) nO:=by refine fo func285 λρ k w h=>gg [(5,Fs x.n 0 j)]<|A0 (AJ7 I m b fl a f i hF g) [(2,3)] ?_;rintro _ ⟨J,d,c,hle,e,rfl⟩;exact gG<|dn [] ⟨J,d,c,hle,e,rfl⟩
def AZG(I m)(d:Nat)(fl a f j g x)(z:F3 I j m.ta m.tc g)(y:m.tn=lN j)(k:j[0]? =sM x)(G:x.kind=1)(C:x.n≠0)(v:m.c.top=sM f)(hF:GY I m.c d fl a)(p:lN m.c.AG<=1000000):
 Fn 283 [.p 1 0,.v<|.int iK 1,.fn (.func 285) [] [.p 2 0]] (ALX m d<|fl++a) I (AG5 I m d<|AD9 m.c m.oa) nO:=by
 have h:0<lN j:=(Ci.1 k).1;obtain⟨m,b,c,arr,e,E,rfl,r,B⟩:=Sq m z y h;let⟨i51,s,u⟩:=Qm;have q:=B 0 x k;refine fo func283 λρ D w t=>gg [(10,Br I Gx b c (lN j) m.tc 0 h),(12,ED I Ek rfl (c+0*5+0) (nV x.kind) r<|q 0 _ rfl),(14,EN (x.kind:Int) 1),
  (22,Br I Gx b c (lN j) m.tc 0 h),(23,D8 I Oo (c+0*5) (BG x) rfl r q)] ?_
 refine A0 (AWJ I (m.tk b c<|lN j) d fl a f x C v hF p) [(2,2),(3,3)] ?_;rintro _ ⟨J,l,i,hle,o,rfl⟩;exact gG<|dn [] ⟨J,l,i,hle,o,rfl⟩
def AWK(I m c fl b f e a x)(q:F3 I e m.ta m.tc a)(p:m.tn=lN e)(j:e[0]? =sM x)(o:x.kind=1)(r:x.n≠0)(l:m.c.top=sM f)(hF:GY I m.c c fl b)(i:lN m.c.AG<=1000000):
 Fn 211 [.p 1 0] (Pk m c<|fl++b) I (Re I m c<|AD9 m.c m.oa) nO:=by
 refine fo func211 λρ s w k=>gG<|A0 (AZG I m c fl b f e a x q p j o r l hF i) [(2,100),(3,2)] ?_;rintro _ ⟨J,g,d,hle,h,rfl⟩;exact gG<|dn [] ⟨J,g,d,hle,h,rfl⟩
def ARs(I c):Fn 42 [.v<|.slice nO 0 c] [] I (BW (.v zS) I) nO:=fo func42 λd b w a=>gg [(4,.op I _ (.v tV)<|MV (a:=nO) (n:=0) (c:=c) (.tmp 3) (.const zS) NW)]<|fi
def lv:Nat->AA AF
 |0=>[]
 |i+1=>lv i++BG (BH 0)
def Wk:∀i,lv i=(List.replicate i<|BH 0).flatMap BG
 |0=>rfl
 |i+1=>by rw[lv,Wk i,List.replicate_succ',Mu];simp
def AK6(i):lN (lv i)=i*5:=by rw[Wk,UH];simp
def Ady{I}:F3 I [] nO 0 []:=⟨Dk.nil,Ag _,by rw[maxLen];omega,rfl⟩
def ATF(I:AB)(c:Ay)(p:DL)(fn m:Nat)(AR:AH)(x:TN):Hd where
 Cd:=[(1,.v<|nV fn),(4,.v<|.int .u8 AR.toNat),(5,.p 100 0),(10,.p 108 0),(11,.v fV),(12,match x.i with|0=>.v zS|i+1=>.s 116 0 (i+1) x.cap),(22,.v<|.int iK (m:Nat)),(23,.v<|nV x.i)]
 Cc:=(100,.cells (Dx c p) 48)::(108,.cells [.v zS,.v zS,.v zS] 48)::match x.i with|0=>[]|i+1=>[(116,.As (lv (i+1)++x.AE) 51)]
 J:=I
def ATM(I)(c:Ay)(p)(t f:Nat)(E:Nat)(e:AH)(h:C0 I c p)(R:lN c.AG<16)(P:lN c.stack<=1000000):
 Fn 140 [.g<|Dx c p,.v<|nV t,.v<|nV f,.v<|.slice nO 0 E,.v<|.int .u8 e.toNat] [] I (AB3 I {c with AG:=c.AG++[⟨t,0,lN c.stack,e,List.replicate (min f 16)<|BH 0⟩]}) nO:=by
 obtain⟨n,O⟩:∃n,n=min f 16:=⟨_,rfl⟩;rw[<-O];refine fo func140 λS Q w F=>gg [(16,hF<|(lN c.AG:Int)≥16)]<|call (ARs I E)<|gg [(21,OU I #[3,3] f 0 f oG),(22,ADp I #[3,3] f 16 (n:Int) oG)]<|loop (ι:=TN) (λx=>x.i<=n/\(0<x.i->x.i<=x.cap/\x.cap<=maxLen/\lN x.AE=(x.cap-x.i)*5)) (λx=>n-x.i)
  (ATF I c p t n e) 300 [] ⟨0,0,[]⟩ ⟨Bm _,λh=>absurd h sP⟩ ?_
 rintro⟨i,l,s⟩ ⟨M,q⟩ again T;simp only at M q;by_cases N:i<n;cases i with
 |zero=>
  refine gg [(24,hT<|((0:Nat):Int)<(n:Int))] ?_;refine act (need:=[(324,.cells ((BG<|BH 0).map .v) 51)]) (MM (I:=I) Be (a:=nO) (l:=.v zS) (x:=.s 324 0 1 1) (CQ:=[]) (news:=BG<|BH 0) LU kR rfl Ol (Ez (e:=51) (A9.2 rfl) rfl (by intro v o;simp[BG,BH]at o;rcases o with rfl|rfl|rfl|rfl|rfl<;>rfl)) (Ag _) oG (λ_=>rfl) oG) M4 ?_;rintro H ⟨k,j,G,z,A,rfl⟩;refine gg [(29,hW (((0:Nat):Int)+1) ((1:Nat):Int))] ?_;exact bk again [(116,332)] ⟨1,k,j⟩ ⟨by show 1<=_;omega,λ_=>⟨by show 1<=k;omega,z,by show lN j=(k-1)*5;rw[A]⟩⟩
 |succ i=>
  let⟨q1,q2,q3⟩:=q oG;refine gg [(24,hT<|((i+1:Nat):Int)<(n:Int))] ?_;refine act (need:=[(116,.As (lv (i+1)++s) 51),(324,.cells ((BG<|BH 0).map .v) 51)]) (Kk (I:=I) Be (n:=i+1) (m:=1) (cap:=l) (k:=116) (vs:=lv (i+1)++s) (CQ:=lv<|i+1) (news:=BG<|BH 0) (x:=.s 324 0 1 1) LU kR sP ?_ ?_ (λv o=>Pn v<|by rw[Wk]at o;exact o) (Ez (e:=51) sP rfl (by intro v o;simp[BG,BH]at o;rcases o with rfl|rfl|rfl|rfl|rfl<;>rfl)) q1 q2 oG) (QP rfl) ?_;rw[CK,AK6,q3,<-Gm];congr 1;omega;rw[O5];rw[AK6];rintro H ⟨k,j,G,z,A,rfl⟩;refine gg [(29,hW (((i+1:Nat):Int)+1) ((i+1+1:Nat):Int))] ?_;exact bk again [(116,332)] ⟨i+1+1,k,j⟩ ⟨by show i+1+1<=_;omega,λ_=>⟨G,z,A⟩⟩
 have y:i=n:=oG;subst y;have g:(c.AG++[(⟨t,0,lN c.stack,e,List.replicate i<|BH 0⟩:Cw)]).length=lN c.AG+1:=sP;cases i with
 |zero=>
  refine gg [(24,hF<|(((0:Nat)):Int)<((0:Nat):Int))]<|KR (YM I p.fa (lN c.AG) p.fc p.fl t 0 (lN c.stack) e.toNat nO 0 0 h.f.cap oG h.f.sl) λa m K d B C D=>gG ?_;have hnew:C0 K {c with AG:=c.AG++[⟨t,0,lN c.stack,e,List.replicate 0<|BH 0⟩]} {p with fa:=a,fc:=m,fl:=p.fl++[.int iK t,.int iK 0,.int iK<|lN c.stack,.int .u8 e.toNat,.slice nO 0 0]}:=by refine⟨⟨by rwa[g],by rwa[g],C,?_⟩,(h.up d).s,(h.up d).t⟩;exact(h.f.CE.mono<|Nl d).append<|Rows.one ⟨nO,0,[],rfl,Ady⟩
  refine dn [] ⟨_,K,?_,d,hnew⟩ (h:={r:=.t [.g [.v<|.slice a (lN c.AG+1) m,.v<|.slice p.sa (lN c.stack) p.sc,.v<|.slice p.ta (lN c.AP) p.tc],.v tV],J:=K});simp[Dx]
 |succ i=>
  let⟨q1,q2,q3⟩:=q oG;refine go func140 [(24,hF<|(((i+1:Nat)):Int)<((i+1:Nat):Int))] 8 kR<|B4 116 I (vs:=lv (i+1)++s) (e:=51) λb J hle _ L=>gG<|KR (YM J p.fa (lN c.AG) p.fc p.fl t 0 (lN c.stack) e.toNat (aP b) (i+1) l h.f.cap oG<|h.f.sl.up hle) λa m K d B C D=>gG ?_;have u:F3 K (List.replicate (i+1)<|BH 0) (aP b) l (lv<|i+1):=Av.Ky (d _ _ L) (Rows.flat.2<|Wk<|i+1) Jd (λv o=>Pn v<|by rw[Wk]at o;exact o) (by simpa using q1) q2;have hnew:C0 K {c with AG:=c.AG++[⟨t,0,lN c.stack,e,List.replicate (i+1)<|BH 0⟩]} {p with fa:=a,fc:=m,fl:=p.fl++[.int iK t,.int iK 0,.int iK<|lN c.stack,.int .u8 e.toNat,.slice (aP b) (i+1) l]}:=by refine⟨⟨by rwa[g],by rwa[g],C,?_⟩,(h.up<|hle.trans d).s,(h.up<|hle.trans d).t⟩;refine(h.f.CE.mono<|Nl<|hle.trans d).append<|Rows.one ⟨sM ⟨b,0,nO⟩,l,_,?_,u⟩;simp
  refine dn [] ⟨_,K,?_,hle.trans d,hnew⟩ (h:={r:=.t [.g [.v<|.slice a (lN c.AG+1) m,.v<|.slice p.sa (lN c.stack) p.sc,.v<|.slice p.ta (lN c.AP) p.tc],.v tV],J:=K});simp[Dx]
def ATL(I)(c:Ay)(p)(k g:Nat)(d:AA AW)(a)(j:Nat)(m)(f:AH)(h:C0 I c p)(n:F3 I d a j m)(o:lN c.AG<16)(l:lN d<=1000)(i:lN c.stack<=1000000):
 Fn 140 [.g<|Dx c p,.v<|nV k,.v<|nV g,.v<|.slice a (lN d) j,.v<|.int .u8 f.toNat] [] I (AB3 I {c with AG:=c.AG++[⟨k,0,lN c.stack,f,d++List.replicate (min g 16) (BH 0)⟩]}) nO:=by
 cases a with
 |some q=>exact ADG I c p k g d q j m f h n o l i
 |none=>
  have r:lN d=0:=by rcases n.sl.at_ with h|⟨b,t,arr,e,u,h,_⟩;exact h;cases h
  have s:d=[]:=Ib r;subst s;rw[F2];exact ATM I c p k g j f h o i
def Om{g}(k){b b'}(e:AFD f k=sM b)(d:∀ρ,b'.AO ρ=b.AO ρ)(a:∀x∈b'.A3,x∈b.A3)(c:b'.live=b.live)(h:AtD g F O n I w ρ A R<|f.re k b'):AtD g F O n I w ρ A R f:=
 ⟨λhF=>Aae k e d a c<|h.out hF⟩
def AcJ{l cs e t k off k2 b2 ad x ty I'}(o:(Mo f).op=.store t ad x)(z:ev f.σ.tm ad=.p k off)(s:(ev f.σ.tm x).cs=sM cs)(p:Bt.get t=sM ty)(D:lN cs=ty.n)(C:off+lN cs<=lN l)(y:∀v∈cs,AAI v)
 (g:b2.live) (m:∀x∈DF (BX l off cs),x=k\/x=k2) (a:OB f n [(k,.cells l e),(k2,b2)] I') (hnext:At F O n I w ρ A R<|f.act {r:=.v undef,AV:=[(k,.cells (BX l off cs) e)],J:=I'}):At F O n I w ρ A R f:=by
 refine act (hobs:=a) (AVW Be o z s p D C y DT) ?_ ?_;intro h i;subst i;refine{r:= ?_,u:= ?_,n:= ?_,l:=by simp,le:=AB.Hj _,d:=by simp};intro k B;cases B;intro E j;rw[A9.1 j];refine⟨sP,?_,?_⟩;intro b c;rcases Co.1 c with q|q;rw[(IC q).2];rfl;rwa[(IC<|A9.1 q).2];intro x s;rcases m x s with q|q<;>(left;simp[q]);intro b c;cases c;intro h i;subst i;exact hnext
def AdG{e d g I r}(b:AA<|Nat×SV)(h:∀a c (o:Bw),o.op=e->(∀p∈d,c p.1=p.2)->LS prog o c a g I r nO):
 ∀a c (o:Bw),o.op=e->(∀p∈d++b,c p.1=p.2)->LS prog o c a g I r nO:=λa c o i k=>h a c o i λp j=>k p<|GC _ j
def ADh(k b)(l:AA AF):Hz k b (l.map .v)=l.map .v:=by
 induction l with
 |nil=>rfl
 |cons x l a=>simp[E4,Hz,SV.B4,a]
def AJZ(k b l r):Hz k b (l++r)=Hz k b l++Hz k b r:=by
 induction l with
 |nil=>rfl
 |cons x l a=>simp[F1,Hz,a]
def AUi(k b n c a)(l:AA AF):Hz k b (BX (l.map .v) a [.s k 0 n c])=(BX l a [.slice (aP b) n c]).map .v:=by unfold BX;rw[AJZ,AJZ,<-ABi,<-List.map_drop,ADh,ADh];simp[Hz,SV.B4]
def Pb(l:AA AF):DF (l.map .v)=[]:=by
 induction l with
 |nil=>rfl
 |cons x l a=>simp[DF,SV.A3,a]
def Zb(l r):DF (l++r)=DF l++DF r:=by
 induction l with
 |nil=>rfl
 |cons x l a=>simp[DF,a]
def AWd(k n c b)(l:AA AF):∀x∈DF (BX (l.map .v) b [.s k 0 n c]),x=k:=by intro x a;rw[BX]at a;rw[Zb,Zb,<-ABi,<-List.map_drop,Pb,Pb]at a;simpa[DF,SV.A3]using a
def AUh{I f e b c a}(g:lN e=lN f.Ai)(h:F3 I e (aP b) c a):∀d,Gd I f d->Gd I {f with Ai:=e} (BX d 4 [.slice (aP b) (lN f.Ai) c]):=by rintro d ⟨j,k,i,rfl,q⟩;refine⟨sM ⟨b,0,nO⟩,c,a,?_,h⟩;show _=[_,_,_,_,Value.slice _ (lN e) c];rw[g];rfl
def AF2(a e ρ):(AK.cells (a.map .v) e).AO ρ=(AK.As a e).AO ρ:=by simp[AK.AO,Gw]
def AcM(I m g fl AE f u y x)(ht:F3 I u m.ta m.tc y)(hn:m.tn=lN u)(P:u[0]? =sM x)(V:m.c.top=sM f)(B:m.oa<lN f.Ai)(ah:lN f.Ai<=1000000)(hF:GY I m.c g fl AE)(W:lN m.c.AG<=1000000):
 Fn 203 [.p 1 0] (Pk m g<|fl++AE) I (Re I m g<|D4 m.c λf=>{f with Ai:=f.Ai.set m.oa x}) nO:=by
 have q:0<lN u:=(Ci.1 P).1;obtain⟨m,b,j,arr,e,fr,rfl,hI,o⟩:=Sq m ht hn q;have h0:=o 0 x P;have hl:=hF.len;simp only at V B hF W hl;let⟨af,va,vc,c,p,z⟩:=hF.top V;have l:=z 4 _ rfl;let⟨Q,k,ac,e2,ad,M,ae,ag⟩:=Xc p oG;subst M;have Z:=AFK p.CE;generalize hN:lN m.c.AG=N at*;have hlen:lN (fl++AE)=lN fl+lN AE:=CK;have i:((fl++AE).map SV.v)[0+(N-1)*5+4]? =sM (.v<|.slice (aO Q k) (lN f.Ai) vc):=by rw[GB,l];rfl
 refine fo func203 λρ ab w H=>gG ?_;have L:=AA2 I (m.tk b j<|lN u) g (fl++AE) (by show 0<lN m.c.AG;omega) (by show lN m.c.AG<=_;omega);refine OK L rfl []<|go func203 [] 2 kR<|Om 2 (b:=.As (fl++AE) 65) (b':=.cells ((fl++AE).map .v) 65) kR (λρ=>AF2 _ _ ρ) (by intro x D;simp only[AK.A3,Pb]at D;cases D) rfl ?_;refine gg [(9,.BZ (.load 29<|.tmp 8) [(8,.p 2<|0+(lN m.c.AG-1)*5+4)] [(2,.cells ((fl++AE).map .v) 65)] I (.v<|.slice (aO Q k) (lN f.Ai) vc)<|Zn Be (L:=Bt) (t:=29) (a:=8) (k:=2) (off:=0+(lN m.c.AG-1)*5+4) (ty:=⟨1,_,_⟩) (l:=(fl++AE).map .v) (e:=65) rfl rfl<|by rw[hN];exact i)] ?_;refine PE (AIU I ⟨Q,k,nO⟩ (lN f.Ai) vc c oG p.sl) λa d T U hj=>go func203 [] 2 kR ?_;have K:0+(lN m.c.AG-1)*5+4+1<=lN ((fl++AE).map SV.v):=by rw[DG,hlen,hN];omega
 refine AcJ (k:=2) (off:=0+(lN m.c.AG-1)*5+4) (t:=29) (ad:=.tmp 12) (x:=.tmp 10) (e:=65) (l:=(fl++AE).map .v) (cs:=[.s 164 0 (lN f.Ai) a]) (k2:=164) (b2:=.As (c++d) 51) (ty:=⟨1,_,_⟩) (I':=I) kR kR kR rfl rfl K (by intro v o;rw[A9.1 o];rfl) rfl (λx D=>.inr<|AWd _ _ _ _ _ x D) kR ?_;have G:(BX ((fl++AE).map SV.v) (0+(lN m.c.AG-1)*5+4) [.s 164 0 (lN f.Ai) a])[0+(lN m.c.AG-1)*5+4]? =sM (.s 164 0 (lN f.Ai) a):=by
  unfold BX;have h3:(((fl++AE).map SV.v).take<|0+(lN m.c.AG-1)*5+4).length=0+(lN m.c.AG-1)*5+4:=by rw[Cu];omega
  rw[Eb,GA oG,h3,RU];rfl
 have t:lN c=lN f.Ai*5:=by rw[Z,UH]
 refine gg [(16,.BZ (.load 29<|.tmp 15) ([(15,.p 2<|0+(lN m.c.AG-1)*5+4)]++[(10,.s 164 0 (lN f.Ai) a)]) [(2,.cells (BX ((fl++AE).map .v) (0+(lN m.c.AG-1)*5+4) [.s 164 0 (lN f.Ai) a]) 65)] I (.s 164 0 (lN f.Ai) a)<|AdG [(10,.s 164 0 (lN f.Ai) a)]<|Zn Be rfl rfl G),
  (26,Br I Gx b j (lN u) m.tc 0 q),(27,D8 I Oo (j+0*5) (BG x) rfl hI h0),
  (28,.BZ (.indexAddr 29 (.tmp 16)<|.tmp 21) [(16,.s 164 0 (lN f.Ai) a),(21,.v<|.int iK<|Int.ofNat m.oa)] [] I (.p 164<|0+m.oa*5)<|I5 Be (c:=a) (i:=m.oa) (e:=51) (ty:=⟨5,_,_⟩) rfl rfl B)] ?_
 refine B0 (k:=164) (off:=0+m.oa*5) (t:=51) (ad:=.tmp 28) (x:=.tmp 27) (e:=51) (vs:=c++d) (cs:=BG x) (ty:=⟨5,_,_⟩) (I':=I) kR kR kR rfl rfl (by rw[CK,t];show 0+m.oa*5+5<=_;omega) (by intro v o;simp[BG]at o;rcases o with rfl|rfl|rfl|rfl|rfl<;>rfl) kR ?_;refine gG<|B4 164 I (vs:=BX (c++d) (0+m.oa*5)<|BG x) (e:=51) λE J hle _ hJ=>Om 2 (b:=.cells (Hz 164 E<|BX ((fl++AE).map .v) (0+(lN m.c.AG-1)*5+4) [.s 164 0 (lN f.Ai) a]) 65) (b':=.As (BX (fl++AE) (0+(lN m.c.AG-1)*5+4) [.slice (aP E) (lN f.Ai) a]) 65) kR (λρ=>by rw[AUi,AF2]) (by intro x D;cases D) rfl ?_;have aa:f.Ai[m.oa]? =sM f.Ai[m.oa]:=BS B;have C:F3 J (f.Ai.set m.oa x) (aP E) a (BX c (m.oa*5+0)<|BG x):=by
  have hr:Rows F9 (f.Ai.set m.oa x) (BX c (m.oa*5+0)<|BG x):=p.CE.AV Jd (λ_ _ h=>h) aa (λai s=>by unfold F9 at s⊢;rw[s];rfl) (by simp[BG])
  refine Av.Ky (AE:=d) (e:=51) ?_ hr Jd (λv o=>Pn v<|by rw[AFK hr]at o;exact o) (by rw[ABh];exact T) U;rw[FE,Ut<|by rw[t];show m.oa*5+5<=_;omega]at hJ;exact hJ
 have S:GY I m.c g fl AE:=hF;let⟨X,Y⟩:=S.HW (f:=f) V hle (j:=4) (cs:=[.slice (aP E) (lN f.Ai) a]) (g:=λf=>{f with Ai:=f.Ai.set m.oa x}) (AUh sP C) sP;have hd:Re I (m.tk b j<|lN u) g (D4 m.c λf=>{f with Ai:=f.Ai.set m.oa x}) ab {r:=.t [],AV:=[(1,(m.tk b j<|lN u).NM 2 g),(2,.As (BX (fl++AE) (0+(lN m.c.AG-1)*5+4) [.slice (aP E) (lN f.Ai) a]) 65)],J:=J}:=by refine⟨J,_,AE,hle,X,?_⟩;rw[Y];unfold CS.NM;simp only[AEz];rfl
 exact done func203 H [] kR hd
end
section
open Go.AX Go.RowKit Go.Shelf Lz
def AW3:Ren where
 f:=λx=>match x with|173=>124|246=>177|283=>253|284=>254|285=>255|286=>256|129=>328|317=>327|318=>329|319=>330|320=>331|337=>365|338=>366|n=>n
 t:=λx=>match x with|2=>2|3=>3|9=>9|4=>4|171=>360|0=>0|53=>227|37=>23|5=>5|173=>363|212=>422|51=>423|20=>20|213=>424|46=>302|232=>469|233=>470|n=>n
 g:=λx=>match x with|17=>4|18=>5|19=>6|n=>n
def AKa:LaysM.n173 prog AW3:=by constructor<;>first|(intros;exact kR)|(constructor<;>first|(intros;exact kR)|(constructor<;>intros<;>exact kR))
def Wg:Ren where
 f:=λx=>match x with|174=>322|247=>361|245=>362|287=>389|279=>390|280=>391|281=>392|282=>393|321=>409|322=>410|316=>411|171=>413|205=>412|243=>420|246=>177|283=>253|284=>254|285=>255|286=>256|129=>328|317=>327|318=>329|319=>330|320=>331|337=>365|338=>366|n=>n
 t:=λx=>match x with|9=>9|3=>3|2=>2|75=>252|85=>416|4=>4|167=>463|5=>5|53=>227|175=>464|46=>302|168=>466|37=>23|0=>0|210=>485|21=>21|127=>320|145=>499|143=>497|171=>360|173=>363|212=>422|51=>423|20=>20|213=>424|232=>469|233=>470|80=>256|n=>n
 g:=λx=>match x with|15=>7|16=>8|17=>4|18=>5|19=>6|n=>n
def AKb:LaysC.n174 prog Wg:=by constructor<;>first|(intros;exact kR)|(constructor<;>first|(intros;exact kR)|(constructor<;>intros<;>exact kR))
structure Pow(I:AB):Prop where
 tab:∃e fr,I 4=sM (.cells (Lib.pow10Tab.map λz=>Value.int .u64 z).toArray e fr)
 err:∃ev e fr,I (Wg.g 15)=sM (.cells #[ev] e fr)/\(ev=.nilIface\/∃b a,ev=.iface b a)
def Pow.up{I J}(h:Pow I)(hle:I.le J):Pow J:=by let⟨⟨e,c,d⟩,⟨ev,b,a,f,g⟩⟩:=h;exact⟨⟨e,c,hle _ _ d⟩,⟨ev,b,a,hle _ _ f,g⟩⟩
def ADk:prog.globalNamed "internal/strconv.uint64pow10" =sM 4:=kR
def Pow.is{I}(h:Pow I){w}(b:EJ w I):Lib.TabIs prog w "internal/strconv.uint64pow10" .u64 Lib.pow10Tab:=by let⟨e,c,a⟩:=h.tab;unfold Lib.TabIs World.var?;rw[ADk];simp[b 4 _ a]
def ADb{F b a f r v I}(j:prog.funcs[F]? =sM b)(i:b.body.isSome)(c:(b.name== "runtime.NumGoroutine")=fF)
 (g:∀d,(BB d a).toArray=f) (l:∀d,AO d r=v) (k:r.A3=[]) (h:∀w,EJ w I->Calls prog F f w λe m=>e=.returned v/\Below w.heap.size w m):Fn F a [] I (BW r I) nO:=
 MX j i c g l k h
def AHk(w k a):Below w.heap.size w (Go.Sort.grow (w.drewN k) a):=by refine⟨rfl,rfl,rfl,?_,λj b=> ?_⟩;show w.heap.size<=(w.heap++a).size;rw[Array.size_append];omega;show(w.heap++a)[j]? =w.heap[j]?;rw[Array.getElem?_append_left b]
def AUb(I)(c:Pow I)(n:Int)(a: -9223372036854775808<=n)(b:n<=9223372036854775807):Fn 124 [.v<|nV n,.v<|.int iK 10] [] I (BW (.v<|vS<|AJ<|Lib.itoa n) I) nO:=
 ADb func124 kR kR (λ_=>rfl) (λ_=>rfl) rfl λw d=>by refine(Any.strconv_FormatInt_10 AKa n a b w<|c.is d).mono ?_;rintro e g ⟨rfl,k,f,rfl⟩;exact⟨rfl,AHk w k f⟩
def AAx(I)(d:Pow I)(n:Int)(b: -9223372036854775808<=n)(c:n<=9223372036854775807):Fn 69 [.v<|nV n] [] I (BW (.v<|vS<|AJ<|Lib.itoa n) I) nO:=fo func69 λf e w a=>gG<|call (AUb I d n b c)<|gG<|fi
def AZe(I l)(n:Int)(h:Lib.parseIntB 64 l=.ok n)(a:lN l<=1000):Fn 322 [.v<|vS<|AJ l,.v<|.int iK 10,.v<|.int iK 64] [] I (BW (.t [.v<|nV n,.v .nilIface]) I) nO:=
 ADb func322 kR kR (λ_=>rfl) (λ_=>rfl) rfl λw b=>by refine(Any.strconv_ParseInt_10_at64_ok AKb (AJ l) (by rw[show(AJ l).size=lN l from by simp[AJ,ByteArray.size]];omega) n (by rwa[show(AJ l).data.toList=l from by simp[AJ]]) w).mono ?_;rintro e c ⟨rfl,rfl|⟨t,rfl⟩⟩;exact⟨rfl,Below.refl _ _⟩;exact⟨rfl,Go.Joins.below_bytesWorld _ _ _ _<|Ag _⟩
def AOL:prog.underlying 252=sM (.interface<|prog.methodsAt 252):=kR
def Abl{I}(x):∀w,EJ w I->∃a,((do eqGuard .neq 252 x (.const .nilIface) .nilIface .nilIface;binOp .neq 252 .nilIface .nilIface:Sem AF)).run prog w=.ok (AO id<|.v fV) a/\Bl w a:=λw _=>
 ⟨w,by
   rw[eqGuard_nil_constR];simp[Sem.run_bind,Sem.run_pure,Result.andThen_ok,AO];exact run_neq_nil_nil w 252 AOL,Bl.refl w⟩
def AEn(l):Value.bool (!((AJ l).toList==(AJ l).toList))=vB fF:=sP
def Q4(I)(d:Pow I)(l)(n:Int)(h:Lib.parseIntB 64 l=.ok n)(e:Lib.itoa n=l)(g:lN l<=20)(b: -9223372036854775808<=n)(c:n<=9223372036854775807):Fn 247 [.v<|vS<|AJ l] [] I (BW (.t [.v<|nV n,.v tV]) I) nO:=by have i:=Fz l;refine fo func247 λj f w a=>gg [(8,hF<|((AJ l).size:Int)>20)]<|call (AZe I l n h oG)<|gg [(15,.op I _ _<|Abl<|.tmp 14)]<|call (AAx I d n b c) ?_;rw[e];exact gg [(20,.eq _ _<|AEn l)]<|fi
end
section
open Go.AX Lz
def BV(n:Nm):Prop:=∀x∈n,x<=999
def AMb:AA AH->Nat:=List.foldl (λa c=>10*a+(c.toNat-48)) 0
def ASU:(List.range 1000).all (λn=>AMb (dec n)==n&&(dec n).all (λc=>c !=46)&&decide (1<=lN (dec n))&&decide (lN (dec n)<=3)):=kR
def KS{n}(h:n<=999):AMb (dec n)=n/\(46:UInt8)∉dec n/\1<=(dec n).length/\(dec n).length<=3:=by have:=List.all_eq_true.1 ASU n<|List.mem_range.2 oG;simp[Bool.and_eq_true,beq_iff_eq,decide_eq_true_eq,List.all_eq_true]at this;exact⟨this.1.1.1,λa=>by have:=this.1.1.2 46 a;revert this;decide,this.1.2,this.2⟩
def AIi{a b}(e:a<=999)(f:b<=999)(h:dec a=dec b):a=b:=by have c:=(KS e).1;rw[h]at c;rw[<-c,(KS f).1]
def isOk:Lib.NumEnd Int->Int->Bool
 | .ok v,n=>v==n
 |_,_=>fF
def AWC{e}{n:Int}(h:isOk e n):e=.ok n:=by unfold isOk at h;split at h;rw[eq_of_beq h];cases h
def AZf:(List.range 1000).all (λn=>isOk (Lib.parseIntB 64<|dec n) (n:Int)):=kR
def AIj{n:Nat}(h:n<=999):Lib.parseIntB 64 (dec n)=.ok (n:Int):=AWC<|EQ.1 AZf n<|O4.2 oG
def AC1{n:Nat}(h:n<=999):Lib.itoa (n:Int)=dec n:=by have c: ¬(n:Int)<0:=oG;rw[Lib.itoa,dec];rw[AY c,Int.toNat_natCast];by_cases a:n<10;rw[Ac a,Lib.decDigits,RV a];rw[AY a];by_cases b:n<100;rw[Ac b,Lib.decDigits,X3 a,Lib.decDigits,RV oG];rfl;rw[AY b,Lib.decDigits,X3 a,Lib.decDigits,X3 oG,Lib.decDigits,RV oG];simp[F1,F2];rw[Nat.div_div_eq_div_mul]
def Acg{n}(h:n<=999)(l):(dec n++46::l).takeWhile (λc=>c !=46)=dec n:=by
 have a:=(KS h).2.1;have:∀d:AA AH,(46:AH)∉d->(d++46::l).takeWhile (λc=>c !=46)=d:=by
  intro d;induction d with
  |nil=>intro _;simp
  |cons x d g=>
   intro f;have b:(x !=46):=by rw[VT];intro e;exact f (by rw[e];simp)
   rw[F1,RR,Ac b,g λq=>f<|DY _ q]
 exact this _ a
def Ach{n}(h:n<=999):(dec n).takeWhile (λc=>c !=46)=dec n:=by
 have a:=(KS h).2.1;have:∀d:AA AH,(46:AH)∉d->d.takeWhile (λc=>c !=46)=d:=by
  intro d;induction d with
  |nil=>intro _;rfl
  |cons x d g=>
   intro f;have b:(x !=46):=by rw[VT];intro e;exact f (by rw[e];simp)
   rw[RR,Ac b,g λq=>f<|DY _ q]
 exact this _ a
def Me(n m l):Dm (n::m::l)=dec n++46::Dm (m::l):=rfl
def Z0{n l}(h:n<=999):(Dm (n::l)).takeWhile (λc=>c !=46)=dec n:=by
 cases l with
 |nil=>exact Ach h
 |cons m l=>rw[Me];exact Acg h _
def Of:∀ {a b:Nm},BV a->BV b->Dm a=Dm b->a=b
 |[],[],_,_,_=>rfl
 |[],n::l,_,hb,h=>by have c:=Z0 (l:=l)<|hb n sP;rw[<-h]at c;have:=(KS<|hb n sP).2.2.1;rw[<-c]at this;simp[Dm]at this
 |n::l,[],ha,_,h=>by have c:=Z0 (l:=l)<|ha n sP;rw[h]at c;have:=(KS<|ha n sP).2.2.1;rw[<-c]at this;simp[Dm]at this
 |[n],[m],ha,hb,h=>by rw[AIi (ha n sP) (hb m sP) h]
 |[n],m::k::l,ha,hb,h=>by
  have c:(46:AH)∈Dm [n]:=by rw[h,Me];simp
  exact absurd c (KS<|ha n sP).2.1
 |n::k::l,[m],ha,hb,h=>by
  have c:(46:AH)∈Dm [m]:=by rw[<-h,Me];simp
  exact absurd c (KS<|hb m sP).2.1
 |n::k::l,m::j::r,ha,hb,h=>by have c:=Z0 (l:=k::l)<|ha n sP;rw[h,Z0 (l:=j::r)<|hb m sP]at c;have e:=AIi (hb m sP) (ha n sP) c;subst e;rw[Me,Me]at h;have f:=List.append_cancel_left h;simp[P6,true_and]at f;rw[Of (λx d=>ha x<|DY _ d) (λx d=>hb x<|DY _ d) f]
def Z3:∀ {a:Nm},BV a->lN (Dm a)<=4*lN a/\(a≠[]->lN (Dm a)+1<=4*lN a/\1<=lN (Dm a))
 |[],_=>⟨Ag _,λh=>absurd rfl h⟩
 |[n],h=>by have:=KS<|h n sP;show(dec n).length<=4/\(_->lN (dec n)+1<=4/\1<=lN (dec n));exact⟨oG,λ_=>⟨oG,oG⟩⟩
 |n::m::l,h=>by have d:=KS<|h n sP;have b:=Z3 (a:=m::l) λx c=>h x<|DY _ c;rw[Me];simp only[CK,FM]at b⊢;have e:=b.2 sP;exact⟨oG,λ_=>⟨oG,oG⟩⟩
def Z4{n}(h:CB n):BV n/\n≠[]/\n.length<=24:=by simp[CB,Bool.and_eq_true,decide_eq_true_eq,List.all_eq_true]at h;exact⟨h.2,by intro e;rw[e]at h;simp at h,h.1.2⟩
def index_none{n}(h:n<=999):Lib.indexByte (dec n) 46= -1:=by
 have a:=(KS h).2.1;have:∀d:AA AH,(46:AH)∉d->Lib.indexByte d 46= -1:=by
  intro d;induction d with
  |nil=>intro _;rfl
  |cons x d f=>
   intro c;have b: ¬(x==46):=by intro e;exact c (by rw[eq_of_beq e];simp)
   rw[Lib.indexByte,AY b,f λq=>c<|DY _ q];rfl
 exact this _ a
def AVq{n}(h:n<=999)(l):Lib.indexByte (dec n++46::l) 46=lN (dec n):=by
 have a:=(KS h).2.1;have:∀d:AA AH,(46:AH)∉d->Lib.indexByte (d++46::l) 46=lN d:=by
  intro d;induction d with
  |nil=>intro _;rfl
  |cons x d g=>
   intro c;have b: ¬(x==46):=by intro e;exact c (by rw[eq_of_beq e];simp)
   rw[F1,Lib.indexByte,AY b,g λq=>c<|DY _ q];have: ¬((lN d:Int)== -1):=sP;rw[AY this];simp
 exact this _ a
section
open Go.RowKit Go.Shelf
attribute [local go_sem] Oper.semAt_some Fz Jc
def ADx(I l)(n:Int)(h:Lib.indexByte l 46=n):Fn 337 [.v<|vS<|AJ l,.v<|vS ⟨#[46]⟩] [] I (BW (.v<|nV n) I) nO:=
 ADb func337 kR kR (λ_=>rfl) (λ_=>rfl) rfl λw a=>by refine(ADy 46 (AJ l) w).mono ?_;rintro e b ⟨rfl,rfl⟩;rw[show(AJ l).data.toList=l from by simp[AJ],h];exact⟨rfl,Below.refl _ _⟩
end
def Ef(n:AA Nat):AA AF:=n.map λx:Nat=>Value.int iK<|Int.ofNat x
abbrev N2(x:SV):AK:=.cells [x] 100
abbrev Ny:AK:=.cells [.v tV] 4
def APS(I:AB)(n:Nat):zP:=λc h=>∃a b,1<=a/\a<=maxLen/\lN b=a-1/\h= {r:=.v tV,AV:=[(1,N2<|.s c 0 1 a),(2,Ny)],nb:=[.As (Ef [n]++b) 3],J:=I}
def nb0(a b):(CX a [b] a).isSome:=by have:=Nv (key:=a) (nb:=[b]) (j:=0);simp[IB]at this;rw[this];rfl
def APj(I:AB)(done:Nm)(n:Nat):zP:=λc h=>∃a b,lN done+1<=a/\a<=maxLen/\lN b=a-(lN done+1)/\h= {r:=.v tV,AV:=[(1,N2<|.s c 0 (lN done+1) a),(2,Ny),(3,.gone)],nb:=[.As (Ef (done++[n])++b) 3],J:=I}
def WX(n):lN (Ef n)=lN n:=by simp[Ef]
def WY(n):∀v∈Ef n,v.oneCell':=by intro v a;obtain⟨x,_,rfl⟩:=BI.1 a;rfl
def ACG:Gq prog Bt 100 3 1:=⟨⟨_,rfl⟩,⟨_,_,rfl,rfl⟩,kR⟩
def ANx(I)(h:Pow I)(n)(c:n<=999):Fn 246 [.v<|vS<|AJ<|dec n,.p 1 0,.p 2 0] [(1,N2<|.v zS),(2,Ny)] I (APS I n) nO:=by have k:=KS c;refine fo func246 λl i w d=>gG<|call (Q4 I h (dec n) n (AIj c) (AC1 c) oG oG oG)<|gg [(15,hT<|(n:Int)≥0),(19,hT<|(n:Int)<=999)]<|act (need:=[(308,.cells [.v<|nV n] 3)]) (MM (I:=I) Be (n:=0) (cap:=0) (m:=1) (a:=nO) (l:=.v zS) (x:=.s 308 0 1 1) (CQ:=[]) (news:=Ef [n]) ACG kR rfl Ol (Ez (e:=3) (A9.2 rfl) rfl<|WY [n]) (Ag _) oG (λ_=>rfl) oG) M4 ?_;rintro j ⟨b,a,e,f,g,rfl⟩;refine gG ?_;exact dn [316] ⟨b,a,e,f,by rw[g];simp,rfl⟩
def ANy(I)(l:Pow I)(a n c b)(f:n<=999)(t:lN a<24)(m:lN a<=c)(p:c<=maxLen)(o:lN b=c-lN a):Fn 246 [.v<|vS<|AJ<|dec n,.p 1 0,.p 2 0] [(1,N2<|.s 3 0 (lN a) c),(2,Ny),(3,.As (Ef a++b) 3)] I (APj I a n) nO:=by have s:=KS f;refine fo func246 λu g w h=>gG<|call (Q4 I l (dec n) n (AIj f) (AC1 f) oG oG oG)<|gg [(15,hT<|(n:Int)≥0),(19,hT<|(n:Int)<=999),(24,hT<|(lN a:Int)<24)]<|act (need:=[(3,.As (Ef a++b) 3),(308,.cells ((Ef [n]).map .v) 3)]) (Kk (I:=I) Be (n:=lN a) (m:=1) (cap:=c) (k:=3) (vs:=Ef a++b) (CQ:=Ef a) (news:=Ef [n]) (x:=.s 308 0 1 1) ACG kR DT (by rw[CK,WX,o];omega) (by rw[O5];rw[WX];omega) (WY _) (Ez (e:=3) sP rfl<|WY [n]) m p oG) (QP rfl) ?_;rintro q ⟨e,d,i,j,k,rfl⟩;refine gG ?_;refine dn [316] ⟨e,d,i,j,by rw[k];simp,?_⟩ (h:={r:=.v tV,AV:=[(1,N2<|.s (g+0) 0 (lN a+1) e),(2,Ny),(3,.gone)],nb:=[.As (Ef a++Ef [n]++d) 3],J:=I});simp[Ef]
abbrev Sn(l:AA AH):AK:=.cells [.v<|vS<|AJ l] 9
abbrev Sk:AK:=.cells [.v<|vS ⟨#[46]⟩] 9
abbrev zeroCell:AK:=.cells [.v<|.int iK 0] 3
variable{F:FuncId}{O:Func}{n:Nat}{I:AB}{w:World}{ρ:Nat->Nat}{A:List Nat}{R:Ec}{f:Bv}
abbrev AYf(l:AA AH):AA (Nat×AK):=[(1,N2<|.v zS),(2,Ny),(3,Sk),(4,Sn l),(5,zeroCell)]
def AB7(I:AB)(c:Nm):zP:=λd h=>∃a b l,lN c<=a/\a<=maxLen/\lN b=a-lN c/\h= {r:=.t [],AV:=[(1,N2<|.s d 0 (lN c) a),(2,Ny),(3,Sk),(4,Sn l),(5,zeroCell)],nb:=[.As (Ef c++b) 3],J:=I}
structure SqX where
 IK:Nm
 Eh:Nm
 cap:Nat
 AE:AA AF
def ANj(I:AB)(x:SqX):Hd where
 Cd:=[(0,.fn (.func 246) [] [.p 1 0,.p 2 0]),(1,.p 3 0),(2,.p 4 0),(3,.p 5 0)]
 Cc:=match x.IK with
  |[]=>[(1,N2<|.v zS),(2,Ny),(3,Sk),(4,Sn<|Dm x.Eh),(5,zeroCell)]
  |d::l=>[(1,N2<|.s 6 0 (lN (d::l)) x.cap),(2,Ny),(3,Sk),(4,Sn<|Dm x.Eh),(5,zeroCell),(6,.As (Ef (d::l)++x.AE) 3)]
 J:=I
structure SqP(nm:Nm)(x:SqX):Prop where
 all:x.IK++x.Eh=nm
 ne:x.Eh≠[]
 cap:lN x.IK<=x.cap/\x.cap<=maxLen/\lN x.AE=x.cap-lN x.IK
def Abp{I}{l:AA AH}{k}(c:k<=lN l):∀w,EJ w I->∃b,(Instr.sliceAt 9 (vS<|AJ l) nO (sM<|iV k) nO).run prog w=.ok (AO id<|.v<|vS<|AJ<|l.take k) b/\Bl w b:=λw _=>
 ⟨w,by
   have a:(0:Int)<=(k:Int)/\(k:Int)<=((AJ l).size:Int):=by rw[Fz];omega
   simp[Instr.sliceAt,Instr.slice,run_underlying ABA,Instr.sliceBounds,run_sliceBound,a.1,a.2,Result.andThen,AO,AJB],Bl.refl w⟩
def Abo{I}{l:AA AH}{k}(c:k<=lN l):∀w,EJ w I->∃b,(Instr.sliceAt 9 (vS<|AJ l) (sM<|iV k) nO nO).run prog w=.ok (AO id<|.v<|vS<|AJ<|l.drop k) b/\Bl w b:=λw _=>
 ⟨w,by
   have a:(0:Int)<=(k:Int)/\(k:Int)<=((AJ l).size:Int):=by rw[Fz];omega
   simp[Instr.sliceAt,Instr.slice,run_underlying ABA,Instr.sliceBounds,run_sliceBound,a.1,a.2,Result.andThen,AO];rw[Fz,extract_from],Bl.refl w⟩
def AbW(I)(E:Pow I)(l:Nm)(M:BV l)(L:l≠[])(N:lN l<=24):Fn 363 [.fn (.func 246) [] [.p 1 0,.p 2 0],.p 3 0,.p 4 0,.p 5 0] (AYf<|Dm l) I (AB7 I l) nO:=by
 refine fo func363 λρ m w o=> ?_;refine gG<|loop (SqP l) (λx=>lN x.Eh) (ANj I) 300 [] ⟨[],l,0,[]⟩ ⟨rfl,L,⟨Ag _,Bm _,rfl⟩⟩ ?_;rintro⟨i,Eh,h,c⟩ ⟨a,p,b⟩ again T;simp only at a p b;cases Eh with
 |nil=>exact absurd rfl p
 |cons x Eh=>
  have q:x<=999:=M x (by rw[<-a];simp);have hlen:lN i+lN (x::Eh)=lN l:=by rw[<-a,CK]
  cases Eh with
  |nil=>
   cases i with
   |nil=>
    refine gG<|call (ADx I (dec x) (-1)<|index_none q) ?_;refine gG<|A0 (ANx I E x q) [] ?_;rintro _ ⟨h,c,s,t,u,rfl⟩;refine gG ?_;have H:AB7 I l m {r:=.t [],AV:=[(1,N2<|.s (m+0) 0 1 h),(2,Ny),(3,Sk),(4,Sn<|dec x),(5,zeroCell)],nb:=[.As (Ef [x]++c) 3],J:=I}:=by subst a;exact⟨h,c,dec x,s,t,u,rfl⟩
    exact done func363 o [364] kR H
   |cons d k=>
    refine gG<|call (ADx I (dec x) (-1)<|index_none q) ?_;refine gG<|A0 (ANy I E (d::k) x h c q (by simp at hlen⊢;omega) b.1 b.2.1 b.2.2) [(3,6)] ?_;rintro _ ⟨g,e,s,t,u,rfl⟩;refine gG ?_;have H:AB7 I l m {r:=.t [],AV:=[(1,N2<|.s (m+0) 0 (lN (d::k)+1) g),(2,Ny),(3,Sk),(4,Sn<|dec x),(5,zeroCell)],nb:=[.As (Ef (d::k++[x])++e) 3],J:=I}:=by subst a;exact⟨g,e,dec x,by simpa using s,t,by simpa using u,sP⟩
    exact done func363 o [364] kR H
  |cons y Eh=>
   have K:lN (dec x)<=lN (Dm (x::y::Eh)):=by rw[Me];simp
   have D:lN (dec x)+1<=lN (Dm (x::y::Eh)):=by rw[Me];simp
   have z:(Dm (x::y::Eh)).take (lN<|dec x)=dec x:=by rw[Me,O5];rfl
   have v:(Dm (x::y::Eh)).drop (lN (dec x)+1)=Dm (y::Eh):=by rw[Me,List.drop_append,RN oG,show(dec x).length+1-lN (dec x)=1 by omega];rfl
   have B:=Abp (I:=I) K;have j:=Abo (I:=I) D;rw[z]at B;rw[v]at j;have P:=(KS q).2.2;have C:=ADx I (Dm (x::y::Eh)) (lN<|dec x) (by rw[Me];exact AVq q _);cases i with
   |nil=>
    refine gG<|call C ?_;refine gg [(33,hF<|(lN (dec x):Int)<0),(37,hW ((lN (dec x):Int)+0) (lN (dec x):Nat)),(38,.op I _ _ B)]<|A0 (ANx I E x q) [] ?_;rintro _ ⟨h,c,s,t,u,rfl⟩;exact gg [(47,hW ((lN (dec x):Int)+1) ((lN (dec x)+1:Nat):Int)),(48,.op I _ _ j)]<|bk again [(6,412)] ⟨[x],y::Eh,h,c⟩ ⟨by simpa using a,sP,⟨s,t,u⟩⟩ (hm:=sP)
   |cons d k=>
    refine gG<|call C ?_;refine gg [(33,hF<|(lN (dec x):Int)<0),(37,hW ((lN (dec x):Int)+0) (lN (dec x):Nat)),(38,.op I _ _ B)]<|A0 (ANy I E (d::k) x h c q (by simp at hlen⊢;omega) b.1 b.2.1 b.2.2) [(3,6)] ?_;rintro _ ⟨g,e,s,t,u,rfl⟩;refine gg [(47,hW ((lN (dec x):Int)+1) ((lN (dec x)+1:Nat):Int)),(48,.op I _ _ j)] ?_;have G:lN (d::(k++[x]))=lN (d::k)+1:=sP;refine bk again [(6,412)] ⟨d::(k++[x]),y::Eh,g,e⟩ ⟨by simpa using a,sP,⟨by show(d::(k++[x])).length<=g;rw[G];exact s,t,by show lN e=g-lN (d::(k++[x]));rw[G];exact u⟩⟩ (hm:=sP) (hh:=⟨?_,kR,kR⟩);unfold ANj;simp[G];kernel_rfl
end
section
open Go.AX Go.RowKit Go.Shelf Lz
section
attribute [local go_sem] Oper.semAt_some Fz Jc
abbrev Rh(w:AN):Prop:=Lib.TabIs prog w "internal/strconv.uint64pow10" .u64 Lib.pow10Tab
theorem Rh.below{w a B}(h:Rh w)(b:Below B w a)(c:5<=B):Rh a:=by unfold Rh Lib.TabIs World.var? at h⊢;rw[ADk]at h⊢;show((sM 4).bind λg=>match a.heap[g]? with|some (Obj.cells cs elem frozen)=>sM cs|_=>nO)=_;simp[Xz]at h⊢;rwa[b.block 4 oG]
theorem ALo(n:Int)(b: -9223372036854775808<=n)(c:n<=9223372036854775807)(w)(hT:Rh w):
 Calls prog 69 #[.int iK n] w λe a=>e=.returned (vS (AJ (Lib.itoa n)))/\Below w.heap.size w a:=by
 go_enter func69,ntmps69
 go_wp2_with (go_at_call 124;refine(Any.strconv_FormatInt_10 AKa n b c _ hT).mono ?_)
 rintro e a ⟨rfl,k,d,rfl⟩
 go_wp2
 go_ret
 exact⟨rfl,AHk w k d⟩
theorem AQ9{B}(w:AN)(h:w.heap.size<B):JF B w.heap.size [] (w.alloc<|.cells #[.pointer nO,.slice nO 0 0] 250):=
 ⟨h,_,_,.inl rfl,World.alloc_heap_new w _,World.ownsRow_nil _ _ _ _⟩
theorem Aa5{W c B a n e v xs}(h:W.ownsRow B e a v n xs)(b:Below W.heap.size W c):c.ownsRow B e a v n xs:=
 h.kept (row:=nO) ⟨b.os,b.tape,b.output,b.size,λi d _=>b.block i d⟩ (by by_cases h:v.ownBlock=nO;exact .inl h;exact .inr h)
theorem JF.up{B b l w e}(h:JF B b l w)(d:Below w.heap.size w e):JF B b l e:=by let⟨f,p,v,g,a,i⟩:=h;exact⟨f,p,v,g,(d.block b<|(Ls.1 a).1).trans a,Aa5 i d⟩
theorem AYX{c:Nm}{k x}(d:c[k]? =sM x):Dm (c.take<|k+1)=if k=0 then dec x else Dm (c.take k)++[46]++dec x:=by
 have f:=(Ci.1 d).1;have e:c.take (k+1)=c.take k++[x]:=by rw[List.take_succ,d];rfl
 rw[e];split;rename_i h;subst h;rfl;rename_i h;have:∀l:Nm,l≠[]->Dm (l++[x])=Dm l++[46]++dec x:=by
  intro l;induction l with
  |nil=>intro h;exact absurd rfl h
  |cons a l g=>
   intro _;cases l with
   |nil=>simp[Dm]
   |cons b l=>
    rw[F1,F1,Me,Me,<-F1,g sP];simp
 exact this _ (by intro e;have:=Dt List.length e;rw[Cu,Gn<|Ly f]at this;exact h this)
theorem AYY{a:Nm}{k}(b:∀x∈a.take k,x<=999):lN (Dm<|a.take k)<=4*k:=by have:=(Z3 (a:=a.take k) b).1;rw[Cu]at this;omega
theorem ALe(b c:Nat)(nm:Nm)(arr:Array Value)(e:TypeId)(fr:Nat×Nat)(w:World)(hb:w.heap[b]? =sM (.cells arr e fr))(hv:∀k x:Nat,nm[k]? =sM x->arr[k]? =sM (iV x))(hT:Rh w)(F:5<=w.heap.size)
 (r:List UInt8) (q:Bool) (A:Hid ((CB nm=tT->r=Dm nm/\q=tT)/\(CB nm=fF->r=[]/\q=fF))):
 Calls prog 138 #[.slice (aP b) (lN nm) c] w λe V=>e=.returned (.tuple #[vS (AJ r),vB q])/\Below w.heap.size w V:=by
 have T:=Lib.hid hT;clear hT;have D:=(Array.getElem?_eq_some_iff.1 hb).1;by_cases E:lN nm<1
 .have o:CB nm=fF:=by simp[CB];omega
  have hd:decide ((lN nm:Int)<1)=tT:=by simp;omega
  obtain⟨rfl,rfl⟩:=A.out.2 o
  go_enter func138,ntmps138
  go_wp2
  go_ret2
  exact⟨rfl,Below.refl _ _⟩
 by_cases U:24<lN nm
 .have o:CB nm=fF:=by simp[CB];omega
  obtain⟨rfl,rfl⟩:=A.out.2 o
  go_enter func138,ntmps138
  go_wp2
  go_ret2
  exact⟨rfl,Below.refl _ _⟩
 have S:=Lib.hid (show CB nm=nm.all (λx=>decide (x<=999)) by simp[CB];omega);have m:∀W:World,E5 (w.heap.size+1) w.heap.size (w.alloc (.cells #[.pointer nO,.slice nO 0 0] 250)) W->∀k x:Nat,nm[k]? =sM x->W.cell? ⟨b,k,nO⟩=sM (iV x):=by
  intro W n k x p;have h1:W.heap[b]? =sM (.cells arr e fr):=by rw[n.block b oG oG];exact(Lib.alloc_old w _ b D).trans hb
  rw[Lib.cell_of_heap h1];exact hv k x p
 have X:=Lib.hid m;clear m
 go_enter func138,ntmps138
 go_wp2_with fail
 go_loopw [5,6,17] (λ_ _ i wr=>∃k:Nat,k<=lN nm/\i=.int iK k/\(∀x∈nm.take k,x<=999)/\JF (w.heap.size+1) w.heap.size (Dm (nm.take k)) wr/\E5 (w.heap.size+1) w.heap.size (w.alloc (.cells #[.pointer nO,.slice nO 0 0] 250)) wr) (λ_ _ i _=>lN nm-(intOf i).toNat)
 case atStart=>exact⟨0,Nat.zero_le _,rfl,sP,AQ9 w oG,E5.refl _ _ _⟩
 case round=>
  obtain⟨k,hk,rfl,d,f,n⟩:=hrel;have u:=n.size;rw[World.size_alloc]at u;by_cases N:k<lN nm
  .have p:nm[k]? =sM nm[k]:=List.getElem?_eq_getElem N;have L:=X.out wr n k _ p;have t:=AYX p;have ac:=AYY d;have HS:=Lib.hid t;have v:nm.take (k+1)=nm.take k++[nm[k]]:=by rw[List.take_succ,p];rfl
   have H:=Lib.hid v;generalize nm[k]=x at p L t HS v H;clear t v;by_cases s:x<=999
   .have R:=Lib.hid (AC1 s);have Y:=(KS s).2.2.2;have G:(AJ (dec x)).data.toList=dec x:=by simp[AJ]
    have C:=Lib.hid G;clear G;have J:=Lib.hid (T.out.below (((Below.refl _ w).alloc (Nat.le_refl _) _).trans (n.below (B':=w.heap.size) oG (Nat.le_refl _))) F);by_cases h0:k=0
    .subst h0;rw[if_pos rfl]at HS
     go_wp2_with fail
     refine(ALo _ oG oG _ J.out).mono ?_;rintro e w2 ⟨rfl,a⟩;rw[R.out];have Q:=a.size
     go_wp2_with fail
     refine(AOu _ _ _ _ _ (f.up a) (by rw[Fz];simp[Dm];omega) oG).mono ?_;rintro e w3 ⟨rfl,g,l,M⟩;rw[C.out]at g
     go_wp2
     go_roundw
     case rel=>exact⟨1,oG,by go_num,by rw[H.out];intro y z;simp at z;omega,by rw[HS.out];simpa[Dm]using g,(n.trans (E5.of_below (a.mono u))).trans l⟩
     case measure=>simp[intOf];omega
    .rw[if_neg h0]at HS;have Z:0<k:=oG
     go_wp2_with fail
     refine(AOt _ _ _ _ 46 rfl _ f oG oG).mono ?_;rintro e w1 ⟨rfl,K,j,aa⟩;have P:=j.size;have I:=Lib.hid (T.out.below (((Below.refl _ w).alloc (Nat.le_refl _) _).trans ((n.trans j).below (B':=w.heap.size) oG (Nat.le_refl _))) F)
     go_wp2_with fail
     refine(ALo _ oG oG _ I.out).mono ?_;rintro e w2 ⟨rfl,a⟩;rw[R.out];have Q:=a.size
     go_wp2_with fail
     refine(AOu _ _ _ _ _ (K.up a) (by rw[Fz,List.length_append];simp;omega) oG).mono ?_;rintro e w3 ⟨rfl,g,l,M⟩;rw[C.out]at g
     go_wp2
     go_roundw
     case rel=>exact⟨k+1,oG,by go_num,by rw[H.out];intro y z;rcases List.mem_append.1 z with z|z;exact d y z;rwa[List.mem_singleton.1 z],by rwa[HS.out],((n.trans j).trans (E5.of_below (a.mono (Nat.le_trans u P)))).trans l⟩
     case measure=>simp[intOf];omega
   .have o:CB nm=fF:=by rw[S.out];refine Bool.eq_false_iff.2 λh=>s ?_;have:=List.all_eq_true.1 h x (List.mem_of_getElem? p);simpa using this
    have B:=Lib.hid o;clear o;have ad: ¬((x:Int)<0):=oG;have ae:(999:Int)<(x:Int):=oG
    go_wp2
    all_goals go_ret2
    all_goals exact⟨(by rw[(A.out.2 B.out).1,(A.out.2 B.out).2];rfl),((Below.refl _ w).alloc (Nat.le_refl _) _).trans (n.below (B':=w.heap.size) oG (Nat.le_refl _))⟩
  .obtain rfl:k=lN nm:=oG;rw[List.take_length]at d f;have o:CB nm=tT:=by rw[S.out];exact List.all_eq_true.2 λx p=>by simpa using d x p
   have O:Dm nm≠[]:=by have:=(Z3 (a:=nm) d).2 (by intro e;rw[e]at E;simp at E);intro e;rw[e]at this;simp at this
   have B:=Lib.hid o;clear o
   go_wp2_with (go_at_call 132;refine(AIA _ _ _ O _ f).mono ?_;rintro e V ⟨rfl,a,ab⟩)
   go_ret2
   exact⟨(by rw[(A.out.1 B.out).1,(A.out.1 B.out).2];rfl),(((Below.refl _ w).alloc (Nat.le_refl _) _).trans (n.below (B':=w.heap.size) oG (Nat.le_refl _))).trans (a.mono oG)⟩
end
end
section
open Go.AX Lz
def YT{I}(a:Pow I){w}(b:EJ w I):Rh w/\5<=w.heap.size:=by refine⟨a.is b,?_⟩;let⟨e,c,h⟩:=a.tab;have:=(Ls.1<|b 4 _ h).1;omega
open Go.RowKit in
theorem AJR{F:FuncId}{fn:Func}{args:List SV}{k:Nat}{b:AK}{o:Obj}{av:Nat->Array Value}{r:SV}{v:Value}{I:AB}(hf:Tryz.prog.funcs[F]? =some fn)(hb:fn.body.isSome=true)(hnm:(fn.name== "runtime.NumGoroutine")=false)
 (hbo: ∀ρ,b.AO ρ=some o) (ha: ∀ρ,(BB ρ args).toArray=av (ρ k)) (hr: ∀ρ,AO ρ r=v) (hk:r.A3=[]) (h: ∀w q,EJ w I->w.heap[q]? =some o->Calls Tryz.prog F (av q) w λe w'=>e=.returned v/\Below w.heap.size w w'):Fn F args [(k,b)] I (BW r I) none:=by
 refine⟨FC.of (AOj hk).EA.out λρ key w hkey hN hI _ _=> ?_,AX.JL hf hb hnm⟩
 rw[ha ρ]
 refine(h w (ρ k) hI.1 (hN (k,b) List.mem_cons_self o (hbo ρ))).mono ?_
 rintro e w' ⟨rfl,hB⟩
 have hg:=AJe hB
 refine⟨{r:=r,J:=I},λ_=>0,rfl,⟨hg.os,hg.tape,hg.output,hg.size,λb hb _ _=>hg.block b hb,(λkb hkb=>by cases hkb),(λj b hj=>by simp at hj),(λi j hi=>by simp at hi),hg.Eo hI,λb o hb=>.inl hb,λb o hb=>IM hb⟩,?_⟩
 simp only[hr]
def ZV{nm AE}{k x:Nat}(h:nm[k]? =some x):(Ef nm++AE).toArray[k]? =some (.int .i64 (x:Int)):=by have hk:=(List.getElem?_eq_some_iff.1 h).1;rw[List.getElem?_toArray,List.getElem?_append_left (by rwa[WX]),Ef,List.getElem?_map,h];rfl
def Kx(a:Nm):AA AH:=if CB a then Dm a else[]
def AYD(I)(d:Pow I)(b c a):Fn 138 [.s 1 0 (lN b) c] [(1,.As (Ef b++a) 3)] I (BW (.t [.v<|vS<|AJ<|Kx b,.v<|vB<|CB b]) I) nO:=
 AJR func138 kR kR (λ_=>rfl) (λρ=>rfl) (λ_=>rfl) rfl λw q e g=>
  ALe q c b _ _ _ w g (λk x h=>ZV h) (YT d e).1 (YT d e).2 _ _ (by refine⟨λh=>⟨by rw[Kx];rw[Ac h],h⟩,λh=>⟨by rw[Kx];rw[h];rfl,h⟩⟩)
def AYC(I)(a:Pow I)(x c):Fn 138 [.s 1 0 1 c] [(1,.cells [.v<|iV x] 3)] I (BW (.t [.v<|vS<|AJ<|Kx [x],.v<|vB<|CB [x]]) I) nO:=
 AJR (o:=.cells (Ef [x]++[]).toArray 3 (0,0)) func138 kR kR (λ_=>rfl) (λρ=>rfl) (λ_=>rfl) rfl λw q b d=>
  ALe q c [x] _ _ _ w d (λk x h=>ZV h) (YT a b).1 (YT a b).2 _ _ (by refine⟨λh=>⟨by rw[Kx];rw[Ac h],h⟩,λh=>⟨by rw[Kx];rw[h];rfl,h⟩⟩)
variable{F:FuncId}{O:Func}{n:Nat}{I:AB}{w:World}{ρ:Nat->Nat}{A:List Nat}{R:Ec}{f:Bv}
def AEx(I)(b:Pow I)(x c):Fn 88 [.s 1 0 1 c] [(1,.cells [.v<|iV x] 3)] I (BW (.t [.v<|vS<|AJ<|Kx [x],.v<|vB<|CB [x]]) I) nO:=by refine Fn.same (need:=[(1,.cells [.v<|iV x] 3)]) ?_ rfl;exact fo func88 λρ d w a=>gG<|IG (AYC I b x c) [(1,1)]<|gG<|dn [] rfl
def AG9(I:AB)(l:AA AH):zP:=λa h=>h= {r:=.fn (.func 363) [] [.p (a+1) 0,.p a 0,.p (a+2) 0],nb:=[Sn l,Sk,zeroCell],J:=I}
def Ab1(I l):Fn 323 [.v<|vS<|AJ l,.v<|vS ⟨#[46]⟩,.v<|.int iK 0] [] I (AG9 I l) nO:=fo func323 λρ b w a=>gG<|dn [100,108,116] rfl
def Ab0(I l):Fn 248 [.v<|vS<|AJ l,.v<|vS ⟨#[46]⟩] [] I (AG9 I l) nO:=by refine fo func248 λρ b w a=>gG<|A0 (Ab1 I l) [] ?_;rintro _ rfl;exact gG<|dn [124,125,126] rfl
def AG8(I:AB)(c:Nm):zP:=λd h=>∃a b,lN c<=a/\a<=maxLen/\lN b=a-lN c/\h= {r:=.t [.s d 0 (lN c) a,.v tV],nb:=[.As (Ef c++b) 3],J:=I}
def Yf{c e g G}(h:Fn G c [] g (AG8 g e) nO)(d:FH f n G [] [] c g)(hnext:∀b a,lN e<=b->b<=maxLen->lN a=b-lN e->At F O n I w ρ A R (f.out (BA []) {r:=.t [.s (EL f) 0 (lN e) b,.v tV],nb:=[.As (Ef e++a) 3],J:=g})):At F O n I w ρ A R f:=
 A0 h [] (hobs:=d) λh l=>by obtain⟨b,a,i,j,k,rfl⟩:=l;exact hnext b a i j k
def AAY(I)(j:Pow I)(a)(d:CB a):Fn 160 [.v<|vS<|AJ<|Dm a] [] I (AG8 I a) nO:=by let⟨e,g,i⟩:=Z4 d;have m:=(Z3 e).2 g;refine fo func160 λρ l w h=> ?_;have k:=Fz<|Dm a;refine gg [(9,hF<|((AJ<|Dm a).size:Int)>95)]<|A0 (Ab0 I<|Dm a) [] ?_;rintro _ rfl;refine gG<|A0 (AbW I j a e g i) [(1,140),(2,148),(3,189),(4,188),(5,190)] ?_;rintro _ ⟨c,b,o,q1,q2,q3,rfl⟩;exact gG<|dn [204] ⟨c,b,q1,q2,q3,rfl⟩
def ALm(I)(g:Pow I)(b)(a:CB b):Fn 139 [.v<|vS<|AJ<|Dm b] [] I (BW (.v tV) I) nO:=fo func139 λρ h w c=>gG<|Yf (AAY I g b a) kR λe d i j k=>gG<|fi
def ARb(I)(h:Pow I)(a x)(e:CB a):Fn 388 [.v<|vS<|AJ<|Dm a,.v<|iV x] [] I (BW (.t [.v<|vS<|AJ<|Kx<|a++[x],.v<|vB<|CB<|a++[x]]) I) nO:=by let⟨p,q,r⟩:=Z4 e;refine fo func388 λρ o w i=>gG<|Yf (AAY I h a e) kR λg b k l m=>gG<|act (need:=[(124,.As (Ef a++b) 3),(204,.cells [.v<|iV x] 3)]) (Kk (I:=I) Be (n:=lN a) (m:=1) (cap:=g) (k:=124) (vs:=Ef a++b) (CQ:=Ef a) (news:=Ef [x]) (x:=.s 204 0 1 1) ACG kR DT (by rw[CK,WX,m];omega) (by rw[O5];rw[WX];omega) (WY _) (Ez (e:=3) (by simp[Ef]) rfl<|WY [x]) k l oG) (QP rfl) ?_;rintro s ⟨d,c,q1,q2,q3,rfl⟩;have j:=AYD I h (a++[x]) d c;rw[CK,show Ef (a++[x])=Ef a++Ef [x] by simp[Ef]]at j;exact gG<|IG j [(1,212)]<|gG<|fi
def Gu:Nm->Nm->Int
 |[],[]=>0
 |[],_::_=> -1
 |_::_,[]=>1
 |x::a,y::b=>if x<y then-1 else if y<x then 1 else Gu a b
def MS(x y:Nat):Int:=if x<y then-1 else if y<x then 1 else 0
def ALR(I)(x:Int):Fn 324 [.v<|nV x] [] I (BW (.v fV) I) nO:=fo func324 λc b w a=>gg [(5,EN x x rfl)]<|fi
def AR1(I)(x y:Nat):Fn 249 [.v<|iV x,.v<|iV y] [] I (BW (.v<|.int iK<|MS x y) I) nO:=by
 refine fo func249 λd c w b=>gG<|call (ALR I x)<|gG<|call (ALR I y) ?_;by_cases h:x<y;have e:MS x y= -1:=by rw[MS];rw[Ac h]
 rw[e];exact gg [(16,hT<|(x:Int)<y)]<|fi;by_cases a:y<x;have e:MS x y=1:=by rw[MS];rw[AY h,Ac a]
 rw[e];exact gg [(16,hF<|(x:Int)<y),(19,hT<|(x:Int)>y)]<|fi;have e:MS x y=0:=by rw[MS];rw[AY h,AY a]
 rw[e];exact gg [(16,hF<|(x:Int)<y),(19,hF<|(x:Int)>y)]<|fi
def Yx:IE 100 3 1:=⟨kR,by refine⟨(prog.info? 3).getD Al,?_,?_⟩<;>exact kR⟩
def AR0{a b:Nm}{i x y}(e:a[i]? =sM x)(f:b[i]? =sM y):Gu (a.drop i) (b.drop i)=if x<y then-1 else if y<x then 1 else Gu (a.drop<|i+1) (b.drop<|i+1):=by obtain⟨c,rfl⟩:=Ci.1 e;obtain⟨d,rfl⟩:=Ci.1 f;rw[Xp c,Xp d];rfl
def ASN(I:AB)(a c1 b2 c2 n m:Nat)(i:Nat):Hd where
 Cd:=[(0,.v<|.slice (aP a) n c1),(1,.v<|.slice (aP b2) m c2),(4,.v<|.int iK 0),(9,.v<|.slice (aP a) n c1),(10,.v<|iV n),(11,.v<|iV i)]
 Cc:=[]
 J:=I
def ASC(I)(a b:Nm)(l c1 n c2:Nat)(s t)(q:I l=sM (.cells (Ef a++s).toArray 3 (0,0)))(u:I n=sM (.cells (Ef b++t).toArray 3 (0,0)))(D:lN a<=1000):
 Fn 161 [.v<|.slice (aP l) (lN a) c1,.v<|.slice (aP n) (lN b) c2] [] I (BW (.v<|.int iK<|Gu a b) I) nO:=by
 refine fo func161 λE C w r=> ?_;refine gG<|loop (ι:=Nat) (λi=>i<=lN a/\i<=lN b/\Gu a b=Gu (a.drop i) (b.drop i)) (λi=>lN a-i) (ASN I l c1 n c2 (lN a)<|lN b) 300 [] 0 ⟨Bm _,Bm _,rfl⟩ ?_;rintro i ⟨v,z,k⟩ again T;by_cases g:i<lN a;have o:a[i]? =sM a[i]:=BS g;have f:((Ef a++s).toArray)[i]? =sM (iV<|a[i]):=ZV o;by_cases d:i<lN b;have p:b[i]? =sM b[i]:=BS d;have m:((Ef b++t).toArray)[i]? =sM (iV<|b[i]):=ZV p;have j:=AR0 o p;generalize a[i]=x at o f j;generalize b[i]=y at p m j;refine gg [(12,tH i<|lN a),(14,Br I Yx l 0 (lN a) c1 i g),(15,ED I Ek rfl (0+i*1) (iV x) q<|by simpa using f),(19,hF<|(i:Int)≥(lN b:Int)),(22,Br I Yx n 0 (lN b) c2 i d),(23,ED I Ek rfl (0+i*1) (iV y) u<|by simpa using m)]<|call (AR1 I x y) ?_;by_cases c:x<y;have e:MS x y= -1:=by rw[MS];rw[Ac c]
 rw[Ac c]at j;rw[k,j,e];exact gg [(28,Fs (-1) 0 dC)]<|fi;by_cases h:y<x;have e:MS x y=1:=by rw[MS];rw[AY c,Ac h]
 rw[AY c,Ac h]at j;rw[k,j,e];exact gg [(28,Fs 1 0 dC)]<|fi;have e:MS x y=0:=by rw[MS];rw[AY c,AY h]
 rw[AY c,AY h]at j;rw[e];exact gg [(28,EN 0 0 rfl),(30,sH i)]<|bk again [] (i+1) ⟨oG,oG,by rw[k,j]⟩;have B:i=lN b:=oG;have e:Gu (a.drop i) (b.drop i)=1:=by rw[Xp g,RN (l:=b) oG];rfl
 generalize a[i]=x at o f;rw[k,e];exact gg [(12,tH i<|lN a),(14,Br I Yx l 0 (lN a) c1 i g),(15,ED I Ek rfl (0+i*1) (iV x) q<|by simpa using f),(19,hT<|(i:Int)≥(lN b:Int))]<|fi;have A:i=lN a:=oG;by_cases d:lN a<lN b;have e:Gu (a.drop i) (b.drop i)= -1:=by rw[RN (l:=a) oG,Xp (l:=b) (i:=i) oG];rfl
 rw[k,e];exact gg [(12,fH i<|lN a),(35,tH (lN a)<|lN b)]<|fi;have e:Gu (a.drop i) (b.drop i)=0:=by rw[RN (l:=a) oG,RN (l:=b) oG];rfl
 rw[k,e];exact gg [(12,fH i<|lN a),(35,fH (lN a)<|lN b)]<|fi
def AL2(I)(l:Pow I)(a b)(m:CB a)(r:CB b):Fn 106 [.v<|vS<|AJ<|Dm a,.v<|vS<|AJ<|Dm b] [] I (He I (λ_:Unit=>.v<|.int iK<|Gu a b) λ_ _=>True) nO:=by refine fo func106 λA s w n=>gG<|Yf (AAY I l a m) kR λh e x y z=>gG<|Yf (AAY I l b r) kR λf c t u v=>go func106 [] 7 kR<|B4 116 I (vs:=Ef a++e) (e:=3) λp o g _ i=>B4 172 o (vs:=Ef b++c) (e:=3) λq k d _ j=>gG<|call (ASC k a b p h q f e c (d _ _ i) j (by have:=(Z4 m).2.2;omega)) ?_;exact gG<|dn [] ⟨(),k,rfl,g.trans d,trivial⟩
end
section
open Go.AX Go.RowKit Go.Shelf Lz
def Uw:∀t∈[42,44,51,63,114,118,154,261],prog.underlying t=sM (.struct<|prog.fieldsOf t)/\prog.stoodInHeld t=fF/\prog.eqGuardType prog.depth t=fF:=by intro t a;simp[mS]at a;rcases a with rfl|rfl|rfl|rfl|rfl|rfl|rfl|rfl<;>refine⟨?_,?_,?_⟩<;>exact kR
def str_inj{a b}:(AJ a).toList=(AJ b).toList↔a=b:=by rw[Jc,Jc]
def Pj{a b:Nat}:((a:Int)=(b:Int))↔a=b:=Int.ofNat_inj
variable{w:World}
def PR{p:Prop}[Decidable p]{q:Bool}{X:Result Bool}(h:X=.ok q w):(if p then X else .ok fF w)=.ok (decide p&&q) w:=by by_cases a:p;rw[Ac a,h];congr 1;simp[a];rw[AY a];congr 1;simp[a]
def ATW{p:Prop}[Decidable p]:(if p then Result.ok tT w else .ok fF w)=.ok (decide p) w:=by by_cases a:p;rw[Ac a];congr 1;simp[a];rw[AY a];congr 1;simp[a]
def QX{p:Prop}[Decidable p]{t}(a:t∈[42,44,51,63,114,118,154,261]){x y}{r:Bool}(h:(Op.eqFields (9996+3) x y (Tryz.prog.fieldsOf t).toList).run Tryz.prog w=.ok r w)(b:r↔p):(Op.equalIn 10000 t (.agg x)<|.agg y).run Tryz.prog w=.ok (decide p) w:=by rw[show(10000:Nat)=9996+3+1 from rfl,run_equalIn_agg w (9996+3) t _ _ (Uw t a).1 (Uw t a).2.1,h,show r=decide p by rw[Bool.eq_iff_iff,b,decide_eq_true_eq]]
def AKx{I t u a b i j}{r:Bool}(s:t∈[42,44,51,63,114,118,154,261])(h:∀(e:Nat->Nat) w,(Op.equalIn 10000 t (.agg (BB e i).toArray)<|.agg (BB e j).toArray).run prog w=.ok r w):
 ∀d g (o:Bw),o.op=.binOp .eql t (.tmp a) (.tmp b) u->(∀p∈[(a,SV.g i),(b,SV.g j)],g p.1=p.2)->LS prog o g d [] I (.v<|vB r) nO:=by
 intro d g o f c;have n:=Ds c (s:=a) (x:=.g i) sP;have q:=Ds c (s:=b) (x:=.g j) sP;intro e v w m _ _ _ _;refine⟨w,?_,Bl.refl w⟩;have k:=m (.tmp a) xO;have l:=m (.tmp b) xO;simp[ev,n,q,AO]at k l;simp[execOp,f,Sem.run_bind,k,l];rw[run_eqGuard_agg w .eql t _ _ _ _ (Uw t s).2.2];simp[Result.andThen_ok];rw[run_eql_struct w t _ _,h e w];rfl
def AK2{I t u a b i j}{r:Bool}(s:t∈[42,44,51,63,114,118,154,261])(h:∀(e:Nat->Nat) w,(Op.equalIn 10000 t (.agg (BB e i).toArray)<|.agg (BB e j).toArray).run prog w=.ok r w):
 ∀d g (o:Bw),o.op=.binOp .neq t (.tmp a) (.tmp b) u->(∀p∈[(a,SV.g i),(b,SV.g j)],g p.1=p.2)->LS prog o g d [] I (.v<|vB<|!r) nO:=by
 intro d g o f c;have n:=Ds c (s:=a) (x:=.g i) sP;have q:=Ds c (s:=b) (x:=.g j) sP;intro e v w m _ _ _ _;refine⟨w,?_,Bl.refl w⟩;have k:=m (.tmp a) xO;have l:=m (.tmp b) xO;simp[ev,n,q,AO]at k l;simp[execOp,f,Sem.run_bind,k,l];rw[run_eqGuard_agg w .neq t _ _ _ _ (Uw t s).2.2];simp[Result.andThen_ok];rw[run_neq_struct w t _ _,h e w];rfl
abbrev AOW(v:AW):Ae AF:=#[.int iK v.kind,.int iK v.n,vS<|Aa v.name,vS<|AJ v.l.1,vS<|AJ v.l.2]
def Qy{a b}(c:BV a)(d:BV b):(Aa a).toList=(Aa b).toList↔a=b:=
 ⟨λh=>Of c d<|str_inj.1 h,λh=>by rw[h]⟩
attribute [ext] AW
def eqV{a b:AW}(c:BV a.name)(d:BV b.name)(w):(Op.equalIn 10000 51 (.agg (AOW a)) (.agg (AOW b))).run prog w=.ok (decide (a=b)) w:=by
 apply QX dC
 .simp only[Program.fieldsOf,underlying51];go_simp;(repeat apply PR);rfl
 simp[Qy c d,Pj,str_inj,AW.ext_iff,OA]
def SF(I:AB)(x y:Nat)(a b:AW)(c:BV a.name)(d:BV b.name)(r:Bool)(e:decide (a=b)=r)(f:BN:=51):Hint:=
 .BZ (.binOp .eql 51 (.tmp x) (.tmp y) f) [(x,Do a),(y,Do b)] [] I (.v<|vB r)<|AKx dC λ_ w=>e▸eqV c d w
abbrev HG(l:AT):Ae AF:=#[vS<|AJ l.1,vS<|AJ l.2]
def eqL{a b}(w):(Op.equalIn 10000 42 (.agg (HG a)) (.agg (HG b))).run prog w=.ok (decide (a=b)) w:=by
 apply QX dC
 .simp only[Program.fieldsOf,underlying42];go_simp;(repeat apply PR);rfl
 simp[str_inj,OA]
end
section
open Go.AX Lz
def WV(v:AW):Prop:=(v=BH v.n\/v=D1 v.l\/(3<=v.kind/\v.kind<=7/\v.n=0/\CB v.name))/\B9 v.l
def AMu(n:Int):(BH n).right:=by simp[AW.right,BH]
def AMr(l):(D1 l).right=decide (A4 l=l):=by simp only[AW.right,D1,AZ];simp;exact decide_eq_decide.2 Iff.rfl
def Aaw{v:AW}(a:3<=v.kind)(b:v.kind<=7)(c:v.n=0)(d:CB v.name):v.right=decide (A4 v.l=v.l):=by rw[AW.right];rw[AY oG,AY oG,Ac ⟨a,b⟩,c,d];rfl
def AHl(a b:AT):(a==b)=decide (a=b):=by by_cases h:a=b;rw[h];simp;rw[Gp h];exact Nf.2 h
def Adx(I)(n:Int):Fn 126 [Do<|BH n] [] I (BW (.v tV) I) nO:=fo func126 λd c w b=>gg [(11,SF I 7 10 (BH n) (BH n) nA nA tT sP)]<|fi
def Adw(I l)(c:B9 l):Fn 126 [Do<|D1 l] [] I (BW (.v<|vB<|decide<|A4 l=l) I) nO:=by refine fo func126 λe d w b=>gg [(18,SF I 14 17 (D1 l) (D1 l) nA nA tT sP)] ?_;have h:=Zm I l c;rw[AHl]at h;exact call h<|gG<|fi
def Adv(I)(d:Pow I)(k a l)(i:3<=k)(j:k<=7)(c:CB a)(f:B9 l):Fn 126 [Do<|BZ k a l] [] I (BW (.v<|vB<|decide<|A4 l=l) I) nO:=by
 have h:=Zm I l f;rw[AHl]at h;refine fo func126 λm g w b=> ?_;have e:k=3\/k=4\/k=5\/k=6\/k=7:=oG;rcases e with rfl|rfl|rfl|rfl|rfl<;>
 (
  exact gG<|call (ALm I d a c)<|gG<|call h<|gG<|fi)
def AF4(I)(f:Pow I)(v:AW)(g:WV v):Fn 126 [Do v] [] I (BW (.v<|vB v.right) I) nO:=by
 let⟨h,e⟩:=g;rcases h with h|h|⟨b,c,a,d⟩
 .rw[h,AMu];exact Adx I v.n
 .rw[h,AMr];exact Adw I v.l e
 .rw[Aaw b c a d];have:v=BZ v.kind v.name v.l:=by let⟨k,n,i,l⟩:=v;simp only at a;subst a;rfl
  rw[this];exact Adv I f v.kind v.name v.l b c d e
def AU3(I)(b:Pow I)(v)(c:WV v):Fn 294 [Do v] [] I (BW (.v<|vB<|Qf v) I) nO:=by
 refine fo func294 λf d w a=> ?_;by_cases h:3<=v.kind;have e:Qf v=v.right:=by simp[Qf,h]
 rw[e];exact gg [(5,hT<|(v.kind:Int)≥3)]<|call (AF4 I b v c)<|gG<|fi;have e:Qf v=fF:=by simp[Qf,h]
 rw[e];exact gg [(5,hF<|(v.kind:Int)≥3)]<|fi
def AQx(x y:AW):(x==y)=decide (x=y):=by by_cases h:x=y;rw[h];simp;rw[Gp h];exact Nf.2 h
def Ks(I:AB)(i j b a n c k:Nat){arr:Ae AF}{e:BN}{d:Nat×Nat}(x:AW)(h:k<n)(g:I b=sM (.cells arr e d))(l:∀j v,(BG x)[j]? =sM v->arr[a+k*5+j]? =sM v):AA (Nat×Hint):=
 [(i,Br I Gx b a n c k h),(j,D8 I Oo (a+k*5) (BG x) rfl g l)]
structure Hb(I:AB)(im:A6)(m:CS)(f:Cw)(vs:AA AW):Prop where
 pow:Pow I
 cs:∃l,F3 I im.DN m.ia m.ic l
 cn:m.iN=lN im.DN
 fs:∃l,Av I (KU I) 3 im.Ax m.ja m.jc l
 fn:m.jn=lN im.Ax
 Gv:C0 I m.c m.p
 top:m.c.top=sM f
 tk:∃l,F3 I vs m.ta m.tc l
 tn:m.tn=lN vs
 wv:∀v∈vs,WV v
 sl:lN m.c.stack<=900000
 fl:lN m.c.AG<=900000
 tl:lN m.c.AP<=900000
 UY:Iq im f ⟨m.oc,m.oa⟩
 num:lN vs=CU im ⟨m.oc,m.oa⟩
 al:m.oc=17->lN vs<=1000
def ZD{l:AA AW}{i}(h:i<lN l):l[i]? =sM (l.getD i AZ):=by rw[BS h,DK,BS h];rfl
def WV.nm{v}(h:WV v):BV v.name:=by rcases h.1 with e|e|⟨_,_,_,e⟩;rw[e];intro x a;cases a;rw[e];intro x a;cases a;exact(Z4 e).1
variable{I:AB}{im:A6}{m:CS}{f:Cw}{vs:List AW}{r:Ay ⊕ Int}{x y:AW}
def Hb.at_(S:Hb I im m f vs)(i)(h:i<CU im ⟨m.oc,m.oa⟩):vs[i]? =sM (vs.getD i AZ)/\WV (vs.getD i AZ):=by
 have:=ZD<|S.num▸h
 exact⟨this,S.wv _<|De this⟩
def AEi(S:Hb I im m f vs)(l):Fn 290 [.p 1 0,DW l] [(1,m.B3)] I (JG I m<|.inl<|Df m.c<|D1 l) nO:=by have:=S.sl;exact fo func290 λd c w a=>gG<|IS (Nq I m (D1 l) oG S.Gv) λq J hle b=>gG<|dn [] ⟨q,J,rfl,hle,b⟩
def AZH{G}(S:Hb I im m f vs)(n:G=284\/G=285\/G=287)(l:vs[0]? =sM x)(h:x.kind=1->Fn G [Do x,.p 2 0] [(1,m.B3),JS] I (M3 I m r) nO)(o:x.kind≠1->r=.inr (-1)):
 Fn 283 [.p 1 0,.v<|.int iK 1,.fn (.func G) [] [.p 2 0]] [(1,m.B3),JS] I (M3 I m r) nO:=by
 have c:=(Ci.1 l).1;let⟨_,p⟩:=S.tk;obtain⟨m,b,a,arr,e,u,rfl,g,s⟩:=Sq m p S.tn c;have d:=s 0 x l;refine fo func283 λv t w k=> ?_;by_cases j:x.kind=1;rcases n with rfl|rfl|rfl<;>
 .exact gg ((12,ED I Ek rfl (a+0*5+0) (nV x.kind) g<|d 0 _ rfl)::(14,EN (x.kind:Int) 1)::(10,Br I Gx b a (lN vs) m.tc 0 c)::Ks I 22 23 b a (lN vs) m.tc 0 x c g d)<|Ye 2 (h j) kR λq J hle i=>gG<|dn [] ⟨q,J,rfl,hle,i⟩
 rw[o j];exact gg [(12,ED I Ek rfl (a+0*5+0) (nV x.kind) g<|d 0 _ rfl),(14,Fs (x.kind:Int) 1),(10,Br I Gx b a (lN vs) m.tc 0 c)]<|IS (R4 I (m.tk b a<|lN vs) (-1)) λq J hle i=>gG<|dn [] ⟨q,J,rfl,hle,i⟩
def AdX{G k}(S:Hb I im m f vs)(z:G=279\/G=289\/G=291\/G=293)(u:vs[0]? =sM x)(v:vs[1]? =sM y)(h:x.kind=k/\y.kind=k->Fn G [Do x,Do y,.p 2 0] [(1,m.B3),JS] I (M3 I m r) nO)(s: ¬(x.kind=k/\y.kind=k)->r=.inr (-1)):
 Fn 278 [.p 1 0,.v<|nV k,.fn (.func G) [] [.p 2 0]] [(1,m.B3),JS] I (M3 I m r) nO:=by
 have c:=(Ci.1 u).1;have g:=(Ci.1 v).1;let⟨_,A⟩:=S.tk;obtain⟨m,b,a,arr,e,C,rfl,d,t⟩:=Sq m A S.tn c;have j:=t 0 x u;have l:=t 1 y v;refine fo func278 λD B w o=> ?_;by_cases n:x.kind=k;by_cases p:y.kind=k;rcases z with rfl|rfl|rfl|rfl<;>
 .exact gg ((12,ED I Ek rfl (a+0*5+0) (nV x.kind) d<|j 0 _ rfl)::(14,EN (x.kind:Int) k)::(10,Br I Gx b a (lN vs) m.tc 0 c)::(22,ED I Ek rfl (a+1*5+0) (nV y.kind) d<|l 0 _ rfl)::(24,EN (y.kind:Int) k)::(20,Br I Gx b a (lN vs) m.tc 1 g)::Ks I 33 34 b a (lN vs) m.tc 0 x c d j++Ks I 39 40 b a (lN vs) m.tc 1 y g d l)<|Ye 2 (h ⟨n,p⟩) kR λq J hle i=>gG<|dn [] ⟨q,J,rfl,hle,i⟩
 rw[s λq=>p q.2];exact gg [(12,ED I Ek rfl (a+0*5+0) (nV x.kind) d<|j 0 _ rfl),(14,EN (x.kind:Int) k),(10,Br I Gx b a (lN vs) m.tc 0 c),(22,ED I Ek rfl (a+1*5+0) (nV y.kind) d<|l 0 _ rfl),(24,Fs (y.kind:Int) k),(20,Br I Gx b a (lN vs) m.tc 1 g)]<|IS (R4 I (m.tk b a<|lN vs) (-1)) λq J hle i=>gG<|dn [] ⟨q,J,rfl,hle,i⟩;rw[s λq=>n q.1];exact gg [(12,ED I Ek rfl (a+0*5+0) (nV x.kind) d<|j 0 _ rfl),(14,Fs (x.kind:Int) k),(10,Br I Gx b a (lN vs) m.tc 0 c)]<|IS (R4 I (m.tk b a<|lN vs) (-1)) λq J hle i=>gG<|dn [] ⟨q,J,rfl,hle,i⟩
def AY5(S:Hb I im m f vs)(h:7<=m.oc/\m.oc<=13):Fn 279 [Do x,Do y,.p 2 0] [(1,m.B3),JS] I (M3 I m (match HN m.oc x.n y.n with|some n=>.inl (Df m.c<|BH n)|none=>.inr (-2))) nO:=by
 have:=S.sl;have b:=AY4 I m.oc x.n y.n h.1 h.2;refine fo func279 λe d w c=>gG ?_;generalize HN m.oc x.n y.n=o at b⊢;refine call b ?_;cases o with
 |some n=>
  exact gG<|call (U9 I n)<|gG<|IS (Nq I m (BH n) oG S.Gv) λq J hle a=>gG<|dn [] ⟨q,J,rfl,hle,a⟩
 |none=>
  exact gG<|IS (R4 I m (-2)) λq J hle a=>gG<|dn [] ⟨q,J,rfl,hle,a⟩
def AKW{G l}(S:Hb I im m f vs)(d:B9 x.l)(e:B9 y.l)(h:G=289/\l=jn x.l y.l\/G=291/\l=mt x.l y.l):Fn G [Do x,Do y,.p 2 0] [(1,m.B3),JS] I (M3 I m<|.inl<|Df m.c<|D1 l) nO:=by
 rcases h with⟨rfl,rfl⟩|⟨rfl,rfl⟩;refine fo func289 λg c w a=> ?_
 rotate_left
 refine fo func291 λg c w a=> ?_
 rotate_left
 all_goals
  refine gG ?_
  first
  |refine call (AD8 I x.l y.l d e) ?_
   exact gG<|IS (AEi S<|jn x.l y.l) λq J hle b=>gG<|dn [] ⟨q,J,rfl,hle,b⟩
  |refine call (AYN I x.l y.l d e) ?_
   exact gG<|IS (AEi S<|mt x.l y.l) λq J hle b=>gG<|dn [] ⟨q,J,rfl,hle,b⟩
def AYv(S:Hb I im m f vs):Fn 284 [Do x,.p 2 0] [(1,m.B3),JS] I (M3 I m<|.inl<|Df m.c<|NV<|x.n==0) nO:=by have:=S.sl;exact fo func284 λd c w a=>gG<|call (AFs I<|x.n==0)<|gG<|IS (Nq I m (NV<|x.n==0) oG S.Gv) λq J hle b=>gG<|dn [] ⟨q,J,rfl,hle,b⟩
def AdB:Fn 287 [Do x,.p 2 0] [(1,m.B3),JS] I (M3 I m<|.inr x.n) nO:=fo func287 λd c w a=>gG<|IS (R4 I m x.n) λq J hle b=>gG<|dn [] ⟨q,J,rfl,hle,b⟩
def AOv(S:Hb I im m f vs)(b:x.n=0):Fn 285 [Do x,.p 2 0] [(1,m.B3),JS] I (M3 I m<|.inl m.c) nO:=fo func285 λd c w a=>gg [(5,EN x.n 0 b)]<|dn [] ⟨m.p,I,rfl,AB.le_refl _,Rt S.Gv⟩
def AUL(S:Hb I im m f vs)(c:B9 x.l)(d:B9 y.l):Fn 293 [Do x,Do y,.p 2 0] [(1,m.B3),JS] I (M3 I m<|.inl<|Df m.c<|NV<|fl x.l y.l) nO:=by have:=S.sl;exact fo func293 λg e w a=>gG<|call (NB I x.l y.l c d)<|gG<|call (AFs I<|fl x.l y.l)<|gG<|IS (Nq I m (NV<|fl x.l y.l) oG S.Gv) λq J hle b=>gG<|dn [] ⟨q,J,rfl,hle,b⟩
def AE0{F G}(S:Hb I im m f vs)(d:F=209/\G=284\/F=211/\G=285\/F=214/\G=287)(i:vs[0]? =sM x)(h:x.kind=1->Fn G [Do x,.p 2 0] [(1,m.B3),JS] I (M3 I m r) nO)(g:x.kind≠1->r=.inr (-1)):Fn F [.p 1 0] [(1,m.B3)] I (JG I m r) nO:=by
 rcases d with⟨rfl,rfl⟩|⟨rfl,rfl⟩|⟨rfl,rfl⟩;refine fo func209 λc b w a=> ?_
 rotate_left
 refine fo func211 λc b w a=> ?_
 rotate_left
 refine fo func214 λc b w a=> ?_
 rotate_left
 all_goals
  exact gG<|Ye 100 (AZH S (by simp) i h g) kR λq J hle e=>gG<|dn [] ⟨q,J,rfl,hle,e⟩
def W4{F G k}(S:Hb I im m f vs)(d:F=207/\G=279/\k=1\/F=217/\G=289/\k=2\/F=218/\G=291/\k=2\/F=219/\G=293/\k=2)(i:vs[0]? =sM x)(j:vs[1]? =sM y)(h:x.kind=k/\y.kind=k->Fn G [Do x,Do y,.p 2 0] [(1,m.B3),JS] I (M3 I m r) nO)(g: ¬(x.kind=k/\y.kind=k)->r=.inr (-1)):Fn F [.p 1 0] [(1,m.B3)] I (JG I m r) nO:=by
 rcases d with⟨rfl,rfl,rfl⟩|⟨rfl,rfl,rfl⟩|⟨rfl,rfl,rfl⟩|⟨rfl,rfl,rfl⟩;refine fo func207 λc b w a=> ?_
 rotate_left
 refine fo func217 λc b w a=> ?_
 rotate_left
 refine fo func218 λc b w a=> ?_
 rotate_left
 refine fo func219 λc b w a=> ?_
 rotate_left
 all_goals
  exact gG<|Ye 100 (AdX S (by simp) i j h g) kR λq J hle e=>gG<|dn [] ⟨q,J,rfl,hle,e⟩
def o1(S:Hb I im m f vs)(d:im.DN[m.oa]? =sM x):Fn 201 [.p 1 0] [(1,m.B3)] I (JG I m<|.inl<|Df m.c x) nO:=by have h:=(Ci.1 d).1;have j:=S.sl;let⟨_,k⟩:=S.cs;obtain⟨m,b,a,arr,e,o,rfl,g,l⟩:=ASE m k S.cn oG;refine fo func201 λp n w c=>gg (Ks I 13 14 b a (lN im.DN) m.ic m.oa x h g<|l m.oa x d)<|IS (Nq I (m.ks b a<|lN im.DN) x (by show lN m.c.stack<=_;have:lN m.c.stack<=_:=j;omega) S.Gv) λq J hle i=> ?_;exact gG<|dn [] ⟨q,J,rfl,hle,i⟩
def o2(S:Hb I im m f vs)(p:f.Ai[m.oa]? =sM x):Fn 202 [.p 1 0] [(1,m.B3)] I (JG I m<|.inl<|Df m.c x) nO:=by have F:=S.sl;have E:=S.fl;let⟨b,c,arr,e,D,G,B,g,o,u,k,i,a⟩:=ADf I m S.Gv S.top;rw[o];have v:=(Ci.1 p).1;obtain⟨s,d,l,C,t,rfl,h,j⟩:=Xc k oG;refine fo func202 λH A w n=>gG<|ACh (AFq I m b c i oG) rfl<|gg ((7,.op I _ _<|IZ NW rfl u<|a 4 _ rfl)::Ks I 13 14 s d (lN f.Ai) B m.oa x v h (j m.oa x p))<|IS (Nq I (m.TW b c) x (by show lN m.c.stack<=_;omega)<|by rw[<-o];exact S.Gv) λq J hle z=> ?_;exact gG<|dn [] ⟨q,J,rfl,hle,z⟩
def o47(S:Hb I im m f vs):Fn 222 [.p 1 0] [(1,m.B3)] I (JG I m<|.inl<|Df m.c<|BH f.AR.toNat) nO:=by have t:=S.sl;have s:=S.fl;let⟨b,c,arr,e,o,u,v,d,i,j,l,g,a⟩:=ADf I m S.Gv S.top;rw[i];have p:=f.AR.toNat_lt;refine fo func222 λz n w h=>gG<|ACh (AFq I m b c g oG) rfl<|gg [(7,.op I _ _<|IZ Sw rfl j<|a 3 _ rfl),(8,.eq _ _<|iw (n:=(f.AR.toNat:Int)) (m:=(f.AR.toNat:Int)) rfl oG)]<|call (U9 I f.AR.toNat)<|gG<|IS (Nq I (m.TW b c) (BH f.AR.toNat) (by show lN m.c.stack<=_;omega)<|by rw[<-i];exact S.Gv) λq J hle k=> ?_;exact gG<|dn [] ⟨q,J,rfl,hle,k⟩
def o4(S:Hb I im m f vs):Fn 204 [.p 1 0] [(1,m.B3)] I (JG I m<|.inl m.c) nO:=fo func204 λc b w a=>gG<|dn [] ⟨m.p,I,rfl,AB.le_refl _,Rt S.Gv⟩
def o56{F k}(S:Hb I im m f vs)(hF:F=205/\k=0\/F=206/\k=1)(t:vs[0]? =sM x)(u:vs[k]? =sM y):Fn F [.p 1 0] [(1,m.B3)] I (JG I m<|.inl<|Df (Df m.c y) x) nO:=by
 have n:=(Ci.1 t).1;have h:=(Ci.1 u).1;have o:=S.sl;let⟨_,C⟩:=S.tk;obtain⟨m,b,a,arr,e,G,rfl,l,s⟩:=Sq m C S.tn n;replace o:lN m.c.stack<=900000:=o;have z:=s 0 x t;have A:=s k y u;rcases hF with⟨rfl,rfl⟩|⟨rfl,rfl⟩;refine fo func205 λE j w d=> ?_
 rotate_left
 refine fo func206 λE j w d=> ?_
 rotate_left
 all_goals
  refine gg (Ks I 7 8 b a (lN vs) m.tc _ y h l A)<|IS (Nq I (m.tk b a<|lN vs) y (by show lN m.c.stack<=_;omega) S.Gv) λq J hle B=> ?_;refine gg (Ks J 15 16 b a (lN vs) m.tc 0 x n (hle b _ l) z)<|IS (Nq J ({m.tk b a (lN vs) with c:=Df m.c y,p:=q}:CS) x (by show(m.c.stack++[y]).length<=1000000;simp;omega)<|B _ rfl) λD v g i=> ?_;exact gG<|dn [] ⟨D,v,rfl,hle.trans g,i⟩
def o12(S:Hb I im m f vs)(j:vs[0]? =sM x)(k:vs[1]? =sM y)(s:WV x)(t:WV y):Fn 208 [.p 1 0] [(1,m.B3)] I (JG I m<|.inl<|Df m.c<|NV<|x==y) nO:=by have g:=(Ci.1 j).1;have c:=(Ci.1 k).1;have n:=S.sl;let⟨_,o⟩:=S.tk;obtain⟨m,b,a,arr,e,u,rfl,d,i⟩:=Sq m o S.tn g;refine fo func208 λv p w h=>gg ((15,SF I 8 14 x y s.nm t.nm (x==y) (AQx x y).symm)::Ks I 7 8 b a (lN vs) m.tc 0 x g d (i 0 x j)++Ks I 13 14 b a (lN vs) m.tc 1 y c d (i 1 y k))<|call (AFs I<|x==y)<|gG<|IS (Nq I (m.tk b a<|lN vs) (NV<|x==y) (by show lN m.c.stack<=_;have:lN m.c.stack<=900000:=n;omega) S.Gv) λq J hle l=> ?_;exact gG<|dn [] ⟨q,J,rfl,hle,l⟩
def o31(S:Hb I im m f vs)(o:vs[0]? =sM x)(u:WV x):Fn 220 [.p 1 0] [(1,m.B3)] I (JG I m<|if Qf x then .inl (Df m.c<|D1 x.l)else .inr (-1)) nO:=by
 have d:=(Ci.1 o).1;let⟨_,p⟩:=S.tk;obtain⟨m,b,a,arr,e,z,rfl,k,s⟩:=Sq m p S.tn d;have i:=s 0 x o;have l:=AU3 I S.pow x u;refine fo func220 λA t w n=>gg (Ks I 6 7 b a (lN vs) m.tc 0 x d k i) ?_;generalize Qf x=g at l⊢;refine call l ?_;cases g with
 |true=>
  refine gg [(17,Br I Gx b a (lN vs) m.tc 0 d),(19,D8 I Sf (a+0*5+3) [vS<|AJ x.l.1,vS<|AJ x.l.2] rfl k (λj v c=>by
   have:=i (3+j) v (by
    match j,c with
    |0,c=>exact c
    |1,c=>exact c)
   rw[<-Nb]at this;exact this))] ?_
  exact IS (AEi S x.l) λq J hle h=>gG<|dn [] ⟨q,J,rfl,hle,h⟩
 |false=>
  exact gG<|IS (R4 I (m.tk b a<|lN vs) (-1)) λq J hle h=>gG<|dn [] ⟨q,J,rfl,hle,h⟩
def o20(S:Hb I im m f vs):Fn 215 [.p 1 0] [(1,m.B3)] I (JG I m<|.inl {m.c with AP:=m.c.AP++[⟨lN m.c.AG,lN m.c.stack,m.oa⟩]}) nO:=by have s:=S.tl;have h:=S.Gv;refine fo func215 λt n w i=>gG<|call (AIO I m.p.ta (lN m.c.AP) m.p.tc h.t.cap)<|gG ?_;refine act (need:=[(324,.cells [.v<|nV<|lN m.c.AG,.v<|nV<|lN m.c.stack,.v<|nV m.oa] 118)]) (MM Be (n:=lN m.c.AP) (cap:=lN m.c.AP) (m:=1) (a:=m.p.ta) (l:=.v<|.slice m.p.ta (lN m.c.AP)<|lN m.c.AP) (x:=.s 324 0 1 1) (CQ:=m.p.tl) (news:=Ea ⟨lN m.c.AG,lN m.c.stack,m.oa⟩) ACJ kR rfl (h.t.sl.reads (c:=lN m.c.AP)) (Ez (A9.2 rfl) rfl (by intro v c;simp[Ea]at c;rcases c with rfl|rfl|rfl<;>rfl)) (Ag _) (Xv _) (λe=>by have:=h.t.sl;rw[e]at this;exact this.Wr) oG) M4 ?_;rintro o ⟨d,a,j,k,p,rfl⟩;refine gG<|B4 332 I (vs:=(m.p.tl++Ea ⟨lN m.c.AG,lN m.c.stack,m.oa⟩)++a) (e:=118) λb J hle _ l=>gG ?_;have g:(m.c.AP++[(⟨lN m.c.AG,lN m.c.stack,m.oa⟩:Fj)]).length=lN m.c.AP+1:=sP;refine dn [] ⟨{m.p with ta:=sM ⟨b,0,nO⟩,tc:=d,tl:=m.p.tl++Ea ⟨lN m.c.AG,lN m.c.stack,m.oa⟩},J,(by simp[CS.HW,CS.B3,CS.row,g];rfl),hle,Rt ⟨(h.up hle).f,(h.up hle).s,?_,by rwa[g],k,h.t.CE.append<|Rows.one rfl⟩⟩;rw[g];refine Dk.Og l (by simp[h.t.sl.len,Ea,Gm]) λv c=> ?_;rcases Bc.1 c with q|q;exact h.t.sl.one v q;simp[Ea]at q;rcases q with rfl|rfl|rfl<;>rfl
def o21(S:Hb I im m f vs):Fn 216 [.p 1 0] [(1,m.B3)] I (JG I m<|.inl<|if m.tr<lN m.c.AP then{m.c with AP:=m.c.AP.take<|lN m.c.AP-1}else m.c) nO:=by have k:=S.tl;have h:=S.Gv;have d:=h.t.cap;let⟨i,a,b⟩:=ZS;refine fo func216 λl j w e=> ?_;split;refine gg [(14,hT<|(lN m.c.AP:Int)>m.tr),(22,hW ((lN m.c.AP:Int)-1) ((lN m.c.AP-1:Nat):Int)),(23,.op I _ _<|Us (a:=m.p.ta) (n:=lN m.c.AP) (c:=m.p.tc) (m:=lN m.c.AP-1) Sv a oG)]<|call (AIO I m.p.ta (lN m.c.AP-1) m.p.tc oG)<|gG ?_;have g:=h.t.take Uy<|lN m.c.AP-1;have c:min (lN m.c.AP-1) (lN m.c.AP)=lN m.c.AP-1:=oG;rw[c]at g;exact dn [] ⟨{m.p with tc:=lN m.c.AP-1,tl:=_},I,(by simp[CS.HW,CS.B3,CS.row,Cu,c];rfl),AB.le_refl _,Rt ⟨h.f,h.s,g⟩⟩;exact gg [(14,hF<|(lN m.c.AP:Int)>m.tr)]<|dn [] ⟨m.p,I,rfl,AB.le_refl _,Rt h⟩
def o17{s}(S:Hb I im m f vs)(C:m.oc=17)(E:im.Ax[m.oa]? =sM s):Fn 212 [.p 1 0] [(1,m.B3)] I (JG I m (match Gc m.c m.oa s.Ai vs f.AR with|some u=>.inl u|none=>.inr (-6))) nO:=by let⟨_,ht⟩:=S.tk;let⟨_,F⟩:=S.fs;let⟨B,c,L,e2,Q,ca,cc,cl,R,T,g3,U,V⟩:=OR F E;let⟨b,a,arr,e,fr,va,vc,o,N,W,ab,H,i⟩:=ADf I m S.Gv S.top;have aa:=S.sl;have X:=S.fl;have D:=S.al C;have n:=S.Gv;have Z:=S.tn;have Y:=S.fn;let⟨ia,iN,ic,ja,jn,jc,was,wp,c0,⟨P,p,d,t,v,z,g,h,A⟩,oc,oa,ta,tn,tc,fr',tr,ok,ov,xc,xa,wrong,code⟩:=m;have G:P=sM ⟨b,a,nO⟩:=Dt (λm:CS=>m.p.fa) N;simp only at*;subst R Y Z G;let⟨O,j,k⟩:=ADz;refine fo func212 λρ ac w M=>gg [(24,.op I _ _<|Uo (b:=B) (off:=c) (n:=lN im.Ax) (c:=jc) (k:=oa) AFx j k U),(26,.op I _ _<|IZ Ek rfl T<|V 1 _ rfl)]<|ACh (AFq I (⟨ia,iN,ic,sM ⟨B,c,nO⟩,lN im.Ax,jc,was,wp,c0,⟨sM ⟨b,a,nO⟩,p,d,t,v,z,g,h,A⟩,oc,oa,ta,lN vs,tc,fr',tr,ok,ov,xc,xa,wrong,code⟩:CS) b a H<|by show lN c0.AG<=_;omega) rfl ?_;refine gg [(35,.op I _ _<|IZ Sw rfl W<|i 3 _ rfl)] ?_;rw[Gc];by_cases l:16<=lN c0.AG;rw[Ac l];exact call (AI3 I c0 ⟨sM ⟨b,a,nO⟩,p,d,t,v,z,g,h,A⟩ oa s.Ai ta (lN vs) tc f.AR oG)<|gG<|IS (R4 I (⟨ia,iN,ic,sM ⟨B,c,nO⟩,lN im.Ax,jc,was,wp,c0,⟨sM ⟨b,a,nO⟩,p,d,t,v,z,g,h,A⟩,oc,oa,ta,lN vs,tc,fr',tr,ok,ov,xc,xa,wrong,code⟩:CS) (-6)) λq J hle K=>gG<|dn [] ⟨q,J,rfl,hle,K⟩;rw[AY l];exact Cz (ATL I c0 ⟨sM ⟨b,a,nO⟩,p,d,t,v,z,g,h,A⟩ oa s.Ai vs ta tc _ f.AR n ht oG D oG) λq J hle K=>gG<|dn [] ⟨q,J,rfl,hle,Rt K⟩
def stepG(k:Nat):Nat:=200+[0,1,2,3,4,5,6,7,7,7,7,7,8,7,9,10,11,12,13,14,15,16,17,18,19,0,0,0,0,0,0,20,0,0,0,0,0,0,0,0,0,0,0,0,21,0,0,22].getD k 0
theorem Aj(S:Hb I im m f vs)(h:m.oc∈[1,2,4,5,6,7,8,9,10,11,12,13,14,16,17,19,20,21,22,23,24,31,47])(d:m.oc=16->¬((vs.getD 0 AZ).kind=1/\(vs.getD 0 AZ).n≠0)):Fn (stepG m.oc) [.p 1 0] [(1,m.B3)] I (JG I m<|HU im m.c ⟨m.oc,m.oa⟩ vs m.tr) nO:=by
 have j:=S.at_
 have c:=S.UY
 have i:=S.top
 have hN:=λx y=>AY5 (x:=x) (y:=y) S
 generalize e:m.oc=k at*
 have g:∀r,HU im m.c ⟨k,m.oa⟩ vs m.tr=r->Fn (stepG k) [.p 1 0] [(1,m.B3)] I (JG I m r) nO->Fn (stepG k) [.p 1 0] [(1,m.B3)] I (JG I m<|HU im m.c ⟨k,m.oa⟩ vs m.tr) nO:=λr e h=>e▸h
 simp only[List.mem_cons,List.not_mem_nil,_root_.or_false]at h
 rcases h with rfl|rfl|rfl|rfl|rfl|rfl|rfl|rfl|rfl|rfl|rfl|rfl|rfl|rfl|rfl|rfl|rfl|rfl|rfl|rfl|rfl|rfl|rfl<;>
  (try have a:=j 0<|of_decide_eq_true rfl)<;>(try have b:=j 1<|of_decide_eq_true rfl)
 ·exact o1 S (ZD<|of_decide_eq_true c)
 ·refine g _ ?_ (o2 S<|ZD<|of_decide_eq_true c)
  simp[HU,i]
 ·exact o4 S
 ·exact o56 S (.inl ⟨rfl,rfl⟩) a.1 a.1
 ·exact o56 S (.inr ⟨rfl,rfl⟩) a.1 b.1
 iterate 5 exact W4 S (.inl ⟨rfl,rfl,rfl⟩) a.1 b.1 (λh=>by simp only[HU,if_pos h];exact hN _ _ dC) λh=>if_neg h
 ·exact o12 S a.1 b.1 a.2 b.2
 ·exact W4 S (.inl ⟨rfl,rfl,rfl⟩) a.1 b.1 (λh=>by simp only[HU,if_pos h];exact hN _ _ dC) λh=>if_neg h
 ·exact AE0 S (.inl ⟨rfl,rfl⟩) a.1 (λh=>by simp only[HU,if_pos h];exact AYv S) λh=>if_neg h
 ·exact AE0 S (.inr<|.inl ⟨rfl,rfl⟩) a.1 (λh=>by have:=d rfl;simp only[HU,if_pos h,if_neg λq=>this ⟨h,q⟩];exact AOv S<|Decidable.not_not.1 λq=>this ⟨h,q⟩) λh=>if_neg h
 ·refine g _ ?_ (o17 S e<|List.getElem?_eq_getElem<|of_decide_eq_true c)
  simp only[HU,i,List.getD_eq_getElem?_getD,List.getElem?_eq_getElem (of_decide_eq_true c:m.oa<lN im.Ax)];rfl
 ·exact AE0 S (.inr<|.inr ⟨rfl,rfl⟩) a.1 (λh=>by simp only[HU,if_pos h];exact AdB) λh=>if_neg h
 ·exact o20 S
 ·exact o21 S
 ·exact W4 S (.inr<|.inl ⟨rfl,rfl,rfl⟩) a.1 b.1 (λh=>by simp only[HU,if_pos h];exact AKW S a.2.2 b.2.2<|.inl ⟨rfl,rfl⟩) λh=>if_neg h
 ·exact W4 S (.inr<|.inr<|.inl ⟨rfl,rfl,rfl⟩) a.1 b.1 (λh=>by simp only[HU,if_pos h];exact AKW S a.2.2 b.2.2<|.inr ⟨rfl,rfl⟩) λh=>if_neg h
 ·exact W4 S (.inr<|.inr<|.inr ⟨rfl,rfl,rfl⟩) a.1 b.1 (λh=>by simp only[HU,if_pos h];exact AUL S a.2.2 b.2.2) λh=>if_neg h
 ·exact o31 S a.1 a.2
 ·refine g _ ?_ (o47 S)
  simp[HU,i]
def Aap(c):lN (Ei c).AG<=lN c.AG/\lN (Ei c).stack<=lN c.stack:=by simp[Ei];omega
def CS.AAc(m:CS)(q:DL):CS:=if(Ei m.was).AG.length<=m.fr then{m with c:=Ei m.was,p:=q,ok:=1,ov:=(Ct m.was 1).getD 0 AZ,xc:=0,xa:=0}else{m with c:=Df (Ei m.was)<|(Ct m.was 1).getD 0 AZ,p:=q}
def AMp{m:CS}(h:lN (Ei m.was).AG<=m.fr):m.AAc=λq=>{m with c:=Ei m.was,p:=q,ok:=1,ov:=(Ct m.was 1).getD 0 AZ,xc:=0,xa:=0}:=funext λ_=>Ac h
def AMo{m:CS}(h: ¬lN (Ei m.was).AG<=m.fr):m.AAc=λq=>{m with c:=Df (Ei m.was)<|(Ct m.was 1).getD 0 AZ,p:=q}:=funext λ_=>AY h
def AZI(m:CS)(f)(o:m.was.top=sM f)(d:HQ m.was 1)(j:Kf m.was)(h:C0 I m.was m.wp):
 Fn 213 [.p 1 0] [(1,m.B3)] I (YE I m.AAc λJ q=>C0 J (m.AAc q).c q) nO:=by
 have v:=(Aap m.was).2;have s:=j.s;have k:=Aar I m.was m.wp f o d j h;by_cases l:lN (Ei m.was).AG<=m.fr;rw[AMp l];refine fo func213 λu i w a=> ?_;refine gG<|Cz k λq J hle e=> ?_;exact gg [(25,hT<|(lN (Ei m.was).AG:Int)<=m.fr)]<|dn [] ⟨q,J,rfl,hle,e⟩;rw[AMo l];refine fo func213 λu i w a=> ?_;refine gG<|Cz k λq J hle e=> ?_;refine gg [(25,hF<|(lN (Ei m.was).AG:Int)<=m.fr)]<|IS (Nq J {m with c:=Ei m.was,p:=q} ((Ct m.was 1).getD 0 AZ) (by show(Ei m.was).stack.length<=_;omega) e) λt n b g=> ?_;exact gG<|dn [] ⟨t,n,rfl,hle.trans b,g _ rfl⟩
def AZ5(I c p n f)(o:c.top=sM f)(i:HQ c n=fF)(z:lN c.stack<=1000000)(s:lN c.AG<=1000000)(h:C0 I c p):Fn 156 [.g<|Dx c p,.v<|iV n] [] I (BW (.t [.g<|Dx c p,.v zS,.v fV]) I) nO:=by
 let⟨b,d,arr,e,y,G,H,j,g,l,u,t,a⟩:=Tx h o;let⟨x,k,fl,A,B,C,D,E,F⟩:=p;simp only at g;subst g;have r:MN c=f.Cp:=by rw[MN];rw[o]
 simp[HQ,ABR,AGf]at i;rw[r]at i;refine fo func156 λJ v w q=> ?_;by_cases m:lN c.stack<f.Cp;refine gg [(13,hT<|(lN c.AG:Int)>0),(19,hW ((lN c.AG:Int)-1) ((lN c.AG-1:Nat):Int)),
  (20,Br I PO b d (lN c.AG) k<|lN c.AG-1),(22,ED I Ek rfl (d+(lN c.AG-1)*5+2) _ l<|a 2 _ rfl),(27,hF<|(n:Int)<0),(30,hF<|(f.Cp:Int)<0),(35,hT<|(f.Cp:Int)>lN c.stack)] ?_
 exact fi;refine gg [(13,hT<|(lN c.AG:Int)>0),(19,hW ((lN c.AG:Int)-1) ((lN c.AG-1:Nat):Int)),
  (20,Br I PO b d (lN c.AG) k<|lN c.AG-1),(22,ED I Ek rfl (d+(lN c.AG-1)*5+2) _ l<|a 2 _ rfl),(27,hF<|(n:Int)<0),(30,hF<|(f.Cp:Int)<0),(35,hF<|(f.Cp:Int)>lN c.stack),
  (40,hW ((lN c.stack:Int)-f.Cp) ((lN c.stack-f.Cp:Nat):Int)),(42,hT<|((lN c.stack-f.Cp:Nat):Int)<n)] ?_
 exact fi
def AN0(I)(g:EB I)(b p o)(l:FJ I b p)(n:IY o)(i:o.code=17->o.a<lN b.Ax)(m:∀f∈b.Ax,f.args<=1000000):Fn 200 [.g<|Fa b p,Po o] [] I (BW (.v<|.int iK<|CU b o) I) nO:=by
 let⟨j,_,_⟩:=SR n;by_cases h:o.code=17;have d:=i h;let⟨c,a⟩:=o;simp only at h d;subst h;have k:b.Ax[a]? =sM b.Ax[a]:=BS d;have:=Acn I g b p a b.Ax[a] l k<|m _<|DR d;have e:CU b ⟨17,a⟩=b.Ax[a].args:=by rw[CU];simp[List.getD,k,BP]
 rwa[e];exact Acm I g b p o l j.1 j.2 h
structure ABx(im:A6):Prop where
 right:∀f∈im.Ax,∀o∈f.code,IY o
 args:∀f∈im.Ax,f.args<=1000
 code:∀f∈im.Ax,lN f.code<=100000
abbrev APR(I:AB)(o:Lz.Op)(b:Bool):zP:=He I (λ_:Unit=>.t [Po o,.v<|vB b]) λ_ _=>True
def Kr(a:A6)(c:Ay):Lz.Op×Bool:=match JM a c with|some o=>(o,tT)|none=>(⟨0,0⟩,fF)
def AT9(I)(v:EB I)(d K c p)(H:FJ I d K)(P:ABx d)(Q:Kf c)(h:C0 I c p):Fn 149 [.g<|Fa d K,.g<|Dx c p] [] I (APR I (Kr d c).1 (Kr d c).2) nO:=by
 have l1:=Q.f;have l2:=Q.s;refine fo func149 λρ ae w R=> ?_;cases a:c.top with
 |none=>
  have e0:lN c.AG=0:=by have:c.AG.getLast?=nO:=a;rw[S8]at this;rw[this];rfl
  have e:Kr d c=(⟨0,0⟩,fF):=by rw[Kr,JM];rw[a]
  rw[e];exact gg [(15,hE (lN c.AG:Int) 0)]<|dn [] ⟨(),I,rfl,AB.le_refl _,trivial⟩
 |some f=>
  let⟨b,s,arr,e,fr,va,vc,D,z,G,ad,ac,x⟩:=Tx h a;let⟨fa,E,fl,V,W,X,Y,Z,tl⟩:=p;simp only at z;subst z;refine gg [(15,hN (lN c.AG:Int) 0),(22,hW ((lN c.AG:Int)-1) ((lN c.AG-1:Nat):Int)),(23,Br I PO b s (lN c.AG) E<|lN c.AG-1),(24,D8 I XJ (s+(lN c.AG-1)*5) _ rfl G x)]<|call (VA I f.fn<|lN d.Ax) ?_;by_cases m:f.fn<lN d.Ax;have g:d.Ax[f.fn]? =sM d.Ax[f.fn]:=BS m;have t:=DR m;generalize d.Ax[f.fn]=l at g t;let⟨C,i,M,e2,aa,ca,cc,cl,O,g2,g3,g4,g5⟩:=OR H.u g;let⟨S,T,U,ua,L,ul⟩:=K;simp only at O;subst O;rw[show decide (f.fn<lN d.Ax)=tT from G5 m];refine gg [(37,Br I M7 C i (lN d.Ax) L f.fn g4),(39,ED I AFw rfl (i+f.fn*3+2) _ g2<|g5 2 _ rfl)]<|call (VA I f.pc<|lN l.code) ?_;by_cases n:f.pc<lN l.code;have k:l.code[f.pc]? =sM l.code[f.pc]:=BS n;have A:=DR n;generalize l.code[f.pc]=o at k A;let⟨b3,u,N,e3,ab,af,q1,q2,q3,q4,q5⟩:=g3.cell AAM k;subst q1 q3;have y:=P.right l t o A;have B:=SR y;rw[show decide (f.pc<lN l.code)=tT from G5 n];refine gg [(50,Br I PN b3 u (lN l.code) cc f.pc q4),(51,D8 I XI (u+f.pc*2) (Cs o) rfl q2 q5)]<|call (XE I v o y)<|gG<|call (AZM I v d ⟨S,T,U,sM ⟨C,i,nO⟩,L,ul⟩ f va vc l o H g B.1.1 B.1.2) ?_;cases j:Iq d f o with
  |false=>
   have e:Kr d c=(⟨0,0⟩,fF):=by rw[Kr,JM];rw[a];simp only[g,k,y,j];simp
   rw[e];exact gG<|dn [] ⟨(),I,rfl,AB.le_refl _,trivial⟩
  |true=>
   have F:o.code=17->o.a<lN d.Ax:=λh=>by
    have:Cf o.code=4:=by rw[h];rfl
    rw[Iq]at j;rw[this]at j;simpa using j
   refine gG<|call (AN0 I v d ⟨S,T,U,sM ⟨C,i,nO⟩,L,ul⟩ o H y F λf hf=>by have:=P.args f hf;omega) ?_;refine gG ?_;cases r:HQ c (CU d o)with
   |false=>
    have e:Kr d c=(⟨0,0⟩,fF):=by rw[Kr,JM];rw[a];simp only[g,k,y,j,r];simp
    rw[e];exact call (AZ5 I c ⟨sM ⟨b,s,nO⟩,E,fl,V,W,X,Y,Z,tl⟩ (CU d o) f a r oG oG h)<|gG<|dn [] ⟨(),I,rfl,AB.le_refl _,trivial⟩
   |true=>
    have e:Kr d c=(o,tT):=by rw[Kr,JM];rw[a];simp only[g,k,y,j,r];simp
    rw[e];exact Cz (AAU I c ⟨sM ⟨b,s,nO⟩,E,fl,V,W,X,Y,Z,tl⟩ (CU d o) f a r oG oG h) λq J hle hq=>gG<|dn [] ⟨(),J,rfl,hle,trivial⟩
  have e:Kr d c=(⟨0,0⟩,fF):=by rw[Kr,JM];rw[a];simp only[g];rw[Jh oG]
  rw[e,show decide (f.pc<lN l.code)=fF from Gp n];exact gG<|dn [] ⟨(),I,rfl,AB.le_refl _,trivial⟩;have e:Kr d c=(⟨0,0⟩,fF):=by rw[Kr,JM];rw[a];simp only;rw[Jh oG]
  rw[e,show decide (f.fn<lN d.Ax)=fF from Gp m];exact gG<|dn [] ⟨(),I,rfl,AB.le_refl _,trivial⟩
def AcY:AA AF:=[.int iK 1,.int iK 2,.int iK 3,.int iK 4,.int iK 5,.int iK 6,.int iK 7,.int iK 8,.int iK 9,.int iK 10,.int iK 11,.int iK 12,.int iK 13,.int iK 14,.int iK 15,.int iK 16,.int iK 17,.int iK 18,.int iK 19,.int iK 20,.int iK 21,.int iK 22,.int iK 23,.int iK 24,.int iK 31,.int iK 44,.int iK 47]
def AcZ:AA SV:=[.fn (.func 201) [.p 1 0] [],.fn (.func 202) [.p 1 0] [],.fn (.func 203) [.p 1 0] [],.fn (.func 204) [.p 1 0] [],.fn (.func 205) [.p 1 0] [],.fn (.func 206) [.p 1 0] [],.fn (.func 207) [.p 1 0] [],.fn (.func 207) [.p 1 0] [],.fn (.func 207) [.p 1 0] [],.fn (.func 207) [.p 1 0] [],.fn (.func 207) [.p 1 0] [],.fn (.func 208) [.p 1 0] [],.fn (.func 207) [.p 1 0] [],.fn (.func 209) [.p 1 0] [],.fn (.func 210) [.p 1 0] [],.fn (.func 211) [.p 1 0] [],.fn (.func 212) [.p 1 0] [],.fn (.func 213) [.p 1 0] [],.fn (.func 214) [.p 1 0] [],.fn (.func 215) [.p 1 0] [],.fn (.func 216) [.p 1 0] [],.fn (.func 217) [.p 1 0] [],.fn (.func 218) [.p 1 0] [],.fn (.func 219) [.p 1 0] [],.fn (.func 220) [.p 1 0] [],.fn (.func 221) [.p 1 0] [],.fn (.func 222) [.p 1 0] []]
def APu(I:AB)(m:AK):zP:=λa h=>h= {r:=.m a,AV:=[(1,m)],nb:=[.Ey AcY AcZ],J:=I}
def Acd(I)(m:CS):Fn 151 [.p 1 0] [(1,m.B3)] I (APu I m.B3) nO:=fo func151 λρ b w a=>gG<|dn [108] rfl
variable{F:FuncId}{O:Func}{n:Nat}{w:World}{ρ:Nat->Nat}{A:List Nat}{R:Ec}{f:Bv}
structure O8(I:AB)(im:A6)(ip:Dw)(c:Ay)(p:DL):Prop where
 tab:EB I
 pow:Pow I
 img:FJ I im ip
 ok:ABx im
 len:Kf c
 Gv:C0 I c p
 As:∀v∈c.stack,WV v
 Ai:∀f∈c.AG,lN f.Ai<=1000000
abbrev Zp(d:A6)(b:Dw)(c:Ay)(p:DL)(e g k a:Nat):CS:=⟨b.ka,lN d.DN,b.kc,b.ua,lN d.Ax,b.uc,c,p,⟨[],[],[]⟩,⟨nO,0,[],nO,0,[],nO,0,[]⟩,k,a,nO,0,0,e,g,0,AZ,0,0,fF,0⟩
abbrev Zq(d:A6)(b:Dw)(c:Ay)(p:DL)(g m k a:Nat)(e:Ay)(h:DL)(i:AU Au)(l j:Nat):CS:=⟨b.ka,lN d.DN,b.kc,b.ua,lN d.Ax,b.uc,c,p,e,h,k,a,i,l,j,g,m,0,AZ,0,0,fF,0⟩
structure QG(im:A6)(c:Ay)(o:Lz.Op)(f:Cw)(O:Lz.Ev):Prop where
 top:c.top=sM f
 F4:im.Ax[f.fn]? =sM O
 op:O.code[f.pc]? =sM o
 right:IY o
 UY:Iq im f o
 pop:HQ c (CU im o)
def AUA{d c o}(h:JM d c=sM o):∃f O,QG d c o f O:=by rw[JM]at h;split at h;cases h;rename_i f e;split at h;cases h;rename_i O b;split at h;cases h;rename_i i g;split at h;rename_i a;cases h;simp[CJ]at a;exact⟨f,O,e,b,g,a.1.1,a.1.2,a.2⟩;cases h
def QG.Ub{a c o f O}(h:QG a c o f O):CU a o=(Ct c<|CU a o).length:=by have:=h.pop;simp[HQ,Bool.and_eq_true,decide_eq_true_eq]at this;rw[N1 oG]
def QG.at_{a c o f O}(h:QG a c o f O){i}(b:i<CU a o):(Ct c<|CU a o)[i]? =sM ((Ct c<|CU a o).getD i AZ):=ZD (by rwa[<-h.Ub])
def O8.up{I J a b c p}(S:O8 I a b c p)(hle:I.le J):O8 J a b c p:=⟨S.tab.up hle,S.pow.up hle,S.img.up hle,S.ok,S.len,S.Gv.up hle,S.As,S.Ai⟩
def ACR{I b e c p}(S:O8 I b e c p){k a f O}(h:QG b c ⟨k,a⟩ f O)(g i):Fn 152 [.p 1 0] [(1,(Zp b e c p g i k a).B3)] I (X9 I (Zp b e c p g i k a) (Fl b c ⟨k,a⟩) (CU b ⟨k,a⟩)<|Ct c<|CU b ⟨k,a⟩) nO:=by have hlen:=S.ok.code O<|De h.F4;have l:=(Ci.1 h.op).1;refine AQr I S.tab b e (Zp b e c p g i k a) f ⟨k,a⟩ S.img rfl rfl rfl rfl rfl rfl rfl rfl h.top oG (AN0 I S.tab b e ⟨k,a⟩ S.img h.right ?_ λf j=>by have:=S.ok.args f j;omega) h.pop S.len S.Gv;intro d;have d:k=17:=d;have:=h.UY;subst d;simpa[Iq,Cf]using this
def ACe{e m c tn i}(k)(h:Fn 152 [.p 1 0] [(1,m.B3)] e (X9 e m c tn i) nO)(d:FH f n 152 [(1,k)] [(1,m.B3)] [.p 1 0] e)
 (hnext:∀(J:AB)(q:DL)(ta:Option Addr)(tc:Nat)(g:List Value)(b:Nat)(fl a:List Value),e.le J->Av J F9 5 c.stack q.sa q.sc q.sl->Av J Oy 3 c.AP q.ta q.tc q.tl->GY J c b fl a->F3 J i ta tc g->
   At F O n I w ρ A R (f.out (BA [(1,k)]) {r:=.t [],AV:=[(1,({m with c:=c,p:=q,ta:=ta,tn:=tn,tc:=tc}:CS).NM (EL f) b)],nb:=[.As (fl++a) 65],J:=J})):At F O n I w ρ A R f:=
 A0 h [(1,k)] (hobs:=d) λh u=>by obtain⟨J,q,ta,tc,g,b,fl,a,j,l,o,s,t,rfl⟩:=u;exact hnext J q ta tc g b fl a j l o s t
def ACi{d:Type}{a:AA SV}{c:AB}{G:Ba}{m:AK}{S:d->CS}{Q:AB->d->Prop}(k:Nat)(h:Fn G a [(1,m)] c (YE c S Q) nO)(b:FH f n G [(1,k)] [(1,m)] a c)(hnext:∀x J,c.le J->Q J x->At F O n I w ρ A R (f.out (BA [(1,k)]) {r:=.t [],AV:=[(1,(S x).B3)],J:=J})):At F O n I w ρ A R f:=
 A0 h [(1,k)] (hobs:=b) λh e=>by obtain⟨x,J,rfl,hle,q⟩:=e;exact hnext x J hle q
def begun{J K:AB}{c:Ay}{q:DL}{d b fl a}(e:Av J F9 5 c.stack q.sa q.sc q.sl)(g:Av J Oy 3 c.AP q.ta q.tc q.tl)(i:GY J c d fl a)(hle:J.le K)(j:K b=sM (.cells (fl++a).toArray 65 (0,0))):C0 K c {q with fa:=sM ⟨b,0,nO⟩,fc:=d,fl:=fl}:=
 ⟨(i.up hle).B4 j,e.up hle λ_ _ h=>h,g.up hle λ_ _ h=>h⟩
def AHi(a c o):lN (Fl a c o).stack<=lN c.stack/\lN (Fl a c o).AG=lN c.AG/\lN (Fl a c o).AP=lN c.AP:=by simp[Fl,D4,FR]
def AHj{im c f}(h:c.top=sM f){o}:(Fl im c o).top=sM {f with pc:=f.pc+1}:=by show(c.AG.modify (lN c.AG-1) _).getLast?=_;rw[P8,N8,RP,SD (l:=c.AG) (x:=f) h];simp
abbrev AP2(I:AB)(im:A6)(i:Dw)(c:Ay)(p:DL)(a b:Nat)(r:Ay×Lz.Out):Prop:=Fn 102 [.g<|Fa im i,.g<|Dx c p,.v<|nV a,.v<|nV b] [] I (YH I r) nO
variable{i:Dw}{c:Ay}{p:DL}
def O8.Aj{k a f n q l m r}(S:O8 I im i c p)(hF:QG im c ⟨k,a⟩ f n)(b:C0 I (Fl im c ⟨k,a⟩) q)(j:F3 I (Ct c<|CU im ⟨k,a⟩) l m r)(o s):Hb I im (Zq im i c p o s k a (Fl im c ⟨k,a⟩) q l (CU im ⟨k,a⟩) m) {f with pc:=f.pc+1} (Ct c<|CU im ⟨k,a⟩):=by have g:=AHi im c ⟨k,a⟩;have e:=S.len;refine⟨S.pow,⟨_,S.img.k⟩,rfl,⟨_,S.img.u⟩,rfl,b,AHj hF.top,⟨_,j⟩,hF.Ub,λv h=>S.As v<|Mx h,Ch g.1 e.s,g.2.1▸e.f,g.2.2▸e.t,hF.UY,hF.Ub.symm,λh=> ?_⟩;have h:k=17:=h;subst h;have d:a<lN im.Ax:=LO hF.UY;have h:=S.ok.args _<|DR d;rw[<-hF.Ub];show 0+(im.Ax.getD a Al).args<=1000;rw[DK,BS d];show 0+im.Ax[a].args<=1000;omega
def AZX{k a f x q m n d o fl b}(S:O8 I im i c p)(hF:QG im c ⟨k,a⟩ f x)(l:F3 I (Ct c<|CU im ⟨k,a⟩) m n o)(e:GY I (Fl im c ⟨k,a⟩) d fl b)(s r)
 (h:k=3\/k=15\/k=44\/k=16/\((Ct c<|CU im ⟨k,a⟩).getD 0 AZ).kind=1/\((Ct c<|CU im ⟨k,a⟩).getD 0 AZ).n≠0):
 ∃t,HU im (Fl im c ⟨k,a⟩) ⟨k,a⟩ (Ct c<|CU im ⟨k,a⟩) r=.inl (D4 (Fl im c ⟨k,a⟩) t)/\Fn (stepG k) [.p 1 0] (Pk (Zq im i c p s r k a (Fl im c ⟨k,a⟩) q m (CU im ⟨k,a⟩) n) d<|fl++b) I (Re I (Zq im i c p s r k a (Fl im c ⟨k,a⟩) q m (CU im ⟨k,a⟩) n) d<|D4 (Fl im c ⟨k,a⟩) t) nO:=by
 have z:=AHi im c ⟨k,a⟩;have g:=AHj (im:=im) hF.top (o:=⟨k,a⟩);have j:lN (Fl im c ⟨k,a⟩).AG<=1000000:=by have:=S.len.f;omega
 have w:=λh=>hF.at_ (i:=0) h;rcases h with rfl|rfl|rfl|⟨rfl,u,v⟩;exact⟨_,rfl,AcM I _ d fl b {f with pc:=f.pc+1} _ o _ l hF.Ub (w<|LO rfl) g (LO hF.UY) (S.Ai f<|ABj hF.top) e j⟩;exact⟨_,rfl,AJ7 I _ d fl b {f with pc:=f.pc+1} g e j⟩;exact⟨_,rfl,AXQ I _ d fl b {f with pc:=f.pc+1} g e j (by have:a<=65535:=(SR hF.right).2.2 (by show Cf 44≠0;decide);show a<=_;omega)⟩;exact⟨_,(Ac u).trans<|Ac v,AWK I _ d fl b {f with pc:=f.pc+1} _ o _ l hF.Ub (w<|LO rfl) u v g e j⟩
def AcG(S:O8 I im i c p)(m tr):AP2 I im i c p m tr (Es im c m tr):=by
 have H:=AT9 I S.tab im i c p S.img S.ok S.len S.Gv;rw[Kr]at H;refine fo func102 λρ x w ab=>gG ?_;cases l:JM im c with
 |none=>
  rw[l]at H;rw[show Es im c m tr=(c,.failed<|BH (-6)) by rw[Es];rw[l]];exact Cz H λ_ J hle _=>gG<|call (U9 J (-6))<|gG<|dn [] ⟨p,J,rfl,hle,S.Gv.up hle⟩
 |some o=>
  rw[l]at H;let⟨f,fn,hF⟩:=AUA l;have W:=(SR hF.right).1;let⟨k,a⟩:=o;obtain⟨r,F⟩:∃r,r=HU im (Fl im c ⟨k,a⟩) ⟨k,a⟩ (Ct c<|CU im ⟨k,a⟩) tr:=⟨_,rfl⟩;rw[show Es im c m tr=if asks k then(c,.asked ⟨k,a⟩)else if k=18 then(if(Ei c).AG.length<=m then(Ei c,.ended<|(Ct c 1).getD 0 AZ)else(Df (Ei c)<|(Ct c 1).getD 0 AZ,.Iu))else match r with| .inl u=>(u,.Iu)| .inr e=>FF c e tr by rw[Es];rw[l,F];rfl];simp only at W;refine Cz H λ_ J hle _=> ?_;replace S:=S.up hle;refine gg [(29,OU J #[3,3] m 0 m oG),(31,OU J #[3,3] tr 0 tr oG)]<|A0 (Acd J<|Zp im i c p m tr k a) [(1,284)] ?_;rintro _ rfl;cases Y:asks k with
  |true=>
   rw[Ac rfl];have hk:k=25\/k=26\/k=27\/k=28\/k=29\/k=30\/k=32\/k=33\/k=34\/k=35\/k=36\/k=37\/k=38\/k=39\/k=40\/k=41\/k=42\/k=43\/k=45\/k=46:=by simpa[asks]using Y
   rcases hk with rfl|rfl|rfl|rfl|rfl|rfl|rfl|rfl|rfl|rfl|rfl|rfl|rfl|rfl|rfl|rfl|rfl|rfl|rfl|rfl<;>
   .exact gG<|dn [] ⟨p,J,rfl,hle,S.Gv⟩
  |false=>
   rw[AY AGH];by_cases y:k=18;rw[Ac y];subst y;refine gG<|ACe 284 (ACR S hF m tr) kR λO q ta tc tl D fl n g R T A B=>go func102 [] 1 kR<|B4 404 O (vs:=fl++n) (e:=65) λb K d _ P=>gG ?_;have x:=AZI (I:=K) (Zq im i c p m tr 18 a (Fl im c ⟨18,a⟩) {q with fa:=sM ⟨b,0,nO⟩,fc:=D,fl:=fl} ta (CU im ⟨18,a⟩) tc) f hF.top hF.pop S.len<|S.Gv.up<|g.trans d;by_cases Q:lN (Ei c).AG<=m;rw[Ac Q];rw[AMp Q]at x;exact ACi 284 x kR λq3 C j s=>gG<|dn [] ⟨q3,C,rfl,hle.trans<|g.trans<|d.trans j,s⟩;rw[AY Q];rw[AMo Q]at x;exact ACi 284 x kR λq3 C j s=>gG<|dn [] ⟨q3,C,rfl,hle.trans<|g.trans<|d.trans j,s⟩;rw[AY y];by_cases E:k=3\/k=15\/k=44\/k=16/\((Ct c<|CU im ⟨k,a⟩).getD 0 AZ).kind=1/\((Ct c<|CU im ⟨k,a⟩).getD 0 AZ).n≠0;have Z:=E;rcases E with rfl|rfl|rfl|⟨rfl,_⟩<;>
   .refine gG<|ACe 284 (ACR S hF m tr) kR λO q ta tc tl D fl n g R T A B=> ?_;let⟨t,e',hk⟩:=AZX (q:=q) (S.up g) hF B A m tr Z;rw[<-F]at e';cases e';refine gG<|A0 hk [(1,284),(2,404)] ?_;rintro _ ⟨C,U,G,j,X,rfl⟩;refine go func102 [] 1 kR<|B4 404 C (vs:=U++G) (e:=65) λb K d _ P=> ?_;have L:=begun (c:=D4 (Fl im c _) t) (R.up j λ_ _ h=>h) (T.up j λ_ _ h=>h) X d P;exact gG<|dn [] ⟨_,K,rfl,hle.trans<|g.trans<|j.trans d,L⟩
   have h3:k≠3/\k≠15/\k≠44:=⟨λh=>E<|.inl h,λh=>E<|.inr<|.inl h,λh=>E<|.inr<|.inr<|.inl h⟩;have hm:k∈[1,2,4,5,6,7,8,9,10,11,12,13,14,16,17,19,20,21,22,23,24,31,47]:=by have:=EQ.1 (show(List.range 48).all (λk=>k==0||asks k||[3,15,18,44].contains k||[1,2,4,5,6,7,8,9,10,11,12,13,14,16,17,19,20,21,22,23,24,31,47].contains k)=tT from dC) k<|O4.2 oG;simp[Y]at this⊢;omega
   have V:k=16->¬(((Ct c<|CU im ⟨k,a⟩).getD 0 AZ).kind=1/\((Ct c<|CU im ⟨k,a⟩).getD 0 AZ).n≠0):=λh q=>E<|.inr<|.inr<|.inr ⟨h,q⟩;have N:=hm;simp[mS]at N;rcases N with rfl|rfl|rfl|rfl|rfl|rfl|rfl|rfl|rfl|rfl|rfl|rfl|rfl|rfl|rfl|rfl|rfl|rfl|rfl|rfl|rfl|rfl|rfl<;>
   .refine gG<|ACe 284 (ACR S hF m tr) kR λO q ta tc tl D fl n g R T A B=>go func102 [] 1 kR<|B4 404 O (vs:=fl++n) (e:=65) λb K d _ P=> ?_;have hk:=Aj ((S.up<|g.trans d).Aj hF (begun R T A d P) (B.up d λ_ _ h=>h) m tr) hm V;replace hk:=F▸hk;refine gG<|ACi 284 hk kR λq3 C j s=> ?_;cases r with
    |inl u=>
     exact gG<|dn [] ⟨q3,C,rfl,hle.trans<|g.trans<|d.trans j,s _ rfl⟩
    |inr e=>
     have F:=AMX C c p e tr S.len<|S.Gv.up<|g.trans<|d.trans j;show At _ _ _ _ _ _ _ (Ends _ _ _ _ _ (YH I<|FF c e tr) nO) _;refine gG ?_;generalize FF c e tr=z at F⊢;refine Cz F λq4 J4 M aa=> ?_;obtain⟨u,_|v|v|o⟩:=z<;>
     .exact gG<|dn [] ⟨q4,J4,rfl,hle.trans<|g.trans<|d.trans<|j.trans M,aa⟩
def H9(w:Wt):AA AF:=[vS<|Aa w.id,vB w.put,.int iK w.v.kind,.int iK w.v.n,vS<|Aa w.v.name,vS<|AJ w.v.l.1,vS<|AJ w.v.l.2]
def wtS(w:Wt):SV:=.g<|(H9 w).map .v
def S3(w:Wt)(l:AA AF):Prop:=l=H9 w
def Mt(w l)(h:S3 w l):lN l=7:=by rw[h];rfl
def Wx{c l}(h:Rows S3 c l):∀v∈l,v.oneCell':=by rw[Rows.flat.1 h];intro v b;let⟨x,_,a⟩:=LJ.1 b;simp[H9]at a;rcases a with rfl|rfl|rfl|rfl|rfl|rfl|rfl<;>rfl
abbrev Nj(I:AB)(d:AA Wt)(a:AU Au)(c:Nat)(b:AA AF):Prop:=Av I S3 7 d a c b
def AaG(I x):Fn 355 [wtS x] [] I (BW (.v<|vB x.put) I) nO:=fo func355 λc b w a=>gG<|fi
def Acj(I x):Fn 356 [wtS x] [] I (BW (.v<|vB<|!x.put) I) nO:=fo func356 λc b w a=>gG<|fi
abbrev WS(n:Nm):AK:=.cells [.v<|sV n] 9
def TY{a b}(c:BV a)(d:BV b):((AJ<|Dm a).toList==(AJ<|Dm b).toList)=(a==b):=by rw[Jc,Jc];by_cases h:a=b;rw[h];simp;rw[Nf.2 λe=>h<|Of c d e,Nf.2 h]
def AVG(I x n)(c:BV x.id)(b:BV n):Fn 194 [wtS x,.p 2 0] [(2,WS n)] I (BW (.v<|vB<|x.id==n) I) nO:=by refine Fn.same (need:=[(2,WS n)]) ?_ rfl;exact fo func194 λe d w a=>gg [(7,.eq _ _<|Dt Value.bool<|TY c b)]<|dn [] rfl
def ixI:AU Nat->Int
 |none=> -1
 |some i=>i
def ADP{P}{l:AA Wt}{i x}(e:l[i]? =sM x)(d:P x)(b:∀(j:Nat)(y:Wt),j<i->l[j]? =sM y->P y=fF):l.findIdx? P=sM i:=by rw[Lv];obtain⟨a,rfl⟩:=Ci.1 e;exact⟨a,d,λj c=>by rw[b j _ c<|BS oG];decide⟩
def ADQ{P}{l:AA Wt}(a:∀(j:Nat)(y:Wt),l[j]? =sM y->P y=fF):l.findIdx? P=nO:=by rw[ABc];intro x c;let⟨j,b⟩:=ABd c;exact a j x b
def AT4(I:AB)(a:SV)(m:Nat)(i:Nat):Hd where
 Cd:=[(1,.v<|.func (.func 355) #[] #[]),(4,.v<|.int iK 0),(7,a),(8,.v<|iV m),(9,.v<|iV i)]
 Cc:=[]
 J:=I
def AT7(I)(d:AA Wt)(a)(c:Nat)(f)(h:Nj I d a c f)(v:lN d<=1000000):Fn 193 [.v<|.slice a (lN d) c,.v<|.func (.func 355) #[] #[]] [] I (BW (.v<|.int iK<|ixI<|d.findIdx? λw=>w.put) I) nO:=by
 refine fo func193 λz r w q=> ?_;refine gG<|loop (ι:=Nat) (λi=>i<=lN d/\∀(j:Nat)(y:Wt),j<i->d[j]? =sM y->(λw=>w.put) y=fF) (λi=>lN d-i) (AT4 I (.v<|.slice a (lN d) c)<|lN d) 300 [] 0 ⟨Bm _,λj y p=>absurd p oG⟩ ?_;rintro i ⟨u,o⟩ again T;by_cases k:i<lN d;have n:d[i]? =sM d[i]:=BS k;generalize d[i]=x at n;obtain⟨b,l,arr,e,t,s,rfl,q2,q3,q4,q5⟩:=h.cell Mt n;subst q3;refine gg [(10,tH i<|lN d),(12,Br I R0 b l (lN d) c i k),(13,D8 I AAi (l+i*7) (H9 x) rfl q2 q5)]<|call (AaG I x) ?_;cases m:(λw=>w.put) x with
 |true=>
  rw[ADP n m o];rw[show(x.put)=tT from m];exact gG<|fi
 |false=>
  rw[show(x.put)=fF from m];exact gg [(18,sH i)]<|bk again [] (i+1) ⟨oG,λj y p g=>by by_cases e:j=i;subst e;rw[n]at g;cases g;exact m;exact o j y oG g⟩
 rw[ADQ (P:=λw=>w.put) λj y g=>o j y (by have:=(Ci.1 g).1;omega) g];exact gg [(10,fH i<|lN d)]<|fi
def AUB(I:AB)(a:SV)(m:Nat)(i:Nat):Hd where
 Cd:=[(1,.v<|.func (.func 356) #[] #[]),(4,.v<|.int iK 0),(7,a),(8,.v<|iV m),(9,.v<|iV i)]
 Cc:=[]
 J:=I
def AT8(I)(d:AA Wt)(a)(c:Nat)(f)(h:Nj I d a c f)(v:lN d<=1000000):Fn 193 [.v<|.slice a (lN d) c,.v<|.func (.func 356) #[] #[]] [] I (BW (.v<|.int iK<|ixI<|d.findIdx? λw=> !w.put) I) nO:=by
 refine fo func193 λz r w q=> ?_;refine gG<|loop (ι:=Nat) (λi=>i<=lN d/\∀(j:Nat)(y:Wt),j<i->d[j]? =sM y->(λw=> !w.put) y=fF) (λi=>lN d-i) (AUB I (.v<|.slice a (lN d) c)<|lN d) 300 [] 0 ⟨Bm _,λj y p=>absurd p oG⟩ ?_;rintro i ⟨u,o⟩ again T;by_cases k:i<lN d;have n:d[i]? =sM d[i]:=BS k;generalize d[i]=x at n;obtain⟨b,l,arr,e,t,s,rfl,q2,q3,q4,q5⟩:=h.cell Mt n;subst q3;refine gg [(10,tH i<|lN d),(12,Br I R0 b l (lN d) c i k),(13,D8 I AAi (l+i*7) (H9 x) rfl q2 q5)]<|call (Acj I x) ?_;cases m:(λw=> !w.put) x with
 |true=>
  rw[ADP n m o];rw[show(!x.put)=tT from m];exact gG<|fi
 |false=>
  rw[show(!x.put)=fF from m];exact gg [(18,sH i)]<|bk again [] (i+1) ⟨oG,λj y p g=>by by_cases e:j=i;subst e;rw[n]at g;cases g;exact m;exact o j y oG g⟩
 rw[ADQ (P:=λw=> !w.put) λj y g=>o j y (by have:=(Ci.1 g).1;omega) g];exact gg [(10,fH i<|lN d)]<|fi
def ATw(I:AB)(n:Nm)(a:SV)(m:Nat)(i:Nat):Hd where
 Cd:=[(1,.fn (.func 194) [] [.p 2 0]),(4,.v<|.int iK 0),(7,a),(8,.v<|iV m),(9,.v<|iV i)]
 Cc:=[(2,WS n)]
 J:=I
def AT6(I)(d:AA Wt)(a)(c:Nat)(f n)(s:BV n)(hid:∀x∈d,BV x.id)(h:Nj I d a c f)(A:lN d<=1000000):Fn 193 [.v<|.slice a (lN d) c,.fn (.func 194) [] [.p 2 0]] [(2,WS n)] I (TR I [(2,WS n)]<|.v<|.int iK<|ixI<|d.findIdx? λw=>w.id==n) nO:=by
 refine fo func193 λB t w r=> ?_;refine gG<|loop (ι:=Nat) (λi=>i<=lN d/\∀(j:Nat)(y:Wt),j<i->d[j]? =sM y->(λw=>w.id==n) y=fF) (λi=>lN d-i) (ATw I n (.v<|.slice a (lN d) c)<|lN d) 300 [] 0 ⟨Bm _,λj y q=>absurd q oG⟩ ?_;rintro i ⟨z,p⟩ again T;by_cases k:i<lN d;have l:d[i]? =sM d[i]:=BS k;generalize d[i]=x at l;obtain⟨b,m,arr,e,v,u,rfl,q2,q3,q4,q5⟩:=h.cell Mt l;subst q3;refine gg [(10,tH i<|lN d),(12,Br I R0 b m (lN d) c i k),(13,D8 I AAi (m+i*7) (H9 x) rfl q2 q5)]<|IG (AVG I x n (hid x<|De l) s) [(2,2)] ?_;cases o:(λw=>w.id==n) x with
 |true=>
  rw[ADP l o p];rw[show(x.id==n)=tT from o];exact gG<|dn [] rfl
 |false=>
  rw[show(x.id==n)=fF from o];exact gg [(18,sH i)]<|bk again [] (i+1) ⟨oG,λj y q g=>by by_cases e:j=i;subst e;rw[l]at g;cases g;exact o;exact p j y oG g⟩
 rw[ADQ (P:=λw=>w.id==n) λj y g=>p j y (by have:=(Ci.1 g).1;omega) g];exact gg [(10,fH i<|lN d)]<|dn [] rfl
def AGr(I:AB)(b:AA AF)(a i d:Nat):zP:=λ_ h=>∃Eh:AA AF,lN Eh=lN b-(i+d)*7/\h= {r:=.s 1 0 (i+d) a,AV:=[(1,.As (b.take (i*7)++(b.drop<|(i+1)*7).take (d*7)++Eh) 261)],J:=I}
def ASa(I e)(a i d:Nat)(g:lN e=a*7)(P:∀v∈e.take ((i+1+d)*7),v.oneCell')(q:i+1+d<=a)(C:a<=maxLen):
 Fn 276 [.s 1 0 (i+1+d) a,.v<|.int iK<|Int.ofNat i,.v<|.int iK<|Int.ofNat<|i+1] [(1,.As e 261)] I (AGr I e a i d) nO:=by
 rw[maxLen]at C;refine fo func276 λρ S w L=> ?_;have G:=AXr Be (L:=Bt) (t:=83) (a:=8) (b:=9) (b2:=10) (b3:=12) (k:=1) (n:=i+1+d) (c:=a) (i:=i) (j:=i+1) (m:=i+1+d) (e:=261) (ty:=⟨7,_,_⟩) (I:=I) rfl rfl oG oG q;have K:=AK4 Be (L:=Bt) (t:=83) (a:=20) (b:=21) (k:=1) (n:=i+1+d) (c:=a) (i:=i) (e:=261) (ty:=⟨7,_,_⟩) (I:=I) rfl rfl oG;have y:=AKy Be (L:=Bt) (t:=83) (a:=23) (b:=24) (k:=1) (n:=i+1+d) (c:=a) (i:=i+1) (e:=261) (ty:=⟨7,_,_⟩) (I:=I) rfl rfl oG;rw[show i+1+d-(i+1)=d by omega]at y;obtain⟨o,t⟩:∃o,o=if a=i+1 then 0 else(i+1)*7:=⟨_,rfl⟩;rw[<-t]at y;have B:(e.drop o).take (d*7)=(e.drop<|(i+1)*7).take (d*7):=by by_cases h:a=i+1;have:d=0:=oG;subst this;simp;rw[t,AY h]
 refine gg [(13,.BZ _ _ [] I _ G),(16,hN (Int.ofNat i) (Int.ofNat<|i+1) sO),(22,.BZ _ _ [] I _ K),(25,.BZ _ _ [] I _ y)] ?_;refine act (need:=[(1,.As e 261)]) (AQO (I:=I) Be (n:=i) (m:=d) (cap:=a) (k:=1) (vs:=e) (news:=(e.drop<|(i+1)*7).take<|d*7) (x:=.s 1 o d<|a-(i+1)) Vf kR DT g (Aai DT B (by rw[Cu,Lw,g];omega) λv M=>P v<|by rw[show d*7=(i+1+d)*7-(i+1)*7 by omega,<-AGQ]at M;exact Mx M) oG) ?_ ?_;rintro h rfl;refine{r:=(λk s=>by simp[SV.A3]at s;simp[s]),u:=λQ z=> ?_,n:=nA,l:=by simp,le:=AB.Hj _,d:=by simp};rw[A9.1 z];exact⟨A9.2 rfl,λb x=>by rw[(IC<|A9.1 x).2];rfl,nA⟩;rintro N rfl;have D:=AXq Be (L:=Bt) (t:=83) (a:=27) (b:=29) (b2:=30) (k:=1) (n:=i+d) (c:=a) (i:=i+d) (j:=i+1+d) (e:=261) (ty:=⟨7,_,_⟩) (I:=I) rfl rfl oG q;rw[AY oG,show i+1+d-(i+d)=1 by omega]at D;obtain⟨c,m⟩:∃c,c=e.take (i*7)++(e.drop<|(i+1)*7).take (d*7)++e.drop (i*7+d*7):=⟨_,rfl⟩;rw[<-m];have j:lN (e.take (i*7)++(e.drop<|(i+1)*7).take (d*7))=(i+d)*7:=by rw[CK,Cu,Cu,Lw,g];omega
 have E:lN c=lN e:=by rw[m,CK,j,Lw,g];omega
 refine gg [(31,.BZ _ _ [] I _ D)] ?_;refine act (need:=[(1,.As c 261)]) (AJt (I:=I) Be (L:=Bt) (t:=83) (k:=1) (off:=(i+d)*7) (n:=1) (c:=a-(i+d)) (x:=.tmp 31) (vs:=c) (e:=261) (e':=261) (ty:=⟨7,_,_⟩) kR kR rfl rfl (by decide+kernel) rfl dC (by rw[E,g];show(i+d)*7+1*7<=_;omega)<|A9.2 rfl) ?_ ?_;rintro h ⟨p,_,_,rfl⟩;refine{r:=nA,u:=λQ z=> ?_,n:=nA,l:=by simp,le:=AB.Hj _,d:=by simp};rw[A9.1 z];exact⟨A9.2 rfl,λb x=>by rw[(IC<|A9.1 x).2];rfl,nA⟩;rintro N ⟨p,H,_,rfl⟩;refine gG<|dn [] ⟨p++c.drop ((i+d)*7+lN p),?_,?_⟩ (h:={r:=.s 1 0 (i+d) a,AV:=[(1,.As (BX c ((i+d)*7) p) 261)],J:=I});have:lN p=1*7:=H;rw[CK,Lw,E,g,this];omega;have:BX c ((i+d)*7) p=e.take (i*7)++(e.drop<|(i+1)*7).take (d*7)++(p++c.drop ((i+d)*7+lN p)):=by rw[BX];rw[m,<-j,TC,Eb]
 rw[this]
def AIT(I)(ad)(n c)(xs)(hc:n<=16777216)(h:Dk I 7 (some ad) n xs):Fn 134 [.v (.slice (some ad) n c)] [] I (Va I 7 n 261 xs) none:=by refine Ju 8 Tryz.func134 Tryz.ntmps134 rfl rfl kR λρ key w a=>gg [(4,.op I _ (.v (.bool false)) (MV (a:=some ad) (n:=n) (c:=c) (.tmp 3) (.const (.slice none 0 0)) AA9))]<|act (need:=[(124,.As [] 261)]) (Kk Be (n:=0) (vs:=[]) (CQ:=[]) Vf kR sP rfl rfl sP (h.reads (c:=c)) (Nat.le_refl _) (by rw[maxLen];omega) oG) (QO (.inr ⟨_,_,_,rfl,rfl⟩)) ?_;rintro h' ⟨cap,AE,h1,b,d,rfl⟩;refine gG ?_;exact dn [140] ⟨cap,AE,oG,b,by rw[d];simp,sP⟩ (h:={r:=.s (key+0) 0 (0+n) cap,nb:=[.As (xs++AE) 261],J:=I})
def ARp(I c):Fn 134 [.v<|.slice nO 0 c] [] I (BW (.v zS) I) nO:=Ju 8 func134 ntmps134 rfl rfl kR λρ b w a=>gg [(4,.op I _ (.v tV)<|MV (a:=nO) (n:=0) (c:=c) (.tmp 3) (.const zS) AA9)]<|fi
structure Em where
 a:AU Au
 c:Nat
 l:AA AF
abbrev AHD(I:AB)(a:AA Wt)(n:Nat):zP:=He I (λq:Em=>.v<|.slice q.a n q.c) λJ q=>Nj J a q.a q.c q.l
def AF8(I)(k:AA Wt)(a c g i)(x:i<lN k)(M:lN k<=1000000)(h:Nj I k a c g):Fn 195 [.v<|.slice a (lN k) c,.v<|iV i] [] I (AHD I (k.eraseIdx i)<|lN k-1) nO:=by
 have E:k[i]? =sM k[i]:=BS x;obtain⟨b,s,arr,e,K,H,rfl,q2,q3,q4,q5⟩:=h.cell Mt E;obtain⟨d,u⟩:∃d,lN k=i+1+d:=⟨lN k-(i+1),oG⟩;have hlen:=h.CE.len Mt;refine fo func195 λρ G w y=>gG<|PE (AIT I ⟨b,s,nO⟩ (lN k) c g oG h.sl) λl j L t C=> ?_;have p:∀v∈(g++j).take (lN k*7),v.oneCell':=by rw[O5 hlen];exact Wx h.CE
 refine gg [(9,sH i)] ?_;have o:Fn 276 [.s 1 0 (lN k) l,.v<|.int iK<|Int.ofNat i,.v<|.int iK<|Int.ofNat<|i+1] [(1,.As (g++j) 261)] I (AGr I (g++j) l i d) nO:=by rw[u];exact ASa I (g++j) l i d (by rw[CK,hlen,C];omega) (by rwa[<-u]) oG t
 refine A0 o [(1,116)] ?_;rintro _ ⟨Eh,N,rfl⟩;refine go func195 [] 2 kR ?_;have m:Rows S3 (k.eraseIdx i) (g.take (i*7)++(g.drop<|(i+1)*7).take (d*7)):=by rw[List.eraseIdx_eq_take_drop_succ];refine(h.CE.take Mt i).append ?_;have:=h.CE.drop Mt<|i+1;rwa[Na<|by rw[Lw,hlen];omega]
 have z:(g++j).take (i*7)=g.take (i*7):=Ji oG;have B:((g++j).drop<|(i+1)*7).take (d*7)=(g.drop<|(i+1)*7).take (d*7):=by rw[VI oG,Ji<|by rw[Lw];omega]
 have q:lN (k.eraseIdx i)=i+d:=by rw[ABf x];omega
 rw[z,B];refine B4 116 I (vs:=g.take (i*7)++(g.drop<|(i+1)*7).take (d*7)++Eh) (e:=261) λb J hle _ D=>gG<|dn [] ⟨⟨sM ⟨b,0,nO⟩,l,_⟩,J,by rw[show lN k-1=i+d by omega],hle,Av.Ky D m Mt (Wx m) (by rw[q];show i+d<=l;omega) t⟩
def AOk(I j a c d x)(M:lN j<=1000000)(h:Nj I j a c d):Fn 354 [.v<|.slice a (lN j) c,wtS x] [] I (AHD I (j++[x])<|lN j+1) nO:=by
 have hlen:=h.CE.len Mt;have g:Rows S3 (j++[x]) (d++H9 x):=h.CE.append<|Rows.one rfl;have l:∀v∈H9 x,v.oneCell':=by intro v u;simp[H9]at u;rcases u with rfl|rfl|rfl|rfl|rfl|rfl|rfl<;>rfl
 refine fo func354 λρ G w t=> ?_;cases a with
 |none=>
  have C:lN j=0:=h.sl.at_.elim id λ⟨b,H,arr,e,L,h,_⟩=>by cases h
  have p:j=[]:=Ib C;subst p;have r:d=[]:=h.CE;subst r;refine gG<|call (ARp I c)<|gG<|act (need:=[(140,.cells ((H9 x).map .v) 261)]) (MM (I:=I) Be (n:=0) (l:=.v zS) (x:=.s 140 0 1 1) (CQ:=[]) (news:=H9 x) Vf kR rfl Ol (Ez (e:=261) (A9.2 rfl) rfl l) (Ag _) oG (λ_=>rfl) oG) M4 ?_;rintro B ⟨k,i,y,s,K,rfl⟩;exact go func354 [] 2 kR<|B4 148 I (vs:=[]++H9 x++i) (e:=261) λb J hle _ q=>gG<|dn [] ⟨⟨sM ⟨b,0,nO⟩,k,_⟩,J,rfl,hle,Av.Ky q g Mt (Wx g) (by show 0+1<=k;omega) s⟩
 |some z=>
  refine gG<|PE (AIT I z (lN j) c d oG h.sl) λk i p D E=>gG<|act (need:=[(124,.As (d++i) 261),(140,.cells ((H9 x).map .v) 261)]) (Kk (I:=I) Be (n:=lN j) (x:=.s 140 0 1 1) Vf kR DT (by rw[CK,hlen,E];omega) (O5 hlen) (Wx h.CE) (Ez (e:=261) sP rfl l) p D oG) (QP rfl) ?_;rintro B ⟨o,m,y,s,K,rfl⟩;exact go func354 [] 2 kR<|B4 148 I (vs:=d++H9 x++m) (e:=261) λb J hle _ q=>gG<|dn [] ⟨⟨sM ⟨b,0,nO⟩,o,_⟩,J,rfl,hle,Av.Ky q g Mt (Wx g) (by rwa[CK]) s⟩
def Ms(x:Vr)(q:Em):SV:=.g [.v<|vB x.full,.v<|nV x.v.kind,.v<|nV x.v.n,.v<|sV x.v.name,.v<|vS<|AJ x.v.l.1,.v<|vS<|AJ x.v.l.2,.v<|.slice q.a (lN x.q) q.c]
def ML(I:AB)(x:Vr)(q:Em):Prop:=Nj I x.q q.a q.c q.l
def ML.up{I J x q}(h:ML I x q)(hle:I.le J):ML J x q:=Av.up h hle λ_ _ h=>h
abbrev APv(I:AB)(r:Vr×AU AW×Nm):zP:=He I (λq:Em=>.t [Ms r.1 q,Do<|r.2.1.getD AZ,.v<|vB r.2.1.isSome,.v<|sV r.2.2]) λJ q=>ML J r.1 q
def Ace(I x q g)(A:lN x.q<=900000)(h:ML I x q):Fn 309 [Ms x q,.v<|sV g] [] I (APv I<|GN x g) nO:=by
 let⟨full,v,d⟩:=x;let⟨a,c,cells⟩:=q;have h:Nj I d a c cells:=h;simp only at A;have k:lN d<=1000000:=oG;refine fo func309 λK C w p=> ?_;cases full with
 |false=>
  have e:GN ⟨fF,v,d⟩ g=(⟨fF,v,d++[⟨g,fF,AZ⟩]⟩,nO,[]):=rfl;rw[e];refine gG<|Cz (AOk I d a c cells ⟨g,fF,AZ⟩ k h) λq J hle o=>gG ?_;have el:lN (d++[(⟨g,fF,AZ⟩:Wt)])=lN d+1:=sP;refine dn [] ⟨q,J,by unfold Ms;simp only[el];rfl,hle,o⟩
 |true=>
  refine gG<|call (AT7 I d a c cells h k) ?_;cases n:d.findIdx? (λw=>w.put)with
  |none=>
   have e:GN ⟨tT,v,d⟩ g=(⟨fF,AZ,d⟩,sM v,[]):=by unfold GN;simp only[AGJ,N7,Hq];rw[show d.findIdx? (·.put)=nO from n]
   rw[e];refine gg [(27,hT ((-1:Int)<0) dC)]<|KR (Yk I a (lN d) c cells oG h.sl) λt m J hle E F G=>gG<|dn [] ⟨⟨t,m,cells⟩,J,rfl,hle,⟨G,E,F,h.CE⟩⟩
  |some i=>
   have l:i<lN d:=(Lv.1 n).1;have e:GN ⟨tT,v,d⟩ g=(⟨tT,(d.getD i Al).v,d.eraseIdx i⟩,sM v,(d.getD i Al).id):=by unfold GN;simp only[AGJ,N7,Hq];rw[show d.findIdx? (·.put)=sM i from n]
   have s:d[i]? =sM (d.getD i Al):=by rw[BS l,DK,BS l];rfl
   rw[e];generalize d.getD i Al=y at s;obtain⟨b,f,arr,el,H,D,rfl,q2,q3,q4,q5⟩:=h.cell Mt s;subst q3;have B:∀j u,(BG y.v)[j]? =sM u->arr[f+i*7+2+j]? =sM u:=λj u z=>by have:=q5 (2+j) u (by rw[Nat.add_comm];exact z);rw[<-Nb]at this;exact this
   have el:lN (d.eraseIdx i)=lN d-1:=ABf l;refine gg [(27,hF<|(i:Int)<0),(37,Br I R0 b f (lN d) c i l),(39,D8 I Oo (f+i*7+2) (BG y.v) rfl q2 B),(50,Br I R0 b f (lN d) c i l),(52,ED I ABA rfl (f+i*7) _ q2<|q5 0 _ rfl)]<|Cz (AF8 I d (aO b f) c cells i l k h) λq J hle o=>gG ?_;refine dn [] ⟨q,J,by unfold Ms;simp only[el];rfl,hle,o⟩
abbrev APn(I:AB)(r:Vr×Bool×Nm):zP:=He I (λq:Em=>.t [Ms r.1 q,.v<|vB r.2.1,.v<|sV r.2.2]) λJ q=>ML J r.1 q
def AaD(I x q f u)(t:lN x.q<=900000)(h:ML I x q):Fn 311 [Ms x q,.v<|sV f,Do u] [] I (APn I<|Gg x f u) nO:=by
 let⟨full,v,d⟩:=x;let⟨a,c,cells⟩:=q;have h:Nj I d a c cells:=h;simp only at t;have g:lN d<=1000000:=oG;refine fo func311 λF z w o=> ?_;cases full with
 |true=>
  have e:Gg ⟨tT,v,d⟩ f u=(⟨tT,v,d++[⟨f,tT,u⟩]⟩,fF,[]):=rfl;rw[e];refine gG<|Cz (AOk I d a c cells ⟨f,tT,u⟩ g h) λq J hle n=>gG ?_;have el:lN (d++[(⟨f,tT,u⟩:Wt)])=lN d+1:=sP;refine dn [] ⟨q,J,by unfold Ms;simp[el],hle,n⟩ (h:={r:=.t [.g [.v tV,.v<|nV v.kind,.v<|nV v.n,.v<|sV v.name,.v<|vS<|AJ v.l.1,.v<|vS<|AJ v.l.2,.v<|.slice q.a (lN d+1) q.c],.v fV,.v<|vS<|Aa []],J:=J})
 |false=>
  refine gG<|call (AT8 I d a c cells h g) ?_;cases l:d.findIdx? (λw=> !w.put)with
  |none=>
   have e:Gg ⟨fF,v,d⟩ f u=(⟨tT,u,d⟩,tT,[]):=by unfold Gg;simp[N7,Hq];rw[show d.findIdx? (λw=> !w.put)=nO from l]
   rw[e];refine gg [(27,hT ((-1:Int)<0) dC)]<|KR (Yk I a (lN d) c cells oG h.sl) λs m J hle B C D=>gG<|dn [] ⟨⟨s,m,cells⟩,J,rfl,hle,⟨D,B,C,h.CE⟩⟩
  |some i=>
   have k:i<lN d:=(Lv.1 l).1;have e:Gg ⟨fF,v,d⟩ f u=(⟨fF,v,d.eraseIdx i⟩,tT,(d.getD i Al).id):=by unfold Gg;simp[N7,Hq];rw[show d.findIdx? (λw=> !w.put)=sM i from l]
   have p:d[i]? =sM (d.getD i Al):=by rw[BS k,DK,BS k];rfl
   rw[e];generalize d.getD i Al=y at p;obtain⟨b,j,arr,el,E,A,rfl,q2,q3,q4,q5⟩:=h.cell Mt p;subst q3;have el:lN (d.eraseIdx i)=lN d-1:=ABf k;refine gg [(27,hF<|(i:Int)<0),(45,Br I R0 b j (lN d) c i k),(47,ED I ABA rfl (j+i*7) _ q2<|q5 0 _ rfl)]<|Cz (AF8 I d (aO b j) c cells i k g h) λq J hle n=>gG ?_;refine dn [] ⟨q,J,by unfold Ms;simp[el],hle,n⟩ (h:={r:=.t [.g [.v fV,.v<|nV v.kind,.v<|nV v.n,.v<|sV v.name,.v<|vS<|AJ v.l.1,.v<|vS<|AJ v.l.2,.v<|.slice q.a (lN d-1) q.c],.v tV,.v<|sV y.id],J:=J})
abbrev APg(I:AB)(r:Vr×Bool):zP:=He I (λq:Em=>.t [Ms r.1 q,.v<|vB r.2]) λJ q=>ML J r.1 q
def AXD(I x q d)(o:BV d)(hid:∀y∈x.q,BV y.id)(n:lN x.q<=900000)(h:ML I x q):Fn 144 [Ms x q,.v<|sV d] [] I (APg I ((KV x d).getD x,(KV x d).isSome)) nO:=by
 let⟨full,v,b⟩:=x;let⟨a,c,cells⟩:=q;have h:Nj I b a c cells:=h;simp only at n hid;have f:lN b<=1000000:=oG;refine fo func144 λA s w k=>gG<|OK (AT6 I b a c cells d o hid h f) rfl [(2,108)] ?_;cases g:b.findIdx? (λw=>w.id==d)with
 |none=>
  have e:KV ⟨full,v,b⟩ d=nO:=by unfold KV;simp[g]
  rw[e];exact gg [(12,hT ((-1:Int)<0) dC)]<|KR (Yk I a (lN b) c cells oG h.sl) λl m J hle t u z=>gG<|dn [] ⟨⟨l,m,cells⟩,J,rfl,hle,⟨z,t,u,h.CE⟩⟩
 |some i=>
  have j:i<lN b:=(Lv.1 g).1;have e:KV ⟨full,v,b⟩ d=sM ⟨full,v,b.eraseIdx i⟩:=by unfold KV;simp[g]
  have el:lN (b.eraseIdx i)=lN b-1:=ABf j;rw[e];refine gg [(12,hF<|(i:Int)<0)]<|Cz (AF8 I b a c cells i j f h) λq J hle p=>gG ?_;exact dn [] ⟨q,J,by unfold Ms;simp[Option.getD,Option.isSome,el],hle,p⟩ (h:={r:=.t [.g [.v<|vB full,.v<|nV v.kind,.v<|nV v.n,.v<|sV v.name,.v<|vS<|AJ v.l.1,.v<|vS<|AJ v.l.2,.v<|.slice q.a (lN b-1) q.c],.v tV],J:=J})
def Vw(p n)(a:CB p):child p n=if CB (p++[n])then some (p++[n])else none:=by
 have e:CB (p++[n])=(decide (p.length<24)&&decide (n<=999)):=by simp only[CB,Bool.and_eq_true,decide_eq_true_eq]at a;simp only[CB,List.length_append,List.length_singleton,List.all_append,List.all_cons,List.all_nil,Bool.and_true,a.2,Bool.true_and];have b:decide (0<p.length+1):=sP;rw[b,Bool.true_and];congr 1
 rw[child];rw[a,Bool.true_and,e]
def I7(t:AL):AL×Nm×Bool:=match GI t with|some (u,n)=>(u,n,tT)|none=>(t,[],fF)
def Z6(I)(h:Pow I)(t a)(f:CB t.Bg)(j:t.A7<=1000000)(k:t.Ao<=1000000):Fn 357 [.g<|Dr t a] [] I (BW (.t [.g<|Dr (I7 t).1 a,.v<|vS<|Aa (I7 t).2.1,.v<|vB (I7 t).2.2]) I) nO:=by
 have d:=ARb I h t.Bg t.A7 f;refine fo func357 λl i w g=> ?_;by_cases b:t.Ao<1;have e:I7 t=(t,[],fF):=by rw[I7,GI];rw[Ac b]
 rw[e];exact gg [(7,hT<|(t.Ao:Int)<1)]<|fi;cases c:CB (t.Bg++[t.A7])with
 |false=>
  have e:I7 t=(t,[],fF):=by rw[I7,GI];rw[AY b,Vw _ _ f,c];rfl
  rw[e];rw[c]at d;exact gg [(7,hF<|(t.Ao:Int)<1)]<|call d<|gG<|fi
 |true=>
  have e:I7 t=({t with A7:=t.A7+1,Ao:=t.Ao-1},t.Bg++[t.A7],tT):=by rw[I7,GI];rw[AY b,Vw _ _ f,c];rfl
  rw[e];rw[c,show Kx (t.Bg++[t.A7])=Dm (t.Bg++[t.A7]) by rw[Kx];rw[Ac c]]at d;exact gg [(7,hF<|(t.Ao:Int)<1)]<|call d<|gg [(22,sH t.A7),(26,hW ((t.Ao:Int)-1) ((t.Ao-1:Nat):Int))]<|fi
def AOf(I t a i j)(h:DZ I t a):Fn 108 [.g<|Dr t a,.v<|.slice i 0 j] [] I (QJ I<|DX t []) nO:=by
 refine fo func108 λy s w g=> ?_;have f:=h.c.s.cap;refine gG<|call (ACp I a.p.sa (lN t.c.stack) a.p.sc f)<|gG<|act (need:=[]) (AQQ (I:=I) Be (cap:=lN t.c.stack) (a:=a.p.sa) (x:=.v<|.slice i 0 j) LU kR Ol<|Ag _) (λh o=>by subst o;exact{r:=nA,u:=nA,n:=nA,l:=by simp,le:=AB.Hj _,d:=by simp}) ?_;rintro v rfl;refine gG ?_;have e:DX t []= {t with Aw:=0,on:=[]}:=by simp[DX]
 rw[e];exact dn [] ⟨_,I,rfl,AB.le_refl _,⟨⟨h.c.f,⟨h.c.s.sl,Ag _,Ch f h.c.s.max,h.c.s.CE⟩,h.c.t⟩,h.s⟩⟩ (h:={r:=.g<|Dr {t with Aw:=0,on:=[]} {a with p:={a.p with sc:=lN t.c.stack}},J:=I})
def Ad6(I t a c m n j)(u:0<lN c)(y:lN c<=1000000)(x:lN t.c.stack<=1000000)(g:F3 I c m n j)(h:DZ I t a):Fn 108 [.g<|Dr t a,.v<|.slice m (lN c) n] [] I (QJ I<|DX t c) nO:=by
 have d:Rows F9 (t.c.stack++c) (a.p.sl++j):=h.c.s.CE.append g.CE;refine fo func108 λG z w o=>gG<|call (ACp I a.p.sa (lN t.c.stack) a.p.sc h.c.s.cap)<|gG<|act (need:=[]) (MM (I:=I) Be (x:=.v<|.slice m (lN c) n) LU kR rfl h.c.s.sl.reads g.sl.reads (Ag _) oG (λe=> ?_) oG) M4 ?_;rcases h.c.s.sl.at_ with h|⟨b,A,arr,D,E,k,_⟩;exact h;rw[e]at k;cases k;rintro k ⟨f,i,B,C,F,rfl⟩;refine go func108 [] 4 kR<|B4 188 I (vs:=a.p.sl++j++i) (e:=51) λb J hle _ q=>gG ?_;have el:lN (t.c.stack++c)=lN t.c.stack+lN c:=sP;have l:Av J F9 5 (t.c.stack++c) (aP b) f (a.p.sl++j):=Av.Ky q d Jd (λv g=>Pn v<|by rw[Rows.flat.1 d]at g;exact g) (by rwa[el]) C;refine dn [] ⟨{a with p:={a.p with sa:=sM ⟨b,0,nO⟩,sc:=f,sl:=a.p.sl++j}},J,?_,hle,⟨⟨(h.up hle).c.f,l,(h.up hle).c.t⟩,(h.up hle).s⟩⟩ (h:={r:=.g [.v<|sV t.id,.v<|sV t.Bg,.v<|vS<|AJ t.g.Ad.1,.v<|vS<|AJ t.g.Ad.2,.v<|vS<|AJ t.g.A5.1,.v<|vS<|AJ t.g.A5.2,.v<|.slice a.p.fa (lN t.c.AG) a.p.fc,.v<|.slice (aP b) (lN t.c.stack+lN c) f,.v<|.slice a.p.ta (lN t.c.AP) a.p.tc,.v<|.slice a.ca (lN t.AI) a.cc,.v<|nV t.A7,.v<|nV t.Ao,.v<|.int iK (0:Nat),.v<|vS<|Aa [],.v<|nV t.v.kind,.v<|nV t.v.n,.v<|sV t.v.name,.v<|vS<|AJ t.v.l.1,.v<|vS<|AJ t.v.l.2,.v<|vB t.ex],J:=J});simp[DX,Dr,el]
def ixO(o:AU Nat):Int:=match o with|none=> -1|some i=>i
def ATz{P}{l:AA Dc}{i x}(e:l[i]? =sM x)(d:P x)(b:∀(j:Nat)(y:Dc),j<i->l[j]? =sM y->P y=fF):l.findIdx? P=sM i:=by rw[Lv];obtain⟨a,rfl⟩:=Ci.1 e;exact⟨a,d,λj c=>by rw[b j _ c<|BS oG];decide⟩
def AT0{P}{l:AA Dc}(a:∀(j:Nat)(y:Dc),l[j]? =sM y->P y=fF):l.findIdx? P=nO:=by rw[ABc];intro x c;let⟨j,b⟩:=ABd c;exact a j x b
def ASr(I:AB)(a:AA SV)(AD:Nat)(sl:SV)(m:Nat)(i:Nat):Hd where
 Cd:=[(1,.v<|iV AD),(4,.v<|.int iK 0),(8,sl),(9,.v<|iV m),(10,.v<|iV i)]
 Cc:=[]
 J:=I
def ASs(I)(t:AL)(a)(c:Nat)(C:lN t.AI<=1000000)(h:DZ I t a):Fn 98 [.g<|NG t a,.v<|iV c] [] I (BW (.v<|.int iK<|ixO<|IU t c) I) nO:=by
 have q:=h.s;let⟨D,r,l,z⟩:=a;simp only at q;rw[IU];refine fo func98 λE u w o=> ?_;refine gG<|loop (λi=>i<=lN t.AI/\∀(j:Nat)(y:Dc),j<i->t.AI[j]? =sM y->(λs:Dc=>decide<|s.RE<=c) y=fF) (λi=>lN t.AI-i) (ASr I [] c (.v<|.slice r (lN t.AI) l)<|lN t.AI) 300 [] 0 ⟨Bm _,λj y n=>absurd n oG⟩ ?_;rintro i ⟨B,m⟩ again T;by_cases f:i<lN t.AI;have k:t.AI[i]? =sM t.AI[i]:=BS f;generalize t.AI[i]=x at k;obtain⟨b,d,arr,e,A,v,rfl,q2,q3,q4,q5⟩:=q.cell XO k;subst q3;by_cases p:x.RE<=c;rw[ATz k (G5 p) m];exact gg [(11,tH i<|lN t.AI),(13,Br I Rz b d (lN t.AI) l i f),(14,D8 I XG (d+i*14) (Hl x) rfl q2 q5),(18,hT<|(x.RE:Int)<=(c:Int))]<|fi;exact gg [(11,tH i<|lN t.AI),(13,Br I Rz b d (lN t.AI) l i f),(14,D8 I XG (d+i*14) (Hl x) rfl q2 q5),(18,hF<|(x.RE:Int)<=(c:Int)),(20,sH i)]<|bk again [] (i+1) ⟨oG,λj y n g=>by by_cases e:j=i;subst e;rw[k]at g;cases g;exact Gp p;exact m j y oG g⟩
 rw[AT0 λj y g=>m j y (by have:=(Ci.1 g).1;omega) g];exact gg [(11,fH i<|lN t.AI)]<|fi
def AXt(I s x y z):∀a e (o:Bw),o.op=.field 202 (.tmp s) 0->(∀p∈[(s,SV.g [.v x,.v y,.v z])],e p.1=p.2)->LS prog o e a [] I (.g [.v x,.v y,.v z]) nO:=by
 intro a e o h c;have m:=Ds c (s:=s) (x:=.g [.v x,.v y,.v z]) sP;intro u t w n _ _ _ _;refine⟨w,?_,Bl.refl w⟩;have f:=n (.tmp s) xO;simp only[ev,m,AO,BB]at f;have j:prog.underlying 202=sM (.struct #[((prog.fieldsOf 202)[0]?).getD Al]):=kR;have g:(((prog.fieldsOf 202)[0]?).getD Al).type=200/\(((prog.fieldsOf 202)[0]?).getD Al).offset=0:=⟨kR,kR⟩;have k:prog.underlying 200=sM ((prog.underlying 200).getD Al):=kR;have l:((prog.underlying 200).getD Al).isRow:=kR;obtain⟨i,q,r⟩:∃i,prog.info? 200=sM i/\i.size=3:=by rw[show prog.info? 200=sM ((prog.info? 200).getD Al) by kernel_rfl];exact⟨_,rfl,kR⟩
 have b:(isAgg 200).run prog w=.ok tT w:=by simp only[isAgg,Sem.run_bind,run_underlying k,Result.andThen_ok];generalize(prog.underlying 200).getD Al=d at l;cases d<;>simp_all[TypeDesc.isRow]
 simp[execOp,h,Instr.field,f,run_underlying j,g.1,g.2,part,b,asAgg,sizeOf,typeInfo,q,r,Result.andThen,AO,BB]
def AIw(I)(t:AL)(a)(b:Nat)(d:lN t.AI<=1000000)(h:DZ I t a):Fn 39 [.g<|Dr t a,.v<|iV b] [] I (BW (.v<|.int iK<|ixO<|IU t b) I) nO:=fo func39 λf e w c=>gG<|call (AE4 I t a)<|gg [(7,.BZ (.field 202 (.tmp 6) 0) [(6,.g<|NG t a)] [] I (.g<|NG t a)<|AXt I 6 _ _ _)]<|call (ASs I t a b d h)<|gG<|fi
def AAn{I i a c k f s}(h:Av I Ll 14 i a c f)(l:i[k]? =sM s):
 ∃b d arr e g,a=sM ⟨b,d,nO⟩/\I b=sM (.cells arr e g)/\k<lN i/\∀j v,(Hl s)[j]? =sM v->arr[d+k*14+j]? =sM v:=by
 let⟨b,d,arr,e,g,m,q1,q2,q3,q4,q5⟩:=h.cell XO l;subst q3;exact⟨b,d,arr,e,g,q1,q2,q4,q5⟩
def AAm{ss:AA Dc}{k}(a:k<lN ss):ss[k]? =sM (ss.getD k Al):=by rw[BS a,DK,BS a];rfl
def ARH(I)(t:AL)(a k)(E:lN t.AI<=1000000)(z:B9 t.g.Ad)(C:∀s∈t.AI,B9 s.l)(h:DZ I t a):Fn 146 [.g<|Dr t a,.v<|iV k] [] I (BW (.t [Do (IF t k).1,.v<|vB (IF t k).2]) I) nO:=by
 have o:=h.s;let⟨N,G,D,H⟩:=a;let⟨x,l,g,c,f,i,m,d,on,v,r⟩:=t;simp only at E z C o;refine fo func146 λO F w B=> ?_;by_cases y:d=2;by_cases A:k+1=lN f;have u:=AAm (ss:=f) (k:=k) oG;have e:IF ⟨x,l,g,c,f,i,m,d,on,v,r⟩ k=if !fl g.Ad (f.getD k Al).l then(BH (-3),tT)else(v,r):=by rw[IF];simp only;rw[AY<|by rw[y,A];simp]
 have p:=C _<|De u;rw[e];generalize f.getD k Al=s at u p;obtain⟨b,q,arr,J,K,rfl,q2,q4,q5⟩:=AAn o u;have M:(lN f:Int)-1=(k:Int):=oG;refine gg [(8,EN (d:Int) 2),(14,hW ((lN f:Int)-1) (k:Int)),(15,EN (k:Int) (k:Int) rfl),(24,Br I Rz b q (lN f) D k q4),(26,D8 I Sf (q+k*14+1) [vS<|AJ s.l.1,vS<|AJ s.l.2] rfl q2 (λj v n=>by
  have:=q5 (1+j) v (by
   match j,n with
   |0,n=>exact n
   |1,n=>exact n)
  rw[<-Nb]at this;exact this))] ?_
 refine call (NB I g.Ad s.l z p) ?_;cases L:fl g.Ad s.l with
 |true=>
  exact gG<|fi
 |false=>
  exact gG<|fi
 have e:IF ⟨x,l,g,c,f,i,m,d,on,v,r⟩ k=(BH (-7),tT):=by rw[IF];simp only;rw[Ac<|.inr A]
 rw[e];exact gg [(8,EN (d:Int) 2),(14,hW ((lN f:Int)-1) ((lN f:Int)-1) rfl),(15,Fs (k:Int)<|(lN f:Int)-1)]<|fi;have e:IF ⟨x,l,g,c,f,i,m,d,on,v,r⟩ k=(BH (-7),tT):=by rw[IF];simp only;rw[Ac<|.inl y]
 rw[e];exact gg [(8,Fs (d:Int) 2)]<|fi
def AWw(I t a i)(h:DZ I t a):Fn 167 [.g<|NG t a,.v<|iV i] [] I (BW (DW<|EF t i) I) nO:=by
 have d:=h.s;let⟨u,o,l,p⟩:=a;simp only at d;refine fo func167 λx n w k=> ?_;by_cases m:i<lN t.AI;have g:=AAm m;have e:EF t i=(t.AI.getD i Al).g.Ad:=by rw[EF];rw[g]
 rw[e];generalize t.AI.getD i Al=s at g;obtain⟨b,f,arr,q,r,rfl,q2,q4,q5⟩:=AAn d g;refine gg [(9,tH i<|lN t.AI),(13,Br I Rz b f (lN t.AI) l i q4),(16,D8 I Sf (f+i*14+7) [vS<|AJ s.g.Ad.1,vS<|AJ s.g.Ad.2] rfl q2 (λj v c=>by
  have:=q5 (7+j) v (by
   match j,c with
   |0,c=>exact c
   |1,c=>exact c)
  rw[<-Nb]at this;exact this))] ?_
 exact fi;have e:EF t i=t.g.Ad:=by rw[EF];rw[Jh oG]
 rw[e];exact gg [(9,fH i<|lN t.AI)]<|fi
def AWi(I:AB)(t:AL)(a:DV)(m:AT)(n i:Nat):Hd where
 Cd:=[(2,.p 100 0),(3,.p 108 0),(4,.v<|.int iK 0),(7,.v<|iV n),(8,.v<|iV i)]
 Cc:=[(100,.cells (NG t a) 200),(108,.cells [.v<|vS<|AJ m.1,.v<|vS<|AJ m.2] 42)]
 J:=I
def AKO{t m}:∀n i:Nat,LZ t m (n+1) i=if fl (EF t i) m then LZ t m n (i+1)else i:=λ_ _=>rfl
def AWk(I t a m)(q:lN t.AI<=900000)(k:B9 m)(e:∀i,B9<|EF t i)(h:DZ I t a):Fn 112 [.g<|NG t a,DW m] [] I (BW (.v<|.int iK (CF t m:Nat)) I) nO:=by
 refine fo func112 λr o w g=>gG<|call (AEQ I t a oG)<|gG<|loop (ι:=Nat) (λi=>i<=lN t.AI+1/\CF t m=LZ t m (lN t.AI+1-i) i) (λi=>lN t.AI+1-i) (AWi I t a m<|lN t.AI+1) 300 [] 0 ⟨Bm _,rfl⟩ ?_;rintro i ⟨p,b⟩ again T;by_cases j:i<lN t.AI+1;obtain⟨n,l⟩:∃n,lN t.AI+1-i=n+1:=⟨lN t.AI-i,oG⟩;rw[l,AKO]at b;refine gg [(9,hT<|(i:Int)<((lN t.AI+1:Nat):Int))]<|call (AWw I t a i h)<|gG<|call (NB I (EF t i) m (e i) k) ?_;cases f:fl (EF t i) m with
 |true=>
  rw[f,Ac rfl]at b;refine gg [(18,sH i)] ?_;exact bk again [] (i+1) ⟨oG,by rw[b];congr 1;omega⟩
 |false=>
  rw[f]at b;have c:CF t m=i:=b;rw[c];exact gG<|fi
 have d:i=lN t.AI+1:=oG;rw[show lN t.AI+1-i=0 by omega]at b;have c:CF t m=lN t.AI+1:=by rw[b,<-d];rfl
 rw[c];exact gg [(9,hF<|(i:Int)<((lN t.AI+1:Nat):Int))]<|call (AEQ I t a oG)<|gG<|fi
def AKP(t m):∀n i,LZ t m n i<=i+n
 |0,i=>Ag _
 |n+1,i=>by rw[AKO];split;have:=AKP t m n<|i+1;omega;omega
def AWj(t m):CF t m<=lN t.AI+1:=by have:=AKP t m (lN t.AI+1) 0;rw[CF];omega
def P3:AL:=⟨[],[],⟨FW,FW⟩,⟨[],[],[]⟩,[],0,0,0,[],AZ,fF⟩
def RJ:DV:=⟨⟨nO,0,[],nO,0,[],nO,0,[]⟩,nO,0,[]⟩
def AeZ{I}:DZ I P3 RJ:=⟨⟨Av.empty,Av.empty,Av.empty⟩,Av.empty⟩
abbrev APV(I:AB)(o:AU AL):zP:=He I (λq:DV=>.t [.g<|Dr (o.getD P3) q,.v<|vB o.isSome]) λJ q=>DZ J (o.getD P3) q
def ANN{I d a c k b}(h:Av I Ll 14 d a c b)(e:k<=lN d):Av I Ll 14 (d.take k) a k (b.take<|k*14):=by have:=h.take XO k;rwa [Gn e]at this
def AVC(I t a m)(B:lN t.AI<=900000)(C:B9 m)(n:∀i,B9<|EF t i)(h:DZ I t a):Fn 58 [.g<|Dr t a,DW m] [] I (APV I<|C4 t m) nO:=by
 have hle:=AWj t m;refine fo func58 λL E w x=>gG<|call (AE4 I t a)<|gG<|call (AWk I t a m B C n h)<|gG<|call (AEQ I t a oG) ?_;rw[C4];generalize CF t m=k at hle;by_cases p:k=lN t.AI+1;rw[Ac p];exact gg [(20,hE (k:Int) ((lN t.AI+1:Nat):Int))]<|dn [] ⟨a,I,rfl,AB.le_refl _,h⟩;rw[AY p];by_cases u:k=0;rw[Ac u];exact gg [(20,hN (k:Int) ((lN t.AI+1:Nat):Int)),(23,hE (k:Int) 0)]<|dn [] ⟨RJ,I,rfl,AB.le_refl _,AeZ⟩;rw[AY u];have y:=AAm (ss:=t.AI) (k:=k-1) oG;simp only;generalize t.AI.getD (k-1) Al=s at y;have f:=h.s;have l:=h.s.cap;have v:=h.c;let⟨F,G,j,A⟩:=a;simp only at f l v;obtain⟨b,c,arr,H,K,rfl,q2,q4,q5⟩:=AAn f y;let⟨z,e,o⟩:=WW;refine gg [(20,hN (k:Int) ((lN t.AI+1:Nat):Int)),(23,hN (k:Int) 0),(28,hW ((k:Int)-1) ((k-1:Nat):Int)),(29,Br I Rz b c (lN t.AI) j (k-1) q4),(30,D8 I XG (c+(k-1)*14) (Hl s) rfl q2 q5),
  (34,.op I _ _<|Us (a:=sM ⟨b,c,nO⟩) (n:=lN t.AI) (c:=j) (m:=k) U1 e oG)] ?_
 refine call (ACo I (aO b c) k j oG)<|gG<|Cz (AIh I t.c F s.AG s.Cg s.AP v) λq J d D=>gG ?_;have el:lN (t.AI.take k)=k:=by rw[Cu];omega
 refine dn [] ⟨⟨q,sM ⟨b,c,nO⟩,k,A.take<|k*14⟩,J,?_,d,⟨D,(ANN f oG).up d λ_ _ h=>h⟩⟩ (h:={r:=.t [.g [.v<|sV t.id,.v<|sV s.name,.v<|vS<|AJ s.l.1,.v<|vS<|AJ s.l.2,.v<|vS<|AJ s.l.1,.v<|vS<|AJ s.l.2,.v<|.slice q.fa (lN (Ee t.c s.AG s.Cg s.AP).AG) q.fc,.v<|.slice q.sa (lN (Ee t.c s.AG s.Cg s.AP).stack) q.sc,.v<|.slice q.ta (lN (Ee t.c s.AG s.Cg s.AP).AP) q.tc,.v<|.slice (aO b c) k k,.v<|.int iK (0:Nat),.v<|.int iK (0:Nat),.v<|.int iK (2:Nat),.v<|vS<|Aa [],.v<|.int iK (1:Nat),.v<|.int iK 0,.v<|vS<|Aa [],.v<|vS<|AJ [],.v<|vS<|AJ [],.v fV],.v tV],J:=J});simp only[Dr,TH,VS,el];rfl
def Fx(o:Ob)(q:Em):AA SV:=[.v<|nV o.kind,.v<|vS<|AJ o.l.1,.v<|vS<|AJ o.l.2,.v<|nV o.v.kind,.v<|nV o.v.n,.v<|sV o.v.name,.v<|vS<|AJ o.v.l.1,.v<|vS<|AJ o.v.l.2,.v<|vB o.ex,.v<|vB o.done,
 .v<|vB o.var.full,.v<|nV o.var.v.kind,.v<|nV o.var.v.n,.v<|sV o.var.v.name,.v<|vS<|AJ o.var.v.l.1,.v<|vS<|AJ o.var.v.l.2,.v<|.slice q.a (lN o.var.q) q.c,.v<|nV o.fn,.v<|.int .u8 o.AR.toNat]
def HY:Em:=⟨nO,0,[]⟩
abbrev AG2(I:AB)(u:AL)(n:Nm)(o:Ob):zP:=He I (λq:DV=>.t [.g<|Dr u q,.v<|sV n,.g<|Fx o HY]) λJ q=>DZ J u q
def AKf(t:AL)(k:Nat)(s:Dc):AL:=
 {t with AI:=t.AI.take k,g:=s.g,Bg:=s.Bg,A7:=s.A7,Ao:=s.Ao,c:=Df (Ee t.c s.AG s.Cg s.AP)<|BZ 3 s.name s.l,Aw:=0,on:=[],v:=AZ,ex:=fF}
abbrev APf(I:AB)(t:AL)(k:Nat):zP:=AG2 I (GH t k) (t.AI.getD k Al).name<|GF t k
def AXK(I)(t:AL)(a k)(s:Dc)(z:t.AI[k]? =sM s)(O:lN t.AI<=900000)(F:lN t.c.stack<=900000)(C:B9 t.g.Ad)(E:∀s∈t.AI,B9 s.l)(h:DZ I t a):Fn 100 [.g<|Dr t a,.v<|iV k] [] I (AG2 I (AKf t k s) s.name {Db with kind:=3,l:=s.l,v:=(IF t k).1,ex:=(IF t k).2}) nO:=by
 have N:=(Ci.1 z).1;have m:=ARH I t a k oG C E h;refine fo func100 λP G w y=> ?_;have g:=h.s;have n:=h.s.cap;have x:=h.c;let⟨H,K,j,B⟩:=a;simp only at g n x;obtain⟨b,c,arr,L,M,rfl,q2,q4,q5⟩:=AAn g z;let⟨A,f,p⟩:=WW;refine gg [(9,hF<|(k:Int)<0),(15,hF<|(k:Int)≥(lN t.AI:Int)),(22,Br I Rz b c (lN t.AI) j k q4),(23,D8 I XG (c+k*14) (Hl s) rfl q2 q5)]<|call m<|gg [(38,.op I _ _<|Us (a:=sM ⟨b,c,nO⟩) (n:=lN t.AI) (c:=j) (m:=k) U1 f oG)]<|call (ACo I (aO b c) k j oG)<|gG<|Cz (AIh I t.c H s.AG s.Cg s.AP x) λq J d D=>gG<|Cz (AE6 J (Ee t.c s.AG s.Cg s.AP) q (BZ 3 s.name s.l) (by show(t.c.stack.take s.Cg).length<=_;rw[Cu];omega) D) λi u e o=> ?_;refine gG ?_;have el:lN (t.AI.take k)=k:=by rw[Cu];omega
 refine dn [] ⟨⟨i,sM ⟨b,c,nO⟩,k,B.take<|k*14⟩,u,?_,d.trans e,⟨o,(ANN g oG).up (d.trans e) λ_ _ h=>h⟩⟩ (h:={r:=.t [.g [.v<|sV t.id,.v<|sV s.Bg,.v<|vS<|AJ s.g.Ad.1,.v<|vS<|AJ s.g.Ad.2,.v<|vS<|AJ s.g.A5.1,.v<|vS<|AJ s.g.A5.2,.v<|.slice i.fa (lN (Df (Ee t.c s.AG s.Cg s.AP)<|BZ 3 s.name s.l).AG) i.fc,.v<|.slice i.sa (lN (Df (Ee t.c s.AG s.Cg s.AP)<|BZ 3 s.name s.l).stack) i.sc,.v<|.slice i.ta (lN (Df (Ee t.c s.AG s.Cg s.AP)<|BZ 3 s.name s.l).AP) i.tc,.v<|.slice (aO b c) k k,.v<|nV s.A7,.v<|nV s.Ao,.v<|.int iK (0:Nat),.v<|vS<|Aa [],.v<|.int iK (0:Nat),.v<|.int iK 0,.v<|vS<|Aa [],.v<|vS<|AJ [],.v<|vS<|AJ [],.v fV],.v<|sV s.name,.g<|Fx {Db with kind:=3,l:=s.l,v:=(IF t k).1,ex:=(IF t k).2} HY],J:=u});simp only[Dr,AKf,el];rfl
def AKh(I)(t:AL)(a k)(d:k<lN t.AI)(e:lN t.AI<=900000)(b:lN t.c.stack<=900000)(c:B9 t.g.Ad)(f:∀s∈t.AI,B9 s.l)(h:DZ I t a):Fn 100 [.g<|Dr t a,.v<|iV k] [] I (APf I t k) nO:=
 AXK I t a k _ (AAm d) e b c f h
abbrev H3(v:AW):AK:=.cells ((BG v).map .v) 51
def AXz(I){a k b n c}:∀d h (o:Bw),o.op=.binOp .eql 29 (.tmp a) (.const zS) 29->(∀p∈[(a,SV.s k b n c)],h p.1=p.2)->LS prog o h d [] I (.v fV) nO:=by intro d h o e g;have r:=Ds g (s:=a) (x:=.s k b n c) sP;intro ρ s w l _ _ _ _;refine⟨w,?_,Bl.refl w⟩;have i:=l (.tmp a) xO;have j:=l (.const zS) xO;simp[ev,r,AO]at i j;have m:(eqGuard .eql 29 (.tmp a) (.const zS) (.slice (sM ⟨ρ k,b,nO⟩) n c) zS).run prog w=.ok () w:=rfl;have q:(binOp .eql 29 (.slice (sM ⟨ρ k,b,nO⟩) n c) zS).run prog w=.ok fV w:=Lib.run_eql_slice_nil w 29 51 (sM ⟨ρ k,b,nO⟩) n c 0 0 NW;simp[execOp,e,Sem.run_bind,i,j,m,Result.andThen_ok,q];rfl
def APl(I:AB)(d n:Nat)(e:BN)(i:AA AF)(b:AK):zP:=λg h=>∃a c,n<=a/\a<=maxLen/\lN c=(a-n)*d/\h= {r:=.s g 0 n a,AV:=[(1,b)],nb:=[.As (i++c) e],J:=I}
def AAK(v):∀x∈BG v,x.oneCell':=by intro x a;simp[BG]at a;rcases a with rfl|rfl|rfl|rfl|rfl<;>rfl
def ARr(I)(v):Fn 42 [.s 1 0 1 1] [(1,H3 v)] I (APl I 5 1 51 (BG v) (H3 v)) none:=by refine Ju 8 Tryz.func42 Tryz.ntmps42 rfl rfl kR λρ key w a=>gg [(4,.BZ (.binOp .eql 29 (.tmp 3) (.const (.slice none 0 0)) 29) [(3,.s 1 0 1 1)] [] I (.v (.bool false)) (AXz I))]<|act (need:=[(124,.As [] 51),(1,H3 v)]) (Kk (I:=I) Be (n:=0) (x:=.s 1 0 1 1) LU kR List.mem_cons_self rfl rfl sP (Ez (e:=51) sP rfl (AAK v)) (Nat.le_refl _) (by rw[maxLen];omega) oG) (QP rfl) ?_;rintro h' ⟨cap,AE,h1,b,c,rfl⟩;exact gG<|dn [140] ⟨cap,AE,oG,b,by rw[c],sP⟩ (h:={r:=.s (key+0) 0 (0+1) cap,AV:=[(1,H3 v)],nb:=[.As ([]++BG v++AE) 51],J:=I})
def AGo{a:Type}(I:AB)(b:AK)(S:a->SV)(R:AB->a->Prop):zP:=λ_ h=>∃x J,h= {r:=S x,AV:=[(1,b)],J:=J}/\I.le J/\R J x
abbrev AGu(I:AB)(v:AW)(u:Ay):zP:=AGo I (H3 v) (λq:DL=>.t [.g<|Dx u q,.v tV]) λJ q=>C0 J u q
def ATG(I:AB)(v:AW)(c:Ay)(p:DL)(O m:Nat)(AR:AH)(x:TN):Hd where
 Cd:=[(1,.v<|nV O),(4,.v<|.int .u8 AR.toNat),(5,.p 100 0),(10,.p 108 0),(11,.v fV),(12,.s 116 0 (1+x.i) x.cap),(22,.v<|.int iK (m:Nat)),(23,.v<|nV x.i)]
 Cc:=[(1,H3 v),(100,.cells (Dx c p) 48),(108,.cells [.v zS,.v zS,.v zS] 48),(116,.As (Ld (BG v) x.i++x.AE) 51)]
 J:=I
def ATI(I)(c:Ay)(p)(O b:Nat)(v)(a:AH)(g:16<=lN c.AG):Fn 140 [.g<|Dx c p,.v<|nV O,.v<|nV b,.s 1 0 1 1,.v<|.int .u8 a.toNat] [(1,H3 v)] I (BW (.t [.g<|Dx c p,.v fV]) I) nO:=by refine Fn.same ?_ rfl;exact fo func140 λρ e w d=>gg [(16,hT<|(lN c.AG:Int)≥16)]<|dn [] rfl
def ADF(I)(c:Ay)(p)(O d:Nat)(v)(e:AH)(h:C0 I c p)(Y:lN c.AG<16)(N:lN c.stack<=1000000):
 Fn 140 [.g<|Dx c p,.v<|nV O,.v<|nV d,.s 1 0 1 1,.v<|.int .u8 e.toNat] [(1,H3 v)] I (AGu I v {c with AG:=c.AG++[⟨O,0,lN c.stack,e,[v]++List.replicate (min d 16) (BH 0)⟩]}) nO:=by
 have u:BG v=([v]:AA AW).flatMap BG:=sP;refine fo func140 λρ P w G=>gg [(16,hF<|(lN c.AG:Int)≥16)]<|A0 (ARr I v) [(1,1)] ?_;rintro _ ⟨g,k,z,B,L,rfl⟩;refine gg [(21,OU I #[3,3] d 0 d oG),(22,ADp I #[3,3] d 16 ((min d 16:Nat):Int) oG)]<|loop (ι:=TN) (λx=>x.i<=min d 16/\1+x.i<=x.cap/\x.cap<=maxLen/\lN x.AE=(x.cap-(1+x.i))*5) (λx=>min d 16-x.i)
  (ATG I v c p O (min d 16) e) 300 [(116,164)] ⟨0,g,k⟩ ⟨Bm _,z,B,by simpa using L⟩ ?_
 rintro⟨i,g,k⟩ ⟨H,q1,q2,q3⟩ again T;simp only at H q1 q2 q3;have s:Ld (BG v) i=(Im [v] i).flatMap BG:=by rw[u];exact UK [v] i
 by_cases M:i<min d 16;refine gg [(24,hT<|(i:Int)<((min d 16:Nat):Int))]<|act (need:=[(116,.As (Ld (BG v) i++k) 51),(324,.cells ((BG<|BH 0).map .v) 51)]) (Kk (I:=I) Be (vs:=Ld (BG v) i++k) (CQ:=Ld (BG v) i) (news:=BG<|BH 0) (x:=.s 324 0 1 1) LU kR sP ?_ ?_ (λv y=>Pn v<|by rw[s]at y;exact y) (Ez (e:=51) sP rfl<|AAK _) q1 q2 oG) (QP rfl) ?_;rw[CK,s,UH,q3];simp[Im,CK,AGY,O3];rw[<-Gm];congr 1;omega;rw[O5];rw[s,UH];simp[Im];omega;rintro X ⟨l,q,Z,Q,S,rfl⟩;refine gg [(29,sH i)] ?_;exact bk again [(116,332)] ⟨i+1,l,q⟩ ⟨by show i+1<=_;omega,by show 1+(i+1)<=l;omega,Q,by show lN q=(l-(1+(i+1)))*5;rw[S];congr 1⟩;have C:i=min d 16:=oG;subst C;refine go func140 [(24,hF<|(((min d 16:Nat)):Int)<((min d 16:Nat):Int))] 8 kR<|B4 116 I (vs:=Ld (BG v) (min d 16)++k) (e:=51) λb J hle _ E=> ?_;rw[s]at E;refine gG<|KR (YM J p.fa (lN c.AG) p.fc p.fl O 0 (lN c.stack) e.toNat (aP b) (1+min d 16) g h.f.cap oG<|h.f.sl.up hle) λa m K j U V W=>gG ?_;have D:lN (Im [v]<|min d 16)=1+min d 16:=by simp[Im];omega
 have t:F3 K (Im [v]<|min d 16) (aP b) g ((Im [v]<|min d 16).flatMap BG):=Av.Ky (j _ _ E) (Rows.flat.2 rfl) Jd (λv y=>Pn v y) oG q2;have o:(c.AG++[(⟨O,0,lN c.stack,e,[v]++List.replicate (min d 16) (BH 0)⟩:Cw)]).length=lN c.AG+1:=sP;have hnew:C0 K {c with AG:=c.AG++[⟨O,0,lN c.stack,e,[v]++List.replicate (min d 16) (BH 0)⟩]} {p with fa:=a,fc:=m,fl:=p.fl++[.int iK O,.int iK 0,.int iK<|lN c.stack,.int .u8 e.toNat,.slice (aP b) (1+min d 16) g]}:=by refine⟨⟨by rwa[o],by rwa[o],V,?_⟩,(h.up<|hle.trans j).s,(h.up<|hle.trans j).t⟩;refine(h.f.CE.mono<|Nl<|hle.trans j).append<|Rows.one ⟨sM ⟨b,0,nO⟩,g,_,?_,t⟩;show _=[_,_,_,_,Value.slice (aP b) (lN<|Im [v]<|min d 16) g];rw[D];rfl
 refine dn [] ⟨_,K,?_,hle.trans j,hnew⟩ (h:={r:=.t [.g [.v<|.slice a (lN c.AG+1) m,.v<|.slice p.sa (lN c.stack) p.sc,.v<|.slice p.ta (lN c.AP) p.tc],.v tV],AV:=[(1,H3 v)],J:=K});simp[Dx]
def ACg{a c v u}(k)(h:Fn 140 a [(1,H3 v)] c (AGu c v u) nO)(b:FH f n 140 [(1,k)] [(1,H3 v)] a c)(hnext:∀(q:DL)(J:AB),c.le J->C0 J u q->At F O n I w ρ A R (f.out (BA [(1,k)]) {r:=.t [.g<|Dx u q,.v tV],AV:=[(1,H3 v)],J:=J})):At F O n I w ρ A R f:=
 A0 h [(1,k)] (hobs:=b) λh d=>by obtain⟨x,J,rfl,hle,q⟩:=d;exact hnext x J hle q
structure ABv(I:AB)(t:AL)(a:DV)(l:AT):Prop where
 pow:Pow I
 AC:DZ I t a
 Bg:CB t.Bg
 A7:t.A7<=1000000
 Ao:t.Ao<=1000000
 XN:lN t.AI<=900000
 len:Kf t.c
 Cj:B9 l
 g:Mh t.g
abbrev AI1(t:AL)(a:DV)(O e:Nat)(arg:AW)(c:AH)(l:AT)(b d:Int)(g:Nat):AA SV:=[.g<|Dr t a,.v<|nV O,.v<|nV e,Do arg,.v<|.int .u8 c.toNat,DW l,.v<|nV b,.v<|nV d,.v<|nV g]
def Acr(I t a)(O h:Nat)(arg g l)(b c:Int)(m:Nat)(e:Int)(S:ABv I t a l)(d:Js t O h arg g l b c m=.inr e):Fn 317 (AI1 t a O h arg g l b c m) [] I (BW (.t [.g<|Dr t a,.v<|nV e]) I) nO:=by
 have i:=Z6 I S.pow t a S.Bg S.A7 S.Ao;have C:=S.len.f;have D:=S.len.s;refine fo func317 λρ y w v=> ?_;rw[Js]at d;by_cases r:b<1\/1000<b;rw[Ac r]at d;cases d;by_cases k:b<1;exact gg [(27,hT (b<1) k)]<|fi;exact gg [(27,hF (b<1) k),(30,hT<|b>1000)]<|fi;rw[AY r]at d;by_cases s:c<0\/999<c;rw[Ac s]at d;cases d;by_cases k:c<0;exact gg [(27,hF<|b<1),(30,hF<|b>1000),(34,hT (c<0) k)]<|fi;exact gg [(27,hF<|b<1),(30,hF<|b>1000),(34,hF (c<0) k),(37,hT<|c>999)]<|fi;rw[AY s]at d;refine gg [(27,hF<|b<1),(30,hF<|b>1000),(34,hF<|c<0),(37,hF<|c>999)]<|call (Pz I t.g l S.g S.Cj) ?_;by_cases p:Dh t.g l≠0;rw[Ac p]at d;cases d;exact gg [(45,Fs (Dh t.g l) 0 p)]<|fi;rw[AY p]at d;refine gg [(45,EN (Dh t.g l) 0)] ?_;cases o:GI t with
 |none=>
  rw[o]at d;cases d;rw[show I7 t=(t,[],fF) by rw[I7];rw[o]]at i;refine call i ?_;by_cases j:(t.Ao:Int)<=c;exact gg [(57,hT ((t.Ao:Int)<=c) j)]<|fi;exact gg [(57,hF ((t.Ao:Int)<=c) j)]<|fi
 |some B=>
  let⟨u,z⟩:=B;rw[o]at d;rw[show I7 t=(u,z,tT) by rw[I7];rw[o]]at i;refine call i ?_;simp only at d;by_cases j:(t.Ao:Int)<=c;rw[Ac j]at d;cases d;exact gg [(57,hT ((t.Ao:Int)<=c) j)]<|fi;rw[AY j]at d;refine gg [(57,hF ((t.Ao:Int)<=c) j)] ?_;rw[Gc]at d;by_cases q:16<=lN t.c.AG;rw[Ac q]at d;cases d;exact IG (ATI I t.c a.p O h arg g q) [(1,476)]<|gG<|fi;rw[AY q]at d;cases d
def AI2(t u:AL)(h:Nm)(O d:Nat)(arg:AW)(b:AH)(l:AT)(a Ao:Int)(e:Nat):AL:=
 let s:Dc:=⟨h,A4 l,e+a.toNat,lN t.c.AG,lN t.c.stack,lN t.c.AP,t.g,t.Bg,u.A7,u.Ao-Ao.toNat⟩
 {u with AI:=t.AI++[s],c:={t.c with AG:=t.c.AG++[⟨O,0,lN t.c.stack,b,[arg]++List.replicate (min d 16) (BH 0)⟩]},g:=⟨u.g.Ad,s.l⟩,Bg:=h,A7:=0,Ao:=Ao.toNat}
def ATK{t o}{O d:Nat}{arg c l}{a Ao:Int}{AD:Nat}(h:Js t O d arg c l a Ao AD=.inl o):
 ¬(a<1\/1000<a)/\¬(Ao<0\/999<Ao)/\Dh t.g l=0/\¬(t.Ao:Int)<=Ao/\lN t.c.AG<16/\∃e,GI t=sM ({t with A7:=t.A7+1,Ao:=t.Ao-1},e)/\o=AI2 t {t with A7:=t.A7+1,Ao:=t.Ao-1} e O d arg c l a Ao AD:=by
 rw[Js]at h;by_cases g:a<1\/1000<a;rw[Ac g]at h;cases h;rw[AY g]at h;by_cases i:Ao<0\/999<Ao;rw[Ac i]at h;cases h;rw[AY i]at h;by_cases k:Dh t.g l≠0;rw[Ac k]at h;cases h;rw[AY k]at h;cases b:GI t with
 |none=>rw[b]at h;cases h
 |some q=>
  let⟨u,e⟩:=q;rw[b]at h;simp only at h;by_cases j:(t.Ao:Int)<=Ao;rw[Ac j]at h;cases h;rw[AY j]at h;rw[Gc]at h;by_cases m:16<=lN t.c.AG;rw[Ac m]at h;cases h;rw[AY m]at h;have p:u= {t with A7:=t.A7+1,Ao:=t.Ao-1}:=by rw[GI]at b;split at b;cases b;split at b;cases b;rfl;cases b
  subst p;refine⟨g,i,oG,j,oG,e,rfl,?_⟩;cases h;rfl
def Acs(I t u a)(O j:Nat)(arg i l)(d Ao:Int)(k:Nat)(S:ABv I t a l)(T:k<=1000000)(V:Js t O j arg i l d Ao k=.inl u):Fn 317 (AI1 t a O j arg i l d Ao k) [] I (He I (λq:DV=>.t [.g<|Dr u q,.v<|.int iK 0]) λJ q=>DZ J u q) nO:=by
 obtain⟨h1,h2,Y,Z,h5,M,hn,rfl⟩:=ATK V;have H:=Z6 I S.pow t a S.Bg S.A7 S.Ao;rw[show I7 t=({t with A7:=t.A7+1,Ao:=t.Ao-1},M,tT) by rw[I7];rw[hn]]at H;have X:=Pz I t.g l S.g S.Cj;rw[Y]at X;have l1:=S.len.f;have l2:=S.len.s;have l3:=S.XN;have l4:=S.A7;have l5:=S.Ao;obtain⟨m,rfl⟩:∃m:Nat,Ao=(m:Int):=⟨Ao.toNat,oG⟩;obtain⟨y,rfl⟩:∃y:Nat,d=(y:Int):=⟨d.toNat,oG⟩;refine fo func317 λρ aa w G=>gg [(27,hF<|(y:Int)<1),(30,hF<|(y:Int)>1000),(34,hF<|(m:Int)<0),(37,hF<|(m:Int)>999)]<|call X<|gG<|call H<|gg [(57,hF ((t.Ao:Int)<=(m:Int)) Z)]<|ACg 476 (ADF I t.c a.p O j arg i S.AC.c h5 oG) kR λq J hle U=>gg [(82,hW ((k:Int)+(y:Int)) ((k+y:Nat):Int)),(104,hW (((t.Ao-1:Nat):Int)-(m:Int)) ((t.Ao-1-m:Nat):Int))]<|call (UU J l S.Cj)<|gG ?_;refine call (ACo J a.ca (lN t.AI) a.cc S.AC.s.cap)<|gG ?_;obtain⟨s,W⟩:∃s:Dc,s=⟨M,A4 l,k+y,lN t.c.AG,lN t.c.stack,lN t.c.AP,t.g,t.Bg,t.A7+1,t.Ao-1-m⟩:=⟨_,rfl⟩;have x:∀v∈Hl s,v.oneCell':=by intro v p;simp[Hl]at p;rcases p with rfl|rfl|rfl|rfl|rfl|rfl|rfl|rfl|rfl|rfl|rfl|rfl|rfl|rfl<;>rfl
 have D:=S.AC.s.sl.up hle;refine act (hobs:=by subst W;exact kR) (MM (I:=J) Be (l:=.v<|.slice a.ca (lN t.AI)<|lN t.AI) (x:=.s 844 0 1 1) AHV kR rfl D.reads (Ez (e:=114) (A9.2 rfl) rfl x) (Ag _) oG (λe=> ?_) oG) M4 ?_;rcases D.at_ with h|⟨b,ab,arr,e',fr,N,_⟩;exact h;rw[e]at N;cases N;rintro N ⟨z,L,r1,r2,r3,rfl⟩;refine go func317 [] 3 kR<|B4 852 J (vs:=a.cl++Hl s++L) (e:=114) λb K o _ hJ=>gG ?_;have C:Rows Ll (t.AI++[s]) (a.cl++Hl s):=S.AC.s.CE.append<|Rows.one rfl;have el:lN (t.AI++[s])=lN t.AI+1:=sP;have Q:Av K Ll 14 (t.AI++[s]) (aP b) z (a.cl++Hl s):=Av.Ky hJ C XO (λv p=>by rcases Bc.1 p with p|p;exact D.one v p;exact x v p) (by rwa[el]) r2
 obtain⟨E,B⟩:∃E:Ay,E= {t.c with AG:=t.c.AG++[⟨O,0,lN t.c.stack,i,[arg]++List.replicate (min j 16) (BH 0)⟩]}:=⟨_,rfl⟩;have e:AI2 t {t with A7:=t.A7+1,Ao:=t.Ao-1} M O j arg i l y m k= {t with AI:=t.AI++[s],c:=E,g:=⟨t.g.Ad,A4 l⟩,Bg:=M,A7:=0,Ao:=m}:=by subst W B;rfl
 rw[e];rw[<-B]at U;refine done func317 G [] (h:={r:=.t [.g [.v<|sV t.id,.v<|sV M,.v<|vS<|AJ t.g.Ad.1,.v<|vS<|AJ t.g.Ad.2,.v<|vS<|AJ (A4 l).1,.v<|vS<|AJ (A4 l).2,.v<|.slice q.fa (lN E.AG) q.fc,.v<|.slice q.sa (lN E.stack) q.sc,.v<|.slice q.ta (lN E.AP) q.tc,.v<|.slice (aP b) (lN t.AI+1) z,.v<|.int iK (0:Nat),.v<|nV m,.v<|nV t.Aw,.v<|sV t.on,.v<|nV t.v.kind,.v<|nV t.v.n,.v<|sV t.v.name,.v<|vS<|AJ t.v.l.1,.v<|vS<|AJ t.v.l.2,.v<|vB t.ex],.v<|.int iK 0],J:=K}) (by subst B;exact kR) ⟨⟨q,sM ⟨b,0,nO⟩,z,a.cl++Hl s⟩,K,?_,hle.trans o,⟨U.up o,Q⟩⟩;simp[Dr,el]
def FY(I:AB)(o:Ob)(q:Em):Prop:=ML I o.var q
def FY.up{I J o q}(h:FY I o q)(hle:I.le J):FY J o q:=ML.up h hle
abbrev APk(I:AB)(o:Ob):zP:=He I (λq:Em=>.g<|Fx o q) λJ q=>FY J o q
def Yp(I o q)(i:lN o.var.q<=1000000)(h:FY I o q):Fn 85 [.g<|Fx o q] [] I (APk I o) nO:=by have b:Nj I o.var.q q.a q.c q.l:=h;exact fo func85 λj d w a=>gG<|KR (Yk I q.a (lN o.var.q) q.c q.l oG b.sl) λc m J hle e f g=>gG<|dn [] ⟨⟨c,m,q.l⟩,J,rfl,hle,⟨g,e,f,b.CE⟩⟩
def APt(I:AB):zP:=λa h=>h= {r:=.p (a+2) 0,nb:=[.Ey [] [],.Ey [] [],.cells [.m a,.m<|a+1] 178],J:=I}
def AYk(I):Fn 87 [] [] I (APt I) nO:=fo func87 λc b w a=>gG<|dn [108,116,132] rfl
def GK(o:Ob)(q:Em):AA AF:=[.int iK o.kind,vS<|AJ o.l.1,vS<|AJ o.l.2,.int iK o.v.kind,.int iK o.v.n,vS<|Aa o.v.name,vS<|AJ o.v.l.1,vS<|AJ o.v.l.2,vB o.ex,vB o.done,
 vB o.var.full,.int iK o.var.v.kind,.int iK o.var.v.n,vS<|Aa o.var.v.name,vS<|AJ o.var.v.l.1,vS<|AJ o.var.v.l.2,.slice q.a (lN o.var.q) q.c,.int iK o.fn,.int .u8 o.AR.toNat]
def ALp(o q):Fx o q=(GK o q).map .v:=rfl
def JK(I:AB)(e:Ar)(p:Nm×Ob):Prop:=e.key=vS (Aa p.1)/\∃q,e.val=.agg (GK p.2 q).toArray/\FY I p.2 q
def JK.up{I J e p}(h:JK I e p)(hle:I.le J):JK J e p:=⟨h.1,h.2.imp λq ⟨a,b⟩=>⟨a,b.up hle⟩⟩
inductive C5{c β:Type}(R:c->β->Prop):AA c->AA β->Prop
 |nil:C5 R [] []
 |cons {a b l m}:R a b->C5 R l m->C5 R (a::l) (b::m)
structure Ic(es:Ae Ar)(n:Nat):Prop where
 lt:∀x∈es.toList,x.born<n
 nd:(es.toList.map (·.born)).Nodup
theorem Ic.nil(n):Ic #[] n:=⟨sP,sP⟩
def Ic.push{d n}(h:Ic d n)(k v):Ic (d.push {key:=k,val:=v,born:=n}) (n+1):=by
 refine⟨λx c=> ?_,?_⟩;simp only[P5,Bc,A9]at c;rcases c with c|rfl;have:=h.lt x c;omega;exact Xv _;rw[P5,E3,Gl];refine⟨h.nd,sP,λa f b e=> ?_⟩;obtain⟨x,c,rfl⟩:=BI.1 f;have e:b=n:=by simpa using e
 have:=h.lt x c;omega
def Ic.modify{a n}(h:Ic a n)(j f)(d:∀e,(f e).born=e.born):Ic (a.modify j f) n:=by
 have c:∀(l:AA Ar)(j:Nat),(l.modify j f).map (·.born)=l.map (·.born):=by
  intro l;induction l with
  |nil=>intro j;simp
  |cons x l k=>intro j;cases j with
   |zero=>simp[d]
   |succ j=>simp[k]
 have b:(a.modify j f).toList.map (·.born)=a.toList.map (·.born):=by rw[AGF];exact c _ _
 refine⟨λx g=> ?_,by rw[b];exact h.nd⟩;have:x.born∈(a.modify j f).toList.map (·.born):=BI.2 ⟨x,g,rfl⟩;rw[b]at this;let⟨y,i,e⟩:=BI.1 this;rw[<-e];exact h.lt y i
structure C9(I:AB)(s:Az)(es:Ae Ar)(ck:Nat):Prop where
 perm:∃l,l.Perm s/\C5 (JK I) es.toList l
 nd:(s.map (·.1)).Nodup
 nm:∀p∈s,BV p.1
 bo:Ic es ck
def AUp{l s}(h:l.Perm s)(a:(s.map (·.1)).Nodup)(n):Am l n=Am s n:=by
 induction h with
 |nil=>rfl
 |cons x h g=>
  simp[E4,GX]at a;unfold Am at g⊢;rw[KH,KH];split;rfl;exact g a.2
 |swap x y l=>
  simp[E4,GX,Co,Jk]at a;unfold Am;rw[KH,KH,KH,KH];by_cases c:(x.1==n);by_cases b:(y.1==n);exact absurd ((eq_of_beq c).trans (eq_of_beq b).symm) (by intro e;exact a.1.1 e);simp[c,b];by_cases b:(y.1==n);simp[c,b];simp[c,b]
 |trans j i d f=>
  rw[d<|(i.map _).nodup_iff.2 a,f a]
def AJI{I}{n}(d:BV n): ∀ {es:List MapEntry} {l:Az} (i:Nat),C5 (JK I) es l->(∀p∈l,BV p.1)->
 (Am l n=none->Instr.findNow .string (.string (Aa n)) es i=some none)/\(∀o,Am l n=some o->∃j q,Instr.findNow .string (.string (Aa n)) es i=some (some (i+j,.agg (GK o q).toArray))/\FY I o q/\es[j]?.map (·.key)=some (.string (Aa n)))
 |_,_,i,.nil,_=>⟨λ_=>rfl,λo h=>by cases h⟩
 |_,_,i,.cons (a:=e) (b:=p) (l:=es) (m:=l) ⟨h1,q,g,k⟩ b,hm=>by
  have f:=AJI d (i+1) b λp hp=>hm p (List.mem_cons_of_mem _ hp);have hp:=hm p sP;have hs:Instr.sameNow .string (.string (Aa n)) e.key=some (decide (n=p.1)):=by
   let⟨r,b,a⟩:=MapKept.sameNow_of_keys (d:=.string) (a:=.string (Aa n)) (b:=e.key) trivial (by rw[h1];trivial);rw[b];congr 1;have:r=true↔n=p.1:=by rw[a,h1];constructor;intro h;simp[Value.string.injEq]at h;exact Of d hp (str_inj.1 (congrArg ByteArray.toList h));rintro rfl;rfl
   by_cases h:n=p.1;rw[decide_eq_true h];exact this.2 h;rw[decide_eq_false h];exact Bool.eq_false_iff.2 λb=>h (this.1 b)
  rw[Instr.findNow];rw[hs];rw[Am];rw[List.find?_cons];by_cases h:n=p.1;have hb:(p.1==n)=true:=by rw[h];simp
  rw[decide_eq_true h,hb];refine⟨λh=>(by simp at h),λo c=> ?_⟩;simp at c;subst c;exact⟨0,q,by rw[g];rfl,k,by simp[h1,h]⟩;have hb:(p.1==n)=false:=beq_eq_false_iff_ne.2 λe=>h e.symm;rw[decide_eq_false h,hb];refine⟨f.1,λo c=> ?_⟩;let⟨j,q',r1,r2,r3⟩:=f.2 o c;exact⟨j+1,q',by rwa[show i+(j+1)=i+1+j by omega],r2,by simpa using r3⟩
def C9.find{I s es ck}(h:C9 I s es ck){n}(b:BV n):
 (Am s n=none->Instr.findNow .string (.string (Aa n)) es.toList 0=some none)/\(∀o,Am s n=some o->∃j q,Instr.findNow .string (.string (Aa n)) es.toList 0=some (some (j,.agg (GK o q).toArray))/\FY I o q/\es[j]?.map (·.key)=some (.string (Aa n))):=by
 let⟨l,hp,ha⟩:=h.perm;have:=AJI (I:=I) b 0 ha λp a=>h.nm p (hp.mem_iff.1 a);rw[AUp hp h.nd]at this;refine⟨this.1,λo c=> ?_⟩;let⟨j,q,r1,r2,r3⟩:=this.2 o c;exact⟨j,q,by rw[Nat.zero_add]at r1;exact r1,r2,by simpa using r3⟩
def YF{b:Type}(I:AB)(a:AA<|Nat×AK)(S:b->SV)(R:AB->b->Prop):zP:=λ_ h=>∃x J,h= {r:=S x,AV:=a,J:=J}/\I.le J/\R J x
abbrev AcI:AK:=.cells [.m 2,.m 3] 178
abbrev LB(a b:Ae Ar)(n m:Nat):AA (Nat×AK):=[(1,AcI),(2,.Aq<|.map a n),(3,.Aq<|.map b m)]
def ABM:∀w,(zeroValue 87).run prog w=.ok (.agg (GK Db HY).toArray) w:=by have h:(prog.info? 87).map (λi=>i.zero)=sM (sM<|.agg (GK Db HY).toArray):=kR;let⟨i,a,b⟩:=L9.1 h;intro w;simp[zeroValue,typeInfo,a,b,Result.andThen]
def Di:prog.underlying 9=sM .string:=kR
def Qc(s:Az)(n:Nm):Ob×Bool:=match Am s n with|some o=>(o,tT)|none=>(Db,fF)
abbrev APT(I:AB)(a:AA<|Nat×AK)(r:Ob×Bool):zP:=YF I a (λq:Em=>.t [.g<|Fx r.1 q,.v<|vB r.2]) λJ q=>FY J r.1 q
def NY{I}:FY I Db HY:=⟨Dk.nil,Ag _,by show 0<=maxLen;rw[maxLen];omega,rfl⟩
def WJ(I s b k n m a)(r:BV a)(p:∀o,Am s a=sM o->lN o.var.q<=1000000)(h:C9 I s b n):Fn 31 [.p 1 0,.v<|sV a] (LB b k n m) I (APT I (LB b k n m)<|Qc s a) nO:=by
 have g:=h.find r;refine fo func31 λv t w i=> ?_;rw[Qc];cases d:Am s a with
 |some o=>
  let⟨j,q,c,l,u⟩:=g.2 o d;exact gg [(14,.BZ (.lookup 175 (.tmp 12) (.tmp 13) tT) [(12,.m 2),(13,.v<|sV a)] [(2,.Aq<|.map b n)] I (.t [.g<|(GK o q).map .v,.v tV])<|Qu Be (L:=Bt) (t:=175) (a:=12) (b:=13) (km:=2) (n:=n) (kt:=9) (et:=87) (d1:=.string) (es:=b) (kv:=vS<|Aa a) (j:=j) (xs:=GK o q) rfl Di trivial c)]<|Cz (Yp I o q (p o d) l) λf J hle e=>gG<|dn [] ⟨f,J,rfl,hle,e⟩
 |none=>
  have c:=g.1 d;refine gg [(14,.BZ (.lookup 175 (.tmp 12) (.tmp 13) tT) [(12,.m 2),(13,.v<|sV a)] [(2,.Aq<|.map b n)] I (.t [.g<|(GK Db HY).map .v,.v fV])<|UN Be (L:=Bt) (t:=175) (a:=12) (b:=13) (km:=2) (n:=n) (kt:=9) (et:=87) (d1:=.string) (es:=b) (kv:=vS<|Aa a) (zs:=GK Db HY) rfl Di trivial ABM c)]<|Cz (Yp I Db HY (by show 0<=_;omega) NY) λf J hle e=> ?_;exact gG<|dn [] ⟨f,J,rfl,hle,e⟩
def AIz{I n}(b:BV n):∀ {a:AA Ar} {l:Az} {j:Nat},C5 (JK I) a l->(∀p∈l,BV p.1)->a[j]?.map (·.key)=sM (sV n)->n∈l.map (·.1)
 |_,_,j,.nil,_,h=>by simp at h
 |_,_,0,.cons (a:=e) (b:=p) h1 hr,hm,h=>by simp at h;rw[h1.1]at h;simp[Value.string.injEq]at h;have:=Of (hm p sP) b<|str_inj.1<|Dt ByteArray.toList h;simp[this]
 |_,_,j+1,.cons h1 hr,hm,h=>by have:=AIz b hr (λp c=>hm p<|DY _ c) (by simpa using h);exact DY _ this
def C5.up{I J}(hle:I.le J):∀ {a:AA Ar} {l:Az},C5 (JK I) a l->C5 (JK J) a l
 |_,_,.nil=>.nil
 |_,_,.cons h hr=>.cons (h.up hle)<|hr.up hle
def C9.up{I J s c ck}(h:C9 I s c ck)(hle:I.le J):C9 J s c ck:=⟨h.perm.imp λ_ ⟨a,b⟩=>⟨a,b.up hle⟩,h.nd,h.nm,h.bo⟩
def AE7(n:Nm)(o:Ob)(q:Em)(e:Ar):Ar:={e with key:=vS<|Aa n,val:=.agg (GK o q).toArray}
def Ml(n:Nm)(o:Ob)(x:Nm×Ob):Nm×Ob:=if x.1==n then(n,o)else x
def AHK{I J n o q}(hle:I.le J)(g:BV n)(r:FY J o q):∀ {a:AA Ar} {l:Az} {j:Nat},C5 (JK I) a l->(l.map (·.1)).Nodup->(∀p∈l,BV p.1)->a[j]?.map (·.key)=sM (sV n)->C5 (JK J) (a.modify j<|AE7 n o q) (l.map<|Ml n o)
 |_,_,j,.nil,_,_,h=>by simp at h
 |_,_,0,.cons (a:=e) (b:=p) (l:=a) (m:=l) h1 hr,b,hm,h=>by
  simp at h;rw[h1.1]at h;simp only[Value.string.injEq]at h;have k:=Of (hm p sP) g<|str_inj.1<|Dt ByteArray.toList h;simp only[E4,GX]at b;have s:l.map (Ml n o)=l:=by
   have:∀x∈l,Ml n o x=x:=λx u=>by rw[Ml];rw[AY];intro f;exact b.1 (by rw[k,<-eq_of_beq f];exact BI.2 ⟨x,u,rfl⟩)
   rw[JD this];simp
  rw[E4,s];refine .cons ?_<|hr.up hle;have:Ml n o p=(n,o):=by rw[Ml];rw[Ac<|by rw[k];simp]
  rw[this];exact⟨rfl,q,rfl,r⟩
 |_,_,j+1,.cons (a:=e) (b:=p) (l:=a) (m:=l) h1 hr,b,hm,h=>by
  simp only[E4,GX]at b;have c:∀p∈l,BV p.1:=λp t=>hm p<|DY _ t;have m:a[j]?.map (·.key)=sM (sV n):=by simpa using h
  have i:Ml n o p=p:=by rw[Ml];rw[AY];intro f;exact b.1 (by rw[eq_of_beq f];exact AIz g hr c m)
  rw[E4,i];exact .cons (h1.up hle)<|AHK hle g r hr b.2 c m
def AMP{n o}(x):(Ml n o x).1=x.1:=by rw[Ml];split;rename_i h;exact(eq_of_beq h).symm;rfl
theorem C9.put{I J s b n o q j ck}(h:C9 I s b ck)(hle:I.le J)(i:BV n)(k:FY J o q)(f:b[j]?.map (·.key)=sM (sV n)):C9 J (s.map<|Ml n o) (b.modify j<|AE7 n o q) ck:=by
 let⟨l,c,e⟩:=h.perm;have g:∀p∈l,BV p.1:=λp a=>h.nm p<|c.mem_iff.1 a;have r:(l.map (·.1)).Nodup:=(c.map _).nodup_iff.2 h.nd;have d:(s.map<|Ml n o).map (·.1)=s.map (·.1):=by rw[Gk];exact JD λx _=>AMP x
 refine⟨⟨l.map<|Ml n o,c.map _,?_⟩,by rw[d];exact h.nd,λp a=> ?_,h.bo.modify _ _ λ_=>rfl⟩;rw[AGF];exact AHK hle i k e r g (by simpa using f);obtain⟨x,m,rfl⟩:=BI.1 a;rw[AMP];exact h.nm x m
def T4(I:AB)(x y:Nat)(a b:AT)(r:Bool)(c:decide (a=b)=r)(d:BN:=42):Hint:=
 .BZ (.binOp .neq 42 (.tmp x) (.tmp y) d) [(x,DW a),(y,DW b)] [] I (.v<|vB<|!r)<|AK2 dC λ_ w=>c▸eqL w
def Pw:prog.underlying 175=sM (.map 9 87):=kR
def XQ(s:Az)(n:Nm)(o:Ob):Nat:=match Am s n with
 |none=>10
 |some w=>if w.kind≠o.kind\/w.l≠o.l then 11 else 0
def APr(I:AB)(e:Az)(d:Ae Ar)(m a:Nat):zP:=λ_ h=>∃(b:Ae Ar)(c:Nat)(J:AB),I.le J/\C9 J e b c/\h= {r:=.v<|nV a,AV:=LB b d c m,J:=J}
def ANS(I s c D n m e o q)(C:BV e)(E:lN o.var.q<=1000000)(F:FY I o q)(h:C9 I s c n):Fn 145 [.p 1 0,.v<|sV e,.g<|Fx o q] (LB c D n m) I (APr I (Cn s e o) D m<|XQ s e o) nO:=by
 have z:=h.find C;refine fo func145 λK G w B=> ?_;rw[Cn,XQ];cases A:Am s e with
 |none=>
  have p:=z.1 A;exact gg [(15,.BZ (.lookup 175 (.tmp 13) (.tmp 14) tT) [(13,.m 2),(14,.v<|sV e)] [(2,.Aq<|.map c n)] I (.t [.g<|(GK Db HY).map .v,.v fV])<|UN Be (L:=Bt) (t:=175) (a:=13) (b:=14) (km:=2) (n:=n) (kt:=9) (et:=87) (d1:=.string) (es:=c) (kv:=vS<|Aa e) (zs:=GK Db HY) rfl Di trivial ABM p)]<|dn [] ⟨c,n,I,AB.le_refl _,h,rfl⟩
 |some u=>
  let⟨j,H,p,M,y⟩:=z.2 u A;simp only;have a:=Qu Be (L:=Bt) (t:=175) (a:=13) (b:=14) (km:=2) (n:=n) (kt:=9) (et:=87) (d1:=.string) (es:=c) (kv:=vS<|Aa e) (j:=j) (xs:=GK u H) (I:=I) rfl Di trivial p;by_cases g:u.kind=o.kind;by_cases f:u.l=o.l;rw[AY<|by simp[g,f],AY<|by simp[g,f]];refine gg [(15,.BZ _ [(13,.m 2),(14,.v<|sV e)] [(2,.Aq<|.map c n)] I _ a),(24,EN (u.kind:Int) (o.kind:Int)),(30,T4 I 27 29 u.l o.l tT<|G5 f)]<|Cz (Yp I o q E F) λt J hle x=>gG<|act (need:=[(2,.Aq<|.map c n)]) (AVS (I:=J) (km:=2) (n:=n) (n':=n) (kv:=vS<|Aa e) (v:=.agg (GK o t).toArray) (sx:=.g<|Fx o t) (es:=c) (es':=c.modify j<|AE7 e o t) (t:=175) (m:=.tmp 35) (k:=.tmp 36) (x:=.tmp 38) kR kR kR kR (λK=>by rw[ALp];simp[AO];rw[Gw]) (A9.2 rfl) λw r i=>ALP (kv:=vS<|Aa e) (v:=.agg (GK o t).toArray) Pw Di trivial p y w r i) ?_ ?_;rintro h rfl;refine{r:=nA,u:=λN v=> ?_,n:=nA,l:=by simp,le:=AB.Hj _,d:=by simp};rw[A9.1 v];exact⟨A9.2 rfl,λb i=>by rw[(IC<|A9.1 i).2];rfl,nA⟩;rintro L rfl;exact gG<|dn [] ⟨_,n,J,hle,h.put hle C x y,rfl⟩;rw[Ac<|.inr f,Ac<|.inr f];exact gg [(15,.BZ _ [(13,.m 2),(14,.v<|sV e)] [(2,.Aq<|.map c n)] I _ a),(24,EN (u.kind:Int) (o.kind:Int)),(30,T4 I 27 29 u.l o.l fF<|Gp f)]<|dn [] ⟨c,n,I,AB.le_refl _,h,rfl⟩;rw[Ac<|.inl g,Ac<|.inl g];exact gg [(15,.BZ _ [(13,.m 2),(14,.v<|sV e)] [(2,.Aq<|.map c n)] I _ a),(24,Fs (u.kind:Int) (o.kind:Int))]<|dn [] ⟨c,n,I,AB.le_refl _,h,rfl⟩
theorem Kl{d a b I' l g G k}(h:Fn G a b I' g<|sM k)(i)
 (hend:∀h,g (EL f) h->∃u,Is (f.σ.EV nO (EL f)<|h.rn<|BA i) A=sM u/\GM (Ip u) A/\l d {r:=.v undef,AV:=u,J:=(f.σ.EV nO (EL f)<|h.rn<|BA i).im}) (hobs:FH f n G i b a I':=by exact kR):At F O n I w ρ A (Ends A I ρ d w l<|sM k) f:=
 ⟨λ_=>by
   rw[<-Vb];exact ACl (c:=ctx prog F O n I w ρ A) h.out h.Gb i _ hobs (λ_ _ _ w s q=>(w.u s q).1) (λe=>by cases e) λc e h j=>by cases e;let⟨u,m,o,p⟩:=hend h j;exact AZa m rfl o p⟩
def Hg(n:Int):AA PanicEntry:=[{v:=.iface 295<|.agg #[.int iK n],recovered:=fF}]
theorem ATk(n:Int)(w):Calls prog 312 #[.int iK n] w λe a=>e=.panicked (Hg n)/\w=a:=by
 go_enter func312,ntmps312
 go_wp2
 first|exact⟨rfl,rfl,rfl⟩|exact⟨rfl,⟨rfl,rfl⟩⟩|(simp[bodyPost,Hg];done)
def ACC(I:AB)(a:AA<|Nat×AK):zP:=λ_ h=>h= {r:=.v undef,AV:=a,J:=I}
theorem AeC{I}:VZ (ACC I []) [] I:=by refine⟨?_⟩;rintro e h rfl;exact⟨⟨nA,nA,nA,sP,sP⟩,AB.le_refl _⟩
theorem Tt(I)(n:Int):Fn 312 [.v<|nV n] [] I (ACC I []) (sM<|Hg n):=by refine⟨FC.of AeC.EA.out λρ l w d hN g _ _=> ?_,AX.JL func312 kR kR⟩;refine(ATk n w).mono ?_;rintro e p ⟨rfl,rfl⟩;exact⟨_,λ_=>0,rfl,⟨rfl,rfl,rfl,Ag _,λb a _ _=>rfl,nA,(λj b k=>by simp at k),(λi j h=>by simp at h),g,λb o a=>.inl a,λb o a=>IM a⟩,rfl⟩
theorem UP(I):Fn 299 [.v<|.int iK 0] [] I (BW (.t []) I) nO:=fo func299 λρ b w a=>gg [(3,EN 0 0 rfl)]<|fi
theorem Zu(I)(n:Int)(c:n≠0):Fn 299 [.v<|nV n] [] I (ACC I []) (sM<|Hg n):=by
 exact fo func299 λρ d w a=>gg [(3,Fs n 0 c)]<|Kl (Tt I n) [] λh b=>by rw[show h=_ from b];exact⟨[],kR,kR,rfl⟩
def AQS:AA AF:=[.int iK 25,.int iK 26,.int iK 27,.int iK 28,.int iK 29,.int iK 30,.int iK 32,.int iK 33,.int iK 34,.int iK 35,.int iK 36,.int iK 37,.int iK 38,.int iK 39,.int iK 40,.int iK 41,.int iK 42,.int iK 43,.int iK 45,.int iK 46]
def AQT:AA SV:=[.v<|.func (.func 226) #[] #[],.v<|.func (.func 227) #[] #[],.v<|.func (.func 228) #[] #[],.v<|.func (.func 229) #[] #[],.v<|.func (.func 230) #[] #[],.v<|.func (.func 231) #[] #[],.v<|.func (.func 232) #[] #[],.v<|.func (.func 233) #[] #[],.v<|.func (.func 234) #[] #[],.v<|.func (.func 235) #[] #[],.v<|.func (.func 236) #[] #[],.v<|.func (.func 237) #[] #[],.v<|.func (.func 238) #[] #[],.v<|.func (.func 239) #[] #[],.v<|.func (.func 240) #[] #[],.v<|.func (.func 241) #[] #[],.v<|.func (.func 242) #[] #[],.v<|.func (.func 243) #[] #[],.v<|.func (.func 244) #[] #[],.v<|.func (.func 245) #[] #[]]
def API(I:AB):zP:=λa h=>h= {r:=.m a,nb:=[.Ey AQS AQT],J:=I}
def AQc(I):Fn 158 [] [] I (API I) nO:=fo func158 λc b w a=>gG<|dn [108] rfl
end
end Go.Proofs.YtomehhepbeiinaaGreatDoor
