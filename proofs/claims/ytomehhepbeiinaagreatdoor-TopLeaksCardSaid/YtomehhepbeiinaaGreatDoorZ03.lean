/- Part 3 of the proof of TopLeaks. No conditions. -/
import Derived.Test.YtomehhepbeiinaaGreatDoorZ02
import Derived.Test.YtomehhepbeiinaaGreatDoorProg
import Derived.KernelRfl
import Derived.Test.YtomehhepbeiinaaGreatDoorQPairs
import Derived.Test.YtomehhepbeiinaaGreatDoorQPriv2
import Derived.Deep.RegionHeld3
import Derived.Test.YtomehhepbeiinaaGreatDoorQCnfTx
import Derived.Test.YtomehhepbeiinaaGreatDoorQLabel4
set_option maxRecDepth 100000
set_option maxHeartbeats 4000000
set_option linter.all false
namespace Lz
def OG(b:Ak)(a:DT)(o:Op):Bool:=
 match Bn o.code with
 |1=>decide (o.a<b.consts.length)
 |2=>decide (o.a<a.args+a.vars)
 |3=>decide (o.a<a.code.length)
 |4=>decide (o.a<b.Ad.length)&&((o.code !=38&&o.code !=40&&o.code !=45)||(b.Ad.getD o.a Af).args==1)
 |5=>decide (o.a<=63)
 |_=>true
def KR(b:Ak)(a:Nat->AK (Nat×Nat))(i:Nat)(o:Op)(d t:Nat):Prop:=
 Bi b o<=d/\d-Bi b o+C4 o.code<=31/\d<=31/\t<=15/\
 (
  if o.code=18\/o.code=19 then True
  else if o.code=15 then a o.a=some (d,t)
  else if o.code=16 then a o.a=some (d-1,t)/\a (i+1)=some (d-1,t)
  else if o.code=20 then a (i+1)=some (d,t+1)/\a o.a=some (d+1,t)
  else if o.code=21 then 0<t/\a (i+1)=some (d,t-1)
  else a (i+1)=some (d-Bi b o+C4 o.code,t))
instance (a:Ak)(b:Nat->AK (Nat×Nat))(i:Nat)(o:Op)(d t:Nat):Decidable (KR a b i o d t):=by unfold KR;infer_instance
structure Lr(im:Ak)(fn:DT)(S:AA (Nat×Nat)):Prop where
 len:S.length=fn.code.length
 hd:S[0]? =some (0,0)
 op:∀o∈fn.code,Gf o/\OG im fn o
 at_:∀i o d t,fn.code[i]? =some o->S[i]? =some (d,t)->KR im (λj=>S[j]?) i o d t
def ES(S:AA (Nat×Nat))(a e:Nat)(j:Nat):AK (Nat×Nat):=if a<=j then(S++[(0,e)])[j-a]? else none
structure Seg(im:Ak)(off e:Nat)(C:AA Op)(S:AA (Nat×Nat)):Prop where
 len:S.length=C.length
 at_:∀i o d t,C[i]? =some o->S[i]? =some (d,t)->KR im (ES S off e) (off+i) o d t
def KR.mono{f c e i j o d t}(h:KR f c i o d t)(a:∀s,c (i+1)=some s->e (j+1)=some s)(b:∀s,c o.a=some s->e o.a=some s):KR f e j o d t:=by unfold KR at h⊢;refine⟨h.1,h.2.1,h.2.2.1,h.2.2.2.1,?_⟩;have h:=h.2.2.2.2;split at h;rename_i q;rw[if_pos q];trivial;rename_i q1;rw[if_neg q1];split at h;rename_i q;rw[if_pos q];exact b _ h;rename_i q2;rw[if_neg q2];split at h;rename_i q;rw[if_pos q];exact⟨b _ h.1,a _ h.2⟩;rename_i q3;rw[if_neg q3];split at h;rename_i q;rw[if_pos q];exact⟨a _ h.1,b _ h.2⟩;rename_i q4;rw[if_neg q4];split at h;rename_i q;rw[if_pos q];exact⟨h.1,a _ h.2⟩;rename_i q5;rw[if_neg q5];exact a _ h
theorem Seg.nil(b a e):Seg b a e [] []:=⟨rfl,λi o d t h=>by simp at h⟩
def Seg.app{im off e a k c f}(h1:Seg im off 0 a c)(m:Seg im (off+a.length) e k f)(hd:f[0]? =some (0,0)\/(f=[]/\e=0)):Seg im off e (a++k) (c++f) where
 len:=by rw[Bc,Bc,h1.len,m.len]
 at_ i o d t hi hs:=by
  have p:=h1.len;have g:∀j s,ES c off 0 j=some s->ES (c++f) off e j=some s:=λj s hj=>by
   unfold ES at hj⊢;split at hj;rename_i hle;rw[AW hle];by_cases b:j-off<c.length;rw[FT b]at hj;rw[Dk,FT b];exact hj;by_cases he:j-off=c.length;rw[he,Ef (AZ _),Pp]at hj;cases hj;rw[he,Dk,Ef (AZ _),Pp];rcases hd with hd|⟨hd,n⟩;cases f with
   |nil=>cases hd
   |cons x l=>exact hd
   rw[hd,n];rfl;rw[I7 (by rw[Bc];simp;omega)]at hj;cases hj;cases hj
  by_cases b:i<a.length;rw[FT b]at hi;rw[FT oG]at hs;exact(h1.at_ i o d t hi hs).mono (g _) (g _);rw[Ef oG]at hi;rw[Ef oG]at hs;have:=m.at_ (i-a.length) o d t hi (by rw[<-p];exact hs);have h:∀j s,ES f (off+a.length) e j=some s->ES (c++f) off e j=some s:=λj s hj=>by unfold ES at hj⊢;split at hj;rename_i hle;rw[AW oG,Dk,Ef oG,show j-off-c.length=j-(off+a.length) by omega];exact hj;cases hj
  have e:off+a.length+(i-a.length)=off+i:=oG;rw[e]at this;exact this.mono (h _) (h _)
def Lr.of{im fn P E S T}(hC:fn.code=P++E)(h1:Seg im 0 0 P S)(g:∀i o d t,E[i]? =some o->T[i]? =some (d,t)->KR im (λj=>if P.length<=j then T[j-P.length]? else none) (P.length+i) o d t)(hl:T.length=E.length)(hd:T[0]? =some (0,0))(e:S[0]? =some (0,0)\/S=[])
 (h:∀o∈fn.code,Gf o/\OG im fn o):Lr im fn (S++T) where
 len:=by rw[hC,Bc,Bc,h1.len,hl]
 hd:=by
  rcases e with e|e;cases S with
  |nil=>cases e
  |cons x l=>exact e
  rw[e];exact hd
 op:=h
 at_ i o d t hi hs:=by
  have f:=h1.len;rw[hC]at hi;by_cases c:i<P.length;rw[FT c]at hi;rw[FT oG]at hs;have a:∀j s,ES S 0 0 j=some s->(S++T)[j]? =some s:=λj s hj=>by unfold ES at hj;rw[AW (BS _),Nat.sub_zero]at hj;by_cases c:j<S.length;rw[FT c]at hj⊢;exact hj;by_cases he:j=S.length;rw[he,Ef (AZ _),Pp]at hj;cases hj;rw[he,Ef (AZ _),Pp];exact hd;rw[I7 (by rw[Bc];simp;omega)]at hj;cases hj
  have:=h1.at_ i o d t hi hs;rw[D5]at this;exact this.mono (a _) (a _);rw[Ef oG]at hi;rw[Ef oG]at hs;have:=g (i-P.length) o d t hi (by rw[<-f];exact hs);rw[show P.length+(i-P.length)=i by omega]at this;have b:∀j s,(if P.length<=j then T[j-P.length]? else none)=some s->(S++T)[j]? =some s:=λj s hj=>by split at hj;rw[Ef oG,f];exact hj;cases hj
  exact this.mono (b _) (b _)
def PN(c:Nat):Bool:=decide (1<=c)&&decide (c<=47)&& !([15,16,18,19,20,21].contains c)
def Kl(o:Op):Nat:=if o.code=17 then 1 else A2 o.code
def NE(o:Op):Bool:=
 match Bn o.code with
 |0=>o.a==0
 |1=>decide (o.a<16)
 |2=>decide (o.a<8)
 |4=>decide (o.a<3)
 |5=>decide (o.a<=63)
 |_=>false
def EN:Nat->AA Op->Bool
 |d,[]=>d==0
 |d,[o]=>(o==⟨19,0⟩&&d==1)||(PN o.code&&NE o&&decide (Kl o<=d)&&d-Kl o+C4 o.code==0&&decide (d<=9))
 |d,o::p::l=>PN o.code&&NE o&&decide (Kl o<=d)&&decide (d<=9)&&decide (d-Kl o+C4 o.code<=9)&&EN (d-Kl o+C4 o.code) (p::l)
def F3(t:Nat):Nat->AA Op->AA (Nat×Nat)
 |_,[]=>[]
 |d,o::l=>(d,t)::F3 t (d-Kl o+C4 o.code) l
def GQ(t):∀(d:Nat)(l:AA Op),(F3 t d l).length=l.length
 |_,[]=>rfl
 |d,o::l=>El Nat.succ (GQ t _ l)
structure Ls(im:Ak):Prop where
 len:im.Ad.length=3
 args:∀i,i<3->(im.Ad.getD i Af).args=1
 cs:im.consts.length=16
def AJp{b}(h:Ls b){o}(a:NE o):Bi b o=Kl o:=by
 unfold Bi Kl;by_cases e:o.code=17;rw[AW e,AW e,e];have:o.a<3:=by unfold NE at a;rw[e]at a;have a:decide (o.a<3):=a;simpa using a
 rw[h.args _ this];rfl;rw[AN e,AN e]
def AJo{c}(h:PN c): ¬(c=18\/c=19)/\c≠15/\c≠16/\c≠20/\c≠21:=by unfold PN at h;simp at h;omega
def QJ(l:AA Op):Bool:=(l.getLast?.getD Af).code==19
def WR(t d){l}(h:l≠[]):(F3 t d l)[0]? =some (d,t):=by
 cases l with
 |nil=>exact(h rfl).elim
 |cons o l=>rfl
def LP{h}(b:Ls h){t}(g:t<=15):∀(l:List Op)(d a:Nat) {nx:Nat->Option (Nat×Nat)},EN d l->(∀i s,(F3 t d l)[i]? =some s->nx (a+i)=some s)->(QJ l=false->nx (a+l.length)=some (0,t))->∀i o c f,l[i]? =some o->(F3 t d l)[i]? =some (c,f)->KR h nx (a+i) o c f
 |[],_,_,_,_,_,_,i,o,_,_,hi,_=>by simp at hi
 |[o],d,a,nx,hl,hn,he,i,o',c,f,hi,hs=>by
  cases i with
  |succ i=>simp at hi
  |zero=>
   cases hi;cases hs;unfold EN at hl;simp only[Bool.or_eq_true,Bool.and_eq_true,beq_iff_eq,decide_eq_true_eq]at hl;rcases hl with⟨e,m⟩|⟨⟨⟨⟨k,p2⟩,p3⟩,p4⟩,p5⟩;subst e;subst m;exact⟨by show Bi h ⟨19,0⟩<=1;exact Nat.le_refl _,by show 1-1+0<=31;decide,dC,g,by rw[if_pos (Or.inr rfl)];trivial⟩;let⟨q1,q2,q3,q4,q5⟩:=AJo k;have hE:QJ [o]=false:=by unfold QJ;show(o.code==19)=false;simp;omega
   unfold KR;rw[AJp b p2,if_neg q1,if_neg q2,if_neg q3,if_neg q4,if_neg q5];refine⟨p3,oG,oG,g,?_⟩;rw[p4];exact he hE
 |o::p::l,d,a,nx,hl,hn,he,i,o',c,f,hi,hs=>by
  unfold EN at hl;simp only[Bool.and_eq_true,decide_eq_true_eq]at hl;let⟨⟨⟨⟨⟨k,p2⟩,p3⟩,p4⟩,p5⟩,p6⟩:=hl;cases i with
  |zero=>
   cases hi;cases hs;let⟨q1,q2,q3,q4,q5⟩:=AJo k;unfold KR;rw[AJp b p2,if_neg q1,if_neg q2,if_neg q3,if_neg q4,if_neg q5];refine⟨p3,oG,oG,g,?_⟩;exact hn 1 _ rfl
  |succ i=>
   have:=LP b g (p::l) (d-Kl o+C4 o.code) (a+1) (nx:=nx) p6 (λj s n=>by
    have:=hn (j+1) s n;rw[show a+1+j=a+(j+1) by omega];exact this) (λhE=>by
    have:=he hE;rw[show a+1+(p::l).length=a+(o::p::l).length by simp;omega];exact this) i o' c f hi hs
   rw[show a+1+i=a+(i+1) by omega]at this;exact this
def Pv(a:Nat)(o:Op):Prop:=(PN o.code/\NE o)\/o=⟨19,0⟩\/o=⟨21,0⟩\/((o.code=15\/o.code=16\/o.code=20)/\o.a<=a)
def Pv.mono{a b o}(h:Pv a o)(k:a<=b):Pv b o:=by rcases h with h|h|h|h;exact .inl h;exact .inr (.inl h);exact .inr (.inr (.inl h));exact .inr (.inr (.inr ⟨h.1,CB h.2 k⟩))
def UN(c):∀(l:AA Op)(d:Nat),EN d l->∀o∈l,Pv c o
 |[],_,_,o,a=>by cases a
 |[o],d,hl,o',a=>by rw[AP.1 a];unfold EN at hl;simp[Ig,Bt,Gm,D1]at hl;rcases hl with⟨e,f⟩|⟨⟨⟨⟨b,p2⟩,p3⟩,p4⟩,p5⟩;exact .inr (.inl e);exact .inl ⟨b,p2⟩
 |o::p::l,d,hl,o',a=>by unfold EN at hl;simp[Bt,D1]at hl;let⟨⟨⟨⟨⟨b,p2⟩,p3⟩,p4⟩,p5⟩,p6⟩:=hl;rcases BD.1 a with e|a;rw[e];exact .inl ⟨b,p2⟩;exact UN c (p::l) _ p6 o' a
def PH(S a e i):ES S a e (a+i)=(S++[(0,e)])[i]? :=by unfold ES;rw[AW oG,show a+i-a=i by omega]
structure Part(im:Ak)(off:Nat)(P:AA Op):Prop where
 NI:∃S,Seg im off 0 P S/\S[0]? =some (0,0)
 ops:∀o∈P,Pv (off+P.length) o
 len:P.length<=10
def AVS{im}(a:Ls im){off D}(h:EN 0 D)(b:D≠[])(hl:D.length<=6):Part im off D where
 NI:=⟨F3 0 0 D,⟨GQ _ _ _,LP a dC D 0 off h (λi s hi=>by rw[PH,FT];exact hi;exact(B6.1 hi).1) (λ_=>by rw[PH,<-GQ 0 0 D,Ef (AZ _),Pp];rfl)⟩,WR _ _ b⟩
 ops:=UN _ D 0 h
 len:=oG
def AVR{im}(c:Ls im){off D}(h:EN 0 D)(b:D≠[])(hl:D.length<=6):Part im off ([⟨2,1⟩,⟨16,off+2+D.length⟩]++D) where
 NI:=by
  have e:∀i,ES ([(0,0),(1,0)]++F3 0 0 D) off 0 (off+(2+i))=(F3 0 0 D++[(0,0)])[i]? :=λi=>by rw[PH,Dk,Ef sP,show 2+i-[(0,0),(1,0)].length=i by simp]
  have hend:ES ([(0,0),(1,0)]++F3 0 0 D) off 0 (off+(2+D.length))=some (0,0):=by rw[e,<-GQ 0 0 D,Ef (AZ _),Pp];rfl
  refine⟨[(0,0),(1,0)]++F3 0 0 D,⟨by simp[GQ],λi o d t hi hs=> ?_⟩,rfl⟩
  match i with
  |0=>
   cases hi;cases hs;exact⟨by show 0<=0;decide,by show 0-0+1<=31;decide,dC,dC,by show ES _ _ _ (off+1)=some (0-0+1,0);rw[PH];rfl⟩
  |1=>
   cases hi;cases hs;refine⟨by show 1<=1;decide,by show 1-1+0<=31;decide,dC,dC,?_⟩;show ES _ _ _ (off+2+D.length)=some (0,0)/\ES _ _ _ (off+2)=some (0,0);refine⟨by rw[show off+2+D.length=off+(2+D.length) by omega];exact hend,?_⟩;rw[e 0,FT (by rw[GQ];exact Yt.2 b)];exact WR _ _ b
  |i+2=>
   have:=LP c (t:=0) dC D 0 (off+2) (nx:=ES ([(0,0),(1,0)]++F3 0 0 D) off 0) h (λj s hj=>by rw[show off+2+j=off+(2+j) by omega,e,FT (B6.1 hj).1];exact hj) (λ_=>by rw[show off+2+D.length=off+(2+D.length) by omega];exact hend) i o d t hi hs
   rw[show off+2+i=off+(i+2) by omega]at this;exact this
 ops:=λo a=>by rcases BA.1 a with a|a;simp at a;rcases a with rfl|rfl;exact .inl ⟨rfl,rfl⟩;exact .inr (.inr (.inr ⟨.inr (.inl rfl),by show off+2+D.length<=off+([(⟨2,1⟩:Op),⟨16,off+2+D.length⟩]++D).length;simp;omega⟩));exact UN _ D 0 h o a
 len:=sO
def AVV{im}(g:Ls im){off D}(h:EN 0 D)(f:D≠[])(hl:D.length<=6)(hE:QJ D=false):Part im off ([⟨20,off+D.length+3⟩]++D++[⟨21,0⟩,⟨15,off+D.length+4⟩,⟨3,1⟩]) where
 NI:=by
  have e:∀i,i<D.length->ES ([(0,0)]++F3 1 0 D++[(0,1),(0,0),(1,0)]) off 0 (off+(1+i))=(F3 1 0 D)[i]? :=λi hi=>by rw[PH,List.append_assoc,List.append_assoc,List.getElem?_append_right sP,List.getElem?_append_left (by rw[GQ];simp;omega)];simp
  have a:∀i,ES ([(0,0)]++F3 1 0 D++[(0,1),(0,0),(1,0)]) off 0 (off+(1+D.length+i))=([(0,1),(0,0),(1,0),(0,0)]:List (Nat×Nat))[i]? :=λi=>by rw[PH,List.append_assoc,List.append_assoc,List.getElem?_append_right sO,List.getElem?_append_right (by rw[GQ];simp;omega),GQ];congr 1;simp;omega
  refine⟨[(0,0)]++F3 1 0 D++[(0,1),(0,0),(1,0)],⟨by simp[GQ],λi o d t hi hs=> ?_⟩,rfl⟩;by_cases h0:i=0;subst h0;cases hi;cases hs;refine⟨by show 0<=0;decide,by show 0-0+0<=31;decide,dC,dC,?_⟩;show ES _ _ _ (off+0+1)=some (0,0+1)/\ES _ _ _ (off+D.length+3)=some (0+1,0);refine⟨?_,?_⟩;have:=e 0 (List.length_pos_iff.2 f);rw[show off+0+1=off+(1+0) by omega,this];exact WR _ _ f;rw[show off+D.length+3=off+(1+D.length+2) by omega,a];rfl;by_cases k:i<1+D.length;rw[List.append_assoc,List.getElem?_append_right sO,List.getElem?_append_left sO]at hi;rw[List.append_assoc,List.getElem?_append_right sO,List.getElem?_append_left (by rw[GQ];simp;omega)]at hs;have:=LP g (t:=1) dC D 0 (off+1) (nx:=ES ([(0,0)]++F3 1 0 D++[(0,1),(0,0),(1,0)]) off 0) h (λj s hj=>by
   have c:=(List.getElem?_eq_some_iff.1 hj).1;rw[GQ]at c;rw[show off+1+j=off+(1+j) by omega,e j c];exact hj) (λ_=>by
   rw[show off+1+D.length=off+(1+D.length+0) by omega,a];rfl) (i-1) o d t hi hs
  rw[show off+1+(i-1)=off+i by omega]at this;exact this;obtain⟨j,rfl⟩:∃j,i=1+D.length+j:=⟨i-(1+D.length),oG⟩;rw[List.getElem?_append_right sO,show 1+D.length+j-([(⟨20,off+D.length+3⟩:Op)]++D).length=j by simp;omega]at hi;rw[List.getElem?_append_right (by rw[List.length_append,GQ];simp<;>omega),show 1+D.length+j-([((0:Nat),(0:Nat))]++F3 1 0 D).length=j by rw[List.length_append,GQ];simp<;>omega]at hs
  match j with
  |0=>
   cases hi;cases hs;refine⟨by show 0<=0;decide,by show 0-0+0<=31;decide,dC,dC,?_⟩;show 0<1/\ES _ _ _ (off+(1+D.length+0)+1)=some (0,1-1);refine⟨dC,?_⟩;rw[show off+(1+D.length+0)+1=off+(1+D.length+1) by omega,a];rfl
  |1=>
   cases hi;cases hs;refine⟨by show 0<=0;decide,by show 0-0+0<=31;decide,dC,dC,?_⟩;show ES _ _ _ (off+D.length+4)=some (0,0);rw[show off+D.length+4=off+(1+D.length+3) by omega,a];rfl
  |2=>
   cases hi;cases hs;refine⟨by show 1<=1;decide,by show 1-1+0<=31;decide,dC,dC,?_⟩;show ES _ _ _ (off+(1+D.length+2)+1)=some (1-1+0,0);rw[show off+(1+D.length+2)+1=off+(1+D.length+3) by omega,a];rfl
  |j+3=>simp at hi
 ops:=λo b=>by rcases List.mem_append.1 b with b|b;rcases List.mem_append.1 b with b|b;rw[List.mem_singleton.1 b];exact .inr (.inr (.inr ⟨.inr (.inr rfl),by show off+D.length+3<=off+_;simp;omega⟩));exact UN _ D 0 h o b;simp at b;rcases b with rfl|rfl|rfl;exact .inr (.inr (.inl rfl));exact .inr (.inr (.inr ⟨.inl rfl,by show off+D.length+4<=off+_;simp;omega⟩));exact .inl ⟨rfl,rfl⟩
 len:=sO
def AVU{im}(g:Ls im){off D}(h:EN 0 D)(f:D≠[])(hl:D.length<=6)(hE:QJ D):Part im off ([⟨20,off+D.length+1⟩]++D++[⟨3,1⟩]) where
 NI:=by
  have c:∀i,i<D.length->ES ([(0,0)]++F3 1 0 D++[(1,0)]) off 0 (off+(1+i))=(F3 1 0 D)[i]? :=λi hi=>by rw[PH,List.append_assoc,List.append_assoc,List.getElem?_append_right sP,List.getElem?_append_left (by rw[GQ];simp;omega)];simp
  have e:∀i,ES ([(0,0)]++F3 1 0 D++[(1,0)]) off 0 (off+(1+D.length+i))=([(1,0),(0,0)]:List (Nat×Nat))[i]? :=λi=>by rw[PH,List.append_assoc,List.append_assoc,List.getElem?_append_right sO,List.getElem?_append_right (by rw[GQ];simp;omega),GQ];congr 1;simp;omega
  refine⟨[(0,0)]++F3 1 0 D++[(1,0)],⟨by simp[GQ],λi o d t hi hs=> ?_⟩,rfl⟩;by_cases h0:i=0;subst h0;cases hi;cases hs;refine⟨by show 0<=0;decide,by show 0-0+0<=31;decide,dC,dC,?_⟩;show ES _ _ _ (off+0+1)=some (0,0+1)/\ES _ _ _ (off+D.length+1)=some (0+1,0);refine⟨?_,?_⟩;have:=c 0 (List.length_pos_iff.2 f);rw[show off+0+1=off+(1+0) by omega,this];exact WR _ _ f;rw[show off+D.length+1=off+(1+D.length+0) by omega,e];rfl;by_cases k:i<1+D.length;rw[List.append_assoc,List.getElem?_append_right sO,List.getElem?_append_left sO]at hi;rw[List.append_assoc,List.getElem?_append_right sO,List.getElem?_append_left (by rw[GQ];simp;omega)]at hs;have:=LP g (t:=1) dC D 0 (off+1) (nx:=ES ([(0,0)]++F3 1 0 D++[(1,0)]) off 0) h (λj s hj=>by have b:=(List.getElem?_eq_some_iff.1 hj).1;rw[GQ]at b;rw[show off+1+j=off+(1+j) by omega,c j b];exact hj) (λq=>by rw[hE]at q;cases q) (i-1) o d t hi hs
  rw[show off+1+(i-1)=off+i by omega]at this;exact this;obtain⟨j,rfl⟩:∃j,i=1+D.length+j:=⟨i-(1+D.length),oG⟩;rw[List.getElem?_append_right sO,show 1+D.length+j-([(⟨20,off+D.length+1⟩:Op)]++D).length=j by simp;omega]at hi;rw[List.getElem?_append_right (by rw[List.length_append,GQ];simp<;>omega),show 1+D.length+j-([((0:Nat),(0:Nat))]++F3 1 0 D).length=j by rw[List.length_append,GQ];simp<;>omega]at hs
  match j with
  |0=>
   cases hi;cases hs;refine⟨by show 1<=1;decide,by show 1-1+0<=31;decide,dC,dC,?_⟩;show ES _ _ _ (off+(1+D.length+0)+1)=some (1-1+0,0);rw[show off+(1+D.length+0)+1=off+(1+D.length+1) by omega,e];rfl
  |j+1=>simp at hi
 ops:=λo a=>by rcases List.mem_append.1 a with a|a;rcases List.mem_append.1 a with a|a;rw[List.mem_singleton.1 a];exact .inr (.inr (.inr ⟨.inr (.inr rfl),by show off+D.length+1<=off+_;simp;omega⟩));exact UN _ D 0 h o a;rw[List.mem_singleton.1 a];exact .inl ⟨rfl,rfl⟩
 len:=sO
def MK{c a d d' p l}(g:PN c)(j:NE ⟨c,a⟩)(b:Kl ⟨c,a⟩<=d)(h:d<=9)(e:d-Kl ⟨c,a⟩+C4 c=d')(f:d'<=9)(i:EN d' (p::l)):EN d (⟨c,a⟩::p::l):=by unfold EN;simp[Bt,D1];subst e;exact⟨⟨⟨⟨⟨g,j⟩,b⟩,h⟩,f⟩,i⟩
def AIT{c a d}(f:PN c)(h:NE ⟨c,a⟩)(b:Kl ⟨c,a⟩<=d)(g:d<=9)(e:d-Kl ⟨c,a⟩+C4 c=0):EN d [⟨c,a⟩]:=by unfold EN;simp only[Ig,Bt,D1,Gm];exact .inr ⟨⟨⟨⟨f,h⟩,b⟩,e⟩,g⟩
def Xm{a}(h:a<16):NE ⟨1,a⟩:=by show decide (a<16);simpa using h
def AU2{a}(h:a<8):NE ⟨2,a⟩:=by show decide (a<8);simpa using h
def ABC{a b c d n}(e:a<8)(f:b<8)(g:c<8)(h:d<8)(i)(j:n=[a,b,c,d].getD i 0):n<8:=by
 subst j
 match i with
 |0=>exact e
 |1=>exact f
 |2=>exact g
 |3=>exact h
 |i+4=>simp
def GB(m:Mk):m.next.2.code=m.code:=rfl
def AB6(n):n%2=0\/n%2=1:=oG
def Tu(m:Mk){a}(r:a<3):∃D,(m.EG a).code=m.code++D/\EN 0 D/\D≠[]/\D.length<=6:=by
 have g:m.next.1%8<8:=IK _ dC;generalize i:m.next.1%8=any at g;have fin:∀(v:Mk)(D:AA Op),v.code=m.code++D->EN 0 D->D≠[]->D.length<=6->∃D,v.code=m.code++D/\EN 0 D/\D≠[]/\D.length<=6:=λv D y o z A=>⟨D,y,o,z,A⟩;unfold Mk.EG Mk.AAc;dsimp only;rw[i];generalize m.next.2.next.1%32=k;have c:m.next.2.next.2.code=m.code:=rfl;generalize m.next.2.next.2=b at c;have w:∀(n:Nat)(p:Op)(l:AA Op)(d:Nat),d<=8->EN (d+1) (p::l)->EN d (⟨1,n%8⟩::p::l):=λn p l d s h=>MK (d':=d+1) rfl (Xm oG) (BS _) oG rfl oG h;have L8:∀(n:Nat)(p:Op)(l:AA Op)(d:Nat),d<=8->EN (d+1) (p::l)->EN d (⟨1,8+n%8⟩::p::l):=λn p l d s h=>MK (d':=d+1) rfl (Xm oG) (BS _) oG rfl oG h;have L4:∀(n:Nat)(p:Op)(l:AA Op)(d:Nat),d<=8->EN (d+1) (p::l)->EN d (⟨1,n%4⟩::p::l):=λn p l d s h=>MK (d':=d+1) rfl (Xm oG) (BS _) oG rfl oG h;have t:∀(n:Nat)(p:Op)(l:AA Op)(d:Nat),d<=8->EN (d+1) (p::l)->EN d (⟨1,4+n%4⟩::p::l):=λn p l d s h=>MK (d':=d+1) rfl (Xm oG) (BS _) oG rfl oG h;have f:∀(n:Nat)(p:Op)(l:AA Op)(d:Nat),n<8->d<=8->EN (d+1) (p::l)->EN d (⟨2,n⟩::p::l):=λn p l d u s h=>MK (d':=d+1) rfl (AU2 u) (BS _) oG rfl oG h;have S:∀n:Nat,n<8->EN 1 [⟨3,n⟩]:=λn u=>AIT rfl (by show decide (n<8);simpa using u) (AZ _) dC rfl;by_cases q:k=0;rw[AW q];obtain⟨j,B,C⟩:∃j,(b.number.Cp any).next.1%7=j/\j<7:=⟨_,rfl,IK _ dC⟩;refine fin _ [⟨1,b.next.1%8⟩,⟨2,any⟩,⟨7+(b.number.Cp any).next.1%7,0⟩,⟨3,1⟩] (by simp[Mk.emit,Mk.number,Mk.Cp,GB,c]) ?_ sP sP
 refine w _ _ _ _ dC (f _ _ _ _ g dC ?_);rw[B];have:j=0\/j=1\/j=2\/j=3\/j=4\/j=5\/j=6:=oG;rcases this with rfl|rfl|rfl|rfl|rfl|rfl|rfl<;>rfl;rw[AN q];by_cases q:k=1;rw[AW q];refine fin _ [⟨25+b.next.1%2,0⟩,⟨1,8+(b.next.2.emit (25+b.next.1%2) 0).next.1%8⟩,⟨22+((b.next.2.emit (25+b.next.1%2) 0).mark).next.1%2,0⟩,⟨3,7⟩] (by simp[Mk.emit,Mk.mark,GB,c]) ?_ sP sP;generalize(b.next.2.emit (25+b.next.1%2) 0).next.1=E;generalize((b.next.2.emit (25+b.next.1%2) 0).mark).next.1=x;generalize b.next.1=F;have o:EN 1 [⟨1,8+E%8⟩,⟨22+x%2,0⟩,⟨3,7⟩]:=by refine L8 _ _ _ _ dC ?_;rcases AB6 x with e|e<;>rw[e]<;>rfl
 rcases AB6 F with e|e<;>rw[e];exact MK (d':=1) rfl rfl dC dC rfl dC o;exact MK (d':=1) rfl rfl dC dC rfl dC o;rw[AN q];by_cases q:k=2;rw[AW q];exact fin _ [⟨1,8+b.next.1%8⟩,⟨27,0⟩] (by simp[Mk.emit,Mk.mark,GB,c]) (L8 _ _ _ _ dC rfl) sP sP;rw[AN q];by_cases q:k=3;rw[AW q];exact fin _ [⟨1,8+b.next.1%8⟩,⟨28,0⟩] (by simp[Mk.emit,Mk.mark,GB,c]) (L8 _ _ _ _ dC rfl) sP sP;rw[AN q];by_cases q:k<6;rw[AW q];exact fin _ [⟨2,any⟩,⟨1,8+(b.Cp any).next.1%8⟩,⟨29,0⟩,⟨3,2⟩] (by simp[Mk.emit,Mk.mark,Mk.Cp,GB,c]) (f _ _ _ _ g dC (L8 _ _ _ _ dC rfl)) sP sP;rw[AN q];by_cases q:k<9;rw[AW q];exact fin _ [⟨2,[0,2,2,any].getD (b.next.1%4) 0⟩,⟨30,0⟩,⟨3,1⟩] (by simp[Mk.emit,Mk.Cp,GB,c]) (f _ _ _ _ (ABC dC dC dC g _ rfl) dC rfl) sP sP;rw[AN q];by_cases q:k=9;rw[AW q];exact fin _ [⟨2,any⟩,⟨1,8+(b.Cp any).next.1%8⟩,⟨32,0⟩,⟨3,3⟩] (by simp[Mk.emit,Mk.mark,Mk.Cp,GB,c]) (f _ _ _ _ g dC (L8 _ _ _ _ dC rfl)) sP sP;rw[AN q];by_cases q:k=10;rw[AW q];exact fin _ [⟨2,3⟩,⟨33,0⟩,⟨3,1⟩] (by simp[Mk.emit,Mk.Cp,GB,c]) rfl sP sP;rw[AN q];by_cases q:k=11;rw[AW q];exact fin _ [⟨2,3⟩,⟨2,any⟩,⟨34,0⟩] (by simp[Mk.emit,Mk.Cp,GB,c]) (f _ _ _ _ dC dC (f _ _ _ _ g dC rfl)) sP sP;rw[AN q];by_cases q:k=12;rw[AW q];exact fin _ [⟨1,8+b.next.1%8⟩,⟨35,0⟩,⟨3,4⟩] (by simp[Mk.emit,Mk.mark,GB,c]) (L8 _ _ _ _ dC rfl) sP sP;rw[AN q];by_cases q:k=13;rw[AW q];exact fin _ [⟨2,4⟩,⟨36,0⟩,⟨3,1⟩] (by simp[Mk.emit,Mk.Cp,GB,c]) rfl sP sP;rw[AN q];by_cases q:k<16;rw[AW q]
 exact fin _ [⟨2,4⟩,⟨2,any⟩,⟨37,0⟩] (by simp[Mk.emit,Mk.Cp,GB,c]) (f _ _ _ _ dC dC (f _ _ _ _ g dC rfl)) sP sP;rw[AN q];by_cases q:k<18/\0<a;rw[AW q];refine fin _ [⟨2,[4,2,3,any].getD (b.next.1%4) 0⟩,⟨1,(b.next.2.Cp ([4,2,3,any].getD (b.next.1%4) 0)).next.1%4⟩,⟨1,8+(((b.next.2.Cp ([4,2,3,any].getD (b.next.1%4) 0)).next.2.emit 1 ((b.next.2.Cp ([4,2,3,any].getD (b.next.1%4) 0)).next.1%4)).next.1%8)⟩,⟨38,a⟩,⟨3,5⟩] (by simp[Mk.emit,Mk.mark,Mk.Cp,GB,c]) ?_ sP sP;exact f _ _ _ _ (ABC dC dC dC g _ rfl) dC (L4 _ _ _ _ dC (L8 _ _ _ _ dC (MK (d':=1) rfl (by show decide (a<3);simpa using r) (by show 3<=3;decide) dC rfl dC rfl)));rw[AN q];by_cases q:k=18;rw[AW q];exact fin _ [⟨2,5⟩,⟨39,0⟩,⟨3,1⟩] (by simp[Mk.emit,Mk.Cp,GB,c]) rfl sP sP;rw[AN q];by_cases q:k<22/\0<a;rw[AW q];refine fin _ [⟨2,[2,0,3,4].getD (b.next.1%4) 0⟩,⟨1,_%4⟩,⟨1,4+_%4⟩,⟨1,8+_%8⟩,⟨40,a⟩,⟨3,2⟩] (by simp only[Mk.emit,Mk.mark,Mk.Cp,GB,c,Dk,Fj,Fo];rfl) ?_ sP sP;exact f _ _ _ _ (ABC dC dC dC dC _ rfl) dC (L4 _ _ _ _ dC (t _ _ _ _ dC (L8 _ _ _ _ dC (MK (d':=1) rfl (by show decide (a<3);simpa using r) (by show 4<=4;decide) dC rfl dC rfl))));rw[AN q];by_cases q:k<25;rw[AW q];exact fin _ [⟨2,any⟩,⟨1,8+(b.Cp any).next.1%8⟩,⟨41,0⟩] (by simp[Mk.emit,Mk.mark,Mk.Cp,GB,c]) (f _ _ _ _ g dC (L8 _ _ _ _ dC rfl)) sP sP;rw[AN q];by_cases q:k=25;rw[AW q];refine fin _ [⟨1,8+b.next.1%8⟩,⟨42+b.mark.next.1%2,0⟩] (by simp[Mk.emit,Mk.mark,GB,c]) (L8 _ _ _ _ dC ?_) sP sP;rcases AB6 b.mark.next.1 with e|e<;>rw[e]<;>rfl;rw[AN q]
 by_cases q:k=26/\0<a;rw[AW q];exact fin _ [⟨1,8+b.next.1%8⟩,⟨45,a⟩,⟨3,6⟩] (by simp[Mk.emit,Mk.mark,GB,c]) (L8 _ _ _ _ dC (MK (d':=1) rfl (by show decide (a<3);simpa using r) (by show 1<=1;decide) dC rfl dC rfl)) sP sP;rw[AN q];by_cases q:k=27;rw[AW q];exact fin _ [⟨2,any⟩,⟨2,6⟩,⟨46,0⟩,⟨3,1⟩] (by simp[Mk.emit,Mk.Cp,GB,c]) (f _ _ _ _ g dC rfl) sP sP;rw[AN q];by_cases q:k=28/\0<a;rw[AW q];exact fin _ [⟨2,any⟩,⟨17,a⟩,⟨3,1⟩] (by simp[Mk.emit,Mk.Cp,GB,c]) (f _ _ _ _ g dC (MK (d':=1) rfl (by show decide (a<3);simpa using r) (by show 1<=1;decide) dC rfl dC rfl)) sP sP;rw[AN q];by_cases q:k=29;rw[AW q];exact fin _ [⟨1,b.next.1%8⟩,⟨19,0⟩] (by simp[Mk.emit,Mk.number,GB,c]) (w _ _ _ _ dC rfl) sP sP;rw[AN q];by_cases q:k=30;rw[AW q];refine fin _ [⟨44,b.next.1%4⟩] (by simp[Mk.emit,GB,c]) (AIT rfl (by show decide (_<=63);simp;omega) (AZ _) dC rfl) sP sP;rw[AN q];exact fin _ [⟨47,0⟩,⟨3,1⟩] (by simp[Mk.emit,c]) rfl sP sP
def ACq(m:Mk)(C P:AA Op)(o a)(h:m.code=C++o::P):(m.I5 C.length a).code=C++ {o with a:=a}::P:=by show m.code.modify C.length _=_;rw[h,List.modify_eq_take_drop];simp
def ASx{C D:AA Op}(a:D≠[]):(C++D).getLast?=D.getLast?:=by
 rw[List.getLast?_append];cases h:D.getLast? with
 |none=>exact absurd (Q8.1 h) a
 |some x=>rfl
def AVT{n}(d:Ls n)(m:Mk){a}(k:a<3):∃P,(m.part a).code=m.code++P/\Part n m.code.length P:=by
 unfold Mk.part;dsimp only;have l:m.next.2.code=m.code:=rfl;generalize m.next.2=b at l;rw[<-l];split;let⟨D,g,h,e,i⟩:=Tu (b.emit 20 0) k;have f:((b.emit 20 0).EG a).code=b.code++⟨20,0⟩::D:=by rw[g];simp[Mk.emit]
 have c:((b.emit 20 0).EG a).code.getLast?=D.getLast?:=by rw[g,ASx e]
 split;rename_i hT;rw[c]at hT;refine⟨_,?_,AVU d h e i (by unfold QJ;simpa using hT)⟩;show((((b.emit 20 0).EG a).I5 b.code.length ((b.emit 20 0).EG a).code.length).code++[⟨3,1⟩])=_;rw[ACq _ b.code D ⟨20,0⟩ _ f,f];simp;omega;rename_i hT;rw[c]at hT;refine⟨_,?_,AVV d h e i (by unfold QJ;simpa using hT)⟩;have j:((((b.emit 20 0).EG a).emit 21 0).emit 15 ((((b.emit 20 0).EG a).emit 21 0).code.length+2)).code=b.code++⟨20,0⟩::(D++[⟨21,0⟩,⟨15,b.code.length+D.length+4⟩]):=by show(((b.emit 20 0).EG a).code++[(⟨21,0⟩:Op)])++[(⟨15,(((b.emit 20 0).EG a).code++[(⟨21,0⟩:Op)]).length+2⟩:Op)]=_;rw[f];simp;omega
 show((((((b.emit 20 0).EG a).emit 21 0).emit 15 ((((b.emit 20 0).EG a).emit 21 0).code.length+2)).I5 b.code.length _).code++[⟨3,1⟩])=_;rw[ACq _ b.code _ ⟨20,0⟩ _ j,j];simp;omega;split;let⟨D,g,h,e,i⟩:=Tu ((b.Cp 1).emit 16 0) k;refine⟨_,?_,AVR d h e i⟩;have f:(((b.Cp 1).emit 16 0).EG a).code=(b.code++[⟨2,1⟩])++⟨16,0⟩::D:=by rw[g];simp[Mk.emit,Mk.Cp]
 have o:(b.code++[(⟨2,1⟩:Op)]).length=b.code.length+1:=sP;have j:=ACq _ (b.code++[⟨2,1⟩]) D ⟨16,0⟩ (((b.Cp 1).emit 16 0).EG a).code.length f;rw[o]at j;rw[j,f];simp;omega;let⟨D,g,h,e,i⟩:=Tu b k;exact⟨D,g,AVS d h e i⟩
structure AEC(im:Ak)(k:Nat)(C:AA Op):Prop where
 NI:∃S,Seg im 0 0 C S/\(S[0]? =some (0,0)\/S=[])
 ops:∀o∈C,Pv C.length o
 len:C.length<=10*k
def AJd{f}(b:Ls f){above}(j:above<3):∀(n k:Nat)(m:Mk),AEC f k m.code->k<=12->AEC f 12 (Mk.parts above n k m).code
 |0,k,m,h,hk=>⟨h.NI,h.ops,by have:=h.len;show m.code.length<=120;omega⟩
 |n+1,k,m,h,hk=>by
  unfold Mk.parts;split;rename_i q;refine AJd b j n (k+1) _ ?_ oG;let⟨P,e,d⟩:=AVT b m j;rw[e];let⟨g,r,a⟩:=h.NI;let⟨p,s,i⟩:=d.NI;refine⟨⟨g++p,Seg.app r (by rw[D5];exact s) (.inl i),?_⟩,λo c=> ?_,?_⟩;rcases a with a|a;left;cases g with
  |nil=>cases a
  |cons x l=>exact a
  rw[a];exact .inl i;rw[Bc];rcases BA.1 c with c|c;exact(h.ops o c).mono oG;exact d.ops o c;rw[Bc];have:=h.len;have:=d.len;omega;exact⟨h.NI,h.ops,by have:=h.len;omega⟩
def AVP{g}(a:Ls g){b d o}(h:Pv d o)(k:d<b.code.length)(l:b.args+b.vars=8)(m:b.code.length<=60000):Gf o/\OG g b o:=by
 rcases h with⟨c,p2⟩|e|e|⟨e,j⟩;have i:SI o.code:=by unfold PN at c;simp only[Bt,D1]at c;unfold SI;simp only[Bt,D1];exact c.1
 unfold NE at p2;unfold Gf OG;rw[i,a.len,a.cs];split at p2;rename_i q;rw[q];simpa using p2;rename_i q;rw[q];simp at p2⊢;omega;rename_i q;rw[q];simp at p2⊢;omega;rename_i q;rw[q];simp at p2;have:=a.args _ p2;simp only[this];simp;omega;rename_i q;rw[q];simp at p2⊢;omega;cases p2;subst e;exact⟨rfl,rfl⟩;subst e;exact⟨rfl,rfl⟩;have f:Bn o.code=3/\SI o.code:=by rcases e with e|e|e<;>rw[e]<;>exact⟨rfl,rfl⟩
 unfold Gf OG;rw[f.1,f.2];simp;omega
def ATv(l:AA (AA AH))(i):∃a,a<8/\(F9 l i).code=(Mk.parts ((i+1)%3) 12 0 ⟨l.getD i [],0,[]⟩).code++[⟨2,a⟩,⟨18,0⟩]:=by refine⟨(Mk.parts ((i+1)%3) 12 0 ⟨l.getD i [],0,[]⟩).next.1%8,IK _ dC,?_⟩;unfold F9;simp[Mk.emit,GB]
def ABv(l):Ls (He l):=⟨rfl,λi a=>by
 match i with
 |0=>rfl
 |1=>rfl
 |2=>rfl
 |i+3=>omega,rfl⟩
def ABx(l i)(c:Ls (He l)):∃S,Lr (He l) (F9 l i) S/\(F9 l i).code.length<=122/\0<(F9 l i).code.length/\(F9 l i).args=1/\(F9 l i).vars=7:=by
 let⟨a,k,e⟩:=ATv l i;have f:=AJd c (above:=(i+1)%3) (IK _ dC) 12 0 ⟨l.getD i [],0,[]⟩ ⟨⟨[],Seg.nil _ _ _,.inr rfl⟩,nA,BS _⟩ dC;generalize(Mk.parts ((i+1)%3) 12 0 ⟨l.getD i [],0,[]⟩).code=C at e f;let⟨S,m,n⟩:=f.NI;have hlen:(F9 l i).code.length=C.length+2:=by rw[e];simp
 have p:=f.len;refine⟨S++[(0,0),(1,0)],Lr.of e m (λj o d t g h=> ?_) rfl rfl n (λo b=> ?_),oG,oG,rfl,rfl⟩
 match j with
 |0=>
  cases g;cases h;refine⟨by show 0<=0;decide,by show 0-0+1<=31;decide,dC,dC,?_⟩;show(if C.length<=C.length+0+1 then([(0,0),(1,0)]:AA (Nat×Nat))[C.length+0+1-C.length]? else none)=some (0-0+1,0);rw[AW oG,show C.length+0+1-C.length=1 by omega];rfl
 |1=>
  cases g;cases h;exact⟨by show 1<=1;decide,by show 1-1+0<=31;decide,dC,dC,A0⟩
 |j+2=>simp at g
 rw[e]at b;rcases BA.1 b with b|b;exact AVP c (f.ops o b) oG rfl oG;simp at b;rcases b with rfl|rfl;refine⟨?_,by show decide (a<1+7);simpa using k⟩;show(true&&decide (a<=65535));simp;omega;exact⟨rfl,rfl⟩
def Qm:AA (AA (Nat×Nat)):=[[(0,0),(1,0),(2,0),(3,0),(4,0),(1,0),(0,0),(1,0),(0,0),(1,0),(0,0),(1,0),(0,0),(1,0),(2,0),(0,0),(1,0),(2,0),(1,0),(0,0)],
 [(0,0),(1,0),(1,0),(0,0),(1,0),(0,0),(1,0),(0,0),(1,0),(2,0),(1,0),(0,0)]]
def AJe:∀i,i<2->Lr DN (DN.Ad.getD i Af) (Qm.getD i []):=by have:∀i,i<2->(Qm.getD i []).length=(DN.Ad.getD i Af).code.length/\(Qm.getD i [])[0]? =some (0,0)/\(∀o∈(DN.Ad.getD i Af).code,Gf o/\OG DN (DN.Ad.getD i Af) o)/\∀j,j<(DN.Ad.getD i Af).code.length->KR DN (λj=>(Qm.getD i [])[j]?) j ((DN.Ad.getD i Af).code.getD j Af) ((Qm.getD i []).getD j (0,0)).1 ((Qm.getD i []).getD j (0,0)).2:=dC;intro i h;let⟨c,e,f,g⟩:=this i h;refine⟨c,e,f,λj o d t b k=> ?_⟩;have a:=(B6.1 b).1;have:=g j a;rw[show(DN.Ad.getD i Af).code.getD j Af=o by rw[Cz,b];rfl,show(Qm.getD i []).getD j (0,0)=(d,t) by rw[Cz,k];rfl]at this;exact this
section
variable {m:AV} {M:UInt8->Prop} {AD a:List AJ} {k:Call} {s s':Ao}
end
section
variable {m:AV} {M:UInt8->Prop} {AD a:List AJ} {k k':Call} {s s':Ao} {t:AJ}
def cellS(s:Ao)(id:Nm)(v:Val)(ex:Bool):Ao:=match Ai s id with
 |some o=>if o.kind=6 then Cf s id {o with v:=v,ex:=ex,done:=true}else s
 |none=>s
def AAL{id}(h:OF m s id=none)(v)(ex:Bool):TY m s (cellS s id v ex):=by
 unfold cellS;cases b:Ai s id with
 |none=>exact TY.refl _
 |some o=>
  have hl:fl o.l m=false:=by
   cases e:fl o.l m with
   |false=>rfl
   |true=>rw[AY6 b e]at h;cases h
  dsimp only;split
  .exact λq=>(AY7 (o:={o with v:=v,ex:=ex,done:=true}) hl q).symm
  exact TY.refl _
def AQR(k v)(ex:Bool):(Ea k v ex).t=E6 k.t v ex/\((E6 k.t v ex).status=3\/(E6 k.t v ex).status=4->(Ea k v ex).s=cellS k.s k.t.id v ex/\(Ea k v ex).e= {k.e with done:=true})/\(¬((E6 k.t v ex).status=3\/(E6 k.t v ex).status=4)->(Ea k v ex).s=k.s/\(Ea k v ex).e=k.e):=by unfold Ea;dsimp only;split;rename_i h;exact⟨rfl,λq=>(by rcases q with q|q;exact(h.1 q).elim;exact(h.2 q).elim),λ_=>⟨rfl,rfl⟩⟩;rename_i h;exact⟨rfl,λ_=>⟨rfl,rfl⟩,λq=>(h ⟨λe=>q (.inl e),λe=>q (.inr e)⟩).elim⟩
end
section
variable {m:AV} {M:UInt8->Prop} {AD a:List AJ} {k k':Ab} {s s':Ao} {t b:AJ}
def waits(l:AA AJ):Nat:=l.countP (λt=>t.status==1)
def AL3{u}(c:u.status≠1):∀l:AA AJ,waits (Az l u)<=waits l
 |[]=>AZ _
 |x::l=>by
  have d:=AL3 c l;unfold waits Az at d⊢;rw[EM,Yo,Yo];have:(if((if(x.id==u.id)=true then u else x).status==1)=true then 1 else 0)<=(if(x.status==1)=true then 1 else 0):=by by_cases e:(x.id==u.id);rw[AW e,AN (by simpa using c)];exact BS _;rw[AN e];exact AZ _
  omega
theorem VC{u}(d:u.status≠1){t}(c:t.status=1):∀l:AA AJ,Aw l u.id=some t->waits (Az l u)<waits l
 |[],h=>by cases h
 |x::l,h=>by
  have f:=VC d c l;have e:=AL3 d l
  grind[Aw,waits,Az]
def ACc(t s v)(c:Bool):(EU t s v c).t.status≠1:=by unfold EU;split;show(0:Nat)≠1;decide;unfold Ec;split;rw[(AQR _ _ _).1];show(if 0<_ then 2 else if true=true then 4 else 3)≠1;split<;>decide;show(0:Nat)≠1;decide
def Oj(n:Nat)(c:Nm)(k:Ab)(other:Nm):Ab:=
 match Aw k.AD other with
  |none=>k
  |some t=>
   if t.status≠1\/t.on≠c then k
   else match Ai k.Ar c with
    |none=>k
    |some o=>if o.kind≠6\/ !o.done then k
     else
      let r:=EU t k.Ar o.v o.ex;let k:={k with Ar:=r.s,AD:=Az k.AD r.t}
      if r.e.done then F4 n k other else k
def AAi(n k c):F4 (n+1) k c=(k.AD.map (·.id)).foldl (Oj n c) k:=rfl
end
section
variable {m:AV} {M:UInt8->Prop} {AD a:List AJ} {k k':Ab} {s s':Ao} {t b:AJ}
end
section
variable {m:AV} {M:UInt8->Prop} {AD a:List AJ} {k k':Ab} {s s':Ao} {t b:AJ}
end
section
variable {m:AV} {M:UInt8->Prop} {AD a:List AJ} {k k':Ab} {s s':Ao} {t b:AJ}
end
section
variable {m:AV} {M:UInt8->Prop} {AD a:List AJ} {k k':Ab} {s s':Ao} {t c:AJ}
def Lx(b:HM):Ob:={Cb with kind:=3,l:=b.l,v:=whole b.v}
structure Vf(m:AV)(M:AH->Prop)(n:Nat)(k:Ab):Prop where
 kk:KK m M k
 bk:BK (24+4*n) (3+n*(25+4*n)) k.AD k.Ar
 bf:BF n k
 now:k.now=n
 im:Ij k.im
 ib:Jc k.im
 lk:∀x∈k.BQ,M x.e.AL
end
structure Hp(n:Nat)(k:Ab):Prop where
 kk:KK high (λ_=>True) k
 bk:BK (24+4*n) (3+n*(25+4*n)) k.AD k.Ar
 bf:BF n k
 now:k.now=n
 im:Ij k.im
 ib:Jc k.im
structure Ve(n:Nat)(k:Ab):Prop where
 kk:KK high (λ_=>True) k
 bk:BK (24+4*n) (3+n*(25+4*n)+(24+4*n)) k.AD k.Ar
 bf:BF n k
 now:k.now=n+1
 im:Ij k.im
 ib:Jc k.im
def AQZ(a):fl a high:=Hz.2 (ABk a)
def AFz(p):JZ high p:=λ_ _ _ _=>AQZ _
def AHg{n k}(h:Hp n k):Ve n (FF k):=by let⟨a,b,e,f⟩:=Tg k;let⟨c,d⟩:=AE5 h.bk h.bf h.kk;exact⟨AE7 h.kk,c,d,by rw[b,h.now],by rw[a];exact h.im,by rw[a];exact h.ib⟩
def AXd(n):3+n*(25+4*n)+(24+4*n)+1<=3+(n+1)*(25+4*(n+1)):=by
 rw[FU n 1,Y7,Y7 n 25 (4*(n+1)),Y7 4];have:n*(4*n+4*1)=n*(4*n)+n*4:=by rw[Y7]
 rw[this];omega
def X5(k a):(runK k a).1.now=k.now/\(runK k a).1.im=k.im:=by unfold runK;split;exact⟨rfl,rfl⟩;dsimp only;split;exact⟨rfl,rfl⟩;rw[Pf];split;exact⟨(QH _ _ _).2.2.1,(QH _ _ _).2.2.2⟩;exact⟨rfl,rfl⟩
def AHh{n k}(h:Ve n k)(a):Hp (n+1) (runK k a).1:=by let⟨c,d⟩:=AWg h.ib oG h.bk h.bf h.kk a;let⟨e,b⟩:=X5 k a;exact⟨AWk h.im (λ_ _ _=>A0) h.kk a λ_ _=>AFz _,c.mono oG (AXd n),d,by rw[e,h.now],by rw[b];exact h.im,by rw[b];exact h.ib⟩
def ASA{n k}(h:Hp n k)(a):Hp (n+1) (MR k a).1:=AHh (AHg h) a
inductive AMu(k1:Ab)(id:Nm)(r:Ab×Bool):Prop where
 |none (h:Aw k1.AD id=none) (e:r.1.BQ=k1.BQ)
 |same (t u:AJ) (h:Aw k1.AD id=some t) (h':Aw r.1.AD id=some u) (e:r.1.BQ=k1.BQ) (g:G2 t.g u.g)
 |AIF (t u:AJ) (f:B7) (x:Gp) (h:Aw k1.AD id=some t) (h':Aw r.1.AD id=some u) (e:r.1.BQ=k1.BQ++[⟨k1.now,id,x⟩]) (b:t.c.top=some f) (hm:x.AL=f.AL) (h1:x.to=u.g.cur\/x.to=u.g.Al) (a:x.H0=t.g.cur\/x.H0=t.g.Al) (hd:r.2) (c:fl t.g.cur u.g.cur=false\/fl u.g.Al t.g.Al=false)
def AS2{n k}(h:Ve n k)(c):AMu k c (runK k c):=by
 cases a:Aw k.AD c with
 |none=>
  refine .none a ?_;unfold runK;rw[a]
 |some t=>
  by_cases b:t.status=0;let⟨i,u,d,j⟩:=AWl h.im (λ_ _ _=>A0) h.kk a b λx _=>AFz _;rcases j with⟨e,g⟩|⟨f,x,l,e,m,q1,q2,q3⟩;exact .same t u a d e g;exact .AIF t u f x a d e l m q1 q2 i q3;have e:runK k c=(k,false):=by unfold runK;rw[a];dsimp only;rw[AW b]
  rw[e];exact .same t t a a rfl (G2.refl _)
def AAD{c b}(a)(i:b.room<=999)(k:b.box<=999)(h:CZ b.n):BT 20 (Dq c b a):=by
 have f:wv (if 0<=b.box then hand 3 [b.box.toNat] (c.boxes.getD b.box.toNat Af).l else whole b.n):=by split;exact Yg ⟨dC,dC⟩ (N4 oG) _;exact Ie _ h
 obtain⟨u,d⟩:∃u,F5 ⟨[],[],[]⟩ b.fn (c.im.Ad.getD b.fn Af).vars [if 0<=b.box then hand 3 [b.box.toNat] (c.boxes.getD b.box.toNat Af).l else whole b.n] b.AL=some u:=⟨_,rfl⟩;have g:=Tf Zu d (λv j=>by rw[AP.1 j];exact f) sP;have e:Dq c b a=Iy a ⟨b.l,b.c⟩ u b.room:=by unfold Dq;dsimp only;rw[d];rfl
 rw[e];exact AFV a _ g i
def Z6{A S s}(h:BK A S [] s)(i)(b:HM)(a:CZ b.v):BK A (S+1) [] (C0 s [i] {Cb with kind:=3,l:=b.l,v:=whole b.v}):=
 ⟨h.ts,Tl h.os (Ra λ_=>Ie _ a),h.tl,CB (R6 s _ _) (Na h.sl)⟩
def AFF:BK 20 0 [] []:=⟨nA,(λn o h=>by cases h),BS _,BS _⟩
def AN1(c):BF 0 (ED c):=⟨BS _,BS _,nA,nA⟩
def AUY{c f g a d e}(h:TG c f g a d e)(l:CZ f.v/\CZ g.v)(j:∀b∈[a,d,e],b.room<=999/\b.box<=999/\CZ b.n):BK 24 3 (ED c).AD (ED c).Ar:=by rw[AI5 h];have m:=Z6 (Z6 AFF 0 f l.1) 1 g l.2;have q:=λ(b:Fq)(k:b∈[a,d,e])(i:Nat)=>AAD (c:=c) (b:=b) [i] (j b k).1 (j b k).2.1 (j b k).2.2;have n:=m.fork (q a sP 2);have o:=n.fork ((q d sP 3).mono dC);have p:=o.fork ((q e sP 4).mono dC);exact p.mono dC dC
def AUb{c d e t0 t1 t2 m M}(h:TG c d e t0 t1 t2)(h0:Ap d.l=d.l)(h1:Ap e.l=e.l)(hb:∀b∈[t0,t1,t2],(Ap b.l=b.l/\Ap b.c=b.c)/\fl b.l b.c/\M b.AL/\b.box<2/\b.room<=999/\CZ b.n)(i:CZ d.v/\CZ e.v)(g:Ij c.im)(f:Jc c.im):Vf m M 0 (ED c) where
 kk:=AUc h h0 h1 λb a=>⟨(hb b a).1,(hb b a).2.1,(hb b a).2.2.1,(hb b a).2.2.2.1⟩
 bk:=AUY h i λb a=>⟨(hb b a).2.2.2.2.1,by have:=(hb b a).2.2.2.1;omega,(hb b a).2.2.2.2.2⟩
 bf:=AN1 c
 now:=rfl
 im:=g
 ib:=f
 lk:=λx j=>by cases j
def Vf.inv{n k}(h:Vf high (λ_=>True) n k):Hp n k:=⟨h.kk,h.bk,h.bf,h.now,h.im,h.ib⟩
def ABb:∀(l:AA Nm) {n:Nat} {k:Ab},Hp n k->Hp (n+l.length) (Eu k l)
 |[],_,_,h=>h
 |id::l,n,k,h=>by have:=ABb l (ASA h id);rw[EW,show n+(l.length+1)=n+1+l.length by omega];exact this
def AVh(k l):(Eu k l).im=k.im:=by
 induction l generalizing k with
 |nil=>rfl
 |cons a l b=>
  show(Eu (MR k a).1 l).im=k.im;rw[b];show(runK (FF k) a).1.im=k.im;rw[(X5 (FF k) a).2,(Tg k).1]
def AUa{c a b d}(e:c.boxes=[a])(f:c.A3=[b,d]):ED c= {im:=c.im,now:=0,AD:=B5 (B5 [] (Dq c b [1])) (Dq c d [2]),Ar:=C0 [] [0] {Cb with kind:=3,l:=a.l,v:=whole a.v},facts:=[],BQ:=[]}:=by unfold ED;rw[e,f];rfl
def AOO(v:Int):ED (Dv v)= {im:=(Dv v).im,now:=0,AD:=B5 (B5 [] (Dq (Dv v) ⟨0,EC,high,0,5,0,0⟩ [1])) (Dq (Dv v) ⟨0,([1],[]),high,0,5,0,0⟩ [2]),Ar:=C0 [] [0] {Cb with kind:=3,l:=(⟨([1],[]),v⟩:HM).l,v:=whole (⟨([1],[]),v⟩:HM).v},facts:=[],BQ:=[]}:=AUa rfl rfl
def AVZ:Ij DN:=⟨by decide+kernel,by decide+kernel,by decide+kernel⟩
def AVY:Jc DN where
 cs:=by
  intro v a;have:v=Cx EC\/v=Cx ([1],[])\/v=whole 2\/v=whole 9\/v=whole 1:=by simpa[DN]using a
  rcases this with rfl|rfl|rfl|rfl|rfl;exact Q4 _;exact Q4 _;exact Ie _;exact Ie _;exact Ie _
 ar:=by decide+kernel
def AFb(v:Int)(r:CZ v:=by decide):Hp 0 (ED (Dv v)):=by
 rw[AOO];let⟨p,c⟩:=AAA (m:=high) (M:=λ_=>True) AHz (i:=0) dC rfl (b:=⟨([1],[]),v⟩) (show Ap ([1],[])=([1],[]) by decide+kernel);have d:=Z6 AFF 0 ⟨([1],[]),v⟩ r;generalize C0 [] [0] {Cb with kind:=3,l:=(⟨([1],[]),v⟩:HM).l,v:=whole (⟨([1],[]),v⟩:HM).v}=s at p c d;replace c:∀q,Ai s q=if q=[0]then some {Cb with kind:=3,l:=([1],[]),v:=whole v}else none:=λq=>by rw[c];rfl
 have n:∀q o,Ai s q=some o->q.length=1:=λq o a=>by rw[c]at a;split at a;rename_i e;rw[e];rfl;cases a
 have j:∀i,1<=i->Ai s [i]=none:=λi y=>by rw[c,AN sO]
 have k:∀b∈[(⟨0,EC,high,0,5,0,0⟩:Fq),⟨0,([1],[]),high,0,5,0,0⟩],ZC high (λ_=>True) (Dv v) s b:=λb m=>by simp[mS]at m;rcases m with rfl|rfl;exact⟨⟨by decide+kernel,by decide+kernel⟩,by decide+kernel,A0,λ_=>⟨dC,by rw[c];exact⟨_,rfl,rfl,rfl⟩⟩⟩;exact⟨⟨by decide+kernel,by decide+kernel⟩,by decide+kernel,A0,λ_=>⟨dC,by rw[c];exact⟨_,rfl,rfl,rfl⟩⟩⟩
 have u:=To p (k _ (DX)) (i:=1) dC (j 1 dC) n nA;have w:=To u (k _ (DW _ DX)) (i:=2) dC (j 2 dC) n (λt g=>by have e:t=Dq (Dv v) ⟨0,EC,high,0,5,0,0⟩ [1]:=AP.1 g;rw[e];exact⟨1,rfl,dC,rfl,rfl⟩)
 have q1:=d.fork (AAD (c:=Dv v) (b:=⟨0,EC,high,0,5,0,0⟩) [1] dC dC dC);have q2:=q1.fork ((AAD (c:=Dv v) (b:=⟨0,([1],[]),high,0,5,0,0⟩) [2] dC dC dC).mono dC);exact⟨⟨w,λq o a _=>by have a:Ai s q=some o:=a;rw[c]at a;split at a;cases a;rfl;cases a⟩,q2.mono dC dC,⟨BS _,BS _,nA,nA⟩,rfl,AVZ,AVY⟩
def FO:AA Nm:=List.replicate 120 [1]
def SU(v:Int):Ab:=Eu (ED (Dv v)) FO
def SF(n:Nm):Bool:=n.all λx=>decide (x<=999)
def ALO(t:AJ):Bool:=BY t.id&&t.c.AF.all (λf=>decide (f.vars.length<=1000000)&&f.vars.all λv=>SF v.name)&&decide (t.c.stack=[]/\t.c.tries=[]/\t.scopes=[]/\t.ex=false)&&SF t.v.name
def ACl(a b:Ab):Bool:=decide ((Fe a EC).length=9)&&((Aw a.AD [1]).any λt=>decide (t.status=3/\t.v.n=1))&&decide (Fe a EC=Fe b EC)&&((Ai b.Ar [1,0]).any λo=>decide (o.ex/\o.v=whole (-7)))&&decide (a.AD=b.AD)&&a.AD.all ALO&&decide (a.Ar.length=b.Ar.length/\0<a.Ar.length)&&a.Ar.all λx=>(Ai b.Ar x.1).any λo=>decide (x.2.kind=o.kind/\x.2.l=o.l/\x.2.v≠o.v)&&SF x.2.v.name&&SF o.v.name
def AWo:ACl (SU 0) (SU 100):=by decide+kernel
def We(f:F0):Bool:=decide (f.now<=1000)&&decide (f=⟨f.now,[1],EC,whole 9⟩)
def AQL:(SU 0).facts.all We:=by decide+kernel
def AQM:(SU 100).facts.all We:=by decide+kernel
end Lz
namespace Go.Proofs.YtomehhepbeiinaaGreatDoor
open Tryz
section
open Go.AX
def zc:Nat->AE
 |1=>.string ⟨#[]⟩
 |2=>.slice none 0 0
 |3=>.int .i64 0
 |4=>.int .u8 0
 |5=>.bool false
 |6=>.map none
 |7=>.pointer none
 |8=>.nilFunc
 |_=>.nilIface
def zs:Nat->Nat->AA AE
 |0,_=>[]
 |k+1,n=>match Nat.beq n 0 with
  |true=>[]
  |false=>zc (n%10)::zs k (n/10)
def fo_(o:Nat):AA Nat->AA (Nat×Nat)
 |[]=>[]
 |x::l=>(o,x)::fo_ (o+x) l
def lS(t n:Nat)(l:AA Nat):Nat×Ty:=(t,⟨l.foldl (· + ·) 0,zs 40 n,.struct (fo_ 0 l)⟩)
def lA(t e:Nat):Nat×Ty:=(t,⟨1,[.slice none 0 0],.slice e⟩)
def lO(t k:Nat):Nat×Ty:=(t,⟨1,[zc k],.other⟩)
def lM(t k e:Nat):Nat×Ty:=(t,⟨1,[.map none],.map k e⟩)
def lay:Lay:=[
 (3,⟨1,[.int .i64 0],.int .i64⟩),
 lS 53 51113313332222111111 [1,1,4,3,1,1,1,1,1,5,1],
 lS 42 11 [1,1],
 lS 51 11133 [1,1,1,2],
 lS 48 222 [1,1,1],
 lA 29 51,
 (9,⟨1,[.string ⟨#[]⟩],.string⟩),
 lA 100 3,
 lS 87 4321113355511133113 [1,2,5,1,1,7,1,1],
 lS 218 4233522223511133133322221111113722 [2,1,1,20,1,5,2,1,1],
 lS 44 1111 [2,2],
 lS 211 33 [1,1],
 (5,⟨1,[.int .u8 0],.int .u8⟩),
 lA 23 5,
 lS 32 22 [1,1],
 lA 38 9,
 lS 85 2111335 [1,5,1],
 lA 45 65,
 lS 282 35331113333323322222222 [2,3,3,2,1,1,1,8,1,1],
 lS 107 22726322 [2,1,1,1,1,1,1],
 lS 65 24333 [1,1,1,1,1],
 lO 4 5,
 lS 351 4441 [1,1,1,1],
 lA 30 195,
 lS 103 333411113 [1,2,2,1,1,1,1],
 lA 188 211,
 lS 36 2222 [2,1,1],
 lA 49 114,
 lS 114 33111113333111 [1,2,1,1,1,1,4,1,1,1],
 (40,⟨1,[.string ⟨#[]⟩],.string⟩),
 lS 195 233 [1,1,1],
 lA 46 118,
 lA 83 261,
 (2,⟨1,[.int .i64 0],.int .i64⟩),
 lS 289 53331 [1,1,1,1,1],
 lS 126 52222 [1,1,1,1,1],
 lO 27 7,
 lS 383 33 [1,1],
 lS 213 33111333 [1,5,2],
 lS 118 333 [1,1,1],
 lS 99 311 [2,1],
 lS 190 232 [1,1,1],
 lA 33 99,
 lO 280 7,
 lS 380 6623322 [2,3,1,1],
 lS 444 38 [1,1],
 lS 25 222 [1,1,1],
 lS 261 1113351 [1,1,5],
 lO 216 7,
 lA 34 103,
 lO 89 7,
 lS 178 66 [1,1],
 lS 200 112 [1,2],
 lA 56 63,
 lS 63 41111313 [1,1,6],
 lS 154 111331113 [1,1,2,5],
 lA 105 154,
 lS 334 33 [1,1],
 lS 131 17 [1,1],
 lS 61 411113 [1,2,2,1],
 lS 250 27 [1,1],
 (227,⟨1,[.int .u64 0],.int .u64⟩),
 (491,⟨1,[.int .u64 0],.int .u64⟩),
 (302,⟨1,[.int .u64 0],.int .u64⟩),
 (21,⟨1,[.int .i32 0],.int .i32⟩),
 lM 175 9 87,
 lS 322 22 [2],
 lM 104 9 53,
 lS 202 112 [3],
 (423,⟨1,[.int .u32 0],.int .u32⟩),
 lS 489 44 [1,1],
 lS 135 1113311 [2,5],
 lS 141 21 [1,1],
 lS 295 3 [1],
 lA 67 42,
 lM 332 3 383,
 lS 485 911 [1,1,1],
 lM 378 3 4,
 lA 461 444,
 lA 121 53,
 lA 122 135,
 lA 123 61,
 lA 124 141,
 lM 176 42 38,
 lO 248 7,
 (368,⟨6,List.replicate 6 (.int .u8 0),.array 6 5⟩),
 lO 252 9,
 lA 22 23,
 lA 247 38,
 lA 186 2,
 (163,⟨5,List.replicate 5 (.string ⟨#[]⟩),.array 5 9⟩),
 (422,⟨20,List.replicate 20 (.int .u64 0),.array 20 227⟩),
 (469,⟨32,List.replicate 32 (.int .u8 0),.array 32 5⟩),
 (490,⟨32,List.replicate 32 (.int .u8 0),.array 16 489⟩),
 (93,⟨1,[.int .i64 0],.int .i64⟩),
 (360,⟨24,List.replicate 24 (.int .u8 0),.array 24 5⟩),
 lO 371 7,
 lS 499 1 [1],
 lO 26 8,
 lO 1 8,
 lS 106 22726322 [2,1,1,1,1,1,1],
 lS 177 66 [1,1],
 lM 284 3 1,
 lO 298 8,
 lM 299 3 298,
 lM 323 9 328,
 lS 379 6623322 [2,3,1,1],
 lO 436 8,
 lM 438 3 436]
def A6:Dg prog lay:=by unfold Dg;kernel_rfl
def mixed:prog.follows .mixedOrders:=kR
section
abbrev Dl:Type:=Ez->AI->Prop
structure AtD(ds:AA Deferred)(F:Ay)(a:Func)(n:Nat)(I:AB)(w:AI)(ρ:Nat->Nat)(A:AA Nat)(R:Dl)(f:BU):Prop where
 out:prog.funcs[F]? =some a->GG (Jg prog F a n I w ρ A ds) R f
abbrev At:=AtD []
structure Fn(F:Ay)(args:AA SV)(need:AA (Nat×AG))(I:AB)(c:Nat->AU->Prop)(b:AK (AA PanicEntry)):Prop where
 out:FC prog F args need I c b
 JF:Enters prog F
structure CO(b:Nat->AU->Prop)(need:AA (Nat×AG))(I:AB):Prop where
 out:∀key h,b key h->h.OJ key need/\I.le h.J
structure Ends(I:AB)(ρ:Nat->Nat)(key:Nat)(w:AI)(d:Nat->AU->Prop)(b:AK (AA PanicEntry))(e:Ez)(c:AI):Prop where
 out:Rf prog I ρ key w d b e c
def TW{I ρ b w d c}:Rf prog I ρ b w d c=Ends I ρ b w d c:=by funext e g;exact propext ⟨λh=>⟨h⟩,λh=>h.out⟩
structure E3(b:Nat->AU->Prop)(need:AA (Nat×AG))(I:AB):Prop where
 out:∀key h,b key h->h.OJ key need/\I.Cd h.J
def CO.Cg{e b I}(h:CO e b I):E3 e b I:=⟨λc x d=>⟨(h.out c x d).1,(h.out c x d).2.Cg⟩⟩
def ABB{F a c b I i e}(n)(g:prog.funcs[F]? =some a)(m:a.ntmps=n)(j:a.body.isSome)(h:(a.name== "runtime.NumGoroutine")=false)
 (hE:QL c b n) (hwf:E3 i b I) (k:∀ρ d w,100<=d->At F a n I w ρ (b.map (·.1)) (Ends I ρ d w i e) (init c b I (Io a))):Fn F c b I i e:=
 ⟨FC.mk g j m hE hwf.out λρ d w l=>by rw[TW];exact(k ρ d w l).out g,Hw g j h⟩
def Iv{F a c b I h e}(n)(j:prog.funcs[F]? =some a)(l:a.ntmps=n)(i:a.body.isSome)(g:(a.name== "runtime.NumGoroutine")=false)
 (hE:QL c b n) (hwf:CO h b I) (k:∀ρ d w,100<=d->At F a n I w ρ (b.map (·.1)) (Ends I ρ d w h e) (init c b I (Io a))):Fn F c b I h e:=
 ABB n j l i g hE hwf.Cg k
def go{ds F a n I w ρ A R}(e:prog.funcs[F]? =some a)(c m){f}
 (b:(CS prog lay c n A m f).cl=(CS prog lay c n A m f).ac) (d:AtD ds F a n I w ρ A R (CS prog lay c n A m f).f):AtD ds F a n I w ρ A R f:=
 ⟨λhF=>ACm (c:=Jg prog F a n I w ρ A ds) hF mixed A6 m b (d.out hF)⟩
def gg{ds F a n I w ρ A R}(c){f}
 (d:AtD ds F a n I w ρ A R (CS prog lay c n A 1000 f).f) (b:(CS prog lay c n A 1000 f).cl=(CS prog lay c n A 1000 f).ac:=by kernel_rfl):AtD ds F a n I w ρ A R f:=
 ⟨λhF=>ACm (c:=Jg prog F a n I w ρ A ds) hF mixed A6 1000 b (d.out hF)⟩
def gG{ds F a n I w ρ A R f}
 (c:AtD ds F a n I w ρ A R (CS prog lay [] n A 1000 f).f) (b:(CS prog lay [] n A 1000 f).cl=(CS prog lay [] n A 1000 f).ac:=by kernel_rfl):AtD ds F a n I w ρ A R f:=
 gg [] c b
def fo{F a c b I h e}(j:prog.funcs[F]? =some a)
 (hwf:CO h b I) (k:∀ρ d w,100<=d->At F a a.ntmps I w ρ (b.map (·.1)) (Ends I ρ d w h e) (init c b I (Io a))) (i:a.body.isSome:=by rfl) (g:(a.name== "runtime.NumGoroutine")=false:=by rfl) (hE:QL c b a.ntmps:=by kernel_rfl):Fn F c b I h e:=
 Iv a.ntmps j rfl i g hE hwf k
def Bh{F a c b I h e}(j:prog.funcs[F]? =some a)
 (hwf:E3 h b I) (k:∀ρ d w,100<=d->At F a a.ntmps I w ρ (b.map (·.1)) (Ends I ρ d w h e) (init c b I (Io a))) (i:a.body.isSome:=by rfl) (g:(a.name== "runtime.NumGoroutine")=false:=by rfl) (hE:QL c b a.ntmps:=by kernel_rfl):Fn F c b I h e:=
 ABB a.ntmps j rfl i g hE hwf k
def A1(r:SV)(I:AB):Nat->AU->Prop:=λ_ h=>h= {r:=r,J:=I}
def BZ{r I c}(i:r.keys=[]):CO (A1 r I) c I:=by refine⟨?_⟩;rintro j h rfl;exact⟨⟨(λk e=>by rw[i]at e;cases e),nA,nA,sP,sP⟩,AB.le_refl _⟩
def done{F a n I w ρ A b g f}(i:prog.funcs[F]? =some a)(c:100<=b)(e){h}(hend:I3 lay a.results.toList A e b f=some h)(d:g b h):At F a n I w ρ A (Ends I ρ b w g none) f:=
 ⟨λ_=>by rw[<-TW];exact AKD A6 i e hend c d⟩
def fin{F a n I w ρ A b r f J}(d:prog.funcs[F]? =some a)(c:100<=b)(hend:I3 lay a.results.toList A [] b f=some {r:=r,J:=J}):At F a n I w ρ A (Ends I ρ b w (A1 r J) none) f:=
 done d c [] hend rfl
def dn{F a n I w ρ A key e f}(d){h}(c:e key h)(hend:I3 lay a.results.toList A d key f=some h:=by kernel_rfl)(b:100<=key:=by assumption):At F a n I w ρ A (Ends I ρ key w e none) f:=
 ⟨λhF=>by rw[<-TW];exact AKD A6 hF d hend b c⟩
def fi{F a n I w ρ A key r f J}(hend:I3 lay a.results.toList A [] key f=some {r:=r,J:=J}:=by kernel_rfl)(b:100<=key:=by assumption):At F a n I w ρ A (Ends I ρ key w (A1 r J) none) f:=
 dn [] rfl hend b
variable {ds:List Deferred} {F:FuncId} {a:Func} {n:Nat} {I:AB} {w:World} {ρ:Nat->Nat} {A:List Nat} {R:Dl} {f:BU}
def Ag{args need I' i G}(h:Fn G args need I' i none)(th b)(c:Ci f n G th need b=some (Bz (AT th) args,need.map (λkb=>some (kb.2.Am (AT th))),I'))
 (d:∀key h,i key h->∀kb∈h.upd,kb.1∈b) (hnext:∀h,i (Cw f) h->AtD ds F a n I w ρ A R (f.out (AT th) h)):AtD ds F a n I w ρ A R f:=
 ⟨λhF=>AFk (c:=Jg prog F a n I w ρ A ds) h.out h.JF th b c d (λ_ h g=>(hnext h g).out hF) (λ_ e=>by cases e)⟩
def call{b r d G}(h:Fn G b [] d (A1 r d) none)(c:Ci f n G [] [] []=some (Bz (AT []) b,[],d))(hnext:AtD ds F a n I w ρ A R (f.out (AT []) {r:=r,J:=d})):AtD ds F a n I w ρ A R f:=
 Ag h [] [] c (λ_ h e i g=>by subst e;cases g) λh e=>by subst e;exact hnext
theorem BW(k d){vs e}(c:(QT f A k,f.σ.im)=(some (vs,e),d))(h:∀b J,d.le J->J.own=d.own->J b=some (.cells vs.toArray e (0,0))->AtD ds F a n I w ρ A R (f.BW k b J)):AtD ds F a n I w ρ A R f:=
 ⟨λhF=>AQu (c:=Jg prog F a n I w ρ A ds) k (GY c).1 λb J g i j=>(h b J ((GY c).2▸g) ((GY c).2▸i) j).out hF⟩
def loop{ι:Type}(P:ι->Prop)(h:ι->Nat)(b:ι->Hd)(cnt:Nat)(e:AA (Nat×Nat))(c:ι)(k:P c)(d:Ot f e (b c)=Ou e (b c))(g:Qe A e (b c).By (b c).Bu cnt)
 (round:∀i,P i->(∀j,P j->h j<h i->∀T,AtD ds F a n I w ρ A R ((b j).Og T (Nz f.todo) cnt))->∀T,AtD ds F a n I w ρ A R ((b i).Og T (Nz f.todo) cnt)):AtD ds F a n I w ρ A R f:=
 ⟨λhF=>ATZ (c:=Jg prog F a n I w ρ A ds) P h b cnt e c k d g λi l p T=>(round i l (λj m o T=>⟨λ_=>p j m o T⟩) T).out hF⟩
def back(e s cnt){b}(d:Ot f e s=Ou e s)(c:UO f.todo=b)(g:Qe A e s.By s.Bu cnt)(h:∀T,AtD ds F a n I w ρ A R (s.Og T b cnt)):AtD ds F a n I w ρ A R f:=
 ⟨λhF=>ANj (c:=Jg prog F a n I w ρ A ds) e s cnt d c g λT=>(h T).out hF⟩
def act{need g e}(b)(c:Lw f n need b=some (need.map (λk=>some k.2),g))(i:HS prog (Lc f) f.σ.tm (Cw f) need g e none)
 (d:∀h,e h->∀k∈h.upd,k.1∈b) (hwf:∀h,e h->h.wf g (Cw f) need []) (hnext:∀h,e h->AtD ds F a n I w ρ A R (f.act h)):AtD ds F a n I w ρ A R f:=
 ⟨λhF=>ANG (c:=Jg prog F a n I w ρ A ds) b c i d hwf λh j=>(hnext h j).out hF⟩
end
section
structure Ch(I:AB)(size:Nat)(a:AK Ac)(n:Nat)(xs:AA AE):Prop where
 len:xs.length=n*size
 one:∀v∈xs,v.oneCell'
 at_:n=0\/∃b off arr e fr,a=some ⟨b,off,none⟩/\I b=some (.cells arr e fr)/\(arr.toList.drop off).take (n*size)=xs
def Ch.up{I J c n a xs}(h:Ch I c a n xs)(hle:I.le J):Ch J c a n xs:=
 ⟨h.len,h.one,h.at_.imp id λ⟨b,d,arr,e,f,g,i,j⟩=>⟨b,d,arr,e,f,g,hle b _ i,j⟩⟩
def Ch.reads{I d n c a xs}(h:Ch I d a n xs){need}:Reads I need (.v (.slice a n c)) d n xs:=by rcases h.at_ with f|⟨b,k,arr,e,l,g,i,j⟩;subst f;have:xs=[]:=Hm (by rw[h.len];simp);subst this;exact NG;subst g;exact AWE i j h.len h.one
theorem Ch.nil{I b a}:Ch I b a 0 []:=⟨sP,nA,.inl rfl⟩
def Ch.NC{J a n b e xs AC}(h:J b=some (.cells (xs++AC).toArray e (0,0)))(c:xs.length=n*a)(d:∀v∈xs,v.oneCell'):Ch J a (some ⟨b,0,none⟩) n xs:=
 ⟨c,d,.inr ⟨b,0,_,e,_,rfl,h,by simp[<-c]⟩⟩
def Px(I:AB)(b n:Nat)(d:AA AE):Nat->AU->Prop:=λ_ h=>∃a c J,h= {r:=.v (.slice a n c),J:=J}/\I.le J/\n<=c/\c<=maxLen/\Ch J b a n d
def Ya{I e n m d}:CO (Px I e n m) d I:=by refine⟨?_⟩;rintro l h ⟨a,c,J,rfl,g,_⟩;exact⟨⟨nA,nA,nA,sP,sP⟩,g⟩
def Ka{t e a n c}(x y)(h:prog.underlying t=some (.slice e)){I}:
 ∀w,Db w I->∃b,((do eqGuard .eql t x y (.slice a n c) (.slice none 0 0);binOp .eql t (.slice a n c) (.slice none 0 0):Sem AE)).run prog w=.ok (den id (.v (.bool a.isNone))) b/\BB w b:=λw _=>
 ⟨w,by
   have d:(eqGuard .eql t x y (.slice a n c) (.slice none 0 0)).run prog w=.ok () w:=rfl;simp[Sem.run_bind,d,Result.andThen_ok];exact Lib.run_eql_slice_nil w t e a n c 0 0 h,BB.refl w⟩
def Oa{I j n m e u s a}(q:u=[]\/∃k p o,u=[(k,.gone)]/\a=[(k,.Aa p o)]):∀h,TC I j n m e u s h->h.wf I j a []:=by rintro h ⟨t,i,_,_,_,rfl⟩;refine{r:=λk f=> ?_,u:=λv c=> ?_,n:=λb g k f=> ?_,l:=by simp,le:=AB.Fa _,d:= ?_};right;simp[SV.keys,AP]at f;subst f;have:=Gx (key:=k) (nb:=[AG.Aa (s++i) e]) (j:=0);simp[FD]at this;rw[this];rfl;rcases q with rfl|⟨k,p,o,rfl,rfl⟩;cases c;simp at c;subst c;exact⟨sP,λb g=>by simp at g;subst g;rfl,nA⟩;simp at g;subst g;cases f;rcases q with rfl|⟨k,p,o,rfl,rfl⟩<;>simp
variable {I:AB}
def AKw{ts t}{x y:Int}(z:Int)(h:max x y=z):∀w,Db w I->∃a,(Builtin.max_ ts t #[.int .i64 x,.int .i64 y]).run prog w=.ok (den id (.v (.int .i64 z))) a/\BB w a:=λw _=>
 ⟨w,by rw[run_max_int2];simp[den];congr 2;split<;>omega,BB.refl w⟩
def AKx{ts t}{x y:Int}(z:Int)(h:min x y=z):∀w,Db w I->∃a,(Builtin.min_ ts t #[.int .i64 x,.int .i64 y]).run prog w=.ok (den id (.v (.int .i64 z))) a/\BB w a:=λw _=>
 ⟨w,by rw[run_min_int2];simp[den];congr 2;split<;>omega,BB.refl w⟩
def AKv{t e i a}{n c m:Nat}(g:prog.underlying t=some (.slice e))(f:prog.info? e=some i)(h:m<=c):∀w,Db w I->∃d,(Instr.sliceAt t (.slice a n c) none (some (.int .i64 (m:Int))) (some (.int .i64 (m:Int)))).run prog w=.ok (den id (.v (.slice a m m))) d/\BB w d:=λw _=>
 ⟨w,by
   have b:(0:Int)<=(m:Int)/\(m:Int)<=(c:Int):=oG;simp[Instr.sliceAt,Instr.slice,run_underlying g,Instr.sliceBounds,run_sliceBound,b.1,b.2,sizeOf,typeInfo,f,Result.andThen,den];cases a<;>simp[Addr.add],BB.refl w⟩
def Uz{t e i a}{n c m:Nat}(g:prog.underlying t=some (.slice e))(f:prog.info? e=some i)(h:m<=c):∀w,Db w I->∃d,(Instr.sliceAt t (.slice a n c) none (some (.int .i64 (m:Int))) none).run prog w=.ok (den id (.v (.slice a m c))) d/\BB w d:=λw _=>
 ⟨w,by
   have b:(0:Int)<=(m:Int)/\(m:Int)<=(c:Int):=oG;simp[Instr.sliceAt,Instr.slice,run_underlying g,Instr.sliceBounds,run_sliceBound,b.1,b.2,sizeOf,typeInfo,f,Result.andThen,den];cases a<;>simp[Addr.add],BB.refl w⟩
def T6(a:AK Ac)(l c b:Nat):AK Ac:=if c=l then a else a.map (·.add (l*b))
def AXG{t e i a}{n c m:Nat}(g:prog.underlying t=some (.slice e))(f:prog.info? e=some i)(h:m<=n):∀w,Db w I->∃d,(Instr.sliceAt t (.slice a n c) (some (.int .i64 (m:Int))) none none).run prog w=.ok (den id (.v (.slice (T6 a m c i.size) (n-m) (c-m)))) d/\BB w d:=λw _=>
 ⟨w,by
   have b:(0:Int)<=(m:Int)/\(m:Int)<=(n:Int):=oG;simp[Instr.sliceAt,Instr.slice,run_underlying g,Instr.sliceBounds,run_sliceBound,b.1,b.2,sizeOf,typeInfo,f,Result.andThen,den,T6],BB.refl w⟩
def Ch.take{c n m a g}(h:Ch I c a n g)(f:m<=n):Ch I c a m (g.take (m*c)):=by refine⟨?_,λv o=>h.one v (Fl o),?_⟩;rw[CX,h.len];exact JX (RE c f);rcases h.at_ with p|⟨b,d,arr,e,i,j,k,l⟩;exact .inl oG;refine .inr ⟨b,d,arr,e,i,j,k,?_⟩;rw[<-l,Kx,JX (RE c f)]
def Ch.drop{d n m c a g}(h:Ch I d a n g)(p:m<=n)(s:n<=c):Ch I d (T6 a m c d) (n-m) (g.drop (m*d)):=by refine⟨?_,λv q=>h.one v (Kw q),?_⟩;rw[KF,h.len,VU];rcases Nat.eq_or_lt_of_le p with e|o;exact .inl oG;rcases h.at_ with r|⟨b,f,arr,e,i,j,k,l⟩;exact .inl oG;refine .inr ⟨b,f+m*d,arr,e,i,?_,k,?_⟩;unfold T6;rw[AN oG,j];simp[Addr.add];rw[<-l,ADq,ADo,VU]
def RS(I:AB)(c n:Nat)(e:Av)(f:AA AE):Nat->AU->Prop:=λd h=>∃a b,n<=a/\a<=maxLen/\b.length=(a-n)*c/\h= {r:=.s d 0 n a,nb:=[.Aa (f++b) e],J:=I}
def YZ{f n e i d}:CO (RS I f n e i) d I:=by refine⟨?_⟩;rintro m h ⟨j,c,_,_,_,rfl⟩;refine⟨⟨λk a=>.inr ?_,nA,(λb l k a=> ?_),sP,sP⟩,AB.le_refl _⟩;simp[SV.keys,AP]at a;subst a;have:=Gx (key:=k) (nb:=[AG.Aa (i++c) e]) (j:=0);simp[FD]at this;rw[this];rfl;rw[AP.1 l]at a;cases a
end
section
def Ry{e n}(h:(prog.info? e).map (·.size)=some n):∃i,prog.info? e=some i/\i.size=n:=by simpa[KM]using h
def U9:prog.underlying 49=some (.slice 114):=kR
def Wv:∃i,prog.info? 114=some i/\i.size=14:=Ry kR
def AEs:FE prog lay 49 114 14:=⟨⟨_,rfl⟩,⟨_,_,rfl,rfl⟩,kR⟩
def Lf:prog.underlying 29=some (.slice 51):=kR
def O5:∃i,prog.info? 51=some i/\i.size=5:=Ry kR
def Jf:FE prog lay 29 51 5:=⟨⟨_,rfl⟩,⟨_,_,rfl,rfl⟩,kR⟩
def Q0:prog.underlying 46=some (.slice 118):=kR
def Ww:∃i,prog.info? 118=some i/\i.size=3:=Ry kR
def Zq:FE prog lay 46 118 3:=⟨⟨_,rfl⟩,⟨_,_,rfl,rfl⟩,kR⟩
def Sp:prog.underlying 45=some (.slice 65):=kR
def Wx:∃i,prog.info? 65=some i/\i.size=5:=Ry kR
def AEr:FE prog lay 45 65 5:=⟨⟨_,rfl⟩,⟨_,_,rfl,rfl⟩,kR⟩
def ALn:prog.underlying 56=some (.slice 63):=kR
def AEt:FE prog lay 56 63 8:=⟨⟨_,rfl⟩,⟨_,_,rfl,rfl⟩,kR⟩
def ALl:prog.underlying 38=some (.slice 9):=kR
def ARw:∃i,prog.info? 9=some i/\i.size=1:=Ry kR
def Tb:FE prog lay 38 9 1:=⟨⟨_,rfl⟩,⟨_,_,rfl,rfl⟩,kR⟩
def YP:prog.underlying 83=some (.slice 261):=kR
def ARv:∃i,prog.info? 261=some i/\i.size=7:=Ry kR
def Tc:FE prog lay 83 261 7:=⟨⟨_,rfl⟩,⟨_,_,rfl,rfl⟩,kR⟩
variable {F t e z:Nat} {d:Func}
abbrev el(_:prog.underlying t=some (.slice e)):Nat:=e
def WJ(k:prog.funcs[F]? =some d)(hF:(F=41/\t=49/\e=114/\d=f41)\/(F=42/\t=29/\e=51/\d=f42)\/(F=43/\t=46/\e=118/\d=f43)\/(F=44/\t=45/\e=65/\d=f44)\/(F=45/\t=56/\e=63/\d=f45)\/(F=118/\t=38/\e=9/\d=f118)\/(F=134/\t=83/\e=261/\d=f134))(U:prog.underlying t=some (.slice e))(A:FE prog lay t e z)(I a n c xs)(hc:n<=16777216)(h:Ch I z a n xs):Fn F [.v (.slice a n c)] [] I (Px I z n xs) none:=by
 rcases hF with⟨rfl,rfl,rfl,rfl⟩|⟨rfl,rfl,rfl,rfl⟩|⟨rfl,rfl,rfl,rfl⟩|⟨rfl,rfl,rfl,rfl⟩|⟨rfl,rfl,rfl,rfl⟩|⟨rfl,rfl,rfl,rfl⟩|⟨rfl,rfl,rfl,rfl⟩<;>
 .refine fo k Ya λρ key w g=> ?_;cases a with
  |none=>
   obtain rfl:n=0:=h.at_.elim id λ⟨b,off,arr,e,fr,h1,_⟩=>by cases h1
   obtain rfl:xs=[]:=Hm (by simpa using h.len);refine gg [(4,.op I _ (.v (.bool true)) (Ka (a:=none) (n:=0) (c:=c) (.tmp 3) (.const (.slice none 0 0)) U))] ?_;exact dn [] ⟨none,0,I,rfl,AB.le_refl _,BS _,by unfold maxLen;omega,Ch.nil⟩
  |some ad=>
   refine gg [(4,.op I _ (.v (.bool false)) (Ka (a:=some ad) (n:=n) (c:=c) (.tmp 3) (.const (.slice none 0 0)) U))]<|act (need:=[(124,.Aa [] (el U))]) [124] kR (JC A6 (n:=0) (cap:=0) (vs:=[]) (olds:=[]) (x:=.v (.slice (some ad) n c)) A kR sP sP sP sP (h.reads (c:=c)) (AZ _) (by unfold maxLen;omega) oG) ?_ (Oa (.inr ⟨_,_,_,rfl,rfl⟩)) ?_;rintro h ⟨cap,AC,_,_,_,rfl⟩ kb f;rw[AP.1 f];exact AP.2 rfl;rintro h' ⟨cap,AC,h1,i,l,rfl⟩;exact gG<|BW 140 I (vs:=xs++AC) (e:=el U) kR λb J hle _ j=>gG<|dn [] ⟨_,cap,J,sP,hle,oG,i,Ch.NC j h.len h.one⟩ (h:={r:=.v (.slice (some ⟨b,0,none⟩) (0+n) cap),J:=J})
def AOt:= @WJ 41 49 114 14 _ func41 (by simp) U9 AEs
def AAR:= @WJ 42 29 51 5 _ func42 (by simp) Lf Jf
def AOw:= @WJ 43 46 118 3 _ func43 (by simp) Q0 Zq
def WH:= @WJ 134 83 261 7 _ func134 (by simp) YP Tc
def AO1(i:prog.funcs[F]? =some d)(hF:(F=44/\t=45/\e=65/\d=f44)\/(F=118/\t=38/\e=9/\d=f118))(U:prog.underlying t=some (.slice e))(A:FE prog lay t e z)(I ad n c xs)(hc:n<=16777216)(h:Ch I z (some ad) n xs):Fn F [.v (.slice (some ad) n c)] [] I (RS I z n e xs) none:=by
 rcases hF with⟨rfl,rfl,rfl,rfl⟩|⟨rfl,rfl,rfl,rfl⟩<;>
 .refine fo i YZ λρ key w b=>gg [(4,.op I _ (.v (.bool false)) (Ka (a:=some ad) (n:=n) (c:=c) (.tmp 3) (.const (.slice none 0 0)) U))]<|act (need:=[(124,.Aa [] (el U))]) [124] kR (JC A6 (n:=0) (cap:=0) (vs:=[]) (olds:=[]) (x:=.v (.slice (some ad) n c)) A kR sP sP sP sP (h.reads (c:=c)) (AZ _) (by unfold maxLen;omega) oG) ?_ (Oa (.inr ⟨_,_,_,rfl,rfl⟩)) ?_;rintro h ⟨cap,AC,_,_,_,rfl⟩ kb a;rw[AP.1 a];exact AP.2 rfl;rintro h' ⟨cap,AC,h1,f,g,rfl⟩;refine gG ?_;exact dn [140] ⟨cap,AC,oG,f,by rw[g];simp,sP⟩ (h:={r:=.s (key+0) 0 (0+n) cap,nb:=[.Aa (xs++AC) (el U)],J:=I})
def WI:= @AO1 44 45 65 5 _ func44 (by simp) Sp AEr
def AAO(g:prog.funcs[F]? =some d)(hF:(F=114/\t=49/\e=114/\d=f114)\/(F=165/\t=29/\e=51/\d=f165)\/(F=288/\t=46/\e=118/\d=f288))(U:prog.underlying t=some (.slice e))(N:∃i,prog.info? e=some i/\i.size=z)(I a n c)(f:n<=c):Fn F [.v (.slice a n c)] [] I (A1 (.v (.slice a n n)) I) none:=by
 let⟨i,h,_⟩:=N;rcases hF with⟨rfl,rfl,rfl,rfl⟩|⟨rfl,rfl,rfl,rfl⟩|⟨rfl,rfl,rfl,rfl⟩<;>
 .exact fo g (BZ rfl) λk j w b=>gg [(8,.op I _ (.v (.slice a n n)) (AKv (a:=a) (n:=n) U h f))]<|fi
def AFs:= @AAO 114 49 114 14 _ func114 (by simp) U9 Wv
def AAN:= @AAO 165 29 51 5 _ func165 (by simp) Lf O5
def AFt:= @AAO 288 46 118 3 _ func288 (by simp) Q0 Ww
def AAZ(f:prog.funcs[F]? =some d)(hF:(F=168/\t=45/\e=65/\d=f168)\/(F=169/\t=29/\e=51/\d=f169)\/(F=170/\t=46/\e=118/\d=f170))(U:prog.underlying t=some (.slice e))(N:∃i,prog.info? e=some i/\i.size=z)(I:AB)(a:AK Ac)(n c m:Nat)(j:n<=c):Fn F [.v (.slice a n c),.v (.int .i64 (m:Int))] [] I (A1 (.v (.slice a (min m n) (min m n))) I) none:=by
 obtain⟨i,g,_⟩:=N;rcases hF with⟨rfl,rfl,rfl,rfl⟩|⟨rfl,rfl,rfl,rfl⟩|⟨rfl,rfl,rfl,rfl⟩<;>
 .refine fo f (BZ rfl) λk h w b=> ?_;exact gg [(6,.op I _ (.v (.int .i64 (m:Int))) (AKw (ts:=#[3,3]) (t:=3) (x:=(m:Int)) (y:=0) (m:Int) oG)),(9,.op I _ (.v (.int .i64 ((min m n:Nat):Int))) (AKx (ts:=#[3,3]) (t:=3) (x:=(m:Int)) (y:=(n:Int)) ((min m n:Nat):Int) oG)),(13,.op I _ (.v (.slice a (min m n) (min m n))) (AKv (a:=a) (n:=n) (c:=c) (m:=min m n) U g oG))]<|fi
def WO:= @AAZ 168 45 65 5 _ func168 (by simp) Sp Wx
def Tt:= @AAZ 169 29 51 5 _ func169 (by simp) Lf O5
def AGA:= @AAZ 170 46 118 3 _ func170 (by simp) Q0 Ww
end
def Ch.UZ{I a n f}(h:Ch I a none n f):n=0:=h.at_.elim id λ⟨b,d,arr,e,g,c,_⟩=>by cases c
def LD{I a n c e d b}:∀h,TC I a n c e [] d h->h.wf I a b []:=Oa (.inl rfl)
def ANH(I a)(n c:Nat)(o)(g:Int)(i:Int)(j k l)(s:n<=c)(E:n<=1000000)(h:Ch I 5 a n o):Fn 196 [.v (.slice a n c),.g [.v (.int .i64 g),.v (.int .i64 i),.v (.string j),.v (.string k),.v (.string l)]] [] I (Px I 5 (n+1) (o++[.int .i64 g,.int .i64 i,.string j,.string k,.string l])) none:=by have B:min n n=n:=Y6 n;refine Iv 12 func196 ntmps196 rfl rfl kR Ya λG C w t=>gG<|call (Tt I a n c n s) kR ?_;rw[B];refine gG ?_;refine act (need:=[(156,.cells [.v (.int .i64 g),.v (.int .i64 i),.v (.string j),.v (.string k),.v (.string l)] 51)]) [] kR (KU A6 (n:=n) (cap:=n) (m:=1) (a:=a) (l:=.v (.slice a n n)) (x:=.s 156 0 1 1) (olds:=o) (news:=[.int .i64 g,.int .i64 i,.string j,.string k,.string l]) Jf kR rfl (h.reads (c:=n)) (D2 (AP.2 rfl) rfl (by intro v m;simp at m;rcases m with rfl|rfl|rfl|rfl|rfl<;>rfl)) (AZ _) (Y5 _) (λe=>by subst e;exact h.UZ) oG) (λu A F p=> ?_) LD ?_;obtain⟨f,d,_,_,_,rfl⟩:=A;cases p;rintro u ⟨f,d,x,y,D,rfl⟩;refine gG<|BW 164 I (vs:=(o++[.int .i64 g,.int .i64 i,.string j,.string k,.string l])++d) (e:=51) kR λb J hle _ z=>gG<|dn [] ⟨_,f,J,rfl,hle,x,y,Ch.NC z (by simp[h.len,FU]) ?_⟩ (h:={r:=.v (.slice (some ⟨b,0,none⟩) (n+1) f),J:=J});intro v m;rcases BA.1 m with q|q;exact h.one v q;simp at q;rcases q with rfl|rfl|rfl|rfl|rfl<;>rfl
def Vu(I a)(n c:Nat)(s)(j:Int)(k:Int)(l:Int)(m:Int)(o)(i g:Nat)(u:n<=c)(G:n<=1000000)(h:Ch I 5 a n s):Fn 190 [.v (.slice a n c),.g [.v (.int .i64 j),.v (.int .i64 k),.v (.int .i64 l),.v (.int .u8 m),.v (.slice o i g)]] [] I (Px I 5 (n+1) (s++[.int .i64 j,.int .i64 k,.int .i64 l,.int .u8 m,.slice o i g])) none:=by have D:min n n=n:=Y6 n;refine Iv 12 func190 ntmps190 rfl rfl kR Ya λK E w x=>gG<|call (WO I a n c n u) kR ?_;rw[D];refine gG ?_;refine act (need:=[(156,.cells [.v (.int .i64 j),.v (.int .i64 k),.v (.int .i64 l),.v (.int .u8 m),.v (.slice o i g)] 65)]) [] kR (KU A6 (n:=n) (cap:=n) (m:=1) (a:=a) (l:=.v (.slice a n n)) (x:=.s 156 0 1 1) (olds:=s) (news:=[.int .i64 j,.int .i64 k,.int .i64 l,.int .u8 m,.slice o i g]) AEr kR rfl (h.reads (c:=n)) (D2 (AP.2 rfl) rfl (by intro v p;simp at p;rcases p with rfl|rfl|rfl|rfl|rfl<;>rfl)) (AZ _) (Y5 _) (λe=>by subst e;exact h.UZ) oG) (λy C H t=> ?_) LD ?_;obtain⟨f,d,_,_,_,rfl⟩:=C;cases t;rintro y ⟨f,d,z,A,F,rfl⟩;refine gG<|BW 164 I (vs:=(s++[.int .i64 j,.int .i64 k,.int .i64 l,.int .u8 m,.slice o i g])++d) (e:=65) kR λb J hle _ B=>gG<|dn [] ⟨_,f,J,rfl,hle,z,A,Ch.NC B (by simp[h.len,FU]) ?_⟩ (h:={r:=.v (.slice (some ⟨b,0,none⟩) (n+1) f),J:=J});intro v p;rcases BA.1 p with q|q;exact h.one v q;simp at q;rcases q with rfl|rfl|rfl|rfl|rfl<;>rfl
section
variable {ds:List Deferred} {F:FuncId} {a:Func} {n:Nat} {I:AB} {w:World} {ρ:Nat->Nat} {A:List Nat} {R:Dl} {f:BU}
def doneD(k:prog.funcs[F]? =some a){b e}(c:100<=b)(j){h}(hend:I3 lay a.results.toList A j b f=some h)(i:e b h)
 (g:∀(tmps:AY AE)(d:AI)(v:AE),(results a tmps).run prog d=.ok v d->Rf prog I ρ b w e none (.returned v) d->Leaves prog a tmps (Rf prog I ρ b w e none) ds .returning d):AtD ds F a n I w ρ A (Ends I ρ b w e none) f:=
 ⟨λ_=>by rw[<-TW];exact AWP A6 k j hend c i g⟩
def AHL:AA Item->AK (AY BP)
 | .code (.region _ ops false)::_=>some ops
 |_=>none
def APW(i:prog.funcs[F]? =some a)(s b x y C)
 (e:f.rg.isNone) (c:((AHL f.todo).map λops=>(ops.size,(ops[0]?).map (λo=>(o.op,o.dst,o.guard)),(ops[1]?).map (λo=>(o.op,o.dst,o.guard))))=some (2,some (.makeFunc (.func b) #[] #[.tmp x,.tmp y],some s,none),some (.defer {callee:=.value (.tmp s),args:=#[],argTypes:=C},none,none))) (B:Nat.blt s n)
 (h:∀u v:AE,AtD [{target:=.fn (.func b) #[u,v],args:=#[]}] F a n I w ρ A R ⟨f.σ.put (some s) (.fn (.func b) [] [f.σ.tm x,f.σ.tm y]),f.todo.tail,none,f.cnt⟩):At F a n I w ρ A R f:=by
 let⟨ops,d,g⟩:=KM.1 c;simp only[OQ]at g;let⟨m,p,q⟩:=g;let⟨D,r,q0⟩:=KM.1 p;let⟨o1,t,q1⟩:=KM.1 q;simp only[OQ]at q0 q1;obtain⟨tag,k,j⟩:∃tag k,f.todo=.code (.region tag ops false)::k:=by unfold AHL at d;split at d;rename_i tag l k z;cases d;exact⟨tag,k,z⟩;cases d
 rw[j]at h;exact⟨λ_=>APX (c:=ctx prog F a n I w ρ A) i rfl e j m r t q0.2.2 q1.2.2 q0.2.1 q1.2.1 B q0.1 q1.1 rfl rfl λu v=>(h u v).out i⟩
end
end
section
open Go.RowKit Go.Shelf
def AQK(a b)(c:Bo a)(d:Bo b)(x:Int)(p)(f:x=p.toNat)(w):Calls prog 359 #[pv a,pv b,.int .u8 x] w λe g=>e=.returned (.bool (Lz.fb a b p))/\Below w.heap.size w g:=by have:=AVp (str a.1) (str a.2) (str b.1) (str b.2) c.l c.r d.l d.r x p f w;simp[H6]at this;exact this
section
attribute [local go_sem] Ek
end
end
section
open Go.AX Go.RowKit
def AHD{w a}(h:Below w.heap.size w a):BB w a:=⟨h.os,h.tape,h.output,h.size,h.block⟩
def MB{F f args av r v I}(s:prog.funcs[F]? =some f)(a:f.body.isSome)(k:(f.name== "runtime.NumGoroutine")=false)
 (q:∀d,(As d args).toArray=av) (y:∀d,den d r=v) (x:r.keys=[]) (h:∀w,Db w I->Calls prog F av w λe n=>e=.returned v/\Below w.heap.size w n):Fn F args [] I (A1 r I) none:=by
 refine⟨⟨(BZ x).Cg.out,λd z w m _ l _ _=> ?_⟩,AX.Hw s a k⟩;rw[q d];refine(h w l.1).mono ?_;rintro e n ⟨rfl,p⟩;have c:=AHD p;refine⟨{r:=r,J:=I},λ_=>0,rfl,⟨c.os,c.tape,c.output,c.size,λb a _ _=>c.block b a,nA,(λj b u=>by simp at u),(λi j t=>by simp at t),c.holds l,λb o a=>.inl a,λb o a=>Gg a⟩,?_⟩;simp[y]
def Cc(a:Lz.AV):SV:=.g [.v (.string (str a.1)),.v (.string (str a.2))]
def IQ(s:Lz.St):SV:=.g [.v (.string (str s.cur.1)),.v (.string (str s.cur.2)),.v (.string (str s.Al.1)),.v (.string (str s.Al.2))]
def LL(I a b)(c:Bo a)(d:Bo b):Fn 15 [Cc a,Cc b] [] I (A1 (.v (.bool (Lz.fl a b))) I) none:=
 MB func15 kR kR (λ_=>rfl) (λ_=>rfl) rfl λw _=>AQg a b c d w
def SG(I a)(b:Bo a):Fn 189 [Cc a] [] I (A1 (Cc (Lz.Ap a)) I) none:=
 MB func189 kR kR (λ_=>rfl) (λ_=>rfl) rfl λw _=>AUh a b w
def ABc(I a b)(c:Bo a)(d:Bo b):Fn 36 [Cc a,Cc b] [] I (A1 (Cc (Lz.jn a b)) I) none:=
 MB func36 kR kR (λ_=>rfl) (λ_=>rfl) rfl λw _=>ASI a b c d w
def AUA(I a b)(c:Bo a)(d:Bo b):Fn 292 [Cc a,Cc b] [] I (A1 (Cc (Lz.mt a b)) I) none:=
 MB (func292) kR kR (λ_=>rfl) (λ_=>rfl) rfl λw _=>AUB a b c d w
def XJ(I a)(b:Bo a):Fn 136 [Cc a] [] I (A1 (.v (.bool (Lz.Ap a==a))) I) none:=
 MB func136 kR kR (λ_=>rfl) (λ_=>rfl) rfl λw _=>AWX a _ b rfl w
end
section
open Go.AX Go.RowKit Lz
section
abbrev AEZ(I:AB)(a:AA (Nat×AG))(r:SV):Nat->AU->Prop:=λ_ h=>h= {r:=r,upd:=a,J:=I}
def ASZ(a:AA (Nat×AG)):Bool:=a.all λb=>b.2.keys.all λk=>(a.map (·.1)).contains k
def Pg{I a r}(x:r.keys=[])(v:ASZ a)(u:decide (a.map (·.1)).Nodup):CO (AEZ I a r) a I:=
 ⟨by
   rintro z h rfl;exact⟨⟨(λk o=>by rw[x]at o;cases o),λy e=>⟨List.mem_map_of_mem e,λk o=>.inl (VO.1 (Df.1 (Df.1 v y e) k o))⟩,nA,BS _,JY u⟩,AB.le_refl _⟩⟩
def nbk(a b i)(h:i<b.length):(Bf a b (a+i)).isSome:=by unfold Bf;rw[AMo (RD a i),Nat.add_sub_cancel_left];simp[h]
def Fn.same{F v need I r}(h:Fn F v need I (λ_ h=>h= {r:=r,upd:=need,J:=I}) none)(d:Qd need):Fn F v need I (A1 r I) none:=by
 refine⟨⟨λu G M=> ?_,λρ u w y hN H B x=>(h.out.2 ρ u w y hN H B x).mono ?_⟩,h.JF⟩;subst M;have:=(h.out.1 u _ rfl).1;exact⟨⟨this.r,nA,nA,sP,sP⟩,AB.Fa _⟩;rintro e P ⟨G,q,rfl,A,L⟩;have C:AU.Am {r:=r,upd:=need,J:=I} ρ u q=ρ:=by funext k;exact Ej (by unfold Bf;split<;>rfl)
 refine⟨{r:=r,J:=I},q,rfl,⟨A.os,A.tape,A.output,A.size,λb z _ K=> ?_,nA,(λj b O=>by simp at O),(λi j N=>by simp at N),A.Gu,A.fresh,A.Gz⟩,L⟩;by_cases hex:∃t∈need,ρ t.1=b;obtain⟨t,a,rfl⟩:=hex;let⟨o,E⟩:=AG.R8 (List.all_eq_true.1 d t a) ρ;have D:=A.upd t a o (by rw[C];exact E);rw[C]at D;rw[D,hN t a o E];exact A.keep b z (λt a e=>hex ⟨t,a,e⟩) K
section
variable {F:FuncId} {m:Func} {n:Nat} {I:AB} {w:World} {ρ:Nat->Nat} {A:List Nat} {R:Dl} {f:BU}
def Rc{b a o G r}(h:Fn G b a o (A1 r o) none)(k)(e:Ci f n G k a []=some (Bz (AT k) b,a.map (λv=>some (v.2.Am (AT k))),o))(hnext:At F m n I w ρ A R (f.out (AT k) {r:=r,J:=o})):At F m n I w ρ A R f:=
 Ag h k [] e (λ_ h t v u=>by subst t;cases u) λh t=>by subst t;exact hnext
end
def Kk(s:Lz.St):Prop:=Bo s.cur/\Bo s.Al
variable {I:AB} {s:Lz.St} {l:AV} {p:UInt8} {c q i j:Nat}
def Ox(s:Lz.St):AG:=.cells [.v (.string (str s.cur.1)),.v (.string (str s.cur.2)),.v (.string (str s.Al.1)),.v (.string (str s.Al.2))] 44
def O7(l:AV):AG:=.cells [.v (.string (str l.1)),.v (.string (str l.2))] 42
def quF(c:Nat):Ay:=[386,387,358,360].getD c 0
def SP(c:Nat)(s:Lz.St)(l:AV)(p:AH):Bool:=match c with|0=>fl l s.Al|1=>fl s.cur l|2=>fb s.cur l p|_=>fb l s.Al p
def quN(c o:Nat)(s:Lz.St)(l:AV)(p:AH):AA (Nat×AG):=match c with
 |0=>[(o,O7 l),(o+1,Ox s)]|1=>[(o,Ox s),(o+1,O7 l)]
 |2=>[(o,Ox s),(o+1,O7 l),(o+2,.cells [.v (.int .u8 p.toNat)] 5)]|_=>[(o,O7 l),(o+1,Ox s),(o+2,.cells [.v (.int .u8 p.toNat)] 5)]
def quA(c o:Nat):AA SV:=((List.range (if c<2 then 2 else 3)).map λk=>.p (o+k) 0)
def SQ(c:Nat):Int:=if c=0\/c=3 then-4 else-3
def AV0(t:c<4)(g:Kk s)(d:Bo l):Fn (quF c) (quA c 1) (quN c 1 s l p) I (A1 (.v (.bool (SP c s l p))) I) none:=by
 have k:=λa b o r=>MB (I:=I) (r:=.v (.bool (fb a b p))) (args:=[Cc a,Cc b,.v (.int .u8 p.toNat)]) func359 kR kR (λ_=>rfl) (λ_=>rfl) rfl λw _=>AQK a b o r _ p rfl w;obtain rfl|rfl|rfl|rfl:c=0\/c=1\/c=2\/c=3:=oG;exact Fn.same (by refine fo func386 (Pg rfl kR kR) λρ h w e=>gG (call (LL I l s.Al d g.2) kR (gG (dn [] rfl)))) rfl
 exact Fn.same (by refine fo func387 (Pg rfl kR kR) λρ h w e=>gG (call (LL I s.cur l g.1 d) kR (gG (dn [] rfl)))) rfl
 exact Fn.same (by refine fo func358 (Pg rfl kR kR) λρ h w e=>gG (call (k s.cur l g.1 d) kR (gG (dn [] rfl)))) rfl
 exact Fn.same (by refine fo func360 (Pg rfl kR kR) λρ h w e=>gG (call (k l s.Al d g.2) kR (gG (dn [] rfl)))) rfl
def c1(q:Nat):Nat:=[0,0,1,2,3].getD q 0
def c2(q:Nat):Nat:=[0,1,0,0,1].getD q 0
def nQ(q:Nat):Nat:=if q=0 then 1 else 2
def item(c o:Nat):AA SV:=[.fn (.func (quF c)) [] (quA c o),.v (.int .i64 (SQ c))]
def AB9(q:Nat)(s:Lz.St)(l:AV)(p:AH):AA (Nat×AG):=
 (1,.cells (item (c1 q) 2++if q=0 then[]else item (c2 q) 5) 444)::(quN (c1 q) 2 s l p++if q=0 then[]else quN (c2 q) 5 s l p)
def Oq(q:Nat)(s:Lz.St)(l:AV)(p:AH):Int:=if SP (c1 q) s l p then(if q=0 then 0 else if SP (c2 q) s l p then 0 else SQ (c2 q))else SQ (c1 q)
def AGj(I:AB)(q:Nat)(s:Lz.St)(l:AV)(p:AH)(i:Nat):Hd where
 By:=[(5,.s 1 0 (nQ q) (nQ q)),(6,.v (.int .i64 (nQ q:Int))),(7,.v (.int .i64 (i:Int)))]
 Bu:=AB9 q s l p
 J:=I
def m5(h:q<5):q=0\/q=1\/q=2\/q=3\/q=4:=oG
def qj(j:Nat):Nat:=[0,1,1,2,2,3,3,4,4].getD j 0
def ij(j:Nat):Nat:=[0,0,1,0,1,0,1,0,1].getD j 0
def m9(h:j<9):j=0\/j=1\/j=2\/j=3\/j=4\/j=5\/j=6\/j=7\/j=8:=oG
def cj(j:Nat):Nat:=if ij j=0 then c1 (qj j)else c2 (qj j)
def thj(j:Nat):AA (Nat×Nat):=[(1,if ij j=0 then 2 else 5),(2,if ij j=0 then 3 else 6),(3,4)]
def Tz(b:q<5)(g:Kk s)(d:Bo l):Fn 350 [.s 1 0 (nQ q) (nQ q)] (AB9 q s l p) I (A1 (.v (.int .i64 (Oq q s l p))) I) none:=Fn.same (by
 refine fo func350 (Pg rfl (by obtain rfl|rfl|rfl|rfl|rfl:=m5 b<;>kernel_rfl) (by obtain rfl|rfl|rfl|rfl|rfl:=m5 b<;>kernel_rfl)) (λρ x w t=> ?_) (hE:=by obtain rfl|rfl|rfl|rfl|rfl:=m5 b<;>kernel_rfl);refine gG ?_ (by obtain rfl|rfl|rfl|rfl|rfl:=m5 b<;>kernel_rfl);refine loop (ι:=Nat) (λi=>i<=nQ q/\(0<i->SP (c1 q) s l p)/\(1<i->SP (c2 q) s l p)) (λi=>nQ q-i) (AGj I q s l p) 300 [] 0 ⟨BS _,nofun,nofun⟩ (by obtain rfl|rfl|rfl|rfl|rfl:=m5 b<;>kernel_rfl) (by obtain rfl|rfl|rfl|rfl|rfl:=m5 b<;>kernel_rfl) ?_;rintro i ⟨y,k,v⟩ again T;by_cases h:i<nQ q
 .obtain⟨j,a,rfl,rfl⟩:∃j,j<9/\q=qj j/\i=ij j:=by
   obtain rfl|rfl|rfl|rfl|rfl:=m5 b<;>obtain rfl|h0:i=0\/0<i:=oG;exact⟨0,by decide⟩;exact absurd (show i<1 from h) oG
   all_goals first|exact⟨1,by decide⟩|exact⟨3,by decide⟩|exact⟨5,by decide⟩|exact⟨7,by decide⟩|(obtain rfl:i=1:=by(have:i<2:=h;omega));first|exact⟨2,by decide⟩|exact⟨4,by decide⟩|exact⟨6,by decide⟩|exact⟨8,by decide⟩
  refine gG ?_ (by obtain rfl|rfl|rfl|rfl|rfl|rfl|rfl|rfl|rfl:=m9 a<;>kernel_rfl);refine Rc (AV0 (I:=I) (c:=cj j) (p:=p) (by obtain rfl|rfl|rfl|rfl|rfl|rfl|rfl|rfl|rfl:=m9 a<;>decide) g d) (thj j) (by obtain rfl|rfl|rfl|rfl|rfl|rfl|rfl|rfl|rfl:=m9 a<;>kernel_rfl) ?_;cases o:SP (cj j) s l p with
  |true=>
   refine gG ?_ (by obtain rfl|rfl|rfl|rfl|rfl|rfl|rfl|rfl|rfl:=m9 a<;>kernel_rfl);refine back [] (AGj I (qj j) s l p (ij j+1)) 300 (by obtain rfl|rfl|rfl|rfl|rfl|rfl|rfl|rfl|rfl:=m9 a<;>kernel_rfl) (by obtain rfl|rfl|rfl|rfl|rfl|rfl|rfl|rfl|rfl:=m9 a<;>kernel_rfl) (by obtain rfl|rfl|rfl|rfl|rfl|rfl|rfl|rfl|rfl:=m9 a<;>kernel_rfl) λu=>again _ ⟨h,λ_=> ?_,λ_=> ?_⟩ (by omega) u;obtain rfl|rfl|rfl|rfl|rfl|rfl|rfl|rfl|rfl:=m9 a<;>first|exact o|exact k dC
   obtain rfl|rfl|rfl|rfl|rfl|rfl|rfl|rfl|rfl:=m9 a<;>first|exact o|contradiction
  |false=>
   refine gG ?_ (by obtain rfl|rfl|rfl|rfl|rfl|rfl|rfl|rfl|rfl:=m9 a<;>kernel_rfl);refine dn [] (h:={r:=.v (.int .i64 (SQ (cj j))),upd:=AB9 (qj j) s l p,J:=I}) ?_ (by obtain rfl|rfl|rfl|rfl|rfl|rfl|rfl|rfl|rfl:=m9 a<;>kernel_rfl);have e:Oq (qj j) s l p=SQ (cj j):=by obtain rfl|rfl|rfl|rfl|rfl|rfl|rfl|rfl|rfl:=m9 a<;>first|exact AN λq=>ADi (o.symm.trans q)|exact(AW (k dC)).trans ((AN dC).trans (AN λq=>ADi (o.symm.trans q)))
   rw[e]
 .obtain rfl:i=nQ q:=oG;have e:Oq q s l p=0:=by
   obtain rfl|rfl|rfl|rfl|rfl:=m5 b;exact AW (k dC)
   all_goals exact(AW (k dC)).trans ((AN dC).trans (AW (v dC)))
  rw[e];refine gG ?_ (by obtain rfl|rfl|rfl|rfl|rfl:=m5 b<;>kernel_rfl);exact dn [] rfl (by obtain rfl|rfl|rfl|rfl|rfl:=m5 b<;>kernel_rfl)) (by obtain rfl|rfl|rfl|rfl|rfl:=m5 b<;>rfl)
def quK(c a:Nat):AA SV:=if c=0 then[.p (a+1) 0,.p (a+0) 0]else[.p (a+0) 0,.p (a+1) 0]
abbrev Zc(I:AB)(s:Lz.St)(l:AV)(c:Nat):Nat->AU->Prop:=λa h=>h= {r:=.g [.fn (.func (quF c)) [] (quK c a),.v (.int .i64 (SQ c))],nb:=[Ox s,O7 l],J:=I}
def AMJ(v:c<2):CO (Zc I s l c) [] I:=by
 refine⟨?_⟩;rintro a h rfl;have t:=nbk a [Ox s,O7 l] 0 sP;have u:=nbk a [Ox s,O7 l] 1 sP;refine⟨⟨λk e=>.inr ?_,nA,λb r k e=> ?_,sP,sP⟩,AB.le_refl _⟩
 .obtain rfl|rfl:c=0\/c=1:=oG
  all_goals
   simp[quK,SV.keys,Ax]at e;obtain rfl|rfl:=e<;>assumption
 simp at r;obtain rfl|rfl:=r<;>simp[Ox,O7,AG.keys,Ax,SV.keys]at e
def WG(I s l):Fn 351 [IQ s,Cc l] [] I (Zc I s l 0) none:=fo func351 (AMJ dC) λρ b w a=>gG (dn [100,108] rfl)
def Zm(I s l):Fn 352 [IQ s,Cc l] [] I (Zc I s l 1) none:=fo func352 (AMJ dC) λρ b w a=>gG (dn [100,108] rfl)
section
variable {F:FuncId} {m:Func} {n:Nat} {I:AB} {w:World} {ρ:Nat->Nat} {A:List Nat} {R:Dl} {f:BU}
def P8{a:AA SV}{t:AB}{G:Ay}{H:Nat->AU}(h:Fn G a [] t (λr h=>h=H r) none)(u:∀k,(H k).upd=[])(e:Ci f n G [] [] []=some (Bz (AT []) a,[],t))(hnext:At F m n I w ρ A R (f.out (AT []) (H (Cw f)))):At F m n I w ρ A R f:=
 Ag h [] [] e (λk _ o v b=>by subst o;rw[u]at b;cases b) λh o=>by subst o;exact hnext
end
variable (I:AB) (s:Lz.St) (l:AV) (p:UInt8) (g:Kk s) (d:Bo l)
include g d
theorem ALE:Fn 349 [IQ s,Cc l] [] I (A1 (.t [IQ (EB s l).1,.v (.int .i64 (EB s l).2)]) I) none:=by
 have a:=Tz (I:=I) (q:=0) (s:=s) (l:=jn s.cur l) (p:=0) dC g (AUx _ _)
 rw[show Oq 0 s (jn s.cur l) 0=if fl (jn s.cur l) s.Al then 0 else-4 from rfl]at a
 unfold EB
 refine fo func349 (BZ rfl) λρ e w b=> ?_
 refine gG (call (ABc I s.cur l g.1 d) kR (gG (P8 (WG I s (jn s.cur l)) (λ_=>rfl) kR (gG (Rc a [(1,204),(2,197),(3,196)] kR ?_)))))
 cases fl (jn s.cur l) s.Al<;>exact gG fi
def OL:Fn 305 [IQ s,Cc l] [] I (A1 (.v (.int .i64 (Cu s l))) I) none:=by have a:=Tz (I:=I) (q:=2) (s:=s) (l:=l) (p:=0) dC g d;rw[show Oq 2 s l 0=Cu s l from rfl]at a;exact fo func305 (BZ rfl) λρ e w b=>gG (P8 (Zm I s l) (λ_=>rfl) kR (gG (P8 (WG I s l) (λ_=>rfl) kR (gG (Rc a [(1,172),(2,140),(3,141),(5,165),(6,164)] kR (gG fi))))))
theorem ATa:Fn 298 [IQ s,Cc l] [] I (A1 (.t [IQ (Iw s l).1,.v (.int .i64 (Iw s l).2)]) I) none:=by
 have a:=Tz (I:=I) (q:=1) (s:=s) (l:=l) (p:=0) dC g d;rw[show Oq 1 s l 0=if fl l s.Al then(if fl s.cur l then 0 else-3)else-4 from rfl]at a;unfold Iw;refine fo func298 (BZ rfl) λρ e w b=> ?_;refine gG (P8 (WG I s l) (λ_=>rfl) kR (gG (P8 (Zm I s l) (λ_=>rfl) kR (gG (Rc a [(1,180),(2,149),(3,148),(5,172),(6,173)] kR ?_)))));cases fl l s.Al
 .exact gG fi
 cases fl s.cur l
 .exact gG fi
 exact gG (call (SG I l d) kR (gG fi))
def AFP:Fn 353 [IQ s,Cc l] [] I (A1 (.t [IQ (P6 s l).1,.v (.int .i64 (P6 s l).2)]) I) none:=by have a:=OL I s l g d;unfold P6;unfold Cu at a⊢;refine fo func353 (BZ rfl) λρ e w b=>gG (call a kR ?_);cases fl s.cur l;exact gG fi;cases fl l s.Al;exact gG fi;exact gG (call (SG I l d) kR (gG fi))
theorem APi:Fn 318 [IQ s,Cc l,.v (.int .u8 p.toNat)] [] I (A1 (.t [IQ (Gs s l p).1,.v (.int .i64 (Gs s l p).2.1),.v (.bool (Gs s l p).2.2)]) I) none:=by
 have a:=Tz (I:=I) (q:=3) (s:=s) (l:=l) (p:=p) dC g d;rw[show Oq 3 s l p=if fb s.cur l p then(if fl l s.Al then 0 else-4)else-3 from rfl]at a;unfold Gs;refine fo func318 (BZ rfl) λρ e w b=> ?_;refine gG (P8 (WG I s l) (λ_=>rfl) kR (gG (Rc a [(1,212),(2,100),(3,108),(4,116),(5,205),(6,204)] kR ?_)));cases fb s.cur l p
 .exact gG fi
 cases fl l s.Al
 .exact gG fi
 exact gG (call (SG I l d) kR (gG (call (LL I s.cur l g.1 d) kR (gG fi))))
theorem ATM:Fn 320 [IQ s,Cc l,.v (.int .u8 p.toNat)] [] I (A1 (.t [IQ (Gv s l p).1,.v (.int .i64 (Gv s l p).2.1),.v (.bool (Gv s l p).2.2)]) I) none:=by
 have a:=Tz (I:=I) (q:=4) (s:=s) (l:=l) (p:=p) dC g d;rw[show Oq 4 s l p=if fb l s.Al p then(if fl s.cur l then 0 else-3)else-4 from rfl]at a;unfold Gv;refine fo func320 (BZ rfl) λρ e w b=> ?_;refine gG (P8 (Zm I s l) (λ_=>rfl) kR (gG (Rc a [(1,212),(2,108),(3,100),(4,116),(5,204),(6,205)] kR ?_)));cases fb l s.Al p
 .exact gG fi
 cases fl s.cur l
 .exact gG fi
 exact gG (call (SG I l d) kR (gG (call (LL I l s.Al d g.2) kR (gG fi))))
end
end
section
open Go.AX Lz
def dec(n:Nat):AA AH:=
 if n<10 then[UInt8.ofNat (48+n)]else if n<100 then[UInt8.ofNat (48+n/10),UInt8.ofNat (48+n%10)]
 else[UInt8.ofNat (48+n/100),UInt8.ofNat (48+n/10%10),UInt8.ofNat (48+n%10)]
def Cr:Nm->AA AH
 |[]=>[]
 |[n]=>dec n
 |n::l=>dec n++46::Cr l
def AR(n:Nm):Bp:=str (Cr n)
def Rows{c:Type}(R:c->AA AE->Prop):AA c->AA AE->Prop
 |[],l=>l=[]
 |x::xs,l=>∃a b,l=a++b/\R x a/\Rows R xs b
def Rows.mono{g:Type}{R S}(h:∀x l,R x l->S x l):∀ {c:AA g} {l:AA AE},Rows R c l->Rows S c l
 |[],_,q=>q
 |x::c,l,⟨a,b,e,q1,q2⟩=>⟨a,b,e,h x a q1,Rows.mono h q2⟩
def Rows.append{i:Type}{R}:∀ {c g:AA i} {l m:AA AE},Rows R c l->Rows R g m->Rows R (c++g) (l++m)
 |[],_,_,_,h,k=>by cases h;exact k
 |x::c,g,l,m,⟨a,b,e,q1,q2⟩,k=>⟨a,b++m,by rw[e,Dk],q1,q2.append k⟩
def Rows.one{a:Type}{R:a->AA AE->Prop}{x:a}{l:AA AE}(h:R x l):Rows R [x] l:=⟨l,[],sP,h,rfl⟩
def Rows.len{i:Type}{R k}(g:∀x l,R x l->l.length=k):∀ {c:AA i} {l:AA AE},Rows R c l->l.length=c.length*k
 |[],_,h=>by cases h;simp
 |x::c,l,⟨a,b,e,q1,q2⟩=>by rw[e,Bc,g x a q1,Rows.len g q2,EW,FU];omega
def Rows.take{i:Type}{R k}(g:∀x l,R x l->l.length=k):∀ {c:AA i} {l:AA AE} (n:Nat),Rows R c l->Rows R (c.take n) (l.take (n*k))
 |[],_,n,h=>by cases h;simp[Rows]
 |x::c,l,0,_=>by simp[Rows]
 |x::c,l,n+1,⟨a,b,e,q1,q2⟩=>by have:=g x a q1;refine⟨a,b.take (n*k),?_,q1,q2.take g n⟩;rw[e,show(n+1)*k=a.length+n*k by rw[this,FU];omega,AD2]
def Rows.drop{i:Type}{R k}(g:∀x l,R x l->l.length=k):∀ {c:AA i} {l:AA AE} (n:Nat),Rows R c l->Rows R (c.drop n) (l.drop (n*k))
 |[],_,n,h=>by cases h;simp[Rows]
 |x::c,l,0,h=>by simpa using h
 |x::c,l,n+1,⟨a,b,e,q1,q2⟩=>by have:=g x a q1;rw[e,show(n+1)*k=a.length+n*k by rw[this,FU];omega,Q5];exact q2.drop g n
def Rows.get{g:Type}{R:g->List Value->Prop}{k:Nat}(m:∀x l,R x l->l.length=k){c:List g}{l:List Value}(h:Rows R c l){i:Nat}{x:g}(p:c[i]? =some x):R x ((l.drop (i*k)).take k):=by
 have j:=(h.drop m i);have:c.drop i=x::c.drop (i+1):=by obtain⟨o,rfl⟩:=List.getElem?_eq_some_iff.1 p;exact List.drop_eq_getElem_cons o
 rw[this]at j;obtain⟨a,b,e,q1,_⟩:=j;rw[e,<-m x a q1,List.take_left];exact q1
def Rows.flat{e:Type}{f}:∀ {c:AA e} {l:AA AE},Rows (λx l=>l=f x) c l↔l=c.flatMap f
 |[],l=>by simp[Rows]
 |x::c,l=>by simp[Rows,I6];constructor;rintro⟨a,b,rfl,rfl,h⟩;rw[Rows.flat.1 h];intro h;exact⟨_,_,h,rfl,Rows.flat.2 rfl⟩
structure Aj{b:Type}(I:AB)(R:b->AA AE->Prop)(size:Nat)(xs:AA b)(a:AK Ac)(c:Nat)(cells:AA AE):Prop where
 sl:Ch I size a xs.length cells
 cap:xs.length<=c
 max:c<=maxLen
 rows:Rows R xs cells
def Aj.up{g:Type}{I J:AB}{R S:g->AA AE->Prop}{b c:Nat}{e:AA g}{a:AK Ac}{cells:AA AE}(h:Aj I R b e a c cells)(hle:I.le J)(i:∀x l,R x l->S x l):Aj J S b e a c cells:=
 ⟨h.sl.up hle,h.cap,h.max,h.rows.mono i⟩
def Au(v:Val):AA AE:=[.int .i64 v.kind,.int .i64 v.n,.string (AR v.name),.string (str v.l.1),.string (str v.l.2)]
def Cn(v:Val):SV:=.g [.v (.int .i64 v.kind),.v (.int .i64 v.n),.v (.string (AR v.name)),.v (.string (str v.l.1)),.v (.string (str v.l.2))]
def Ey(v:Val)(l:AA AE):Prop:=l=Au v
def G6(v l)(h:Ey v l):l.length=5:=by rw[h];rfl
abbrev EE(I:AB)(e:AA Val)(a:AK Ac)(c:Nat)(b:AA AE):Prop:=Aj I Ey 5 e a c b
def EA(t:EQ):AA AE:=[.int .i64 t.AF,.int .i64 t.CF,.int .i64 t.at_]
def Pb(t:EQ)(l:AA AE):Prop:=l=EA t
def Sl(t l)(h:Pb t l):l.length=3:=by rw[h];rfl
def E7(I:AB)(f:B7)(l:AA AE):Prop:=∃b c a,l=[.int .i64 f.fn,.int .i64 f.pc,.int .i64 f.base,.int .u8 f.AL.toNat,.slice b f.vars.length c]/\EE I f.vars b c a
def HW(I f l)(h:E7 I f l):l.length=5:=by obtain⟨_,_,_,rfl,_⟩:=h;rfl
def MF{I J}(hle:I.le J)(f l)(h:E7 I f l):E7 J f l:=by let⟨b,c,a,e,q⟩:=h;exact⟨b,c,a,e,q.up hle λ_ _ h=>h⟩
structure CN where
 fa:AK Ac
 fc:Nat
 fl:AA AE
 sa:AK Ac
 sc:Nat
 sl:AA AE
 ta:AK Ac
 tc:Nat
 tl:AA AE
structure CH(I:AB)(c:Ae)(p:CN):Prop where
 f:Aj I (E7 I) 5 c.AF p.fa p.fc p.fl
 s:Aj I Ey 5 c.stack p.sa p.sc p.sl
 t:Aj I Pb 3 c.tries p.ta p.tc p.tl
def Cj(c:Ae)(p:CN):AA SV:=[.v (.slice p.fa c.AF.length p.fc),.v (.slice p.sa c.stack.length p.sc),.v (.slice p.ta c.tries.length p.tc)]
def CH.up{I J c p}(h:CH I c p)(hle:I.le J):CH J c p:=
 ⟨h.f.up hle (MF hle),h.s.up hle λ_ _ h=>h,h.t.up hle λ_ _ h=>h⟩
def Ft{a:Type}(I:AB)(S:a->SV)(R:AB->a->Prop):Nat->AU->Prop:=λ_ h=>∃x J,h= {r:=S x,J:=J}/\I.le J/\R J x
def EK{g:Type}{I:AB}{S:g->SV}{R:AB->g->Prop}{c:AA (Nat×AG)}(j:∀x,(S x).keys=[]):CO (Ft I S R) c I:=by refine⟨?_⟩;rintro l h ⟨x,J,rfl,hle,_⟩;exact⟨⟨(λk a=>by rw[j]at a;cases a),nA,nA,sP,sP⟩,hle⟩
section
variable {F:FuncId} {d:Func} {n:Nat} {I:AB} {w:World} {ρ:Nat->Nat} {A:List Nat} {R:Dl} {f:BU}
def CK{i:Type}{a:AA SV}{c:AB}{G:Ay}{S:i->SV}{Q:AB->i->Prop}(h:Fn G a [] c (Ft c S Q) none)(b:Ci f n G [] [] []=some (Bz (AT []) a,[],c))(hnext:∀x J,c.le J->Q J x->At F d n I w ρ A R (f.out (AT []) {r:=S x,J:=J})):At F d n I w ρ A R f:=
 Ag h [] [] b (λ_ h e j g=>by obtain⟨x,J,rfl,_⟩:=e;cases g) λh e=>by obtain⟨x,J,rfl,hle,q⟩:=e;exact hnext x J hle q
def Iq{b i G e m l}(h:Fn G b [] i (Px i e m l) none)(g:Ci f n G [] [] []=some (Bz (AT []) b,[],i))(hnext:∀a c J,i.le J->m<=c->c<=maxLen->Ch J e a m l->At F d n I w ρ A R (f.out (AT []) {r:=.v (.slice a m c),J:=J})):At F d n I w ρ A R f:=
 Ag h [] [] g (λ_ h j t k=>by obtain⟨a,c,J,rfl,_⟩:=j;cases k) λh j=>by obtain⟨a,c,J,rfl,o,p,q,s⟩:=j;exact hnext a c J o p q s
end
abbrev ZM(I:AB)(c:Ae):Nat->AU->Prop:=Ft I (λq:CN=>.g (Cj c q)) (λJ q=>CH J c q)
def AMB{I c a}:CO (ZM I c) a I:=EK λ_=>rfl
def CH.push{I c p}(h:CH I c p)(v){a m}(e:Ch I 5 a (c.stack.length+1) (p.sl++Au v))(b:c.stack.length+1<=m)(d:m<=maxLen):CH I (Ce c v) {p with sa:=a,sc:=m,sl:=p.sl++Au v}:=
 ⟨h.f,⟨by simpa[Ce]using e,by simpa[Ce]using b,d,h.s.rows.append (Rows.one rfl)⟩,h.t⟩
def AEg(I a n c d v)(b:n<=c)(e:n<=1000000)(h:Ch I 5 a n d):Fn 196 [.v (.slice a n c),Cn v] [] I (Px I 5 (n+1) (d++Au v)) none:=
 ANH I a n c d v.kind v.n (AR v.name) (str v.l.1) (str v.l.2) b e h
def ACS(I c p v)(g:c.stack.length<=1000000)(h:CH I c p):Fn 147 [.g (Cj c p),Cn v] [] I (ZM I (Ce c v)) none:=by refine Iv 11 func147 ntmps147 rfl rfl kR AMB λj i w b=>gG<|Iq (AEg I p.sa c.stack.length p.sc p.sl v h.s.cap g h.s.sl) kR λa m J hle d e f=>gG<|dn [] ⟨_,J,?_,hle,(h.up hle).push v f d e⟩ (h:={r:=.g [.v (.slice p.fa c.AF.length p.fc),.v (.slice a (c.stack.length+1) m),.v (.slice p.ta c.tries.length p.tc)],J:=J});simp[Cj,Ce]
def Aj.take{g:Type}{I R b c}{f:AA g}{a}{d:AA AE}(i:∀x l,R x l->l.length=b)(h:Aj I R b f a c d)(m):Aj I R b (f.take m) a (min m f.length) (d.take (min m f.length*b)):=by have e:(f.take m).length=min m f.length:=sP;refine⟨?_,by rw[e];exact AZ _,CB (Nat.min_le_right _ _) (CB h.cap h.max),?_⟩;rw[e];exact h.sl.take (Nat.min_le_right _ _);have:=h.rows.take i (min m f.length);rwa [show f.take (min m f.length)=f.take m by rw[<-Kx,HB]]at this
def CH.cut{I c p}(h:CH I c p)(f s t):CH I (Eo c f s t) ⟨p.fa,min f c.AF.length,p.fl.take (min f c.AF.length*5),p.sa,min s c.stack.length,p.sl.take (min s c.stack.length*5),p.ta,min t c.tries.length,p.tl.take (min t c.tries.length*3)⟩:=
 ⟨h.f.take (HW I) f,h.s.take G6 s,h.t.take Sl t⟩
def APU(I c p)(f s t:Nat)(h:CH I c p):Fn 115 [.g (Cj c p),.v (.int .i64 f),.v (.int .i64 s),.v (.int .i64 t)] [] I (ZM I (Eo c f s t)) none:=by refine Iv 22 func115 ntmps115 rfl rfl kR AMB λd b w a=>gG<|call (WO I p.fa c.AF.length p.fc f h.f.cap) kR<|gG<|call (Tt I p.sa c.stack.length p.sc s h.s.cap) kR<|gG<|call (AGA I p.ta c.tries.length p.tc t h.t.cap) kR<|gG<|dn [] ⟨_,I,?_,AB.le_refl _,h.cut f s t⟩ (h:={r:=.g [.v (.slice p.fa (min f c.AF.length) (min f c.AF.length)),.v (.slice p.sa (min s c.stack.length) (min s c.stack.length)),.v (.slice p.ta (min t c.tries.length) (min t c.tries.length))],J:=I});simp[Cj,Eo]
section
def Ch.open_{I f n a i}(h:Ch I f a n i)(p:0<n):
 ∃b c arr e g,a=some ⟨b,c,none⟩/\I b=some (.cells arr e g)/\∀j v,i[j]? =some v->arr[c+j]? =some v:=by
 rcases h.at_ with o|⟨b,c,arr,e,g,k,l,m⟩;omega;refine⟨b,c,arr,e,g,k,l,λj v d=> ?_⟩;rw[<-m,GX]at d;split at d;rw[II]at d;simpa using d;cases d
variable {I:AB}
def Sb{t e b off n c k a:Nat}{i}(j:prog.underlying t=some (.slice e))(f:prog.info? e=some i)(h:i.size=a)(g:k<n):
 ∀w,Db w I->∃d,(Instr.indexAt t (.slice (some ⟨b,off,none⟩) n c) (.int .i64 (k:Int))).run prog w=.ok (den id (.v (.pointer (some ⟨b,off+k*a,none⟩)))) d/\BB w d:=λw _=>
 ⟨w,by
   have:(0:Int)<=(k:Int)/\(k:Int)<(n:Int):=oG;simp[Instr.indexAt,asIntOf,run_underlying j,g,sizeOf,typeInfo,f,h,den,Addr.add_mid,Result.andThen],BB.refl w⟩
theorem G5{t b o arr e g d v}(i:prog.underlying t=some d)(l:d.isRow=false)(h:I b=some (.cells arr e g))(j:arr[o]? =some v):
 ∀w,Db w I->∃f,(Instr.loadAt t (.pointer (some ⟨b,o,none⟩))).run prog w=.ok (den id (.v v)) f/\BB w f:=λw k=>
 ⟨w,by
   have c:(isAgg t).run prog w=.ok false w:=by simp[isAgg,Sem.run_bind,run_underlying i,Result.andThen_ok];cases d<;>simp_all[TypeDesc.isRow]
   have a:w.cell? ⟨b,o,none⟩=some v:=by simp[World.cell?,k b _ h,j]
   simp[Instr.loadAt,Instr.sureAddr,Sem.run_bind,Sem.run_pure,Result.andThen_ok,loadVar,c];simp[load,Sem.run,a,den],BB.refl w⟩
def Sd{t b o arr e g d i f}(a:AA AE)(u:f=a.map .v)(q:prog.underlying t=some d)(m:d.isRow)(n:prog.info? t=some i)(p:i.size=a.length)(k:I b=some (.cells arr e g))(r:∀j v,a[j]? =some v->arr[o+j]? =some v):
 ∀w,Db w I->∃c,(Instr.loadAt t (.pointer (some ⟨b,o,none⟩))).run prog w=.ok (den id (.g f)) c/\BB w c:=λw s=>
 ⟨w,by
   have l:w.rangeAt b o a:=λj v h=>by simp[World.cell?,s b _ k,r j v h]
   have:=run_loadVar_mid (P:=prog) w b o t a d l q m (by rw[n];simp[p]);simp[Instr.loadAt,Instr.sureAddr,Sem.run_bind,Sem.run_pure,Result.andThen_ok,this];rw[u];simp[den,Fu],BB.refl w⟩
def bT{p:Prop}[Decidable p](h:p):Value.bool (decide p)=.bool true:=by rw[GL h]
def bF{p:Prop}[Decidable p](h: ¬p):Value.bool (decide p)=.bool false:=by rw[IL h]
def ADa{n:Int}(h: -9223372036854775808<=n/\n<9223372036854775808):IntKind.i64.wrap n=n:=by simp[IntKind.wrap];have:IntKind.i64.bits=64:=rfl;have a:IntKind.i64.signed:=rfl;simp[this,a];omega
def iw{n m:Int}(e:n=m)(h: -9223372036854775808<=m/\m<9223372036854775808):Value.int .i64 (IntKind.i64.wrap n)=.int .i64 m:=by rw[e,ADa h]
def Dj:prog.underlying 3=some (.int .i64):=kR
def YQ:prog.underlying 9=some .string:=kR
def ALm:prog.underlying 4=some .bool:=kR
def QV{a:Type}{l:AA a}{x}(h:l.getLast?=some x):l[l.length-1]? =some x:=by rwa [NT]at h
end
structure AMx where
 p:CN
 a:AK Ac
 c:Nat
 l:AA AE
abbrev AM8(I:AB)(c:Ae)(n:Nat):Nat->AU->Prop:=Ft I (λq:AMx=>.t [.g (Cj (Ev c n) q.p),.v (.slice q.a n q.c),.v (.bool true)]) (λJ q=>CH J (Ev c n) q.p/\EE J (CJ c n) q.a q.c q.l)
def MV{c n}(h:n<=c.stack.length):(CJ c n).length=n:=by simp[CJ];omega
def Rs{I c p}(h:CH I c p){f}(k:c.top=some f):∃b d arr e o m n a,p.fa=some ⟨b,d,none⟩/\I b=some (.cells arr e o)/\EE I f.vars m n a/\0<c.AF.length/\
 (∀j v,[Value.int .i64 f.fn,.int .i64 f.pc,.int .i64 f.base,.int .u8 f.AL.toNat,.slice m f.vars.length n][j]? =some v->arr[d+(c.AF.length-1)*5+j]? =some v):=by
 have g:0<c.AF.length:=by
  cases e:c.AF with
  |nil=>unfold Ae.top at k;rw[e]at k;cases k
  |cons x l=>simp
 let⟨b,d,arr,e,o,s,t,u⟩:=h.f.sl.open_ g;have w:=QV (l:=c.AF) (x:=f) k;let⟨m,n,a,q,r⟩:=h.f.rows.get (HW I) w;refine⟨b,d,arr,e,o,m,n,a,s,t,r,g,λj v i=> ?_⟩;rw[<-q,GX]at i;split at i;rw[II]at i;rw[Mj];exact u _ v i;cases i
def Xt(I c p)(n:Nat)(f)(B:c.top=some f)(j:Fg c n)(T:c.stack.length<=1000000)(L:c.AF.length<=1000000)(h:CH I c p):Fn 156 [.g (Cj c p),.v (.int .i64 (n:Int))] [] I (AM8 I c n) none:=by
 let⟨b,k,arr,e,R,X,Y,y,l,H,N,M,i⟩:=Rs h B;let⟨Q,z,fl,u,v,W,E,F,P⟩:=p;simp only at l;subst l;let⟨i65,q,s⟩:=Wx;let⟨i51,o,d⟩:=O5;have K:KV c=f.base:=by unfold KV;rw[B]
 simp[Fg,Bt,D1]at j;rw[K]at j;let⟨U,V⟩:=j;have D:n<=c.stack.length:=oG;have t:=h.s.cap;have x:c.stack.length-(c.stack.length-n)=n:=oG;refine Iv 61 func156 ntmps156 rfl rfl kR (EK λ_=>rfl) λZ O w C=>gg [(13,.eq _ _ (bT (p:=(c.AF.length:Int)>0) oG)),(19,.eq _ _ (iw (n:=(c.AF.length:Int)-1) (m:=((c.AF.length-1:Nat):Int)) oG oG)),
  (20,.op I _ _ (Sb (b:=b) (off:=k) (n:=c.AF.length) (c:=z) (k:=c.AF.length-1) Sp q s oG)),
  (22,.op I _ _ (G5 Dj rfl H (i 2 _ rfl))),(27,.eq _ _ (bF (p:=(n:Int)<0) oG)),(30,.eq _ _ (bF (p:=(f.base:Int)<0) oG)),(35,.eq _ _ (bF (p:=(f.base:Int)>c.stack.length) oG)),
  (40,.eq _ _ (iw (n:=(c.stack.length:Int)-f.base) (m:=((c.stack.length-f.base:Nat):Int)) oG oG)),(42,.eq _ _ (bF (p:=((c.stack.length-f.base:Nat):Int)<n) oG)),
  (49,.eq _ _ (iw (n:=(c.stack.length:Int)-n) (m:=((c.stack.length-n:Nat):Int)) oG oG)),(50,.op I _ _ (AXG (a:=u) (n:=c.stack.length) (c:=v) (m:=c.stack.length-n) Lf o oG))] ?_
 have g:=h.s.sl.drop (m:=c.stack.length-n) (c:=v) oG t;simp[x]at g;rw[<-d]at g;refine Iq (AAR I (T6 u (c.stack.length-n) v i51.size) (c.stack.length-(c.stack.length-n)) (v-(c.stack.length-n)) _ oG (by rw[x,d];rw[d]at g;exact g)) kR λa m J hle S G A=> ?_;refine gg [(56,.eq _ _ (iw (n:=(c.stack.length:Int)-n) (m:=((c.stack.length-n:Nat):Int)) oG oG))]<|call (Tt J u c.stack.length v (c.stack.length-n) t) kR<|gG ?_;refine dn [] ⟨⟨⟨some ⟨b,k,none⟩,z,fl,u,min (c.stack.length-n) c.stack.length,_,E,F,P⟩,a,m,_⟩,J,?_,hle,⟨(h.up hle).f,(h.up hle).s.take G6 (c.stack.length-n),(h.up hle).t⟩,⟨?_,by rw[MV D];show n<=m;omega,G,(h.up hle).s.rows.drop G6 _⟩⟩ (h:={r:=.t [.g [.v (.slice (some ⟨b,k,none⟩) c.AF.length z),.v (.slice u (min (c.stack.length-n) c.stack.length) (min (c.stack.length-n) c.stack.length)),.v (.slice E c.tries.length F)],.v (.slice a (c.stack.length-(c.stack.length-n)) m),.v (.bool true)],J:=J});simp[Cj,Ev,x];rw[MV D];rw[x]at A;exact A
def Ss(I)(n:Int):Fn 150 [.v (.int .i64 n)] [] I (A1 (Cn (whole n)) I) none:=Iv 5 func150 ntmps150 rfl rfl kR (BZ rfl) λc b w a=>gG<|fi
def ADE(I)(b:Bool):Fn 282 [.v (.bool b)] [] I (A1 (Cn (Le b)) I) none:=by
 refine Iv 6 func282 ntmps282 rfl rfl kR (BZ rfl) λd c w a=> ?_;cases b with
 |true=>
  exact gG<|call (Ss I 1) kR<|gG<|fi
 |false=>
  exact gG<|call (Ss I 0) kR<|gG<|fi
structure BV where
 ia:AK Ac
 iN:Nat
 ic:Nat
 ja:AK Ac
 jn:Nat
 jc:Nat
 was:Ae
 wp:CN
 c:Ae
 p:CN
 oc:Nat
 oa:Nat
 ta:AK Ac
 tn:Nat
 tc:Nat
 fr:Nat
 tr:Nat
 ok:Nat
 ov:Val
 xc:Nat
 xa:Nat
 wrong:Bool
 code:Int
def BV.row(m:BV)(a:SV):AA SV:=
 [.v (.slice m.ia m.iN m.ic),.v (.slice m.ja m.jn m.jc),.v (.slice m.wp.fa m.was.AF.length m.wp.fc),.v (.slice m.wp.sa m.was.stack.length m.wp.sc),.v (.slice m.wp.ta m.was.tries.length m.wp.tc),
  a,.v (.slice m.p.sa m.c.stack.length m.p.sc),.v (.slice m.p.ta m.c.tries.length m.p.tc),.v (.int .i64 m.oc),.v (.int .i64 m.oa),.v (.slice m.ta m.tn m.tc),.v (.int .i64 m.fr),.v (.int .i64 m.tr),
  .v (.int .i64 m.ok),.v (.int .i64 m.ov.kind),.v (.int .i64 m.ov.n),.v (.string (AR m.ov.name)),.v (.string (str m.ov.l.1)),.v (.string (str m.ov.l.2)),.v (.int .i64 m.xc),.v (.int .i64 m.xa),.v (.bool m.wrong),.v (.int .i64 m.code)]
def BV.blk(m:BV):AG:=.cells (m.row (.v (.slice m.p.fa m.c.AF.length m.p.fc))) 282
def TR{a:Type}(I:AB)(S:a->BV)(R:AB->a->Prop):Nat->AU->Prop:=λ_ h=>∃x J,h= {r:=.t [],upd:=[(1,(S x).blk)],J:=J}/\I.le J/\R J x
def GH{d:Type}{I:AB}{S:d->BV}{R:AB->d->Prop}{m:AG}:CO (TR I S R) [(1,m)] I:=by refine⟨?_⟩;rintro g h ⟨x,J,rfl,hle,_⟩;exact⟨⟨nA,(λi c=>by rw[List.mem_singleton.1 c];exact⟨List.mem_singleton.2 rfl,nA⟩),nA,sP,sP⟩,hle⟩
def BV.Fi(m:BV)(r:Ae ⊕ Int)(q:CN):BV:=match r with
 | .inl u=>{m with c:=u,p:=q}
 | .inr e=>{m with wrong:=true,code:=e}
def Va(r:Ae ⊕ Int)(J:AB)(q:CN):Prop:=∀u,r=.inl u->CH J u q
abbrev Hq(I:AB)(m:BV)(r:Ae ⊕ Int):Nat->AU->Prop:=TR I (m.Fi r) (Va r)
def QD{J u q}(h:CH J u q):Va (.inl u) J q:=λ_ e=>by cases e;exact h
def APt{J}{e:Int}{q}:Va (.inr e) J q:=λ_ h=>by cases h
def MJ(I m v)(b:m.c.stack.length<=1000000)(h:CH I m.c m.p):Fn 277 [.p 1 0,Cn v] [(1,m.blk)] I (Hq I m (.inl (Ce m.c v))) none:=fo func277 GH λe d w a=>gG<|CK (ACS I m.c m.p v b h) kR λq J hle c=>gG<|dn [] ⟨q,J,rfl,hle,QD c⟩
def QN(I m)(e:Int):Fn 281 [.p 1 0,.v (.int .i64 e)] [(1,m.blk)] I (Hq I m (.inr e)) none:=fo func281 GH λρ key w a=>gG<|dn [] ⟨m.p,I,rfl,AB.le_refl _,APt⟩
abbrev Gd:Nat×AG:=(2,.cells [.p 1 0] 280)
def ZW{a:Type}(I:AB)(S:a->BV)(R:AB->a->Prop):Nat->AU->Prop:=λ_ h=>∃x J,h= {r:=.t [],upd:=[(1,(S x).blk),Gd],J:=J}/\I.le J/\R J x
def OK{i:Type}{I:AB}{S:i->BV}{R:AB->i->Prop}{m:AG}:CO (ZW I S R) [(1,m),Gd] I:=by refine⟨?_⟩;rintro l h ⟨x,J,rfl,hle,_⟩;refine⟨⟨nA,(λo g=> ?_),nA,sP,sP⟩,hle⟩;rcases List.mem_cons.1 g with e|e;rw[e];exact⟨sP,nA⟩;rw[List.mem_singleton.1 e];exact⟨sP,λk a=>by simp[AG.keys,Ax,SV.keys]at a;subst a;simp⟩
abbrev LC(I:AB)(m:BV)(r:Ae ⊕ Int):Nat->AU->Prop:=ZW I (m.Fi r) (Va r)
section
variable {F:FuncId} {d:Func} {n:Nat} {I:AB} {w:World} {ρ:Nat->Nat} {A:List Nat} {R:Dl} {f:BU}
def Gb{i:Type}{a:List SV}{c:AB}{G:FuncId}{m:AG}{S:i->BV}{Q:AB->i->Prop}(h:Fn G a [(1,m)] c (TR c S Q) none)(b:Ci f n G [] [(1,m)] [1]=some (Bz (AT []) a,[some (m.Am (AT []))],c))(hnext:∀x J,c.le J->Q J x->At F d n I w ρ A R (f.out (AT []) {r:=.t [],upd:=[(1,(S x).blk)],J:=J})):At F d n I w ρ A R f:=
 Ag h [] [1] b (λ_ h e j g=>by obtain⟨x,J,rfl,_⟩:=e;rw[List.mem_singleton.1 g];exact List.mem_singleton.2 rfl) λh e=>by obtain⟨x,J,rfl,hle,q⟩:=e;exact hnext x J hle q
def V8{j:Type}{a:List SV}{c:AB}{G:FuncId}{m:AG}{S:j->BV}{Q:AB->j->Prop}(k:Nat)(h:Fn G a [(1,m),Gd] c (ZW c S Q) none)(b:Ci f n G [(2,k)] [(1,m),Gd] [1,2]=some (Bz (AT [(2,k)]) a,[some (m.Am (AT [(2,k)])),some (Gd.2.Am (AT [(2,k)]))],c))(hnext:∀x J,c.le J->Q J x->At F d n I w ρ A R (f.out (AT [(2,k)]) {r:=.t [],upd:=[(1,(S x).blk),Gd],J:=J})):At F d n I w ρ A R f:=
 Ag h [(2,k)] [1,2] b (λ_ h g l i=>by obtain⟨x,J,rfl,_⟩:=g;rcases List.mem_cons.1 i with e|e;rw[e];simp;rw[List.mem_singleton.1 e];simp) λh g=>by obtain⟨x,J,rfl,hle,q⟩:=g;exact hnext x J hle q
end
def VA{I p a c i}(h:EE I p a c i)(o:0<p.length):∃b g arr e m,a=some ⟨b,g,none⟩/\I b=some (.cells arr e m)/\∀k v,p[k]? =some v->∀j x,(Au v)[j]? =some x->arr[g+k*5+j]? =some x:=by let⟨b,g,arr,e,m,r,s,t⟩:=h.sl.open_ o;refine⟨b,g,arr,e,m,r,s,λk v u j x l=> ?_⟩;have q:=h.rows.get G6 u;unfold Ey at q;rw[<-q,GX]at l;split at l;rw[II]at l;rw[Mj];exact t _ x l;cases l
def neF{a b:Int}(h:a=b):Value.bool (a !=b)=.bool false:=by rw[h];simp
def neT{a b:Int}(h:a≠b):Value.bool (a !=b)=.bool true:=by simp[h]
def Wa{a b:Int}(h:a=b):Value.bool (a==b)=.bool true:=by rw[h];simp
def Om{a b:Int}(h:a≠b):Value.bool (a==b)=.bool false:=by simp[h]
abbrev BV.tk(m:BV)(b a n:Nat):BV:={m with ta:=some ⟨b,a,none⟩,tn:=n}
abbrev BV.ks(m:BV)(b a n:Nat):BV:={m with ia:=some ⟨b,a,none⟩,iN:=n}
def Qv{I}(m){g d}(r:EE I g m.ta m.tc d)(q:m.tn=g.length)(i:0<g.length):
 ∃s:BV,∃b a arr e h,m=s.tk b a g.length/\I b=some (.cells arr e h)/\∀k v,g[k]? =some v->∀j x,(Au v)[j]? =some x->arr[a+k*5+j]? =some x:=by
 let⟨b,a,arr,e,h,l,o,p⟩:=VA r i;exact⟨m,b,a,arr,e,h,by unfold BV.tk;rw[<-l,<-q],o,p⟩
def APK{I}(m){g d}(r:EE I g m.ia m.ic d)(q:m.iN=g.length)(i:0<g.length):
 ∃s:BV,∃b a arr e h,m=s.ks b a g.length/\I b=some (.cells arr e h)/\∀k v,g[k]? =some v->∀j x,(Au v)[j]? =some x->arr[a+k*5+j]? =some x:=by
 let⟨b,a,arr,e,h,l,o,p⟩:=VA r i;exact⟨m,b,a,arr,e,h,by unfold BV.ks;rw[<-l,<-q],o,p⟩
abbrev BV.RX(m:BV)(b a:Nat):BV:={m with p:={m.p with fa:=some ⟨b,a,none⟩}}
def AA8(I)(m:BV)(h:CH I m.c m.p){f}(s:m.c.top=some f):∃b d arr e k g i a,m=m.RX b d/\I b=some (.cells arr e k)/\EE I f.vars g i a/\0<m.c.AF.length/\
 (∀j v,[Value.int .i64 f.fn,.int .i64 f.pc,.int .i64 f.base,.int .u8 f.AL.toNat,.slice g f.vars.length i][j]? =some v->arr[d+(m.c.AF.length-1)*5+j]? =some v):=by
 let⟨b,d,arr,e,k,g,i,a,l,o,p,q,r⟩:=Rs h s;exact⟨b,d,arr,e,k,g,i,a,by unfold BV.RX;rw[<-l],o,p,q,r⟩
def ZT(I:AB)(m:AG)(r:SV):Nat->AU->Prop:=λ_ h=>h= {r:=r,upd:=[(1,m)],J:=I}
def ADX{I m r}(j:r.keys=[])(i:m.keys=[]):CO (ZT I m r) [(1,m)] I:=by refine⟨?_⟩;rintro l h rfl;exact⟨⟨(λk a=>by rw[j]at a;cases a),(λo d=>by rw[AP.1 d];exact⟨AP.2 rfl,λk e=>by rw[i]at e;cases e⟩),nA,sP,sP⟩,AB.le_refl _⟩
section
variable {F:FuncId} {c:Func} {n:Nat} {I:AB} {w:World} {ρ:Nat->Nat} {A:List Nat} {R:Dl} {f:BU}
def AAI{a d G m r}(h:Fn G a [(1,m)] d (ZT d m r) none)(i:m.live)(b:Ci f n G [] [(1,m)] []=some (Bz (AT []) a,[some (m.Am (AT []))],d))(hnext:At F c n I w ρ A R (f.out (AT []) {r:=r,J:=d})):At F c n I w ρ A R f:=
 Ag (Fn.same h (by simp[Qd,i])) [] [] b (λ_ h e j g=>by subst e;cases g) λh e=>by subst e;exact hnext
end
def ADC(I)(m:BV)(b a)(i:0<m.c.AF.length)(h:m.c.AF.length<=1000000):Fn 223 [.p 1 0] [(1,(m.RX b a).blk)] I (ZT I (m.RX b a).blk (.v (.pointer (some ⟨b,a+(m.c.AF.length-1)*5,none⟩)))) none:=by let⟨i65,d,e⟩:=Wx;exact fo func223 (ADX rfl rfl) λρ j w g=>gg [(14,.eq _ _ (iw (n:=(m.c.AF.length:Int)-1) (m:=((m.c.AF.length-1:Nat):Int)) oG oG)),(15,.op I _ _ (Sb (b:=b) (off:=a) (n:=m.c.AF.length) (c:=m.p.fc) (k:=m.c.AF.length-1) Sp d e oG))]<|dn [] rfl
def Q1:prog.underlying 5=some (.int .u8):=kR
def Ye(n:Int):IntKind.i64.wrap n=wrap64 n:=by unfold IntKind.wrap wrap64;have:IntKind.i64.bits=64:=rfl;have a:IntKind.i64.signed:=rfl;simp only[this,a,Sz];split;rename_i h;simp at h;omega;rename_i h;simp at h;omega
def AU7:AG:=.DZ [.int .i64 7,.int .i64 8,.int .i64 9,.int .i64 10,.int .i64 11,.int .i64 12,.int .i64 13] [.v (.func (.func 377) #[] #[]),.v (.func (.func 378) #[] #[]),.v (.func (.func 379) #[] #[]),.v (.func (.func 380) #[] #[]),.v (.func (.func 381) #[] #[]),.v (.func (.func 382) #[] #[]),.v (.func (.func 384) #[] #[])]
def ZN(I:AB)(b:AG):Nat->AU->Prop:=λa h=>h= {r:=.m a,nb:=[b],J:=I}
def AMC{I b}(e:b.keys=[]):CO (ZN I b) [] I:=by refine⟨?_⟩;rintro f h rfl;refine⟨⟨λk a=>.inr ?_,nA,(λg c k a=>by rw[AP.1 c,e]at a;cases a),sP,sP⟩,AB.le_refl _⟩;simp[SV.keys,AP]at a;subst a;have:=Gx (key:=k) (nb:=[b]) (j:=0);simp[FD]at this;rw[this];rfl
def Qj(I):Fn 345 [] [] I (ZN I AU7) none:=fo func345 (AMC rfl) λc b w a=>gG<|dn [108] rfl
def AJH(I)(b:Bool):Fn 383 [.v (.bool b)] [] I (A1 (.v (.int .i64 (if b then 1 else 0))) I) none:=by refine fo func383 (BZ rfl) λd c w a=> ?_;cases b<;>(refine gG ?_;exact fi)
abbrev PF(o:AK Int):SV:=.t [.v (.int .i64 (o.getD 0)),.v (.bool o.isSome)]
def AUo(I)(a b:Int):Fn 377 [.v (.int .i64 a),.v (.int .i64 b)] [] I (A1 (PF (Ff 7 a b)) I) none:=fo func377 (BZ rfl) λe d w c=>gg [(8,.eq _ _ (El (Value.int .i64) (Ye (a+b))))]<|fi
def AUp(I)(a b:Int):Fn 378 [.v (.int .i64 a),.v (.int .i64 b)] [] I (A1 (PF (Ff 8 a b)) I) none:=fo func378 (BZ rfl) λe d w c=>gg [(8,.eq _ _ (El (Value.int .i64) (Ye (a-b))))]<|fi
def AUq(I)(a b:Int):Fn 379 [.v (.int .i64 a),.v (.int .i64 b)] [] I (A1 (PF (Ff 9 a b)) I) none:=fo func379 (BZ rfl) λe d w c=>gg [(8,.eq _ _ (El (Value.int .i64) (Ye (a*b))))]<|fi
def AXJ{I}(x y)(a b:Int)(d:b≠0):∀w,Db w I->∃c,((do eqGuard .quo 2 x y (.int .i64 a) (.int .i64 b);binOp .quo 2 (.int .i64 a) (.int .i64 b):Sem AE)).run prog w=.ok (den id (.v (.int .i64 (wrap64 (a.tdiv b))))) c/\BB w c:=λw _=>
 ⟨w,by simp[eqGuard_quo,binOp_quo,Op.intDiv,d,den,Ye],BB.refl w⟩
def AXK{I}(x y)(a b:Int)(d:b≠0):∀w,Db w I->∃c,((do eqGuard .rem 2 x y (.int .i64 a) (.int .i64 b);binOp .rem 2 (.int .i64 a) (.int .i64 b):Sem AE)).run prog w=.ok (den id (.v (.int .i64 (a.tmod b)))) c/\BB w c:=λw _=>
 ⟨w,by simp[eqGuard_rem,binOp_rem,Op.intDiv,d,den],BB.refl w⟩
def AUk(I)(a b:Int):Fn 380 [.v (.int .i64 a),.v (.int .i64 b)] [] I (A1 (PF (Ff 10 a b)) I) none:=by refine fo func380 (BZ rfl) λf e w c=> ?_;by_cases d:b=0;refine gg [(7,.eq _ _ (Wa (b:=0) d))]<|fin func380 c ?_;rw[show Ff 10 a b=none by simp[Ff,d]];kernel_rfl;refine gg [(7,.eq _ _ (Om (b:=0) d)),(10,.op I _ _ (AXJ (.tmp 8) (.tmp 9) a b d))]<|fin func380 c ?_;rw[show Ff 10 a b=some (wrap64 (a.tdiv b)) by simp[Ff,d]];kernel_rfl
def AUl(I)(a b:Int):Fn 381 [.v (.int .i64 a),.v (.int .i64 b)] [] I (A1 (PF (Ff 11 a b)) I) none:=by refine fo func381 (BZ rfl) λf e w c=> ?_;by_cases d:b=0;refine gg [(7,.eq _ _ (Wa (b:=0) d))]<|fin func381 c ?_;rw[show Ff 11 a b=none by simp[Ff,d]];kernel_rfl;refine gg [(7,.eq _ _ (Om (b:=0) d)),(10,.op I _ _ (AXK (.tmp 8) (.tmp 9) a b d))]<|fin func381 c ?_;rw[show Ff 11 a b=some (a.tmod b) by simp[Ff,d]];kernel_rfl
def AUm(I)(a b:Int):Fn 382 [.v (.int .i64 a),.v (.int .i64 b)] [] I (A1 (PF (Ff 12 a b)) I) none:=by refine fo func382 (BZ rfl) λe d w c=>gG<|call (AJH I (a==b)) kR<|gG<|fin func382 c ?_;rw[show Ff 12 a b=some (if(a==b)=true then 1 else 0) by simp[Ff]];kernel_rfl
def AUn(I)(a b:Int):Fn 384 [.v (.int .i64 a),.v (.int .i64 b)] [] I (A1 (PF (Ff 13 a b)) I) none:=by refine fo func384 (BZ rfl) λe d w c=>gG<|call (AJH I (decide (a<b))) kR<|gG<|fin func384 c ?_;rw[show Ff 13 a b=some (if(decide (a<b))=true then 1 else 0) by simp[Ff]];kernel_rfl
def AUr(I)(c:Nat)(a b:Int)(k:7<=c)(l:c<=13):Fn 280 [.v (.int .i64 c),.v (.int .i64 a),.v (.int .i64 b)] [] I (A1 (PF (Ff c a b)) I) none:=by obtain rfl|rfl|rfl|rfl|rfl|rfl|rfl:c=7\/c=8\/c=9\/c=10\/c=11\/c=12\/c=13:=oG;refine fo func280 (BZ rfl) λj g w f=>gG<|Ag (Qj I) [] [] kR (λ_ h d i e=>by subst d;cases e) λh d=> ?_;subst d;exact gG<|call (AUo I a b) kR<|gG<|fi;refine fo func280 (BZ rfl) λj g w f=>gG<|Ag (Qj I) [] [] kR (λ_ h d i e=>by subst d;cases e) λh d=> ?_;subst d;exact gG<|call (AUp I a b) kR<|gG<|fi;refine fo func280 (BZ rfl) λj g w f=>gG<|Ag (Qj I) [] [] kR (λ_ h d i e=>by subst d;cases e) λh d=> ?_;subst d;exact gG<|call (AUq I a b) kR<|gG<|fi;refine fo func280 (BZ rfl) λj g w f=>gG<|Ag (Qj I) [] [] kR (λ_ h d i e=>by subst d;cases e) λh d=> ?_;subst d;exact gG<|call (AUk I a b) kR<|gG<|fi;refine fo func280 (BZ rfl) λj g w f=>gG<|Ag (Qj I) [] [] kR (λ_ h d i e=>by subst d;cases e) λh d=> ?_;subst d;exact gG<|call (AUl I a b) kR<|gG<|fi;refine fo func280 (BZ rfl) λj g w f=>gG<|Ag (Qj I) [] [] kR (λ_ h d i e=>by subst d;cases e) λh d=> ?_;subst d;exact gG<|call (AUm I a b) kR<|gG<|fi;refine fo func280 (BZ rfl) λj g w f=>gG<|Ag (Qj I) [] [] kR (λ_ h d i e=>by subst d;cases e) λh d=> ?_;subst d;exact gG<|call (AUn I a b) kR<|gG<|fi
def JQ(s:Cs):AA AE:=[.string (AR s.name),.string (str s.l.1),.string (str s.l.2),.int .i64 s.PV,.int .i64 s.AF,.int .i64 s.CF,.int .i64 s.tries,
 .string (str s.g.cur.1),.string (str s.g.cur.2),.string (str s.g.Al.1),.string (str s.g.Al.2),.string (AR s.path),.int .i64 s.made,.int .i64 s.room]
def ACn(s:Cs):SV:=.g [.v (.string (AR s.name)),.v (.string (str s.l.1)),.v (.string (str s.l.2)),.v (.int .i64 s.PV),.v (.int .i64 s.AF),.v (.int .i64 s.CF),.v (.int .i64 s.tries),
 .v (.string (str s.g.cur.1)),.v (.string (str s.g.cur.2)),.v (.string (str s.g.Al.1)),.v (.string (str s.g.Al.2)),.v (.string (AR s.path)),.v (.int .i64 s.made),.v (.int .i64 s.room)]
def LY(s:Cs)(l:AA AE):Prop:=l=JQ s
def Ux(s l)(h:LY s l):l.length=14:=by rw[h];rfl
structure CV where
 p:CN
 ca:AK Ac
 cc:Nat
 cl:AA AE
def CG(t:AJ)(a:CV):AA SV:=
 [.v (.string (AR t.id)),.v (.string (AR t.path)),.v (.string (str t.g.cur.1)),.v (.string (str t.g.cur.2)),.v (.string (str t.g.Al.1)),.v (.string (str t.g.Al.2)),
  .v (.slice a.p.fa t.c.AF.length a.p.fc),.v (.slice a.p.sa t.c.stack.length a.p.sc),.v (.slice a.p.ta t.c.tries.length a.p.tc),.v (.slice a.ca t.scopes.length a.cc),.v (.int .i64 t.made),.v (.int .i64 t.room),.v (.int .i64 t.status),.v (.string (AR t.on)),
  .v (.int .i64 t.v.kind),.v (.int .i64 t.v.n),.v (.string (AR t.v.name)),.v (.string (str t.v.l.1)),.v (.string (str t.v.l.2)),.v (.bool t.ex)]
structure Co(I:AB)(t:AJ)(a:CV):Prop where
 c:CH I t.c a.p
 s:Aj I LY 14 t.scopes a.ca a.cc a.cl
def Co.up{I J t a}(h:Co I t a)(hle:I.le J):Co J t a:=⟨h.c.up hle,h.s.up hle λ_ _ h=>h⟩
abbrev OW(I:AB)(t:AJ):Nat->AU->Prop:=Ft I (λa:CV=>.g (CG t a)) (λJ a=>Co J t a)
def Aj.empty{b:Type}{I R a}:Aj I R a ([]:AA b) none 0 []:=⟨Ch.nil,AZ _,by unfold maxLen;omega,rfl⟩
def ACB(I b g c p)(a:Nat)(h:CH I c p):Fn 141 [.v (.string (AR b)),IQ g,.g (Cj c p),.v (.int .i64 a)] [] I (OW I (Iy b g c a)) none:=fo func141 (EK λ_=>rfl) λf e w d=>gG<|dn [] ⟨_,I,rfl,AB.le_refl _,⟨h,Aj.empty⟩⟩ (h:={r:=.g (CG (Iy b g c a) ⟨p,none,0,[]⟩),J:=I})
def LO(t:AJ)(a:CV):AA SV:=[.v (.slice a.ca t.scopes.length a.cc),.v (.string (str t.g.cur.1)),.v (.string (str t.g.cur.2))]
def ACQ(I t a):Fn 97 [.g (CG t a)] [] I (A1 (.g (LO t a)) I) none:=fo func97 (BZ rfl) λd c w b=>gG<|fi
def AIS(I t a)(d:t.scopes.length<=1000000):Fn 113 [.g (LO t a)] [] I (A1 (.v (.int .i64 ((t.scopes.length+1:Nat):Int))) I) none:=fo func113 (BZ rfl) λe c w b=>gg [(6,.eq _ _ (iw (n:=(t.scopes.length:Int)+1) (m:=((t.scopes.length+1:Nat):Int)) oG oG))]<|fi
def AQQ(I t a v)(ex:Bool)(h:Co I t a):Fn 154 [.g (CG t a),Cn v,.v (.bool ex)] [] I (OW I (E6 t v ex)) none:=by
 refine fo func154 (EK λ_=>rfl) λρ key w b=> ?_;by_cases hs:0<t.scopes.length;refine gg [(12,.eq _ _ (bT (p:=(t.scopes.length:Int)>0) oG))]<|dn [] ⟨a,I,?_,AB.le_refl _,⟨h.c,h.s⟩⟩ (h:={r:=.g (CG {t with status:=2,v:=v,ex:=ex,on:=[]} a),J:=I});simp[E6,hs];cases ex with
 |true=>
  refine gg [(12,.eq _ _ (bF (p:=(t.scopes.length:Int)>0) oG))]<|dn [] ⟨a,I,?_,AB.le_refl _,⟨h.c,h.s⟩⟩ (h:={r:=.g (CG {t with status:=4,v:=v,ex:=true,on:=[]} a),J:=I});simp[E6,hs]
 |false=>
  refine gg [(12,.eq _ _ (bF (p:=(t.scopes.length:Int)>0) oG))]<|dn [] ⟨a,I,?_,AB.le_refl _,⟨h.c,h.s⟩⟩ (h:={r:=.g (CG {t with status:=3,v:=v,ex:=false,on:=[]} a),J:=I});simp[E6,hs]
def AZ9:Cs:=⟨[],EC,0,0,0,0,⟨EC,EC⟩,[],0,0⟩
def AYu:prog.underlying 114=some ((prog.underlying 114).getD Af):=kR
def AWZ:((prog.underlying 114).getD Af).isRow:=kR
def AWz{I m a c f}(h:Aj I LY 14 m a c f)(l:0<m.length):∃b d arr e i,a=some ⟨b,d,none⟩/\I b=some (.cells arr e i)/\∀k v,m[k]? =some v->∀j x,(JQ v)[j]? =some x->arr[d+k*14+j]? =some x:=by let⟨b,d,arr,e,i,o,p,q⟩:=h.sl.open_ l;refine⟨b,d,arr,e,i,o,p,λk v r j x g=> ?_⟩;have n:=h.rows.get Ux r;unfold LY at n;rw[<-n,GX]at g;split at g;rw[II]at g;rw[Mj];exact q _ x g;cases g
def ARy(I t a)(d:t.scopes.length=0):Fn 148 [.g (LO t a)] [] I (A1 (.t [ACn AZ9,.v (.bool false)]) I) none:=fo func148 (BZ rfl) λe c w b=>gg [(7,.eq _ _ (Wa (a:=(t.scopes.length:Int)) (b:=0) oG))]<|fi
def ARz(I t a s)(h:Aj I LY 14 t.scopes a.ca a.cc a.cl)(o:t.scopes.getLast?=some s)(y:t.scopes.length<=1000000):Fn 148 [.g (LO t a)] [] I (A1 (.t [ACn s,.v (.bool true)]) I) none:=by have j:=QV o;have n:=(B6.1 j).1;let⟨b,c,arr,e,x,d,m,q⟩:=AWz h oG;let⟨p,u,l,v⟩:=a;simp only at d;subst d;let⟨i,f,k⟩:=Wv;exact fo func148 (BZ rfl) λz r w g=>gg [(7,.eq _ _ (Om (a:=(t.scopes.length:Int)) (b:=0) oG)),(14,.eq _ _ (iw (n:=(t.scopes.length:Int)-1) (m:=((t.scopes.length-1:Nat):Int)) oG oG)),(15,.op I _ _ (Sb (b:=b) (off:=c) (n:=t.scopes.length) (c:=l) (k:=t.scopes.length-1) U9 f k n)),(16,.op I _ (ACn s) (Sd (JQ s) rfl AYu AWZ f k m (q _ s j)))]<|fi
def ATg(I x y z):∀a e (o:BP),o.op=.field 202 (.tmp 8) 0->(∀p∈[(8,SV.g [.v x,.v y,.v z])],e p.1=p.2)->LS prog o e a [] I (.g [.v x,.v y,.v z]) none:=by
 intro a e o h c;have m:=Cy c (s:=8) (x:=.g [.v x,.v y,.v z]) sP;intro t s w n _ _ _ _;refine⟨w,?_,BB.refl w⟩;have f:=n (.tmp 8) xO;simp only[ev,m,den,As]at f;have j:prog.underlying 202=some (.struct #[((prog.fieldsOf 202)[0]?).getD Af]):=kR;have g:(((prog.fieldsOf 202)[0]?).getD Af).type=200/\(((prog.fieldsOf 202)[0]?).getD Af).offset=0:=⟨kR,kR⟩;have k:prog.underlying 200=some ((prog.underlying 200).getD Af):=kR;have l:((prog.underlying 200).getD Af).isRow:=kR;obtain⟨i,q,r⟩:∃i,prog.info? 200=some i/\i.size=3:=by rw[show prog.info? 200=some ((prog.info? 200).getD Af) by kernel_rfl];exact⟨_,rfl,kR⟩
 have b:(isAgg 200).run prog w=.ok true w:=by simp only[isAgg,Sem.run_bind,run_underlying k,Result.andThen_ok];generalize(prog.underlying 200).getD Af=d at l;cases d<;>simp_all[TypeDesc.isRow]
 simp[execOp,h,Instr.field,f,run_underlying j,g.1,g.2,part,b,asAgg,sizeOf,typeInfo,q,r,Result.andThen,den,As]
def AGz(I t a)(h:Aj I LY 14 t.scopes a.ca a.cc a.cl)(d:t.scopes.length<=1000000):Fn 101 [.g (CG t a)] [] I (A1 (.t [.v (.int .i64 (CW t).1),.v (.int .i64 (CW t).2)]) I) none:=by
 refine fo func101 (BZ rfl) λi g w b=>gG<|call (ACQ I t a) kR<|gg [(9,.hand (.field 202 (.tmp 8) 0) [(8,.g (LO t a))] [] I (.g (LO t a)) (ATg I _ _ _))] ?_;cases e:t.scopes.getLast? with
 |none=>
  have f:t.scopes.length=0:=by cases c:t.scopes with|nil=>rfl|cons x l=>rw[c]at e;simp at e
  refine call (ARy I t a f) kR<|gG ?_;rw[show CW t=(0,0) by unfold CW;rw[e]];exact fi
 |some s=>
  refine call (ARz I t a s h e d) kR<|gG ?_;rw[show CW t=(s.AF,s.tries) by unfold CW;rw[e]];exact fi
def Et:AA (AA AH):=["push","load","store","pop","dup","swap","add","sub","mul","div","rem","eq","lt","not","jump","if","call","ret","throw","try","end","join","meet","flows","cur","clr","raise","lower","box","open","labof","ref","get","set","var","take","put","fork","wait","scope","out","drop","lift","less","gate","enter","own"].map λs=>s.toUTF8.toList
def ND(c:Nat):AA AE:=[.string (str (Et.getD (c-1) [])),.int .u8 (Bn c),.int .u8 (A2 c),.int .u8 (C4 c)]
structure DK(I:AB):Prop where
 at_:∃arr e fr,I 1=some (.cells arr e fr)/\∀c,1<=c->c<=47->∀j x,(ND c)[j]? =some x->arr[(c-1)*4+j]? =some x
def DK.up{I J}(h:DK I)(hle:I.le J):DK J:=by let⟨arr,e,a,b,c⟩:=h.at_;exact⟨arr,e,a,hle _ _ b,c⟩
def ABX(c:Nat):SV:=.g [.v (.string (str (Et.getD (c-1) []))),.v (.int .i64 (Bn c)),.v (.int .i64 (A2 c)),.v (.int .i64 (C4 c)),.v (.bool (Jp c))]
def Qz:prog.underlying 352=some (.array 47 351):=kR
def AHe:∃i,prog.info? 351=some i/\i.size=4:=by rw[show prog.info? 351=some ((prog.info? 351).getD Af) by kernel_rfl];exact⟨_,rfl,kR⟩
def YN:prog.underlying 351=some ((prog.underlying 351).getD Af):=kR
def X2:((prog.underlying 351).getD Af).isRow:=kR
def Sc{I}{t e b off n k a:Nat}{i}(h:prog.underlying t=some (.array n e))(d:prog.info? e=some i)(g:i.size=a)(f:k<n):
 ∀w,Db w I->∃c,(Instr.indexAt t (.pointer (some ⟨b,off,none⟩)) (.int .i64 (k:Int))).run prog w=.ok (den id (.v (.pointer (some ⟨b,off+k*a,none⟩)))) c/\BB w c:=λw _=>
 ⟨w,by
   have:(0:Int)<=(k:Int)/\(k:Int)<(n:Int):=oG;simp[Instr.indexAt,asIntOf,run_underlying h,f,sizeOf,typeInfo,d,g,den,Addr.add_mid,Result.andThen,Instr.sureAddr],BB.refl w⟩
def Xl(c)(a:1<=c)(b:c<=47):Bn c<=5/\A2 c<=4/\C4 c<=2:=by have:∀c:Fin 48,Bn c<=5/\A2 c<=4/\C4 c<=2:=dC;exact this ⟨c,oG⟩
def OZ(I)(hT:DK I)(c:Nat)(o:1<=c)(p:c<=47):Fn 155 [.v (.int .i64 c)] [] I (A1 (.t [ABX c,.v (.bool true)]) I) none:=by
 let⟨arr,e,s,n,h⟩:=hT.at_;let⟨i,a,b⟩:=AHe;let⟨t,u,v⟩:=Xl c o p;have h:=h c o p;refine fo func155 (BZ rfl) λy r w q=> ?_;by_cases k:c=15;subst k;refine gg [(14,.op I _ _ (Sc (b:=1) (off:=0) (k:=14) Qz a b oG)),(15,.op I _ (.g ((ND 15).map .v)) (Sd (ND 15) rfl YN X2 a b n (λj x g=>by have:=h j x g;simpa using this)))] ?_;exact fi;by_cases l:c=18;subst l;refine gg [(14,.op I _ _ (Sc (b:=1) (off:=0) (k:=17) Qz a b oG)),(15,.op I _ (.g ((ND 18).map .v)) (Sd (ND 18) rfl YN X2 a b n (λj x g=>by have:=h j x g;simpa using this)))] ?_;exact fi;by_cases m:c=19;subst m;refine gg [(14,.op I _ _ (Sc (b:=1) (off:=0) (k:=18) Qz a b oG)),(15,.op I _ (.g ((ND 19).map .v)) (Sd (ND 19) rfl YN X2 a b n (λj x g=>by have:=h j x g;simpa using this)))] ?_;exact fi;refine gg [(6,.eq _ _ (bF (p:=(c:Int)<1) oG)),(9,.eq _ _ (bF (p:=(c:Int)>47) oG)),(13,.eq _ _ (iw (n:=(c:Int)-1) (m:=((c-1:Nat):Int)) oG oG)),
  (14,.op I _ _ (Sc (b:=1) (off:=0) (k:=c-1) Qz a b oG)),(15,.op I _ (.g ((ND c).map .v)) (Sd (o:=0+(c-1)*4) (ND c) rfl YN X2 a b n (λj x g=>by have:=h j x g;simpa using this))),
  (20,.eq _ _ (iw (n:=(Bn c:Int)) (m:=(Bn c:Int)) rfl oG)),(23,.eq _ _ (iw (n:=(A2 c:Int)) (m:=(A2 c:Int)) rfl oG)),(26,.eq _ _ (iw (n:=(C4 c:Int)) (m:=(C4 c:Int)) rfl oG)),
  (28,.eq _ _ (Om (a:=(c:Int)) (b:=15) oG)),(31,.eq _ _ (Om (a:=(c:Int)) (b:=18) oG)),(35,.eq _ _ (Om (a:=(c:Int)) (b:=19) oG))] ?_
 have f:Jp c=false:=by simp[Jp,k,l,m]
 have d:ABX c=.g [.v (.string (str (Et.getD (c-1) []))),.v (.int .i64 (Bn c)),.v (.int .i64 (A2 c)),.v (.int .i64 (C4 c)),.v (.bool false)]:=by unfold ABX;rw[f]
 rw[d];exact fi
def B8(o:Lz.Op):AA AE:=[.int .i64 o.code,.int .i64 o.a]
def PI(o:Lz.Op)(l:AA AE):Prop:=l=B8 o
def Xj(o l)(h:PI o l):l.length=2:=by rw[h];rfl
def Iu(I:AB)(f:Lz.DT)(l:AA AE):Prop:=∃b c a,l=[.int .i64 f.args,.int .i64 f.vars,.slice b f.code.length c]/\Aj I PI 2 f.code b c a
def T7(I f l)(h:Iu I f l):l.length=3:=by obtain⟨_,_,_,rfl,_⟩:=h;rfl
def AG9{I J}(hle:I.le J)(f l)(h:Iu I f l):Iu J f l:=by let⟨b,c,a,e,q⟩:=h;exact⟨b,c,a,e,q.up hle λ_ _ h=>h⟩
structure CY where
 ka:AK Ac
 kc:Nat
 kl:AA AE
 ua:AK Ac
 uc:Nat
 ul:AA AE
structure D3(I:AB)(im:Ak)(p:CY):Prop where
 k:Aj I Ey 5 im.consts p.ka p.kc p.kl
 u:Aj I (Iu I) 3 im.Ad p.ua p.uc p.ul
def De(a:Ak)(p:CY):AA SV:=[.v (.slice p.ka a.consts.length p.kc),.v (.slice p.ua a.Ad.length p.uc)]
def D3.up{I J a p}(h:D3 I a p)(hle:I.le J):D3 J a p:=⟨h.k.up hle λ_ _ h=>h,h.u.up hle (AG9 hle)⟩
def N7(o:Lz.Op):SV:=.g [.v (.int .i64 o.code),.v (.int .i64 o.a)]
def ADJ:prog.underlying 30=some (.slice 195):=kR
def ABW:∃i,prog.info? 195=some i/\i.size=3:=by rw[show prog.info? 195=some ((prog.info? 195).getD Af) by kernel_rfl];exact⟨_,rfl,kR⟩
def My{I p a}{c:Nat}{g}(h:Aj I (Iu I) 3 p a c g){k:Nat}{f}(q:p[k]? =some f):∃b d arr e o l m n,a=some ⟨b,d,none⟩/\I b=some (.cells arr e o)/\Aj I PI 2 f.code l m n/\k<p.length/\∀j x,[Value.int .i64 f.args,.int .i64 f.vars,.slice l f.code.length m][j]? =some x->arr[d+k*3+j]? =some x:=by have w:=(B6.1 q).1;let⟨b,d,arr,e,o,t,u,v⟩:=h.sl.open_ oG;let⟨l,m,n,r,s⟩:=h.rows.get (T7 I) q;refine⟨b,d,arr,e,o,l,m,n,t,u,s,w,λj x i=> ?_⟩;rw[<-r,GX]at i;split at i;rw[II]at i;rw[Mj];exact v _ x i;cases i
def AYE(I)(hT:DK I)(a p o)(g:D3 I a p)(c:1<=o.code)(d:o.code<=47)(e:o.code≠17):Fn 200 [.g (De a p),N7 o] [] I (A1 (.v (.int .i64 (Bi a o))) I) none:=by refine fo func200 (BZ rfl) λh f w b=>gG<|call (OZ I hT o.code c d) kR<|gg [(15,.eq _ _ (Om (a:=(o.code:Int)) (b:=17) oG))] ?_;rw[show Bi a o=A2 o.code by unfold Bi;rw[AN e]];exact fi
def AYF(I)(hT:DK I)(c p)(a:Nat)(f)(m:D3 I c p)(l:c.Ad[a]? =some f)(y:f.args<=1000000):Fn 200 [.g (De c p),N7 ⟨17,a⟩] [] I (A1 (.v (.int .i64 f.args)) I) none:=by let⟨b,g,arr,e,x,t,u,v,h,k,_,n,o⟩:=My m.u l;let⟨z,A,B,C,s,D⟩:=p;simp only at h;subst h;let⟨i,d,q⟩:=ABW;refine fo func200 (BZ rfl) λE r w j=>gG<|call (OZ I hT 17 oG oG) kR<|gg [(22,.op I _ _ (Sb (b:=b) (off:=g) (n:=c.Ad.length) (c:=s) (k:=a) ADJ d q n)),(24,.op I _ _ (G5 Dj rfl k (o 0 _ rfl))),(25,.eq _ _ (iw (n:=((A2 17:Nat):Int)+f.args) (m:=(f.args:Int)) (by show((0:Nat):Int)+_=_;omega) oG))] ?_;exact fi
def Su(I)(n m:Nat):Fn 197 [.v (.int .i64 n),.v (.int .i64 m)] [] I (A1 (.v (.bool (decide (n<m)))) I) none:=by refine fo func197 (BZ rfl) λc b w a=> ?_;have e:Value.bool (decide ((n:Int)<(m:Int)))=.bool (decide (n<m)):=sP;exact gg [(6,.eq _ _ (bT (p:=(n:Int)≥0) oG)),(10,.eq _ _ e)]<|fi
abbrev BV.own(m:BV)(a:Nat):AG:=.cells (m.row (.s 2 0 m.c.AF.length a)) 282
abbrev IU(m:BV)(a:Nat)(b:AA AE):AA (Nat×AG):=[(1,m.own a),(2,.Aa b 65)]
def ZX(I:AB)(a:AA (Nat×AG))(r:SV):Nat->AU->Prop:=λ_ h=>h= {r:=r,upd:=a,J:=I}
def AMG{I m l c n f r}(i:∀k∈r.keys,k=1\/k=2):CO (ZX I (IU l c f) r) (IU m c n) I:=by refine⟨?_⟩;rintro j h rfl;refine⟨⟨λk a=>.inl ?_,λo d=> ?_,nA,sP,sP⟩,AB.le_refl _⟩;rcases i k a with e|e<;>simp[e];rcases BD.1 d with e|e;rw[e];exact⟨sP,λk a=>by simp[AG.keys,BV.row,Ax,SV.keys]at a;subst a;simp⟩;rw[AP.1 e];exact⟨sP,nA⟩
def YK(I m a d)(f:0<m.c.AF.length)(e:m.c.AF.length<=1000000):Fn 223 [.p 1 0] (IU m a d) I (ZX I (IU m a d) (.p 2 (0+(m.c.AF.length-1)*5))) none:=by
 refine fo func223 (AMG (by intro k b;simp[SV.keys]at b;exact .inr b)) λh g w c=> ?_;refine gg [(14,.eq _ _ (iw (n:=(m.c.AF.length:Int)-1) (m:=((m.c.AF.length-1:Nat):Int)) oG oG)),
  (15,.hand (.indexAddr 45 (.tmp 7) (.tmp 14)) [(7,.s 2 0 m.c.AF.length a),(14,.v (.int .i64 (Int.ofNat (m.c.AF.length-1))))] [] I (.p 2 (0+(m.c.AF.length-1)*5)) (Hb A6 (L:=lay) (t:=45) (a:=7) (b:=14) (k:=2) (off:=0) (n:=m.c.AF.length) (c:=a) (i:=m.c.AF.length-1) (e:=65) (ty:=⟨5,_,_⟩) rfl rfl oG))] ?_
 exact dn [] rfl
def ASL(I m)(e:Nat)(f)(o:0<m.c.AF.length)(j:m.c.AF.length<=1000000)(t:m.c.AF.length*5<=f.length):Fn 210 [.p 1 0] (IU m e f) I (ZX I (IU m e (splice f (0+(m.c.AF.length-1)*5+1) [.int .i64 m.oa])) (.t [])) none:=by refine fo func210 (AMG (by intro k g;cases g)) λy x w p=> ?_;refine gG<|Ag (Fn.same (YK I m e f o j) rfl) [] [] kR (λ_ h c q a=>by subst c;cases a) λh c=> ?_;subst c;refine gG<|act (need:=[(2,.Aa f 65)]) [2] kR (AHT (I:=I) A6 (L:=lay) (t:=3) (k:=2) (off:=0+(m.c.AF.length-1)*5+1) (ad:=.tmp 10) (x:=.tmp 8) (ty:=⟨1,_,_⟩) (vs:=f) (cs:=[.int .i64 m.oa]) (e:=65) kR kR kR rfl rfl sO (by intro v s;rw[AP.1 s];rfl) (AP.2 rfl)) ?_ ?_ ?_;intro h c q a;subst c;rw[AP.1 a];exact AP.2 rfl;intro h c;subst c;refine{r:= ?_,u:= ?_,n:= ?_,l:=by simp,le:=AB.Fa _,d:=by simp};intro k g;cases g;intro q a;rw[AP.1 a];refine⟨AP.2 rfl,?_,?_⟩;intro b i;rw[(GY (AP.1 i)).2];rfl;intro k g;cases g;intro b i;cases i;intro h c;subst c;exact gG<|dn [] rfl
abbrev Hint:=It prog
def hT(p:Prop)[Decidable p](h:p):Hint:=.eq (Value.bool (decide p)) (.bool true) (bT h)
def hF(p:Prop)[Decidable p](h: ¬p):Hint:=.eq (Value.bool (decide p)) (.bool false) (bF h)
def hE(a b:Int)(h:a=b):Hint:=.eq (Value.bool (a==b)) (.bool true) (Wa h)
def hN(a b:Int)(h:a≠b):Hint:=.eq (Value.bool (a==b)) (.bool false) (Om h)
def FJ(a b:Int)(h:a≠b):Hint:=.eq (Value.bool (a !=b)) (.bool true) (neT h)
def Ct(a b:Int)(h:a=b):Hint:=.eq (Value.bool (a !=b)) (.bool false) (neF h)
def hW(n m:Int)(e:n=m)(h: -9223372036854775808<=m/\m<9223372036854775808):Hint:=.eq _ _ (iw e h)
def M1(I:AB)(a:AY Av)(x y z:Int)(h:max x y=z):Hint:=.op I _ _ (AKw (ts:=a) (t:=3) z h)
def ABL(I:AB)(a:AY Av)(x y z:Int)(h:min x y=z):Hint:=.op I _ _ (AKx (ts:=a) (t:=3) z h)
structure GZ(t e size:Nat):Prop where
 ht:prog.underlying t=some (.slice e)
 hi:∃i,prog.info? e=some i/\i.size=size
def ix{I}{t e a b off n c k:Nat}(E:GZ t e a)(g:k<n):
 ∀w,Db w I->∃d,(Instr.indexAt t (.slice (some ⟨b,off,none⟩) n c) (.int .i64 (k:Int))).run prog w=.ok (den id (.v (.pointer (some ⟨b,off+k*a,none⟩)))) d/\BB w d:=by
 let⟨i,f,h⟩:=E.hi;exact Sb E.ht f h g
def BM(I:AB){t e a:Nat}(E:GZ t e a)(b d n c k:Nat)(f:k<n):Hint:=.op I _ _ (ix (b:=b) (off:=d) (c:=c) E f)
structure Gq(t size:Nat):Prop where
 ht:∃d,prog.underlying t=some d/\d.isRow
 hi:∃i,prog.info? t=some i/\i.size=size
def XE{I t a b o}(R:Gq t a){arr e g}(c:AA AE)(m:c.length=a)(h:I b=some (.cells arr e g))(q:∀j v,c[j]? =some v->arr[o+j]? =some v):
 ∀w,Db w I->∃f,(Instr.loadAt t (.pointer (some ⟨b,o,none⟩))).run prog w=.ok (den id (.g (c.map .v))) f/\BB w f:=by
 let⟨d,k,n⟩:=R.ht;let⟨i,l,p⟩:=R.hi;exact Sd c rfl k n l (p.trans m.symm) h q
def DR(I:AB){t a:Nat}(R:Gq t a){b:Nat}{arr:AY AE}{e:Av}{d:Nat×Nat}(o:Nat)(c:AA AE)(g:c.length=a)(f:I b=some (.cells arr e d))(h:∀j v,c[j]? =some v->arr[o+j]? =some v):Hint:=.op I _ _ (XE (o:=o) R c g f h)
def C9(I:AB){t:Nat}{d:TypeDesc}(g:prog.underlying t=some d)(f:d.isRow=false){b:Nat}{arr:AY AE}{e:Av}{a:Nat×Nat}(o:Nat)(v:AE)(c:I b=some (.cells arr e a))(h:arr[o]? =some v):Hint:=.op I _ _ (G5 g f c h)
def Ol:GZ 45 65 5:=⟨Sp,Wx⟩
def E5:GZ 29 51 5:=⟨Lf,O5⟩
def WX:GZ 46 118 3:=⟨Q0,Ww⟩
def WY:GZ 49 114 14:=⟨U9,Wv⟩
def LI:GZ 30 195 3:=⟨ADJ,ABW⟩
def HV:GZ 38 9 1:=⟨ALl,ARw⟩
def Rm:GZ 83 261 7:=⟨YP,ARv⟩
def row_of{t size}(d i)(a:prog.underlying t=some d)(b:d.isRow)(c:prog.info? t=some i)(e:i.size=size):Gq t size:=⟨⟨d,a,b⟩,⟨i,c,e⟩⟩
def MX:Gq 51 5:=by refine row_of ((prog.underlying 51).getD Af) ((prog.info? 51).getD Af) ?_ ?_ ?_ ?_<;>kernel_rfl
def X4:Gq 65 5:=by refine row_of ((prog.underlying 65).getD Af) ((prog.info? 65).getD Af) ?_ ?_ ?_ ?_<;>kernel_rfl
def X3:Gq 118 3:=by refine row_of ((prog.underlying 118).getD Af) ((prog.info? 118).getD Af) ?_ ?_ ?_ ?_<;>kernel_rfl
def ACf:Gq 114 14:=by refine row_of ((prog.underlying 114).getD Af) ((prog.info? 114).getD Af) ?_ ?_ ?_ ?_<;>kernel_rfl
def AKS:Gq 195 3:=by refine row_of ((prog.underlying 195).getD Af) ((prog.info? 195).getD Af) ?_ ?_ ?_ ?_<;>kernel_rfl
def Ut:Gq 211 2:=by refine row_of ((prog.underlying 211).getD Af) ((prog.info? 211).getD Af) ?_ ?_ ?_ ?_<;>kernel_rfl
def ACh:Gq 261 7:=by refine row_of ((prog.underlying 261).getD Af) ((prog.info? 261).getD Af) ?_ ?_ ?_ ?_<;>kernel_rfl
def SS:Gq 42 2:=by refine row_of ((prog.underlying 42).getD Af) ((prog.info? 42).getD Af) ?_ ?_ ?_ ?_<;>kernel_rfl
def ADI:prog.underlying 188=some (.slice 211):=kR
def ARu:∃i,prog.info? 211=some i/\i.size=2:=Ut.hi
def Nq:GZ 188 211 2:=⟨ADI,ARu⟩
def Aj.cell{o:Type}{I R d c k}{n:AA o}{a g x}(h:Aj I R d n a c g)(u:∀x l,R x l->l.length=d)(p:n[k]? =some x):
 ∃b f arr e m l,a=some ⟨b,f,none⟩/\I b=some (.cells arr e m)/\R x l/\k<n.length/\∀j v,l[j]? =some v->arr[f+k*d+j]? =some v:=by
 have t:=(B6.1 p).1;let⟨b,f,arr,e,m,q,r,s⟩:=h.sl.open_ oG;have w:=h.rows.get u p;refine⟨b,f,arr,e,m,_,q,r,w,t,λj v i=> ?_⟩;rw[GX]at i;split at i;rw[II]at i;rw[Mj];exact s _ v i;cases i
def Qi{o}(h:Gf o):(1<=o.code/\o.code<=47)/\(Bn o.code=0->o.a=0)/\(Bn o.code≠0->o.a<=65535):=by simp[Gf,SI,Bt,D1]at h;refine⟨h.1,λe=> ?_,λe=> ?_⟩;have:=h.2;rw[AW e]at this;simpa using this;have:=h.2;rw[AN e]at this;simpa using this
def Ur(I)(a:DK I)(o)(h:Gf o):Fn 198 [N7 o] [] I (A1 (.v (.bool true)) I) none:=by let⟨⟨c,d⟩,h3,h4⟩:=Qi h;refine fo func198 (BZ rfl) λg f w b=>gG<|call (OZ I a o.code c d) kR ?_;by_cases e:Bn o.code=0;refine gg [(15,hE (Bn o.code) 0 oG),(18,hE o.a 0 (by have:=h3 e;omega))] ?_;exact fi;have:=h4 e;exact gg [(15,hN (Bn o.code) 0 oG),(21,hT ((o.a:Int)≥0) oG),(25,hT ((o.a:Int)<=65535) oG)]<|fi
def Wi(f:B7)(a:AK Ac)(b:Nat):AA AE:=[.int .i64 f.fn,.int .i64 f.pc,.int .i64 f.base,.int .u8 f.AL.toNat,.slice a f.vars.length b]
def AA9(f:B7)(a:AK Ac)(b:Nat):SV:=.g [.v (.int .i64 f.fn),.v (.int .i64 f.pc),.v (.int .i64 f.base),.v (.int .u8 f.AL.toNat),.v (.slice a f.vars.length b)]
def AU5(I)(g:DK I)(a p f z A d o)(t:D3 I a p)(k:a.Ad[f.fn]? =some d)(h:1<=o.code)(i:o.code<=47):Fn 199 [.g (De a p),AA9 f z A,N7 o] [] I (A1 (.v (.bool (G1 a f o))) I) none:=by
 refine fo func199 (BZ rfl) λM x w l=>gG<|call (OZ I g o.code h i) kR ?_;have F:=(Xl o.code h i).1;by_cases m:Bn o.code=1;refine gg [(18,hE (Bn o.code) 1 oG)]<|call (Su I o.a a.consts.length) kR<|gG ?_;rw[show G1 a f o=decide (o.a<a.consts.length) by unfold G1;rw[m];rfl];exact fi;by_cases n:Bn o.code=2;refine gg [(18,hN (Bn o.code) 1 oG),(26,hE (Bn o.code) 2 oG)]<|call (Su I o.a f.vars.length) kR<|gG ?_;rw[show G1 a f o=decide (o.a<f.vars.length) by unfold G1;rw[n];rfl];exact fi;by_cases q:Bn o.code=3;let⟨b,c,arr,e,E,B,C,D,j,s,_,u,v⟩:=My t.u k;let⟨G,H,J,K,y,L⟩:=p;simp only at j;subst j;refine gg [(18,hN (Bn o.code) 1 oG),(26,hN (Bn o.code) 2 oG),(34,hE (Bn o.code) 3 oG),(41,BM I LI b c a.Ad.length y f.fn u),(43,C9 I ADI rfl (c+f.fn*3+2) _ s (v 2 _ rfl))]<|call (Su I o.a d.code.length) kR<|gG ?_;rw[show G1 a f o=decide (o.a<d.code.length) by unfold G1;rw[q];simp[Cz,k]];exact fi;by_cases r:Bn o.code=4;refine gg [(18,hN (Bn o.code) 1 oG),(26,hN (Bn o.code) 2 oG),(34,hN (Bn o.code) 3 oG),(47,hE (Bn o.code) 4 oG)]<|call (Su I o.a a.Ad.length) kR<|gG ?_;rw[show G1 a f o=decide (o.a<a.Ad.length) by unfold G1;rw[r];rfl];exact fi;refine gg [(18,hN (Bn o.code) 1 oG),(26,hN (Bn o.code) 2 oG),(34,hN (Bn o.code) 3 oG),(47,hN (Bn o.code) 4 oG)] ?_;rw[show G1 a f o=true by unfold G1;have:Bn o.code=0\/Bn o.code=5:=oG;rcases this with e|e<;>(rw[e];rfl)]
 exact fi
section
variable {F:FuncId} {c:Func} {n:Nat} {I:AB} {w:World} {ρ:Nat->Nat} {A:List Nat} {R:Dl} {f:BU}
def Nl{d j G g m e o}(h:Fn G d [] j (RS j g m e o) none)(i:Ci f n G [] [] []=some (Bz (AT []) d,[],j))(hnext:∀b a,m<=b->b<=maxLen->a.length=(b-m)*g->At F c n I w ρ A R (f.out (AT []) {r:=.s (Cw f) 0 m b,nb:=[.Aa (o++a) e],J:=j})):At F c n I w ρ A R f:=
 Ag h [] [] i (λ_ h k t l=>by obtain⟨b,a,_,_,_,rfl⟩:=k;cases l) λh k=>by obtain⟨b,a,p,q,s,rfl⟩:=k;exact hnext b a p q s
def Bm{vs cs e t k off ad x ty I'}(o:(Lc f).op=.store t ad x)(s:ev f.σ.tm ad=.p k off)(B:(ev f.σ.tm x).cs=some (cs.map .v))(p:lay.get t=some ty)(z:cs.length=ty.n)(y:off+cs.length<=vs.length)(q:∀v∈cs,v.oneCell')
 (i:Lw f n [(k,.Aa vs e)] [k]=some ([some (.Aa vs e)],I')) (hnext:At F c n I w ρ A R (f.act {r:=.v undef,upd:=[(k,.Aa (splice vs off cs) e)],J:=I'})):At F c n I w ρ A R f:=by
 refine act (need:=[(k,.Aa vs e)]) [k] i (AHT (I:=I') A6 (L:=lay) o s B p z y q (AP.2 rfl)) ?_ ?_ ?_;intro h g C a;subst g;rw[AP.1 a];exact AP.2 rfl;intro h g;subst g;refine{r:= ?_,u:= ?_,n:= ?_,l:=by simp,le:=AB.Fa _,d:=by simp};intro k m;cases m;intro C a;rw[AP.1 a];refine⟨AP.2 rfl,?_,?_⟩;intro b j;rw[(GY (AP.1 j)).2];rfl;intro k m;cases m;intro b j;cases j;intro h g;subst g;exact hnext
end
def YA{l a:AA AE}{o}(h:o+a.length<=l.length):(splice l o a).length=l.length:=by unfold splice;simp[Bc,CX,KF];omega
def Se{a b d:AA AE}{o}(h:o+d.length<=a.length):splice (a++b) o d=splice a o d++b:=by unfold splice;rw[IJ oG,S0 h];simp
def AK5{a b cs:AA AE}{o}:splice (a++b) (a.length+o) cs=a++splice b o cs:=by unfold splice;rw[AD2,Mj,Q5];simp
theorem Rows.upd{q:Type}{R S d j}{cs:List Value}(p:∀x l,R x l->l.length=d)(g:∀x l,R x l->S x l):∀ {m:List q} {l:List Value} {k:Nat} {x x':q},Rows R m l->m[k]? =some x->(∀i,R x i->S x' (splice i j cs))->j+cs.length<=d->Rows S (m.set k x') (splice l (k*d+j) cs)
 |y::m,l,0,x,x',⟨a,b,e,h,o⟩,hx,hf,hj=>by cases hx;have:=p _ _ h;refine⟨splice a j cs,b,?_,hf a h,o.mono g⟩;rw[e,Nat.zero_mul,Nat.zero_add,Se oG]
 |y::m,l,k+1,x,x',⟨a,b,e,h,o⟩,hx,hf,hj=>by have:=p _ _ h;refine⟨a,splice b (k*d+j) cs,?_,g _ _ h,Rows.upd p g o hx hf hj⟩;rw[e,<-AK5,this];congr 1;rw[Nat.add_mul];omega
def modify_eq{a:Type}{l:AA a}{k x f}(h:l[k]? =some x):l.modify k f=l.set k (f x):=by apply S3;intro i;rw[Pm,S4];by_cases e:k=i;subst e;rw[AW rfl,h,AW (B6.1 h).1];simp;rw[AN e];simp only[AN e];cases l[i]? <;>rfl
def Wj{I f}{pc:Nat}:∀b,E7 I f b->E7 I {f with pc:=pc} (splice b 1 [.int .i64 pc]):=by rintro b ⟨d,e,a,rfl,q⟩;exact⟨d,e,a,rfl,q⟩
def AQx{I f m}:∀b,E7 I f b->E7 I {f with AL:=m} (splice b 3 [.int .u8 m.toNat]):=by rintro b ⟨d,e,a,rfl,q⟩;exact⟨d,e,a,rfl,q⟩
def Aj.JN{i:Type}{J R a b d}{g:AA i}{l AC:AA AE}{e}(k:J b=some (.cells (l++AC).toArray e (0,0)))(h:Rows R g l)(o:∀x l,R x l->l.length=a)(j:∀v∈l,v.oneCell')(m:g.length<=d)(p:d<=maxLen):Aj J R a g (some ⟨b,0,none⟩) d l:=
 ⟨Ch.NC k (h.len o) j,m,p,h⟩
def Xg{I d l}(h:Rows (E7 I) d l):∀v∈l,v.oneCell':=by
 induction d generalizing l with
 |nil=>cases h;intro v c;cases c
 |cons x d e=>
  obtain⟨a,b,rfl,⟨_,_,_,rfl,_⟩,h2⟩:=h;intro v c;rcases BA.1 c with c|c;simp at c;rcases c with rfl|rfl|rfl|rfl|rfl<;>rfl;exact e h2 v c
abbrev ANC(I:AB)(u:Ae):Nat->AU->Prop:=Ft I (λq:CN=>.t [.g (Cj u q),.v (.bool true)]) (λJ q=>CH J u q)
def ALW(I)(c:Ae)(p)(b:Int)(a:Nat)(e:c.tries.length-1<a\/c.tries.length=0)(g:c.tries.length<=1000000):Fn 224 [.g (Cj c p),.v (.int .i64 b),.v (.int .i64 a)] [] I (A1 (.t [.g (Cj c p),.v (.bool false)]) I) none:=fo func224 (BZ rfl) λh f w d=>gg [(15,hW ((c.tries.length:Int)-1) ((c.tries.length:Int)-1) rfl oG),(18,M1 I #[3,3] a 0 a oG),(19,hT ((c.tries.length:Int)-1<(a:Int)) oG)]<|fi
def AYa(I c p)(f:Int)(a:Nat)(t)(h:CH I c p)(s:c.tries.getLast?=some t)(r:a<=c.tries.length-1)(n:t.AF<1\/c.AF.length<t.AF\/c.stack.length<t.CF)(C:c.tries.length<=1000000):Fn 224 [.g (Cj c p),.v (.int .i64 f),.v (.int .i64 a)] [] I (A1 (.t [.g (Cj c p),.v (.bool false)]) I) none:=by
 have u:=QV s;let⟨b,d,arr,e,z,l,m,g,q,i,j⟩:=h.t.cell Sl u;unfold Pb at q;subst q;let⟨x,y,fl,D,E,F,G,k,H⟩:=p;simp only at m;subst m;refine fo func224 (BZ rfl) λJ v w o=> ?_;by_cases A:t.AF<1;exact gg [(15,hW ((c.tries.length:Int)-1) ((c.tries.length-1:Nat):Int) oG oG),(18,M1 I #[3,3] a 0 a oG),(19,hF (((c.tries.length-1:Nat):Int)<(a:Int)) oG),(24,BM I WX b d c.tries.length k (c.tries.length-1) i),(25,DR I X3 (d+(c.tries.length-1)*3) (EA t) rfl g j),(28,hT ((t.AF:Int)<1) oG)]<|fi;by_cases B:c.AF.length<t.AF;exact gg [(15,hW ((c.tries.length:Int)-1) ((c.tries.length-1:Nat):Int) oG oG),(18,M1 I #[3,3] a 0 a oG),(19,hF (((c.tries.length-1:Nat):Int)<(a:Int)) oG),(24,BM I WX b d c.tries.length k (c.tries.length-1) i),(25,DR I X3 (d+(c.tries.length-1)*3) (EA t) rfl g j),(28,hF ((t.AF:Int)<1) oG),(35,hT ((t.AF:Int)>c.AF.length) oG)]<|fi;exact gg [(15,hW ((c.tries.length:Int)-1) ((c.tries.length-1:Nat):Int) oG oG),(18,M1 I #[3,3] a 0 a oG),(19,hF (((c.tries.length-1:Nat):Int)<(a:Int)) oG),(24,BM I WX b d c.tries.length k (c.tries.length-1) i),(25,DR I X3 (d+(c.tries.length-1)*3) (EA t) rfl g j),(28,hF ((t.AF:Int)<1) oG),(35,hF ((t.AF:Int)>c.AF.length) oG),(40,hF ((t.CF:Int)<0) oG),(48,hT ((t.CF:Int)>c.stack.length) oG)]<|fi
def AYb(I c p)(d:Int)(g:Nat)(t)(h:CH I c p)(ht:c.tries.getLast?=some t)(ab:g<=c.tries.length-1)(h1:1<=t.AF)(h2:t.AF<=c.AF.length)(h3:t.CF<=c.stack.length)(hl:c.tries.length<=1000000)(aa:c.AF.length<=1000000)(ac:c.stack.length<=1000000):
 Fn 224 [.g (Cj c p),.v (.int .i64 d),.v (.int .i64 g)] [] I (ANC I ⟨IY (c.AF.take t.AF) (t.AF-1) t.at_,c.stack.take t.CF++[whole d],c.tries.take (c.tries.length-1)⟩) none:=by
 have hx:=QV ht;let⟨b,u,arr,e,fr,l,R,Z,T,hk,L⟩:=h.t.cell Sl hx;unfold Pb at T;subst T;let⟨fa,X,fl,U,sc,V,ta,W,tl⟩:=p;simp only at R;subst R;have j:=h.f.take (HW I) t.AF;let⟨N,C,M,e2,Y,E,_⟩:=j.sl.open_ sO;simp only at E;subst E;have hlen:(c.AF.take t.AF).length=t.AF:=sO
 have n:min t.AF c.AF.length=t.AF:=oG;rw[n]at j;have B:=j.sl;rw[hlen]at B;refine fo func224 (EK λ_=>rfl) λρ ad w S=>gg [(15,hW ((c.tries.length:Int)-1) ((c.tries.length-1:Nat):Int) oG oG),(18,M1 I #[3,3] g 0 g oG),(19,hF (((c.tries.length-1:Nat):Int)<(g:Int)) oG),(24,BM I WX b u c.tries.length W (c.tries.length-1) hk),(25,DR I X3 (u+(c.tries.length-1)*3) (EA t) rfl Z L),(28,hF ((t.AF:Int)<1) oG),(35,hF ((t.AF:Int)>c.AF.length) oG),(40,hF ((t.CF:Int)<0) oG),(48,hF ((t.CF:Int)>c.stack.length) oG)] ?_;have A:=WO I (some ⟨N,C,none⟩) c.AF.length X t.AF h.f.cap;rw[n]at A;refine call A kR<|gG<|Nl (WI I ⟨N,C,none⟩ t.AF t.AF _ oG B) kR λy s G H hj=>gg [(60,hW ((t.AF:Int)-1) ((t.AF-1:Nat):Int) oG oG),
  (63,.hand (.indexAddr 45 (.tmp 57) (.tmp 60)) [(57,.s 484 0 t.AF y),(60,.v (.int .i64 (Int.ofNat (t.AF-1))))] [] I (.p 484 (0+(t.AF-1)*5)) (Hb A6 (L:=lay) (t:=45) (a:=57) (b:=60) (k:=484) (off:=0) (n:=t.AF) (c:=y) (i:=t.AF-1) (e:=65) (ty:=⟨5,_,_⟩) rfl rfl oG))] ?_
 have D:=j.rows.len (HW I);rw[hlen]at D;refine Bm (k:=484) (off:=0+(t.AF-1)*5+1) (t:=3) (ad:=.tmp 64) (x:=.tmp 62) (e:=65) (vs:=fl.take (t.AF*5)++s) (cs:=[.int .i64 t.at_]) (ty:=⟨1,_,_⟩) (I':=I) kR kR kR rfl rfl (by simp[Bc,D,NU];omega) (by intro v L;rw[AP.1 L];rfl) kR ?_;refine gG<|call (Tt I U c.stack.length sc t.CF h.s.cap) kR<|gG ?_;have F:=h.s.take G6 t.CF;have f:min t.CF c.stack.length=t.CF:=oG;have k:(c.stack.take t.CF).length=t.CF:=sO
 have q:=F.sl;rw[f]at q;rw[k]at q;refine Iq (AEg I U (min t.CF c.stack.length) (min t.CF c.stack.length) (V.take (t.CF*5)) (whole d) (AZ _) oG (by rw[f];exact q)) kR λa m J hle q1 q2 q3=> ?_;refine gG<|call (AGA J (some ⟨b,u,none⟩) c.tries.length W (c.tries.length-1) h.t.cap) kR<|gG<|BW 484 J (vs:=splice (fl.take (t.AF*5)++s) (0+(t.AF-1)*5+1) [.int .i64 t.at_]) (e:=65) kR λO K i _ Q=> ?_;have z:∃x,(c.AF.take t.AF)[t.AF-1]? =some x:=⟨(c.AF.take t.AF)[t.AF-1]'oG,A9 oG⟩;let⟨x,z⟩:=z;have o:Rows (E7 K) (IY (c.AF.take t.AF) (t.AF-1) t.at_) (splice (fl.take (t.AF*5)) ((t.AF-1)*5+1) [.int .i64 t.at_]):=by unfold IY;rw[modify_eq z];exact(j.rows.upd (HW I) (λ_ _ h=>h) z Wj sP).mono (MF (hle.trans i))
 have hnew:CH K ⟨IY (c.AF.take t.AF) (t.AF-1) t.at_,c.stack.take t.CF++[whole d],c.tries.take (c.tries.length-1)⟩ ⟨some ⟨O,0,none⟩,y,splice (fl.take (t.AF*5)) ((t.AF-1)*5+1) [.int .i64 t.at_],a,m,V.take (t.CF*5)++Au (whole d),some ⟨b,u,none⟩,min (c.tries.length-1) c.tries.length,tl.take (min (c.tries.length-1) c.tries.length*3)⟩:=by refine⟨?_,?_,(h.up (hle.trans i)).t.take Sl (c.tries.length-1)⟩;refine Aj.JN (l:=splice (fl.take (t.AF*5)) ((t.AF-1)*5+1) [.int .i64 t.at_]) (AC:=s) (e:=65) ?_ o (HW K) (Xg o) ?_ H;rw[D5,Se (by simp[D,NU];omega)]at Q;exact Q;simp[IY,Mg,hlen];exact G;have P:(c.stack.take t.CF++[whole d]).length=min t.CF c.stack.length+1:=sP;refine⟨?_,by rw[P];exact q1,q2,?_⟩;rw[P];exact q3.up i;have:=F.rows;rw[f]at this;exact this.append (Rows.one rfl)
 refine dn [] ⟨_,K,?_,hle.trans i,hnew⟩ (h:={r:=.t [.g [.v (.slice (some ⟨O,0,none⟩) t.AF y),.v (.slice a (min t.CF c.stack.length+1) m),.v (.slice (some ⟨b,u,none⟩) (min (c.tries.length-1) c.tries.length) (min (c.tries.length-1) c.tries.length))],.v (.bool true)],J:=K});simp[Cj,IY,f,k,n]
def Xn(k:Nat)(v:Val)(o:Lz.Op):AA SV:=[.v (.int .i64 k),.v (.int .i64 v.kind),.v (.int .i64 v.n),.v (.string (AR v.name)),.v (.string (str v.l.1)),.v (.string (str v.l.2)),.v (.int .i64 o.code),.v (.int .i64 o.a)]
def ACO:Lz.Out->SV
 | .Ic=>.g (Xn 0 AO ⟨0,0⟩)
 | .ended v=>.g (Xn 1 v ⟨0,0⟩)
 | .failed v=>.g (Xn 2 v ⟨0,0⟩)
 | .asked o=>.g (Xn 3 AO o)
def AVC(o):(ACO o).keys=[]:=by cases o<;>rfl
abbrev Vn(I:AB)(r:Ae×Lz.Out):Nat->AU->Prop:=Ft I (λq:CN=>.t [.g (Cj r.1 q),ACO r.2]) (λJ q=>CH J r.1 q)
def AK9(r:Ae×Lz.Out)(q):(SV.t [.g (Cj r.1 q),ACO r.2]).keys=[]:=by simp[SV.keys,Ax,Cj,AVC]
structure Jd(c:Ae):Prop where
 f:c.AF.length<=900000
 s:c.stack.length<=900000
 t:c.tries.length<=900000
def AJx(I c p)(a:Int)(b:Nat)(i:Jd c)(h:CH I c p):Fn 153 [.g (Cj c p),.v (.int .i64 a),.v (.int .i64 b)] [] I (Vn I (D4 c a b)) none:=by
 have u:=i.f;have v:=i.s;have x:=i.t;refine fo func153 (EK (AK9 _)) λo m w n=>gG ?_;have f:Ld c a b=none->Fn 224 [.g (Cj c p),.v (.int .i64 a),.v (.int .i64 b)] [] I (A1 (.t [.g (Cj c p),.v (.bool false)]) I) none->At 153 f153 f153.ntmps I w o (([]:AA (Nat×AG)).map (·.1)) (Ends I o m w (Vn I (D4 c a b)) none) (CS prog lay [] f153.ntmps (([]:AA (Nat×AG)).map (·.1)) 1000 (init [.g (Cj c p),.v (.int .i64 a),.v (.int .i64 b)] [] I (Io f153))).f:=λl k=>by
  refine call k kR<|gG<|call (Ss I a) kR<|gG ?_;have e:D4 c a b=(c,.failed (whole a)):=by unfold D4;rw[l]
  rw[e];exact dn [] ⟨p,I,rfl,AB.le_refl _,h⟩
 cases d:c.tries.getLast? with
 |none=>
  have r:c.tries.length=0:=by rw[Q8]at d;rw[d];rfl
  exact f (by unfold Ld;rw[d]) (ALW I c p a b (.inr r) oG)
 |some t=>
  by_cases g:c.tries.length-1<b;exact f (by unfold Ld;rw[d];simp only;rw[AW g]) (ALW I c p a b (.inl g) oG);by_cases j:t.AF<1\/c.AF.length<t.AF\/c.stack.length<t.CF;exact f (by unfold Ld;rw[d];simp only;rw[AN g,AW j]) (AYa I c p a b t h d oG j oG);have e:D4 c a b=(⟨IY (c.AF.take t.AF) (t.AF-1) t.at_,c.stack.take t.CF++[whole a],c.tries.take (c.tries.length-1)⟩,.Ic):=by unfold D4 Ld;rw[d];simp only;rw[AN g,AN j]
  rw[e];exact CK (AYb I c p a b t h d oG oG oG oG oG oG oG) kR λq J hle s=>gG<|dn [] ⟨q,J,rfl,hle,s⟩
def AFx(I ad n c xs)(hc:n<=16777216)(h:Ch I 5 (some ad) n xs):Fn 42 [.v (.slice (some ad) n c)] [] I (RS I 5 n 51 xs) none:=by refine Iv 8 func42 ntmps42 rfl rfl kR YZ λρ key w b=>gg [(4,.op I _ (.v (.bool false)) (Ka (a:=some ad) (n:=n) (c:=c) (.tmp 3) (.const (.slice none 0 0)) Lf))]<|act (need:=[(124,.Aa [] 51)]) [124] kR (JC A6 (n:=0) (cap:=0) (vs:=[]) (olds:=[]) (x:=.v (.slice (some ad) n c)) Jf kR sP rfl rfl sP (h.reads (c:=c)) (AZ _) (by unfold maxLen;omega) oG) ?_ (Oa (.inr ⟨_,_,_,rfl,rfl⟩)) ?_;rintro h ⟨cap,AC,_,_,_,rfl⟩ kb a;rw[AP.1 a];exact AP.2 rfl;rintro h' ⟨cap,AC,h1,d,e,rfl⟩;refine gG ?_;exact dn [140] ⟨cap,AC,oG,d,by rw[e];simp,sP⟩ (h:={r:=.s (key+0) 0 (0+n) cap,nb:=[.Aa (xs++AC) 51],J:=I})
def Oc{I g n i k t e q o v m}(s:m.live):∀h,TC I g n i e [(k,.gone)] o h->h.wf I g [(k,.Aa v q),(t,m)] []:=by rintro h ⟨p,f,_,_,_,rfl⟩;refine{r:=λx c=> ?_,u:=λw j=> ?_,n:=λb a x c=> ?_,l:=by simp,le:=AB.Fa _,d:=by simp};right;simp[SV.keys,AP]at c;subst c;have:=Gx (key:=x) (nb:=[AG.Aa (o++f) e]) (j:=0);simp[FD]at this;rw[this];rfl;rw[AP.1 j];refine⟨sP,λb a=> ?_,nA⟩;rcases BD.1 a with e|e;rw[(GY e).2];rfl;rw[(GY (AP.1 e)).2];exact s;rw[AP.1 a]at c;cases c
def AGa(I)(c:Ae)(p)(g vars:Nat)(d)(f e:Nat)(a:AH)(i:16<=c.AF.length):Fn 140 [.g (Cj c p),.v (.int .i64 g),.v (.int .i64 vars),.v (.slice d f e),.v (.int .u8 a.toNat)] [] I (A1 (.t [.g (Cj c p),.v (.bool false)]) I) none:=fo func140 (BZ rfl) λj h w b=>gg [(16,hT ((c.AF.length:Int)≥16) oG)]<|fi
def ACk{a l}(h:Rows Ey a l):l=a.flatMap Au:=Rows.flat.1 h
def N6{c:AA Val}:∀v∈c.flatMap Au,v.oneCell':=by intro v b;let⟨x,_,a⟩:=KG.1 b;simp[Au]at a;rcases a with rfl|rfl|rfl|rfl|rfl<;>rfl
def R7(a:AA Val):(a.flatMap Au).length=a.length*5:=by
 induction a with
 |nil=>rfl
 |cons x a b=>rw[I6,Bc,b,EW,FU];simp[Au];omega
abbrev ZP(I:AB)(u:Ae):Nat->AU->Prop:=Ft I (λq:CN=>.t [.g (Cj u q),.v (.bool true)]) (λJ q=>CH J u q)
def Gw(a:AA Val)(i:Nat):AA Val:=a++List.replicate i (whole 0)
def ATV(a i):(Gw a (i+1)).flatMap Au=(Gw a i).flatMap Au++Au (whole 0):=by unfold Gw;rw[List.replicate_succ',<-Dk,Mf];simp
def Jm(a:AA AE):Nat->AA AE
 |0=>a
 |i+1=>Jm a i++Au (whole 0)
def SA(a):∀i,Jm (a.flatMap Au) i=(Gw a i).flatMap Au
 |0=>by simp[Jm,Gw]
 |i+1=>by rw[ATV,<-SA a i];rfl
structure RL where
 i:Nat
 cap:Nat
 AC:AA AE
def AGU(I:AB)(c:Ae)(p:CN)(fn n m:Nat)(AL:AH)(al:AA AE)(x:RL):Hd where
 By:=[(1,.v (.int .i64 fn)),(4,.v (.int .u8 AL.toNat)),(5,.p 100 0),(10,.p 108 0),(11,.v (.bool false)),(12,.s 116 0 (n+x.i) x.cap),(22,.v (.int .i64 (m:Nat))),(23,.v (.int .i64 x.i))]
 Bu:=[(100,.cells (Cj c p) 48),(108,.cells [.v (.slice none 0 0),.v (.slice none 0 0),.v (.slice none 0 0)] 48),(116,.Aa (Jm al x.i++x.AC) 51)]
 J:=I
def AAq(I)(c:Ae)(p)(s vars:Nat)(d:List Val)(z)(y:Nat)(q)(e:UInt8)(h:CH I c p)(G:EE I d (some z) y q)(Z:c.AF.length<16)(M:d.length<=1000)(Q:c.stack.length<=1000000):
 Fn 140 [.g (Cj c p),.v (.int .i64 s),.v (.int .i64 vars),.v (.slice (some z) d.length y),.v (.int .u8 e.toNat)] [] I (ZP I {c with AF:=c.AF++[⟨s,0,c.stack.length,e,d++List.replicate (min vars 16) (whole 0)⟩]}) none:=by
 have n:=ACk G.rows;refine fo func140 (EK λ_=>rfl) λρ R w H=>gg [(16,hF ((c.AF.length:Int)≥16) oG)]<|Nl (AFx I z d.length y q oG G.sl) kR λg f A B O=>gg [(21,M1 I #[3,3] vars 0 vars oG),(22,ABL I #[3,3] vars 16 ((min vars 16:Nat):Int) oG)]<|loop (ι:=RL) (λx=>x.i<=min vars 16/\d.length+x.i<=x.cap/\x.cap<=maxLen/\x.AC.length=(x.cap-(d.length+x.i))*5) (λx=>min vars 16-x.i)
  (AGU I c p s d.length (min vars 16) e q) 300 [(116,164)] ⟨0,g,f⟩ ⟨Nat.zero_le _,A,B,by simpa using O⟩ kR kR ?_
 rintro⟨i,g,f⟩ ⟨N,q1,q2,q3⟩ again T;simp only at N q1 q2 q3;by_cases P:i<min vars 16;refine gg [(24,hT ((i:Int)<((min vars 16:Nat):Int)) oG)] ?_;refine act (need:=[(116,.Aa (Jm q i++f) 51),(324,.cells ((Au (whole 0)).map .v) 51)]) [116] kR (JC (I:=I) A6 (n:=d.length+i) (m:=1) (cap:=g) (k:=116) (vs:=Jm q i++f) (olds:=Jm q i) (news:=Au (whole 0)) (x:=.s 324 0 1 1) Jf kR sP ?_ ?_ (λv t=>N6 v (by rw[n,SA]at t;exact t)) (D2 (e:=51) sP rfl (by intro v t;simp[Au,whole]at t;rcases t with rfl|rfl|rfl|rfl|rfl<;>rfl)) q1 q2 oG) ?_ (Oc rfl) ?_;rw[List.length_append,n,SA,R7,q3];simp[Gw,List.length_append,List.length_replicate];rw[<-Nat.add_mul];congr 1;omega;rw[List.take_left'];rw[n,SA,R7];simp[Gw];rintro h ⟨g,f,_,_,_,rfl⟩ kb D;rw[List.mem_singleton.1 D];exact List.mem_singleton.2 rfl;rintro Y ⟨l,k,r1,S,U,rfl⟩;refine gg [(29,hW ((i:Int)+1) ((i+1:Nat):Int) oG oG)] ?_;exact back [(116,332)] (AGU I c p s d.length (min vars 16) e q ⟨i+1,l,k⟩) 300 kR kR kR λL=>again ⟨i+1,l,k⟩ ⟨by show i+1<=_;omega,by show d.length+(i+1)<=l;omega,S,by show k.length=(l-(d.length+(i+1)))*5;rw[U];congr 1⟩ (by show min vars 16-(i+1)<min vars 16-i;omega) L;have C:i=min vars 16:=oG;subst C;refine go func140 [(24,hF ((((min vars 16:Nat)):Int)<((min vars 16:Nat):Int)) oG)] 8 kR<|BW 116 I (vs:=Jm q (min vars 16)++f) (e:=51) kR λb J hle _ F=> ?_;rw[n,SA]at F;have E:(Gw d (min vars 16)).length=d.length+min vars 16:=by simp[Gw]
 refine gG<|Iq (Vu J p.fa c.AF.length p.fc p.fl s 0 c.stack.length e.toNat (some ⟨b,0,none⟩) (d.length+min vars 16) g h.f.cap oG (h.f.sl.up hle)) kR λa m K j V W X=>gG ?_;have u:EE K (Gw d (min vars 16)) (some ⟨b,0,none⟩) g ((Gw d (min vars 16)).flatMap Au):=Aj.JN (j _ _ F) (Rows.flat.2 rfl) G6 (λv t=>N6 v t) oG q2;have o:(c.AF++[(⟨s,0,c.stack.length,e,d++List.replicate (min vars 16) (whole 0)⟩:B7)]).length=c.AF.length+1:=sP;have hnew:CH K {c with AF:=c.AF++[⟨s,0,c.stack.length,e,d++List.replicate (min vars 16) (whole 0)⟩]} {p with fa:=a,fc:=m,fl:=p.fl++[.int .i64 s,.int .i64 0,.int .i64 c.stack.length,.int .u8 e.toNat,.slice (some ⟨b,0,none⟩) (d.length+min vars 16) g]}:=by refine⟨⟨by rw[o];exact X,by rw[o];exact V,W,?_⟩,(h.up (hle.trans j)).s,(h.up (hle.trans j)).t⟩;refine(h.f.rows.mono (MF (hle.trans j))).append (Rows.one ⟨some ⟨b,0,none⟩,g,_,?_,u⟩);show _=[_,_,_,_,Value.slice (some ⟨b,0,none⟩) (Gw d (min vars 16)).length g];rw[E];rfl
 refine dn [] ⟨_,K,?_,hle.trans j,hnew⟩ (h:={r:=.t [.g [.v (.slice a (c.AF.length+1) m),.v (.slice p.sa c.stack.length p.sc),.v (.slice p.ta c.tries.length p.tc)],.v (.bool true)],J:=K});simp[Cj]
def AYl(t:EQ):SV:=.g [.v (.int .i64 t.AF),.v (.int .i64 t.CF),.v (.int .i64 t.at_)]
abbrev IR(left:Nat):AG:=.cells [.v (.int .i64 left)] 3
abbrev Nc(I:AB)(b:AA (Nat×AG))(r:SV):Nat->AU->Prop:=λ_ h=>h= {r:=r,upd:=b,J:=I}
def VE{I c r}(m:∀k∈r.keys,k∈c.map (·.1))(j:∀g∈c,∀k∈g.2.keys,k∈c.map (·.1))(l:(c.map (·.1)).Nodup):CO (Nc I c r) c I:=by refine⟨?_⟩;rintro o h rfl;exact⟨⟨λk d=>.inl (m k d),λg e=>⟨BG.2 ⟨g,e,rfl⟩,λk d=>.inl (j g e k d)⟩,nA,sP,l⟩,AB.le_refl _⟩
section
variable {F:FuncId} {a:Func} {n:Nat} {I:AB} {w:World} {ρ:Nat->Nat} {A:List Nat} {R:Dl} {f:BU}
def Mp{c b g G r}(h:Fn G c b g (Nc g b r) none)(l:Qd b)(e)(d:Ci f n G e b []=some (Bz (AT e) c,b.map (λk=>some (k.2.Am (AT e))),g))(hnext:At F a n I w ρ A R (f.out (AT e) {r:=r,J:=g})):At F a n I w ρ A R f:=
 Ag (Fn.same h l) e [] d (λ_ h i k j=>by subst i;cases j) λh i=>by subst i;exact hnext
end
def AKA(I t left):Fn 347 [AYl t,.p 1 0] [(1,IR left)] I (Nc I [(1,IR left)] (.v (.bool (decide (left<t.AF))))) none:=by refine fo func347 (VE (by intro k c;cases c) (by simp[AG.keys,Ax,SV.keys]) sP) λρ d w b=> ?_;have e:Value.bool (decide ((t.AF:Int)>(left:Int)))=.bool (decide (left<t.AF)):=sP;exact gg [(7,.eq _ _ e)]<|dn [] rfl
def FQ(l:AA EQ):AA AE:=l.flatMap EA
def U6(l):(FQ l).length=l.length*3:=by
 induction l with
 |nil=>rfl
 |cons x l b=>unfold FQ at*;rw[I6,Bc,b,EW,FU];simp[EA];omega
def ALg{l i t}(h:l[i]? =some t)(b):((FQ l++b).drop (0+i*3)).take 3=EA t:=by have e:=(B6.1 h).1;have c:=(Rows.flat (f:=EA)).2 (rfl:l.flatMap EA=l.flatMap EA);have d:=Rows.get (k:=3) (λx l h=>by rw[h];rfl) c h;rw[D5,S0 (by rw[U6];omega),IJ (by rw[KF,U6];omega)];exact d
def O3(left:Nat):AA EQ->AK Nat:=List.findIdx? λt=>decide (left<t.AF)
def MH(left:Nat)(l:AA EQ):SV:=match O3 left l with|some i=>.v (.int .i64 i)|none=>.v (.int .i64 (-1))
def ARj(left l):(MH left l).keys=[]:=by unfold MH;split<;>rfl
abbrev NA(l:AA EQ)(b:AA AE)(left:Nat):AA (Nat×AG):=[(1,.Aa (FQ l++b) 118),(2,IR left)]
def AZL{I l b left r}(g:r.keys=[]):CO (Nc I (NA l b left) r) (NA l b left) I:=
 VE (by rw[g];intro k c;cases c) (by intro h d k c;rcases BD.1 d with e|e;(rw[e]at c;cases c);(rw[AP.1 e]at c;simp[AG.keys,Ax,SV.keys]at c)) sP
def AHj(I:AB)(l:AA EQ)(cap:Nat)(AC:AA AE)(left i:Nat):Hd where
 By:=[(0,.s 1 0 l.length cap),(1,.fn (.func 347) [] [.p 2 0]),(4,.v (.int .i64 0)),(7,.v (.int .i64 l.length)),(8,.v (.int .i64 i))]
 Bu:=NA l AC left
 J:=I
def ARs(I l c b left)(B:l.length<=1000000):Fn 385 [.s 1 0 l.length c,.fn (.func 347) [] [.p 2 0]] (NA l b left) I (Nc I (NA l b left) (MH left l)) none:=by
 refine fo func385 (AZL (ARj _ _)) λρ y w r=>gG<|loop (ι:=Nat) (λi=>i<=l.length/\∀j t,j<i->l[j]? =some t->t.AF<=left) (λi=>l.length-i) (AHj I l c b left) 300 [] 0 ⟨BS _,λj t h=>oG⟩ kR kR ?_;rintro i ⟨z,g⟩ again T;by_cases d:i<l.length;have m:l[i]? =some l[i]:=A9 d;generalize l[i]=t at m;refine gg [(9,hT ((i:Int)<(l.length:Int)) oG),
  (14,.hand (.indexAddr 46 (.tmp 12) (.tmp 13)) [(12,.s 1 0 l.length c),(13,.v (.int .i64 (Int.ofNat i)))] [] I (.p 1 (0+i*3)) (Hb A6 (L:=lay) (t:=46) (a:=12) (b:=13) (k:=1) (off:=0) (n:=l.length) (c:=c) (i:=i) (e:=118) (ty:=⟨3,_,_⟩) rfl rfl d)),
  (15,.hand (.load 118 (.tmp 14)) [(14,.p 1 (0+i*3))] [(1,.Aa (FQ l++b) 118)] I (.g ((EA t).map .v)) (AIe A6 (L:=lay) (t:=118) (a:=14) (k:=1) (off:=0+i*3) (ty:=⟨3,_,_⟩) (vs:=FQ l++b) (e:=118) rfl rfl (ALg m b) (by rw[Bc,U6];show 0+i*3+3<=_;omega)))] ?_
 refine Mp (AKA I t left) rfl [(1,2)] kR ?_;by_cases o:left<t.AF;rw[GL o];refine gG ?_;have e:MH left l=.v (.int .i64 i):=by
  have:O3 left l=some i:=by unfold O3;rw[Ku];refine⟨d,by rw[A9 d]at m;cases m;simpa using o,λj k=> ?_⟩;have:=g j _ k (A9 oG);simp;omega
  unfold MH;rw[this]
 rw[e];exact dn [] rfl;rw[IL o];exact gg [(18,hW ((i:Int)+1) ((i+1:Nat):Int) oG oG)]<|back [] (AHj I l c b left (i+1)) 300 kR kR kR λs=>again (i+1) ⟨d,λj u k q=>by by_cases e:j=i;subst e;rw[m]at q;cases q;omega;exact g j u oG q⟩ oG s
 have p:i=l.length:=oG;subst p;refine gg [(9,hF ((l.length:Int)<(l.length:Int)) oG)] ?_;have e:MH left l=.v (.int .i64 (-1)):=by
  have:O3 left l=none:=by unfold O3;rw[Yp];intro x v;obtain⟨j,k,rfl⟩:=S7.1 v;have:=g j _ k (A9 k);simp;omega
  unfold MH;rw[this]
 rw[e];exact dn [] rfl
def E8(left:Nat)(l:AA EQ):AA EQ:=l.filter λt=>decide (t.AF<=left)
structure ZD where
 i:Nat
 j:Nat
 vs:AA AE
def AAg(I:AB)(n cap left:Nat)(x:ZD):Hd where
 By:=[(0,.s 1 0 n cap),(1,.fn (.func 347) [] [.p 2 0]),(4,.v (.slice none 0 0)),(5,.v (.int .i64 x.i)),(6,.v (.int .i64 x.j))]
 Bu:=[(1,.Aa x.vs 118),(2,IR left)]
 J:=I
structure DlP(l:AA EQ)(left len:Nat)(x:ZD):Prop where
 lt:x.j<=l.length
 i:x.i=(E8 left (l.take x.j)).length
 len:x.vs.length=len
 pre:x.vs.take (x.i*3)=FQ (E8 left (l.take x.j))
 post:∀k t,x.j<=k->l[k]? =some t->(x.vs.drop (0+k*3)).take 3=EA t
def AHq{l:List EQ}{left j}{t:EQ}(h:l[j]? =some t):E8 left (l.take (j+1))=E8 left (l.take j)++(if t.AF<=left then[t]else[]):=by unfold E8;rw[List.take_add_one,h,List.filter_append];congr 1;by_cases e:t.AF<=left;simp[e];simp[e]
def ASP(left)(l:AA EQ)(j)(h:j<=l.length):(E8 left (l.take j)).length<=j:=by have:=VQ (λt:EQ=>decide (t.AF<=left)) (l.take j);unfold E8;rw[CX]at this;omega
def TN(I:AB)(l:AA EQ)(left c len:Nat):Nat->AU->Prop:=λ_ h=>∃b,(FQ (E8 left l)++b).length=len/\h= {r:=.s 1 0 (E8 left l).length c,upd:=[(1,.Aa (FQ (E8 left l)++b) 118),(2,IR left)],J:=I}
def AZU{I l d left g len}:CO (TN I l left g len) (NA l d left) I:=by refine⟨?_⟩;rintro o h ⟨j,_,rfl⟩;refine⟨⟨λk c=>.inl ?_,λp i=> ?_,nA,sP,sP⟩,AB.le_refl _⟩;simp[SV.keys]at c;subst c;simp;rcases BD.1 i with e|e;rw[e];exact⟨sP,nA⟩;rw[AP.1 e];exact⟨sP,λk c=>by simp[AG.keys,Ax,SV.keys]at c⟩
def APa(I l cap c left)(hl:l.length<=1000000)(hc:l.length<=cap)(hj:c.length=(cap-l.length)*3):Fn 346 [.s 1 0 l.length cap,.fn (.func 347) [] [.p 2 0]] (NA l c left) I (TN I l left cap (FQ l++c).length) none:=by
 have hlen:(FQ l++c).length=cap*3:=by rw[List.length_append,U6,hj,<-Nat.add_mul];congr 1;omega
 refine fo func346 AZU λρ V w ag=>gG ?_;have z:=ARs I l cap c left hl;cases O:O3 left l with
 |none=>
  rw[show MH left l=.v (.int .i64 (-1)) by unfold MH;rw[O]]at z;refine Mp z rfl [] kR<|gG ?_;have e:E8 left l=l:=by unfold E8;rw[List.filter_eq_self];intro t y;unfold O3 at O;rw[List.findIdx?_eq_none_iff]at O;have:=O t y;simp at this;exact decide_eq_true this
  have Y:TN I l left cap (FQ l++c).length V {r:=.s 1 0 l.length cap,upd:=[(1,.Aa (FQ l++c) 118),(2,IR left)],J:=I}:=⟨c,by rw[e],by rw[e]⟩;exact dn [] Y (h:={r:=.s 1 0 l.length cap,upd:=[(1,.Aa (FQ l++c) 118),(2,IR left)],J:=I})
 |some i0=>
  rw[show MH left l=.v (.int .i64 i0) by unfold MH;rw[O]]at z;have L:=O;unfold O3 at L;rw[List.findIdx?_eq_some_iff_getElem]at L;obtain⟨P,ae,ad⟩:=L;refine Mp z rfl [] kR<|gg [(12,hN (i0:Int) (-1) oG),(15,hW ((i0:Int)+1) ((i0+1:Nat):Int) oG oG)] ?_;have ac:E8 left (l.take i0)=l.take i0:=by unfold E8;rw[List.filter_eq_self];intro t y;obtain⟨j,hj,rfl⟩:=List.mem_iff_getElem.1 y;rw[List.length_take]at hj;have:=ad j oG;rw[List.getElem_take];simp at this;exact decide_eq_true this
  have S:E8 left (l.take (i0+1))=l.take i0:=by rw[AHq (List.getElem?_eq_getElem P),ac];simp at ae;rw[if_neg oG,List.append_nil]
  refine loop (ι:=ZD) (DlP l left (FQ l++c).length) (λx=>l.length-x.j) (AAg I l.length cap left) 300 [] ⟨i0,i0+1,FQ l++c⟩ ⟨P,?_,rfl,?_,λk t _ y=>ALg y c⟩ kR kR ?_;show i0=(E8 left (l.take (i0+1))).length;rw[S,List.length_take];omega;show(FQ l++c).take (i0*3)=FQ (E8 left (l.take (i0+1)));rw[S,List.take_append_of_le_length (by rw[U6];omega)];have h1:=(Rows.flat (f:=EA)).2 (rfl:l.flatMap EA=l.flatMap EA);have h2:=h1.take (k:=3) (λx l h=>by rw[h];rfl) i0;exact Rows.flat.1 h2;rintro⟨i,j,g⟩ ⟨Q,N,m,o,p⟩ again T;simp only at Q N m o p;have Z:i<=j:=by rw[N];exact ASP left l j Q
  by_cases B:j<l.length;have y:l[j]? =some l[j]:=List.getElem?_eq_getElem B;generalize l[j]=t at y;have q:=AHq (left:=left) y;refine gg [(19,hT ((j:Int)<(l.length:Int)) oG),
   (24,.hand (.indexAddr 46 (.tmp 22) (.tmp 23)) [(22,.s 1 0 l.length cap),(23,.v (.int .i64 (Int.ofNat j)))] [] I (.p 1 (0+j*3)) (Hb A6 (L:=lay) (t:=46) (a:=22) (b:=23) (k:=1) (off:=0) (n:=l.length) (c:=cap) (i:=j) (e:=118) (ty:=⟨3,_,_⟩) rfl rfl B)),
   (25,.hand (.load 118 (.tmp 24)) [(24,.p 1 (0+j*3))] [(1,.Aa g 118)] I (.g ((EA t).map .v)) (AIe A6 (L:=lay) (t:=118) (a:=24) (k:=1) (off:=0+j*3) (ty:=⟨3,_,_⟩) (vs:=g) (e:=118) rfl rfl (p j t (Nat.le_refl _) y) (by rw[m,hlen];show 0+j*3+3<=_;omega)))] ?_
  refine Mp (AKA I t left) rfl [(1,2)] kR ?_;by_cases M:left<t.AF;rw[decide_eq_true M];rw[if_neg oG,List.append_nil]at q;refine gg [(21,hW ((j:Int)+1) ((j+1:Nat):Int) oG oG)] ?_;exact back [] (AAg I l.length cap left ⟨i,j+1,g⟩) 300 kR kR kR λX=>again ⟨i,j+1,g⟩ ⟨B,by show i=_;rw[q];exact N,m,by show g.take (i*3)=_;rw[q];exact o,λk t G y=>p k t (by have:j+1<=k:=G;omega) y⟩ (by show l.length-(j+1)<l.length-j;omega) X;rw[decide_eq_false M];rw[if_pos oG]at q;refine gg [(33,.hand (.indexAddr 46 (.tmp 30) (.tmp 31)) [(30,.s 1 0 l.length cap),(31,.v (.int .i64 (Int.ofNat i)))] [] I (.p 1 (0+i*3)) (Hb A6 (L:=lay) (t:=46) (a:=30) (b:=31) (k:=1) (off:=0) (n:=l.length) (c:=cap) (i:=i) (e:=118) (ty:=⟨3,_,_⟩) rfl rfl oG))] ?_;refine Bm (k:=1) (off:=0+i*3) (t:=118) (ad:=.tmp 33) (x:=.tmp 32) (e:=118) (vs:=g) (cs:=EA t) (ty:=⟨3,_,_⟩) (I':=I) kR kR kR rfl rfl (by rw[m,hlen];show 0+i*3+3<=_;omega) (by intro v hv;simp[EA]at hv;rcases hv with rfl|rfl|rfl<;>rfl) kR ?_;refine gg [(35,hW ((i:Int)+1) ((i+1:Nat):Int) oG oG),(21,hW ((j:Int)+1) ((j+1:Nat):Int) oG oG)] ?_;have K:(splice g (0+i*3) (EA t)).length=g.length:=YA (by rw[m,hlen];show 0+i*3+3<=_;omega);refine back [] (AAg I l.length cap left ⟨i+1,j+1,splice g (0+i*3) (EA t)⟩) 300 kR kR kR λX=>again ⟨i+1,j+1,splice g (0+i*3) (EA t)⟩ ⟨B,?_,by show(splice g (0+i*3) (EA t)).length=_;rw[K,m],?_,λk t' G af=> ?_⟩ (by show l.length-(j+1)<l.length-j;omega) X;show i+1=_;rw[q,List.length_append,<-N];rfl;show(splice g (0+i*3) (EA t)).take ((i+1)*3)=_
  rw[q];unfold FQ at o⊢;rw[List.flatMap_append,<-o,Nat.zero_add];unfold splice;have W:(g.take (i*3)).length=i*3:=by rw[List.length_take,m,hlen];omega
  rw[List.append_assoc,show(i+1)*3=(g.take (i*3)).length+3 by rw[W,Nat.add_mul],List.take_length_add_append,List.take_append_of_le_length (by show 3<=3;omega)];rfl;show((splice g (0+i*3) (EA t)).drop (0+k*3)).take 3=_;have ah:j+1<=k:=G;have h4:=p k t' oG af;rw[<-h4];unfold splice;have W:(g.take (0+i*3)).length=i*3:=by rw[List.length_take,m,hlen];omega
  rw[List.drop_append,List.drop_eq_nil_of_le (by rw[List.length_append,W];show _<=0+k*3;simp[EA];omega),List.nil_append,List.drop_drop];congr 2;rw[List.length_append,W];simp[EA];omega;have ab:j=l.length:=oG;subst ab;rw[List.take_length]at N o;have aa:i<=cap:=oG;refine gg [(19,hF ((l.length:Int)<(l.length:Int)) oG),
   (38,.hand (.slice 46 (.tmp 36) (some (.tmp 37)) none none) [(36,.s 1 0 l.length cap),(37,.v (.int .i64 (Int.ofNat i)))] [] I (.s 1 (if cap=i then 0 else i*3) (l.length-i) (cap-i)) (AId A6 (L:=lay) (t:=46) (a:=36) (b:=37) (k:=1) (n:=l.length) (c:=cap) (i:=i) (e:=118) (ty:=⟨3,_,_⟩) rfl rfl Z))] ?_
  have D:(if cap=i then 0 else i*3)+(l.length-i)*3<=g.length:=by rw[m,hlen];split<;>omega
  refine act (need:=[(1,.Aa g 118)]) [1] kR (AHS (I:=I) A6 (L:=lay) (t:=46) (k:=1) (off:=if cap=i then 0 else i*3) (n:=l.length-i) (c:=cap-i) (x:=.tmp 38) (vs:=g) (e:=118) (e':=118) (ty:=⟨3,_,_⟩) kR kR rfl rfl (by decide+kernel) rfl dC D (List.mem_singleton.2 rfl)) ?_ ?_ ?_;rintro h ⟨C,_,_,rfl⟩ kb H;rw[List.mem_singleton.1 H];exact List.mem_singleton.2 rfl;rintro h ⟨C,_,_,rfl⟩;refine{r:=nA,u:=λkb H=> ?_,n:=nA,l:=by simp,le:=AB.Fa _,d:=by simp};rw[List.mem_singleton.1 H];exact⟨List.mem_singleton.2 rfl,λb M=>by rw[(Prod.mk.inj (List.mem_singleton.1 M)).2];rfl,nA⟩;rintro h ⟨C,E,_,rfl⟩;refine gg [(41,.hand (.slice 46 (.tmp 39) none (some (.tmp 40)) none) [(39,.s 1 0 l.length cap),(40,.v (.int .i64 (Int.ofNat i)))] [] I (.s 1 0 i cap) (AIg A6 (L:=lay) (t:=46) (a:=39) (b:=40) (k:=1) (n:=l.length) (c:=cap) (i:=i) (e:=118) (ty:=⟨3,_,_⟩) rfl rfl aa))] ?_;have s:(splice g (if cap=i then 0 else i*3) C).take (i*3)=FQ (E8 left l):=by rw[<-o];by_cases e:cap=i;have:l.length-i=0:=oG;rw[this]at E;have U:C=[]:=List.eq_nil_of_length_eq_zero (by rw[E];simp);subst U;unfold splice;simp;rw[if_neg e];unfold splice;rw[List.append_assoc,List.take_append_of_le_length (by rw[List.length_take,m,hlen];omega),List.take_take,Nat.min_self]
  have K:(splice g (if cap=i then 0 else i*3) C).length=g.length:=YA (by rw[E];exact D);have Y:TN I l left cap (FQ l++c).length V {r:=.s 1 0 i cap,upd:=[(1,.Aa (splice g (if cap=i then 0 else i*3) C) 118),(2,IR left)],J:=I}:=by refine⟨(splice g (if cap=i then 0 else i*3) C).drop (i*3),?_,?_⟩;rw[<-s,List.take_append_drop,K,m];rw[<-s,List.take_append_drop,N]
  exact dn [] Y (h:={r:=.s 1 0 i cap,upd:=[(1,.Aa (splice g (if cap=i then 0 else i*3) C) 118),(2,IR left)],J:=I})
def AOy(I ad n c xs)(hc:n<=16777216)(h:Ch I 3 (some ad) n xs):Fn 43 [.v (.slice (some ad) n c)] [] I (RS I 3 n 118 xs) none:=by refine Iv 8 func43 ntmps43 rfl rfl kR YZ λρ key w d=>gg [(4,.op I _ (.v (.bool false)) (Ka (a:=some ad) (n:=n) (c:=c) (.tmp 3) (.const (.slice none 0 0)) Q0))]<|act (need:=[(124,.Aa [] 118)]) [124] kR (JC A6 (n:=0) (cap:=0) (vs:=[]) (olds:=[]) (x:=.v (.slice (some ad) n c)) Zq kR sP rfl rfl sP (h.reads (c:=c)) (AZ _) (by unfold maxLen;omega) oG) ?_ (Oa (.inr ⟨_,_,_,rfl,rfl⟩)) ?_;rintro h ⟨cap,AC,_,_,_,rfl⟩ kb b;rw[AP.1 b];exact AP.2 rfl;rintro h' ⟨cap,AC,h1,e,g,rfl⟩;refine gG ?_;exact dn [140] ⟨cap,AC,oG,e,by rw[g];simp,sP⟩ (h:={r:=.s (key+0) 0 (0+n) cap,nb:=[.Aa (xs++AC) 118],J:=I})
def AOx(I c):Fn 43 [.v (.slice none 0 c)] [] I (A1 (.v (.slice none 0 0)) I) none:=Iv 8 func43 ntmps43 rfl rfl kR (BZ rfl) λρ d w b=>gg [(4,.op I _ (.v (.bool true)) (Ka (a:=none) (n:=0) (c:=c) (.tmp 3) (.const (.slice none 0 0)) Q0))]<|fi
def ASE(I:AB)(left:Nat)(_:Unit):Hd where
 By:=[(4,.v (.int .i64 0)),(7,.v (.int .i64 0)),(8,.v (.int .i64 0))]
 Bu:=[(2,IR left)]
 J:=I
def AL8{I left r}(d:r.keys=[]):CO (Nc I [(2,IR left)] r) [(2,IR left)] I:=
 VE (by rw[d];intro k b;cases b) (by intro e c k b;rw[AP.1 c]at b;simp[AG.keys,Ax,SV.keys]at b) sP
def ARr(I)(left:Nat):Fn 385 [.v (.slice none 0 0),.fn (.func 347) [] [.p 2 0]] [(2,IR left)] I (Nc I [(2,IR left)] (.v (.int .i64 (-1)))) none:=by refine fo func385 (AL8 rfl) λρ c w b=>gG<|loop (ι:=Unit) (λ_=>True) (λ_=>0) (ASE I left) 300 [] () A0 kR kR ?_;rintro _ _ _ T;exact gG<|dn [] rfl
def APZ(I left):Fn 346 [.v (.slice none 0 0),.fn (.func 347) [] [.p 2 0]] [(2,IR left)] I (Nc I [(2,IR left)] (.v (.slice none 0 0))) none:=fo func346 (AL8 rfl) λρ c w b=>gG<|Mp (ARr I left) rfl [] kR<|gG<|dn [] rfl
section
variable {F:FuncId} {a:Func} {n:Nat} {I:AB} {w:World} {ρ:Nat->Nat} {A:List Nat} {R:Dl} {f:BU}
def AOR{k l c left d len}(i j)(h:Fn 346 [.s 1 0 l.length d,.fn (.func 347) [] [.p 2 0]] (NA l c left) k (TN k l left d len) none)(g:Ci f n 346 [(1,i),(2,j)] (NA l c left) [1,2]=some (Bz (AT [(1,i),(2,j)]) [.s 1 0 l.length d,.fn (.func 347) [] [.p 2 0]],(NA l c left).map (λp=>some (p.2.Am (AT [(1,i),(2,j)]))),k))
 (hnext:∀b,(FQ (E8 left l)++b).length=len->At F a n I w ρ A R (f.out (AT [(1,i),(2,j)]) {r:=.s 1 0 (E8 left l).length d,upd:=[(1,.Aa (FQ (E8 left l)++b) 118),(2,IR left)],J:=k})):At F a n I w ρ A R f:=
 Ag h [(1,i),(2,j)] [1,2] g (λ_ h m p o=>by obtain⟨b,_,rfl⟩:=m;rcases BD.1 o with e|e;rw[e];simp;rw[AP.1 e];simp) λh m=>by obtain⟨b,q,rfl⟩:=m;exact hnext b q
end
abbrev AM9(I:AB)(c:Ae)(v:Val):Nat->AU->Prop:=Ft I (λq:CN=>.t [.g (Cj (Di c) q),Cn v,.v (.bool true)]) (λJ q=>CH J (Di c) q)
def AWQ(I c p f)(V:c.top=some f)(C:Fg c 1)(S:Jd c)(h:CH I c p):Fn 286 [.g (Cj c p)] [] I (AM9 I c ((CJ c 1).getD 0 AO)) none:=by
 have l1:=S.f;have l2:=S.s;have l3:=S.t;have D:=Xt I c p 1 f V C oG oG h;let⟨b,d,arr,e,fr,va,vc,Q,z,hI,ah,af,s⟩:=Rs h V;let⟨fa,fc,fl,N,sc,sl,ta,O,tl⟩:=p;simp only at z;subst z;have hb:KV c=f.base:=by unfold KV;rw[V]
 have j:=C;simp[Fg,Bt,D1]at j;rw[hb]at j;let⟨k1,k2⟩:=j;have ag:(CJ c 1).length=1:=MV oG;obtain⟨v,P⟩:∃v,(CJ c 1)[0]? =some v:=⟨_,A9 oG⟩;have aa:(CJ c 1).getD 0 AO=v:=by rw[Cz,P];rfl
 rw[aa];refine fo func286 (EK λ_=>rfl) λρ ai w ac=>gG<|CK D kR λq J hle hq=> ?_;let⟨X,E⟩:=hq;let⟨qp,qa,qc,ql⟩:=q;simp only at X E;obtain⟨b2,i,ab,e2,ad,rfl,u,Z⟩:=VA E oG;have L:=Z 0 v P;refine gg [(21,hN (c.AF.length:Int) 0 oG),(28,hW ((c.AF.length:Int)-1) ((c.AF.length-1:Nat):Int) oG oG),(34,BM J Ol b d c.AF.length fc (c.AF.length-1) oG),(36,C9 J Dj rfl (d+(c.AF.length-1)*5+2) (.int .i64 f.base) (hle _ _ hI) (s 2 _ rfl))]<|call (Tt J N c.stack.length sc f.base h.s.cap) kR<|gG<|call (WO J (some ⟨b,d,none⟩) c.AF.length fc (c.AF.length-1) h.f.cap) kR<|gG ?_;have k:E8 (c.AF.length-1) c.tries=(Di c).tries:=rfl;have B:=(h.up hle).f.take (HW J) (c.AF.length-1);have G:=(h.up hle).s.take G6 f.base;have l:(Di c).AF=c.AF.take (c.AF.length-1):=rfl;have hrs:(Di c).stack=c.stack.take f.base:=by simp[Di,hb]
 cases ta with
 |none=>
  have h0:c.tries.length=0:=h.t.sl.UZ;have m:c.tries=[]:=Hm h0;have e0:(SV.v (Value.slice none c.tries.length O))=.v (.slice none 0 O):=by rw[h0]
  have U:Fn 43 [.v (.slice none c.tries.length O)] [] J (A1 (.v (.slice none 0 0)) J) none:=by rw[e0];exact AOx J O
  refine call U kR<|gG<|Mp (APZ J (c.AF.length-1)) rfl [(2,308)] kR<|gg [(52,BM J E5 b2 i 1 qc 0 oG),(53,DR J MX (i+0*5) (Au v) rfl u L)] ?_;have hnew:CH J (Di c) ⟨some ⟨b,d,none⟩,min (c.AF.length-1) c.AF.length,fl.take (min (c.AF.length-1) c.AF.length*5),N,min f.base c.stack.length,sl.take (min f.base c.stack.length*5),none,0,[]⟩:=by refine⟨by rw[l];exact B,by rw[hrs];exact G,?_⟩;rw[<-k,m];exact Aj.empty
  refine dn [] ⟨_,J,?_,hle,hnew⟩ (h:={r:=.t [.g [.v (.slice (some ⟨b,d,none⟩) (min (c.AF.length-1) c.AF.length) (min (c.AF.length-1) c.AF.length)),.v (.slice N (min f.base c.stack.length) (min f.base c.stack.length)),.v (.slice none 0 0)],Cn v,.v (.bool true)],J:=J});simp[Cj,l,hrs,<-k,m,E8]
 |some ta=>
  have Y:=h.t.rows;have H:tl=FQ c.tries:=Rows.flat.1 Y;refine Nl (AOy J ta c.tries.length O tl oG (h.up hle).t.sl) kR λo M y T hj=> ?_;rw[H];refine gG<|AOR 476 308 (APa J c.tries o M (c.AF.length-1) oG y hj) kR λt ae=>gg [(52,BM J E5 b2 i 1 qc 0 oG),(53,DR J MX (i+0*5) (Au v) rfl u L)]<|BW 476 J (vs:=FQ (E8 (c.AF.length-1) c.tries)++t) (e:=118) kR λb3 K g _ hK=> ?_;have W:(E8 (c.AF.length-1) c.tries).length<=c.tries.length:=VQ _ _;have hnew:CH K (Di c) ⟨some ⟨b,d,none⟩,min (c.AF.length-1) c.AF.length,fl.take (min (c.AF.length-1) c.AF.length*5),N,min f.base c.stack.length,sl.take (min f.base c.stack.length*5),some ⟨b3,0,none⟩,o,FQ (E8 (c.AF.length-1) c.tries)⟩:=by refine⟨by rw[l];exact B.up g (MF g),by rw[hrs];exact G.up g λ_ _ h=>h,?_⟩;rw[<-k];refine Aj.JN hK (Rows.flat.2 rfl) Sl (λv P=> ?_) (CB W y) T;let⟨x,_,hx⟩:=KG.1 P;simp[EA]at hx;rcases hx with rfl|rfl|rfl<;>rfl
  refine dn [] ⟨_,K,?_,hle.trans g,hnew⟩ (h:={r:=.t [.g [.v (.slice (some ⟨b,d,none⟩) (min (c.AF.length-1) c.AF.length) (min (c.AF.length-1) c.AF.length)),.v (.slice N (min f.base c.stack.length) (min f.base c.stack.length)),.v (.slice (some ⟨b3,0,none⟩) (E8 (c.AF.length-1) c.tries).length o)],Cn v,.v (.bool true)],J:=K});simp[Cj,l,hrs,<-k]
structure EY(I:AB)(c:Ae)(cap:Nat)(fl AC:AA AE):Prop where
 rows:Rows (E7 I) c.AF fl
 hc:c.AF.length<=cap
 hm:cap<=maxLen
 hj:AC.length=(cap-c.AF.length)*5
def EY.up{I J c a fl AC}(h:EY I c a fl AC)(hle:I.le J):EY J c a fl AC:=⟨h.rows.mono (MF hle),h.hc,h.hm,h.hj⟩
def EY.len{I c b fl a}(h:EY I c b fl a):fl.length=c.AF.length*5:=h.rows.len (HW I)
theorem EY.top{I c k fl b}(h:EY I c k fl b){f}(n:c.top=some f):0<c.AF.length/\∃g i a,EE I f.vars g i a/\∀j v,(Wi f g i)[j]? =some v->(fl++b)[0+(c.AF.length-1)*5+j]? =some v:=by have l:=QV (l:=c.AF) (x:=f) n;have o:=(B6.1 l).1;let⟨g,i,a,e,q⟩:=h.rows.get (HW I) l;refine⟨oG,g,i,a,q,λj v d=> ?_⟩;have m:((fl.drop ((c.AF.length-1)*5)).take 5)=Wi f g i:=e;rw[<-m,GX]at d;split at d;rw[II]at d;rw[D5,FT (B6.1 d).1];exact d;cases d
def EY.Fi{I J c a fl AC}(h:EY I c a fl AC){f}(e:c.top=some f)(hle:I.le J){j cs g}(i:∀b,E7 J f b->E7 J (g f) (splice b j cs))(k:j+cs.length<=5):
 EY J (Da c g) a (splice fl ((c.AF.length-1)*5+j) cs) AC/\splice (fl++AC) (0+(c.AF.length-1)*5+j) cs=splice fl ((c.AF.length-1)*5+j) cs++AC:=by
 have d:=QV (l:=c.AF) (x:=f) e;have l:=(B6.1 d).1;have m:=h.len;refine⟨⟨?_,?_,h.hm,?_⟩,?_⟩;show Rows (E7 J) (c.AF.modify (c.AF.length-1) g) _;rw[modify_eq d];exact(h.rows.mono (MF hle)).upd (HW J) (λ_ _ h=>h) d i k;simpa[Da]using h.hc;simpa[Da]using h.hj;rw[D5,Se oG]
theorem EY.BW{J c d b fl a}(h:EY J c d fl a)(e:J b=some (.cells (fl++a).toArray 65 (0,0))):Aj J (E7 J) 5 c.AF (some ⟨b,0,none⟩) d fl:=
 Aj.JN e h.rows (HW J) (Xg h.rows) h.hc h.hm
abbrev BV.JO(m:BV)(k a:Nat):AG:=.cells (m.row (.s k 0 m.c.AF.length a)) 282
def TM(I:AB)(m:BV)(c:Ae)(n:Nat)(f:AA Val):Nat->AU->Prop:=λd h=>∃(J:AB)(q:CN)(ta:AK Ac)(tc:Nat)(e:AA AE)(b:Nat)(fl a:AA AE),I.le J/\Aj J Ey 5 c.stack q.sa q.sc q.sl/\Aj J Pb 3 c.tries q.ta q.tc q.tl/\EY J c b fl a/\EE J f ta tc e/\
 h= {r:=.t [],upd:=[(1,({m with c:=c,p:=q,ta:=ta,tn:=n,tc:=tc}:BV).JO d b)],nb:=[.Aa (fl++a) 65],J:=J}
def AZS{I m c n l b}:CO (TM I m c n l) [(1,b)] I:=by
 refine⟨?_⟩;rintro e h ⟨J,q,p,r,s,g,fl,d,hle,_,_,_,_,rfl⟩;have j:(Bf e [AG.Aa (fl++d) 65] e).isSome:=by have:=Gx (key:=e) (nb:=[AG.Aa (fl++d) 65]) (j:=0);simp[FD]at this;rw[this];rfl
 refine⟨⟨nA,λo f=> ?_,(λb i k a=>by rw[AP.1 i]at a;cases a),sP,sP⟩,hle⟩;rw[AP.1 f];refine⟨AP.2 rfl,λk a=>.inr ?_⟩;simp[AG.keys,BV.row,Ax,SV.keys]at a;rw[a];exact j
def ANv(I)(ae:DK I)(d g m f o)(hi:D3 I d g)(H:m.ia=g.ka)(L:m.iN=d.consts.length)(K:m.ic=g.kc)(M:m.ja=g.ua)(O:m.jn=d.Ad.length)(N:m.jc=g.uc)(ho:m.oc=o.code)(R:m.oa=o.a)
 (G:m.was.top=some f) (af:f.pc<=100000) (ab:Fn 200 [.g (De d g),N7 o] [] I (A1 (.v (.int .i64 (Bi d o))) I) none) (t:Fg m.was (Bi d o)) (V:Jd m.was) (h:CH I m.was m.wp):
 Fn 152 [.p 1 0] [(1,m.blk)] I (TM I m (ER d m.was o) (Bi d o) (CJ m.was (Bi d o))) none:=by
 have l1:=V.f;have l2:=V.s;let⟨ia,iN,ic,ja,jn,jc,was,wp,c0,p0,oc,oa,ta,tn,tc,fr,tr,ok,ov,xc,xa,wrong,code⟩:=m;simp only at H L K M O N ho R G t V h l1 l2;subst H L K M O N ho R;refine fo func152 AZS λρ l w P=>gG<|call ab kR<|gG<|CK (Xt I was wp (Bi d o) f G t oG oG h) kR λq J hle hq=> ?_;let⟨j,T⟩:=hq;have Q:0<was.AF.length:=VR (by have:f∈was.AF:=Yx G;exact this)
 let⟨⟨ah,s,a,z,A,B,C,D,E⟩,qa,qc,ql⟩:=q;simp only at j T;let⟨b,n,arr,e,ad,h1,h2,h3⟩:=j.f.sl.open_ Q;simp only at h1;subst h1;refine gG<|Nl (WI J ⟨b,n,none⟩ was.AF.length s a oG j.f.sl) kR λi AC W X hj=> ?_;have u:EY J (Ev was (Bi d o)) i a AC:=⟨j.f.rows,W,X,hj⟩;refine gG<|Mp (YK J ({ia:=g.ka,iN:=d.consts.length,ic:=g.kc,ja:=g.ua,jn:=d.Ad.length,jc:=g.uc,was:=was,wp:=wp,c:=Ev was (Bi d o),p:=⟨some ⟨b,n,none⟩,s,a,z,A,B,C,D,E⟩,oc:=o.code,oa:=o.a,ta:=qa,tn:=Bi d o,tc:=qc,fr:=fr,tr:=tr,ok:=ok,ov:=ov,xc:=xc,xa:=xa,wrong:=wrong,code:=code}:BV) i (a++AC) Q (by show was.AF.length<=_;omega)) rfl [(1,1),(2,356)] kR ?_;let⟨_,va,vc,U,ag,x⟩:=u.top (f:=f) G;have k:=x 1 _ rfl;refine gg [(40,.hand (.load 3 (.tmp 39)) [(39,.p 356 (0+(was.AF.length-1)*5+1))] [(356,.Aa (a++AC) 65)] J (.v (.int .i64 f.pc)) (MM A6 (L:=lay) (t:=3) (a:=39) (k:=356) (off:=0+(was.AF.length-1)*5+1) (ty:=⟨1,_,_⟩) (vs:=a++AC) (e:=65) rfl rfl k)),(41,hW ((f.pc:Int)+1) ((f.pc+1:Nat):Int) oG oG)] ?_;have Y:=u.len;have ac:a.length=was.AF.length*5:=Y;refine Bm (k:=356) (off:=0+(was.AF.length-1)*5+1) (t:=3) (ad:=.tmp 43) (x:=.tmp 41) (e:=65) (vs:=a++AC) (cs:=[.int .i64 ((f.pc+1:Nat):Int)]) (ty:=⟨1,_,_⟩) (I':=J) kR kR kR rfl rfl (by simp[Bc,NU];omega) (by intro v hv;rw[AP.1 hv];rfl) kR ?_;refine gG ?_;let⟨Z,aa⟩:=u.Fi (f:=f) G (AB.le_refl J) (j:=1) (cs:=[.int .i64 ((f.pc+1:Nat):Int)]) (g:=λf=>{f with pc:=f.pc+1}) Wj sP
 have hs:splice a ((was.AF.length-1)*5+1) [.int .i64 ((f.pc+1:Nat):Int)]++AC=splice (a++AC) (0+(was.AF.length-1)*5+1) [.int .i64 ((f.pc+1:Nat):Int)]:=aa.symm;have hlen:(ER d was o).AF.length=was.AF.length:=by simp[ER,Da,Ev]
 generalize y:({ia:=g.ka,iN:=d.consts.length,ic:=g.kc,ja:=g.ua,jn:=d.Ad.length,jc:=g.uc,was:=was,wp:=wp,c:=ER d was o,p:=⟨some ⟨b,n,none⟩,s,a,z,A,B,C,D,E⟩,oc:=o.code,oa:=o.a,ta:=qa,tn:=Bi d o,tc:=qc,fr:=fr,tr:=tr,ok:=ok,ov:=ov,xc:=xc,xa:=xa,wrong:=wrong,code:=code}:BV)=m';have S:m'.JO l i=.cells (m'.row (.s l 0 was.AF.length i)) 282:=by unfold BV.JO;rw[<-y];simp[hlen]
 have F:TM I (⟨g.ka,d.consts.length,g.kc,g.ua,d.Ad.length,g.uc,was,wp,c0,p0,o.code,o.a,ta,tn,tc,fr,tr,ok,ov,xc,xa,wrong,code⟩:BV) (ER d was o) (Bi d o) (CJ was (Bi d o)) l {r:=.t [],upd:=[(1,.cells (m'.row (.s l 0 was.AF.length i)) 282)],nb:=[.Aa (splice (a++AC) (0+(was.AF.length-1)*5+1) [.int .i64 ((f.pc+1:Nat):Int)]) 65],J:=J}:=
  ⟨J,⟨some ⟨b,n,none⟩,s,a,z,A,B,C,D,E⟩,qa,qc,ql,i,_,AC,hle,j.s,j.t,Z,T,by rw[<-hs,<-S,<-y];rfl⟩
 subst y;exact done func152 P [356] kR F
def Mm(I:AB)(m:BV)(b:Nat)(d:Ae):Nat->AU->Prop:=λ_ h=>∃(J:AB)(fl a:AA AE),I.le J/\EY J d b fl a/\h= {r:=.t [],upd:=[(1,({m with c:=d}:BV).JO 2 b),(2,.Aa (fl++a) 65)],J:=J}
def YV{I m c g b l}:CO (Mm I m c g) [(1,b),(2,.Aa l 65)] I:=by refine⟨?_⟩;rintro j h ⟨J,fl,f,hle,_,rfl⟩;refine⟨⟨nA,λn d=> ?_,nA,sP,sP⟩,hle⟩;rcases BD.1 d with e|e;rw[e];exact⟨sP,λk a=>by simp[AG.keys,BV.row,Ax,SV.keys]at a;subst a;simp⟩;rw[AP.1 e];exact⟨sP,nA⟩
def ACK(c g):(Da c g).AF.length=c.AF.length:=by simp[Da]
def AHn(I m b fl a f)(l:m.c.top=some f)(hF:EY I m.c b fl a)(i:m.c.AF.length<=1000000):Fn 210 [.p 1 0] (IU m b (fl++a)) I (Mm I m b (Da m.c λf=>{f with pc:=m.oa})) none:=by have u:=hF.len;let⟨j,_⟩:=hF.top l;let⟨n,o⟩:=hF.Fi l (AB.le_refl I) (j:=1) (cs:=[.int .i64 m.oa]) (g:=λf=>{f with pc:=m.oa}) Wj sP;have h:=ASL I m b (fl++a) j i (by rw[Bc];omega);rw[o]at h;refine⟨⟨?_,λs k w d hN p g c=>(h.out.2 s k w d hN p g c).mono ?_⟩,h.JF⟩;exact(YV (m:=m)).Cg.out;rintro e v ⟨t,q,rfl,A,r⟩;refine⟨_,q,⟨I,_,a,AB.le_refl _,n,?_⟩,A,r⟩;unfold BV.JO;simp[ACK];rfl
def AXE{I}(x y)(a:Nat)(ha:a<=1000000):∀w,Db w I->∃b,((do eqGuard .and 3 x y (.int .i64 a) (.int .i64 255);binOp .and 3 (.int .i64 a) (.int .i64 255):Sem AE)).run prog w=.ok (den id (.v (.int .i64 ((a%256:Nat):Int)))) b/\BB w b:=λw _=>
 ⟨w,by
   have h1:(BitVec.ofInt 64 (a:Int)&&&BitVec.ofInt 64 255).toNat=a%256:=by
    rw[BitVec.toNat_and];have c:(BitVec.ofInt 64 (a:Int)).toNat=a:=by rw[BitVec.toNat_ofInt];simp;omega
    have d:(BitVec.ofInt 64 255).toNat=255:=dC;rw[c,d];exact AMn a 8
   have e:IntKind.i64.wrap ((BitVec.ofInt 64 (a:Int)&&&BitVec.ofInt 64 255).toNat:Int)=((a%256:Nat):Int):=by rw[h1];exact ADa oG
   simp only[eqGuard_and,binOp_and,Op.intBits,Sem.run_bind,Sem.run_pure,Result.andThen_ok,den];exact El (λz=>Result.ok (Value.int .i64 z) w) e,BB.refl w⟩
def AXF{I}(x y)(a b:AH):∀w,Db w I->∃c,((do eqGuard .and 5 x y (.int .u8 a.toNat) (.int .u8 b.toNat);binOp .and 5 (.int .u8 a.toNat) (.int .u8 b.toNat):Sem AE)).run prog w=.ok (den id (.v (.int .u8 ((a&&&b).toNat)))) c/\BB w c:=λw _=>
 ⟨w,by
   have h:=Z5 a b;simp only[eqGuard_and,binOp_and,Op.intBits,Sem.run_bind,Sem.run_pure,Result.andThen_ok,den];exact El (λz=>Result.ok (Value.int .u8 z) w) h,BB.refl w⟩
def ATH(I)(m:BV)(b fl a)(f:B7)(o:m.c.top=some f)(hF:EY I m.c b fl a)(j:m.c.AF.length<=1000000)(l:m.oa<=1000000):Fn 221 [.p 1 0] (IU m b (fl++a)) I (Mm I m b (Da m.c λf=>{f with AL:=f.AL&&&UInt8.ofNat (m.oa%256)})) none:=by
 have x:=hF.len;let⟨k,y,z,h,u,d⟩:=hF.top o;let⟨q,i⟩:=hF.Fi o (AB.le_refl I) (j:=3) (cs:=[.int .u8 (f.AL&&&UInt8.ofNat (m.oa%256)).toNat]) (g:=λf=>{f with AL:=f.AL&&&UInt8.ofNat (m.oa%256)}) AQx sP;have c:=d 3 _ rfl;have e:(UInt8.ofNat (m.oa%256)).toNat=m.oa%256:=by rw[UInt8.toNat_ofNat'];omega
 refine fo func221 YV λA n w g=> ?_;have p:Value.int .u8 (IntKind.u8.wrap ((m.oa%256:Nat):Int))=.int .u8 (UInt8.ofNat (m.oa%256)).toNat:=by rw[e];congr 1;simp[IntKind.wrap];have:IntKind.u8.bits=8:=rfl;have i:IntKind.u8.signed=false:=rfl;simp[this,i]
 refine gg [(12,.op I _ _ (AXE (.tmp 11) (.const (.int .i64 255)) m.oa l)),(13,.eq _ _ p)]<|Mp (YK I m b (fl++a) k j) rfl [] kR<|gg [(6,.hand (.load 5 (.tmp 5)) [(5,.p 2 (0+(m.c.AF.length-1)*5+3))] [(2,.Aa (fl++a) 65)] I (.v (.int .u8 f.AL.toNat)) (MM A6 (L:=lay) (t:=5) (a:=5) (k:=2) (off:=0+(m.c.AF.length-1)*5+3) (ty:=⟨1,_,_⟩) (vs:=fl++a) (e:=65) rfl rfl c)),
  (14,.op I _ _ (AXF (.tmp 6) (.tmp 13) f.AL (UInt8.ofNat (m.oa%256))))] ?_
 refine Bm (k:=2) (off:=0+(m.c.AF.length-1)*5+3) (t:=5) (ad:=.tmp 16) (x:=.tmp 14) (e:=65) (vs:=fl++a) (cs:=[.int .u8 (f.AL&&&UInt8.ofNat (m.oa%256)).toNat]) (ty:=⟨1,_,_⟩) (I':=I) kR kR kR rfl rfl (by simp[List.length_append,List.length_singleton];omega) (by intro v t;rw[List.mem_singleton.1 t];rfl) kR ?_;refine gG ?_;have s:Mm I m b (Da m.c λf=>{f with AL:=f.AL&&&UInt8.ofNat (m.oa%256)}) n {r:=.t [],upd:=[(1,m.JO 2 b),(2,.Aa (splice (fl++a) (0+(m.c.AF.length-1)*5+3) [.int .u8 (f.AL&&&UInt8.ofNat (m.oa%256)).toNat]) 65)],J:=I}:=by refine⟨I,_,a,AB.le_refl _,q,?_⟩;rw[i];unfold BV.JO;simp[ACK];rfl
 exact done func221 g [] kR s
abbrev SE(m:BV)(a:Nat)(b:AA AE):AA (Nat×AG):=[(1,m.JO 3 a),Gd,(3,.Aa b 65)]
def Vk(I:AB)(m:BV)(b:Nat)(e:Ae):Nat->AU->Prop:=λ_ h=>∃(J:AB)(fl a:AA AE),I.le J/\EY J e b fl a/\h= {r:=.t [],upd:=[(1,({m with c:=e}:BV).JO 3 b),Gd,(3,.Aa (fl++a) 65)],J:=J}
def AL9{I m q i c l r}:CO (Vk I m i l) (SE q c r) I:=by refine⟨?_⟩;rintro p h ⟨J,fl,j,hle,_,rfl⟩;refine⟨⟨nA,λs g=> ?_,nA,sP,sP⟩,hle⟩;simp[mS]at g;rcases g with e|e|e;rw[e];exact⟨sP,λk a=>by simp[AG.keys,BV.row,Ax,SV.keys]at a;subst a;simp⟩;rw[e];exact⟨sP,λk a=>by simp[AG.keys,Ax,SV.keys]at a;subst a;simp⟩;rw[e];exact⟨sP,nA⟩
section
variable {F:FuncId} {d:Func} {n:Nat} {I:AB} {w:World} {ρ:Nat->Nat} {A:List Nat} {R:Dl} {f:BU}
def AOU{j m b l q G g}(k)(h:Fn G g (IU m b q) j (Mm j m b l) none)(i:Ci f n G [(2,k)] (IU m b q) [1,2]=some (Bz (AT [(2,k)]) g,(IU m b q).map (λs=>some (s.2.Am (AT [(2,k)]))),j))
 (hnext:∀J fl a,j.le J->EY J l b fl a->At F d n I w ρ A R (f.out (AT [(2,k)]) {r:=.t [],upd:=[(1,({m with c:=l}:BV).JO 2 b),(2,.Aa (fl++a) 65)],J:=J})):At F d n I w ρ A R f:=
 Ag h [(2,k)] [1,2] i (λ_ h o s p=>by obtain⟨J,fl,a,_,_,rfl⟩:=o;rcases BD.1 p with e|e;rw[e];simp;rw[AP.1 e];simp) λh o=>by obtain⟨J,fl,a,hle,hF,rfl⟩:=o;exact hnext J fl a hle hF
def AFg{o m b p s G g}(k l)(h:Fn G g (SE m b s) o (Vk o m b p) none)(j:Ci f n G [(2,k),(3,l)] (SE m b s) [1,2,3]=some (Bz (AT [(2,k),(3,l)]) g,(SE m b s).map (λt=>some (t.2.Am (AT [(2,k),(3,l)]))),o))
 (hnext:∀J fl a,o.le J->EY J p b fl a->At F d n I w ρ A R (f.out (AT [(2,k),(3,l)]) {r:=.t [],upd:=[(1,({m with c:=p}:BV).JO 3 b),Gd,(3,.Aa (fl++a) 65)],J:=J})):At F d n I w ρ A R f:=
 Ag h [(2,k),(3,l)] [1,2,3] j (λ_ h q t i=>by obtain⟨J,fl,a,_,_,rfl⟩:=q;simp[mS]at i;rcases i with e|e|e<;>(rw[e];simp)) λh q=>by obtain⟨J,fl,a,hle,hF,rfl⟩:=q;exact hnext J fl a hle hF
end
abbrev ABd(c:Ae)(a:Nat):Ae:=Da c λf=>{f with pc:=a}
def ASJ(I m b fl a f x)(k:x.n≠0)(j:m.c.top=some f)(hF:EY I m.c b fl a)(h:m.c.AF.length<=1000000):Fn 285 [Cn x,.p 2 0] (SE m b (fl++a)) I (Vk I m b (ABd m.c m.oa)) none:=fo func285 AL9 λρ l w i=>gg [(5,FJ x.n 0 k)]<|AOU 3 (AHn I m b fl a f j hF h) kR λJ e c hle g=>gG<|dn [] ⟨J,e,c,hle,g,rfl⟩
def AUz(I m)(g:Nat)(fl a f k h x)(B:EE I k m.ta m.tc h)(z:m.tn=k.length)(l:k[0]? =some x)(H:x.kind=1)(D:x.n≠0)(y:m.c.top=some f)(hF:EY I m.c g fl a)(q:m.c.AF.length<=1000000):
 Fn 283 [.p 1 0,.v (.int .i64 1),.fn (.func 285) [] [.p 2 0]] (SE m g (fl++a)) I (Vk I m g (ABd m.c m.oa)) none:=by
 have i:0<k.length:=(B6.1 l).1;obtain⟨m,b,c,arr,e,G,rfl,s,C⟩:=Qv m B z i;let⟨i51,t,v⟩:=O5;have r:=C 0 x l;refine fo func283 AL9 λρ E w u=>gg [(10,BM I E5 b c k.length m.tc 0 i),(12,C9 I Dj rfl (c+0*5+0) (.int .i64 x.kind) s (r 0 _ rfl)),(14,Ct (x.kind:Int) 1 oG),
  (22,BM I E5 b c k.length m.tc 0 i),(23,DR I MX (c+0*5) (Au x) rfl s r)] ?_
 exact AFg 2 3 (ASJ I (m.tk b c k.length) g fl a f x D y hF q) kR λJ o j hle p=>gG<|dn [] ⟨J,o,j,hle,p,rfl⟩
def ASK(I m c fl b f g a x)(r:EE I g m.ta m.tc a)(q:m.tn=g.length)(k:g[0]? =some x)(p:x.kind=1)(s:x.n≠0)(o:m.c.top=some f)(hF:EY I m.c c fl b)(j:m.c.AF.length<=1000000):
 Fn 211 [.p 1 0] (IU m c (fl++b)) I (Mm I m c (ABd m.c m.oa)) none:=by
 exact fo func211 YV λρ t w l=>gG<|AFg 100 2 (AUz I m c fl b f g a x r q k p s o hF j) kR λJ h e hle i=>gG<|dn [] ⟨J,h,e,hle,i,rfl⟩
def AOv(I c):Fn 42 [.v (.slice none 0 c)] [] I (A1 (.v (.slice none 0 0)) I) none:=fo func42 (BZ rfl) λd b w a=>gg [(4,.op I _ (.v (.bool true)) (Ka (a:=none) (n:=0) (c:=c) (.tmp 3) (.const (.slice none 0 0)) Lf))]<|fi
def lv:Nat->AA AE
 |0=>[]
 |i+1=>lv i++Au (whole 0)
def UQ:∀i,lv i=(List.replicate i (whole 0)).flatMap Au
 |0=>rfl
 |i+1=>by rw[lv,UQ i,List.replicate_succ',Mf];simp
def AIj(i):(lv i).length=i*5:=by rw[UQ,R7];simp
def AZD{I}:EE I [] none 0 []:=⟨Ch.nil,AZ _,by unfold maxLen;omega,rfl⟩
def AAn(I:AB)(c:Ae)(p:CN)(fn m:Nat)(AL:AH)(x:RL):Hd where
 By:=[(1,.v (.int .i64 fn)),(4,.v (.int .u8 AL.toNat)),(5,.p 100 0),(10,.p 108 0),(11,.v (.bool false)),(12,match x.i with|0=>.v (.slice none 0 0)|i+1=>.s 116 0 (i+1) x.cap),(22,.v (.int .i64 (m:Nat))),(23,.v (.int .i64 x.i))]
 Bu:=(100,.cells (Cj c p) 48)::(108,.cells [.v (.slice none 0 0),.v (.slice none 0 0),.v (.slice none 0 0)] 48)::match x.i with|0=>[]|i+1=>[(116,.Aa (lv (i+1)++x.AC) 51)]
 J:=I
def AP5(I)(c:Ae)(p)(o vars:Nat)(F:Nat)(d:UInt8)(h:CH I c p)(V:c.AF.length<16)(R:c.stack.length<=1000000):
 Fn 140 [.g (Cj c p),.v (.int .i64 o),.v (.int .i64 vars),.v (.slice none 0 F),.v (.int .u8 d.toNat)] [] I (ZP I {c with AF:=c.AF++[⟨o,0,c.stack.length,d,List.replicate (min vars 16) (whole 0)⟩]}) none:=by
 obtain⟨n,Q⟩:∃n,n=min vars 16:=⟨_,rfl⟩;rw[<-Q];refine fo func140 (EK λ_=>rfl) λW U w H=>gg [(16,hF ((c.AF.length:Int)≥16) oG)]<|call (AOv I F) kR<|gg [(21,M1 I #[3,3] vars 0 vars oG),(22,ABL I #[3,3] vars 16 (n:Int) oG)]<|loop (ι:=RL) (λx=>x.i<=n/\(0<x.i->x.i<=x.cap/\x.cap<=maxLen/\x.AC.length=(x.cap-x.i)*5)) (λx=>n-x.i)
  (AAn I c p o n d) 300 [] ⟨0,0,[]⟩ ⟨Nat.zero_le _,λh=>absurd h sP⟩ kR kR ?_
 rintro⟨i,l,k⟩ ⟨O,q⟩ again T;simp only at O q;by_cases P:i<n;cases i with
 |zero=>
  refine gg [(24,hT (((0:Nat):Int)<(n:Int)) oG)] ?_;refine act (need:=[(324,.cells ((Au (whole 0)).map .v) 51)]) [] kR (KU (I:=I) A6 (n:=0) (cap:=0) (m:=1) (a:=none) (l:=.v (.slice none 0 0)) (x:=.s 324 0 1 1) (olds:=[]) (news:=Au (whole 0)) Jf kR rfl NG (D2 (e:=51) (List.mem_singleton.2 rfl) rfl (by intro v s;simp[Au,whole]at s;rcases s with rfl|rfl|rfl|rfl|rfl<;>rfl)) (Nat.le_refl _) oG (λ_=>rfl) oG) (λG N S t=> ?_) LD ?_;obtain⟨l,k,_,_,_,rfl⟩:=N;cases t;rintro G ⟨g,f,L,A,B,rfl⟩;refine gg [(29,hW (((0:Nat):Int)+1) ((1:Nat):Int) oG oG)] ?_;exact back [(116,332)] (AAn I c p o n d ⟨1,g,f⟩) 300 kR kR kR λy=>again ⟨1,g,f⟩ ⟨by show 1<=_;omega,λ_=>⟨by show 1<=g;omega,A,by show f.length=(g-1)*5;rw[B]⟩⟩ (by show n-1<n-0;omega) y
 |succ i=>
  let⟨q1,q2,q3⟩:=q oG;refine gg [(24,hT (((i+1:Nat):Int)<(n:Int)) oG)] ?_;refine act (need:=[(116,.Aa (lv (i+1)++k) 51),(324,.cells ((Au (whole 0)).map .v) 51)]) [116] kR (JC (I:=I) A6 (n:=i+1) (m:=1) (cap:=l) (k:=116) (vs:=lv (i+1)++k) (olds:=lv (i+1)) (news:=Au (whole 0)) (x:=.s 324 0 1 1) Jf kR sP ?_ ?_ (λv s=>N6 v (by rw[UQ]at s;exact s)) (D2 (e:=51) sP rfl (by intro v s;simp[Au,whole]at s;rcases s with rfl|rfl|rfl|rfl|rfl<;>rfl)) q1 q2 oG) ?_ (Oc rfl) ?_;rw[List.length_append,AIj,q3,<-Nat.add_mul];congr 1;omega;rw[List.take_left'];rw[AIj];rintro h ⟨l,k,_,_,_,rfl⟩ S t;rw[List.mem_singleton.1 t];exact List.mem_singleton.2 rfl;rintro G ⟨g,f,L,A,B,rfl⟩;refine gg [(29,hW (((i+1:Nat):Int)+1) ((i+1+1:Nat):Int) oG oG)] ?_;exact back [(116,332)] (AAn I c p o n d ⟨i+1+1,g,f⟩) 300 kR kR kR λy=>again ⟨i+1+1,g,f⟩ ⟨by show i+1+1<=_;omega,λ_=>⟨L,A,B⟩⟩ (by show n-(i+1+1)<n-(i+1);omega) y
 have z:i=n:=oG;subst z;have j:(c.AF++[(⟨o,0,c.stack.length,d,List.replicate i (whole 0)⟩:B7)]).length=c.AF.length+1:=sP;cases i with
 |zero=>
  refine gg [(24,hF ((((0:Nat)):Int)<((0:Nat):Int)) oG)]<|Iq (Vu I p.fa c.AF.length p.fc p.fl o 0 c.stack.length d.toNat none 0 0 h.f.cap oG h.f.sl) kR λa m K e C D E=>gG ?_;have hnew:CH K {c with AF:=c.AF++[⟨o,0,c.stack.length,d,List.replicate 0 (whole 0)⟩]} {p with fa:=a,fc:=m,fl:=p.fl++[.int .i64 o,.int .i64 0,.int .i64 c.stack.length,.int .u8 d.toNat,.slice none 0 0]}:=by refine⟨⟨by rw[j];exact E,by rw[j];exact C,D,?_⟩,(h.up e).s,(h.up e).t⟩;exact(h.f.rows.mono (MF e)).append (Rows.one ⟨none,0,[],rfl,AZD⟩)
  refine dn [] ⟨_,K,?_,e,hnew⟩ (h:={r:=.t [.g [.v (.slice a (c.AF.length+1) m),.v (.slice p.sa c.stack.length p.sc),.v (.slice p.ta c.tries.length p.tc)],.v (.bool true)],J:=K});simp[Cj]
 |succ i=>
  let⟨q1,q2,q3⟩:=q oG;refine go func140 [(24,hF ((((i+1:Nat)):Int)<((i+1:Nat):Int)) oG)] 8 kR<|BW 116 I (vs:=lv (i+1)++k) (e:=51) kR λb J hle _ M=>gG<|Iq (Vu J p.fa c.AF.length p.fc p.fl o 0 c.stack.length d.toNat (some ⟨b,0,none⟩) (i+1) l h.f.cap oG (h.f.sl.up hle)) kR λa m K e C D E=>gG ?_;have u:EE K (List.replicate (i+1) (whole 0)) (some ⟨b,0,none⟩) l (lv (i+1)):=Aj.JN (e _ _ M) (Rows.flat.2 (UQ (i+1))) G6 (λv s=>N6 v (by rw[UQ]at s;exact s)) (by simpa using q1) q2;have hnew:CH K {c with AF:=c.AF++[⟨o,0,c.stack.length,d,List.replicate (i+1) (whole 0)⟩]} {p with fa:=a,fc:=m,fl:=p.fl++[.int .i64 o,.int .i64 0,.int .i64 c.stack.length,.int .u8 d.toNat,.slice (some ⟨b,0,none⟩) (i+1) l]}:=by refine⟨⟨by rw[j];exact E,by rw[j];exact C,D,?_⟩,(h.up (hle.trans e)).s,(h.up (hle.trans e)).t⟩;refine(h.f.rows.mono (MF (hle.trans e))).append (Rows.one ⟨some ⟨b,0,none⟩,l,_,?_,u⟩);simp
  refine dn [] ⟨_,K,?_,hle.trans e,hnew⟩ (h:={r:=.t [.g [.v (.slice a (c.AF.length+1) m),.v (.slice p.sa c.stack.length p.sc),.v (.slice p.ta c.tries.length p.tc)],.v (.bool true)],J:=K});simp[Cj]
def AP4(I)(c:Ae)(p)(j vars:Nat)(d:AA Val)(a)(i:Nat)(l)(f:AH)(h:CH I c p)(m:EE I d a i l)(n:c.AF.length<16)(k:d.length<=1000)(g:c.stack.length<=1000000):
 Fn 140 [.g (Cj c p),.v (.int .i64 j),.v (.int .i64 vars),.v (.slice a d.length i),.v (.int .u8 f.toNat)] [] I (ZP I {c with AF:=c.AF++[⟨j,0,c.stack.length,f,d++List.replicate (min vars 16) (whole 0)⟩]}) none:=by
 cases a with
 |some o=>exact AAq I c p j vars d o i l f h m n k g
 |none=>
  have q:d.length=0:=by rcases m.sl.at_ with h|⟨b,s,arr,e,t,h,_⟩;exact h;cases h
  have r:d=[]:=Hm q;subst r;rw[Fo];exact AP5 I c p j vars i f h n g
end
end Go.Proofs.YtomehhepbeiinaaGreatDoor
