/- Part 1 of the proof of TopHidden. No conditions. -/
import Derived.Test.YtomehhepbeiinaaGreatDoorQA0
import Derived.Test.YtomehhepbeiinaaGreatDoorProg
import Derived.Lib.Bytealg
import Derived.Lib.SmallJoins
import Derived.Lib.QuietBelowIn
import Derived.RangeFuncNested
import Derived.RangeFuncBound
import Derived.Shelf.RegionOpen
import Derived.OwnWalkIn
import Derived.LoopNIn
import Derived.LoopIn
import Derived.WalkLawsBesides
import Derived.WalkSpells
import Derived.Lib.Hide
set_option maxRecDepth 100000
set_option maxHeartbeats 4000000
set_option linter.all false
def kR{p:Prop}(h:p:=by first|kernel_rfl|(show _=_;kernel_rfl)):p:=h
def oG{p:Prop}(h:p:=by omega):p:=h
def dC{p:Prop}(h:p:=by decide):p:=h
def sP{p:Prop}(h:p:=by simp):p:=h
namespace Lz
def sub(a b:AH):Bool:=a&&&b==a
def meets(a b:AH):Bool:=a&&&b !=0
def bit(a:AH)(i:Nat):Bool:=a.toNat.testBit i
theorem Rl(a b i):bit (a&&&b) i=(bit a i&&bit b i):=by simp[bit]
theorem PD(a b i):bit (a|||b) i=(bit a i||bit b i):=by simp[bit]
def Vl(i):bit 0 i=false:=by simp[bit]
theorem ACS(a i)(h:8<=i):bit a i=false:=by rw[bit];refine Nat.testBit_lt_two_pow ?_;have b:a.toNat<2^8:=a.toNat_lt;exact QA b<|AGc dC h
def OJ{a b}(h:∀i,i<8->bit a i=bit b i):a=b:=by
 apply MB.1;apply Nat.eq_of_testBit_eq;intro i;by_cases c:i<8;exact h i c;have d:=ACS a i oG;have e:=ACS b i oG
 grind[bit]
theorem AQz(i):bit 63 i=decide (i<6):=by
 by_cases h:i<8
 match i,h with
 |0,_=>decide
 |1,_=>decide
 |2,_=>decide
 |3,_=>decide
 |4,_=>decide
 |5,_=>decide
 |6,_=>decide
 |7,_=>decide
 grind[ACS]
theorem ACT(a i)(h:i<8):bit (~~~a) i= !bit a i:=by have e:bit (~~~a) i=(~~~a).toBitVec.getLsbD i:=rfl;have b:bit a i=a.toBitVec.getLsbD i:=rfl;simp_all
theorem LC{a b}:sub a b↔∀i,i<8->bit a i->bit b i:=by
 rw[sub];rw[GP];constructor
 grind[Rl]
 intro h;apply OJ
 grind[Rl]
theorem NK{a b}:meets a b↔∃i,i<8/\bit a i/\bit b i:=by
 rw[meets];rw[VT];constructor;intro h;apply ABT;intro f;apply h;apply OJ;intro i e;rw[Rl,Vl];cases c:bit a i<;>cases d:bit b i<;>simp;exact f ⟨i,e,c,d⟩;rintro⟨i,_,c,d⟩ h;have:bit (a&&&b) i:=by rw[Rl,c,d];rfl
 rw[h,Vl]at this;cases this
def XV(a):sub a a:=LC.2 λ_ _ h=>h
theorem RA{a b c}(h:sub a b)(k:sub b c):sub a c:=
 (by grind[LC])
def AcQ{a b}(h:sub a b)(k:sub b a):a=b:=by
 apply OJ
 grind[bit,LC]
def sub_le{a b:UInt8}(h:sub a b):a.toNat<=b.toNat:=by
 rw[sub]at h;rw[beq_iff_eq]at h
 grind[UInt8.toNat_and,Nat.and_le_right]
def AAu(a b):sub a (a|||b):=LC.2 λi _ h=>by rw[PD,h];rfl
def AFc(a b):sub b (a|||b):=LC.2 λi _ h=>by rw[PD,h];simp
def Ig(l:AA AH)(b:AH):Bool:=l.any (sub · b)
theorem M6{l b}:Ig l b↔∃c,c∈l/\sub c b:=by simp[Ig,List.any_eq_true]
def HH(l:AA AH):Nat->AA AH
 |0=>[]
 |k+1=>if l.contains (UInt8.ofNat k)&& !Ig (HH l k) (UInt8.ofNat k)then HH l k++[UInt8.ofNat k]else HH l k
def least(l:AA AH):AA AH:=HH l 256
def Min(l:AA AH)(c:AH):Prop:=c∈l/\∀d,d∈l->sub d c->d=c
def OC(l:AA AH):Prop:=l.Pairwise λa b=>a.toNat<b.toNat
def Pt{k}(h:k<256):(UInt8.ofNat k).toNat=k:=by simp_all
def ALL{l}:∀(n:Nat)(c:AH),c.toNat<=n->c∈l->∃d,Min l d/\sub d c:=by
 intro n;induction n with
 |zero=>
  intro c f b;refine⟨c,⟨b,λd _ a=> ?_⟩,XV c⟩;have:=sub_le a;exact MB.1 oG
 |succ n m=>
  intro c f b;by_cases h:∃d,d∈l/\sub d c/\d≠c;let⟨d,g,a,i⟩:=h;have j:=sub_le a;have k:d.toNat≠c.toNat:=λe=>i<|MB.1 e
  grind[RA]
  refine⟨c,⟨b,λd g a=> ?_⟩,XV c⟩
  grind
def AKc(l):∀k,k<=256->(∀c,c∈HH l k↔Min l c/\c.toNat<k)/\OC (HH l k):=by
 intro k;induction k with
 |zero=>intro _;exact⟨λc=>by simp[HH],List.Pairwise.nil⟩
 |succ k u=>
  intro v;let⟨r,x⟩:=u oG;have w:(UInt8.ofNat k).toNat=k:=Pt oG;have h:(l.contains (UInt8.ofNat k)&& !Ig (HH l k) (UInt8.ofNat k))↔Min l (UInt8.ofNat k):=by
   rw[Bool.and_eq_true,List.contains_iff_mem,Bool.not_eq_true'];constructor;rintro⟨b,i⟩;refine⟨b,λd p t=> ?_⟩;apply Classical.byContradiction;intro s;let⟨e,j,a⟩:=ALL d.toNat d (Nat.le_refl _) p;have hle:=sub_le t;have m:=sub_le a
   grind[UInt8.toNat_inj,M6,RA]
   rintro⟨b,i⟩;refine⟨b,?_⟩;cases o:Ig (HH l k) (UInt8.ofNat k)with
   |false=>rfl
   |true=>
    let⟨e,j,a⟩:=M6.1 o;let⟨g,q⟩:=(r e).1 j;have:=i e g.1 a
    grind
  rw[HH];split;rename_i f;have n:=h.1 f;refine⟨λc=> ?_,?_⟩
  grind[UInt8.toNat_inj]
  grind[OC]
  grind[UInt8.toNat_inj]
theorem Wm{l c}:c∈least l↔Min l c:=by rw[least];rw[(AKc l 256<|Ag _).1 c];exact⟨λx=>x.1,λx=>⟨x,c.toNat_lt⟩⟩
theorem AEJ(l):OC (least l):=(AKc l 256<|Ag _).2
theorem OC.ext:∀ {l m:AA AH},OC l->OC m->(∀c,c∈l↔c∈m)->l=m
 |[],[],_,_,_=>rfl
 |[],b::m,_,_,h=>by have:=(h b).2 sP;simp at this
 |a::l,[],_,_,h=>by have:=(h a).1 sP;simp at this
 |a::l,b::m,i,hm,h=>by
  rw[OC]at i hm;rw[G4]at i hm;have e:a=b:=by
   have d:a=b\/a∈m:=by simpa using(h a).1 sP
   have f:b=a\/b∈l:=by simpa using(h b).2 sP
   rcases d with d|d;exact d;rcases f with f|f;exact f.symm;have x:=hm.1 a d;have y:=i.1 b f;omega
  subst e;have k:l=m:=by refine OC.ext i.2 hm.2 λc=> ?_;constructor;intro g;have:=(h c).1 (by simp[g]);rcases Co.1 this with rfl|j;have:=i.1 _ g;omega;exact j;intro g;have:=(h c).2 (by simp[g]);rcases Co.1 this with rfl|j;have:=hm.1 _ g;omega;exact j
  rw[k]
def AXB{l m}(h:∀c,Min l c↔Min m c):least l=least m:=
 (by grind[OC.ext,AEJ,Wm])
theorem Zk{l c}(h:c∈least l):c∈l:=(Wm.1 h).1
theorem AKd{l c}(h:c∈l):∃d,d∈least l/\sub d c:=by
 let⟨d,a,b⟩:=ALL c.toNat c (Ag _) h
 grind[Wm]
def ASK(l b):Ig (least l) b=Ig l b:=by
 rw[F0,M6,M6]
 grind[Zk,AKd,RA]
theorem AYV{l c}:Min l c↔Ig l c/\∀d,sub d c->Ig l d->d=c:=by constructor;rintro⟨h,b⟩;refine⟨M6.2 ⟨c,h,XV c⟩,λd g i=> ?_⟩;let⟨e,f,a⟩:=M6.1 i;have:=b e f<|RA a g;subst this;exact AcQ g a;rintro⟨h,b⟩;let⟨e,f,a⟩:=M6.1 h;have:=b e a<|M6.2 ⟨e,f,XV e⟩;subst this;exact⟨f,λd j g=>b d g<|M6.2 ⟨d,j,XV d⟩⟩
def AKe{l m}(h:∀b,Ig l b=Ig m b):least l=least m:=
 AXB λc=>by grind[AYV]
def AXC(l):least (least l)=least l:=AKe<|ASK l
def clip(c:AH):AH:=c&&&63
def DO(f:AA AH):AA AH:=least<|f.map clip
def right(f:AA AH):Prop:=DO f=f
def Eo(f:AA AH)(x:AH):Bool:=f.all (meets · x)
theorem MO(c i):bit (clip c) i=(bit c i&&decide (i<6)):=by grind[clip,Rl,AQz]
theorem ACr(c):clip (clip c)=clip c:=by apply OJ;grind[MO]
theorem AIR(c):sub (clip c) c:=by grind[LC,MO]
theorem AIQ(a b):clip (a|||b)=clip a|||clip b:=by apply OJ;grind[MO,PD]
def Eh(c:AH):AH:=clip<|~~~c
theorem AQ0(c i)(h:i<8):bit (Eh c) i=(!bit c i&&decide (i<6)):=by grind[Eh,MO,ACT]
def ANo{c b}(a:clip c=c):sub c b= !meets c (Eh b):=by
 rw[F0,Jf]
 grind[NK,AQ0,LC,MO]
def AYQ(c x):meets (clip c) x=meets c (clip x):=by
 rw[F0,NK,NK]
 grind[MO]
theorem AYP{c}(a:clip c=c)(x):meets c (clip x)=meets c x:=by rw[<-AYQ,a]
theorem AYR{c x y}(h:sub x y)(a:meets c x):meets c y:=by grind[NK,LC]
theorem AYT{c d x}(h:sub d c)(a:meets d x):meets c x:=by grind[NK,LC]
def QE(f:AA AH):Prop:=∀c,c∈f->clip c=c
def AIS(f:AA AH):QE (f.map clip):=by
 intro c a
 grind[ACr]
def Yj(f):QE (DO f):=λc a=>AIS f c<|Zk a
def AEa{f}(h:QE f):f.map clip=f:=by have:f.map clip=f.map id:=JD h;simpa using this
def ALl(f):DO (DO f)=DO f:=by show least ((DO f).map clip)=DO f;rw[AEa<|Yj f];exact AXC _
def XF(f):right (DO f):=ALl f
def sat(f:AA AH)(x:AH):Bool:=Eo (DO f) x
def OX{f x}:Eo f x↔∀c,c∈f->meets c x:=by simp[Eo,EQ]
def AVK(l x):Eo (least l) x=Eo l x:=by
 rw[F0,OX,OX]
 grind[AKd,AYT,Zk]
theorem AAl(f x):sat f x=Eo (f.map clip) x:=AVK _ _
def sat_iff{f x}:sat f x↔∀c,c∈f->meets (clip c) x:=by rw[AAl,OX];simp
theorem AFN(f x):sat f (clip x)=sat f x:=by
 rw[F0,sat_iff,sat_iff]
 grind[AYP,ACr]
def AFO{f x y}(h:sub x y)(b:sat f x):sat f y:=
 sat_iff.2 λc a=>AYR h<|sat_iff.1 b c a
def ASJ{f}(h:QE f)(b):Ig f b= !Eo f (Eh b):=by
 rw[F0,Jf,M6];constructor;rintro⟨c,a,e⟩;cases d:Eo f (Eh b)with
 |false=>rfl
 |true=>
  have:=OX.1 d c a;rw[ANo<|h c a,this]at e;cases e
 intro d;apply ABT;intro i;have:Eo f (Eh b):=OX.2 λc a=>by
  cases g:meets c (Eh b)with
  |true=>rfl
  |false=>exact absurd ⟨c,a,by rw[ANo<|h c a,g];rfl⟩ i
 grind
def AYs{f g}:DO f=DO g↔∀x,sat f x=sat g x:=by
 constructor
 grind[sat]
 intro h;refine AKe λb=> ?_;simp_all[ASJ,AIS,AAl]
def AFH{f g}(a:right f)(b:right g)(h:∀x,sat f x=sat g x):f=g:=by rw[<-a,<-b];exact AYs.2 h
theorem XL(f x):sat (DO f) x=sat f x:=by unfold sat;rw[ALl]
theorem AbJ(f g x):sat (f++g) x=(sat f x&&sat g x):=by grind[Eo,AAl]
def and(f g:AA AH):AA AH:=DO<|DO f++DO g
def XD(f g):right (and f g):=XF _
theorem sat_and(f g x):sat (and f g) x=(sat f x&&sat g x):=by grind[and,XL,AbJ]
def F8(f g:AA AH):AA AH:=f.flatMap λc=>g.map λd=>c|||d
def or(f g:AA AH):AA AH:=DO<|F8 (DO f)<|DO g
def AMt(f g):right (or f g):=XF _
theorem AEb(a b x):meets (a|||b) x=(meets a x||meets b x):=by
 rw[F0,KG,NK,NK,NK]
 grind[PD]
theorem AYS(a x y):meets a (x|||y)=(meets a x||meets a y):=by
 have h:∀p q:AH,meets p q=meets q p:=by grind[NK]
 grind[AEb]
def AVM(f g x):Eo (F8 f g) x=(Eo f x||Eo g x):=by
 rw[F0,KG,OX,OX,OX];constructor;intro h;apply ABT;intro j;rw[Jk]at j;let⟨e,i⟩:=j;simp[Classical.not_forall]at e i;let⟨c,b,k⟩:=e;let⟨d,l,m⟩:=i;have:=h (c|||d)<|LJ.2 ⟨c,b,BI.2 ⟨d,l,rfl⟩⟩
 grind[AEb]
 rintro h c b;let⟨a,n,b⟩:=LJ.1 b
 grind[AEb]
def ARh{f g}(i:QE f)(j:QE g):QE (F8 f g):=by intro c d;let⟨a,e,d⟩:=LJ.1 d;obtain⟨b,h,rfl⟩:=BI.1 d;rw[AIQ,i a e,j b h]
def AbL(f g x):sat (or f g) x=(sat f x||sat g x):=by rw[or];rw[XL,AAl,AEa<|ARh (Yj f)<|Yj g,AVM];rfl
def fix(f:AA AH)(p:AH):AA AH:=(DO f).filter λc=> !meets c p
def AcS{f g}(h:List.Sublist g<|DO f):right g:=by have b:QE g:=λc a=>Yj f c<|h.subset a;show least (g.map clip)=g;rw[AEa b];refine OC.ext (AEJ g) ((AEJ _).sublist h) λc=> ?_;rw[Wm];constructor;exact λx=>x.1;intro a;refine⟨a,λd e i=> ?_⟩;exact(Wm.1<|h.subset a).2 d (Zk<|h.subset e) i
def AFI(f p):right (fix f p):=AcS S7
def AbM{f}(h:right f)(x):sat f x=Eo f x:=by rw[sat];rw[h]
def Uj(f p x):sat (fix f p) x=sat f (x|||p):=by
 rw[AbM<|AFI f p];rw[sat,fix];rw[F0,OX,OX]
 grind[AYS]
def JQ(f g:AA AH):Bool:=(List.range 64).all λx=> !sat f (UInt8.ofNat x)||sat g (UInt8.ofNat x)
def AIP{x:UInt8}:clip x=x↔x.toNat<64:=by
 constructor
 grind[clip,UInt8.toNat_and,Nat.and_le_right]
 intro h;rw[clip];apply UInt8.toNat_inj.1;rw[UInt8.toNat_and];have:(63:UInt8).toNat=2^6-1:=rfl;rw[this,Nat.and_two_pow_sub_one_eq_mod];exact Nat.mod_eq_of_lt h
def T8{f g}:JQ f g↔∀x,sat f x->sat g x:=by
 rw[JQ];rw[EQ];constructor;intro h x b;have a:(clip x).toNat<64:=AIP.1<|ACr x
 grind[UInt8.ofNat_toNat,AFN]
 grind
def ANI(x):sat [] x:=sat_iff.2 λc a=>by cases a
def AbK(x):sat [0] x=false:=by
 cases h:sat [0] x with
 |false=>rfl
 |true=>
  simp_all[clip,sat_iff,sP,NK,dC,Vl]
def AMs:right []:=by rw[right,DO];decide+kernel
def I8(p:AH):Nat->AA AH
 |0=>[]
 |k+1=>if sub (UInt8.ofNat<|2^k) p then I8 p k++[UInt8.ofNat<|2^k]else I8 p k
def Fy(p:AH):AA AH:=I8 p 6
def AAH(p k):(I8 p k).length<=k:=by
 induction k with
 |zero=>simp[I8]
 |succ k a=>
  rw[I8];split;rw[CK];simp;omega;omega
def AAG(p):(Fy p).length<=6:=AAH p 6
def ALI{p c k}:c∈I8 p k↔∃j,j<k/\c=UInt8.ofNat (2^j)/\sub c p:=by
 induction k with
 |zero=>simp[I8]
 |succ k d=>
  rw[I8];constructor;intro h;split at h;rename_i g;rcases Bc.1 h with h|h;let⟨j,e,a,b⟩:=d.1 h;exact⟨j,oG,a,b⟩;have:=A9.1 h;subst this;exact⟨k,oG,rfl,g⟩;let⟨j,e,a,b⟩:=d.1 h;exact⟨j,oG,a,b⟩;rintro⟨j,e,a,b⟩;by_cases f:j=k;subst f;subst a;rw[Ac b];simp;have:=d.2 ⟨j,oG,a,b⟩;split;exact GC _ this;exact this
def YV{i j}(a:j<6):bit (UInt8.ofNat<|2^j) i=decide (j=i):=by
 have h:2^j<256:=by have:2^j<=2^5:=AGc dC oG;omega
 rw[bit];rw[Pt h,Nat.testBit_two_pow]
def ANp{j}(b:j<6)(p):sub (UInt8.ofNat<|2^j) p=bit p j:=by rw[F0,LC];constructor;intro h;exact h j oG (by rw[YV b];simp);intro h i _ a;rw[YV b]at a;simp at a;subst a;exact h
def XM{p x}:sat (Fy p) x↔sub (clip p) x:=by rw[sat_iff,LC];constructor;intro h i l a;rw[MO]at a;simp at a;have:=h (UInt8.ofNat<|2^i)<|ALI.2 ⟨i,a.2,rfl,by rw[ANp a.2];exact a.1⟩;let⟨k,_,d,f⟩:=NK.1 this;rw[MO,YV a.2]at d;simp at d;rwa[d.1];intro h c g;obtain⟨j,b,rfl,e⟩:=ALI.1 g;rw[ANp b]at e;refine NK.2 ⟨j,oG,?_,h j oG<|by rw[MO,e];simp[b]⟩;rw[MO,YV b];simp[b]
def AcR{p x}(h:sub (clip p) x):clip (x|||p)=clip x:=by apply OJ;intro i a;rw[MO,MO,PD];have:=LC.1 h i a;rw[MO]at this;cases b:bit p i<;>cases c:bit x i<;>simp_all
def ANJ{f p x}(h:sub (clip p) x):sat f (x|||p)=sat f x:=by rw[<-AFN f (x|||p),AcR h,AFN]
abbrev AT:=AA AH×AA AH
def A4(a:AT):AT:=(DO a.1,DO a.2)
def jn(a b:AT):AT:=(and a.1 b.1,or a.2 b.2)
def mt(a b:AT):AT:=(or a.1 b.1,and a.2 b.2)
def fl(a b:AT):Bool:=JQ b.1 a.1&&JQ a.2 b.2
def fb(a b:AT)(p:AH):Bool:=JQ (and b.1<|Fy p) a.1&&JQ (and a.2<|Fy p) b.2
def dr(a:AT)(p:AH):AT:=(fix a.1 p,and a.2<|Fy p)
def XC(a:AT):Prop:=A4 a=a
def low:AT:=([],[0])
def high:AT:=([0],[])
def le(a b:AT):Prop:=(∀x,sat b.1 x->sat a.1 x)/\(∀x,sat a.2 x->sat b.2 x)
theorem IV{a b}:fl a b↔le a b:=by rw[fl,le];rw[CJ,T8,T8]
def le_refl(a):le a a:=⟨λ_ h=>h,λ_ h=>h⟩
theorem le_trans{a b c}(h:le a b)(k:le b c):le a c:=⟨λx d=>h.1 x<|k.1 x d,λx d=>k.2 x<|h.2 x d⟩
def AAd{a}:XC a↔right a.1/\right a.2:=by rw[XC,A4,right];constructor;intro h;rw[OA]at h;exact h;intro h;rwa[OA]
def Aat(a):XC (A4 a):=AAd.2 ⟨XF _,XF _⟩
def AMq(a b):XC (jn a b):=AAd.2 ⟨XD _ _,AMt _ _⟩
def Aas(a b):XC (mt a b):=AAd.2 ⟨AMt _ _,XD _ _⟩
def AYw{a b}:le (A4 a) b↔le a b:=by unfold le A4;simp[XL]
def AW6{a b}:le a (A4 b)↔le a b:=by unfold le A4;simp[XL]
def AD7{a b c}:le (jn a b) c↔le a c/\le b c:=by rw[le,jn];simp[sat_and,AbL,CJ,KG];constructor;rintro⟨e,f⟩;exact⟨⟨λx d=>(e x d).1,λx d=>f x<|.inl d⟩,⟨λx d=>(e x d).2,λx d=>f x<|.inr d⟩⟩;rintro⟨⟨e,f⟩,⟨g,h⟩⟩;exact⟨λx d=>⟨e x d,g x d⟩,λx d=>d.elim (f x)<|h x⟩
def AW4(a b):le a (jn a b):=(AD7.1<|le_refl _).1
theorem AW5(a b):le b (jn a b):=(AD7.1<|le_refl _).2
def AEI(a):le a high:=⟨λx h=>(by rw[show high.1=[0]from rfl,AbK]at h;cases h),λx _=>ANI x⟩
def ASn{a b p}:le (dr a p) b↔fb a b p:=by rw[fb];rw[CJ,T8,T8];rw[le,dr];simp only[Uj,sat_and,CJ,XM];constructor;rintro⟨c,d⟩;exact⟨λx ⟨e,f⟩=>by have:=c x e;rwa [ANJ f]at this,d⟩;rintro⟨c,d⟩;refine⟨λx g=> ?_,d⟩;exact c (x|||p) ⟨AFO (AAu x p) g,RA (AIR p)<|AFc x p⟩
def Tu{a b p}:fb a b p↔le (dr a p) b:=ASn.symm
def AIu(a p):le (dr a p) a:=by refine⟨λx h=> ?_,λx h=> ?_⟩;show sat (fix a.1 p) x;rw[Uj];exact AFO (AAu x p) h;have:sat (and a.2<|Fy p) x:=h;rw[sat_and,CJ]at this;exact this.1
def AgF{a b}:fb a b 0↔le a b:=by
 rw[Tu];refine⟨λh=>⟨λx c=> ?_,λx c=> ?_⟩,λh=>le_trans (AIu a 0) h⟩;have:=h.1 x c;have e:sat (fix a.1 0) x:=this;rw[Uj]at e;have z:x|||0=x:=by apply OJ;intro i _;rw[PD,Vl];simp
 rwa [z]at e;refine h.2 x ?_;show sat (and a.2<|Fy 0) x;rw[sat_and,c,RL];exact XM.2 (LC.2 λi f d=>by rw[MO,Vl]at d;simp at d)
structure St where
 Ad:AT
 A5:AT
def Et(s:St)(l:AT):St×Int:=if fl (jn s.Ad l) s.A5 then(⟨jn s.Ad l,s.A5⟩,0)else(s,-4)
def Dh(s:St)(l:AT):Int:=if fl s.Ad l then(if fl l s.A5 then 0 else-4)else-3
def Rm(s:St)(l:AT):St×Int:=if fl s.Ad l&&fl l s.A5 then(⟨A4 l,s.A5⟩,0)else(s,Dh s l)
def KW(s:St)(l:AT):St×Int:=if fl l s.A5 then(if fl s.Ad l then(⟨s.Ad,A4 l⟩,0)else(s,-3))else(s,-4)
def Ih(s:St)(l:AT)(p:AH):St×Int×Bool:=if fb s.Ad l p then(if fl l s.A5 then(⟨A4 l,s.A5⟩,0,!fl s.Ad l)else(s,-4,false))else(s,-3,false)
def Il(s:St)(l:AT)(p:AH):St×Int×Bool:=if fb l s.A5 p then(if fl s.Ad l then(⟨s.Ad,A4 l⟩,0,!fl l s.A5)else(s,-3,false))else(s,-4,false)
def begun(s:St):St:=⟨A4 s.Ad,jn s.Ad s.A5⟩
def QZ(a):fl a a:=IV.2<|le_refl a
def X2(f):and f []=DO f:=AFH (XD _ _) (XF _) λx=>by rw[sat_and,ANI,XL,ABS]
def AJN(a b c):fl (jn a b) c=(fl a c&&fl b c):=by rw[F0,CJ,IV,IV,IV,AD7]
def Y9{a b c}(h:fl a b)(k:fl b c):fl a c:=IV.2<|le_trans (IV.1 h)<|IV.1 k
def AgG(a b):fb a b 0=fl a b:=by rw[F0,AgF,IV]
theorem AeL(s l):(Dh s l=0)↔(fl s.Ad l&&fl l s.A5):=by rw[Dh];cases a:fl s.Ad l<;>cases b:fl l s.A5<;>simp
def pieces(c:AH):AA AH->AA (AA AH)
 |[]=>[[]]
 |b::l=>if b==c then[]::pieces c l else(b::(pieces c l).headD [])::(pieces c l).tail
def Aeb(c l):pieces c l≠[]:=by
 cases l with
 |nil=>simp[pieces]
 |cons b l=>rw[pieces];split<;>simp
def AMD(c:AH):∀(l:AA AH)(k:Nat),Go.Lib.indexByte l c=(k:Int)->k<l.length/\pieces c l=l.take k::pieces c (l.drop<|k+1)
 |[],k,h=>by simp[Go.Lib.indexByte]at h
 |b::l,k,h=>by
  rw[Go.Lib.indexByte]at h;have e:=Go.Lib.indexByte_ge l c;by_cases a:(b==c);rw[Ac a]at h;obtain rfl:k=0:=oG;refine⟨sP,?_⟩;rw[pieces,Ac a];rfl;rw[AY a]at h;split at h;omega;rename_i f;have g:Go.Lib.indexByte l c≠ -1:=by simpa using f
  obtain⟨m,rfl⟩:∃m,k=m+1:=⟨k-1,oG⟩;obtain⟨i,d⟩:=AMD c l m oG;refine⟨by simp;omega,?_⟩;rw[pieces,AY a,d];rfl
end Lz
namespace Go.Proofs.YtomehhepbeiinaaGreatDoor
open Tryz
section
open Go.RowKit
def ACU(a b:AH):bits .and .u8 (a.toNat:Int) (b.toNat:Int)=((a&&&b).toNat:Int):=by rw[u8_and_nat _ _ a.toNat_lt b.toNat_lt,X1]
def AHn(a b:AH):bits .or .u8 (a.toNat:Int) (b.toNat:Int)=((a|||b).toNat:Int):=by rw[u8_or_nat _ _ a.toNat_lt b.toNat_lt,UInt8.toNat_or]
def AQ2(a b:AH):bits .andNot .u8 (a.toNat:Int) (b.toNat:Int)=((a&&& ~~~b).toNat:Int):=by rw[u8_andNot_nat a.toNat b.toNat a.toNat_lt b.toNat_lt,X1,UInt8.toNat_not];rfl
def AOC(a:AH):((a.toNat:Int)==0)=(a==0):=by rw[F0,GP,GP];constructor;intro h;apply MB.1;simp;omega;intro h;subst h;rfl
def AQH(a b):(a&&& ~~~b==0)=Lz.sub a b:=by
 rw[F0,GP,Lz.LC];constructor;intro h i c d;have:Lz.bit (a&&& ~~~b) i=false:=by rw[h,Lz.Vl]
 rw[Lz.Rl,Lz.ACT _ _ c,d]at this;simpa using this;intro h;apply Lz.OJ;intro i c;rw[Lz.Rl,Lz.ACT _ _ c,Lz.Vl];have:=h i c;cases d:Lz.bit a i<;>simp_all
def AJw(a b:AH):(bits .andNot .u8 (a.toNat:Int) (b.toNat:Int)==0)=Lz.sub a b:=by rw[AQ2,AOC,AQH]
def AJ(l:AA AH):Ce:=⟨l.toArray⟩
def Fz(l):(AJ l).size=l.length:=rfl
def Hf(u:AH):AF:=.int .u8 (u.toNat:Int)
def AL3{w:AN}{B g n a:Nat}{e}{l:AA AH}(h:w.ownsRow B e 1 (.slice (aP g) n a) n<|l.map Hf)(j:Nat)(b:j<l.length):
 w.cell? ⟨g,j,none⟩=some (.int .u8 ((l[j]'b).toNat:Int)):=by
 have c:(l.map Hf).length=n*1:=h.1;rw[DG,TG]at c;have:=h.cellAt j oG;rw[this,GB,BS b];rfl
def AP9(g j):(⟨g,0,none⟩:Au).add j=⟨g,j,none⟩:=by cases j<;>simp[Addr.add]
def Uh{P:B7}{w:AN}{B n:Nat}{src dst e v}{l:AA AH}(h:w.ownsRow B e 1 v n<|l.map Hf)(d:P.underlying src=some (.slice e))
 (c:P.underlying e=some (.int .u8)) (b:P.underlying dst=some .string):(convert src dst v).run P w=.ok (.string<|AJ l) w:=by
 have k:l.length=n:=by have:=h.1;simpa using this
 rcases Go.Joins.ownsRow_forms h with⟨rfl,m⟩|⟨g,a,rfl⟩;have f:l=[]:=Ib oG;subst f;exact run_convert_bytes_nil w src e d c 0 0 dst b;subst k;exact run_convert_bytes_back w src dst e ⟨g,0,none⟩ a l d c b (λj i=>by have:=AL3 h j i;show w.cell? ((⟨g,0,none⟩:Au).add j)=_;rwa[AP9])
def Aa9{P:B7}{w t e}{n:Nat}{a k}{i:Int}{v inf}(j:P.underlying t=some (.array n e))(f:P.underlying e=some .bool)
 (g:P.info? e=some inf) (d:P.cellsOf e=1) (b:0<=i) (c:i<n) (l:a[i.toNat]? =some v):(Instr.index t (.agg a) (.int k i)).run P w=.ok v w:=by
 have h:=run_sizeOf (w:=w) g;simp[Instr.index,run_underlying j,asIntOf,b,c,go_sem,h,d,isAgg,run_underlying f,l]
def YU{w a}(h:∃p:Regrown,a=Go.Sort.grow (redrawn w p.d) p.os):Below w.heap.size w a:=by obtain⟨p,rfl⟩:=h;exact below_regrown w p.d p.os
def Sc{P f a w v}(h:∀W,Below w.heap.size w W->Calls P f a W λe g=>e=.returned v/\Below W.heap.size W g):
 ∀d b,Calls P f a (Go.Sort.grow (redrawn w d) b) λe c=>e=.returned v/\∃p:Regrown,c=Go.Sort.grow (redrawn w p.d) p.os:=λd b=>Calls.regrown_of<|h _<|below_regrown w d b
def AaP{n P f a w v}(h:∀W,Below w.heap.size w W->Calls P f a W λe g=>e=.returned v/\Below W.heap.size W g):
 ∀d b,CallsIn Fence.wide n P f a (Go.Sort.grow (redrawn w d) b) λe c=>e=.returned v/\∃p:Regrown,c=Go.Sort.grow (redrawn w p.d) p.os:=λd b=>CallsIn.regrown_of<|callsIn_wide.2<|h _<|below_regrown w d b
def AOK{x:Int}(h:(Lit.int .u8 x).wf):∃a:AH,x=(a.toNat:Int):=by have b:=bounds_u8 h;refine⟨UInt8.ofNat x.toNat,?_⟩;rw[Lz.Pt oG];omega
def Jc(l):(AJ l).toList=l:=ByteArray.toList_mk l
def IW(l):(AJ l).data.toList=l:=by simp[AJ]
def AX2(x y:Ce):(x++y).data.toList=x.data.toList++y.data.toList:=sP
def Se{a b:Bool}(h:a=b):Ending.returned (.bool a)=.returned (.bool b):=by rw[h]
end
section
open Go.RowKit Go.Shelf
theorem WU(x y:Int)(a b)(c:x=a.toNat)(d:y=b.toNat)(w):Calls prog 82 #[.int .u8 x,.int .u8 y] w λe f=>e=.returned (.bool (Lz.sub a b))/\w=f:=by
 subst c d
 go_enter func82,ntmps82
 go_wp2
 go_ret
 exact⟨Se (AJw a b),rfl⟩
theorem ASM(l:AA AH)(k)(h:k<l.length)(s):Lz.Ig (l.take<|k+1) s=(Lz.Ig (l.take k) s||Lz.sub l[k] s):=by unfold Lz.Ig;rw[Kd h,List.any_append,List.any_cons,List.any_nil,Bool.or_false]
theorem ASL{l k s}(h:Lz.Ig (l.take k) s):Lz.Ig l s:=by let⟨c,a,b⟩:=Lz.M6.1 h;exact Lz.M6.2 ⟨c,Fg a,b⟩
theorem AJr(x:Int)(s)(G:x=s.toNat)(l v)(B n:Nat)(w)(p:w.ownsRow B 5 1 v n (l.map Hf))(F:n<=maxLen):
 Calls prog 259 #[.int .u8 x,v] w λe t=>e=.returned (.bool (Lz.Ig l s))/\w=t:=by
 subst G;have E:l.length=n:=by have:=p.1;simpa using this
 obtain⟨a,cap,rfl⟩:∃a cap,v=.slice a n cap:=by rcases Go.Joins.ownsRow_forms p with⟨y,z⟩|⟨g,cap,h⟩;exact⟨none,0,by rw[y,z]⟩;exact⟨_,_,h⟩
 have C:Hid (∀j (h:j<l.length),∃b,a=some ⟨b,0,none⟩/\w.cell? ⟨b,j,none⟩=some (.int .u8 ((l[j]'h).toNat:Int))):=by
  intro j h;rcases Go.Joins.ownsRow_forms p with⟨y,z⟩|⟨g,m,D⟩;omega;obtain⟨rfl,-,rfl⟩:a=some ⟨g,0,none⟩/\n=n/\cap=m:=by simpa using D
  exact⟨g,rfl,AL3 p j h⟩
 rw[maxLen]at F;subst E
 go_enter func259,ntmps259
 go_wp2
 go_loop [6,9] (λ_ i=>∃k:Nat,k<=l.length/\i=.int .i64 k/\Lz.Ig (l.take k) s=false) (λ_ i=>l.length-(intOf i).toNat)
 case atStart=>exact⟨0,Bm _,rfl,rfl⟩
 case round=>
  obtain⟨k,H,rfl,A⟩:=hrel;have u:=Lib.hid A;by_cases o:k<l.length
  .obtain⟨b,rfl,r⟩:=C.out k o;have c:=ASM l k o s;rw[u.out,AGI]at c;have d:=Lib.hid c;cases q:Lz.sub l[k] s with
   |true=>
    have f:=Lib.hid q
    go_wp2_with (go_at_call 82;refine(WU _ _ _ _ rfl rfl _).mono ?_;rintro e t ⟨rfl,rfl⟩;rw[f.out])
    go_ret
    exact⟨Se (ASL (by rw[d.out,f.out])).symm,rfl⟩
   |false=>
    have f:=Lib.hid q
    go_wp2_with (go_at_call 82;refine(WU _ _ _ _ rfl rfl _).mono ?_;rintro e t ⟨rfl,rfl⟩;rw[f.out])
    go_round
    case rel=>exact⟨k+1,oG,by go_num,by rw[d.out,f.out]⟩
    case measure=>simp[intOf];omega
  .go_wp2
   go_ret
   exact⟨Se (by rw[<-u.out,Na oG]),rfl⟩
def PY(l:AA AH):Ae AF:=((List.range 256).map λn=>Value.bool<|l.contains<|UInt8.ofNat n).toArray
theorem AJo(l n)(h:n<256):(PY l)[n]? =some (.bool<|l.contains<|UInt8.ofNat n):=by simp[PY,Mv,GB,AGV h,LN]
theorem AU5(l u):(PY l).setIfInBounds u.toNat tV=PY (l++[u]):=by
 rw[PY];rw[List.setIfInBounds_toArray];congr 1;apply List.ext_getElem;simp;intro i d a;have c:i<256:=by simpa using a
 rw[AGW,List.getElem_map,List.getElem_map,List.getElem_range];by_cases h:u.toNat=i;subst h;simp;rw[AY h];have b: ¬(UInt8.ofNat i=u):=λe=>h (by rw[<-e];exact Lz.Pt c);congr 1;rw[F0,ABV,ABV,Bc,A9];exact⟨.inl,λx=>x.elim id λy=>absurd y b⟩
theorem AeS(w):(zeroValue 369).run prog w=.ok (.agg<|PY []) w:=kR
theorem AVu:∃i,prog.info? 4=some i:=info_of_underlying underlying4
theorem ARX:prog.cellsOf 4=1:=kR
theorem AJy(w)(l:AA AH)(n)(h:n<256)(b:Bool)(a:l.contains (UInt8.ofNat n)=b):(Instr.index 369 (.agg<|PY l)<|nV n).run prog w=.ok (.bool b) w:=by let⟨i,c⟩:=AVu;rw[<-a];exact Aa9 underlying369 underlying4 c ARX oG oG<|AJo l n h
theorem Zj(l k):(Lz.HH l k).length<=k:=by
 induction k with
 |zero=>simp[Lz.HH]
 |succ k a=>
  rw[Lz.HH];split;simp;exact a;omega
theorem Qn:(prog.info? 5).map (λi=>(i.zero,i.size,i.bytes))=some (some<|.int .u8 0,1,1):=kR
theorem AXA(s:Ce)(w:AN)(hs:s.size<=maxLen):
 Calls prog 180 #[.string s] w λe t=>e=.returned (.string (AJ (Lz.least s.data.toList)))/\Below w.heap.size w t:=by
 rw[maxLen]at hs;have z:=AeS w;let⟨i0,hi,p,q,r⟩:=info_parts Qn
 go_enter func180,ntmps180
 go_wp2_with fail
 go_loopw [4,10] (λ_ i wr=>∃k:Nat,k<=s.size/\i=.int .i64 k/\wr=w.alloc (.cells (PY (s.data.toList.take k)) 369)) (λ_ i _=>s.size-(intOf i).toNat)
 case atStart=>exact⟨0,Bm _,rfl,rfl⟩
 case round=>
  obtain⟨k,hk,rfl,rfl⟩:=hrel;by_cases c:k<s.size
  .have hb:(s[k].toNat:Int)<256:=by have:=s[k].toNat_lt;omega
   have x:=AJo (s.data.toList.take k) s[k].toNat s[k].toNat_lt;have g:=AU5 (s.data.toList.take k) s[k];have HS:=Lib.hid g;clear g
   go_wp2
   rw[HS.out]
   go_roundw
   case rel=>exact⟨k+1,oG,by go_num,by rw[Kd (by simpa using c)];rfl⟩
   case measure=>simp[intOf];omega
  .obtain rfl:k=s.size:=oG;have f:s.data.toList.take s.size=s.data.toList:=Na sP;rw[f];clear f c hk
   go_wp2_with (refine wpList_load_row rfl 369 _ rfl w.heap.size rfl 369 _ (0,0) _ (heap_alloc_new _ _) underlying369 rfl kR ?_)
   go_loopw [5,19] (λv i wr=>∃k:Nat,k<=256/\i=.int .i64 k/\wr.ownsRow (w.heap.size+1) 5 1 v (Lz.HH s.data.toList k).length ((Lz.HH s.data.toList k).map Hf)/\Below (w.heap.size+1) (w.alloc (.cells (PY s.data.toList) 369)) wr) (λ_ i _=>256-(intOf i).toNat)
   case atStart=>exact⟨0,oG,rfl,World.ownsRow_nil _ _ _ _,Below.refl _ _⟩
   case round=>
    obtain⟨k,hk,rfl,b,h⟩:=hrel;by_cases c:k<256
    .cases a:s.data.toList.contains (UInt8.ofNat k)with
     |false=>
      have o:=AJy wr s.data.toList k c false a;have hl:Lz.HH s.data.toList (k+1)=Lz.HH s.data.toList k:=by rw[Lz.HH,a];rfl
      have HL:=Lib.hid hl;have u:=Lib.hid a;clear hl a
      go_wp2
      go_roundw
      case rel=>exact⟨k+1,oG,by go_num,by rwa[HL.out],h⟩
      case measure=>simp[intOf];omega
     |true=>
      have o:=AJy wr s.data.toList k c true a;have hlen:=Zj s.data.toList k;cases d:Lz.Ig (Lz.HH s.data.toList k) (UInt8.ofNat k)with
      |true=>
       have hl:Lz.HH s.data.toList (k+1)=Lz.HH s.data.toList k:=by rw[Lz.HH,a,d];rfl
       have HL:=Lib.hid hl;have u:=Lib.hid a;have n:=Lib.hid d;clear hl a d
       go_wp2_with (go_at_call 259;refine(AJr _ (UInt8.ofNat k) (by rw[Lz.Pt c]) _ _ _ _ _ b lO).mono ?_;rintro e t ⟨rfl,rfl⟩;rw[n.out])
       go_roundw
       case rel=>exact⟨k+1,oG,by go_num,by rwa[HL.out],h⟩
       case measure=>simp[intOf];omega
      |false=>
       have hl:Lz.HH s.data.toList (k+1)=Lz.HH s.data.toList k++[UInt8.ofNat k]:=by rw[Lz.HH,a,d];rfl
       have HL:=Lib.hid hl;have u:=Lib.hid a;have n:=Lib.hid d;clear hl a d
       go_wp2_with (first|(go_at_call 259;refine(AJr _ (UInt8.ofNat k) (by rw[Lz.Pt c]) _ _ _ _ _ b lO).mono ?_;rintro e t ⟨rfl,rfl⟩;rw[n.out])|(at_builtin;refine wpList_append_own _ rfl _ _ 23 rfl (w.heap.size+1) 5 i0 (.int .u8 0) 1 1 underlying23 hi p q r rfl dC _ _ _ rfl (b.alloc _) ⟨wr.heap.size,0,none⟩ 1 1 [.int .u8 k] rfl rfl (cell_one_new _ _ _) (EQ.1 rfl) lO oG (by have:=h.size;simp at this;simp;omega) ?_;intro v' w1 m l _))
       go_roundw
       case rel=>
        refine⟨k+1,oG,by go_num,?_,?_⟩;rw[HL.out];simpa[Hf,Lz.Pt c]using m;exact(h.alloc (by have:=h.size;simp at this;omega) _).grown l (by have:=h.size;simp at this;simp;omega) (λj e=>(b.lt j e).1)
       case measure=>simp[intOf];omega
    .obtain rfl:k=256:=oG;have y:=Uh (P:=prog) b underlying23 underlying5 underlying9
     go_wp2
     go_ret
     exact⟨rfl,((Below.refl _ w).alloc (Ag _) _).trans (h.mono oG)⟩
structure E5(B b:Nat)(w a:AN):Prop where
 os:a.os=w.os
 tape:a.tape=w.tape
 output:a.output=w.output
 size:w.heap.size<=a.heap.size
 block:∀k,k<B->k≠b->a.heap[k]? =w.heap[k]?
theorem E5.refl(B b w):E5 B b w w:=⟨rfl,rfl,rfl,Ag _,λ_ _ _=>rfl⟩
def E5.trans{B b x y z}(h:E5 B b x y)(k:E5 B b y z):E5 B b x z:=
 ⟨k.os.trans h.os,k.tape.trans h.tape,k.output.trans h.output,Ch h.size k.size,λi a c=>(k.block i a c).trans<|h.block i a c⟩
def E5.of_below{B b w a}(h:Below B w a):E5 B b w a:=⟨h.os,h.tape,h.output,h.size,λk c _=>h.block k c⟩
def E5.below{B b B' w a}(h:E5 B b w a)(c:B'<=B)(d:B'<=b):Below B' w a:=⟨h.os,h.tape,h.output,h.size,λk e=>h.block k oG oG⟩
def E5.setCell{B b}(w j v):E5 B b w (w.setCell ⟨b,j,none⟩ v):=⟨rfl,rfl,rfl,by simp[World.setCell],λk _ a=>Below.heap_setCell _ _ _ _ a⟩
def AIE{g:Type}{B b w}(h:B<=w.heap.size):OwnFrom w.heap.size (λ(_:g) W=>E5 B b w W):=by intro s X Y f c a d;refine c.trans ⟨a.os,a.tape,a.output,a.size,λk i _=>a.block k (by have:=c.size;omega) λe=> ?_⟩;have:=(d k e.symm).1;omega
def SG{w:AN}{a}(h:a<w.heap.size)(W:AN)(l)(o b:Obj)(c:w.heap.size<=l)(_:W.heap[l]? =some o)(_:o.isCells=false)(_:o.isWalk=false):(W.putObj l b).heap[a]? =W.heap[a]? :=
 World.putObj_heap_other oG
def Lq{n P f a w R}(h:Calls P f a w R):CallsIn Fence.wide n P f a w R:=callsIn_wide.2 h
def AH2{W l d B g j e f v v' sb k m tmp}(b:Boxed W g j sb)(i:j≠e)(h:g≠B)(c:W.ownsRow d e f v k m)
 (a:(W.alloc tmp).grownBy l v.ownBlock):Boxed (l.setCell ⟨B,0,none⟩ v') g j sb:=
 (Below.heap_setCell _ _ _ _ h).trans<|(b.alloc tmp).kept a<|b.not_row i c
def Td{e:Type}(A B:Nat)(t u:BN)(f:e->AF)(g:e->AF):Own (λs W=>Boxed W A t (f s)/\Boxed W B u (g s)):=by rintro s X Y h ⟨b,c⟩ d a;exact⟨(grownBy_keeps_cells d a b rfl).trans b,(grownBy_keeps_cells d a c rfl).trans c⟩
def AL5{W d B n e v l tmp}(b:W.ownsRow B e 1 v n l)(a:(W.alloc tmp).grownBy d v.ownBlock):KeepsOthers W d:=by
 refine(KeepsOthers.alloc W tmp).trans<|KeepsOthers.of_grownBy a λj o f h=> ?_;rcases(b.alloc tmp).2 with⟨rfl,_⟩|⟨g,i,k,rfl,_,c,_⟩;simp[Value.ownBlock]at f;obtain rfl:g=j:=by simpa[Value.ownBlock]using f
 rw[c]at h;cases h;rfl
def Vs{W c b g U t v u tmp}(h:Boxed W b t v)(a:(W.alloc tmp).grownBy c<|some g)(d:b≠g)(e:b≠U):Boxed (c.setCell ⟨U,0,none⟩ u) b t v:=
 (Below.heap_setCell _ _ _ _ e).trans<|(h.alloc tmp).kept a<|by simpa using d
def LV{a b W d t v}(h:Boxed W b t v)(e:Below a W d)(c:b<a):Boxed d b t v:=(e.block b c).trans h
def YZ{c:Type}(A t v):Own (λ(_:c) W=>Boxed W A t v):=λ_ _ _ _ h b a=>(grownBy_keeps_cells b a h rfl).trans h
section
attribute [local go_sem] Oper.semAt_some
theorem Acl(s:Ce)(k)(h:k<s.size):s.data.toList.take (k+1)=s.data.toList.take k++[s[k]]:=by rw[Kd<|by simpa using h];rfl
theorem ASw(F:Fence)(n:Nat)(z:F.fn 181)(p:F.round=none)(B:1<=n)(l a:Nat)(s:Ce)(hs:s.size<=1000000)(J r:AA AH->AN->Prop)
 (w:∀pre x W,J pre W->pre.length<s.size->YieldAt F (n-1) prog l #[.int .u8 (x.toNat:Int)] W λe W'=>
   (e=.returned tV/\J (pre++[x]) W'/\W'.heap[a]? =W.heap[a]?)\/(e=.returned fV/\r (pre++[x]) W'))
 (W:AN) (h:W.cell? ⟨a,0,none⟩=some (.string s)) (h0:J [] W):
 CallsIn F n prog 181 #[.func (.yield l) #[] #[],.pointer (aP a)] W λe W'=>(∃v,e=.returned v)/\
  ((∃t,t=s.data.toList/\J t W')\/(∃pre,pre<+:s.data.toList/\r pre W')):=by
 refine callsIn_of_wp func181 rfl z ?_ p;simp only[ntmps181,Iv,FM,KJ,Nat.reduceAdd,Nat.reduceSub,LF,LH,LK,LI,F2,F1]
 gi_wp2
 gi_loopw [3,6] (λ_ i wr=>∃k:Nat,k<=s.size/\i=.int .i64 k/\J (s.data.toList.take k) wr/\wr.heap[a]? =W.heap[a]?)
  (λ_ i _=>s.size-(intOf i).toNat)
 case atStart=>exact⟨0,Bm _,rfl,h0,rfl⟩
 case round=>
  obtain⟨k,hk,rfl,b,f⟩:=hrel;have y:wr.cell? ⟨a,0,none⟩=some (.string s):=(World.cell?_of_block (w:=W) (a:=⟨a,0,none⟩) f).trans h;by_cases o:k<s.size
  .have g:=Acl s k o;have q:=Lib.hid g;let⟨fn,tmps,assign,body,C,u⟩:=w _ s[k] wr b (by rw[Cu];omega)
   gi_wp2
   refine u.mono ?_;rintro e A (⟨rfl,j,m⟩|⟨rfl,c⟩)
   .gi_wp2
    go_roundw
    case rel=>exact⟨k+1,oG,by go_num,by rwa[q.out],m.trans f⟩
    case measure=>simp[intOf];omega
   .gi_wp2
    refine bodyPost_ret (results_none rfl _ _ _) rfl ?_;exact⟨⟨_,rfl⟩,.inr ⟨_,by rw[<-q.out];exact List.take_prefix _ _,c⟩⟩
  .obtain rfl:k=s.size:=oG;have d:s.data.toList.take s.size=s.data.toList:=Na sP;rw[d]at b
   gi_wp2
   go_end0
   exact⟨⟨_,rfl⟩,.inl ⟨_,rfl,b⟩⟩
theorem V4(F n)(b:F.fn 129)(a:F.round=none)(s w):
 CallsIn F n prog 129 #[.string s] w λe c=>e=.returned (.func (.func 181) #[] #[.pointer (aP w.heap.size)])/\c=w.alloc (.cells #[.string s] 40):=by
 refine callsIn_of_wp func129 rfl b ?_ a;simp[ntmps129,Iv,FM,KJ,Nat.reduceAdd,Nat.reduceSub,LF,LH,LK,LI,F2,F1]
 gi_wp2
 go_ret
 exact⟨rfl,rfl⟩
theorem V5(F)(n:Nat)(i:F.fn 181)(d:F.round=none)(j:1<=n)(a:Nat)(s)(k:s.size<=1000000)(w)(b:a<w.heap.size)
 (h:w.cell? ⟨a,0,none⟩=some (.string s)):
 SeqStopsK F n prog 181 #[.pointer<|aP a] (λx:AH=>#[Value.int .u8 (x.toNat:Int)]) (λA B=>B.heap[a]? =A.heap[a]?) (λm=>m=s.data.toList) (λpre=>pre<+:s.data.toList) s.size w:=λl J e W hW _ _ g f=>by
 exact ASw F n i d j l a s k J e g W ((hW.cell (p:=⟨a,0,none⟩) b).trans h) f
end
section
attribute [local go_sem] Oper.semAt_some
theorem AQG(x):bits .and .u8 (x.toNat:Int) 63=((Lz.clip x).toNat:Int):=by have h:=ACU x 63;rw[show((63:AH).toNat:Int)=63 from rfl]at h;exact h
theorem UV(l):(Lz.DO l).length<=256:=Zj _ 256
theorem AYt(s)(hs:s.size<=1000000)(w):
 CallsIn Fence.wide 6 prog 128 #[.string s] w λe J=>e=.returned (.string (AJ (Lz.DO s.data.toList)))/\Below w.heap.size w J:=by
 let⟨i0,hi,u,y,z⟩:=info_parts Qn;refine callsIn_of_wp_marks func128 rfl trivial ?_ rfl;simp[ntmps128,LF]
 gi_wp2_with (gi_at_make;refine wpListIn_make_own _ rfl _ _ 23 rfl w.heap.size 5 i0 (.int .u8 0) 1 underlying23 hi u y .i64 .i64 _ s.size rfl rfl rfl (by rw[z];omega) lO (Ag _) ?_;intro w1 q d)
 have r:=d.size
 gi_wp2_with (refine⟨trivial,?_⟩;gi_at_call 129;refine(V4 Fence.wide _ trivial rfl _ _).mono ?_;rintro e J ⟨rfl,rfl⟩)
 have L:=Boxed.new w1 23 (.slice (aP w.heap.size) 0 s.size);have B:=Boxed.new (w1.alloc (.cells #[.slice (aP w.heap.size) 0 s.size] 23)) 40 (.string s);rw[World.size_alloc]at B;have C:Below w.heap.size w ((w1.alloc (.cells #[.slice (aP w.heap.size) 0 s.size] 23)).alloc (.cells #[.string s] 40)):=
  (((Below.refl _ w).grown d (Ag _) (λk e=>by cases e)).alloc r _).alloc (by simp;omega) _
 refine wpIn_rangeFunc_ownG rfl oG (gf:=181) (lb:=#[.pointer (aP (w1.heap.size+1))]) rfl trivial (enters_of func181 kR rfl)
  (V5 Fence.wide (6-1) trivial rfl oG (w1.heap.size+1) s hs _ sP B.cell) (λh k=>k.trans h) (SG sP) (Below.refl _ _) (λ_=>rfl)
  (λ(pre:AA AH) W=>(∃v,Boxed W w1.heap.size 23 v/\W.ownsRow w.heap.size 5 1 v pre.length ((pre.map Lz.clip).map Hf)/\True)/\Boxed W (w1.heap.size+1) 40 (.string s)/\Below w.heap.size w W)
  (λ_ _ _=>False)
  (OwnFrom.and (Own.from (holdsRow_own w.heap.size w1.heap.size 23 5 1 (λpre:AA AH=>pre.length) (λpre=>(pre.map Lz.clip).map Hf) (λ_ _=>True)) _) (OwnFrom.and (Own.from (YZ _ _ _) _) (ownFrom_below (Ag _) (by simp;omega))))
  (λ_ _ _ _ _ hs _ _=>hs)
  ⟨⟨_,L.alloc _,(q.alloc _).alloc _,trivial⟩,B,C⟩
  ?_ ?assign ?body ?done ?stop
 case assign=>
  intro l x W K p
  gi_wp2
  exact p
 case body=>
  rintro l pre x W ⟨⟨v,A,a,_⟩,j,n⟩ R;have hc:=A.cell;have N:=AQG x;have H:=n.size
  gi_wp2_with (gi_at_builtin;refine wpListIn_append_own _ rfl _ _ 23 rfl w.heap.size 5 i0 (.int .u8 0) 1 1 underlying23 hi u y z rfl dC _ _ _ rfl (a.alloc _) ⟨W.heap.size,0,none⟩ 1 1 [.int .u8 ((Lz.clip x).toNat:Int)] rfl rfl (cell_one_new _ _ _) (EQ.1 rfl) lO oG (by simp;omega) ?_;intro v' w2 f b _;obtain⟨M,m,rfl⟩:=ownsRow_succ f;let⟨t,I,G,F,E⟩:=A.appended dC a H r f b;have P:=t.cell;have Q:=t.frozen)
  have g:=AH2 (B:=w1.heap.size) (v':=.slice (aP M) (pre.length+1) m) j dC oG a b;exact⟨F.from _,g.trans j.symm,⟨_,I,by rwa[CK,E3,E3],trivial⟩,g,n.trans E⟩
 case done=>
  rintro D T W O rfl ⟨⟨v,A,a,_⟩,j,n⟩ p;have hc:=A.cell;have S:=Uh (P:=prog) a underlying23 underlying5 underlying9;have hl:s.data.toList.length=s.size:=sP;have HL:=Lib.hid hl
  gi_wp2_with (refine⟨trivial,?_⟩;gi_at_call 180;refine(Lq (AXA _ _ (by rw[Fz,DG,HL.out];rw[maxLen];omega))).mono ?_;rintro e w3 ⟨rfl,i⟩)
  rw[World.size_alloc,World.size_alloc]at O;have o:=(Ls.1 p).1;refine⟨sP,.inl ⟨_,_,rfl,run_takeDeferred ((i.block D o).trans p),?_⟩⟩;exact⟨_,results_tmp rfl _ _ _,by rw[IW];rfl,(n.trans (i.mono n.size)).trans (belowK_b (w:=w) (Ag _) _ D _ _ oG ((i.block D o).trans p) rfl rfl)⟩
 case stop=>
  rintro D c pre W _ _ h _;exact h.elim
theorem Nx(s)(a:s.size<=1000000)(w):
 Calls prog 128 #[.string s] w λe b=>e=.returned (.string<|AJ<|Lz.DO s.data.toList)/\Below w.heap.size w b:=callsIn_wide.1<|AYt s a w
end
section
attribute [local go_sem] Oper.semAt_some Fz
theorem TV(a b)(h:a.size<=1000000)(i:b.size<=1000000)(w):
 Calls prog 75 #[.string a,.string b] w λe j=>e=.returned (.string (AJ (Lz.and a.data.toList b.data.toList)))/\Below w.heap.size w j:=by
 have k:=UV a.data.toList;have l:=UV b.data.toList
 go_enter func75,ntmps75
 go_wp2_with fail
 refine(Nx a h _).mono ?_;rintro e m ⟨rfl,c⟩
 go_wp2_with fail
 refine(Nx b i _).mono ?_;rintro e n ⟨rfl,d⟩
 go_wp2_with fail
 refine(Nx _ (by simp[AGK,Fz];omega) _).mono ?_;rintro e o ⟨rfl,f⟩;rw[AX2,IW,IW]
 go_wp2
 go_ret
 have g:=c.trans (d.mono c.size);exact⟨rfl,g.trans (f.mono g.size)⟩
theorem Zv{x y}{b:Bool}(h:Lz.meets x y=b):(bits .and .u8 (x.toNat:Int) (y.toNat:Int)==0)= !b:=by rw[ACU,AOC,<-h];rw[Lz.meets];cases a:(x&&&y==0)<;>simp_all
theorem AJs(l c x):Lz.Eo (l++[c]) x=(Lz.Eo l x&&Lz.meets c x):=by simp[Lz.Eo,ABU]
theorem AVL{l m x}(h:l<+:m)(a:Lz.Eo l x=false):Lz.Eo m x=false:=by obtain⟨r,rfl⟩:=h;unfold Lz.Eo at*;rw[ABU,a];rfl
theorem AVJ(s)(G:s.size<=1000000)(z w):
 CallsIn Fence.wide 6 prog 166 #[.string s,.int .u8 (z.toNat:Int)] w λe B=>e=.returned (.bool (Lz.Eo s.data.toList z))/\Below w.heap.size w B:=by
 refine callsIn_of_wp_marks func166 rfl trivial ?_ rfl;simp[ntmps166,LF]
 gi_wp2_with (refine⟨trivial,?_⟩;gi_at_call 129;refine(V4 Fence.wide _ trivial rfl _ _).mono ?_;rintro e B ⟨rfl,rfl⟩)
 have C:=Boxed.new w 5 (.int .u8 (z.toNat:Int));have y:=Boxed.new (w.alloc (.cells #[.int .u8 (z.toNat:Int)] 5)) 4 fV;have A:=Boxed.new ((w.alloc (.cells #[.int .u8 (z.toNat:Int)] 5)).alloc (.cells #[.bool false] 4)) 40 (.string s);rw[World.size_alloc]at y;rw[World.size_alloc,World.size_alloc]at A;have o:Below w.heap.size w (((w.alloc (.cells #[.int .u8 (z.toNat:Int)] 5)).alloc (.cells #[.bool false] 4)).alloc (.cells #[.string s] 40)):=
  (((Below.refl _ w).alloc (Ag _) _).alloc sP _).alloc sO _
 refine wpIn_rangeFunc_ownG rfl oG (gf:=181) (lb:=#[.pointer (aP (w.heap.size+2))]) rfl trivial (enters_of func181 kR rfl)
  (V5 Fence.wide (6-1) trivial rfl oG (w.heap.size+2) s G _ sP A.cell) (λh k=>k.trans h) (SG sP) (Below.refl _ _) (λ_=>rfl)
  (λ(pre:AA AH) W=>(Boxed W w.heap.size 5 (.int .u8 (z.toNat:Int))/\Boxed W (w.heap.size+1) 4 fV)/\(Lz.Eo pre z/\Below w.heap.size w W))
  (λc (pre:AA AH) W=>Boxed W (w.heap.size+1) 4 fV/\((c=.ret/\Lz.Eo pre z=false)/\Below w.heap.size w W))
  (OwnFrom.and (Own.from (Td _ _ _ _ (λ_=>.int .u8 (z.toNat:Int)) (λ_=>.bool false)) _) (OwnFrom.and (ownFrom_pure _ _) (ownFrom_below (Ag _) sO)))
  (λc=>OwnFrom.and (Own.from (YZ _ _ _) _) (OwnFrom.and (ownFrom_pure _ _) (ownFrom_below (Ag _) sO)))
  ⟨⟨(C.alloc _).alloc _,y.alloc _⟩,rfl,o⟩
  ?_ ?assign ?body ?done ?stop
 case assign=>
  intro l x W K f
  gi_wp2
  exact f
 case body=>
  rintro l pre x W ⟨⟨v,b⟩,d,j⟩ F;have E:=v.cell;have t:=b.cell;have u:=b.frozen;cases m:Lz.meets x z with
  |true=>
   have H:=Zv m;have a:Lz.Eo (pre++[x]) z:=by rw[AJs,d,m];rfl
   have HS:=Lib.hid a
   gi_wp2
   exact⟨KeepsFrom.refl _ _,rfl,⟨v,b⟩,HS.out,j⟩
  |false=>
   have H:=Zv m;have a:Lz.Eo (pre++[x]) z=false:=by rw[AJs,d,m];rfl
   have HS:=Lib.hid a
   gi_wp2
   exact⟨(KeepsOthers.setCell _ _ _).from _,b.set _,⟨rfl,HS.out⟩,j.setCell (p:=⟨w.heap.size+1,0,none⟩) (Cv _) _⟩
 case done=>
  rintro D I W q rfl ⟨⟨v,b⟩,d,j⟩ f;have t:=b.cell;have u:=b.frozen;rw[World.size_alloc,World.size_alloc,World.size_alloc]at q
  gi_wp2
  have g:=(KeepsOthers.setCell W ⟨w.heap.size+1,0,none⟩ tV).same D _ f rfl;refine⟨sP,.inl ⟨_,_,rfl,run_takeDeferred g,?_⟩⟩;have i:=cell_kept ((b.set tV).cell) (grownBy_putObj' _ D (.deferred none)) (λr e=>by cases e;exact⟨_,g,rfl⟩);have p:=j.setCell (p:=⟨w.heap.size+1,0,none⟩) (Cv _) tV;refine⟨.bool true,?_,by rw[d],p.trans (belowK_b (w:=w) (Ag _) _ D _ _ oG g rfl rfl)⟩;simp[results,f166,go_sem,i]
 case stop=>
  rintro D c pre W q n ⟨b,⟨rfl,d⟩,j⟩ f;rw[World.size_alloc,World.size_alloc,World.size_alloc]at q
  gi_wp2
  refine⟨sP,.inl ⟨_,_,rfl,run_takeDeferred f,?_⟩⟩;have i:=cell_kept b.cell (grownBy_putObj' _ D (.deferred none)) (λr e=>by cases e;exact⟨_,f,rfl⟩);refine⟨.bool false,?_,by rw[AVL n d],j.trans (belowK_b (w:=w) (Ag _) W D _ _ oG f rfl rfl)⟩;simp[results,f166,go_sem,i]
theorem AVI(s)(a:s.size<=1000000)(x:Int)(z)(b:x=z.toNat)(w):
 Calls prog 166 #[.string s,.int .u8 x] w λe c=>e=.returned (.bool<|Lz.Eo s.data.toList z)/\Below w.heap.size w c:=by
 subst b;exact callsIn_wide.1<|AVJ s a z w
end
section
attribute [local go_sem] Oper.semAt_some Fz
theorem AM6{h:Type}(b B:Nat)(t e:BN)(f:h->AF)(k:h->Nat)(v:h->AA AF):Own (λs W=>Boxed W B t (f s)/\W.ownsRow b e 1 (f s) (k s) (v s)):=by rintro s X Y u ⟨i,j⟩ l a;refine⟨(grownBy_keeps_cells l a i rfl).trans i,j.kept l ?_⟩;rcases j.2 with⟨d,_⟩|⟨g,n,p,d,_,c,_⟩;rw[d];exact .inl rfl;rw[d];refine .inr λq=> ?_;let⟨o,m,r⟩:=a g (by simpa[Value.ownBlock]using q.symm);rw[c]at m;cases m;cases r
theorem AOR(l m c):Lz.F8 (l++[c]) m=Lz.F8 l m++m.map λd=>c|||d:=by simp[Lz.F8]
theorem AOQ(l m):(Lz.F8 l m).length=l.length*m.length:=by
 induction l with
 |nil=>simp[Lz.F8]
 |cons c l a=>
  have:Lz.F8 (c::l) m=(m.map λd=>c|||d)++Lz.F8 l m:=by simp[Lz.F8]
  rw[this,CK,DG,a,FM,AfR];omega
theorem Aay{i j n m}(a:i<n)(b:j<m):i*m+j+1<=n*m:=by have:(i+1)*m<=n*m:=TF _ a;rw[AfR]at this;omega
theorem wrap_mul(x y:Nat)(c:x<=256)(d:y<=256):wrap64 ((x:Int)*(y:Int))=((x*y:Nat):Int):=by have a:x*y<=256*256:=VR c d;have b:((x*y:Nat):Int)=(x:Int)*(y:Int):=Int.natCast_mul x y;rw[<-b];generalize x*y=q at a⊢;rw[wrap64];omega
theorem or_eq(a b):Lz.DO (Lz.F8 (Lz.DO a)<|Lz.DO b)=Lz.or a b:=rfl
theorem mixedOrders:prog.follows .mixedOrders:=kR
theorem AZP(a b:Ce)(ha:a.size<=1000000)(hb:b.size<=1000000)(w:AN):
 CallsIn Fence.wide 9 prog 96 #[.string a,.string b] w λe w'=>e=.returned (.string (AJ (Lz.or a.data.toList b.data.toList)))/\Below w.heap.size w w':=by
 let⟨i0,hi,a2,ar,a3⟩:=info_parts Qn;have mixed:=mixedOrders;have N:=Boxed.new w 40 (.string b);have an:=N.cell;refine callsIn_of_wp_marks func96 rfl trivial ?_ rfl;simp[ntmps96,LF]
 gi_wp2
 have N:Boxed (w.alloc (.cells #[.string b] 40)).drew w.heap.size 40 (.string b):=N;have H:w.heap.size<(w.alloc (.cells #[.string b] 40)).drew.heap.size:=sP;have A:Below w.heap.size w (w.alloc (.cells #[.string b] 40)).drew:=((Below.refl _ w).alloc (Ag _) _).drew;refine wpIn_mono (Q:=λ | .normal,a',w'=>(Boxed w' w.heap.size 40 (.string (AJ (Lz.DO b.data.toList)))/\Below w.heap.size w w'/\w.heap.size<w'.heap.size)/\a'= {tmps:=#[.string (AJ (Lz.DO a.data.toList)),.string b,undef,.pointer (aP w.heap.size),.string {data:=#[]},undef,undef,undef,.string a,.string (AJ (Lz.DO a.data.toList)),.string b,.string (AJ (Lz.DO b.data.toList)),undef,undef,undef,undef,undef,undef,undef,undef,undef,undef,undef,undef,undef,undef,undef,undef,undef,undef,undef,undef,undef],defers:=[]}|_,_,_=>False) ?first ?Eh
 case first=>
  gi_region_with_o (refine⟨trivial,?_⟩;gi_at_call 128;refine(Lq (Nx _ aS _)).mono ?_;rintro e j ⟨rfl,ae⟩;have N:=LV N ae H;have H:=QA H ae.size;have A:=A.trans (ae.mono A.size);have an:=N.cell;have bf:=N.frozen)
  all_goals refine⟨⟨N.set _,A.setCell (p:=⟨w.heap.size,0,none⟩) (Ag _) _,?_⟩,rfl⟩
  all_goals simpa[World.setCell]using H
 case Eh=>
  rintro ex a' j hq;cases ex with
  |normal=>
   obtain⟨⟨bN,av,a1⟩,rfl⟩:=hq;have la:=UV a.data.toList;have lb:=UV b.data.toList;have U:=Lib.hid (or_eq a.data.toList b.data.toList);generalize Lz.DO a.data.toList=i at la U⊢;generalize Lz.DO b.data.toList=g at lb bN U⊢;have ax:=bN.cell;have R:=wrap_mul i.length g.length la lb;have ag:i.length*g.length<=256*256:=VR la lb;have Q:=Lib.hid R;clear R;obtain⟨C,hC⟩:∃C,C=i.length*g.length:=⟨_,rfl⟩;rw[<-hC]at Q ag;have HC:=Lib.hid hC;clear hC;clear an mixed N H A
   gi_wp2_with (gi_at_make;refine wpListIn_make_own _ rfl _ _ 23 rfl j.heap.size 5 i0 (.int .u8 0) 1 underlying23 hi a2 ar .i64 .i64 _ C rfl rfl Q.out (by rw[a3];omega) lO (Ag _) ?_;intro w2 E q)
   have bb:=q.size;have s:=bN.kept q sP;have ab:Below w.heap.size w w2:=av.grown q (Ly a1) (λk e=>by cases e)
   gi_wp2_with (refine⟨trivial,?_⟩;gi_at_call 129;refine(V4 Fence.wide _ trivial rfl _ _).mono ?_;rintro e w' ⟨rfl,rfl⟩)
   have bU:=(Boxed.new w2 23 (.slice (aP j.heap.size) 0 C)).alloc (.cells #[.string (AJ i)] 40);have bA:=Boxed.new (w2.alloc (.cells #[.slice (aP j.heap.size) 0 C] 23)) 40 (.string (AJ i));have aj:=(s.alloc (.cells #[.slice (aP j.heap.size) 0 C] 23)).alloc (.cells #[.string (AJ i)] 40);have F:=(E.alloc (.cells #[.slice (aP j.heap.size) 0 C] 23)).alloc (.cells #[.string (AJ i)] 40);have a8:=(E.lt j.heap.size rfl).2;have ac:=(ab.alloc ab.size (.cells #[.slice (aP j.heap.size) 0 C] 23)).alloc (by have:=ab.size;simp;omega) (.cells #[.string (AJ i)] 40);simp[World.size_alloc]at bA;have T:((w2.alloc (.cells #[.slice (aP j.heap.size) 0 C] 23)).alloc (.cells #[.string (AJ i)] 40)).heap.size=w2.heap.size+2:=sP;obtain⟨W0,am⟩:∃W0,(w2.alloc (.cells #[.slice (aP j.heap.size) 0 C] 23)).alloc (.cells #[.string (AJ i)] 40)=W0:=⟨_,rfl⟩;rw[am]at bU bA aj F ac T⊢;have a9:w2.heap.size+2<=W0.heap.size:=oG;clear am E s bN ax T;refine wpIn_rangeFunc_ownH rfl oG (gf:=181) (lb:=#[.pointer (aP (w2.heap.size+1))]) rfl trivial (enters_of func181 kR rfl)
    (V5 Fence.wide (9-1) trivial rfl oG (w2.heap.size+1) (AJ i) (by rw[Fz];omega) W0 oG bA.cell) (λh k=>k.trans h) (SG oG) (Below.refl _ _) (λ_=>rfl)
    (λ(pre:AA AH) W=>(Boxed W w2.heap.size 23 (.slice (aP j.heap.size) (Lz.F8 pre g).length C)/\W.ownsRow j.heap.size 5 1 (.slice (aP j.heap.size) (Lz.F8 pre g).length C) (Lz.F8 pre g).length ((Lz.F8 pre g).map Hf))/\((Boxed W (w2.heap.size+1) 40 (.string (AJ i))/\Boxed W w.heap.size 40 (.string (AJ g)))/\Below w.heap.size w W))
    (λ_ _ _=>False)
    (OwnFrom.and (Own.from (AM6 _ _ _ _ (λpre:AA AH=>.slice (aP j.heap.size) (Lz.F8 pre g).length C) (λpre=>(Lz.F8 pre g).length) (λpre=>(Lz.F8 pre g).map Hf)) _) (OwnFrom.and (Own.from (Td _ _ _ _ (λ_=>.string (AJ i)) (λ_=>.string (AJ g))) _) (ownFrom_below (Ag _) oG)))
    (λ_ _ _ _ _ hs _ _=>hs)
    ⟨⟨bU,F⟩,⟨bA,aj⟩,ac⟩
    (λx a' W=>∃J,w2.heap.size+1<J/\Boxed W J 5 (.int .u8 (x.toNat:Int))/\a'= {tmps:=#[.string (AJ i),.string b,undef,.pointer (aP w.heap.size),.string {data:=#[]},.pointer (aP w2.heap.size),.pointer (aP J),undef,.string a,.string (AJ i),.string b,.string (AJ g),.string (AJ i),.int .i64 i.length,.string (AJ g),.int .i64 g.length,.int .i64 (wrap64 ((i.length:Int)*(g.length:Int))),.slice (aP j.heap.size) 0 C,.string (AJ i),.func (.func 181) #[] #[.pointer (aP (w2.heap.size+1))],.int .u8 (x.toNat:Int),undef,undef,undef,undef,undef,undef,undef,undef,undef,undef,undef,undef],defers:=[]})
    (λx a' _ X Y a4 hs hg hr=>by let⟨J,h1,h2,h3⟩:=hs;exact⟨J,h1,YZ J 5 (.int .u8 (x.toNat:Int)) () X Y a4 h2 hg (λr e=>(hr r e).2),h3⟩)
    ?assign ?body ?done ?stop
   case assign=>
    rintro l pre x W K ⟨⟨v,B⟩,⟨m,u⟩,n⟩ hK
    gi_wp2
    have P:=n.size;exact hK _ _ ((KeepsOthers.alloc _ _).from _) (Below.heap_alloc W _ _ m.lt) ⟨⟨v.alloc _,B.alloc _⟩,⟨m.alloc _,u.alloc _⟩,n.alloc P _⟩ ⟨W.heap.size,m.lt,Boxed.new W 5 _,rfl⟩
   case body=>
    rintro l pre x a' W hl ⟨r,hr⟩ ⟨⟨v,B⟩,⟨m,u⟩,n⟩ ⟨J,be,bX,rfl⟩ ap;have cN:=u.cell
    gi_wp2_with (refine⟨trivial,?_⟩;gi_at_call 129;refine(CallsIn.inRound l (V4 Fence.wide _ trivial rfl _ _)).mono ?_;rintro e w' ⟨rfl,rfl⟩)
    have P:=n.size;have bM:=Boxed.new W 40 (.string (AJ g));have a0:(W.alloc (.cells #[.string (AJ g)] 40)).heap[l]? =some (.loop r):=(Below.heap_alloc W _ l (Ls.1 hr).1).trans hr;have a6:=bX.lt;have a5:=m.lt;refine wpIn_rangeFunc_ownN (l₀:=l) (r₀:=r) rfl a0 oG (gf:=181) (lb:=#[.pointer (aP W.heap.size)]) rfl trivial (enters_of func181 kR rfl)
     ((V5 Fence.wide (9-1-1-1) trivial rfl oG W.heap.size (AJ g) (by rw[Fz];omega) _ sP bM.cell).inRound l) (λh k=>k.trans h) (SG sP) (Below.refl _ _) (λ_=>rfl)
     (λ(d:AA AH) p=>(Boxed p w2.heap.size 23 (.slice (aP j.heap.size) (Lz.F8 pre g++d.map (x||| ·)).length C)/\p.ownsRow j.heap.size 5 1 (.slice (aP j.heap.size) (Lz.F8 pre g++d.map (x||| ·)).length C) (Lz.F8 pre g++d.map (x||| ·)).length ((Lz.F8 pre g++d.map (x||| ·)).map Hf))/\((Boxed p (w2.heap.size+1) 40 (.string (AJ i))/\Boxed p w.heap.size 40 (.string (AJ g)))/\((Boxed p J 5 (.int .u8 (x.toNat:Int))/\Boxed p W.heap.size 40 (.string (AJ g)))/\(Below w.heap.size W p/\KeepsFrom W0.heap.size W p))))
     (λ_ _ _=>False)
     (OwnFrom.and (Own.from (AM6 _ _ _ _ (λd:AA AH=>.slice (aP j.heap.size) (Lz.F8 pre g++d.map (x||| ·)).length C) (λd=>(Lz.F8 pre g++d.map (x||| ·)).length) (λd=>(Lz.F8 pre g++d.map (x||| ·)).map Hf)) _) (OwnFrom.and (Own.from (Td _ _ _ _ (λ_=>.string (AJ i)) (λ_=>.string (AJ g))) _) (OwnFrom.and (Own.from (Td _ _ _ _ (λ_=>.int .u8 (x.toNat:Int)) (λ_=>.string (AJ g))) _) (OwnFrom.and (ownFrom_below P sO) (ownFrom_keepsFrom sP)))))
     (λ_ _ _ _ _ hs _ _=>hs)
     ⟨⟨by rw[Mw,Hn];exact v.alloc _,by rw[Mw,Hn];exact B.alloc _⟩,⟨m.alloc _,u.alloc _⟩,⟨bX.alloc _,bM⟩,(Below.refl _ W).alloc P _,(KeepsOthers.alloc _ _).from _⟩
     (λy ai _=>ai= {tmps:=#[.string (AJ i),.string b,undef,.pointer (aP w.heap.size),.string {data:=#[]},.pointer (aP w2.heap.size),.pointer (aP J),.int .u8 (y.toNat:Int),.string a,.string (AJ i),.string b,.string (AJ g),.string (AJ i),.int .i64 i.length,.string (AJ g),.int .i64 g.length,.int .i64 (wrap64 ((i.length:Int)*(g.length:Int))),.slice (aP j.heap.size) 0 C,.string (AJ i),.func (.func 181) #[] #[.pointer (aP (w2.heap.size+1))],.int .u8 (x.toNat:Int),.string (AJ g),.func (.func 181) #[] #[.pointer (aP W.heap.size)],.int .u8 (y.toNat:Int),undef,undef,undef,undef,undef,undef,undef,undef,undef],defers:=[]})
     (λ_ _ _ _ _ _ hs _ _=>hs)
     ?assign2 ?body2 ?done2 ?stop2
    case assign2=>
     rintro l2 d y p K ay hK
     gi_wp2
     exact hK _ _ (KeepsFrom.refl _ _) rfl ay rfl
    case body2=>
     rintro l2 d y ai p _ _ ⟨⟨z,t⟩,⟨M,s⟩,⟨aa,O⟩,o,ad⟩ rfl S;have cU:=z.cell;have cX:=aa.cell;rw[Fz]at ap S;have G:=Aay ap S;have I:=AOQ pre g;have bg:=AHn x y;have al:(Lz.F8 pre g++d.map (x||| ·)).length+1<=C:=by rwa[CK,DG,I,HC.out]
     have aq:Lz.F8 pre g++(d++[y]).map (x||| ·)=(Lz.F8 pre g++d.map (x||| ·))++[x|||y]:=by rw[E3,Eb];rfl
     have V:=Lib.hid aq;clear aq G I;generalize Lz.F8 pre g++d.map (x||| ·)=L at z t cU al V⊢;have a7:=(t.lt j.heap.size rfl).2;have ba:=o.size
     gi_wp2_with (gi_at_builtin;refine wpListIn_append_fits _ rfl _ _ 23 rfl j.heap.size 5 i0 1 underlying23 hi ar j.heap.size L.length C (L.map Hf) rfl (t.alloc _) ⟨p.heap.size,0,none⟩ 1 1 [.int .u8 ((x|||y).toNat:Int)] rfl rfl (cell_one_new _ _ _) (EQ.1 rfl) al ?_;intro w5 ah f;have Z:=(z.alloc (.cells #[.int .u8 ((x|||y).toNat:Int)] 5)).kept f sO;have bc:=Z.cell;have bd:=Z.frozen)
     have ao:KeepsOthers p w5:=AL5 t f;have aw:Below w.heap.size p w5:=((Below.refl _ p).alloc (by have:=o.size;omega) _).grown f sO (λk e=>by cases e;omega);have az:(w5.setCell ⟨w2.heap.size,0,none⟩ (.slice (aP j.heap.size) (L.length+1) C)).ownsRow j.heap.size 5 1 (.slice (aP j.heap.size) (L.length+1) C) (L.length+1) (L.map Hf++[.int .u8 ((x|||y).toNat:Int)]):=ownsRow_setCell_other ah (a:=⟨w2.heap.size,0,none⟩) (by simp[Value.ownBlock];omega) _;refine⟨(ao.trans (KeepsOthers.setCell _ _ _)).from _,(Vs O f oG oG).trans O.symm,⟨?_,?_⟩,⟨Vs M f oG oG,Vs s f oG oG⟩,⟨Vs aa f oG oG,Vs O f oG oG⟩,(o.trans aw).setCell (p:=⟨w2.heap.size,0,none⟩) (show w.heap.size<=w2.heap.size by omega) _,ad.trans ((ao.trans (KeepsOthers.setCell _ _ _)).from _)⟩;rw[V.out,CK];exact Z.set _;rwa[V.out,CK,E3]
    case done2=>
     rintro bi p rfl ⟨⟨z,t⟩,⟨M,s⟩,⟨aa,O⟩,o,ad⟩
     gi_wp2
     exact⟨ad,M.trans m.symm,⟨⟨by rwa[AOR],by rwa[AOR]⟩,⟨M,s⟩,n.trans o⟩⟩
    case stop2=>
     rintro c d p _ h;exact h.elim
   case done=>
    rintro D ys W hD rfl ⟨⟨v,B⟩,⟨m,u⟩,n⟩ hK;have cU:=v.cell;have bh:=Uh (P:=prog) B underlying23 underlying5 underlying40;have I:=AOQ ys g;have au:=Lib.hid I;clear I
    gi_wp2_with (refine⟨trivial,?_⟩;gi_at_call 128;refine(Lq (Nx _ (by rw[Fz,au.out,<-HC.out];omega) _)).mono ?_;rintro e w3 ⟨rfl,af⟩)
    have ak:=(Ls.1 hK).1;refine⟨sP,.inl ⟨_,_,rfl,run_takeDeferred ((af.block D ak).trans hK),?_⟩⟩;refine⟨_,results_tmp rfl _ _ _,?_,(n.trans (af.mono n.size)).trans (belowK_b (w:=w) (Ag _) _ D _ _ (by have:=ac.size;omega) ((af.block D ak).trans hK) rfl rfl)⟩;rw[IW,U.out];rfl
   case stop=>
    rintro D c pre W _ _ h _;exact h.elim
  |_=>exact hq.elim
theorem AL1(a b)(c:a.size<=1000000)(d:b.size<=1000000)(w):
 Calls prog 96 #[.string a,.string b] w λe f=>e=.returned (.string<|AJ<|Lz.or a.data.toList b.data.toList)/\Below w.heap.size w f:=callsIn_wide.1<|AZP a b c d w
end
section
open Lz (I8 Fy AAH AAG)
theorem Abb(k:Nat)(h:k<6):IntKind.u8.wrap (2^k)=((UInt8.ofNat<|2^k).toNat:Int):=by
 match k,h with
 |0,_=>rfl
 |1,_=>rfl
 |2,_=>rfl
 |3,_=>rfl
 |4,_=>rfl
 |5,_=>rfl
theorem AEw(x:Int)(p)(t:x=p.toNat)(w):
 Calls prog 76 #[.int .u8 x] w λe q=>e=.returned (.string (AJ (Fy p)))/\Below w.heap.size w q:=by
 subst t;let⟨i0,hi,m,n,o⟩:=info_parts Qn
 go_enter func76,ntmps76
 go_wp2_with fail
 go_loopw [3,4,5,6] (λv _ _ i wr=>∃k:Nat,k<=6/\i=.int .i64 k/\wr.ownsRow w.heap.size 5 1 v (I8 p k).length ((I8 p k).map Hf)/\Below w.heap.size w wr) (λ_ _ _ i _=>6-(intOf i).toNat)
 case atStart=>exact⟨0,oG,rfl,World.ownsRow_nil _ _ _ _,Below.refl _ _⟩
 case round=>
  obtain⟨k,hk,rfl,a,g⟩:=hrel;by_cases h:k<6
  .have s:=Abb k h;have r:=AAH p k;have l:=g.size;cases hs:Lz.sub (UInt8.ofNat (2^k)) p with
   |true=>
    have b:I8 p (k+1)=I8 p k++[UInt8.ofNat (2^k)]:=by rw[I8,Ac hs]
    have c:=Lib.hid b;have HS:=Lib.hid hs
    go_wp2_with (first|(go_at_call 82;refine(WU _ _ (UInt8.ofNat (2^k)) p rfl rfl _).mono ?_;rintro e q ⟨rfl,rfl⟩;rw[HS.out])|(at_builtin;refine wpList_append_own _ rfl _ _ 23 rfl w.heap.size 5 i0 (.int .u8 0) 1 1 underlying23 hi m n o rfl dC _ _ _ rfl (a.alloc _) ⟨wr.heap.size,0,none⟩ 1 1 [.int .u8 ((UInt8.ofNat (2^k)).toNat:Int)] rfl rfl (cell_one_new _ _ _) (EQ.1 rfl) lO oG sO ?_;intro v' w1 f d _))
    go_roundw
    case rel=>exact⟨k+1,oG,by go_num,by rwa[c.out,CK,E3],(g.alloc l _).grown d sO (λj e=>(a.lt j e).1)⟩
    case measure=>simp[intOf];omega
   |false=>
    have b:I8 p (k+1)=I8 p k:=by rw[I8,hs];rfl
    have c:=Lib.hid b;have HS:=Lib.hid hs
    go_wp2_with (go_at_call 82;refine(WU _ _ (UInt8.ofNat (2^k)) p rfl rfl _).mono ?_;rintro e q ⟨rfl,rfl⟩;rw[HS.out])
    go_roundw
    case rel=>exact⟨k+1,oG,by go_num,by rwa[c.out],g⟩
    case measure=>simp[intOf];omega
  .obtain rfl:k=6:=oG;have b:=Uh (P:=prog) a underlying23 underlying5 underlying40
   go_wp2
   go_ret
   exact⟨rfl,g⟩
end
section
attribute [local go_sem] Oper.semAt_some
end
def JF(B b:Nat)(l:AA AH)(w:AN):Prop:=
 b<B/\∃p v,(p=.pointer none\/p=.pointer (aP b))/\w.heap[b]? =some (.cells #[p,v] 250 (0,0))/\w.ownsRow B 5 1 v l.length (l.map Hf)
def APB(B b:Nat)(l:AA AH)(w:AN):Prop:=
 b<B/\∃v,w.heap[b]? =some (.cells #[.pointer<|aP b,v] 250 (0,0))/\w.ownsRow B 5 1 v l.length (l.map Hf)
theorem AU4{w:AN}{b p v q T}(h:w.heap[b]? =some (.cells #[p,v] T (0,0))):(w.setCell ⟨b,0,none⟩ q).heap[b]? =some (.cells #[q,v] T (0,0)):=by let⟨a,c⟩:=Ls.1 h;show(w.heap.modify b _)[b]? =_;rw[ABO<|by rwa[Xm],ABQ,c];rfl
theorem AJn{w:AN}{b p v q T}(h:w.heap[b]? =some (.cells #[p,v] T (0,0))):(w.setCell ⟨b,1,none⟩ q).heap[b]? =some (.cells #[p,q] T (0,0)):=by let⟨a,c⟩:=Ls.1 h;show(w.heap.modify b _)[b]? =_;rw[ABO<|by rwa[Xm],ABQ,c];rfl
theorem sizeBuilder:(prog.info? 250).map (λi=>i.size)=some 2:=kR
theorem liesBuilder:liesAt prog prog.depth 250 (2/prog.cellsOf 250) 0 250 1:=kR
theorem ASG(b w)(d:w.cell? ⟨b,0,none⟩=some (.pointer (aP b))):
 Calls prog 182 #[.pointer (aP b)] w λe c=>e=.returned (.tuple #[])/\c=w:=by
 let⟨j,a,_⟩:=L9.1 sizeBuilder
 go_enter func182,ntmps182
 go_wp2
 rw[Lib.run_neq_ptr_same w _ underlying248 a]
 go_wp2
 go_end0
 exact⟨rfl,rfl⟩
theorem ASF(b w)(h:w.cell? ⟨b,0,none⟩=some (.pointer none))(a:w.shape? b=some (250,2))(f:w.frozen? ⟨b,0,none⟩=false):
 Calls prog 182 #[.pointer (aP b)] w λe g=>e=.returned (.tuple #[])/\g=w.setCell ⟨b,0,none⟩ (.pointer (aP b)):=by
 let⟨j,d,c⟩:=L9.1 sizeBuilder
 go_enter func182,ntmps182
 go_wp2
 rw[Lib.run_to_unsafe w ⟨b,0,none⟩ underlying248 underlying371 d (by rw[c];decide) a (Nat.zero_lt_succ 1)];simp[Result.andThen];rw[Oper.upon_value]
 go_wp2
 rw[run_callFunc_extern func260 kR kR kR (e:=Extern.AbiNoEscape.same) kR];rw[Lib.run_noEscape];simp[Result.andThen];rw[Oper.upon_value]
 go_wp2
 rw[Lib.run_from_unsafe w ⟨b,0,none⟩ underlying371 underlying248 d a liesBuilder];simp[Result.andThen];rw[Oper.upon_value]
 go_wp2
 go_end0
 exact⟨rfl,rfl⟩
theorem AIe(B b l w)(h:JF B b l w):
 Calls prog 182 #[.pointer<|aP b] w λe d=>e=.returned (.tuple #[])/\APB B b l d/\E5 B b w d/\KeepsOthers w d:=by
 obtain⟨f,p,v,rfl|rfl,a,c⟩:=h;refine(ASF b w (by rw[Lib.cell_of_heap a];rfl) (by simp[World.shape?,a])<|Lib.frozen_of_heap a 0).mono ?_;rintro e d ⟨rfl,rfl⟩;exact⟨rfl,⟨f,v,AU4 a,ownsRow_setCell_below c (a:=⟨b,0,none⟩) f _⟩,E5.setCell _ _ _,KeepsOthers.setCell _ _ _⟩;refine(ASG b w<|by rw[Lib.cell_of_heap a];rfl).mono ?_;rintro e d ⟨rfl,rfl⟩;exact⟨rfl,⟨f,v,a,c⟩,E5.refl _ _ _,KeepsOthers.refl _⟩
theorem ARN(B b l w)(h:JF B b l w):
 Calls prog 178 #[.pointer (aP b)] w λe k=>e=.returned (nV l.length)/\w=k:=by
 let⟨m,p,v,_,c,a⟩:=h;obtain⟨d,cap,rfl⟩:∃d cap,v=.slice d l.length cap:=by rcases a.2 with⟨f,j⟩|⟨g,cap,i,f,_⟩;exact⟨none,0,by rw[f,j]⟩;exact⟨_,_,f⟩
 have c1:w.cell? ⟨b,1,none⟩=some (.slice d l.length cap):=by rw[Lib.cell_of_heap c];rfl
 go_enter func178,ntmps178
 go_wp2
 go_ret
 exact⟨rfl,rfl⟩
theorem AOt(B b:Nat)(l:AA AH)(x:Int)(c:AH)(J:x=c.toNat)(w:AN)(h:JF B b l w)(hlen:l.length<16000000)(F:B<=w.heap.size):
 Calls prog 131 #[.pointer (aP b),.int .u8 x] w λe A=>e=.returned .nilIface/\JF B b (l++[c]) A/\E5 B b w A/\KeepsOthers w A:=by
 subst J;let⟨K,G,u,y,z⟩:=info_parts Qn
 go_enter func131,ntmps131
 go_wp2_with (go_at_call 182;refine(AIe B b l _ h).mono ?_)
 rintro e m ⟨rfl,E,n,r⟩;let⟨C,v,j,d⟩:=E;have L:m.cell? ⟨b,0,none⟩=some (.pointer (aP b)):=by rw[Lib.cell_of_heap j];rfl
 have c1:m.cell? ⟨b,1,none⟩=some v:=by rw[Lib.cell_of_heap j];rfl
 have I:=n.size
 go_wp2_with (at_builtin;refine wpList_append_own _ rfl _ _ 23 rfl B 5 K (.int .u8 0) 1 1 underlying23 G u y z rfl dC _ _ _ rfl (d.alloc _) ⟨m.heap.size,0,none⟩ 1 1 [.int .u8 c.toNat] rfl rfl (cell_one_new _ _ _) (EQ.1 rfl) lO oG sO ?_)
 intro P p f a _;have t:b<m.heap.size:=by
  rcases Jj b m.heap.size with q|q
  .exact q
  .simp[Xl q]at j
 have o:∀k,v.ownBlock=some k->B<=k:=λk H=>(d.lt k H).1;have i:p.heap[b]? =some (.cells #[.pointer (aP b),v] 250 (0,0)):=by rwa[a.block b sO (λe=>by have:=o b e.symm;omega),Lib.alloc_old m _ b t]
 have M:p.cell? ⟨b,0,none⟩=some (.pointer (aP b)):=by rw[Lib.cell_of_heap i];rfl
 have N:p.cell? ⟨b,1,none⟩=some v:=by rw[Lib.cell_of_heap i];rfl
 have O:p.frozen? ⟨b,1,none⟩=false:=Lib.frozen_of_heap i 1;obtain⟨g,D,rfl⟩:=ownsRow_succ f;have s:=AL5 d a
 go_wp2
 go_ret
 refine⟨rfl,?_,?_,?_⟩
 .refine⟨C,_,_,.inr rfl,AJn i,?_⟩;rw[E3,CK];exact ownsRow_setCell_below f (a:=⟨b,1,none⟩) C _
 .exact(n.trans (E5.of_below (((Below.refl B m).alloc oG _).grown a sO o))).trans (E5.setCell _ _ _)
 .exact r.trans (s.trans (KeepsOthers.setCell _ _ _))
theorem AWW(W a n):KeepsOthers W (W.freeze a n):=by
 rw[World.freeze];split;exact KeepsOthers.refl _;refine⟨sP,λk o b c=> ?_⟩;simp[ABP];split;rw[b];cases o<;>first|rfl|(simp[Obj.isCells]at c)
 exact b
theorem cellsByte:prog.cellsOf 5=1:=kR
theorem AIA(B b l)(t:l≠[])(w)(h:JF B b l w):
 Calls prog 132 #[.pointer (aP b)] w λe y=>e=.returned (.string (AJ l))/\Below B w y/\KeepsOthers w y:=by
 let⟨F,p,v,_,i,d⟩:=h;have q:l.length≠0:=by simpa using t
 obtain⟨g,a,c,rfl,m,u,s,k,n,f⟩:∃g a c,v=.slice (aP g) l.length a/\B<=g/\w.heap[g]? =some (.cells c 5 (0,0))/\l.length<=a/\a<=maxLen/\c.size=a*1/\c.toList.take (l.length*1)=l.map Hf:=by rcases d.2 with⟨_,E⟩|⟨g,a,c,C,r⟩;exact absurd E q;exact⟨g,a,c,C,r⟩
 have c1:w.drew.cell? ⟨b,1,none⟩=some (.slice (aP g) l.length a):=by have:w.drew.heap[b]? =some (.cells #[p,.slice (aP g) l.length a] 250 (0,0)):=i;rw[Lib.cell_of_heap this];rfl
 have z:(Builtin.unsafeSliceData_ #[23] 320 #[.slice (aP g) l.length a]).run prog w.drew=.ok (.pointer (aP g)) w.drew:=
  Lib.run_unsafeSliceData_row _ _ _ _ _ _ oG
 have A:(Builtin.unsafeString_ #[320,3] 9 #[.pointer (aP g),.int .i64 l.length]).run prog w.drew=.ok (.string (AJ l)) (w.drew.freeze ⟨g,0,none⟩ l.length):=by refine Lib.run_unsafeString_row w.drew 320 3 9 5 underlying320 cellsByte g c.size (by have o:w.drew.heap[g]? =some (.cells c 5 (0,0)):=u;simp[World.shape?,o]) l t oG (by rw[maxLen]at k;omega) ?_;intro j x D;have:=d.cells (g:=g) rfl j (.int .u8 x.toNat) (by simp[Hf,D]);exact this
 go_enter func132,ntmps132
 go_wp2
 go_region
 all_goals(go_wp2;go_ret;exact⟨rfl,Lib.below_freeze (Below.drew (Below.refl B w)) (p:=⟨g,0,none⟩) m _,(KeepsOthers.drew w).trans (AWW _ _ _)⟩)
theorem AOu(B b:Nat)(l:List UInt8)(s:ByteArray)(w:World)(h:JF B b l w)(hlen:l.length+s.size<=16000000)(N:B<=w.heap.size):
 Calls prog 130 #[.pointer (aP b),.string s] w λe G=>e=.returned (.tuple #[.int .i64 s.size,.nilIface])/\JF B b (l++s.data.toList) G/\E5 B b w G/\KeepsOthers w G:=by
 obtain⟨R,O,D,E,F⟩:=info_parts Qn;have q:(Lib.strCells s)=s.data.toList.map Hf:=rfl;have r:=Lib.hid q;clear q
 go_enter func130,ntmps130
 go_wp2_with (go_at_call 182;refine(AIe B b l _ h).mono ?_)
 rintro e m ⟨rfl,M,n,y⟩;obtain⟨J,v,i,d⟩:=M;have T:m.cell? ⟨b,0,none⟩=some (.pointer (aP b)):=by rw[Lib.cell_of_heap i];rfl
 have c1:m.cell? ⟨b,1,none⟩=some v:=by rw[Lib.cell_of_heap i];rfl
 have Q:=n.size
 go_wp2_with (at_builtin;refine Lib.wpList_append_own_string _ rfl _ _ 23 9 rfl B 5 R underlying23 underlying9 O D E F _ _ _ rfl d s rfl ?c3 ?c4 ?c5 ?_)
 case c3=>rw[maxLen];omega
 case c4=>omega
 case c5=>omega
 intro S w2 c a _;have A:b<m.heap.size:=by rcases Nat.lt_or_ge b m.heap.size with u|u;exact u;simp[Array.getElem?_eq_none u]at i
 have p:∀k,v.ownBlock=some k->B<=k:=λk P=>(d.lt k P).1;have f:w2.heap[b]? =some (.cells #[.pointer (aP b),v] 250 (0,0)):=by rwa[a.block b A (λe=>by have:=p b e.symm;omega)]
 have U:w2.cell? ⟨b,0,none⟩=some (.pointer (aP b)):=by rw[Lib.cell_of_heap f];rfl
 have V:w2.cell? ⟨b,1,none⟩=some v:=by rw[Lib.cell_of_heap f];rfl
 have W:w2.frozen? ⟨b,1,none⟩=false:=Lib.frozen_of_heap f 1;obtain⟨H,L,cap,rfl⟩:∃H L cap,S=.slice H L cap:=by rcases c.2 with⟨C,_⟩|⟨g,cap,t,C,_⟩;exact⟨_,_,_,C⟩;exact⟨_,_,_,C⟩
 have z:KeepsOthers m w2:=by
  refine KeepsOthers.of_grownBy a λj o I K=> ?_;rcases d.2 with⟨rfl,_⟩|⟨g,cap,t,rfl,_,x,_⟩;simp[Value.ownBlock]at I;obtain rfl:g=j:=by simpa[Value.ownBlock]using I
  rw[x]at K;cases K;rfl
 go_wp2
 go_ret2
 refine⟨rfl,?_,?_,?_⟩;refine⟨J,_,_,.inr rfl,AJn f,?_⟩;rw[List.map_append,List.length_append,Array.length_toList];rw[r.out]at c;exact ownsRow_setCell_below c (a:=⟨b,1,none⟩) J _;exact(n.trans (E5.of_below ((Below.refl B m).grown a oG p))).trans (E5.setCell _ _ _);exact y.trans (z.trans (KeepsOthers.setCell _ _ _))
section
attribute [local go_sem] Oper.semAt_some
theorem Aav(s:AH):(bits .andNot .u8 (s.toNat:Int) 63==0)=decide (s.toNat<64):=by have h:=AJw s 63;rw[show((63:AH).toNat:Int)=63 from rfl]at h;rw[h,F0,decide_eq_true_iff,<-Lz.AIP,Lz.sub,GP];rfl
theorem Aau(x:Int)(s:AH)(a:x=s.toNat)(w):Calls prog 257 #[.int .u8 x] w λe b=>e=.returned (.bool (decide (s.toNat<64)))/\w=b:=by
 subst a
 go_enter func257,ntmps257
 go_wp2
 go_ret
 exact⟨Se (Aav s),rfl⟩
theorem AHm(s)(k:Nat):bits .and .u8 ((s.toNat:Int)/2^k) 1=if Lz.bit s k then 1 else 0:=by
 have e:(s.toNat:Int)/2^k=((s.toNat/2^k:Nat):Int):=by rw[Int.natCast_ediv,Int.natCast_pow];rfl
 have a:=s.toNat_lt;have hle:s.toNat/2^k<=s.toNat:=Nat.div_le_self _ _;rw[e,show(1:Int)=((1:Nat):Int)from rfl,u8_and_nat _ _ oG oG,Nat.and_one_is_mod];rw[Lz.bit];rw[Nat.testBit_eq_decide_div_mod_eq];by_cases h:s.toNat/2^k%2=1;simp[h];simp[h];omega
def JY(s:AH):Nat->AA (Fin 6)
 |0=>[]
 |k+1=>if h:k<6 then if Lz.bit s k then JY s k++[⟨k,h⟩]else JY s k else JY s k
theorem Afq(s k)(h:k<=6):(JY s k).length<=k:=by
 induction k with
 |zero=>simp[JY]
 |succ k a=>
  have:=a oG;rw[JY];split;split;simp;exact this;omega;omega
theorem AZ2(F:Fence)(n:Nat)(A:F.fn 332)(r:F.round=none)(D:1<=n)(l d:Nat)(s:AH)(J t:AA (Fin 6)->AN->Prop)
 (y:∀pre x W,J pre W->pre.length<6->YieldAt F (n-1) prog l #[.int .i64 (x.val:Int)] W λe W'=>
   (e=.returned tV/\J (pre++[x]) W'/\W'.heap[d]? =W.heap[d]?)\/(e=.returned fV/\t (pre++[x]) W'))
 (W:AN) (o:W.cell? ⟨d,0,none⟩=some (.int .u8 (s.toNat:Int))) (h0:J [] W):
 CallsIn F n prog 332 #[.func (.yield l) #[] #[],.pointer (aP d)] W λe W'=>(∃v,e=.returned v)/\
  ((∃u,u=JY s 6/\J u W')\/(∃pre,(∃k,k<=6/\pre=JY s k)/\t pre W')):=by
 refine callsIn_of_wp func332 rfl A ?_ r;simp only[ntmps332,Iv,FM,KJ,Nat.reduceAdd,Nat.reduceSub,LF,LH,LK,LI,F2,F1]
 gi_wp2
 gi_loopw [3,4] (λ_ i wr=>∃k:Nat,k<=6/\i=.int .i64 k/\J (JY s k) wr/\wr.heap[d]? =W.heap[d]?)
  (λ_ i _=>6-(intOf i).toNat)
 case atStart=>exact⟨0,Bm _,rfl,h0,rfl⟩
 case round=>
  obtain⟨k,hk,rfl,f,j⟩:=hrel;have z:wr.cell? ⟨d,0,none⟩=some (.int .u8 (s.toNat:Int)):=(World.cell?_of_block (w:=W) (a:=⟨d,0,none⟩) j).trans o;by_cases c:k<6
  .cases a:Lz.bit s k with
   |true=>
    have g:=AHm s k;have b:JY s (k+1)=JY s k++[⟨k,c⟩]:=by rw[JY,RV c,Ac a]
    rw[Ac a]at g;have HP:=Lib.hid b;let⟨fn,tmps,assign,body,B,w⟩:=y _ ⟨k,c⟩ wr f (by have:=Afq s k oG;omega);dsimp only at B
    gi_wp2
    refine w.mono ?_;rintro e C (⟨rfl,p,q⟩|⟨rfl,m⟩)
    .gi_wp2
     go_roundw
     case rel=>exact⟨k+1,oG,by go_num,by rwa[HP.out],q.trans j⟩
     case measure=>simp[intOf];omega
    .gi_wp2
     exact bodyPost_ret (results_none rfl _ _ _) rfl<|⟨⟨_,rfl⟩,.inr ⟨_,⟨k+1,oG,HP.out.symm⟩,m⟩⟩
   |false=>
    have g:=AHm s k;have b:JY s (k+1)=JY s k:=by rw[JY,RV c,a];rfl
    rw[a,AY sP]at g;have HP:=Lib.hid b
    gi_wp2
    refine⟨λ_ h=>(by cases h),?_⟩
    gi_wp2
    go_roundw
    case rel=>exact⟨k+1,oG,by go_num,by rwa[HP.out],j⟩
    case measure=>simp[intOf];omega
  .obtain rfl:k=6:=oG
   gi_wp2
   go_end0
   exact⟨⟨_,rfl⟩,.inl ⟨_,rfl,f⟩⟩
theorem AMG(F)(n:Nat)(b:F.fn 258)(a:F.round=none)(x:Int)(w):
 CallsIn F n prog 258 #[.int .u8 x] w λe c=>e=.returned (.func (.func 332) #[] #[.pointer (aP w.heap.size)])/\c=w.alloc (.cells #[.int .u8 x] 5):=by
 refine callsIn_of_wp func258 rfl b ?_ a;simp[ntmps258,Iv,FM,KJ,Nat.reduceAdd,Nat.reduceSub,LF,LH,LK,LI,F2,F1]
 gi_wp2
 go_ret
 exact⟨rfl,rfl⟩
theorem AMH(F)(n:Nat)(i:F.fn 332)(d:F.round=none)(j:1<=n)(a:Nat)(s w)(b:a<w.heap.size)
 (h:w.cell? ⟨a,0,none⟩=some (.int .u8 (s.toNat:Int))):
 SeqStopsK F n prog 332 #[.pointer<|aP a] (λx:Fin 6=>#[Value.int .i64 (x.val:Int)]) (λA B=>B.heap[a]? =A.heap[a]?) (λm=>m=JY s 6) (λpre=>∃k,k<=6/\pre=JY s k) 6 w:=λl J e W hW _ _ g f=>by
 exact AZ2 F n i d j l a s J e g W ((hW.cell (p:=⟨a,0,none⟩) b).trans h) f
end
section
attribute [local go_sem] Oper.semAt_some
def Kg(w:AN):Prop:=∀i,i<6->w.cell? ⟨2,i,none⟩=some (.int .u8<|97+(i:Int))
theorem Kg.lt{w}(h:Kg w):2<w.heap.size:=by have:=h 0 dC;rcases Jj 2 w.heap.size with a|a;exact a;simp[World.cell?,Xl a]at this
theorem Kg.below{w a B}(h:Kg w)(c:Below B w a)(b:2<B):Kg a:=λi d=>(c.cell (p:=⟨2,i,none⟩) b).trans<|h i d
theorem Kg.behind{w a}(h:Kg w)(b:Below w.heap.size w a):Kg a:=h.below b h.lt
theorem AHr{β:Type}(B b:Nat)(f:β->AA AH):Own (λs W=>JF B b (f s) W):=by rintro s X Y r ⟨m,p,v,q,d,a⟩ h c;refine⟨m,p,v,q,(grownBy_keeps_cells h c d rfl).trans d,a.kept h ?_⟩;rcases a.2 with⟨rfl,_⟩|⟨g,j,k,rfl,_,e,_⟩;exact .inl rfl;refine .inr λl=> ?_;obtain⟨o,i,n⟩:=c g (by simpa[Value.ownBlock]using l.symm);rw[e]at i;cases i;cases n
theorem JF.kept{B b l X}(h:JF B b l X)(o):JF B b l (X.alloc o):=
 Own.alloc (AHr (β:=Unit) B b λ_=>l) (s:=()) o h
theorem AQ8{B}(w:AN)(h:w.heap.size<B):JF B w.heap.size [] (w.alloc<|.cells #[.pointer none,.slice none 0 0] 250):=
 ⟨h,_,_,.inl rfl,World.alloc_heap_new w _,World.ownsRow_nil _ _ _ _⟩
def letter(n:Nat):AH:=UInt8.ofNat<|97+n
theorem AXS(n)(h:n<6):(letter n).toNat=97+n:=Lz.Pt oG
def AWG(acc:AA AH)(x:Fin 6):AA AH:=(if acc=[]then[]else acc++[124])++[letter x.val]
def AXU(l:AA<|Fin 6):AA AH:=l.foldl AWG []
theorem AgR(l x):AXU (l++[x])=AWG (AXU l) x:=by simp[AXU]
theorem AgO(acc x):(AWG acc x).length<=acc.length+2:=by rw[AWG];split;simp;simp
theorem Afi(l):(AXU l).length<=2*l.length:=by
 have h:∀(l:AA<|Fin 6)(acc:AA AH),(l.foldl AWG acc).length<=acc.length+2*l.length:=by
  intro l;induction l with
  |nil=>simp
  |cons x l a=>
   intro acc;have b:=a<|AWG acc x;have c:=AgO acc x;simp[Xq,FM];omega
 have:=h l [];simpa[AXU]using this
def Acy(s:AH):AA AH:=if s.toNat<64 then if s=0 then[45]else AXU (JY s 6)else[63]
theorem AgY(p:UInt8->Bool)(h:(List.range 64).all λn=>p<|UInt8.ofNat n)(s:UInt8)(a:s.toNat<64):p s:=by have:=List.all_eq_true.1 h s.toNat<|List.mem_range.2 a;rwa [UInt8.ofNat_toNat]at this
theorem Afj(s)(h:decide<|s.toNat<64)(a:s≠0):AXU (JY s 6)≠[]:=by
 have:=AgY (λs=>s==0|| !(AXU<|JY s 6).isEmpty) (by decide+kernel) s (by simpa using h)
 intro e
 simp[e,a]at this
theorem Agm(s)(o:s.toNat<64)(t:s≠0)(w)(L:Kg w):
 CallsIn Fence.wide 6 prog 179 #[.int .u8 (s.toNat:Int)] w λe m=>e=.returned (.string (AJ (AXU (JY s 6))))/\Below w.heap.size w m:=by
 have U:((s.toNat:Int)==0)=false:=by rw[AOC];simpa using t
 have M:decide (s.toNat<64):=by simpa using o
 have I:=Lib.hid M;have HL:=Lib.hid L;refine callsIn_of_wp_marks func179 rfl trivial ?_ rfl;simp[ntmps179,LF]
 gi_wp2_with (first|(refine⟨trivial,?_⟩;gi_at_call 257;refine(Lq (Aau _ s rfl _)).mono ?_;rintro e m ⟨rfl,rfl⟩;rw[I.out])|(refine⟨trivial,?_⟩;gi_at_call 258;refine(AMG Fence.wide _ trivial rfl _ _).mono ?_;rintro e m ⟨rfl,rfl⟩))
 have P:=AQ8 (B:=w.heap.size+2) w oG;have J:=Boxed.new (w.alloc (.cells #[.pointer none,.slice none 0 0] 250)) 5 (.int .u8 (s.toNat:Int));rw[World.size_alloc]at J;have p:Below w.heap.size w ((w.alloc (.cells #[.pointer none,.slice none 0 0] 250)).alloc (.cells #[.int .u8 (s.toNat:Int)] 5)):=((Below.refl _ w).alloc (Ag _) _).alloc sP _;refine wpIn_rangeFunc_ownG rfl oG (gf:=332) (lb:=#[.pointer (aP (w.heap.size+1))]) rfl trivial (enters_of func332 kR rfl)
  (AMH Fence.wide (6-1) trivial rfl oG (w.heap.size+1) s _ sP J.cell) (λh k=>k.trans h) (SG sP) (Below.refl _ _) (λ_=>rfl)
  (λpre W=>JF (w.heap.size+2) w.heap.size (AXU pre) W/\E5 (w.heap.size+2) w.heap.size ((w.alloc (.cells #[.pointer none,.slice none 0 0] 250)).alloc (.cells #[.int .u8 (s.toNat:Int)] 5)) W)
  (λ_ _ _=>False)
  (OwnFrom.and (Own.from (AHr (w.heap.size+2) w.heap.size AXU) _) (AIE sP))
  (λ_ _ _ _ _ S _ _=>S)
  ⟨P.kept _,E5.refl _ _ _⟩
  ?_ ?assign ?body ?done ?stop
 case assign=>
  intro l x W K y
  gi_wp2
  exact y
 case body=>
  rintro l pre x W ⟨a,n⟩ R;have hlen:=Afi pre;have H:=n.size;rw[World.size_alloc,World.size_alloc]at H;have q:=HL.out.behind (p.trans (n.below oG (Ag _)));have G:=HL.out.lt;have b:∀A,E5 (w.heap.size+2) w.heap.size W A->A.cell? ⟨2,x.val,none⟩=some (.int .u8 (97+(x.val:Int))):=λA h=>(q.below (h.below (B':=w.heap.size) oG (Ag _)) G) x.val x.isLt;have N:=x.isLt;have v:=AgR pre x;have HS:=Lib.hid v;by_cases j:AXU pre=[]
  .have F:((AXU pre).length:Int)=0:=by rw[j];rfl
   have r:AWG (AXU pre) x=AXU pre++[letter x.val]:=by rw[AWG];rw[Ac j,j]
   have z:=Lib.hid r;have O:=Lib.hid j;have C:=b W (E5.refl _ _ _)
   gi_wp2_with (first|(refine⟨trivial,?_⟩;gi_at_call 178;refine(CallsIn.inRound l (Lq (ARN _ _ _ _ a))).mono ?_;rintro e m ⟨rfl,rfl⟩)|(refine⟨trivial,?_⟩;gi_at_call 131;refine(CallsIn.inRound l (Lq (AOt _ _ _ _ (letter x.val) (by rw[AXS _ N];omega) _ a oG oG))).mono ?_;rintro e m ⟨rfl,i,d,g⟩))
   exact⟨g.from _,d.block _ oG oG,by rwa[HS.out,z.out],n.trans d⟩
  .have F:(0:Int)<((AXU pre).length:Int):=by
    have:(AXU pre).length≠0:=by simpa using j
    omega
   have r:AWG (AXU pre) x=AXU pre++[124]++[letter x.val]:=by rw[AWG];rw[AY j]
   have z:=Lib.hid r;have O:=Lib.hid j
   gi_wp2_with fail
   refine⟨trivial,(CallsIn.inRound l (Lq (ARN _ _ _ _ a))).mono ?_⟩;rintro e m ⟨rfl,rfl⟩
   gi_wp2_with fail
   refine⟨trivial,(CallsIn.inRound l (Lq (AOt _ _ _ _ 124 rfl _ a oG oG))).mono ?_⟩;rintro e m ⟨rfl,B,f,E⟩;have C:=b _ f;have T:=f.size
   gi_wp2_with fail
   refine⟨trivial,(CallsIn.inRound l (Lq (AOt _ _ _ _ (letter x.val) (by rw[AXS _ N];omega) _ B sO oG))).mono ?_⟩;rintro e m ⟨rfl,i,d,g⟩
   gi_wp2
   exact⟨(E.trans g).from _,(f.trans d).block _ oG oG,by rwa[HS.out,z.out],(n.trans f).trans d⟩
 case done=>
  rintro D V W Q rfl ⟨a,n⟩ y;have u:=Afj s I.out t
  gi_wp2_with (refine⟨trivial,?_⟩;gi_at_call 132;refine(Lq (AIA _ _ _ u _ a)).mono ?_;rintro e m ⟨rfl,i,g⟩)
  refine⟨sP,.inl ⟨_,_,rfl,run_takeDeferred (g.same _ _ y rfl),?_⟩⟩;refine⟨_,results_tmp rfl _ _ _,rfl,?_⟩;rw[World.size_alloc,World.size_alloc]at Q;exact((p.trans (n.below oG (Ag _))).trans (i.mono oG)).trans (belowK_b (w:=w) (Ag _) _ D _ _ oG (g.same _ _ y rfl) rfl rfl)
 case stop=>
  rintro D c pre W _ _ h _;exact h.elim
theorem Agl(s)(h:s.toNat<64)(a:s≠0):Acy s=AXU (JY s 6):=by rw[Acy];rw[Ac h,AY a]
theorem AfN(x:Int)(s)(g:x=s.toNat)(w)(f:Kg w):
 Calls prog 179 #[.int .u8 x] w λe b=>e=.returned (.string (AJ (Acy s)))/\Below w.heap.size w b:=by
 subst g;by_cases h:s.toNat<64
 .by_cases a:s=0
  .subst a;have e:Acy 0=[45]:=dC;rw[e];have i:(((0:AH).toNat:Int)==0):=rfl
   go_enter func179,ntmps179
   go_wp2_with (go_at_call 257;refine(Aau _ 0 rfl _).mono ?_;rintro e b ⟨rfl,rfl⟩)
   go_ret
   exact⟨rfl,Below.refl _ _⟩
  rw[Agl s h a];exact callsIn_wide.1 (Agm s h a w f)
 .have e:Acy s=[63]:=by rw[Acy];rw[AY h]
  rw[e];have c:decide (s.toNat<64)=false:=by simpa using h
  have d:=Lib.hid c
  go_enter func179,ntmps179
  go_wp2_with (go_at_call 257;refine(Aau _ s rfl _).mono ?_;rintro e b ⟨rfl,rfl⟩;rw[d.out])
  go_ret
  exact⟨rfl,Below.refl _ _⟩
end
section
attribute [local go_sem] Oper.semAt_some
theorem AZx(F n)(b:F.fn 61)(a:F.round=none)(p s w)(d:p.oneCell')(f:s.oneCell'):
 CallsIn F n prog 61 #[p,s] w λe c=>e=.returned (.func (.func 119) #[] #[.pointer (aP (w.heap.size+1)),.pointer (aP w.heap.size)])/\c=(w.alloc (.cells #[p] 27)).alloc (.cells #[s] 38):=by
 refine callsIn_of_wp func61 rfl b ?_ a;simp[ntmps61,LF]
 gi_wp2
 go_ret
 exact⟨rfl,rfl⟩
theorem AZw(n:Nat)(t:1<=n)(l B1 B2:Nat)(kp:Au)(a:AU Au)(sb so len c:Nat)(ha:0<len->a=some ⟨sb,so,none⟩)(hlen:len<=1000000)(C3:Nat->Ce)(J:Nat->AN->Prop)(j:Nat->Bool->AN->Prop)
 (h1:∀i W,J i W->i<len->W.cell? ⟨B2,0,none⟩=some (.pointer (some kp))/\W.cell? ⟨sb,so+i,none⟩=some (.string (C3 i)))
 (p:∀i W,J i W->i<len->Calls prog 25 #[.pointer (some kp),.string (C3 i)] W λe W'=>∃b,e=.returned (.bool b)/\j i b W')
 (r:∀i b W,j i b W->i<len->YieldAt Fence.wide (n-1) prog l #[.bool b] W λe W'=>e=.returned tV/\J (i+1) W')
 (W:AN) (o:W.cell? ⟨B1,0,none⟩=some (.slice a len c)) (h0:J 0 W):
 CallsIn Fence.wide n prog 119 #[.func (.yield l) #[] #[],.pointer (aP B1),.pointer (aP B2)] W λe W'=>(∃v,e=.returned v)/\J len W':=by
 refine callsIn_of_wp func119 rfl trivial ?_ rfl;simp[ntmps119,LF]
 gi_wp2
 gi_loopw [5,8] (λ_ i wr=>∃k:Nat,k<=len/\i=.int .i64 k/\J k wr)
  (λ_ i _=>len-(intOf i).toNat)
 case atStart=>exact⟨0,Bm _,rfl,h0⟩
 case round=>
  obtain⟨k,hk,rfl,d⟩:=hrel;by_cases f:k<len
  .obtain rfl:=ha oG;let⟨c1,c2⟩:=h1 k wr d f
   gi_wp2
   refine⟨trivial,(callsIn_wide.2 (p k wr d f)).mono ?_⟩;rintro e m ⟨b,rfl,g⟩;let⟨fn,tmps,assign,body,u,q⟩:=r k b m g f
   gi_wp2
   refine q.mono ?_;rintro e s ⟨rfl,h⟩
   gi_wp2
   go_roundw
   case rel=>exact⟨k+1,oG,by go_num,h⟩
   case measure=>simp[intOf];omega
  .obtain rfl:k=len:=oG
   gi_wp2
   go_end0
   exact⟨⟨_,rfl⟩,d⟩
end
end
section
open Go.RowKit
def Acu(w)(a:Kg w):Calls prog 179 #[.int .u8 1] w λe b=>e=.returned (.string<|AJ [97])/\Below w.heap.size w b:=by have h:=AfN 1 1 rfl w a;rwa [show Acy 1=[97] by decide+kernel]at h
end
section
open Go.RowKit Go.Shelf
section
attribute [local go_sem] Oper.semAt_some
theorem AJx(s)(c:Int)(w):Calls prog 370 #[.string s,.int .u8 c] w λe a=>e=.returned (.int .i64 (Lib.indexByte s.data.toList c.toNat.toUInt8))/\w=a:=by
 go_enter func370,ntmps370
 go_wp2
 rw[run_callFunc_extern func397 kR kR kR (e:=Extern.BytealgIndexByte.indexByte) kR];rw[Lib.run_indexByteString];simp[Result.andThen];rw[Oper.upon_value]
 go_wp2
 go_ret
 exact⟨rfl,rfl⟩
theorem AVn(s)(c:Int)(w):Calls prog 414 #[.string s,.int .u8 c] w λe a=>e=.returned (.int .i64 (Lib.indexByte s.data.toList c.toNat.toUInt8))/\w=a:=by
 go_enter func414,ntmps414
 go_wp2_with (go_at_call 370;refine(AJx _ _ _).mono ?_;rintro e a ⟨rfl,rfl⟩)
 go_ret
 exact⟨rfl,rfl⟩
def Uk(t:AA AH)(l:AA<|Fin 6):AH:=l.foldl (λs x=>if t.contains (letter x.val)then s|||UInt8.ofNat (2^x.val)else s) 0
theorem AbN(t l x):Uk t (l++[x])=if t.contains (letter x.val)then Uk t l|||UInt8.ofNat (2^x.val)else Uk t l:=by simp[Uk]
theorem or_bit(a)(k:Nat)(h:k<6):bits .or .u8 (a.toNat:Int) (IntKind.u8.wrap<|2^k)=((a|||UInt8.ofNat (2^k)).toNat:Int):=by
 have e:IntKind.u8.wrap (2^k)=((UInt8.ofNat<|2^k).toNat:Int):=by
  match k,h with
  |0,_=>rfl
  |1,_=>rfl
  |2,_=>rfl
  |3,_=>rfl
  |4,_=>rfl
  |5,_=>rfl
 rw[e,AHn]
theorem AXR(n:Nat):((97:Int)+(n:Int)).toNat.toUInt8=letter n:=by rw[show((97:Int)+(n:Int)).toNat=97+n from by omega];rfl
theorem AVm:∀x:Fin 6,[97].contains (letter x.val)->0<=Lib.indexByte [97] (letter x.val):=by decide
theorem indexB:∀x:Fin 6,[97].contains (letter x.val)=false->Lib.indexByte [97] (letter x.val)<0:=by decide
theorem AZd(s)(B:Hid (s.data.toList=[97]))(T:(s.toList==[45])=false)(U:s.toList.isEmpty=false)(C: ¬s.toList=[])(V:(s.size:Int)<=11)(w)(y:Kg w):
 CallsIn Fence.wide 6 prog 395 #[.string s] w λe t=>e=.returned (.tuple #[.int .u8 1,.bool true])/\Below w.heap.size w t:=by
 have HL:=Lib.hid y;have q:=y.lt;refine callsIn_of_wp_marks func395 rfl trivial ?_ rfl;simp[ntmps395,LF]
 gi_wp2_with (refine⟨trivial,?_⟩;gi_at_call 258;refine(AMG Fence.wide _ trivial rfl _ _).mono ?_;rintro e t ⟨rfl,rfl⟩)
 have bT:=Boxed.new w 9 (.string s);have F:=Boxed.new (w.alloc (.cells #[.string s] 9)) 5 (.int .u8 0);have E:=Boxed.new ((w.alloc (.cells #[.string s] 9)).alloc (.cells #[.int .u8 0] 5)) 5 (.int .u8 63);rw[World.size_alloc]at F;rw[World.size_alloc,World.size_alloc]at E;refine wpIn_rangeFunc_ownG rfl oG (gf:=332) (lb:=#[.pointer (aP (w.heap.size+2))]) rfl trivial (enters_of func332 kR rfl)
  (AMH Fence.wide (6-1) trivial rfl oG (w.heap.size+2) 63 _ sP E.cell) (λh k=>k.trans h) (SG sP) (Below.refl _ _) (λ_=>rfl)
  (λpre W=>(Boxed W (w.heap.size+1) 5 (.int .u8 ((Uk [97] pre).toNat:Int))/\Boxed W w.heap.size 9 (.string s))/\E5 (w.heap.size+3) (w.heap.size+1) (((w.alloc (.cells #[.string s] 9)).alloc (.cells #[.int .u8 0] 5)).alloc (.cells #[.int .u8 63] 5)) W)
  (λ_ _ _=>False)
  (OwnFrom.and (Own.from (Td _ _ _ _ _ _) _) (AIE sP))
  (λ_ _ _ _ _ P _ _=>P)
  ⟨⟨F.alloc _,(bT.alloc _).alloc _⟩,E5.refl _ _ _⟩
  ?_ ?assign ?body ?done ?stop
 case assign=>
  intro l x W K d
  gi_wp2
  exact d
 case body=>
  rintro l pre x W ⟨⟨g,hT⟩,j⟩ hlen;have f:=g.cell;have p:=hT.cell;have O:=g.frozen;have N:=((HL.out.behind (((Below.refl _ w).alloc (Ag _) _).alloc sP _ |>.alloc sO _)).below (j.below (B':=w.heap.size) oG oG) q) x.val x.isLt;have Q:=x.isLt;have z:=AXR x.val;have m:=Lib.hid (AbN [97] pre x);have mixed:prog.follows .mixedOrders:=kR;have v:=Lib.hid (AVn s (97+(x.val:Int)));rw[B.out,z]at v;cases b:[97].contains (letter x.val)with
  |true=>
   have A:=AVm x b;have u:=Lib.hid b
   gi_wp2
   gi_region_with_o (refine⟨trivial,?_⟩;gi_at_call 414;refine(CallsIn.inRound l (Lq (v.out _))).mono ?_;rintro e t ⟨rfl,rfl⟩)
   all_goals gi_wp2
   all_goals gi_region_with_o (fail)
   all_goals gi_wp2
   all_goals
    rw[or_bit _ _ Q];refine⟨((KeepsOthers.setCell _ _ _).trans ((KeepsOthers.drew _).trans (KeepsOthers.drew _))).from _,Below.heap_setCell _ _ _ _ sP,⟨?_,(Below.heap_setCell _ _ _ _ sP).trans hT⟩,(j.trans (E5.setCell _ _ _)).trans (E5.of_below (((Below.refl _ _).drew).drew))⟩;rw[m.out,u.out];exact g.set _
  |false=>
   have A:=indexB x b;have u:=Lib.hid b
   gi_wp2
   gi_region_with_o (refine⟨trivial,?_⟩;gi_at_call 414;refine(CallsIn.inRound l (Lq (v.out _))).mono ?_;rintro e t ⟨rfl,rfl⟩)
   all_goals gi_wp2
   all_goals exact⟨(KeepsOthers.drew _).from _,rfl,⟨⟨by rwa[m.out,u.out],hT⟩,j.trans (E5.of_below (Below.refl _ _).drew)⟩⟩
 case done=>
  rintro D Y W L rfl ⟨⟨g,hT⟩,j⟩ d;have f:=g.cell;have p:=hT.cell;have mixed:prog.follows .mixedOrders:=kR;have o:=(Ls.1 d).1;rw[World.size_alloc,World.size_alloc,World.size_alloc]at L;have n:Below w.heap.size w W:=((((Below.refl _ w).alloc (Ag _) _).alloc sP _).alloc sO _).trans (j.below oG oG);have hend:∀i,Below W.heap.size W i->Below w.heap.size w (i.putObj D (.deferred none)):=λi a=>
   (n.trans (a.mono n.size)).trans (belowK_b (w:=w) (Ag _) i D _ _ oG ((a.block D o).trans d) rfl rfl)
  have H:Uk [97] (JY 63 6)=1:=rfl;rw[H]at g f;have X:((AJ [97]).toList==s.toList):=by rw[GP,AJ,ByteArray.toList_mk,ByteArray.toList_eq,B.out]
  have R:=cell_regrown f;have S:=cell_regrown p;have G:=AaP (n:=6-1) (λJ M=>Acu J (((HL.out.behind ((((Below.refl _ w).alloc (Ag _) _).alloc sP _).alloc sO _)).below (j.below (B':=w.heap.size) oG oG) q).behind M))
  gi_wp2
  refine wpIn_region_quiet_below rfl mixed kR ?_
  repeat(refine wpQuietIn_step (λ_ _ _ _=>trivial) (λK d=> ?_);go_simp;first|(refine d _ ?_;clear d K)|(apply Exists.intro;refine⟨λ_=> ?_,d _ ?_⟩;exact G _ _;clear d K))
  refine wpQuietIn_nil ?_;intro i r;have a:=YU r;have I:=(a.cell (p:=⟨w.heap.size+1,0,none⟩) g.lt).trans f
  gi_wp2
  exact⟨sP,.inl ⟨_,_,rfl,run_takeDeferred ((a.block D o).trans d),_,results_tmp2 rfl _ _ _,rfl,hend i a⟩⟩
 case stop=>
  rintro D c pre W _ _ h _;exact h.elim
theorem AZc(w)(a:Kg w):Calls prog 395 #[.string<|AJ [97]] w λe b=>e=.returned (.tuple #[.int .u8 1,.bool true])/\Below w.heap.size w b:=
 callsIn_wide.1<|AZd (AJ [97]) (Lib.hid rfl) (by rw[ByteArray.toList_eq];rfl) (by rw[ByteArray.toList_eq];rfl) (by rw[ByteArray.toList_eq];exact λh=>nomatch h) (by decide) w a
end
section
attribute [local go_sem] Oper.semAt_some Fz Jc
theorem AJz(b s w):Calls prog 338 #[.string s,.string ⟨#[b]⟩] w λe c=>e=.returned (.int .i64 (Lib.indexByte s.data.toList b))/\w=c:=by
 have d:=Lib.hid (ByteArray.toList_eq s);cases f:([b]==s.toList)with
 |true=>
  have a:Lib.indexByte s.data.toList b=0:=by rw[<-d.out,<-eq_of_beq f];simp[Lib.indexByte]
  rw[a]
  go_enter func338,ntmps338
  go_wp2
  go_ret
  exact⟨rfl,rfl⟩
 |false=>
  go_enter func338,ntmps338
  go_wp2_with (go_at_call 370;refine(AJx _ _ _).mono ?_;rintro e c ⟨rfl,rfl⟩)
  go_ret
  exact⟨rfl,rfl⟩
theorem ADy(b s w):Calls prog 337 #[.string s,.string ⟨#[b]⟩] w λe a=>e=.returned (.int .i64 (Lib.indexByte s.data.toList b))/\w=a:=by
 go_enter func337,ntmps337
 go_wp2_with (go_at_call 338;refine(AJz _ _ _).mono ?_;rintro e a ⟨rfl,rfl⟩)
 go_ret
 exact⟨rfl,rfl⟩
theorem AJB(l k):(AJ l).extract 0 k=AJ (l.take k):=by apply Xn;simp[AJ]
theorem extract_from(l k):(AJ l).extract k l.length=AJ (l.drop k):=by apply Xn;simp[AJ];exact Na sP
end
section
attribute [local go_sem] Fz Jc
theorem AQw(w n):Below w.heap.size w (w.drewN n):=⟨rfl,rfl,rfl,Ag _,λ_ _=>rfl⟩
def EM(b:AH)(t:AA AH):AA AH×AA AH×Bool:=
 if 0<=Lib.indexByte t b then(t.take (Lib.indexByte t b).toNat,t.drop<|(Lib.indexByte t b).toNat+1,true)else(t,[],false)
theorem ASR(b:UInt8)(t:List UInt8)(n:t.length<=maxLen)(w:World):Calls prog 265 #[.string (AJ t),.string ⟨#[b]⟩] w λe l=>e=.returned (.tuple #[.string (AJ (EM b t).1),.string (AJ (EM b t).2.1),.bool (EM b t).2.2])/\Below w.heap.size w l:=by
 rw[maxLen]at n;have HX:=Lib.hid (λW=>AJz b (AJ t) W);rw[IW]at HX;have d:=Lib.indexByte_ge t b;have c:=Lz.AMD b t;have f:=Lib.hid (show EM b t=if 0<=Lib.indexByte t b then(t.take (Lib.indexByte t b).toNat,t.drop ((Lib.indexByte t b).toNat+1),true)else(t,[],false)from rfl);revert f;generalize EM b t=r;generalize Lib.indexByte t b=ix at HX d c⊢;intro f;by_cases a:0<=ix
 .obtain⟨k,rfl⟩:∃k:Nat,ix=k:=⟨ix.toNat,oG⟩;obtain⟨v,-⟩:=c k rfl;have h:=AJB t k;have g:=extract_from t (k+1);have j:=Lib.hid h;have i:=Lib.hid g;rw[if_pos a,Int.toNat_natCast]at f;clear c d h g a;rw[f.out];have mixed:=mixedOrders;have x:IntKind.i64.wrap ((k:Int)+1)=(k:Int)+1:=IntWalk.i64_in _ oG;have o:(0:Int)<=(k:Int):=oG;have p:(k:Int)<=t.length:=oG;have q:(0:Int)<=(k:Int)+1:=oG;have s:(k:Int)+1<=t.length:=oG;have u:((k:Int)+1).toNat=k+1:=oG
  go_enter func265,ntmps265
  go_wp2_with (go_at_call 338;refine(HX.out _).mono ?_;rintro e l ⟨rfl,rfl⟩)
  go_quiet (fail)
  go_wp2
  rw[j.out,i.out];refine bodyPost_ret (v:=.tuple #[.string (AJ (t.take k)),.string (AJ (t.drop (k+1))),.bool true]) ?_ rfl ⟨rfl,AQw w _⟩;simp[results,f265,go_sem]
 .have m:ix<0:=oG;rw[if_neg a]at f;clear c d a;rw[f.out]
  go_enter func265,ntmps265
  go_wp2_with (go_at_call 338;refine(HX.out _).mono ?_;rintro e l ⟨rfl,rfl⟩)
  refine bodyPost_ret (v:=.tuple #[.string (AJ t),.string ⟨#[]⟩,.bool false]) ?_ rfl ⟨rfl,Below.refl _ _⟩;simp[results,f265,go_sem]
theorem ASS(b t)(c:t.length<=maxLen)(w):Calls prog 185 #[.string (AJ t),.string ⟨#[b]⟩] w λe d=>e=.returned (.tuple #[.string (AJ (EM b t).1),.string (AJ (EM b t).2.1),.bool (EM b t).2.2])/\Below w.heap.size w d:=by
 have HX:=Lib.hid (λW=>ASR b t c W);generalize EM b t=r at HX⊢;let⟨x,y,b⟩:=r
 go_enter func185,ntmps185
 go_wp2_with (go_at_call 265;refine(HX.out _).mono ?_;rintro e f ⟨rfl,a⟩)
 refine bodyPost_ret (v:=.tuple #[.string (AJ x),.string (AJ y),.bool b]) ?_ rfl ⟨rfl,a⟩;simp[results,f185,go_sem]
end
section
attribute [local go_sem] Oper.semAt_some Fz Jc
theorem Ab2(n)(k:1<=n)(B w)(f:B+1<w.heap.size)(c:Boxed w B 9 (.string (AJ [97])))(d:Boxed w (B+1) 9 (.string ⟨#[38]⟩)):
 SeqStopsK Fence.wide n prog 363 #[.pointer (aP (B+1)),.pointer (aP B),.pointer (aP (B+2))] (λ_:Unit=>#[Value.string (AJ [97])]) (λ_ _=>True) (· =[()]) (λ_=>True) 1 w:=λl J i W hW _ _ h h0=>by
 have q0:=(LV c hW oG).cell;have q1:=(LV d hW f).cell;have HX:=Lib.hid (λW=>ADy 38 (AJ [97]) W);rw[IW,show Lib.indexByte [97] 38= -1 from rfl]at HX;refine callsIn_of_wp func363 rfl trivial ?_ rfl;simp only[ntmps363,Iv,FM,KJ,Nat.reduceAdd,Nat.reduceSub,LF,LH,LK,LI,F2,F1]
 gi_wp2
 gi_loopw [7,8] (λ_ _ wr=>wr=W) (λ_ _ _=>0)
 case atStart=>rfl
 case round=>
  subst hrel;let⟨fn,tmps,assign,body,m,g⟩:=h [] () _ h0 dC
  gi_wp2_with (refine⟨trivial,?_⟩;gi_at_call 337;refine(Lq (HX.out _)).mono ?_;rintro e o ⟨rfl,rfl⟩)
  refine g.mono ?_;rintro e j (⟨rfl,b,_⟩|⟨rfl,a⟩)
  all_goals gi_wp2
  all_goals go_end0
  exact⟨⟨_,rfl⟩,.inl ⟨_,rfl,b⟩⟩;exact⟨⟨_,rfl⟩,.inr ⟨_,trivial,a⟩⟩
theorem Ab4(s w):
 Calls prog 323 #[.string s,.string ⟨#[38]⟩,.int .i64 0] w λe a=>e=.returned (.func (.func 363) #[] #[.pointer (aP (w.heap.size+1)),.pointer (aP w.heap.size),.pointer (aP (w.heap.size+2))])/\a=((w.alloc (.cells #[.string s] 9)).alloc (.cells #[.string ⟨#[38]⟩] 9)).alloc (.cells #[.int .i64 0] 3):=by
 go_enter func323,ntmps323
 go_wp2
 go_ret
 exact⟨rfl,rfl⟩
theorem Ab3(s w):
 Calls prog 248 #[.string s,.string ⟨#[38]⟩] w λe a=>e=.returned (.func (.func 363) #[] #[.pointer (aP (w.heap.size+1)),.pointer (aP w.heap.size),.pointer (aP (w.heap.size+2))])/\a=((w.alloc (.cells #[.string s] 9)).alloc (.cells #[.string ⟨#[38]⟩] 9)).alloc (.cells #[.int .i64 0] 3):=by
 go_enter func248,ntmps248
 go_wp2_with (go_at_call 323;refine(Ab4 s _).mono ?_;rintro e a ⟨rfl,rfl⟩)
 go_ret
 exact⟨rfl,rfl⟩
end
end
end Go.Proofs.YtomehhepbeiinaaGreatDoor
namespace Lz
def NS(b:Nat->Bool):Nat->Nat
 |0=>0
 |k+1=>if b k then NS b k|||2^k else NS b k
def ANq(b k):NS b k<2^k:=by
 induction k with
 |zero=>simp[NS]
 |succ k c=>
  have a:2^k<2^(k+1):=AGd dC oG;rw[NS];split;exact Nat.or_lt_two_pow oG a;omega
def Acb(b k i):(NS b k).testBit i=(decide (i<k)&&b i):=by
 induction k with
 |zero=>simp[NS]
 |succ k d=>
  rw[NS];split;rename_i c;rw[Nat.testBit_or,d,Nat.testBit_two_pow];by_cases h:k=i;subst h;simp[c];simp[h];by_cases a:i<k;simp[a,Nat.lt_succ_of_lt a];have: ¬i<k+1:=oG;simp[a,this];rename_i c;rw[d];by_cases h:k=i;subst h;simp at c;simp[c];by_cases a:i<k;simp[a,Nat.lt_succ_of_lt a];have: ¬i<k+1:=oG;simp[a,this]
def table(f:AA AH):Nat:=NS (λx=>sat f<|UInt8.ofNat x) 64
def AAv(f i):(table f).testBit i=(decide (i<64)&&sat f (UInt8.ofNat i)):=Acb _ _ _
def AVh(f g):JQ f g↔∀i,i<64->(table f).testBit i->(table g).testBit i:=by rw[JQ];rw[EQ];constructor;intro h i c;rw[AAv,AAv];have:=h i<|O4.2 c;simp[c]at this⊢;intro d;rcases this with b|b;rw[d]at b;cases b;exact b;intro h i c;have a:=O4.1 c;have:=h i a;rw[AAv,AAv]at this;simp[a]at this;cases d:sat f<|UInt8.ofNat i;rfl;simp[this d]
end Lz
namespace Go.Proofs.YtomehhepbeiinaaGreatDoor
open Go.RowKit
def If:Nat:=2^64
def ofInt_u64(a:Nat)(b:a<If):(BitVec.ofInt 64 (a:Int)).toNat=a:=by rw[BitVec.ofInt_natCast,BitVec.toNat_ofNat];exact Nat.mod_eq_of_lt b
def AGA(a:Nat)(b:a<If):IntKind.u64.wrap (a:Int)=(a:Int):=by rw[IntKind.wrap_u64];have:a<18446744073709551616:=b;omega
def AQ3(a b:Nat)(c:a<If)(d:b<If):bits .or .u64 (a:Int) (b:Int)=((a|||b:Nat):Int):=by have e:a|||b<If:=Nat.or_lt_two_pow (n:=64) c d;show IntKind.u64.wrap ((BitVec.ofInt 64 (a:Int)|||BitVec.ofInt 64 (b:Int)).toNat:Int)=_;rw[BitVec.toNat_or,ofInt_u64 a c,ofInt_u64 b d,AGA _ e]
def AQ1(a b:Nat)(c:a<If)(d:b<If):bits .andNot .u64 (a:Int) (b:Int)=((a&&&(If-1-b):Nat):Int):=by have e:a&&&(If-1-b)<If:=Nat.lt_of_le_of_lt Nat.and_le_left c;show IntKind.u64.wrap ((BitVec.ofInt 64 (a:Int)&&& ~~~BitVec.ofInt 64 (b:Int)).toNat:Int)=_;rw[BitVec.toNat_and,BitVec.toNat_not,ofInt_u64 a c,ofInt_u64 b d];exact AGA _ e
def Aba(k:Nat)(h:k<64):IntKind.u64.wrap (2^k)=((2^k:Nat):Int):=by have a:(2:Nat)^k<If:=AGd dC h;have:=AGA (2^k) a;rw[<-this];congr 1
def AAw(f):Lz.table f<If:=Lz.ANq _ 64
def AVi(f g):(bits .andNot .u64 (Lz.table f:Int) (Lz.table g:Int)==0)=Lz.JQ f g:=by
 rw[AQ1 _ _ (AAw f)<|AAw g,F0,GP,Lz.AVh];constructor;intro h i a c;have b:Lz.table f&&&(If-1-Lz.table g)=0:=oG;have:(Lz.table f&&&(If-1-Lz.table g)).testBit i=false:=by rw[b];simp
 rw[Nat.testBit_and,c,RL,show If-1-Lz.table g=2^64-(Lz.table g+1)from by rw[If];omega,APA<|AAw g]at this;simpa[a]using this;intro h;have b:Lz.table f&&&(If-1-Lz.table g)=0:=by apply Nat.eq_of_testBit_eq;intro i;rw[Nat.testBit_and,show If-1-Lz.table g=2^64-(Lz.table g+1)from by rw[If];omega,APA<|AAw g,Nat.zero_testBit];by_cases a:i<64;have:=h i a;cases c:(Lz.table f).testBit i;rfl;rw[this c];simp;simp[a]
 rw[b];rfl
end Go.Proofs.YtomehhepbeiinaaGreatDoor
namespace Lz
theorem Afr:∀(l:AA AH)(n:Nat),OC l->(∀c,c∈l->n<=c.toNat/\c.toNat<64)->l.length<=64-n
 |[],_,_,_=>sP
 |a::l,n,h,hb=>by rw[OC]at h;rw[G4]at h;have d:=hb a sP;have:=Afr l (a.toNat+1) h.2 λc b=>⟨h.1 c b,(hb c<|by simp[b]).2⟩;rw[FM];omega
theorem AgX{f c}(h:c∈DO f):c.toNat<64:=AIP.1<|Yj f c h
theorem Afl(f):(DO f).length<=64:=Afr _ 0 (AEJ _) λ_ a=>⟨Bm _,AgX a⟩
end Lz
namespace Go.Proofs.YtomehhepbeiinaaGreatDoor
open Tryz
open Go.RowKit Go.Shelf
attribute [local go_sem] Jc Fz
theorem AR4(s)(d:s.size<=1000000)(w):
 Calls prog 396 #[.string s] w λe f=>e=.returned (.bool (Lz.DO s.data.toList==s.data.toList))/\Below w.heap.size w f:=by
 have b:=ByteArray.toList_eq s;have c:=Lib.hid b
 go_enter func396,ntmps396
 go_wp2_with fail
 refine(Nx s d _).mono ?_;rintro e g ⟨rfl,a⟩
 go_wp2
 go_ret
 exact⟨Se (by rw[<-c.out]),a⟩
end Go.Proofs.YtomehhepbeiinaaGreatDoor
namespace Go.Proofs.YtomehhepbeiinaaGreatDoor
open Tryz
section
open Go.RowKit Go.Shelf
section
attribute [local go_sem] Fz
def OW(l:AA AH)(k:Nat):Nat:=Lz.NS (λx=>Lz.Eo l<|UInt8.ofNat x) k
theorem AU1(l k)(h:k<=64):OW l k<If:=QA (Lz.ANq _ k)<|AGc dC h
theorem AU2(l):OW (Lz.DO l) 64=Lz.table l:=rfl
theorem AdY(k:Nat):((2:Int)^k)=((2^k:Nat):Int):=(Int.natCast_pow 2 k).symm
theorem ANr(s)(p:s.size<=1000000)(w):
 Calls prog 111 #[.string s] w λe u=>e=.returned (.int .u64 (Lz.table s.data.toList))/\Below w.heap.size w u:=by
 have r:=UV s.data.toList
 go_enter func111,ntmps111
 go_wp2_with fail
 refine(Nx s p _).mono ?_;rintro e x ⟨rfl,l⟩;have m:=Lib.hid (AU2 s.data.toList);generalize Lz.DO s.data.toList=n at r m⊢
 go_wp2_with fail
 go_loopw [3,4,7] (λt _ i v=>∃k:Nat,k<=64/\i=.int .u8 k/\t=.int .u64 (OW n k)/\Below w.heap.size w v) (λ_ _ i _=>64-(intOf i).toNat)
 case atStart=>exact⟨0,oG,rfl,rfl,l⟩
 case round=>
  obtain⟨k,o,rfl,rfl,c⟩:=hrel;by_cases f:k<64
  .have q:=Aba k f;have g:=AQ3 (OW n k) (2^k) (AU1 n k o) (AGd dC f);have j:=Lib.hid g
   go_wp2_with fail
   refine(AVI _ (by rw[Fz];omega) _ (UInt8.ofNat k) (by rw[Lz.Pt oG]) _).mono ?_;rintro e y ⟨rfl,d⟩;rw[IW];cases h:Lz.Eo n (UInt8.ofNat k)with
   |true=>
    have a:OW n (k+1)=OW n k|||2^k:=by unfold OW;rw[Lz.NS,Ac h]
    have b:=Lib.hid a
    go_wp2
    go_roundw
    case rel=>exact⟨k+1,oG,by go_num,by rw[AdY,j.out,b.out],c.trans (d.mono c.size)⟩
    case measure=>simp[intOf];omega
   |false=>
    have a:OW n (k+1)=OW n k:=by unfold OW;rw[Lz.NS,h];rfl
    have b:=Lib.hid a
    go_wp2
    go_roundw
    case rel=>exact⟨k+1,oG,by go_num,by rw[b.out],c.trans (d.mono c.size)⟩
    case measure=>simp[intOf];omega
  .obtain rfl:k=64:=oG
   go_wp2
   go_ret
   exact⟨by rw[<-m.out];rfl,c⟩
theorem T7(a b:Ce)(h:a.size<=1000000)(i:b.size<=1000000)(w:AN):
 Calls prog 57 #[.string a,.string b] w λe j=>e=.returned (.bool (Lz.JQ a.data.toList b.data.toList))/\Below w.heap.size w j:=by
 have f:=AVi a.data.toList b.data.toList;have g:=Lib.hid f;clear f
 go_enter func57,ntmps57
 go_wp2_with fail
 refine(ANr a h _).mono ?_;rintro e k ⟨rfl,c⟩
 go_wp2_with fail
 refine(ANr b i _).mono ?_;rintro e l ⟨rfl,d⟩
 go_wp2
 go_ret
 exact⟨Se g.out,c.trans (d.mono c.size)⟩
end
def EE(W:AN)(B:Nat)(t:BN)(u v:AF):Prop:=W.heap[B]? =some (.cells #[u,v] t (0,0))
theorem EE.lt{W B t u v}(h:EE W B t u v):B<W.heap.size:=(Ls.1 h).1
theorem EE.cell0{W B t u v}(h:EE W B t u v):W.cell? ⟨B,0,none⟩=some u:=by simp[World.cell?,show W.heap[B]? =_ from h]
theorem EE.cell1{W B t u v}(h:EE W B t u v):W.cell? ⟨B,1,none⟩=some v:=by simp[World.cell?,show W.heap[B]? =_ from h]
theorem EE.frozen{W B t u v}(h:EE W B t u v)(j):W.frozen? ⟨B,j,none⟩=false:=by simp[World.frozen?,show W.heap[B]? =_ from h]
theorem EE.new(W:AN)(t u v):EE (W.alloc<|.cells #[u,v] t) W.heap.size t u v:=World.alloc_heap_new W _
theorem EE.below{a b W d t u v}(h:EE W b t u v)(e:Below a W d)(c:b<a):EE d b t u v:=(e.block b c).trans h
theorem EE.alloc{b W t u v}(h:EE W b t u v)(o):EE (W.alloc o) b t u v:=(Below.heap_alloc W o b h.lt).trans h
theorem AfW{n:Nat}{W:AN}(h:n=W.heap.size)(t:BN)(u v:AF):EE (W.alloc<|.cells #[u,v] t) n t u v:=h▸EE.new W t u v
theorem AfF(w)(t)(a b c d){W}(h:W=(w.alloc (.cells #[a,b] t)).alloc (.cells #[c,d] t)):EE W w.heap.size t a b/\EE W (w.heap.size+1) t c d/\Below w.heap.size w W:=
 h▸⟨(EE.new w t a b).alloc _,AfW (by simp) _ _ _,((Below.refl _ w).alloc (Nat.le_refl _) _).alloc sP _⟩
theorem Vp{W b t u v q}(h:EE W b t u v):EE (W.setCell ⟨b,0,none⟩ q) b t q v:=by let⟨a,c⟩:=Ls.1 h;show(W.heap.modify b _)[b]? =_;rw[ABO<|by rwa[Xm],ABQ,c];rfl
theorem Vq{W b t u v q}(h:EE W b t u v):EE (W.setCell ⟨b,1,none⟩ q) b t u q:=by let⟨a,c⟩:=Ls.1 h;show(W.heap.modify b _)[b]? =_;rw[ABO<|by rwa[Xm],ABQ,c];rfl
def jmL(m:Bool):AA AH->AA AH->AA AH:=cond m Lz.or Lz.and
def Cj(s i:Ce):AF:=.agg #[.string s,.string i]
theorem AEY(K b s i w)(y:∀d W,(callFunc K d).run prog W=.ok (.enter K d) W)
 (p:∀W,Below w.heap.size w W->Calls prog K (#[.bool true]++b) W λe k=>e=.returned (.string s)/\Below W.heap.size W k)
 (o:∀W,Below w.heap.size w W->Calls prog K (#[.bool false]++b) W λe k=>e=.returned (.string i)/\Below W.heap.size W k):
 Calls prog 94 #[.func (.func K) #[] b] w λe k=>e=.returned (.agg #[.string s,.string i])/\Below w.heap.size w k:=by
 have HS:=Lib.hid p;have q:=Lib.hid o
 go_enter func94,ntmps94
 have m:=EE.new w 42 (.string ⟨#[]⟩) (.string ⟨#[]⟩);have l:Below w.heap.size w (w.alloc (.cells #[.string ⟨#[]⟩,.string ⟨#[]⟩] 42)):=(Below.refl _ w).alloc (Ag _) _
 go_wp2_with fail
 refine(HS.out _ l).mono ?_;rintro e z ⟨rfl,g⟩;have c:=l.trans (g.mono l.size);have f:=m.below g m.lt
 go_wp2_with fail
 refine(q.out _ c).mono ?_;rintro e A ⟨rfl,h⟩;have n:=c.trans (h.mono c.size);have a:=f.below h f.lt;have u:=a.cell0;have c1:=a.cell1;have v:=a.frozen 0;have x:=a.frozen 1
 go_wp2
 have j:=Vq (q:=.string i) (Vp (q:=.string s) a);have r:=j.cell0;have t:=j.cell1;refine bodyPost_ret (v:=.agg #[.string s,.string i]) ?_ rfl ⟨rfl,(n.setCell (p:=⟨w.heap.size,0,none⟩) (Ag _) _).setCell (p:=⟨w.heap.size,1,none⟩) (Ag _) _⟩;simp[results,f94,go_sem,r,t]
theorem AJl(h:Bool)(s i w):
 Calls prog 275 #[.bool h,.agg #[.string s,.string i]] w λe a=>e=.returned (.string (if h then s else i))/\Below w.heap.size w a:=by
 cases h
 .go_enter func275,ntmps275
  go_wp2
  go_ret
  exact⟨rfl,(Below.refl _ _).alloc (Ag _) _⟩
 .go_enter func275,ntmps275
  go_wp2
  go_ret
  exact⟨rfl,(Below.refl _ _).alloc (Ag _) _⟩
theorem ALk(h:Bool)(b s i)(g:s.size<=1000000)(f:i.size<=1000000)(w)(d:EE w b 42 (.string s) (.string i)):
 Calls prog 274 #[.bool h,.pointer (aP b)] w λe j=>e=.returned (.string (AJ (Lz.DO (if h then s else i).data.toList)))/\Below w.heap.size w j:=by
 have m:=d.cell0;have c1:=d.cell1;cases h
 .go_enter func274,ntmps274
  go_wp2_with fail
  refine(AJl false s i _).mono ?_;rintro e k ⟨rfl,a⟩
  go_wp2_with fail
  refine(Nx i f _).mono ?_;rintro e l ⟨rfl,c⟩
  go_wp2
  go_ret
  exact⟨rfl,a.trans (c.mono a.size)⟩
 .go_enter func274,ntmps274
  go_wp2_with fail
  refine(AJl true s i _).mono ?_;rintro e k ⟨rfl,a⟩
  go_wp2_with fail
  refine(Nx s g _).mono ?_;rintro e l ⟨rfl,c⟩
  go_wp2
  go_ret
  exact⟨rfl,a.trans (c.mono a.size)⟩
theorem AKZ(s i)(l:s.size<=1000000)(k:i.size<=1000000)(w):
 Calls prog 189 #[.agg #[.string s,.string i]] w λe o=>e=.returned (.agg #[.string (AJ (Lz.DO s.data.toList)),.string (AJ (Lz.DO i.data.toList))])/\Below w.heap.size w o:=by
 have c:=(EE.new w 42 (.string s) (.string i)).alloc (.cells #[.string ⟨#[]⟩,.string ⟨#[]⟩] 42);have f:=EE.new (w.alloc (.cells #[.string s,.string i] 42)) 42 (.string ⟨#[]⟩) (.string ⟨#[]⟩);rw[World.size_alloc]at f;have g:Below w.heap.size w ((w.alloc (.cells #[.string s,.string i] 42)).alloc (.cells #[.string ⟨#[]⟩,.string ⟨#[]⟩] 42)):=((Below.refl _ w).alloc (Ag _) _).alloc sP _
 go_enter func189,ntmps189
 go_wp2_with fail
 refine(AEY 274 #[.pointer (aP w.heap.size)] (AJ (Lz.DO s.data.toList)) (AJ (Lz.DO i.data.toList)) _ (enters_of func274 kR rfl) (λW j=>ALk true w.heap.size s i l k W (c.below j c.lt)) (λW j=>ALk false w.heap.size s i l k W (c.below j c.lt))).mono ?_;rintro e t ⟨rfl,b⟩;have a:=f.below b f.lt;have p:=a.cell0;have c1:=a.cell1;have q:=a.frozen 0;have r:=a.frozen 1;have h:=g.trans (b.mono g.size)
 go_wp2
 have d:=Vq (q:=.string (AJ (Lz.DO i.data.toList))) (Vp (q:=.string (AJ (Lz.DO s.data.toList))) a);have m:=d.cell0;have n:=d.cell1;refine bodyPost_ret (v:=.agg #[.string (AJ (Lz.DO s.data.toList)),.string (AJ (Lz.DO i.data.toList))]) ?_ rfl ⟨rfl,(h.setCell (p:=⟨w.heap.size+1,0,none⟩) (Cv _) _).setCell (p:=⟨w.heap.size+1,1,none⟩) (Cv _) _⟩;simp[results,f189,go_sem,m,n]
theorem AgN(m h:Bool)(b c s i g f)(q:s.size<=1000000)(p:i.size<=1000000)(d:g.size<=1000000)(a:f.size<=1000000)(w)(n:EE w b 42 (.string s) (.string i))(o:EE w c 42 (.string g) (.string f)):
 Calls prog (cond m 348 95) #[.bool h,.pointer (aP b),.pointer (aP c)] w λe r=>e=.returned (.string (AJ (if h then jmL m s.data.toList g.data.toList else jmL (!m) i.data.toList f.data.toList)))/\Below w.heap.size w r:=by
 have t:=n.cell0;have c1:=n.cell1;have u:=o.cell0;have v:=o.cell1;cases k:m<;>cases j:h
 all_goals
  first
  |(obtain rfl:m=false:=k;obtain rfl:h=false:=j;go_enter func95,ntmps95;go_wp2_with fail;refine(AL1 i f p a _).mono ?_)
  |(obtain rfl:m=false:=k;obtain rfl:h:=j;go_enter func95,ntmps95;go_wp2_with fail;refine(TV s g q d _).mono ?_)
  |(obtain rfl:m:=k;obtain rfl:h=false:=j;go_enter func348,ntmps348;go_wp2_with fail;refine(TV i f p a _).mono ?_)
  |(obtain rfl:m:=k;obtain rfl:h:=j;go_enter func348,ntmps348;go_wp2_with fail;refine(AL1 s g q d _).mono ?_)
  rintro e x ⟨rfl,l⟩
  go_wp2
  go_ret
  exact⟨rfl,l⟩
theorem Afh(m:Bool)(s i d c)(C:s.size<=1000000)(B:i.size<=1000000)(t:d.size<=1000000)(p:c.size<=1000000)(w):
 Calls prog (cond m 292 36) #[.agg #[.string s,.string i],.agg #[.string d,.string c]] w λe D=>e=.returned (.agg #[.string (AJ (jmL m s.data.toList d.data.toList)),.string (AJ (jmL (!m) i.data.toList c.data.toList))])/\Below w.heap.size w D:=by
 let⟨x,y,v⟩:=AfF w 42 (.string s) (.string i) (.string d) (.string c) rfl;have f:=x.alloc (.cells #[.string ⟨#[]⟩,.string ⟨#[]⟩] 42);have g:=y.alloc (.cells #[.string ⟨#[]⟩,.string ⟨#[]⟩] 42);have n:=v.alloc sO (.cells #[.string ⟨#[]⟩,.string ⟨#[]⟩] 42);have l:=AfW (n:=w.heap.size+1+1) (W:=(w.alloc (.cells #[.string s,.string i] 42)).alloc (.cells #[.string d,.string c] 42)) (by simp) 42 (.string ⟨#[]⟩) (.string ⟨#[]⟩);have hE:Enters prog (cond m 348 95):=by cases m;exact enters_of func95 kR rfl;exact enters_of func348 kR rfl
 have H:=Lib.hid λh W=>AgN m h (w.heap.size) (w.heap.size+1) s i d c C B t p W;have hE:=Lib.hid hE;cases u:m
 all_goals
  first
  |(obtain rfl:m=false:=u;go_enter func36,ntmps36)
  |(obtain rfl:m:=u;go_enter func292,ntmps292)
  go_wp2_with fail
  refine(AEY _ #[.pointer (aP w.heap.size),.pointer (aP (w.heap.size+1))] _ _ _ hE.out (λW k=>H.out true W (f.below k f.lt) (g.below k g.lt)) (λW k=>H.out false W (f.below k f.lt) (g.below k g.lt))).mono ?_;rintro e I ⟨rfl,b⟩;have a:=l.below b l.lt;have E:=a.cell0;have c1:=a.cell1;have F:=a.frozen 0;have G:=a.frozen 1;have o:=n.trans (b.mono n.size)
  go_wp2
  have j:=λq r:Ce=>Vq (q:=.string r) (Vp (q:=.string q) a);have z:=λq r=>(j q r).cell0;have A:=λq r=>(j q r).cell1;refine bodyPost_ret (v:=.agg #[.string (AJ (jmL _ s.data.toList d.data.toList)),.string (AJ (jmL _ i.data.toList c.data.toList))]) ?_ rfl ⟨rfl,(o.setCell (p:=⟨w.heap.size+1+1,0,none⟩) (show w.heap.size<=w.heap.size+1+1 by omega) _).setCell (p:=⟨w.heap.size+1+1,1,none⟩) (show w.heap.size<=w.heap.size+1+1 by omega) _⟩;simp[results,f36,f292,go_sem,z,A]
def WC(s i b a:AA AH):Bool:=Lz.JQ b s&&Lz.JQ i a
theorem AUM(s i c d)(o:s.size<=1000000)(n:i.size<=1000000)(l:c.size<=1000000)(k:d.size<=1000000)(w):
 Calls prog 15 #[.agg #[.string s,.string i],.agg #[.string c,.string d]] w λe p=>e=.returned (.bool (WC s.data.toList i.data.toList c.data.toList d.data.toList))/\Below w.heap.size w p:=by
 let⟨f,g,h⟩:=AfF w 42 (.string s) (.string i) (.string c) (.string d) rfl;rw[WC]
 go_enter func15,ntmps15
 go_wp2_with fail
 refine(T7 _ _ l o _).mono ?_;rintro e t ⟨rfl,a⟩;have r:=(f.below a f.lt).cell1;have c1:=(g.below a g.lt).cell1;have b:=h.trans (a.mono h.size);generalize m:Lz.JQ c.data.toList s.data.toList=q;have H:=Lib.hid m;cases q
 .go_wp2
  go_ret
  exact⟨by rw[H.out];rfl,b⟩
 .go_wp2_with fail
  refine(T7 _ _ n k _).mono ?_;rintro e u ⟨rfl,j⟩
  go_wp2
  go_ret
  exact⟨by rw[H.out];rfl,b.trans (j.mono b.size)⟩
section
theorem AWv:prog.underlying 42=some (.struct<|prog.fieldsOf 42):=kR
theorem AWu:prog.stoodInHeld 42=false:=kR
theorem AI7(n a b c d w):(Op.equalIn (n+3) 42 (.agg #[.string a,.string b]) (.agg #[.string c,.string d])).run prog w=.ok (a.toList==c.toList&&b.toList==d.toList) w:=by rw[run_equalIn_agg w (n+2) 42 _ _ AWv AWu];simp[Program.fieldsOf,underlying42];go_simp;cases e:(a.toList==c.toList)<;>cases f:(b.toList==d.toList)<;>simp_all
theorem ATX(a b c d w):(binOp .eql 42 (.agg #[.string a,.string b])<|.agg #[.string c,.string d]).run prog w=.ok (.bool<|a.toList==c.toList&&b.toList==d.toList) w:=by rw[run_eql_struct,show(10000:Nat)=9997+3 from rfl,AI7];rfl
theorem AYg(a b c d w):(binOp .neq 42 (.agg #[.string a,.string b])<|.agg #[.string c,.string d]).run prog w=.ok (.bool<|!(a.toList==c.toList&&b.toList==d.toList)) w:=by rw[run_neq_struct,show(10000:Nat)=9997+3 from rfl,AI7];rfl
attribute [local go_sem high] ATX AYg
attribute [local go_sem] Jc
theorem AWt(s i:ByteArray)(hs:s.size<=1000000)(hi:i.size<=1000000)(w):
 Calls Tryz.prog 136 #[.agg #[.string s,.string i]] w λe f=>e=.returned (.bool (Lz.DO s.data.toList==s.data.toList&&Lz.DO i.data.toList==i.data.toList))/\Below w.heap.size w f:=by
 have c:=EE.new w 42 (.string s) (.string i);have d:=cell_regrown c.cell0;have k1:=cell_regrown c.cell1;have hA:Below w.heap.size w (w.alloc (.cells #[.string s,.string i] 42)):=(Below.refl _ w).alloc (Nat.le_refl _) _;have cN:=Sc (w:=w.alloc (.cells #[.string s,.string i] 42)) (λW _=>AKZ s i hs hi W);have mixed:=mixedOrders
 go_enter Tryz.func136,Tryz.ntmps136
 go_wp2_with fail
 refine wp_region_quiet_below mixed kR ?_
 repeat(quiet_step (exact cN _ _))
 refine wpQuiet_nil ?_;intro g a;have b:=YU a
 go_wp2
 go_ret
 exact⟨Se (by rw[<-ByteArray.toList_eq s,<-ByteArray.toList_eq i]),hA.trans (b.mono hA.size)⟩
end
abbrev pv(a:Lz.AT):AF:=.agg #[.string<|AJ a.1,.string<|AJ a.2]
abbrev AGh(W:AN)(B:Nat)(a:Lz.AT):Prop:=EE W B 42 (.string<|AJ a.1)<|.string<|AJ a.2
def B9(a:Lz.AT):Prop:=a.1.length<=1000000/\a.2.length<=1000000
def B9.l{a}(h:B9 a):(AJ a.1).size<=1000000:=h.1
def B9.r{a}(h:B9 a):(AJ a.2).size<=1000000:=h.2
def AUN(a b)(c:B9 a)(d:B9 b)(w):Calls prog 15 #[pv a,pv b] w λe f=>e=.returned (.bool<|Lz.fl a b)/\Below w.heap.size w f:=by have:=AUM (AJ a.1) (AJ a.2) (AJ b.1) (AJ b.2) c.l c.r d.l d.r w;simp[IW]at this;exact this
def Wv(l):(Lz.DO l).length<=1000000:=Ch (Zj _ 256) dC
def AHN(a b):(Lz.and a b).length<=1000000:=Wv _
def AZQ(a b):(Lz.or a b).length<=1000000:=Wv _
def AZE(a b):B9 (Lz.jn a b):=⟨AHN _ _,AZQ _ _⟩
def AYu(a)(b:B9 a)(w):Calls prog 189 #[pv a] w λe c=>e=.returned (pv<|Lz.A4 a)/\Below w.heap.size w c:=by have:=AKZ (AJ a.1) (AJ a.2) b.l b.r w;simp[IW]at this;exact this
def AWI(a b)(c:B9 a)(d:B9 b)(w):Calls prog 36 #[pv a,pv b] w λe f=>e=.returned (pv<|Lz.jn a b)/\Below w.heap.size w f:=by have:=Afh false (AJ a.1) (AJ a.2) (AJ b.1) (AJ b.2) c.l c.r d.l d.r w;simp[IW]at this;exact this
def AYO(a b)(c:B9 a)(d:B9 b)(w):Calls prog 292 #[pv a,pv b] w λe f=>e=.returned (pv<|Lz.mt a b)/\Below w.heap.size w f:=Afh true (AJ a.1) (AJ a.2) (AJ b.1) (AJ b.2) c.l c.r d.l d.r w
def Aax(a)(r:Bool)(c:B9 a)(h:(Lz.A4 a==a)=r)(w):Calls prog 136 #[pv a] w λe d=>e=.returned (.bool r)/\Below w.heap.size w d:=by
 have b:=AWt (AJ a.1) (AJ a.2) c.l c.r w;rw[IW,IW]at b;have e:(Lz.DO a.1==a.1&&Lz.DO a.2==a.2)=r:=by rw[<-h];let⟨x,y⟩:=a;rfl
 rw[e]at b;exact b
section
open Lz (I8 Fy AAH AAG)
theorem AHO(a b):(Lz.and a b).length<=256:=Zj _ 256
def WB(s i b a:AA AH)(p:AH):Bool:=Lz.JQ (Lz.and b<|Fy p) s&&Lz.JQ (Lz.and i<|Fy p) a
theorem AZ9(s i a j)(D:s.size<=1000000)(B:i.size<=1000000)(r:a.size<=1000000)(o:j.size<=1000000)(x:Int)(p)(E:x=p.toNat)(w):
 Calls prog 359 #[.agg #[.string s,.string i],.agg #[.string a,.string j],.int .u8 x] w λe K=>e=.returned (.bool (WB s.data.toList i.data.toList a.data.toList j.data.toList p))/\Below w.heap.size w K:=by
 subst E;let⟨v,y,z⟩:=AfF w 42 (.string s) (.string i) (.string a) (.string j) rfl;have C:=AAG p;have mixed:=mixedOrders;have g:(AJ (Fy p)).size<=1000000:=by rw[Fz];omega
 have t:(AJ (Lz.and a.data.toList (Fy p))).size<=1000000:=by have:=AHO a.data.toList (Fy p);rw[Fz];omega
 have u:(AJ (Lz.and i.data.toList (Fy p))).size<=1000000:=by have:=AHO i.data.toList (Fy p);rw[Fz];omega
 rw[WB]
 go_enter func359,ntmps359
 go_wp2_with fail
 refine(AEw _ p rfl _).mono ?_;rintro e k ⟨rfl,b⟩;have c:=v.below b v.lt;have d:=y.below b y.lt;have F:=cell_regrown c.cell0;have G:=cell_regrown c.cell1;have I:=cell_regrown d.cell0;have J:=cell_regrown d.cell1;have c1:=Sc (w:=k) (λW _=>TV a (AJ (Fy p)) r g W);have c2:=Sc (w:=k) (λW _=>T7 (AJ (Lz.and a.data.toList (Fy p))) s t D W);have l:=Sc (w:=k) (λW _=>TV i (AJ (Fy p)) B g W);have m:=Sc (w:=k) (λW _=>T7 (AJ (Lz.and i.data.toList (Fy p))) j u o W);rw[IW]at c1 c2 l m;generalize A:Lz.JQ (Lz.and a.data.toList (Fy p)) s.data.toList=q at c2;have H:=Lib.hid A;cases q
 all_goals
  go_wp2_with fail
  refine wp_region_quiet_below mixed kR ?_
  repeat(go_big_quiet_step (fail))
  go_big_quiet_step (exact c1 _ _)
  repeat(go_big_quiet_step (fail))
  go_big_quiet_step (exact c2 _ _)
  repeat(go_big_quiet_step (fail))
  try
   go_big_quiet_step (exact l _ _)
   repeat(go_big_quiet_step (fail))
   go_big_quiet_step (exact m _ _)
   repeat(go_big_quiet_step (fail))
  refine wpQuiet_nil ?_;intro L h;have n:=YU h
  go_wp2
  go_ret
  have f:=z.trans (b.mono z.size);exact⟨by rw[H.out];rfl,f.trans (n.mono f.size)⟩
end
section
attribute [local go_sem] Oper.semAt_some Fz Jc
theorem Aa4{W c B a n e v xs}(h:W.ownsRow B e a v n xs)(b:Below W.heap.size W c):c.ownsRow B e a v n xs:=
 h.kept (row:=none) ⟨b.os,b.tape,b.output,b.size,λi d _=>b.block i d⟩ (by by_cases h:v.ownBlock=none;exact .inl h;exact .inr h)
theorem AKC{W W'}(a:Below W.heap.size W W'):KeepsOthers W W':=
 ⟨a.size,λk _ b _=>(a.block k (Ls.1 b).1).trans b⟩
theorem JF.lt{B b l w}(h:JF B b l w):b<w.heap.size:=by let⟨_,p,v,_,a,_⟩:=h;exact(Ls.1 a).1
theorem JF.below{B b l w e}(h:JF B b l w)(d:Below w.heap.size w e):JF B b l e:=by let⟨f,p,v,g,a,i⟩:=h;exact⟨f,p,v,g,(d.block b h.lt).trans a,Aa4 i d⟩
def AWF(acc:AA AH)(c:AH):AA AH:=(if acc=[]then[]else acc++[38])++Acy c
def Acw(l:AA AH):AA AH:=l.foldl AWF []
theorem Afu(l c):Acw (l++[c])=AWF (Acw l) c:=by simp[Acw]
theorem Afx(s):(Acy s).length<=12:=by rw[Acy];split;split;simp;have a:=Afi<|JY s 6;have b:=Afq s 6 oG;omega;simp
theorem Agk(s):Acy s≠[]:=by rw[Acy];split;rename_i h;split;simp;rename_i a;exact Afj s (by simpa using h) a;simp
theorem AfM(l):(Acw l).length<=13*l.length:=by
 have h:∀l acc:AA AH,(l.foldl AWF acc).length<=acc.length+13*l.length:=by
  intro l;induction l with
  |nil=>simp
  |cons c l a=>
   intro acc;have b:=a<|AWF acc c;have d:(AWF acc c).length<=acc.length+13:=by have:=Afx c;rw[AWF];split<;>simp<;>omega
   simp[Xq,FM];omega
 have:=h l [];simpa[Acw]using this
theorem Agj{l}(h:l≠[]):Acw l≠[]:=by obtain⟨r,c,rfl⟩:∃r c,l=r++[c]:=⟨_,_,(List.dropLast_concat_getLast h).symm⟩;rw[Afu];rw[AWF];simp[Agk]
def AFf(f:AA AH):AA AH:=if Lz.DO f=[]then[84]else if Lz.DO f=[0]then[70]else Acw<|Lz.DO f
theorem Agi(s)(S:s.size<=1000000)(n)(R:Lz.DO s.data.toList=n)(h1:n.isEmpty=false)(N: ¬n=[])(h2:(n==[0])=false)(w)(X:Kg w):
 CallsIn Fence.wide 6 prog 125 #[.string s] w λe H=>e=.returned (.string (AJ (Acw n)))/\Below w.heap.size w H:=by
 have Z:=Lib.hid R;have HL:=Lib.hid X;have aa:n.length<=256:=by rw[<-R];exact UV _
 refine callsIn_of_wp_marks func125 rfl trivial ?_ rfl;simp[ntmps125,LF]
 gi_wp2_with fail
 refine⟨trivial,(Lq (Nx s S _)).mono ?_⟩;rintro e d ⟨rfl,j⟩;rw[Z.out]
 gi_wp2_with (refine⟨trivial,?_⟩;gi_at_call 129;refine(V4 Fence.wide _ trivial rfl _ _).mono ?_;rintro e H ⟨rfl,rfl⟩)
 have bB:=AQ8 (B:=d.heap.size+2) d oG;have V:=Boxed.new (d.alloc (.cells #[.pointer none,.slice none 0 0] 250)) 40 (.string (AJ n));rw[World.size_alloc]at V;have q:Below d.heap.size d ((d.alloc (.cells #[.pointer none,.slice none 0 0] 250)).alloc (.cells #[.string (AJ n)] 40)):=((Below.refl _ d).alloc (Ag _) _).alloc sP _;have u:=Lib.hid (HL.out.behind j);refine wpIn_rangeFunc_ownG rfl oG (gf:=181) (lb:=#[.pointer (aP (d.heap.size+1))]) rfl trivial (enters_of func181 kR rfl)
  (V5 Fence.wide (6-1) trivial rfl oG (d.heap.size+1) (AJ n) (by rw[Fz];omega) _ sP V.cell) (λh k=>k.trans h) (SG sP) (Below.refl _ _) (λ_=>rfl)
  (λ(pre:AA AH) W=>JF (d.heap.size+2) d.heap.size (Acw pre) W/\E5 (d.heap.size+2) d.heap.size ((d.alloc (.cells #[.pointer none,.slice none 0 0] 250)).alloc (.cells #[.string (AJ n)] 40)) W)
  (λ_ _ _=>False)
  (OwnFrom.and (Own.from (AHr (d.heap.size+2) d.heap.size Acw) _) (AIE sP))
  (λ_ _ _ _ _ S _ _=>S)
  ⟨bB.kept _,E5.refl _ _ _⟩
  ?_ ?assign ?body ?done ?stop
 case assign=>
  intro l x W K I
  gi_wp2
  exact I
 case body=>
  rintro l pre x W ⟨b,p⟩ Q;rw[Fz]at Q;have hlen:=AfM pre;have ab:=Afx x;have t:=p.size;rw[World.size_alloc,World.size_alloc]at t;have M:=Lib.hid (u.out.behind (q.trans (p.below oG (Ag _))));have E:=Afu pre x;have HS:=Lib.hid E;have F:(AJ (Acy x)).data.toList=Acy x:=IW _;have v:=Lib.hid F;by_cases o:Acw pre=[]
  .have P:((Acw pre).length:Int)=0:=by rw[o];rfl
   have z:AWF (Acw pre) x=Acw pre++Acy x:=by rw[AWF];rw[Ac o,o]
   have J:=Lib.hid z;have Y:=Lib.hid o
   gi_wp2_with fail
   refine⟨trivial,(CallsIn.inRound l (Lq (ARN _ _ _ _ b))).mono ?_⟩;rintro e H ⟨rfl,rfl⟩
   gi_wp2_with fail
   refine⟨trivial,(CallsIn.inRound l (Lq (AfN _ x rfl _ M.out))).mono ?_⟩;rintro e w2 ⟨rfl,a⟩;have U:=a.size
   gi_wp2_with fail
   refine⟨trivial,(CallsIn.inRound l (Lq (AOu _ _ _ _ _ (b.below a) (by rw[Fz];omega) oG))).mono ?_⟩;rintro e w3 ⟨rfl,m,g,r⟩;rw[v.out]at m;have f:=E5.of_below (b:=d.heap.size) (a.mono t)
   gi_wp2
   exact⟨((AKC a).trans r).from _,(f.trans g).block _ oG oG,by rwa[HS.out,J.out],(p.trans f).trans g⟩
  .have P:(0:Int)<((Acw pre).length:Int):=by
    have:(Acw pre).length≠0:=by simpa using o
    omega
   have z:AWF (Acw pre) x=Acw pre++[38]++Acy x:=by rw[AWF];rw[AY o]
   have J:=Lib.hid z;have Y:=Lib.hid o
   gi_wp2_with fail
   refine⟨trivial,(CallsIn.inRound l (Lq (ARN _ _ _ _ b))).mono ?_⟩;rintro e H ⟨rfl,rfl⟩
   gi_wp2_with fail
   refine⟨trivial,(CallsIn.inRound l (Lq (AOt _ _ _ _ 38 rfl _ b oG oG))).mono ?_⟩;rintro e wb ⟨rfl,j,i,O⟩;have T:=i.size;have L:=Lib.hid ((u.out.behind (q.trans ((p.trans i).below oG (Ag _)))))
   gi_wp2_with fail
   refine⟨trivial,(CallsIn.inRound l (Lq (AfN _ x rfl _ L.out))).mono ?_⟩;rintro e w2 ⟨rfl,a⟩;have U:=a.size
   gi_wp2_with fail
   refine⟨trivial,(CallsIn.inRound l (Lq (AOu _ _ _ _ _ (j.below a) (by rw[Fz,CK];simp;omega) oG))).mono ?_⟩;rintro e w3 ⟨rfl,m,g,r⟩;rw[v.out]at m;have f:=E5.of_below (b:=d.heap.size) (a.mono (Ch t T))
   gi_wp2
   exact⟨((O.trans (AKC a)).trans r).from _,((i.trans f).trans g).block _ oG oG,by rwa[HS.out,J.out],((p.trans i).trans f).trans g⟩
 case done=>
  rintro D ys W hD G ⟨b,p⟩ I;have C:=Agj N;have B:ys=n:=G.trans (IW n);rw[B]at b
  gi_wp2_with (refine⟨trivial,?_⟩;gi_at_call 132;refine(Lq (AIA _ _ _ C _ b)).mono ?_;rintro e H ⟨rfl,a,A⟩)
  refine⟨sP,.inl ⟨_,_,rfl,run_takeDeferred (A.same _ _ I rfl),?_⟩⟩;refine⟨_,results_tmp rfl _ _ _,rfl,?_⟩;rw[World.size_alloc,World.size_alloc]at hD;have y:Below d.heap.size d _:=(q.trans (p.below oG (Ag _))).trans (a.mono oG);exact(j.trans (y.mono j.size)).trans (belowK_b (w:=w) (Ag _) _ D _ _ (by have:=j.size;omega) (A.same _ _ I rfl) rfl rfl)
 case stop=>
  rintro D c pre W _ _ h _;exact h.elim
theorem AfZ(s)(i:s.size<=1000000)(w)(j:Kg w):
 Calls prog 125 #[.string s] w λe o=>e=.returned (.string (AJ (AFf s.data.toList)))/\Below w.heap.size w o:=by
 have c:=Lib.hid (show AFf s.data.toList=if Lz.DO s.data.toList=[]then[84]else if Lz.DO s.data.toList=[0]then[70]else Acw (Lz.DO s.data.toList)from rfl);have HX:=Lib.hid (Nx s i w);have f:=Lib.hid λn l b g d=>callsIn_wide.1 (Agi s i n l b g d w j);have h:=Lib.hid (show Lz.DO s.data.toList=Lz.DO s.data.toList from rfl);revert c HX f h;generalize AFf s.data.toList=q;generalize k:Lz.DO s.data.toList=m;intro c HX f h;by_cases b:m=[]
 .subst b;rw[c.out,Ac rfl]
  go_enter func125,ntmps125
  go_wp2_with fail
  refine HX.out.mono ?_;rintro e p ⟨rfl,a⟩
  go_wp2
  go_ret
  exact⟨rfl,a⟩
 .by_cases d:m=[0]
  .subst d;rw[c.out,AY sP,Ac rfl]
   go_enter func125,ntmps125
   go_wp2_with fail
   refine HX.out.mono ?_;rintro e p ⟨rfl,a⟩
   go_wp2
   go_ret
   exact⟨rfl,a⟩
  rw[c.out,AY b,AY d];exact f.out m rfl (by simpa using b) b (by simpa using d)
end
section
theorem ANn(x y):AJ x++AJ y=AJ (x++y):=by apply Xn;simp[AJ]
def Acx(a:Lz.AT):AA AH:=AFf a.1++47::AFf a.2
theorem Afv(f):(AFf f).length<=1000:=by rw[AFf];split;simp;split;simp;have a:=AfM<|Lz.DO f;have b:=Lz.Afl f;omega
attribute [local go_sem] Jc Fz ANn
theorem AgP(a)(l:B9 a)(w)(k:Kg w):Calls prog 70 #[pv a] w λe q=>e=.returned (.string (AJ (Acx a)))/\Below w.heap.size w q:=by
 have j:AGh (w.alloc (.cells #[.string (AJ a.1),.string (AJ a.2)] 42)) w.heap.size a:=EE.new w _ _ _;have d:Below w.heap.size w (w.alloc (.cells #[.string (AJ a.1),.string (AJ a.2)] 42)):=(Below.refl _ w).alloc (Ag _) _;have b:=Lib.hid (k.behind d);have o:=cell_regrown j.cell0;have p:=cell_regrown j.cell1;have h:=Sc (w:=w.alloc (.cells #[.string (AJ a.1),.string (AJ a.2)] 42)) (λW f=>AfZ (AJ a.1) l.l W (b.out.behind f));have i:=Sc (w:=w.alloc (.cells #[.string (AJ a.1),.string (AJ a.2)] 42)) (λW f=>AfZ (AJ a.2) l.r W (b.out.behind f));have s:=Afv a.1;have t:=Afv a.2;have m:AJ (AFf a.1)++⟨#[47]⟩=AJ (AFf a.1++[47]):=ANn _ [47];have n:(AFf a.1++[47]).length<=1001:=by rw[CK];simp;omega
 rw[IW]at h i;have mixed:=mixedOrders
 go_enter func70,ntmps70
 go_wp2_with fail
 refine wp_region_quiet_below mixed kR ?_
 repeat(go_big_quiet_step (fail))
 go_big_quiet_step (exact h _ _)
 repeat(go_big_quiet_step (fail))
 go_big_quiet_step (exact i _ _)
 repeat(go_big_quiet_step (fail))
 refine wpQuiet_nil ?_;intro r c;have g:=YU c
 go_wp2
 go_ret
 refine⟨?_,d.trans (g.mono d.size)⟩;rw[Acx];simp
end
end
end Go.Proofs.YtomehhepbeiinaaGreatDoor
namespace Go.Proofs.YtomehhepbeiinaaGreatDoor
open Tryz
section
open Go.RowKit Go.Shelf
section
attribute [local go_sem] Oper.semAt_some Fz Jc
theorem Abc{b:Type}(B m):OwnFrom B (λ(_:b)(W:AN)=>m<=W.heap.size):=λ_ _ _ _ h a _=>Ch h a.size
theorem AR5(w):Calls prog 367 #[.string (AJ [84])] w λe a=>e=.returned (.tuple #[.string (AJ []),.bool true])/\Below w.heap.size w a:=by
 go_enter func367,ntmps367
 go_wp2
 refine bodyPost_ret (v:=.tuple #[.string ⟨#[]⟩,.bool true]) ?_ rfl ⟨rfl,(((Below.refl _ w).alloc (Ag _) _).alloc sP _)⟩;simp[results,f367,go_sem]
theorem AR3(t)(HT:Hid (t=[97]))(h1:(t==[84])=false)(h2:(t==[70])=false)(w)(hL:Kg w):
 CallsIn Fence.wide 6 prog 367 #[.string (AJ t)] w λe w'=>e=.returned (.tuple #[.string (AJ [1]),.bool true])/\Below w.heap.size w w':=by
 let⟨i0,hi,V,X,Y⟩:=info_parts Qn;have HL:=Lib.hid hL;refine callsIn_of_wp_marks func367 rfl trivial ?_ rfl;simp[ntmps367,LF]
 gi_wp2_with (refine⟨trivial,?_⟩;gi_at_call 248;refine(Lq (Ab3 _ _)).mono ?_;rintro e w' ⟨rfl,rfl⟩)
 have r0:=Boxed.new w 40 (.string ⟨#[]⟩);have r1:=Boxed.new (w.alloc (.cells #[.string ⟨#[]⟩] 40)) 4 fV;have I:=Boxed.new ((w.alloc (.cells #[.string ⟨#[]⟩] 40)).alloc (.cells #[.bool false] 4)) 23 zS;have A:=(((Below.refl w.heap.size w).alloc (Ag _) (.cells #[.string ⟨#[]⟩] 40)).alloc sP (.cells #[.bool false] 4)).alloc sO (.cells #[.slice none 0 0] 23);have B:(((w.alloc (.cells #[.string ⟨#[]⟩] 40)).alloc (.cells #[.bool false] 4)).alloc (.cells #[.slice none 0 0] 23)).heap.size=w.heap.size+3:=sP;rw[World.size_alloc]at r1;rw[World.size_alloc,World.size_alloc]at I;replace r0:=(r0.alloc (.cells #[.bool false] 4)).alloc (.cells #[.slice none 0 0] 23);replace r1:=r1.alloc (.cells #[.slice none 0 0] 23);generalize(((w.alloc (.cells #[.string ⟨#[]⟩] 40)).alloc (.cells #[.bool false] 4)).alloc (.cells #[.slice none 0 0] 23))=u at r0 r1 I A B⊢;have F:=((Boxed.new u 9 (.string (AJ t))).alloc (.cells #[.string ⟨#[38]⟩] 9)).alloc (.cells #[.int .i64 0] 3);have G:=(Boxed.new (u.alloc (.cells #[.string (AJ t)] 9)) 9 (.string ⟨#[38]⟩)).alloc (.cells #[.int .i64 0] 3);have a:=(((Below.refl u.heap.size u).alloc (Ag _) (.cells #[.string (AJ t)] 9)).alloc sP (.cells #[.string ⟨#[38]⟩] 9)).alloc sO (.cells #[.int .i64 0] 3);have S:(((u.alloc (.cells #[.string (AJ t)] 9)).alloc (.cells #[.string ⟨#[38]⟩] 9)).alloc (.cells #[.int .i64 0] 3)).heap.size=w.heap.size+6:=sO
 rw[World.size_alloc]at G;generalize(((u.alloc (.cells #[.string (AJ t)] 9)).alloc (.cells #[.string ⟨#[38]⟩] 9)).alloc (.cells #[.int .i64 0] 3))=w1 at F G a S⊢;rw[HT.out]at F;rw[B]at F G;refine wpIn_rangeFunc_ownG rfl oG (gf:=363) (lb:=#[.pointer (aP (w.heap.size+1+1+1+1)),.pointer (aP (w.heap.size+1+1+1)),.pointer (aP (w.heap.size+1+1+1+2))]) rfl trivial (enters_of func363 kR rfl)
  (Ab2 (6-1) oG (w.heap.size+3) w1 oG F G) (λ_ _=>trivial) (λ_ _ _ _ _ _ _ _=>trivial) (Below.refl _ _) (λ_=>rfl)
  (λpre W=>(∃v,Boxed W (w.heap.size+2) 23 v/\W.ownsRow (w.heap.size+6) 5 1 v pre.length ((pre.map λ_=>(1:AH)).map Hf)/\True)/\(Boxed W w.heap.size 40 (.string ⟨#[]⟩)/\Boxed W (w.heap.size+1) 4 fV)/\(Below w.heap.size w W)/\w.heap.size+6<=W.heap.size)
  (λ_ _ _=>False)
  (OwnFrom.and (Own.from (holdsRow_own (w.heap.size+6) (w.heap.size+2) 23 5 1 (λpre:AA Unit=>pre.length) (λpre=>(pre.map λ_=>(1:AH)).map Hf) (λ_ _=>True)) _) (OwnFrom.and (Own.from (Td _ _ _ _ (λ_=>.string ⟨#[]⟩) (λ_=>.bool false)) _) (OwnFrom.and (ownFrom_below (Ag _) oG) (Abc _ _))))
  (λ_ _ _ _ _ hs _ _=>hs)
  ⟨⟨_,LV I a oG,World.ownsRow_nil _ _ _ _,trivial⟩,⟨LV r0 a oG,LV r1 a oG⟩,A.trans (a.mono oG),oG⟩
  ?_ ?assign ?body ?done ?stop
 case assign=>
  intro l x W K L
  gi_wp2
  exact L
 case body=>
  rintro l pre x W ⟨⟨v,q,b,_⟩,⟨d,f⟩,s,C⟩ ad;obtain rfl:pre=[]:=Ib oG;have H:=Lib.hid (AZc W (HL.out.behind s));obtain⟨ao,cap,rfl⟩:∃ao cap,v=.slice ao 0 cap:=by rcases Go.Joins.ownsRow_forms b with⟨h1,h2⟩|⟨g,cap,h⟩;exact⟨none,0,by rw[h1]⟩;exact⟨_,_,h⟩
  gi_wp2_with fail
  refine⟨trivial,(CallsIn.inRound l (Lq H.out)).mono ?_⟩;rintro e y ⟨rfl,a⟩;have q:=LV q a q.lt;have d:=LV d a d.lt;have f:=LV f a f.lt;have b:=Aa4 b a;have p:=s.trans (a.mono s.size);have o:=Ch C a.size;have P:=AKC a;have qv:=q.cell;have R:=Go.Joins.ownsRow_le b (show w.heap.size+2<=w.heap.size+6 by omega)
  gi_wp2_with (gi_at_builtin;refine wpListIn_append_own _ rfl _ _ 23 rfl (w.heap.size+6) 5 i0 (.int .u8 0) 1 1 underlying23 hi V X Y rfl dC _ _ _ rfl (b.alloc _) ⟨y.heap.size,0,none⟩ 1 1 [.int .u8 1] rfl rfl (cell_one_new _ _ _) (EQ.1 rfl) dC oG sO ?_;intro v' w2 i m _;obtain⟨g',z,rfl⟩:=ownsRow_succ i;let⟨E,U,ae,Q,aa⟩:=q.appended dC R oG (Ag _) (Go.Joins.ownsRow_le i (show w.heap.size+2<=w.heap.size+6 by omega)) m;have ab:=E.cell;have ac:=E.frozen)
  have j:E5 (w.heap.size+6) (w.heap.size+2) y (w2.setCell ⟨w.heap.size+2,0,none⟩ (.slice (aP g') (0+1) z)):=(E5.of_below (((Below.refl _ y).alloc o _).grown m sO λk hk=>(b.lt k hk).1)).trans (E5.setCell _ _ _);exact⟨(P.trans Q).from _,trivial,⟨_,U,ownsRow_setCell_below i (a:=⟨w.heap.size+2,0,none⟩) (by show w.heap.size+2<_;omega) _,trivial⟩,⟨(j.block _ oG oG).trans d,(j.block _ oG oG).trans f⟩,p.trans (j.below oG oG),Ch o j.size⟩
 case done=>
  rintro D ys W hD rfl ⟨⟨v,q,b,_⟩,⟨d,f⟩,s,C⟩ L;have qv:=q.cell;have T:=Uh (P:=prog) b underlying23 underlying5 underlying40;have Z:=Lib.hid (AR4 (AJ [1]) (by rw[Fz];decide) W);rw[IW,show(Lz.DO [1]==[1])=true by decide+kernel]at Z
  gi_wp2_with fail
  refine⟨trivial,(Lq Z.out).mono ?_⟩;rintro e y ⟨rfl,a⟩;have d:=LV d a d.lt;have f:=LV f a f.lt;have p:=s.trans (a.mono s.size);have M:=(AKC a).same D _ L rfl;have q0:=d.cell;have q1:=f.cell;have f0:=d.frozen;have f1:=f.frozen
  gi_wp2
  have n:=((KeepsOthers.setCell y ⟨w.heap.size,0,none⟩ (.string (AJ [1]))).trans (KeepsOthers.setCell _ ⟨w.heap.size+1,0,none⟩ tV)).same D _ M rfl;refine⟨sP,.inl ⟨_,_,rfl,run_takeDeferred n,?_⟩⟩;have N:=cell_kept (((d.set (.string (AJ [1]))).other (show w.heap.size≠w.heap.size+1 by omega) tV).cell) (grownBy_putObj' _ D (.deferred none)) (λr e=>by cases e;exact⟨_,n,rfl⟩);have O:=cell_kept (((f.other (show w.heap.size+1≠w.heap.size by omega) (.string (AJ [1]))).set tV).cell) (grownBy_putObj' _ D (.deferred none)) (λr e=>by cases e;exact⟨_,n,rfl⟩);have J:=(p.setCell (p:=⟨w.heap.size,0,none⟩) (Ag _) (.string (AJ [1]))).setCell (p:=⟨w.heap.size+1,0,none⟩) (Cv _) tV;refine⟨.tuple #[.string (AJ [1]),.bool true],?_,rfl,J.trans (belowK_b (w:=w) (Ag _) _ D _ _ oG n rfl rfl)⟩;simp[results,f367,go_sem,N,O]
 case stop=>
  rintro D c pre W _ _ h _;exact h.elim
theorem AR2(w)(a:Kg w):Calls prog 367 #[.string<|AJ [97]] w λe b=>e=.returned (.tuple #[.string<|AJ [1],.bool true])/\Below w.heap.size w b:=
 callsIn_wide.1<|AR3 [97] (Lib.hid rfl) rfl rfl w a
end
end
end Go.Proofs.YtomehhepbeiinaaGreatDoor
