/- Walks of single functions. No conditions. -/
import Derived.Test.YtomehhepbeiinaaGreatDoorQZ
set_option maxRecDepth 100000
set_option maxHeartbeats 4000000
set_option linter.all false
namespace Lz
def sub(a b:AH):Bool:=a&&&b==a
def meets(a b:AH):Bool:=a&&&b !=0
def bit(a:AH)(i:Nat):Bool:=a.toNat.testBit i
theorem P5(a b i):bit (a&&&b) i=(bit a i&&bit b i):=by simp[bit]
theorem AFD(a b i):bit (a|||b) i=(bit a i||bit b i):=by simp[bit]
def Tj(i):bit 0 i=false:=by simp[bit]
theorem Z3(a i)(h:8<=i):bit a i=false:=by unfold bit;refine Nat.testBit_lt_two_pow ?_;have b:a.toNat<2^8:=a.toNat_lt;exact OP b (Nat.pow_le_pow_right dC h)
def RY{a b}(h:∀i,i<8->bit a i=bit b i):a=b:=by
 apply Pr.1;apply Nat.eq_of_testBit_eq;intro i;by_cases c:i<8;exact h i c;have d:=Z3 a i oG;have e:=Z3 b i oG
 grind[bit]
theorem AN2(i):bit 63 i=decide (i<6):=by
 by_cases h:i<8
 match i,h with
 |0,_=>decide
 |1,_=>decide
 |2,_=>decide
 |3,_=>decide
 |4,_=>decide
 |5,_=>decide
 |6,_=>decide
 |7,_=>decide
 grind[Z3]
theorem Z4(a i)(h:i<8):bit (~~~a) i= !bit a i:=by have e:bit (~~~a) i=(~~~a).toBitVec.getLsbD i:=rfl;have b:bit a i=a.toBitVec.getLsbD i:=rfl;simp_all
theorem Sj{a b}:sub a b↔∀i,i<8->bit a i->bit b i:=by
 unfold sub;rw[Gm];constructor
 grind[P5]
 intro h;apply RY
 grind[P5]
theorem PC{a b}:meets a b↔∃i,i<8/\bit a i/\bit b i:=by
 unfold meets;rw[ZA];constructor;intro h;apply Ym;intro f;apply h;apply RY;intro i e;rw[P5,Tj];cases c:bit a i<;>cases d:bit b i<;>simp;exact f ⟨i,e,c,d⟩;rintro⟨i,_,c,d⟩ h;have:bit (a&&&b) i:=by rw[P5,c,d];rfl
 rw[h,Tj]at this;cases this
def U3(a):sub a a:=Sj.2 λ_ _ h=>h
theorem YD{a b c}(h:sub a b)(k:sub b c):sub a c:=
 (by grind[Sj])
def AXx{a b}(h:sub a b)(k:sub b a):a=b:=by
 apply RY
 grind[bit,Sj]
def sub_le{a b:UInt8}(h:sub a b):a.toNat<=b.toNat:=by
 unfold sub at h;rw[beq_iff_eq]at h
 grind[UInt8.toNat_and,Nat.and_le_right]
def covers(l:AA AH)(b:AH):Bool:=l.any (sub · b)
theorem LH{l b}:covers l b↔∃c,c∈l/\sub c b:=by simp[covers,List.any_eq_true]
def Fb(l:AA AH):Nat->AA AH
 |0=>[]
 |k+1=>if l.contains (UInt8.ofNat k)&& !covers (Fb l k) (UInt8.ofNat k)then Fb l k++[UInt8.ofNat k]else Fb l k
def least(l:AA AH):AA AH:=Fb l 256
def Min(l:AA AH)(c:AH):Prop:=c∈l/\∀d,d∈l->sub d c->d=c
def Ng(l:AA AH):Prop:=l.Pairwise λa b=>a.toNat<b.toNat
def Qx{k}(h:k<256):(UInt8.ofNat k).toNat=k:=by simp_all
def AIx{l}:∀(n:Nat)(c:AH),c.toNat<=n->c∈l->∃d,Min l d/\sub d c:=by
 intro n;induction n with
 |zero=>
  intro c f b;refine⟨c,⟨b,λd _ a=> ?_⟩,U3 c⟩;have:=sub_le a;exact Pr.1 oG
 |succ n m=>
  intro c f b;by_cases h:∃d,d∈l/\sub d c/\d≠c;let⟨d,g,a,i⟩:=h;have j:=sub_le a;have k:d.toNat≠c.toNat:=λe=>i (Pr.1 e)
  grind[YD]
  refine⟨c,⟨b,λd g a=> ?_⟩,U3 c⟩
  grind
def AIH(l):∀k,k<=256->(∀c,c∈Fb l k↔Min l c/\c.toNat<k)/\Ng (Fb l k):=by
 intro k;induction k with
 |zero=>intro _;exact⟨λc=>by simp[Fb],List.Pairwise.nil⟩
 |succ k u=>
  intro v;let⟨r,x⟩:=u oG;have w:(UInt8.ofNat k).toNat=k:=Qx oG;have h:(l.contains (UInt8.ofNat k)&& !covers (Fb l k) (UInt8.ofNat k))↔Min l (UInt8.ofNat k):=by
   rw[Bool.and_eq_true,List.contains_iff_mem,Bool.not_eq_true'];constructor;rintro⟨b,i⟩;refine⟨b,λd p t=> ?_⟩;apply Classical.byContradiction;intro s;let⟨e,j,a⟩:=AIx d.toNat d (Nat.le_refl _) p;have hle:=sub_le t;have m:=sub_le a
   grind[UInt8.toNat_inj,LH,YD]
   rintro⟨b,i⟩;refine⟨b,?_⟩;cases o:covers (Fb l k) (UInt8.ofNat k)with
   |false=>rfl
   |true=>
    let⟨e,j,a⟩:=LH.1 o;let⟨g,q⟩:=(r e).1 j;have:=i e g.1 a
    grind
  unfold Fb;split;rename_i f;have n:=h.1 f;refine⟨λc=> ?_,?_⟩
  grind[UInt8.toNat_inj]
  grind[Ng]
  grind[UInt8.toNat_inj]
theorem AB0{l c}:c∈least l↔Min l c:=by have h:=(AIH l 256 (AZ _)).1 c;unfold least;rw[h];exact⟨λx=>x.1,λx=>⟨x,c.toNat_lt⟩⟩
theorem AS7(l):Ng (least l):=(AIH l 256 (AZ _)).2
theorem Ng.ext:∀ {l m:AA AH},Ng l->Ng m->(∀c,c∈l↔c∈m)->l=m
 |[],[],_,_,_=>rfl
 |[],b::m,_,_,h=>by have:=(h b).2 sP;simp at this
 |a::l,[],_,_,h=>by have:=(h a).1 sP;simp at this
 |a::l,b::m,i,hm,h=>by
  unfold Ng at i hm;rw[JV]at i hm;have e:a=b:=by
   have d:a=b\/a∈m:=by simpa using(h a).1 sP
   have f:b=a\/b∈l:=by simpa using(h b).2 sP
   rcases d with d|d;exact d;rcases f with f|f;exact f.symm;have x:=hm.1 a d;have y:=i.1 b f;omega
  subst e;have k:l=m:=by refine Ng.ext i.2 hm.2 λc=> ?_;constructor;intro g;have:=(h c).1 (by simp[g]);rcases BD.1 this with rfl|j;have:=i.1 _ g;omega;exact j;intro g;have:=(h c).2 (by simp[g]);rcases BD.1 this with rfl|j;have:=hm.1 _ g;omega;exact j
  rw[k]
def AS5{l m}(h:∀c,Min l c↔Min m c):least l=least m:=
 (by grind[Ng.ext,AS7,AB0])
theorem ABl{l c}(h:c∈least l):c∈l:=(AB0.1 h).1
theorem AII{l c}(h:c∈l):∃d,d∈least l/\sub d c:=by
 let⟨d,a,b⟩:=AIx c.toNat c (AZ _) h
 grind[AB0]
def APP(l b):covers (least l) b=covers l b:=by
 rw[If,LH,LH]
 grind[ABl,AII,YD]
theorem AUH{l c}:Min l c↔covers l c/\∀d,sub d c->covers l d->d=c:=by constructor;rintro⟨h,b⟩;refine⟨LH.2 ⟨c,h,U3 c⟩,λd g i=> ?_⟩;let⟨e,f,a⟩:=LH.1 i;have:=b e f (YD a g);subst this;exact AXx g a;rintro⟨h,b⟩;let⟨e,f,a⟩:=LH.1 h;have:=b e a (LH.2 ⟨e,f,U3 e⟩);subst this;exact⟨f,λd j g=>b d g (LH.2 ⟨d,j,U3 d⟩)⟩
def AIJ{l m}(h:∀b,covers l b=covers m b):least l=least m:=
 AS5 λc=>by grind[AUH]
def AS6(l):least (least l)=least l:=AIJ (APP l)
def clip(c:AH):AH:=c&&&63
def norm(f:AA AH):AA AH:=least (f.map clip)
def right(f:AA AH):Prop:=norm f=f
def holds(f:AA AH)(x:AH):Bool:=f.all (meets · x)
theorem Ti(c i):bit (clip c) i=(bit c i&&decide (i<6)):=by grind[clip,P5,AN2]
theorem AAP(c):clip (clip c)=clip c:=by apply RY;grind[Ti]
theorem AOj(a b):clip (a|||b)=clip a|||clip b:=by apply RY;grind[Ti,AFD]
def rest(c:AH):AH:=clip (~~~c)
theorem AN3(c i)(h:i<8):bit (rest c) i=(!bit c i&&decide (i<6)):=by grind[rest,Ti,Z4]
def ALB{c b}(a:clip c=c):sub c b= !meets c (rest b):=by
 rw[If,KD]
 grind[PC,AN3,Sj,Ti]
def AUD(c x):meets (clip c) x=meets c (clip x):=by
 rw[If,PC,PC]
 grind[Ti]
theorem AUC{c}(a:clip c=c)(x):meets c (clip x)=meets c x:=by rw[<-AUD,a]
theorem AUE{c d x}(h:sub d c)(a:meets d x):meets c x:=by grind[PC,Sj]
def Ps(f:AA AH):Prop:=∀c,c∈f->clip c=c
def AFv(f:AA AH):Ps (f.map clip):=by
 intro c a
 grind[AAP]
def AAQ(f):Ps (norm f):=λc a=>AFv f c (ABl a)
def AIn{f}(h:Ps f):f.map clip=f:=by have:f.map clip=f.map id:=Ih h;simpa using this
def AJF(f):norm (norm f)=norm f:=by show least ((norm f).map clip)=norm f;rw[AIn (AAQ f)];exact AS6 _
def Us(f):right (norm f):=AJF f
def sat(f:AA AH)(x:AH):Bool:=holds (norm f) x
def O0{f x}:holds f x↔∀c,c∈f->meets c x:=by simp[holds,Df]
def ARS(l x):holds (least l) x=holds l x:=by
 rw[If,O0,O0]
 grind[AII,AUE,ABl]
theorem X6(f x):sat f x=holds (f.map clip) x:=ARS _ _
def sat_iff{f x}:sat f x↔∀c,c∈f->meets (clip c) x:=by rw[X6,O0];simp
theorem AWs(f x):sat f (clip x)=sat f x:=by
 rw[If,sat_iff,sat_iff]
 grind[AUC,AAP]
def APO{f}(h:Ps f)(b):covers f b= !holds f (rest b):=by
 rw[If,KD,LH];constructor;rintro⟨c,a,e⟩;cases d:holds f (rest b)with
 |false=>rfl
 |true=>
  have:=O0.1 d c a;rw[ALB (h c a),this]at e;cases e
 intro d;apply Ym;intro i;have:holds f (rest b):=O0.2 λc a=>by
  cases g:meets c (rest b)with
  |true=>rfl
  |false=>exact absurd ⟨c,a,by rw[ALB (h c a),g];rfl⟩ i
 grind
def AUf{f g}:norm f=norm g↔∀x,sat f x=sat g x:=by
 constructor
 .grind[sat]
 .intro h
  refine AIJ λb=> ?_
  simp_all[APO,AFv,X6]
def AWV{f g}(a:right f)(b:right g)(h:∀x,sat f x=sat g x):f=g:=by rw[<-a,<-b];exact AUf.2 h
theorem Uv(f x):sat (norm f) x=sat f x:=by unfold sat;rw[AJF]
theorem AWr(f g)(x:UInt8):sat (f++g) x=(sat f x&&sat g x):=by grind[holds,X6]
def and(f g:AA AH):AA AH:=norm (norm f++norm g)
def ACd(f g):right (and f g):=Us _
theorem sat_and(f g x):sat (and f g) x=(sat f x&&sat g x):=by grind[and,Uv,AWr]
def Ee(f g:AA AH):AA AH:=f.flatMap λc=>g.map λd=>c|||d
def or(f g:AA AH):AA AH:=norm (Ee (norm f) (norm g))
def AKJ(f g):right (or f g):=Us _
theorem AIr(a b x):meets (a|||b) x=(meets a x||meets b x):=by
 rw[If,Ig,PC,PC,PC]
 grind[AFD]
def ARU(f g x):holds (Ee f g) x=(holds f x||holds g x):=by
 rw[If,Ig,O0,O0,O0];constructor;intro h;apply Ym;intro j;rw[OS]at j;let⟨e,i⟩:=j;simp[Classical.not_forall]at e i;let⟨c,b,k⟩:=e;let⟨d,l,m⟩:=i;have:=h (c|||d) (KG.2 ⟨c,b,BG.2 ⟨d,l,rfl⟩⟩)
 grind[AIr]
 rintro h c b;let⟨a,n,b⟩:=KG.1 b
 grind[AIr]
def AOk{f g}(i:Ps f)(j:Ps g):Ps (Ee f g):=by intro c d;let⟨a,e,d⟩:=KG.1 d;obtain⟨b,h,rfl⟩:=BG.1 d;rw[AOj,i a e,j b h]
def AWu(f g x):sat (or f g) x=(sat f x||sat g x):=by unfold or;rw[Uv,X6,AIn (AOk (AAQ f) (AAQ g)),ARU];rfl
def H5(f g:AA AH):Bool:=(List.range 64).all λx=> !sat f (UInt8.ofNat x)||sat g (UInt8.ofNat x)
def AFu{x:UInt8}:clip x=x↔x.toNat<64:=by
 constructor
 grind[clip,UInt8.toNat_and,Nat.and_le_right]
 intro h;unfold clip;apply UInt8.toNat_inj.1;rw[UInt8.toNat_and];have:(63:UInt8).toNat=2^6-1:=rfl;rw[this,Nat.and_two_pow_sub_one_eq_mod];exact Nat.mod_eq_of_lt h
def AHZ{f g}:H5 f g↔∀x,sat f x->sat g x:=by
 unfold H5;rw[List.all_eq_true];constructor;intro h x b;have a:(clip x).toNat<64:=AFu.1 (AAP x)
 grind[UInt8.ofNat_toNat,AWs]
 grind
def AKh(x):sat [] x:=sat_iff.2 λc a=>by cases a
def AWt(x):sat [0] x=false:=by
 cases h:sat [0] x with
 |false=>rfl
 |true=>
  simp_all[clip,sat_iff,sP,PC,dC,Tj]
def AKI:right []:=by unfold right norm;decide+kernel
end Lz
