/- Part 7 of the proof of TopHidden. No conditions. -/
import Derived.Test.YtomehhepbeiinaaGreatDoorZ06
import Derived.Shelf.SlIterI.Nil
import Derived.Shelf.SortM.Plain
import Derived.Shelf.SortM.SortNone
import Derived.Shelf.SlMaps.Clone
set_option maxRecDepth 100000
set_option maxHeartbeats 4000000
set_option linter.all false
open Go.Result renaming andThen_ok->aK,andThen->aT
open Go.Sem renaming run_bind->rB
open List renaming replicate->lP,range->lR
open List renaming length->lN
open Option renaming some->sM,none->nO
open Bool renaming true->tT,false->fF
open Go.Value renaming string->vS,bool->vB
open Go.IntKind renaming i64->iK
namespace Go.Proofs.YtomehhepbeiinaaGreatDoor
open Tryz
section
open Go.AX Go.RowKit Go.Shelf Lz
section
attribute [local go_sem] Oper.semAt_some Fz Jc
abbrev Rh(w:AN):Prop:=Lib.TabIs prog w "internal/strconv.uint64pow10" .u64 Lib.pow10Tab
theorem Rh.below{w a B}(h:Rh w)(b:Below B w a)(c:5<=B):Rh a:=by unfold Rh Lib.TabIs World.var? at h⊢;rw[ADk]at h⊢;show((sM 4).bind λg=>match a.heap[g]? with|some (Obj.cells cs elem frozen)=>sM cs|_=>nO)=_;simp[Xz]at h⊢;rwa[b.block 4 oG]
theorem ALo(n:Int)(b: -9223372036854775808<=n)(c:n<=9223372036854775807)(w)(hT:Rh w):
 Calls prog 69 #[.int iK n] w λe a=>e=.returned (vS (AJ (Lib.itoa n)))/\Below w.heap.size w a:=by
 go_enter func69,ntmps69
 go_wp2_with (go_at_call 124;refine(Any.strconv_FormatInt_10 AKa n b c _ hT).mono ?_)
 rintro e a ⟨rfl,k,d,rfl⟩
 go_wp2
 go_ret
 exact⟨rfl,AHk w k d⟩
theorem AQ9{B}(w:AN)(h:w.heap.size<B):JF B w.heap.size [] (w.alloc<|.cells #[.pointer nO,.slice nO 0 0] 250):=
 ⟨h,_,_,.inl rfl,World.alloc_heap_new w _,World.ownsRow_nil _ _ _ _⟩
theorem Aa5{W c B a n e v xs}(h:W.ownsRow B e a v n xs)(b:Below W.heap.size W c):c.ownsRow B e a v n xs:=
 h.kept (row:=nO) ⟨b.os,b.tape,b.output,b.size,λi d _=>b.block i d⟩ (by by_cases h:v.ownBlock=nO;exact .inl h;exact .inr h)
theorem JF.up{B b l w e}(h:JF B b l w)(d:Below w.heap.size w e):JF B b l e:=by let⟨f,p,v,g,a,i⟩:=h;exact⟨f,p,v,g,(d.block b<|(Ls.1 a).1).trans a,Aa5 i d⟩
theorem AYX{c:Nm}{k x}(d:c[k]? =sM x):Dm (c.take<|k+1)=if k=0 then dec x else Dm (c.take k)++[46]++dec x:=by
 have f:=(Ci.1 d).1;have e:c.take (k+1)=c.take k++[x]:=by rw[List.take_succ,d];rfl
 rw[e];split;rename_i h;subst h;rfl;rename_i h;have:∀l:Nm,l≠[]->Dm (l++[x])=Dm l++[46]++dec x:=by
  intro l;induction l with
  |nil=>intro h;exact absurd rfl h
  |cons a l g=>
   intro _;cases l with
   |nil=>simp[Dm]
   |cons b l=>
    rw[F1,F1,Me,Me,<-F1,g sP];simp
 exact this _ (by intro e;have:=Dt List.length e;rw[Cu,Gn<|Ly f]at this;exact h this)
theorem AYY{a:Nm}{k}(b:∀x∈a.take k,x<=999):lN (Dm<|a.take k)<=4*k:=by have:=(Z3 (a:=a.take k) b).1;rw[Cu]at this;omega
theorem ALe(b c)(nm:Nm)(arr e fr)(w:AN)(hb:w.heap[b]? =sM (.cells arr e fr))(hv:∀k x:Nat,nm[k]? =sM x->arr[k]? =sM (iV x))(hT:Rh w)(F:5<=w.heap.size)
 (r) (q:Bool) (A:Hid ((CB nm->r=Dm nm/\q)/\(CB nm=fF->r=[]/\q=fF))):
 Calls prog 138 #[.slice (aP b) (lN nm) c] w λe V=>e=.returned (.tuple #[vS (AJ r),vB q])/\Below w.heap.size w V:=by
 have T:=Lib.hid hT;clear hT;have D:=(Ls.1 hb).1;by_cases E:lN nm<1
 .have o:CB nm=fF:=by simp[CB];omega
  have hd:decide ((lN nm:Int)<1):=sO
  obtain⟨rfl,rfl⟩:=A.out.2 o
  go_enter func138,ntmps138
  go_wp2
  go_ret2
  exact⟨rfl,Below.refl _ _⟩
 by_cases U:24<lN nm
 .have o:CB nm=fF:=by simp[CB];omega
  obtain⟨rfl,rfl⟩:=A.out.2 o
  go_enter func138,ntmps138
  go_wp2
  go_ret2
  exact⟨rfl,Below.refl _ _⟩
 have S:=Lib.hid (show CB nm=nm.all (λx=>decide (x<=999)) by simp[CB];omega);have m:∀W:AN,E5 (w.heap.size+1) w.heap.size (w.alloc (.cells #[.pointer nO,.slice nO 0 0] 250)) W->∀k x:Nat,nm[k]? =sM x->W.cell? ⟨b,k,nO⟩=sM (iV x):=by
  intro W n k x p;have h1:W.heap[b]? =sM (.cells arr e fr):=by rw[n.block b oG oG];exact(Lib.alloc_old w _ b D).trans hb
  rw[Lib.cell_of_heap h1];exact hv k x p
 have X:=Lib.hid m;clear m
 go_enter func138,ntmps138
 go_wp2_with fail
 go_loopw [5,6,17] (λ_ _ i wr=>∃k:Nat,k<=lN nm/\i=.int iK k/\(∀x∈nm.take k,x<=999)/\JF (w.heap.size+1) w.heap.size (Dm (nm.take k)) wr/\E5 (w.heap.size+1) w.heap.size (w.alloc (.cells #[.pointer nO,.slice nO 0 0] 250)) wr) (λ_ _ i _=>lN nm-(intOf i).toNat)
 case atStart=>exact⟨0,Bm _,rfl,sP,AQ9 w oG,E5.refl _ _ _⟩
 case round=>
  obtain⟨k,hk,rfl,d,f,n⟩:=hrel;have u:=n.size;rw[World.size_alloc]at u;by_cases N:k<lN nm
  .have p:nm[k]? =sM nm[k]:=BS N;have L:=X.out wr n k _ p;have t:=AYX p;have ac:=AYY d;have HS:=Lib.hid t;have v:nm.take (k+1)=nm.take k++[nm[k]]:=by rw[List.take_succ,p];rfl
   have H:=Lib.hid v;generalize nm[k]=x at p L t HS v H;clear t v;by_cases s:x<=999
   .have R:=Lib.hid (AC1 s);have Y:=(KS s).2.2.2;have G:(AJ (dec x)).data.toList=dec x:=by simp[AJ]
    have C:=Lib.hid G;clear G;have J:=Lib.hid (T.out.below (((Below.refl _ w).alloc (Ag _) _).trans (n.below (B':=w.heap.size) oG (Ag _))) F);by_cases h0:k=0
    .subst h0;rw[Ac rfl]at HS
     go_wp2_with fail
     refine(ALo _ oG oG _ J.out).mono ?_;rintro e w2 ⟨rfl,a⟩;rw[R.out];have Q:=a.size
     go_wp2_with fail
     refine(AOu _ _ _ _ _ (f.up a) (by rw[Fz];simp[Dm];omega) oG).mono ?_;rintro e w3 ⟨rfl,g,l,M⟩;rw[C.out]at g
     go_wp2
     go_roundw
     case rel=>exact⟨1,oG,by go_num,by rw[H.out];intro y z;simp at z;omega,by rw[HS.out];simpa[Dm]using g,(n.trans (E5.of_below (a.mono u))).trans l⟩
     case measure=>simp[intOf];omega
    .rw[AY h0]at HS;have Z:0<k:=oG
     go_wp2_with fail
     refine(AOt _ _ _ _ 46 rfl _ f oG oG).mono ?_;rintro e w1 ⟨rfl,K,j,aa⟩;have P:=j.size;have I:=Lib.hid (T.out.below (((Below.refl _ w).alloc (Ag _) _).trans ((n.trans j).below (B':=w.heap.size) oG (Ag _))) F)
     go_wp2_with fail
     refine(ALo _ oG oG _ I.out).mono ?_;rintro e w2 ⟨rfl,a⟩;rw[R.out];have Q:=a.size
     go_wp2_with fail
     refine(AOu _ _ _ _ _ (K.up a) (by rw[Fz,CK];simp;omega) oG).mono ?_;rintro e w3 ⟨rfl,g,l,M⟩;rw[C.out]at g
     go_wp2
     go_roundw
     case rel=>exact⟨k+1,oG,by go_num,by rw[H.out];intro y z;rcases Bc.1 z with z|z;exact d y z;rwa[A9.1 z],by rwa[HS.out],((n.trans j).trans (E5.of_below (a.mono (Ch u P)))).trans l⟩
     case measure=>simp[intOf];omega
   .have o:CB nm=fF:=by rw[S.out];refine Bool.eq_false_iff.2 λh=>s ?_;have:=EQ.1 h x (De p);simpa using this
    have B:=Lib.hid o;clear o;have ad: ¬((x:Int)<0):=oG;have ae:(999:Int)<(x:Int):=oG
    go_wp2
    all_goals go_ret2
    all_goals exact⟨(by rw[(A.out.2 B.out).1,(A.out.2 B.out).2];rfl),((Below.refl _ w).alloc (Ag _) _).trans (n.below (B':=w.heap.size) oG (Ag _))⟩
  .obtain rfl:k=lN nm:=oG;rw[FN]at d f;have o:CB nm:=by rw[S.out];exact EQ.2 λx p=>by simpa using d x p
   have O:Dm nm≠[]:=by have:=(Z3 (a:=nm) d).2 (by intro e;rw[e]at E;simp at E);intro e;rw[e]at this;simp at this
   have B:=Lib.hid o;clear o
   go_wp2_with (go_at_call 132;refine(AIA _ _ _ O _ f).mono ?_;rintro e V ⟨rfl,a,ab⟩)
   go_ret2
   exact⟨(by rw[(A.out.1 B.out).1,(A.out.1 B.out).2];rfl),(((Below.refl _ w).alloc (Ag _) _).trans (n.below (B':=w.heap.size) oG (Ag _))).trans (a.mono oG)⟩
end
end
section
open Go.AX Lz
def YT{I}(a:Pow I){w}(b:EJ w I):Rh w/\5<=w.heap.size:=by refine⟨a.is b,?_⟩;let⟨e,c,h⟩:=a.tab;have:=(Ls.1<|b 4 _ h).1;omega
open Go.RowKit in
theorem AJR{F:FuncId}{fn:Func}{args:List SV}{k:Nat}{b:AK}{o:Obj}{av:Nat->Array Value}{r:SV}{v:Value}{I:AB}(hf:Tryz.prog.funcs[F]? =some fn)(hb:fn.body.isSome=true)(hnm:(fn.name== "runtime.NumGoroutine")=false)
 (hbo: ∀ρ,b.AO ρ=some o) (ha: ∀ρ,(BB ρ args).toArray=av (ρ k)) (hr: ∀ρ,AO ρ r=v) (hk:r.A3=[]) (h: ∀w q,EJ w I->w.heap[q]? =some o->Calls Tryz.prog F (av q) w λe w'=>e=.returned v/\Below w.heap.size w w'):Fn F args [(k,b)] I (BW r I) none:=by
 refine⟨FC.of (AOj hk).EA.out λρ key w hkey hN hI _ _=> ?_,AX.JL hf hb hnm⟩
 rw[ha ρ]
 refine(h w (ρ k) hI.1 (hN (k,b) List.mem_cons_self o (hbo ρ))).mono ?_
 rintro e w' ⟨rfl,hB⟩
 have hg:=AJe hB
 refine⟨{r:=r,J:=I},λ_=>0,rfl,⟨hg.os,hg.tape,hg.output,hg.size,λb hb _ _=>hg.block b hb,(λkb hkb=>by cases hkb),(λj b hj=>by simp at hj),(λi j hi=>by simp at hi),hg.Eo hI,λb o hb=>.inl hb,λb o hb=>IM hb⟩,?_⟩
 simp only[hr]
def ZV{nm AE}{k x:Nat}(h:nm[k]? =some x):(Ef nm++AE).toArray[k]? =some (.int .i64 (x:Int)):=by have hk:=(List.getElem?_eq_some_iff.1 h).1;rw[List.getElem?_toArray,List.getElem?_append_left (by rwa[WX]),Ef,List.getElem?_map,h];rfl
def Kx(a:Nm):AA AH:=if CB a then Dm a else[]
def AYD(I)(d:Pow I)(b c a):Fn 138 [.s 1 0 (lN b) c] [(1,.As (Ef b++a) 3)] I (BW (.t [.v<|vS<|AJ<|Kx b,.v<|vB<|CB b]) I) nO:=
 AJR func138 kR kR (λ_=>rfl) (λρ=>rfl) (λ_=>rfl) rfl λw q e g=>
  ALe q c b _ _ _ w g (λk x h=>ZV h) (YT d e).1 (YT d e).2 _ _ (by refine⟨λh=>⟨by rw[Kx];rw[Ac h],h⟩,λh=>⟨by rw[Kx];rw[h];rfl,h⟩⟩)
def AYC(I)(a:Pow I)(x c):Fn 138 [.s 1 0 1 c] [(1,.cells [.v<|iV x] 3)] I (BW (.t [.v<|vS<|AJ<|Kx [x],.v<|vB<|CB [x]]) I) nO:=
 AJR (o:=.cells (Ef [x]++[]).toArray 3 (0,0)) func138 kR kR (λ_=>rfl) (λρ=>rfl) (λ_=>rfl) rfl λw q b d=>
  ALe q c [x] _ _ _ w d (λk x h=>ZV h) (YT a b).1 (YT a b).2 _ _ (by refine⟨λh=>⟨by rw[Kx];rw[Ac h],h⟩,λh=>⟨by rw[Kx];rw[h];rfl,h⟩⟩)
variable{F:FuncId}{fn:Func}{n:Nat}{I:AB}{w:World}{ρ:Nat->Nat}{A:List Nat}{R:Ec}{f:Bv}
def AEx(I)(b:Pow I)(x c):Fn 88 [.s 1 0 1 c] [(1,.cells [.v<|iV x] 3)] I (BW (.t [.v<|vS<|AJ<|Kx [x],.v<|vB<|CB [x]]) I) nO:=by refine Fn.same (need:=[(1,.cells [.v<|iV x] 3)]) ?_ rfl;exact fo func88 λρ d w a=>gG<|IG (AYC I b x c) [(1,1)]<|gG<|dn [] rfl
def AG9(I:AB)(l:AA AH):zP:=λa h=>h= {r:=.fn (.func 363) [] [.p (a+1) 0,.p a 0,.p (a+2) 0],nb:=[Sn l,Sk,zeroCell],J:=I}
def Ab1(I l):Fn 323 [.v<|vS<|AJ l,.v<|vS ⟨#[46]⟩,.v<|.int iK 0] [] I (AG9 I l) nO:=fo func323 λρ b w a=>gG<|dn [100,108,116] rfl
def Ab0(I l):Fn 248 [.v<|vS<|AJ l,.v<|vS ⟨#[46]⟩] [] I (AG9 I l) nO:=by refine fo func248 λρ b w a=>gG<|A0 (Ab1 I l) [] ?_;rintro _ rfl;exact gG<|dn [124,125,126] rfl
def AG8(I:AB)(c:Nm):zP:=λd h=>∃a b,lN c<=a/\a<=maxLen/\lN b=a-lN c/\h= {r:=.t [.s d 0 (lN c) a,.v tV],nb:=[.As (Ef c++b) 3],J:=I}
def Yf{c e g G}(h:Fn G c [] g (AG8 g e) nO)(d:FH f n G [] [] c g)(hnext:∀b a,lN e<=b->b<=maxLen->lN a=b-lN e->At F fn n I w ρ A R (f.out (BA []) {r:=.t [.s (EL f) 0 (lN e) b,.v tV],nb:=[.As (Ef e++a) 3],J:=g})):At F fn n I w ρ A R f:=
 A0 h [] (hobs:=d) λh l=>by obtain⟨b,a,i,j,k,rfl⟩:=l;exact hnext b a i j k
def AAY(I)(j:Pow I)(a)(d:CB a):Fn 160 [.v<|vS<|AJ<|Dm a] [] I (AG8 I a) nO:=by let⟨e,g,i⟩:=Z4 d;have m:=(Z3 e).2 g;refine fo func160 λρ l w h=> ?_;have k:=Fz<|Dm a;refine gg [(9,hF<|((AJ<|Dm a).size:Int)>95)]<|A0 (Ab0 I<|Dm a) [] ?_;rintro _ rfl;refine gG<|A0 (AbW I j a e g i) [(1,140),(2,148),(3,189),(4,188),(5,190)] ?_;rintro _ ⟨c,b,o,q1,q2,q3,rfl⟩;exact gG<|dn [204] ⟨c,b,q1,q2,q3,rfl⟩
def ALm(I)(g:Pow I)(b)(a:CB b):Fn 139 [.v<|vS<|AJ<|Dm b] [] I (BW (.v tV) I) nO:=fo func139 λρ h w c=>gG<|Yf (AAY I g b a) kR λe d i j k=>gG<|fi
def ARb(I)(h:Pow I)(a x)(e:CB a):Fn 388 [.v<|vS<|AJ<|Dm a,.v<|iV x] [] I (BW (.t [.v<|vS<|AJ<|Kx<|a++[x],.v<|vB<|CB<|a++[x]]) I) nO:=by let⟨p,q,r⟩:=Z4 e;refine fo func388 λρ o w i=>gG<|Yf (AAY I h a e) kR λg b k l m=>gG<|act (need:=[(124,.As (Ef a++b) 3),(204,.cells [.v<|iV x] 3)]) (Kk (I:=I) Be (n:=lN a) (m:=1) (cap:=g) (k:=124) (vs:=Ef a++b) (CQ:=Ef a) (news:=Ef [x]) (x:=.s 204 0 1 1) ACG kR DT (by rw[CK,WX,m];omega) (by rw[O5];rw[WX];omega) (WY _) (Ez (e:=3) (by simp[Ef]) rfl<|WY [x]) k l oG) (QP rfl) ?_;rintro s ⟨d,c,q1,q2,q3,rfl⟩;have j:=AYD I h (a++[x]) d c;rw[CK,show Ef (a++[x])=Ef a++Ef [x] by simp[Ef]]at j;exact gG<|IG j [(1,212)]<|gG<|fi
def Gu:Nm->Nm->Int
 |[],[]=>0
 |[],_::_=> -1
 |_::_,[]=>1
 |x::a,y::b=>if x<y then-1 else if y<x then 1 else Gu a b
def MS(x y:Nat):Int:=if x<y then-1 else if y<x then 1 else 0
def ALR(I)(x:Int):Fn 324 [.v<|nV x] [] I (BW (.v fV) I) nO:=fo func324 λc b w a=>gg [(5,EN x x rfl)]<|fi
def AR1(I)(x y:Nat):Fn 249 [.v<|iV x,.v<|iV y] [] I (BW (.v<|.int iK<|MS x y) I) nO:=by
 refine fo func249 λd c w b=>gG<|call (ALR I x)<|gG<|call (ALR I y) ?_;by_cases h:x<y;have e:MS x y= -1:=by rw[MS];rw[Ac h]
 rw[e];exact gg [(16,hT<|(x:Int)<y)]<|fi;by_cases a:y<x;have e:MS x y=1:=by rw[MS];rw[AY h,Ac a]
 rw[e];exact gg [(16,hF<|(x:Int)<y),(19,hT<|(x:Int)>y)]<|fi;have e:MS x y=0:=by rw[MS];rw[AY h,AY a]
 rw[e];exact gg [(16,hF<|(x:Int)<y),(19,hF<|(x:Int)>y)]<|fi
def Yx:IE 100 3 1:=⟨kR,T9 kR⟩
def AR0{a b:Nm}{i x y}(e:a[i]? =sM x)(f:b[i]? =sM y):Gu (a.drop i) (b.drop i)=if x<y then-1 else if y<x then 1 else Gu (a.drop<|i+1) (b.drop<|i+1):=by obtain⟨c,rfl⟩:=Ci.1 e;obtain⟨d,rfl⟩:=Ci.1 f;rw[Xp c,Xp d];rfl
def ASN(I:AB)(a c1 b2 c2 n m:Nat)(i:Nat):Hd where
 Cd:=[(0,.v<|.slice (aP a) n c1),(1,.v<|.slice (aP b2) m c2),(4,.v<|.int iK 0),(9,.v<|.slice (aP a) n c1),(10,.v<|iV n),(11,.v<|iV i)]
 Cc:=[]
 J:=I
def ASC(I)(a b:Nm)(l c1 n c2:Nat)(s t)(q:I l=sM (.cells (Ef a++s).toArray 3 (0,0)))(u:I n=sM (.cells (Ef b++t).toArray 3 (0,0)))(D:lN a<=1000):
 Fn 161 [.v<|.slice (aP l) (lN a) c1,.v<|.slice (aP n) (lN b) c2] [] I (BW (.v<|.int iK<|Gu a b) I) nO:=by
 refine fo func161 λE C w r=> ?_;refine gG<|loop (ι:=Nat) (λi=>i<=lN a/\i<=lN b/\Gu a b=Gu (a.drop i) (b.drop i)) (λi=>lN a-i) (ASN I l c1 n c2 (lN a)<|lN b) 300 [] 0 ⟨Bm _,Bm _,rfl⟩ ?_;rintro i ⟨v,z,k⟩ again T;by_cases g:i<lN a;have o:a[i]? =sM a[i]:=BS g;have f:((Ef a++s).toArray)[i]? =sM (iV<|a[i]):=ZV o;by_cases d:i<lN b;have p:b[i]? =sM b[i]:=BS d;have m:((Ef b++t).toArray)[i]? =sM (iV<|b[i]):=ZV p;have j:=AR0 o p;generalize a[i]=x at o f j;generalize b[i]=y at p m j;refine gg [(12,tH i<|lN a),(14,Br I Yx l 0 (lN a) c1 i g),(15,ED I Ek rfl (0+i*1) (iV x) q<|by simpa using f),(19,hF<|(i:Int)≥(lN b:Int)),(22,Br I Yx n 0 (lN b) c2 i d),(23,ED I Ek rfl (0+i*1) (iV y) u<|by simpa using m)]<|call (AR1 I x y) ?_;by_cases c:x<y;have e:MS x y= -1:=by rw[MS];rw[Ac c]
 rw[Ac c]at j;rw[k,j,e];exact gg [(28,Fs (-1) 0 dC)]<|fi;by_cases h:y<x;have e:MS x y=1:=by rw[MS];rw[AY c,Ac h]
 rw[AY c,Ac h]at j;rw[k,j,e];exact gg [(28,Fs 1 0 dC)]<|fi;have e:MS x y=0:=by rw[MS];rw[AY c,AY h]
 rw[AY c,AY h]at j;rw[e];exact gg [(28,EN 0 0 rfl),(30,sH i)]<|bk again [] (i+1) ⟨oG,oG,by rw[k,j]⟩;have B:i=lN b:=oG;have e:Gu (a.drop i) (b.drop i)=1:=by rw[Xp g,RN (l:=b) oG];rfl
 generalize a[i]=x at o f;rw[k,e];exact gg [(12,tH i<|lN a),(14,Br I Yx l 0 (lN a) c1 i g),(15,ED I Ek rfl (0+i*1) (iV x) q<|by simpa using f),(19,hT<|(i:Int)≥(lN b:Int))]<|fi;have A:i=lN a:=oG;by_cases d:lN a<lN b;have e:Gu (a.drop i) (b.drop i)= -1:=by rw[RN (l:=a) oG,Xp (l:=b) (i:=i) oG];rfl
 rw[k,e];exact gg [(12,fH i<|lN a),(35,tH (lN a)<|lN b)]<|fi;have e:Gu (a.drop i) (b.drop i)=0:=by rw[RN (l:=a) oG,RN (l:=b) oG];rfl
 rw[k,e];exact gg [(12,fH i<|lN a),(35,fH (lN a)<|lN b)]<|fi
def AL2(I)(l:Pow I)(a b)(m:CB a)(r:CB b):Fn 106 [.v<|vS<|AJ<|Dm a,.v<|vS<|AJ<|Dm b] [] I (He I (λ_:Unit=>.v<|.int iK<|Gu a b) λ_ _=>True) nO:=by refine fo func106 λA s w n=>gG<|Yf (AAY I l a m) kR λh e x y z=>gG<|Yf (AAY I l b r) kR λf c t u v=>go func106 [] 7 kR<|B4 116 I (vs:=Ef a++e) (e:=3) λp o g _ i=>B4 172 o (vs:=Ef b++c) (e:=3) λq k d _ j=>gG<|call (ASC k a b p h q f e c (d _ _ i) j (by have:=(Z4 m).2.2;omega)) ?_;exact gG<|dn [] ⟨(),k,rfl,g.trans d,trivial⟩
end
section
open Go.AX Go.RowKit Go.Shelf Lz
def Uw:∀t∈[42,44,51,63,114,118,154,261],prog.underlying t=sM (.struct<|prog.fieldsOf t)/\prog.stoodInHeld t=fF/\prog.eqGuardType prog.depth t=fF:=by intro t a;simp[mS]at a;rcases a with rfl|rfl|rfl|rfl|rfl|rfl|rfl|rfl<;>refine⟨?_,?_,?_⟩<;>exact kR
def str_inj{a b}:(AJ a).toList=(AJ b).toList↔a=b:=by rw[Jc,Jc]
theorem Pj{a b:Nat}:((a:Int)=(b:Int))↔a=b:=Int.ofNat_inj
variable{w:World}
def PR{p:Prop}[Decidable p]{q:Bool}{X:Result Bool}(h:X=.ok q w):(if p then X else .ok fF w)=.ok (decide p&&q) w:=by by_cases a:p;rw[Ac a,h];congr 1;simp[a];rw[AY a];congr 1;simp[a]
def ATW{p:Prop}[Decidable p]:(if p then Result.ok tT w else .ok fF w)=.ok (decide p) w:=by by_cases a:p;rw[Ac a];congr 1;simp[a];rw[AY a];congr 1;simp[a]
def QX{p:Prop}[Decidable p]{t}(a:t∈[42,44,51,63,114,118,154,261]){x y}{r:Bool}(h:(Op.eqFields (9996+3) x y (Tryz.prog.fieldsOf t).toList).run Tryz.prog w=.ok r w)(b:r↔p):(Op.equalIn 10000 t (.agg x)<|.agg y).run Tryz.prog w=.ok (decide p) w:=by rw[show(10000:Nat)=9996+3+1 from rfl,run_equalIn_agg w (9996+3) t _ _ (Uw t a).1 (Uw t a).2.1,h,show r=decide p by rw[Bool.eq_iff_iff,b,decide_eq_true_eq]]
def AKx{I t k a b f g}{r:Bool}(j:t∈[42,44,51,63,114,118,154,261])(h:∀(c:Nat->Nat) w,(Op.equalIn 10000 t (.agg (BB c f).toArray)<|.agg (BB c g).toArray).run prog w=.ok r w):
 HL prog (.binOp .eql t (.tmp a) (.tmp b) k) [(a,SV.g f),(b,SV.g g)] [] I (.v<|vB r):=by
 refine .of ?_;rintro c l w ⟨d,e,_⟩ _ _ _ o i;simp[AO]at d e;simp[execOp,i,rB,d,e];rw[run_eqGuard_agg w .eql t _ _ _ _ (Uw t j).2.2];simp[aK];rw[run_eql_struct w t _ _,h c w];rfl
def AK2{I t k a b f g}{r:Bool}(j:t∈[42,44,51,63,114,118,154,261])(h:∀(c:Nat->Nat) w,(Op.equalIn 10000 t (.agg (BB c f).toArray)<|.agg (BB c g).toArray).run prog w=.ok r w):
 HL prog (.binOp .neq t (.tmp a) (.tmp b) k) [(a,SV.g f),(b,SV.g g)] [] I (.v<|vB<|!r):=by
 refine .of ?_;rintro c l w ⟨d,e,_⟩ _ _ _ o i;simp[AO]at d e;simp[execOp,i,rB,d,e];rw[run_eqGuard_agg w .neq t _ _ _ _ (Uw t j).2.2];simp[aK];rw[run_neq_struct w t _ _,h c w];rfl
abbrev AOW(v:AW):Ae AF:=#[.int iK v.kind,.int iK v.n,vS<|Aa v.name,vS<|AJ v.l.1,vS<|AJ v.l.2]
def Qy{a b}(c:BV a)(d:BV b):(Aa a).toList=(Aa b).toList↔a=b:=
 ⟨λh=>Of c d<|str_inj.1 h,λh=>by rw[h]⟩
attribute [ext] AW
def eqV{a b:AW}(c:BV a.name)(d:BV b.name)(w):(Op.equalIn 10000 51 (.agg (AOW a)) (.agg (AOW b))).run prog w=.ok (decide (a=b)) w:=by
 apply QX dC
 .simp only[Program.fieldsOf,underlying51];go_simp;(repeat apply PR);rfl
 simp[Qy c d,Pj,str_inj,AW.ext_iff,OA]
def SF(I:AB)(x y:Nat)(a b:AW)(c:BV a.name)(d:BV b.name)(r:Bool)(e:decide (a=b)=r)(f:BN:=51):Hint:=
 .BZ (.binOp .eql 51 (.tmp x) (.tmp y) f) [(x,Do a),(y,Do b)] [] I (.v<|vB r)<|AKx dC λ_ w=>e▸eqV c d w
abbrev HG(l:AT):Ae AF:=#[vS<|AJ l.1,vS<|AJ l.2]
def eqL{a b}(w):(Op.equalIn 10000 42 (.agg (HG a)) (.agg (HG b))).run prog w=.ok (decide (a=b)) w:=by
 apply QX dC
 .simp only[Program.fieldsOf,underlying42];go_simp;(repeat apply PR);rfl
 simp[str_inj,OA]
end
section
open Go.AX Lz
def WV(v:AW):Prop:=(v=BH v.n\/v=D1 v.l\/(3<=v.kind/\v.kind<=7/\v.n=0/\CB v.name))/\B9 v.l
def AMu(n:Int):(BH n).right:=by simp[AW.right,BH]
def AMr(l):(D1 l).right=decide (A4 l=l):=by simp only[AW.right,D1,AZ];simp;exact decide_eq_decide.2 Iff.rfl
def Aaw{v:AW}(a:3<=v.kind)(b:v.kind<=7)(c:v.n=0)(d:CB v.name):v.right=decide (A4 v.l=v.l):=by rw[AW.right];rw[AY oG,AY oG,Ac ⟨a,b⟩,c,d];rfl
def AHl(a b:AT):(a==b)=decide (a=b):=by by_cases h:a=b;rw[h];simp;rw[Gp h];exact Nf.2 h
def Adx(I)(n:Int):Fn 126 [Do<|BH n] [] I (BW (.v tV) I) nO:=fo func126 λd c w b=>gg [(11,SF I 7 10 (BH n) (BH n) nA nA tT sP)]<|fi
def Adw(I l)(c:B9 l):Fn 126 [Do<|D1 l] [] I (BW (.v<|vB<|decide<|A4 l=l) I) nO:=by refine fo func126 λe d w b=>gg [(18,SF I 14 17 (D1 l) (D1 l) nA nA tT sP)] ?_;have h:=Zm I l c;rw[AHl]at h;exact call h<|gG<|fi
def Adv(I)(d:Pow I)(k a l)(i:3<=k)(j:k<=7)(c:CB a)(f:B9 l):Fn 126 [Do<|BZ k a l] [] I (BW (.v<|vB<|decide<|A4 l=l) I) nO:=by
 have h:=Zm I l f;rw[AHl]at h;refine fo func126 λm g w b=> ?_;have e:k=3\/k=4\/k=5\/k=6\/k=7:=oG;rcases e with rfl|rfl|rfl|rfl|rfl<;>
 (
  exact gG<|call (ALm I d a c)<|gG<|call h<|gG<|fi)
def AF4(I)(f:Pow I)(v:AW)(g:WV v):Fn 126 [Do v] [] I (BW (.v<|vB v.right) I) nO:=by
 let⟨h,e⟩:=g;rcases h with h|h|⟨b,c,a,d⟩
 .rw[h,AMu];exact Adx I v.n
 .rw[h,AMr];exact Adw I v.l e
 .rw[Aaw b c a d];have:v=BZ v.kind v.name v.l:=by let⟨k,n,i,l⟩:=v;simp only at a;subst a;rfl
  rw[this];exact Adv I f v.kind v.name v.l b c d e
def AU3(I)(b:Pow I)(v)(c:WV v):Fn 294 [Do v] [] I (BW (.v<|vB<|Qf v) I) nO:=by
 refine fo func294 λf d w a=> ?_;by_cases h:3<=v.kind;have e:Qf v=v.right:=by simp[Qf,h]
 rw[e];exact gg [(5,hT<|(v.kind:Int)≥3)]<|call (AF4 I b v c)<|gG<|fi;have e:Qf v=fF:=by simp[Qf,h]
 rw[e];exact gg [(5,hF<|(v.kind:Int)≥3)]<|fi
def AQx(x y:AW):(x==y)=decide (x=y):=by by_cases h:x=y;rw[h];simp;rw[Gp h];exact Nf.2 h
def Ks(I:AB)(i j b a n c k:Nat){arr:Ae AF}{e:BN}{d:Nat×Nat}(x:AW)(h:k<n)(g:I b=sM (.cells arr e d))(l:∀j v,(BG x)[j]? =sM v->arr[a+k*5+j]? =sM v):AA (Nat×Hint):=
 [(i,Br I Gx b a n c k h),(j,D8 I Oo (a+k*5) (BG x) rfl g l)]
structure Hb(I:AB)(im:A6)(m:CS)(f:Cw)(vs:AA AW):Prop where
 pow:Pow I
 cs:∃l,F3 I im.DN m.ia m.ic l
 cn:m.iN=lN im.DN
 fs:∃l,Av I (KU I) 3 im.Ax m.ja m.jc l
 fn:m.jn=lN im.Ax
 Gv:C0 I m.c m.p
 top:m.c.top=sM f
 tk:∃l,F3 I vs m.ta m.tc l
 tn:m.tn=lN vs
 wv:∀v∈vs,WV v
 sl:lN m.c.stack<=900000
 fl:lN m.c.AG<=900000
 tl:lN m.c.AP<=900000
 UY:Iq im f ⟨m.oc,m.oa⟩
 num:lN vs=CU im ⟨m.oc,m.oa⟩
 al:m.oc=17->lN vs<=1000
def ZD{l i}(h:i<lN l):l[i]? =sM (l.getD i AZ):=by rw[BS h,DK,BS h];rfl
def WV.nm{v}(h:WV v):BV v.name:=by rcases h.1 with e|e|⟨_,_,_,e⟩;rw[e];intro x a;cases a;rw[e];intro x a;cases a;exact(Z4 e).1
variable{I:AB}{im:A6}{m:CS}{f:Cw}{vs:List AW}{r:Ay ⊕ Int}{x y:AW}
def Hb.at_(S:Hb I im m f vs)(i)(h:i<CU im ⟨m.oc,m.oa⟩):vs[i]? =sM (vs.getD i AZ)/\WV (vs.getD i AZ):=by have:=ZD<|S.num▸h;exact⟨this,S.wv _<|De this⟩
def AEi(S:Hb I im m f vs)(l):Fn 290 [.p 1 0,DW l] [(1,m.B3)] I (JG I m<|.inl<|Df m.c<|D1 l) nO:=by have:=S.sl;exact fo func290 λd c w a=>gG<|IS (Nq I m (D1 l) oG S.Gv) λq J hle b=>gG<|dn [] ⟨q,J,rfl,hle,b⟩
def AZH{G}(S:Hb I im m f vs)(n:G=284\/G=285\/G=287)(l:vs[0]? =sM x)(h:x.kind=1->Fn G [Do x,.p 2 0] [(1,m.B3),JS] I (M3 I m r) nO)(o:x.kind≠1->r=.inr (-1)):
 Fn 283 [.p 1 0,.v<|.int iK 1,.fn (.func G) [] [.p 2 0]] [(1,m.B3),JS] I (M3 I m r) nO:=by
 have c:=(Ci.1 l).1;let⟨_,p⟩:=S.tk;obtain⟨m,b,a,arr,e,u,rfl,g,s⟩:=Sq m p S.tn c;have d:=s 0 x l;refine fo func283 λv t w k=> ?_;by_cases j:x.kind=1;rcases n with rfl|rfl|rfl<;>
 .exact gg ((12,ED I Ek rfl (a+0*5+0) (nV x.kind) g<|d 0 _ rfl)::(14,EN (x.kind:Int) 1)::(10,Br I Gx b a (lN vs) m.tc 0 c)::Ks I 22 23 b a (lN vs) m.tc 0 x c g d)<|Ye 2 (h j) kR λq J hle i=>gG<|dn [] ⟨q,J,rfl,hle,i⟩
 rw[o j];exact gg [(12,ED I Ek rfl (a+0*5+0) (nV x.kind) g<|d 0 _ rfl),(14,Fs (x.kind:Int) 1),(10,Br I Gx b a (lN vs) m.tc 0 c)]<|IS (R4 I (m.tk b a<|lN vs) (-1)) λq J hle i=>gG<|dn [] ⟨q,J,rfl,hle,i⟩
def AdX{G k}(S:Hb I im m f vs)(z:G=279\/G=289\/G=291\/G=293)(u:vs[0]? =sM x)(v:vs[1]? =sM y)(h:x.kind=k/\y.kind=k->Fn G [Do x,Do y,.p 2 0] [(1,m.B3),JS] I (M3 I m r) nO)(s: ¬(x.kind=k/\y.kind=k)->r=.inr (-1)):
 Fn 278 [.p 1 0,.v<|nV k,.fn (.func G) [] [.p 2 0]] [(1,m.B3),JS] I (M3 I m r) nO:=by
 have c:=(Ci.1 u).1;have g:=(Ci.1 v).1;let⟨_,A⟩:=S.tk;obtain⟨m,b,a,arr,e,C,rfl,d,t⟩:=Sq m A S.tn c;have j:=t 0 x u;have l:=t 1 y v;refine fo func278 λD B w o=> ?_;by_cases n:x.kind=k;by_cases p:y.kind=k;rcases z with rfl|rfl|rfl|rfl<;>
 .exact gg ((12,ED I Ek rfl (a+0*5+0) (nV x.kind) d<|j 0 _ rfl)::(14,EN (x.kind:Int) k)::(10,Br I Gx b a (lN vs) m.tc 0 c)::(22,ED I Ek rfl (a+1*5+0) (nV y.kind) d<|l 0 _ rfl)::(24,EN (y.kind:Int) k)::(20,Br I Gx b a (lN vs) m.tc 1 g)::Ks I 33 34 b a (lN vs) m.tc 0 x c d j++Ks I 39 40 b a (lN vs) m.tc 1 y g d l)<|Ye 2 (h ⟨n,p⟩) kR λq J hle i=>gG<|dn [] ⟨q,J,rfl,hle,i⟩
 rw[s λq=>p q.2];exact gg [(12,ED I Ek rfl (a+0*5+0) (nV x.kind) d<|j 0 _ rfl),(14,EN (x.kind:Int) k),(10,Br I Gx b a (lN vs) m.tc 0 c),(22,ED I Ek rfl (a+1*5+0) (nV y.kind) d<|l 0 _ rfl),(24,Fs (y.kind:Int) k),(20,Br I Gx b a (lN vs) m.tc 1 g)]<|IS (R4 I (m.tk b a<|lN vs) (-1)) λq J hle i=>gG<|dn [] ⟨q,J,rfl,hle,i⟩;rw[s λq=>n q.1];exact gg [(12,ED I Ek rfl (a+0*5+0) (nV x.kind) d<|j 0 _ rfl),(14,Fs (x.kind:Int) k),(10,Br I Gx b a (lN vs) m.tc 0 c)]<|IS (R4 I (m.tk b a<|lN vs) (-1)) λq J hle i=>gG<|dn [] ⟨q,J,rfl,hle,i⟩
def AY5(S:Hb I im m f vs)(h:7<=m.oc/\m.oc<=13):Fn 279 [Do x,Do y,.p 2 0] [(1,m.B3),JS] I (M3 I m (match HN m.oc x.n y.n with|some n=>.inl (Df m.c<|BH n)|none=>.inr (-2))) nO:=by
 have:=S.sl;have b:=AY4 I m.oc x.n y.n h.1 h.2;refine fo func279 λe d w c=>gG ?_;generalize HN m.oc x.n y.n=o at b⊢;refine call b ?_;cases o with
 |some n=>
  exact gG<|call (U9 I n)<|gG<|IS (Nq I m (BH n) oG S.Gv) λq J hle a=>gG<|dn [] ⟨q,J,rfl,hle,a⟩
 |none=>
  exact gG<|IS (R4 I m (-2)) λq J hle a=>gG<|dn [] ⟨q,J,rfl,hle,a⟩
def AKW{G l}(S:Hb I im m f vs)(d:B9 x.l)(e:B9 y.l)(h:G=289/\l=jn x.l y.l\/G=291/\l=mt x.l y.l):Fn G [Do x,Do y,.p 2 0] [(1,m.B3),JS] I (M3 I m<|.inl<|Df m.c<|D1 l) nO:=by
 rcases h with⟨rfl,rfl⟩|⟨rfl,rfl⟩;refine fo func289 λg c w a=> ?_
 rotate_left
 refine fo func291 λg c w a=> ?_
 rotate_left
 all_goals
  refine gG ?_
  first
  |refine call (AD8 I x.l y.l d e) ?_
   exact gG<|IS (AEi S<|jn x.l y.l) λq J hle b=>gG<|dn [] ⟨q,J,rfl,hle,b⟩
  |refine call (AYN I x.l y.l d e) ?_
   exact gG<|IS (AEi S<|mt x.l y.l) λq J hle b=>gG<|dn [] ⟨q,J,rfl,hle,b⟩
def AYv(S:Hb I im m f vs):Fn 284 [Do x,.p 2 0] [(1,m.B3),JS] I (M3 I m<|.inl<|Df m.c<|NV<|x.n==0) nO:=by have:=S.sl;exact fo func284 λd c w a=>gG<|call (AFs I<|x.n==0)<|gG<|IS (Nq I m (NV<|x.n==0) oG S.Gv) λq J hle b=>gG<|dn [] ⟨q,J,rfl,hle,b⟩
def AdB:Fn 287 [Do x,.p 2 0] [(1,m.B3),JS] I (M3 I m<|.inr x.n) nO:=fo func287 λd c w a=>gG<|IS (R4 I m x.n) λq J hle b=>gG<|dn [] ⟨q,J,rfl,hle,b⟩
def AOv(S:Hb I im m f vs)(b:x.n=0):Fn 285 [Do x,.p 2 0] [(1,m.B3),JS] I (M3 I m<|.inl m.c) nO:=fo func285 λd c w a=>gg [(5,EN x.n 0 b)]<|dn [] ⟨m.p,I,rfl,AB.le_refl _,Rt S.Gv⟩
def AUL(S:Hb I im m f vs)(c:B9 x.l)(d:B9 y.l):Fn 293 [Do x,Do y,.p 2 0] [(1,m.B3),JS] I (M3 I m<|.inl<|Df m.c<|NV<|fl x.l y.l) nO:=by have:=S.sl;exact fo func293 λg e w a=>gG<|call (NB I x.l y.l c d)<|gG<|call (AFs I<|fl x.l y.l)<|gG<|IS (Nq I m (NV<|fl x.l y.l) oG S.Gv) λq J hle b=>gG<|dn [] ⟨q,J,rfl,hle,b⟩
def AE0{F G}(S:Hb I im m f vs)(d:F=209/\G=284\/F=211/\G=285\/F=214/\G=287)(i:vs[0]? =sM x)(h:x.kind=1->Fn G [Do x,.p 2 0] [(1,m.B3),JS] I (M3 I m r) nO)(g:x.kind≠1->r=.inr (-1)):Fn F [.p 1 0] [(1,m.B3)] I (JG I m r) nO:=by
 rcases d with⟨rfl,rfl⟩|⟨rfl,rfl⟩|⟨rfl,rfl⟩;refine fo func209 λc b w a=> ?_
 rotate_left
 refine fo func211 λc b w a=> ?_
 rotate_left
 refine fo func214 λc b w a=> ?_
 rotate_left
 all_goals
  exact gG<|Ye 100 (AZH S (by simp) i h g) kR λq J hle e=>gG<|dn [] ⟨q,J,rfl,hle,e⟩
def W4{F G k}(S:Hb I im m f vs)(d:F=207/\G=279/\k=1\/F=217/\G=289/\k=2\/F=218/\G=291/\k=2\/F=219/\G=293/\k=2)(i:vs[0]? =sM x)(j:vs[1]? =sM y)(h:x.kind=k/\y.kind=k->Fn G [Do x,Do y,.p 2 0] [(1,m.B3),JS] I (M3 I m r) nO)(g: ¬(x.kind=k/\y.kind=k)->r=.inr (-1)):Fn F [.p 1 0] [(1,m.B3)] I (JG I m r) nO:=by
 rcases d with⟨rfl,rfl,rfl⟩|⟨rfl,rfl,rfl⟩|⟨rfl,rfl,rfl⟩|⟨rfl,rfl,rfl⟩;refine fo func207 λc b w a=> ?_
 rotate_left
 refine fo func217 λc b w a=> ?_
 rotate_left
 refine fo func218 λc b w a=> ?_
 rotate_left
 refine fo func219 λc b w a=> ?_
 rotate_left
 all_goals
  exact gG<|Ye 100 (AdX S (by simp) i j h g) kR λq J hle e=>gG<|dn [] ⟨q,J,rfl,hle,e⟩
def o1(S:Hb I im m f vs)(d:im.DN[m.oa]? =sM x):Fn 201 [.p 1 0] [(1,m.B3)] I (JG I m<|.inl<|Df m.c x) nO:=by have h:=(Ci.1 d).1;have j:=S.sl;let⟨_,k⟩:=S.cs;obtain⟨m,b,a,arr,e,o,rfl,g,l⟩:=ASE m k S.cn oG;refine fo func201 λp n w c=>gg (Ks I 13 14 b a (lN im.DN) m.ic m.oa x h g<|l m.oa x d)<|IS (Nq I (m.ks b a<|lN im.DN) x (by show lN m.c.stack<=_;have:lN m.c.stack<=_:=j;omega) S.Gv) λq J hle i=> ?_;exact gG<|dn [] ⟨q,J,rfl,hle,i⟩
def o2(S:Hb I im m f vs)(p:f.Ai[m.oa]? =sM x):Fn 202 [.p 1 0] [(1,m.B3)] I (JG I m<|.inl<|Df m.c x) nO:=by have F:=S.sl;have E:=S.fl;let⟨b,c,arr,e,D,G,B,g,o,u,k,i,a⟩:=ADf I m S.Gv S.top;rw[o];have v:=(Ci.1 p).1;obtain⟨s,d,l,C,t,rfl,h,j⟩:=Xc k oG;refine fo func202 λH A w n=>gG<|ACh (AFq I m b c i oG) rfl<|gg ((7,.op I _ _<|IZ NW rfl u<|a 4 _ rfl)::Ks I 13 14 s d (lN f.Ai) B m.oa x v h (j m.oa x p))<|IS (Nq I (m.TW b c) x (by show lN m.c.stack<=_;omega)<|by rw[<-o];exact S.Gv) λq J hle z=> ?_;exact gG<|dn [] ⟨q,J,rfl,hle,z⟩
def o47(S:Hb I im m f vs):Fn 222 [.p 1 0] [(1,m.B3)] I (JG I m<|.inl<|Df m.c<|BH f.AR.toNat) nO:=by have t:=S.sl;have s:=S.fl;let⟨b,c,arr,e,o,u,v,d,i,j,l,g,a⟩:=ADf I m S.Gv S.top;rw[i];have p:=f.AR.toNat_lt;refine fo func222 λz n w h=>gG<|ACh (AFq I m b c g oG) rfl<|gg [(7,.op I _ _<|IZ Sw rfl j<|a 3 _ rfl),(8,.eq _ _<|iw (n:=(f.AR.toNat:Int)) (m:=(f.AR.toNat:Int)) rfl oG)]<|call (U9 I f.AR.toNat)<|gG<|IS (Nq I (m.TW b c) (BH f.AR.toNat) (by show lN m.c.stack<=_;omega)<|by rw[<-i];exact S.Gv) λq J hle k=> ?_;exact gG<|dn [] ⟨q,J,rfl,hle,k⟩
def o4(S:Hb I im m f vs):Fn 204 [.p 1 0] [(1,m.B3)] I (JG I m<|.inl m.c) nO:=fo func204 λc b w a=>gG<|dn [] ⟨m.p,I,rfl,AB.le_refl _,Rt S.Gv⟩
def o56{F k}(S:Hb I im m f vs)(hF:F=205/\k=0\/F=206/\k=1)(t:vs[0]? =sM x)(u:vs[k]? =sM y):Fn F [.p 1 0] [(1,m.B3)] I (JG I m<|.inl<|Df (Df m.c y) x) nO:=by
 have n:=(Ci.1 t).1;have h:=(Ci.1 u).1;have o:=S.sl;let⟨_,C⟩:=S.tk;obtain⟨m,b,a,arr,e,G,rfl,l,s⟩:=Sq m C S.tn n;replace o:lN m.c.stack<=900000:=o;have z:=s 0 x t;have A:=s k y u;rcases hF with⟨rfl,rfl⟩|⟨rfl,rfl⟩;refine fo func205 λE j w d=> ?_
 rotate_left
 refine fo func206 λE j w d=> ?_
 rotate_left
 all_goals
  refine gg (Ks I 7 8 b a (lN vs) m.tc _ y h l A)<|IS (Nq I (m.tk b a<|lN vs) y (by show lN m.c.stack<=_;omega) S.Gv) λq J hle B=> ?_;refine gg (Ks J 15 16 b a (lN vs) m.tc 0 x n (hle b _ l) z)<|IS (Nq J ({m.tk b a (lN vs) with c:=Df m.c y,p:=q}:CS) x (by show(m.c.stack++[y]).length<=1000000;simp;omega)<|B _ rfl) λD v g i=> ?_;exact gG<|dn [] ⟨D,v,rfl,hle.trans g,i⟩
def o12(S:Hb I im m f vs)(j:vs[0]? =sM x)(k:vs[1]? =sM y)(s:WV x)(t:WV y):Fn 208 [.p 1 0] [(1,m.B3)] I (JG I m<|.inl<|Df m.c<|NV<|x==y) nO:=by have g:=(Ci.1 j).1;have c:=(Ci.1 k).1;have n:=S.sl;let⟨_,o⟩:=S.tk;obtain⟨m,b,a,arr,e,u,rfl,d,i⟩:=Sq m o S.tn g;refine fo func208 λv p w h=>gg ((15,SF I 8 14 x y s.nm t.nm (x==y) (AQx x y).symm)::Ks I 7 8 b a (lN vs) m.tc 0 x g d (i 0 x j)++Ks I 13 14 b a (lN vs) m.tc 1 y c d (i 1 y k))<|call (AFs I<|x==y)<|gG<|IS (Nq I (m.tk b a<|lN vs) (NV<|x==y) (by show lN m.c.stack<=_;have:lN m.c.stack<=900000:=n;omega) S.Gv) λq J hle l=> ?_;exact gG<|dn [] ⟨q,J,rfl,hle,l⟩
def o31(S:Hb I im m f vs)(o:vs[0]? =sM x)(u:WV x):Fn 220 [.p 1 0] [(1,m.B3)] I (JG I m<|if Qf x then .inl (Df m.c<|D1 x.l)else .inr (-1)) nO:=by
 have d:=(Ci.1 o).1;let⟨_,p⟩:=S.tk;obtain⟨m,b,a,arr,e,z,rfl,k,s⟩:=Sq m p S.tn d;have i:=s 0 x o;have l:=AU3 I S.pow x u;refine fo func220 λA t w n=>gg (Ks I 6 7 b a (lN vs) m.tc 0 x d k i) ?_;generalize Qf x=g at l⊢;refine call l ?_;cases g with
 |true=>
  refine gg [(17,Br I Gx b a (lN vs) m.tc 0 d),(19,D8 I Sf (a+0*5+3) [vS<|AJ x.l.1,vS<|AJ x.l.2] rfl k (λj v c=>by
   have:=i (3+j) v (by
    match j,c with
    |0,c=>exact c
    |1,c=>exact c)
   rw[<-Nb]at this;exact this))] ?_
  exact IS (AEi S x.l) λq J hle h=>gG<|dn [] ⟨q,J,rfl,hle,h⟩
 |false=>
  exact gG<|IS (R4 I (m.tk b a<|lN vs) (-1)) λq J hle h=>gG<|dn [] ⟨q,J,rfl,hle,h⟩
def o20(S:Hb I im m f vs):Fn 215 [.p 1 0] [(1,m.B3)] I (JG I m<|.inl {m.c with AP:=m.c.AP++[⟨lN m.c.AG,lN m.c.stack,m.oa⟩]}) nO:=by have s:=S.tl;have h:=S.Gv;refine fo func215 λt n w i=>gG<|call (AIO I m.p.ta (lN m.c.AP) m.p.tc h.t.cap)<|gG ?_;refine act (need:=[(324,.cells [.v<|nV<|lN m.c.AG,.v<|nV<|lN m.c.stack,.v<|nV m.oa] 118)]) (MM Be (n:=lN m.c.AP) (cap:=lN m.c.AP) (m:=1) (a:=m.p.ta) (l:=.v<|.slice m.p.ta (lN m.c.AP)<|lN m.c.AP) (x:=.s 324 0 1 1) (CQ:=m.p.tl) (news:=Ea ⟨lN m.c.AG,lN m.c.stack,m.oa⟩) ACJ kR rfl (h.t.sl.reads (c:=lN m.c.AP)) (Ez (A9.2 rfl) rfl (by intro v c;simp[Ea]at c;rcases c with rfl|rfl|rfl<;>rfl)) (Ag _) (Xv _) (λe=>by have:=h.t.sl;rw[e]at this;exact this.Wr) oG) M4 ?_;rintro o ⟨d,a,j,k,p,rfl⟩;refine gG<|B4 332 I (vs:=(m.p.tl++Ea ⟨lN m.c.AG,lN m.c.stack,m.oa⟩)++a) (e:=118) λb J hle _ l=>gG ?_;have g:(m.c.AP++[(⟨lN m.c.AG,lN m.c.stack,m.oa⟩:Fj)]).length=lN m.c.AP+1:=sP;refine dn [] ⟨{m.p with ta:=sM ⟨b,0,nO⟩,tc:=d,tl:=m.p.tl++Ea ⟨lN m.c.AG,lN m.c.stack,m.oa⟩},J,(by simp[CS.HW,CS.B3,CS.row,g];rfl),hle,Rt ⟨(h.up hle).f,(h.up hle).s,?_,by rwa[g],k,h.t.CE.append<|Rows.one rfl⟩⟩;rw[g];refine Dk.Og l (by simp[h.t.sl.len,Ea,Gm]) λv c=> ?_;rcases Bc.1 c with q|q;exact h.t.sl.one v q;simp[Ea]at q;rcases q with rfl|rfl|rfl<;>rfl
def o21(S:Hb I im m f vs):Fn 216 [.p 1 0] [(1,m.B3)] I (JG I m<|.inl<|if m.tr<lN m.c.AP then{m.c with AP:=m.c.AP.take<|lN m.c.AP-1}else m.c) nO:=by have k:=S.tl;have h:=S.Gv;have d:=h.t.cap;let⟨i,a,b⟩:=ZS;refine fo func216 λl j w e=> ?_;split;refine gg [(14,hT<|(lN m.c.AP:Int)>m.tr),(22,hW ((lN m.c.AP:Int)-1) ((lN m.c.AP-1:Nat):Int)),(23,.op I _ _<|Us (a:=m.p.ta) (n:=lN m.c.AP) (c:=m.p.tc) (m:=lN m.c.AP-1) Sv a oG)]<|call (AIO I m.p.ta (lN m.c.AP-1) m.p.tc oG)<|gG ?_;have g:=h.t.take Uy<|lN m.c.AP-1;have c:min (lN m.c.AP-1) (lN m.c.AP)=lN m.c.AP-1:=oG;rw[c]at g;exact dn [] ⟨{m.p with tc:=lN m.c.AP-1,tl:=_},I,(by simp[CS.HW,CS.B3,CS.row,Cu,c];rfl),AB.le_refl _,Rt ⟨h.f,h.s,g⟩⟩;exact gg [(14,hF<|(lN m.c.AP:Int)>m.tr)]<|dn [] ⟨m.p,I,rfl,AB.le_refl _,Rt h⟩
def o17{s}(S:Hb I im m f vs)(C:m.oc=17)(E:im.Ax[m.oa]? =sM s):Fn 212 [.p 1 0] [(1,m.B3)] I (JG I m (match Gc m.c m.oa s.Ai vs f.AR with|some u=>.inl u|none=>.inr (-6))) nO:=by let⟨_,ht⟩:=S.tk;let⟨_,F⟩:=S.fs;let⟨B,c,L,e2,Q,ca,cc,cl,R,T,g3,U,V⟩:=OR F E;let⟨b,a,arr,e,fr,va,vc,o,N,W,ab,H,i⟩:=ADf I m S.Gv S.top;have aa:=S.sl;have X:=S.fl;have D:=S.al C;have n:=S.Gv;have Z:=S.tn;have Y:=S.fn;let⟨ia,iN,ic,ja,jn,jc,was,wp,c0,⟨P,p,d,t,v,z,g,h,A⟩,oc,oa,ta,tn,tc,fr',tr,ok,ov,xc,xa,wrong,code⟩:=m;have G:P=sM ⟨b,a,nO⟩:=Dt (λm:CS=>m.p.fa) N;simp only at*;subst R Y Z G;let⟨O,j,k⟩:=ADz;refine fo func212 λρ ac w M=>gg [(24,.op I _ _<|Uo (b:=B) (off:=c) (n:=lN im.Ax) (c:=jc) (k:=oa) AFx j k U),(26,.op I _ _<|IZ Ek rfl T<|V 1 _ rfl)]<|ACh (AFq I (⟨ia,iN,ic,sM ⟨B,c,nO⟩,lN im.Ax,jc,was,wp,c0,⟨sM ⟨b,a,nO⟩,p,d,t,v,z,g,h,A⟩,oc,oa,ta,lN vs,tc,fr',tr,ok,ov,xc,xa,wrong,code⟩:CS) b a H<|by show lN c0.AG<=_;omega) rfl ?_;refine gg [(35,.op I _ _<|IZ Sw rfl W<|i 3 _ rfl)] ?_;rw[Gc];by_cases l:16<=lN c0.AG;rw[Ac l];exact call (AI3 I c0 ⟨sM ⟨b,a,nO⟩,p,d,t,v,z,g,h,A⟩ oa s.Ai ta (lN vs) tc f.AR oG)<|gG<|IS (R4 I (⟨ia,iN,ic,sM ⟨B,c,nO⟩,lN im.Ax,jc,was,wp,c0,⟨sM ⟨b,a,nO⟩,p,d,t,v,z,g,h,A⟩,oc,oa,ta,lN vs,tc,fr',tr,ok,ov,xc,xa,wrong,code⟩:CS) (-6)) λq J hle K=>gG<|dn [] ⟨q,J,rfl,hle,K⟩;rw[AY l];exact Cz (ATL I c0 ⟨sM ⟨b,a,nO⟩,p,d,t,v,z,g,h,A⟩ oa s.Ai vs ta tc _ f.AR n ht oG D oG) λq J hle K=>gG<|dn [] ⟨q,J,rfl,hle,Rt K⟩
def stepG(k:Nat):Nat:=200+[0,1,2,3,4,5,6,7,7,7,7,7,8,7,9,10,11,12,13,14,15,16,17,18,19,0,0,0,0,0,0,20,0,0,0,0,0,0,0,0,0,0,0,0,21,0,0,22].getD k 0
theorem Aj(S:Hb I im m f vs)(h:m.oc∈[1,2,4,5,6,7,8,9,10,11,12,13,14,16,17,19,20,21,22,23,24,31,47])(d:m.oc=16->¬((vs.getD 0 AZ).kind=1/\(vs.getD 0 AZ).n≠0)):Fn (stepG m.oc) [.p 1 0] [(1,m.B3)] I (JG I m<|HU im m.c ⟨m.oc,m.oa⟩ vs m.tr) nO:=by
 have j:=S.at_;have c:=S.UY;have i:=S.top;have hN:=λx y=>AY5 (x:=x) (y:=y) S;generalize e:m.oc=k at*;have g:∀r,HU im m.c ⟨k,m.oa⟩ vs m.tr=r->Fn (stepG k) [.p 1 0] [(1,m.B3)] I (JG I m r) nO->Fn (stepG k) [.p 1 0] [(1,m.B3)] I (JG I m<|HU im m.c ⟨k,m.oa⟩ vs m.tr) nO:=λr e h=>e▸h;simp only[Co,Hp,_root_.or_false]at h;rcases h with rfl|rfl|rfl|rfl|rfl|rfl|rfl|rfl|rfl|rfl|rfl|rfl|rfl|rfl|rfl|rfl|rfl|rfl|rfl|rfl|rfl|rfl|rfl<;>
  (try have a:=j 0<|LO rfl)<;>(try have b:=j 1<|LO rfl)
 exact o1 S<|ZD<|LO c;refine g _ ?_<|o2 S<|ZD<|LO c;simp[HU,i];exact o4 S;exact o56 S (.inl ⟨rfl,rfl⟩) a.1 a.1;exact o56 S (.inr ⟨rfl,rfl⟩) a.1 b.1
 iterate 5 exact W4 S (.inl r3) a.1 b.1 (λh=>by simp only[HU,Ac h];exact hN _ _ dC) λh=>AY h
 exact o12 S a.1 b.1 a.2 b.2;exact W4 S (.inl r3) a.1 b.1 (λh=>by simp only[HU,Ac h];exact hN _ _ dC) λh=>AY h;exact AE0 S (.inl ⟨rfl,rfl⟩) a.1 (λh=>by simp only[HU,Ac h];exact AYv S) λh=>AY h;exact AE0 S (.inr<|.inl ⟨rfl,rfl⟩) a.1 (λh=>by have:=d rfl;simp only[HU,Ac h,AY λq=>this ⟨h,q⟩];exact AOv S<|Ka.1 λq=>this ⟨h,q⟩) λh=>AY h;refine g _ ?_<|o17 S e<|BS<|LO c;simp only[HU,i,DK,BS (LO c:m.oa<lN im.Ax)];rfl;exact AE0 S (.inr<|.inr ⟨rfl,rfl⟩) a.1 (λh=>by simp only[HU,Ac h];exact AdB) λh=>AY h;exact o20 S;exact o21 S;exact W4 S (.inr<|.inl ⟨rfl,rfl,rfl⟩) a.1 b.1 (λh=>by simp only[HU,Ac h];exact AKW S a.2.2 b.2.2<|.inl ⟨rfl,rfl⟩) λh=>AY h;exact W4 S (.inr<|.inr<|.inl ⟨rfl,rfl,rfl⟩) a.1 b.1 (λh=>by simp only[HU,Ac h];exact AKW S a.2.2 b.2.2<|.inr ⟨rfl,rfl⟩) λh=>AY h;exact W4 S (.inr<|.inr<|.inr ⟨rfl,rfl,rfl⟩) a.1 b.1 (λh=>by simp only[HU,Ac h];exact AUL S a.2.2 b.2.2) λh=>AY h;exact o31 S a.1 a.2;refine g _ ?_<|o47 S;simp[HU,i]
def Aap(c):lN (Ei c).AG<=lN c.AG/\lN (Ei c).stack<=lN c.stack:=by simp[Ei];omega
def CS.AAc(m:CS)(q:DL):CS:=if(Ei m.was).AG.length<=m.fr then{m with c:=Ei m.was,p:=q,ok:=1,ov:=(Ct m.was 1).getD 0 AZ,xc:=0,xa:=0}else{m with c:=Df (Ei m.was)<|(Ct m.was 1).getD 0 AZ,p:=q}
def AMp{m:CS}(h:lN (Ei m.was).AG<=m.fr):m.AAc=λq=>{m with c:=Ei m.was,p:=q,ok:=1,ov:=(Ct m.was 1).getD 0 AZ,xc:=0,xa:=0}:=funext λ_=>Ac h
def AMo{m:CS}(h: ¬lN (Ei m.was).AG<=m.fr):m.AAc=λq=>{m with c:=Df (Ei m.was)<|(Ct m.was 1).getD 0 AZ,p:=q}:=funext λ_=>AY h
def AZI(m:CS)(f)(o:m.was.top=sM f)(d:HQ m.was 1)(j:Kf m.was)(h:C0 I m.was m.wp):
 Fn 213 [.p 1 0] [(1,m.B3)] I (YE I m.AAc λJ q=>C0 J (m.AAc q).c q) nO:=by
 have v:=(Aap m.was).2;have s:=j.s;have k:=Aar I m.was m.wp f o d j h;by_cases l:lN (Ei m.was).AG<=m.fr;rw[AMp l];exact fo func213 λu i w a=>gG<|Cz k λq J hle e=>gg [(25,hT<|(lN (Ei m.was).AG:Int)<=m.fr)]<|dn [] ⟨q,J,rfl,hle,e⟩;rw[AMo l];refine fo func213 λu i w a=>gG<|Cz k λq J hle e=>gg [(25,hF<|(lN (Ei m.was).AG:Int)<=m.fr)]<|IS (Nq J {m with c:=Ei m.was,p:=q} ((Ct m.was 1).getD 0 AZ) (by show(Ei m.was).stack.length<=_;omega) e) λt n b g=> ?_;exact gG<|dn [] ⟨t,n,rfl,hle.trans b,g _ rfl⟩
def AZ5(I c p n f)(o:c.top=sM f)(i:HQ c n=fF)(z:lN c.stack<=1000000)(s:lN c.AG<=1000000)(h:C0 I c p):Fn 156 [.g<|Dx c p,.v<|iV n] [] I (BW (.t [.g<|Dx c p,.v zS,.v fV]) I) nO:=by
 let⟨b,d,arr,e,y,G,H,j,g,l,u,t,a⟩:=Tx h o;let⟨x,k,fl,A,B,C,D,E,F⟩:=p;simp only at g;subst g;have r:MN c=f.Cp:=by rw[MN];rw[o]
 simp[HQ,ABR,AGf]at i;rw[r]at i;refine fo func156 λJ v w q=> ?_;by_cases m:lN c.stack<f.Cp;refine gg [(13,hT<|(lN c.AG:Int)>0),(19,hW ((lN c.AG:Int)-1) ((lN c.AG-1:Nat):Int)),
  (20,Br I PO b d (lN c.AG) k<|lN c.AG-1),(22,ED I Ek rfl (d+(lN c.AG-1)*5+2) _ l<|a 2 _ rfl),(27,hF<|(n:Int)<0),(30,hF<|(f.Cp:Int)<0),(35,hT<|(f.Cp:Int)>lN c.stack)] ?_
 exact fi;refine gg [(13,hT<|(lN c.AG:Int)>0),(19,hW ((lN c.AG:Int)-1) ((lN c.AG-1:Nat):Int)),
  (20,Br I PO b d (lN c.AG) k<|lN c.AG-1),(22,ED I Ek rfl (d+(lN c.AG-1)*5+2) _ l<|a 2 _ rfl),(27,hF<|(n:Int)<0),(30,hF<|(f.Cp:Int)<0),(35,hF<|(f.Cp:Int)>lN c.stack),
  (40,hW ((lN c.stack:Int)-f.Cp) ((lN c.stack-f.Cp:Nat):Int)),(42,hT<|((lN c.stack-f.Cp:Nat):Int)<n)] ?_
 exact fi
def AN0(I)(g:EB I)(b p o)(l:FJ I b p)(n:IY o)(i:o.code=17->o.a<lN b.Ax)(m:∀f∈b.Ax,f.args<=1000000):Fn 200 [.g<|Fa b p,Po o] [] I (BW (.v<|.int iK<|CU b o) I) nO:=by
 let⟨j,_,_⟩:=SR n;by_cases h:o.code=17;have d:=i h;let⟨c,a⟩:=o;simp only at h d;subst h;have k:b.Ax[a]? =sM b.Ax[a]:=BS d;have:=Acn I g b p a b.Ax[a] l k<|m _<|DR d;have e:CU b ⟨17,a⟩=b.Ax[a].args:=by rw[CU];simp[List.getD,k,BP]
 rwa[e];exact Acm I g b p o l j.1 j.2 h
structure ABx(im:A6):Prop where
 right:∀f∈im.Ax,∀o∈f.code,IY o
 args:∀f∈im.Ax,f.args<=1000
 code:∀f∈im.Ax,lN f.code<=100000
abbrev APR(I:AB)(o:Lz.Op)(b:Bool):zP:=He I (λ_:Unit=>.t [Po o,.v<|vB b]) λ_ _=>True
def Kr(a:A6)(c:Ay):Lz.Op×Bool:=match JM a c with|some o=>(o,tT)|none=>(⟨0,0⟩,fF)
def AT9(I)(v:EB I)(d K c p)(H:FJ I d K)(P:ABx d)(Q:Kf c)(h:C0 I c p):Fn 149 [.g<|Fa d K,.g<|Dx c p] [] I (APR I (Kr d c).1 (Kr d c).2) nO:=by
 have l1:=Q.f;have l2:=Q.s;refine fo func149 λρ ae w R=> ?_;cases a:c.top with
 |none=>
  have e0:lN c.AG=0:=by have:c.AG.getLast?=nO:=a;rw[S8]at this;rw[this];rfl
  have e:Kr d c=(⟨0,0⟩,fF):=by rw[Kr,JM];rw[a]
  rw[e];exact gg [(15,hE (lN c.AG:Int) 0)]<|dn [] ⟨(),I,rfl,AB.le_refl _,trivial⟩
 |some f=>
  let⟨b,s,arr,e,fr,va,vc,D,z,G,ad,ac,x⟩:=Tx h a;let⟨fa,E,fl,V,W,X,Y,Z,tl⟩:=p;simp only at z;subst z;refine gg [(15,hN (lN c.AG:Int) 0),(22,hW ((lN c.AG:Int)-1) ((lN c.AG-1:Nat):Int)),(23,Br I PO b s (lN c.AG) E<|lN c.AG-1),(24,D8 I XJ (s+(lN c.AG-1)*5) _ rfl G x)]<|call (VA I f.fn<|lN d.Ax) ?_;by_cases m:f.fn<lN d.Ax;have g:d.Ax[f.fn]? =sM d.Ax[f.fn]:=BS m;have t:=DR m;generalize d.Ax[f.fn]=l at g t;let⟨C,i,M,e2,aa,ca,cc,cl,O,g2,g3,g4,g5⟩:=OR H.u g;let⟨S,T,U,ua,L,ul⟩:=K;simp only at O;subst O;rw[show decide (f.fn<lN d.Ax)=tT from G5 m];refine gg [(37,Br I M7 C i (lN d.Ax) L f.fn g4),(39,ED I AFw rfl (i+f.fn*3+2) _ g2<|g5 2 _ rfl)]<|call (VA I f.pc<|lN l.code) ?_;by_cases n:f.pc<lN l.code;have k:l.code[f.pc]? =sM l.code[f.pc]:=BS n;have A:=DR n;generalize l.code[f.pc]=o at k A;let⟨b3,u,N,e3,ab,af,q1,q2,q3,q4,q5⟩:=g3.cell AAM k;subst q1 q3;have y:=P.right l t o A;have B:=SR y;rw[show decide (f.pc<lN l.code)=tT from G5 n];refine gg [(50,Br I PN b3 u (lN l.code) cc f.pc q4),(51,D8 I XI (u+f.pc*2) (Cs o) rfl q2 q5)]<|call (XE I v o y)<|gG<|call (AZM I v d ⟨S,T,U,sM ⟨C,i,nO⟩,L,ul⟩ f va vc l o H g B.1.1 B.1.2) ?_;cases j:Iq d f o with
  |false=>
   have e:Kr d c=(⟨0,0⟩,fF):=by rw[Kr,JM];rw[a];simp only[g,k,y,j];simp
   rw[e];exact gG<|dn [] ⟨(),I,rfl,AB.le_refl _,trivial⟩
  |true=>
   have F:o.code=17->o.a<lN d.Ax:=λh=>by
    have:Cf o.code=4:=by rw[h];rfl
    rw[Iq]at j;rw[this]at j;simpa using j
   refine gG<|call (AN0 I v d ⟨S,T,U,sM ⟨C,i,nO⟩,L,ul⟩ o H y F λf hf=>by have:=P.args f hf;omega) ?_;refine gG ?_;cases r:HQ c (CU d o)with
   |false=>
    have e:Kr d c=(⟨0,0⟩,fF):=by rw[Kr,JM];rw[a];simp only[g,k,y,j,r];simp
    rw[e];exact call (AZ5 I c ⟨sM ⟨b,s,nO⟩,E,fl,V,W,X,Y,Z,tl⟩ (CU d o) f a r oG oG h)<|gG<|dn [] ⟨(),I,rfl,AB.le_refl _,trivial⟩
   |true=>
    have e:Kr d c=(o,tT):=by rw[Kr,JM];rw[a];simp only[g,k,y,j,r];simp
    rw[e];exact Cz (AAU I c ⟨sM ⟨b,s,nO⟩,E,fl,V,W,X,Y,Z,tl⟩ (CU d o) f a r oG oG h) λq J hle hq=>gG<|dn [] ⟨(),J,rfl,hle,trivial⟩
  have e:Kr d c=(⟨0,0⟩,fF):=by rw[Kr,JM];rw[a];simp only[g];rw[Jh oG]
  rw[e,show decide (f.pc<lN l.code)=fF from Gp n];exact gG<|dn [] ⟨(),I,rfl,AB.le_refl _,trivial⟩;have e:Kr d c=(⟨0,0⟩,fF):=by rw[Kr,JM];rw[a];simp only;rw[Jh oG]
  rw[e,show decide (f.fn<lN d.Ax)=fF from Gp m];exact gG<|dn [] ⟨(),I,rfl,AB.le_refl _,trivial⟩
def AcY:AA AF:=[.int iK 1,.int iK 2,.int iK 3,.int iK 4,.int iK 5,.int iK 6,.int iK 7,.int iK 8,.int iK 9,.int iK 10,.int iK 11,.int iK 12,.int iK 13,.int iK 14,.int iK 15,.int iK 16,.int iK 17,.int iK 18,.int iK 19,.int iK 20,.int iK 21,.int iK 22,.int iK 23,.int iK 24,.int iK 31,.int iK 44,.int iK 47]
def AcZ:AA SV:=[.fn (.func 201) [.p 1 0] [],.fn (.func 202) [.p 1 0] [],.fn (.func 203) [.p 1 0] [],.fn (.func 204) [.p 1 0] [],.fn (.func 205) [.p 1 0] [],.fn (.func 206) [.p 1 0] [],.fn (.func 207) [.p 1 0] [],.fn (.func 207) [.p 1 0] [],.fn (.func 207) [.p 1 0] [],.fn (.func 207) [.p 1 0] [],.fn (.func 207) [.p 1 0] [],.fn (.func 208) [.p 1 0] [],.fn (.func 207) [.p 1 0] [],.fn (.func 209) [.p 1 0] [],.fn (.func 210) [.p 1 0] [],.fn (.func 211) [.p 1 0] [],.fn (.func 212) [.p 1 0] [],.fn (.func 213) [.p 1 0] [],.fn (.func 214) [.p 1 0] [],.fn (.func 215) [.p 1 0] [],.fn (.func 216) [.p 1 0] [],.fn (.func 217) [.p 1 0] [],.fn (.func 218) [.p 1 0] [],.fn (.func 219) [.p 1 0] [],.fn (.func 220) [.p 1 0] [],.fn (.func 221) [.p 1 0] [],.fn (.func 222) [.p 1 0] []]
def APu(I:AB)(m:AK):zP:=λa h=>h= {r:=.m a,AV:=[(1,m)],nb:=[.Ey AcY AcZ],J:=I}
def Acd(I)(m:CS):Fn 151 [.p 1 0] [(1,m.B3)] I (APu I m.B3) nO:=fo func151 λρ b w a=>gG<|dn [108] rfl
variable{F:FuncId}{fn:Func}{n:Nat}{w:World}{ρ:Nat->Nat}{A:List Nat}{R:Ec}{f:Bv}
structure O8(I:AB)(im:A6)(ip:Dw)(c:Ay)(p:DL):Prop where
 tab:EB I
 pow:Pow I
 img:FJ I im ip
 ok:ABx im
 len:Kf c
 Gv:C0 I c p
 As:∀v∈c.stack,WV v
 Ai:∀f∈c.AG,lN f.Ai<=1000000
abbrev Zp(d:A6)(b:Dw)(c:Ay)(p:DL)(e g k a:Nat):CS:=⟨b.ka,lN d.DN,b.kc,b.ua,lN d.Ax,b.uc,c,p,⟨[],[],[]⟩,⟨nO,0,[],nO,0,[],nO,0,[]⟩,k,a,nO,0,0,e,g,0,AZ,0,0,fF,0⟩
abbrev Zq(d:A6)(b:Dw)(c:Ay)(p:DL)(g m k a:Nat)(e:Ay)(h:DL)(i:AU Au)(l j:Nat):CS:=⟨b.ka,lN d.DN,b.kc,b.ua,lN d.Ax,b.uc,c,p,e,h,k,a,i,l,j,g,m,0,AZ,0,0,fF,0⟩
structure QG(im:A6)(c:Ay)(o:Lz.Op)(f:Cw)(fn:Lz.Ev):Prop where
 top:c.top=sM f
 F4:im.Ax[f.fn]? =sM fn
 op:fn.code[f.pc]? =sM o
 right:IY o
 UY:Iq im f o
 pop:HQ c (CU im o)
def AUA{d c o}(h:JM d c=sM o):∃f fn,QG d c o f fn:=by rw[JM]at h;split at h;cases h;rename_i f e;split at h;cases h;rename_i fn b;split at h;cases h;rename_i i g;split at h;rename_i a;cases h;simp[CJ]at a;exact⟨f,fn,e,b,g,a.1.1,a.1.2,a.2⟩;cases h
def QG.Ub{a c o f fn}(h:QG a c o f fn):CU a o=(Ct c<|CU a o).length:=by have:=h.pop;simp[HQ,Bool.and_eq_true,decide_eq_true_eq]at this;rw[N1 oG]
def QG.at_{a c o f fn}(h:QG a c o f fn){i}(b:i<CU a o):(Ct c<|CU a o)[i]? =sM ((Ct c<|CU a o).getD i AZ):=ZD (by rwa[<-h.Ub])
def O8.up{I J a b c p}(S:O8 I a b c p)(hle:I.le J):O8 J a b c p:=⟨S.tab.up hle,S.pow.up hle,S.img.up hle,S.ok,S.len,S.Gv.up hle,S.As,S.Ai⟩
def ACR{I b e c p}(S:O8 I b e c p){k a f fn}(h:QG b c ⟨k,a⟩ f fn)(g i):Fn 152 [.p 1 0] [(1,(Zp b e c p g i k a).B3)] I (X9 I (Zp b e c p g i k a) (Fl b c ⟨k,a⟩) (CU b ⟨k,a⟩)<|Ct c<|CU b ⟨k,a⟩) nO:=by have hlen:=S.ok.code fn<|De h.F4;have l:=(Ci.1 h.op).1;refine AQr I S.tab b e (Zp b e c p g i k a) f ⟨k,a⟩ S.img rfl rfl rfl rfl rfl rfl rfl rfl h.top oG (AN0 I S.tab b e ⟨k,a⟩ S.img h.right ?_ λf j=>by have:=S.ok.args f j;omega) h.pop S.len S.Gv;intro d;have d:k=17:=d;have:=h.UY;subst d;simpa[Iq,Cf]using this
def ACe{e m c tn i}(k)(h:Fn 152 [.p 1 0] [(1,m.B3)] e (X9 e m c tn i) nO)(d:FH f n 152 [(1,k)] [(1,m.B3)] [.p 1 0] e)
 (hnext:∀(J:AB)(q:DL)(ta:Option Addr)(tc:Nat)(g:List Value)(b:Nat)(fl a:List Value),e.le J->Av J F9 5 c.stack q.sa q.sc q.sl->Av J Oy 3 c.AP q.ta q.tc q.tl->GY J c b fl a->F3 J i ta tc g->
   At F fn n I w ρ A R (f.out (BA [(1,k)]) {r:=.t [],AV:=[(1,({m with c:=c,p:=q,ta:=ta,tn:=tn,tc:=tc}:CS).NM (EL f) b)],nb:=[.As (fl++a) 65],J:=J})):At F fn n I w ρ A R f:=
 A0 h [(1,k)] (hobs:=d) λh u=>by obtain⟨J,q,ta,tc,g,b,fl,a,j,l,o,s,t,rfl⟩:=u;exact hnext J q ta tc g b fl a j l o s t
def ACi{d:Type}{a:AA SV}{c:AB}{G:Ba}{m:AK}{S:d->CS}{Q:AB->d->Prop}(k:Nat)(h:Fn G a [(1,m)] c (YE c S Q) nO)(b:FH f n G [(1,k)] [(1,m)] a c)(hnext:∀x J,c.le J->Q J x->At F fn n I w ρ A R (f.out (BA [(1,k)]) {r:=.t [],AV:=[(1,(S x).B3)],J:=J})):At F fn n I w ρ A R f:=
 A0 h [(1,k)] (hobs:=b) λh e=>by obtain⟨x,J,rfl,hle,q⟩:=e;exact hnext x J hle q
def begun{J K:AB}{c:Ay}{q:DL}{d b fl a}(e:Av J F9 5 c.stack q.sa q.sc q.sl)(g:Av J Oy 3 c.AP q.ta q.tc q.tl)(i:GY J c d fl a)(hle:J.le K)(j:K b=sM (.cells (fl++a).toArray 65 (0,0))):C0 K c {q with fa:=sM ⟨b,0,nO⟩,fc:=d,fl:=fl}:=
 ⟨(i.up hle).B4 j,e.up hle λ_ _ h=>h,g.up hle λ_ _ h=>h⟩
def AHi(a c o):lN (Fl a c o).stack<=lN c.stack/\lN (Fl a c o).AG=lN c.AG/\lN (Fl a c o).AP=lN c.AP:=by simp[Fl,D4,FR]
def AHj{im c f}(h:c.top=sM f){o}:(Fl im c o).top=sM {f with pc:=f.pc+1}:=by show(c.AG.modify (lN c.AG-1) _).getLast?=_;rw[P8,N8,RP,SD (l:=c.AG) (x:=f) h];simp
abbrev AP2(I:AB)(im:A6)(i:Dw)(c:Ay)(p:DL)(a b:Nat)(r:Ay×Lz.Out):Prop:=Fn 102 [.g<|Fa im i,.g<|Dx c p,.v<|nV a,.v<|nV b] [] I (YH I r) nO
variable{i:Dw}{c:Ay}{p:DL}
def O8.Aj{k a f n q l m r}(S:O8 I im i c p)(hF:QG im c ⟨k,a⟩ f n)(b:C0 I (Fl im c ⟨k,a⟩) q)(j:F3 I (Ct c<|CU im ⟨k,a⟩) l m r)(o s):Hb I im (Zq im i c p o s k a (Fl im c ⟨k,a⟩) q l (CU im ⟨k,a⟩) m) {f with pc:=f.pc+1} (Ct c<|CU im ⟨k,a⟩):=by have g:=AHi im c ⟨k,a⟩;have e:=S.len;refine⟨S.pow,⟨_,S.img.k⟩,rfl,⟨_,S.img.u⟩,rfl,b,AHj hF.top,⟨_,j⟩,hF.Ub,λv h=>S.As v<|Mx h,Ch g.1 e.s,g.2.1▸e.f,g.2.2▸e.t,hF.UY,hF.Ub.symm,λh=> ?_⟩;have h:k=17:=h;subst h;have d:a<lN im.Ax:=LO hF.UY;have h:=S.ok.args _<|DR d;rw[<-hF.Ub];show 0+(im.Ax.getD a Al).args<=1000;rw[DK,BS d];show 0+im.Ax[a].args<=1000;omega
def AZX{k a f x q m n d o fl b}(S:O8 I im i c p)(hF:QG im c ⟨k,a⟩ f x)(l:F3 I (Ct c<|CU im ⟨k,a⟩) m n o)(e:GY I (Fl im c ⟨k,a⟩) d fl b)(s r)
 (h:k=3\/k=15\/k=44\/k=16/\((Ct c<|CU im ⟨k,a⟩).getD 0 AZ).kind=1/\((Ct c<|CU im ⟨k,a⟩).getD 0 AZ).n≠0):
 ∃t,HU im (Fl im c ⟨k,a⟩) ⟨k,a⟩ (Ct c<|CU im ⟨k,a⟩) r=.inl (D4 (Fl im c ⟨k,a⟩) t)/\Fn (stepG k) [.p 1 0] (Pk (Zq im i c p s r k a (Fl im c ⟨k,a⟩) q m (CU im ⟨k,a⟩) n) d<|fl++b) I (Re I (Zq im i c p s r k a (Fl im c ⟨k,a⟩) q m (CU im ⟨k,a⟩) n) d<|D4 (Fl im c ⟨k,a⟩) t) nO:=by
 have z:=AHi im c ⟨k,a⟩;have g:=AHj (im:=im) hF.top (o:=⟨k,a⟩);have j:lN (Fl im c ⟨k,a⟩).AG<=1000000:=by have:=S.len.f;omega
 have w:=λh=>hF.at_ (i:=0) h;rcases h with rfl|rfl|rfl|⟨rfl,u,v⟩;exact⟨_,rfl,AcM I _ d fl b {f with pc:=f.pc+1} _ o _ l hF.Ub (w<|LO rfl) g (LO hF.UY) (S.Ai f<|ABj hF.top) e j⟩;exact⟨_,rfl,AJ7 I _ d fl b {f with pc:=f.pc+1} g e j⟩;exact⟨_,rfl,AXQ I _ d fl b {f with pc:=f.pc+1} g e j (by have:a<=65535:=(SR hF.right).2.2 (by show Cf 44≠0;decide);show a<=_;omega)⟩;exact⟨_,(Ac u).trans<|Ac v,AWK I _ d fl b {f with pc:=f.pc+1} _ o _ l hF.Ub (w<|LO rfl) u v g e j⟩
def AcG(S:O8 I im i c p)(m tr):AP2 I im i c p m tr (Es im c m tr):=by
 have H:=AT9 I S.tab im i c p S.img S.ok S.len S.Gv;rw[Kr]at H;refine fo func102 λρ x w ab=>gG ?_;cases l:JM im c with
 |none=>
  rw[l]at H;rw[show Es im c m tr=(c,.failed<|BH (-6)) by rw[Es];rw[l]];exact Cz H λ_ J hle _=>gG<|call (U9 J (-6))<|gG<|dn [] ⟨p,J,rfl,hle,S.Gv.up hle⟩
 |some o=>
  rw[l]at H;let⟨f,fn,hF⟩:=AUA l;have W:=(SR hF.right).1;let⟨k,a⟩:=o;obtain⟨r,F⟩:∃r,r=HU im (Fl im c ⟨k,a⟩) ⟨k,a⟩ (Ct c<|CU im ⟨k,a⟩) tr:=⟨_,rfl⟩;rw[show Es im c m tr=if asks k then(c,.asked ⟨k,a⟩)else if k=18 then(if(Ei c).AG.length<=m then(Ei c,.ended<|(Ct c 1).getD 0 AZ)else(Df (Ei c)<|(Ct c 1).getD 0 AZ,.Iu))else match r with| .inl u=>(u,.Iu)| .inr e=>FF c e tr by rw[Es];rw[l,F];rfl];simp only at W;refine Cz H λ_ J hle _=> ?_;replace S:=S.up hle;refine gg [(29,OU J #[3,3] m 0 m oG),(31,OU J #[3,3] tr 0 tr oG)]<|A0 (Acd J<|Zp im i c p m tr k a) [(1,284)] ?_;rintro _ rfl;cases Y:asks k with
  |true=>
   rw[Ac rfl];have hk:k=25\/k=26\/k=27\/k=28\/k=29\/k=30\/k=32\/k=33\/k=34\/k=35\/k=36\/k=37\/k=38\/k=39\/k=40\/k=41\/k=42\/k=43\/k=45\/k=46:=by simpa[asks]using Y
   rcases hk with rfl|rfl|rfl|rfl|rfl|rfl|rfl|rfl|rfl|rfl|rfl|rfl|rfl|rfl|rfl|rfl|rfl|rfl|rfl|rfl<;>
   .exact gG<|dn [] ⟨p,J,rfl,hle,S.Gv⟩
  |false=>
   rw[AY AGH];by_cases y:k=18;rw[Ac y];subst y;refine gG<|ACe 284 (ACR S hF m tr) kR λO q ta tc tl D fl n g R T A B=>go func102 [] 1 kR<|B4 404 O (vs:=fl++n) (e:=65) λb K d _ P=>gG ?_;have x:=AZI (I:=K) (Zq im i c p m tr 18 a (Fl im c ⟨18,a⟩) {q with fa:=sM ⟨b,0,nO⟩,fc:=D,fl:=fl} ta (CU im ⟨18,a⟩) tc) f hF.top hF.pop S.len<|S.Gv.up<|g.trans d;by_cases Q:lN (Ei c).AG<=m;rw[Ac Q];rw[AMp Q]at x;exact ACi 284 x kR λq3 C j s=>gG<|dn [] ⟨q3,C,rfl,hle.trans<|g.trans<|d.trans j,s⟩;rw[AY Q];rw[AMo Q]at x;exact ACi 284 x kR λq3 C j s=>gG<|dn [] ⟨q3,C,rfl,hle.trans<|g.trans<|d.trans j,s⟩;rw[AY y];by_cases E:k=3\/k=15\/k=44\/k=16/\((Ct c<|CU im ⟨k,a⟩).getD 0 AZ).kind=1/\((Ct c<|CU im ⟨k,a⟩).getD 0 AZ).n≠0;have Z:=E;rcases E with rfl|rfl|rfl|⟨rfl,_⟩<;>
   .refine gG<|ACe 284 (ACR S hF m tr) kR λO q ta tc tl D fl n g R T A B=> ?_;let⟨t,e',hk⟩:=AZX (q:=q) (S.up g) hF B A m tr Z;rw[<-F]at e';cases e';refine gG<|A0 hk [(1,284),(2,404)] ?_;rintro _ ⟨C,U,G,j,X,rfl⟩;refine go func102 [] 1 kR<|B4 404 C (vs:=U++G) (e:=65) λb K d _ P=> ?_;have L:=begun (c:=D4 (Fl im c _) t) (R.up j λ_ _ h=>h) (T.up j λ_ _ h=>h) X d P;exact gG<|dn [] ⟨_,K,rfl,hle.trans<|g.trans<|j.trans d,L⟩
   have h3:k≠3/\k≠15/\k≠44:=⟨λh=>E<|.inl h,λh=>E<|.inr<|.inl h,λh=>E<|.inr<|.inr<|.inl h⟩;have hm:k∈[1,2,4,5,6,7,8,9,10,11,12,13,14,16,17,19,20,21,22,23,24,31,47]:=by have:=EQ.1 (show(lR 48).all (λk=>k==0||asks k||[3,15,18,44].contains k||[1,2,4,5,6,7,8,9,10,11,12,13,14,16,17,19,20,21,22,23,24,31,47].contains k)=tT from dC) k<|O4.2 oG;simp[Y]at this⊢;omega
   have V:k=16->¬(((Ct c<|CU im ⟨k,a⟩).getD 0 AZ).kind=1/\((Ct c<|CU im ⟨k,a⟩).getD 0 AZ).n≠0):=λh q=>E<|.inr<|.inr<|.inr ⟨h,q⟩;have N:=hm;simp[mS]at N;rcases N with rfl|rfl|rfl|rfl|rfl|rfl|rfl|rfl|rfl|rfl|rfl|rfl|rfl|rfl|rfl|rfl|rfl|rfl|rfl|rfl|rfl|rfl|rfl<;>
   .refine gG<|ACe 284 (ACR S hF m tr) kR λO q ta tc tl D fl n g R T A B=>go func102 [] 1 kR<|B4 404 O (vs:=fl++n) (e:=65) λb K d _ P=> ?_;have hk:=Aj ((S.up<|g.trans d).Aj hF (begun R T A d P) (B.up d λ_ _ h=>h) m tr) hm V;replace hk:=F▸hk;refine gG<|ACi 284 hk kR λq3 C j s=> ?_;cases r with
    |inl u=>
     exact gG<|dn [] ⟨q3,C,rfl,hle.trans<|g.trans<|d.trans j,s _ rfl⟩
    |inr e=>
     have F:=AMX C c p e tr S.len<|S.Gv.up<|g.trans<|d.trans j;show At _ _ _ _ _ _ _ (Ends _ _ _ _ _ (YH I<|FF c e tr) nO) _;refine gG ?_;generalize FF c e tr=z at F⊢;refine Cz F λq4 J4 M aa=> ?_;obtain⟨u,_|v|v|o⟩:=z<;>
     .exact gG<|dn [] ⟨q4,J4,rfl,hle.trans<|g.trans<|d.trans<|j.trans M,aa⟩
def H9(w:Wt):AA AF:=[vS<|Aa w.id,vB w.put,.int iK w.v.kind,.int iK w.v.n,vS<|Aa w.v.name,vS<|AJ w.v.l.1,vS<|AJ w.v.l.2]
def wtS(w:Wt):SV:=.g<|(H9 w).map .v
def S3(w:Wt)(l:AA AF):Prop:=l=H9 w
def Mt(w l)(h:S3 w l):lN l=7:=by rw[h];rfl
def Wx{c l}(h:Rows S3 c l):∀v∈l,v.oneCell':=by rw[Rows.flat.1 h];intro v b;let⟨x,_,a⟩:=LJ.1 b;simp[H9]at a;rcases a with rfl|rfl|rfl|rfl|rfl|rfl|rfl<;>rfl
abbrev Nj(I:AB)(d:AA Wt)(a:AU Au)(c:Nat)(b:AA AF):Prop:=Av I S3 7 d a c b
def AaG(I x):Fn 355 [wtS x] [] I (BW (.v<|vB x.put) I) nO:=fo func355 λc b w a=>gG<|fi
def Acj(I x):Fn 356 [wtS x] [] I (BW (.v<|vB<|!x.put) I) nO:=fo func356 λc b w a=>gG<|fi
abbrev WS(n:Nm):AK:=.cells [.v<|sV n] 9
theorem TY{a b}(c:BV a)(d:BV b):((AJ<|Dm a).toList==(AJ<|Dm b).toList)=(a==b):=by rw[Jc,Jc];by_cases h:a=b;rw[h];simp;rw[Nf.2 λe=>h<|Of c d e,Nf.2 h]
def AVG(I x n)(c:BV x.id)(b:BV n):Fn 194 [wtS x,.p 2 0] [(2,WS n)] I (BW (.v<|vB<|x.id==n) I) nO:=by refine Fn.same (need:=[(2,WS n)]) ?_ rfl;exact fo func194 λe d w a=>gg [(7,.eq _ _<|Dt Value.bool<|TY c b)]<|dn [] rfl
def ixI:AU Nat->Int
 |none=> -1
 |some i=>i
def ADP{P}{l:AA Wt}{i x}(e:l[i]? =sM x)(d:P x)(b:∀(j:Nat)(y:Wt),j<i->l[j]? =sM y->P y=fF):l.findIdx? P=sM i:=by rw[Lv];obtain⟨a,rfl⟩:=Ci.1 e;exact⟨a,d,λj c=>by rw[b j _ c<|BS oG];decide⟩
def ADQ{P}{l:AA Wt}(a:∀(j:Nat)(y:Wt),l[j]? =sM y->P y=fF):l.findIdx? P=nO:=by rw[ABc];intro x c;let⟨j,b⟩:=ABd c;exact a j x b
def AT4(I:AB)(a:SV)(m:Nat)(i:Nat):Hd where
 Cd:=[(1,.v<|.func (.func 355) #[] #[]),(4,.v<|.int iK 0),(7,a),(8,.v<|iV m),(9,.v<|iV i)]
 Cc:=[]
 J:=I
def AT7(I)(d:AA Wt)(a)(c:Nat)(f)(h:Nj I d a c f)(v:lN d<=1000000):Fn 193 [.v<|.slice a (lN d) c,.v<|.func (.func 355) #[] #[]] [] I (BW (.v<|.int iK<|ixI<|d.findIdx? λw=>w.put) I) nO:=by
 refine fo func193 λz r w q=> ?_;refine gG<|loop (ι:=Nat) (λi=>i<=lN d/\∀(j:Nat)(y:Wt),j<i->d[j]? =sM y->(λw=>w.put) y=fF) (λi=>lN d-i) (AT4 I (.v<|.slice a (lN d) c)<|lN d) 300 [] 0 ⟨Bm _,λj y p=>absurd p oG⟩ ?_;rintro i ⟨u,o⟩ again T;by_cases k:i<lN d;have n:d[i]? =sM d[i]:=BS k;generalize d[i]=x at n;obtain⟨b,l,arr,e,t,s,rfl,q2,q3,q4,q5⟩:=h.cell Mt n;subst q3;refine gg [(10,tH i<|lN d),(12,Br I R0 b l (lN d) c i k),(13,D8 I AAi (l+i*7) (H9 x) rfl q2 q5)]<|call (AaG I x) ?_;cases m:(λw=>w.put) x with
 |true=>
  rw[ADP n m o];rw[show(x.put)=tT from m];exact gG<|fi
 |false=>
  rw[show(x.put)=fF from m];exact gg [(18,sH i)]<|bk again [] (i+1) ⟨oG,λj y p g=>by by_cases e:j=i;subst e;rw[n]at g;cases g;exact m;exact o j y oG g⟩
 rw[ADQ (P:=λw=>w.put) λj y g=>o j y (by have:=(Ci.1 g).1;omega) g];exact gg [(10,fH i<|lN d)]<|fi
def AUB(I:AB)(a:SV)(m:Nat)(i:Nat):Hd where
 Cd:=[(1,.v<|.func (.func 356) #[] #[]),(4,.v<|.int iK 0),(7,a),(8,.v<|iV m),(9,.v<|iV i)]
 Cc:=[]
 J:=I
def AT8(I)(d:AA Wt)(a)(c:Nat)(f)(h:Nj I d a c f)(v:lN d<=1000000):Fn 193 [.v<|.slice a (lN d) c,.v<|.func (.func 356) #[] #[]] [] I (BW (.v<|.int iK<|ixI<|d.findIdx? λw=> !w.put) I) nO:=by
 refine fo func193 λz r w q=> ?_;refine gG<|loop (ι:=Nat) (λi=>i<=lN d/\∀(j:Nat)(y:Wt),j<i->d[j]? =sM y->(λw=> !w.put) y=fF) (λi=>lN d-i) (AUB I (.v<|.slice a (lN d) c)<|lN d) 300 [] 0 ⟨Bm _,λj y p=>absurd p oG⟩ ?_;rintro i ⟨u,o⟩ again T;by_cases k:i<lN d;have n:d[i]? =sM d[i]:=BS k;generalize d[i]=x at n;obtain⟨b,l,arr,e,t,s,rfl,q2,q3,q4,q5⟩:=h.cell Mt n;subst q3;refine gg [(10,tH i<|lN d),(12,Br I R0 b l (lN d) c i k),(13,D8 I AAi (l+i*7) (H9 x) rfl q2 q5)]<|call (Acj I x) ?_;cases m:(λw=> !w.put) x with
 |true=>
  rw[ADP n m o];rw[show(!x.put)=tT from m];exact gG<|fi
 |false=>
  rw[show(!x.put)=fF from m];exact gg [(18,sH i)]<|bk again [] (i+1) ⟨oG,λj y p g=>by by_cases e:j=i;subst e;rw[n]at g;cases g;exact m;exact o j y oG g⟩
 rw[ADQ (P:=λw=> !w.put) λj y g=>o j y (by have:=(Ci.1 g).1;omega) g];exact gg [(10,fH i<|lN d)]<|fi
def ATw(I:AB)(n:Nm)(a:SV)(m:Nat)(i:Nat):Hd where
 Cd:=[(1,.fn (.func 194) [] [.p 2 0]),(4,.v<|.int iK 0),(7,a),(8,.v<|iV m),(9,.v<|iV i)]
 Cc:=[(2,WS n)]
 J:=I
def AT6(I)(d:AA Wt)(a)(c:Nat)(f n)(s:BV n)(hid:∀x∈d,BV x.id)(h:Nj I d a c f)(A:lN d<=1000000):Fn 193 [.v<|.slice a (lN d) c,.fn (.func 194) [] [.p 2 0]] [(2,WS n)] I (TR I [(2,WS n)]<|.v<|.int iK<|ixI<|d.findIdx? λw=>w.id==n) nO:=by
 refine fo func193 λB t w r=> ?_;refine gG<|loop (ι:=Nat) (λi=>i<=lN d/\∀(j:Nat)(y:Wt),j<i->d[j]? =sM y->(λw=>w.id==n) y=fF) (λi=>lN d-i) (ATw I n (.v<|.slice a (lN d) c)<|lN d) 300 [] 0 ⟨Bm _,λj y q=>absurd q oG⟩ ?_;rintro i ⟨z,p⟩ again T;by_cases k:i<lN d;have l:d[i]? =sM d[i]:=BS k;generalize d[i]=x at l;obtain⟨b,m,arr,e,v,u,rfl,q2,q3,q4,q5⟩:=h.cell Mt l;subst q3;refine gg [(10,tH i<|lN d),(12,Br I R0 b m (lN d) c i k),(13,D8 I AAi (m+i*7) (H9 x) rfl q2 q5)]<|IG (AVG I x n (hid x<|De l) s) [(2,2)] ?_;cases o:(λw=>w.id==n) x with
 |true=>
  rw[ADP l o p];rw[show(x.id==n)=tT from o];exact gG<|dn [] rfl
 |false=>
  rw[show(x.id==n)=fF from o];exact gg [(18,sH i)]<|bk again [] (i+1) ⟨oG,λj y q g=>by by_cases e:j=i;subst e;rw[l]at g;cases g;exact o;exact p j y oG g⟩
 rw[ADQ (P:=λw=>w.id==n) λj y g=>p j y (by have:=(Ci.1 g).1;omega) g];exact gg [(10,fH i<|lN d)]<|dn [] rfl
def AGr(I:AB)(b:AA AF)(a i d:Nat):zP:=λ_ h=>∃Eh:AA AF,lN Eh=lN b-(i+d)*7/\h= {r:=.s 1 0 (i+d) a,AV:=[(1,.As (b.take (i*7)++(b.drop<|(i+1)*7).take (d*7)++Eh) 261)],J:=I}
def ASa(I e)(a i d:Nat)(g:lN e=a*7)(O:∀v∈e.take ((i+1+d)*7),v.oneCell')(q:i+1+d<=a)(C:a<=maxLen):
 Fn 276 [.s 1 0 (i+1+d) a,.v<|.int iK<|Int.ofNat i,.v<|.int iK<|Int.ofNat<|i+1] [(1,.As e 261)] I (AGr I e a i d) nO:=by
 rw[maxLen]at C;refine fo func276 λρ Q w L=> ?_;have G:=AXr Be (L:=Bt) (t:=83) (a:=8) (b:=9) (b2:=10) (b3:=12) (k:=1) (n:=i+1+d) (c:=a) (i:=i) (j:=i+1) (m:=i+1+d) (e:=261) (ty:=⟨7,_,_⟩) (I:=I) rfl rfl oG oG q;have K:=AK4 Be (L:=Bt) (t:=83) (a:=20) (b:=21) (k:=1) (n:=i+1+d) (c:=a) (i:=i) (e:=261) (ty:=⟨7,_,_⟩) (I:=I) rfl rfl oG;have y:=AKy Be (L:=Bt) (t:=83) (a:=23) (b:=24) (k:=1) (n:=i+1+d) (c:=a) (i:=i+1) (e:=261) (ty:=⟨7,_,_⟩) (I:=I) rfl rfl oG;rw[show i+1+d-(i+1)=d by omega]at y;obtain⟨o,t⟩:∃o,o=if a=i+1 then 0 else(i+1)*7:=⟨_,rfl⟩;rw[<-t]at y;have B:(e.drop o).take (d*7)=(e.drop<|(i+1)*7).take (d*7):=by by_cases h:a=i+1;have:d=0:=oG;subst this;simp;rw[t,AY h]
 refine gg [(13,.BZ _ _ [] I _ G),(16,hN (Int.ofNat i) (Int.ofNat<|i+1) sO),(22,.BZ _ _ [] I _ K),(25,.BZ _ _ [] I _ y)] ?_;refine act (need:=[(1,.As e 261)]) (AQO (I:=I) Be (n:=i) (m:=d) (cap:=a) (k:=1) (vs:=e) (news:=(e.drop<|(i+1)*7).take<|d*7) (x:=.s 1 o d<|a-(i+1)) Vf kR DT g (Aai DT B (by rw[Cu,Lw,g];omega) λv M=>O v<|by rw[show d*7=(i+1+d)*7-(i+1)*7 by omega,<-AGQ]at M;exact Mx M) oG) ?_ ?_;rintro h rfl;refine{r:=(λk s=>by simp[SV.A3]at s;simp[s]),u:=λP z=> ?_,n:=nA,l:=by simp,le:=AB.Hj _,d:=by simp};rw[A9.1 z];exact⟨A9.2 rfl,λb x=>by rw[(IC<|A9.1 x).2];rfl,nA⟩;rintro N rfl;have D:=AXq Be (L:=Bt) (t:=83) (a:=27) (b:=29) (b2:=30) (k:=1) (n:=i+d) (c:=a) (i:=i+d) (j:=i+1+d) (e:=261) (ty:=⟨7,_,_⟩) (I:=I) rfl rfl oG q;rw[AY oG,show i+1+d-(i+d)=1 by omega]at D;obtain⟨c,m⟩:∃c,c=e.take (i*7)++(e.drop<|(i+1)*7).take (d*7)++e.drop (i*7+d*7):=⟨_,rfl⟩;rw[<-m];have j:lN (e.take (i*7)++(e.drop<|(i+1)*7).take (d*7))=(i+d)*7:=by rw[CK,Cu,Cu,Lw,g];omega
 have E:lN c=lN e:=by rw[m,CK,j,Lw,g];omega
 refine gg [(31,.BZ _ _ [] I _ D)] ?_;refine act (need:=[(1,.As c 261)]) (AJt (I:=I) Be (L:=Bt) (t:=83) (k:=1) (off:=(i+d)*7) (n:=1) (c:=a-(i+d)) (x:=.tmp 31) (vs:=c) (e:=261) (e':=261) (ty:=⟨7,_,_⟩) kR kR rfl rfl (by decide+kernel) rfl dC (by rw[E,g];show(i+d)*7+1*7<=_;omega)<|A9.2 rfl) ?_ ?_;rintro h ⟨p,_,_,rfl⟩;refine{r:=nA,u:=λP z=> ?_,n:=nA,l:=by simp,le:=AB.Hj _,d:=by simp};rw[A9.1 z];exact⟨A9.2 rfl,λb x=>by rw[(IC<|A9.1 x).2];rfl,nA⟩;rintro N ⟨p,H,_,rfl⟩;refine gG<|dn [] ⟨p++c.drop ((i+d)*7+lN p),?_,?_⟩ (h:={r:=.s 1 0 (i+d) a,AV:=[(1,.As (BX c ((i+d)*7) p) 261)],J:=I});have:lN p=1*7:=H;rw[CK,Lw,E,g,this];omega;have:BX c ((i+d)*7) p=e.take (i*7)++(e.drop<|(i+1)*7).take (d*7)++(p++c.drop ((i+d)*7+lN p)):=by rw[BX];rw[m,<-j,TC,Eb]
 rw[this]
def AIT(I)(ad)(n c)(xs)(hc:n<=16777216)(h:Dk I 7 (some ad) n xs):Fn 134 [.v (.slice (some ad) n c)] [] I (Va I 7 n 261 xs) none:=by refine Ju 8 Tryz.func134 Tryz.ntmps134 rfl rfl kR λρ key w a=>gg [(4,.op I _ (.v (.bool false)) (MV (a:=some ad) (n:=n) (c:=c) (.tmp 3) (.const (.slice none 0 0)) AA9))]<|act (need:=[(124,.As [] 261)]) (Kk Be (n:=0) (cap:=0) (vs:=[]) (CQ:=[]) (x:=.v (.slice (some ad) n c)) Vf kR sP rfl rfl sP (h.reads (c:=c)) (Nat.le_refl _) (by unfold maxLen;omega) oG) (QO (.inr ⟨_,_,_,rfl,rfl⟩)) ?_;rintro h' ⟨cap,AE,h1,b,d,rfl⟩;refine gG ?_;exact dn [140] ⟨cap,AE,oG,b,by rw[d];simp,sP⟩ (h:={r:=.s (key+0) 0 (0+n) cap,nb:=[.As (xs++AE) 261],J:=I})
def ARp(I c):Fn 134 [.v<|.slice nO 0 c] [] I (BW (.v zS) I) nO:=Ju 8 func134 ntmps134 rfl rfl kR λρ b w a=>gg [(4,.op I _ (.v tV)<|MV (a:=nO) (n:=0) (c:=c) (.tmp 3) (.const zS) AA9)]<|fi
structure Em where
 a:AU Au
 c:Nat
 l:AA AF
abbrev AHD(I:AB)(a:AA Wt)(n:Nat):zP:=He I (λq:Em=>.v<|.slice q.a n q.c) λJ q=>Nj J a q.a q.c q.l
def AF8(I)(k:AA Wt)(a c g i)(x:i<lN k)(M:lN k<=1000000)(h:Nj I k a c g):Fn 195 [.v<|.slice a (lN k) c,.v<|iV i] [] I (AHD I (k.eraseIdx i)<|lN k-1) nO:=by
 have E:k[i]? =sM k[i]:=BS x;obtain⟨b,s,arr,e,K,H,rfl,q2,q3,q4,q5⟩:=h.cell Mt E;obtain⟨d,u⟩:∃d,lN k=i+1+d:=⟨lN k-(i+1),oG⟩;have hlen:=h.CE.len Mt;refine fo func195 λρ G w y=>gG<|PE (AIT I ⟨b,s,nO⟩ (lN k) c g oG h.sl) λl j L t C=> ?_;have p:∀v∈(g++j).take (lN k*7),v.oneCell':=by rw[O5 hlen];exact Wx h.CE
 refine gg [(9,sH i)] ?_;have o:Fn 276 [.s 1 0 (lN k) l,.v<|.int iK<|Int.ofNat i,.v<|.int iK<|Int.ofNat<|i+1] [(1,.As (g++j) 261)] I (AGr I (g++j) l i d) nO:=by rw[u];exact ASa I (g++j) l i d (by rw[CK,hlen,C];omega) (by rwa[<-u]) oG t
 refine A0 o [(1,116)] ?_;rintro _ ⟨Eh,N,rfl⟩;refine go func195 [] 2 kR ?_;have m:Rows S3 (k.eraseIdx i) (g.take (i*7)++(g.drop<|(i+1)*7).take (d*7)):=by rw[List.eraseIdx_eq_take_drop_succ];refine(h.CE.take Mt i).append ?_;have:=h.CE.drop Mt<|i+1;rwa[Na<|by rw[Lw,hlen];omega]
 have z:(g++j).take (i*7)=g.take (i*7):=Ji oG;have B:((g++j).drop<|(i+1)*7).take (d*7)=(g.drop<|(i+1)*7).take (d*7):=by rw[VI oG,Ji<|by rw[Lw];omega]
 have q:lN (k.eraseIdx i)=i+d:=by rw[ABf x];omega
 rw[z,B];refine B4 116 I (vs:=g.take (i*7)++(g.drop<|(i+1)*7).take (d*7)++Eh) (e:=261) λb J hle _ D=>gG<|dn [] ⟨⟨sM ⟨b,0,nO⟩,l,_⟩,J,by rw[show lN k-1=i+d by omega],hle,Av.Ky D m Mt (Wx m) (by rw[q];show i+d<=l;omega) t⟩
def AOk(I j a c d x)(K:lN j<=1000000)(h:Nj I j a c d):Fn 354 [.v<|.slice a (lN j) c,wtS x] [] I (AHD I (j++[x])<|lN j+1) nO:=by
 have hlen:=h.CE.len Mt;have g:Rows S3 (j++[x]) (d++H9 x):=h.CE.append<|Rows.one rfl;have l:∀v∈H9 x,v.oneCell':=SQ rfl;refine fo func354 λρ E w t=> ?_;cases a with
 |none=>
  have B:lN j=0:=h.sl.at_.elim id λ⟨b,G,arr,e,H,h,_⟩=>by cases h
  have p:j=[]:=Ib B;subst p;have r:d=[]:=h.CE;subst r;refine gG<|call (ARp I c)<|gG<|act (need:=[(140,.cells ((H9 x).map .v) 261)]) (MM (I:=I) Be (n:=0) (l:=.v zS) (x:=.s 140 0 1 1) (CQ:=[]) (news:=H9 x) Vf kR rfl Ol (Ez (e:=261) (A9.2 rfl) rfl l) (Ag _) oG (λ_=>rfl) oG) M4 ?_;rintro z ⟨k,i,u,s,r3,rfl⟩;exact go func354 [] 2 kR<|B4 148 I (vs:=[]++H9 x++i) (e:=261) λb J hle _ q=>gG<|dn [] ⟨⟨sM ⟨b,0,nO⟩,k,_⟩,J,rfl,hle,Av.Ky q g Mt (Wx g) (by show 0+1<=k;omega) s⟩
 |some y=>
  refine gG<|PE (AIT I y (lN j) c d oG h.sl) λk i p C D=>gG<|act (need:=[(124,.As (d++i) 261),(140,.cells ((H9 x).map .v) 261)]) (Kk (I:=I) Be (n:=lN j) (x:=.s 140 0 1 1) Vf kR DT (by rw[CK,hlen,D];omega) (O5 hlen) (Wx h.CE) (Ez (e:=261) sP rfl l) p C oG) (QP rfl) ?_;rintro z ⟨o,m,u,s,r3,rfl⟩;exact go func354 [] 2 kR<|B4 148 I (vs:=d++H9 x++m) (e:=261) λb J hle _ q=>gG<|dn [] ⟨⟨sM ⟨b,0,nO⟩,o,_⟩,J,rfl,hle,Av.Ky q g Mt (Wx g) (by rwa[CK]) s⟩
def Ms(x:Vr)(q:Em):SV:=.g [.v<|vB x.full,.v<|nV x.v.kind,.v<|nV x.v.n,.v<|sV x.v.name,.v<|vS<|AJ x.v.l.1,.v<|vS<|AJ x.v.l.2,.v<|.slice q.a (lN x.q) q.c]
def ML(I:AB)(x:Vr)(q:Em):Prop:=Nj I x.q q.a q.c q.l
def ML.up{I J x q}(h:ML I x q)(hle:I.le J):ML J x q:=Av.up h hle λ_ _ h=>h
abbrev APv(I:AB)(r:Vr×AU AW×Nm):zP:=He I (λq:Em=>.t [Ms r.1 q,Do<|r.2.1.getD AZ,.v<|vB r.2.1.isSome,.v<|sV r.2.2]) λJ q=>ML J r.1 q
def Ace(I x q g)(A:lN x.q<=900000)(h:ML I x q):Fn 309 [Ms x q,.v<|sV g] [] I (APv I<|GN x g) nO:=by
 let⟨full,v,d⟩:=x;let⟨a,c,cells⟩:=q;have h:Nj I d a c cells:=h;simp only at A;have k:lN d<=1000000:=oG;refine fo func309 λK C w p=> ?_;cases full with
 |false=>
  have e:GN ⟨fF,v,d⟩ g=(⟨fF,v,d++[⟨g,fF,AZ⟩]⟩,nO,[]):=rfl;rw[e];refine gG<|Cz (AOk I d a c cells ⟨g,fF,AZ⟩ k h) λq J hle o=>gG ?_;have el:lN (d++[(⟨g,fF,AZ⟩:Wt)])=lN d+1:=sP;refine dn [] ⟨q,J,by unfold Ms;simp only[el];rfl,hle,o⟩
 |true=>
  refine gG<|call (AT7 I d a c cells h k) ?_;cases n:d.findIdx? (λw=>w.put)with
  |none=>
   have e:GN ⟨tT,v,d⟩ g=(⟨fF,AZ,d⟩,sM v,[]):=by unfold GN;simp only[AGJ,N7,Hq];rw[show d.findIdx? (·.put)=nO from n]
   rw[e];refine gg [(27,hT ((-1:Int)<0) dC)]<|KR (Yk I a (lN d) c cells oG h.sl) λt m J hle E F G=>gG<|dn [] ⟨⟨t,m,cells⟩,J,rfl,hle,⟨G,E,F,h.CE⟩⟩
  |some i=>
   have l:i<lN d:=(Lv.1 n).1;have e:GN ⟨tT,v,d⟩ g=(⟨tT,(d.getD i Al).v,d.eraseIdx i⟩,sM v,(d.getD i Al).id):=by unfold GN;simp only[AGJ,N7,Hq];rw[show d.findIdx? (·.put)=sM i from n]
   have s:d[i]? =sM (d.getD i Al):=by rw[BS l,DK,BS l];rfl
   rw[e];generalize d.getD i Al=y at s;obtain⟨b,f,arr,el,H,D,rfl,q2,q3,q4,q5⟩:=h.cell Mt s;subst q3;have B:∀j u,(BG y.v)[j]? =sM u->arr[f+i*7+2+j]? =sM u:=λj u z=>by have:=q5 (2+j) u (by rw[Nat.add_comm];exact z);rw[<-Nb]at this;exact this
   have el:lN (d.eraseIdx i)=lN d-1:=ABf l;refine gg [(27,hF<|(i:Int)<0),(37,Br I R0 b f (lN d) c i l),(39,D8 I Oo (f+i*7+2) (BG y.v) rfl q2 B),(50,Br I R0 b f (lN d) c i l),(52,ED I ABA rfl (f+i*7) _ q2<|q5 0 _ rfl)]<|Cz (AF8 I d (aO b f) c cells i l k h) λq J hle o=>gG ?_;refine dn [] ⟨q,J,by unfold Ms;simp only[el];rfl,hle,o⟩
abbrev APn(I:AB)(r:Vr×Bool×Nm):zP:=He I (λq:Em=>.t [Ms r.1 q,.v<|vB r.2.1,.v<|sV r.2.2]) λJ q=>ML J r.1 q
def AaD(I x q f u)(t:lN x.q<=900000)(h:ML I x q):Fn 311 [Ms x q,.v<|sV f,Do u] [] I (APn I<|Gg x f u) nO:=by
 let⟨full,v,d⟩:=x;let⟨a,c,cells⟩:=q;have h:Nj I d a c cells:=h;simp only at t;have g:lN d<=1000000:=oG;refine fo func311 λF z w o=> ?_;cases full with
 |true=>
  have e:Gg ⟨tT,v,d⟩ f u=(⟨tT,v,d++[⟨f,tT,u⟩]⟩,fF,[]):=rfl;rw[e];refine gG<|Cz (AOk I d a c cells ⟨f,tT,u⟩ g h) λq J hle n=>gG ?_;have el:lN (d++[(⟨f,tT,u⟩:Wt)])=lN d+1:=sP;refine dn [] ⟨q,J,by unfold Ms;simp[el],hle,n⟩ (h:={r:=.t [.g [.v tV,.v<|nV v.kind,.v<|nV v.n,.v<|sV v.name,.v<|vS<|AJ v.l.1,.v<|vS<|AJ v.l.2,.v<|.slice q.a (lN d+1) q.c],.v fV,.v<|vS<|Aa []],J:=J})
 |false=>
  refine gG<|call (AT8 I d a c cells h g) ?_;cases l:d.findIdx? (λw=> !w.put)with
  |none=>
   have e:Gg ⟨fF,v,d⟩ f u=(⟨tT,u,d⟩,tT,[]):=by unfold Gg;simp[N7,Hq];rw[show d.findIdx? (λw=> !w.put)=nO from l]
   rw[e];refine gg [(27,hT ((-1:Int)<0) dC)]<|KR (Yk I a (lN d) c cells oG h.sl) λs m J hle B C D=>gG<|dn [] ⟨⟨s,m,cells⟩,J,rfl,hle,⟨D,B,C,h.CE⟩⟩
  |some i=>
   have k:i<lN d:=(Lv.1 l).1;have e:Gg ⟨fF,v,d⟩ f u=(⟨fF,v,d.eraseIdx i⟩,tT,(d.getD i Al).id):=by unfold Gg;simp[N7,Hq];rw[show d.findIdx? (λw=> !w.put)=sM i from l]
   have p:d[i]? =sM (d.getD i Al):=by rw[BS k,DK,BS k];rfl
   rw[e];generalize d.getD i Al=y at p;obtain⟨b,j,arr,el,E,A,rfl,q2,q3,q4,q5⟩:=h.cell Mt p;subst q3;have el:lN (d.eraseIdx i)=lN d-1:=ABf k;refine gg [(27,hF<|(i:Int)<0),(45,Br I R0 b j (lN d) c i k),(47,ED I ABA rfl (j+i*7) _ q2<|q5 0 _ rfl)]<|Cz (AF8 I d (aO b j) c cells i k g h) λq J hle n=>gG ?_;refine dn [] ⟨q,J,by unfold Ms;simp[el],hle,n⟩ (h:={r:=.t [.g [.v fV,.v<|nV v.kind,.v<|nV v.n,.v<|sV v.name,.v<|vS<|AJ v.l.1,.v<|vS<|AJ v.l.2,.v<|.slice q.a (lN d-1) q.c],.v tV,.v<|sV y.id],J:=J})
abbrev APg(I:AB)(r:Vr×Bool):zP:=He I (λq:Em=>.t [Ms r.1 q,.v<|vB r.2]) λJ q=>ML J r.1 q
def AXD(I x q d)(o:BV d)(hid:∀y∈x.q,BV y.id)(n:lN x.q<=900000)(h:ML I x q):Fn 144 [Ms x q,.v<|sV d] [] I (APg I ((KV x d).getD x,(KV x d).isSome)) nO:=by
 let⟨full,v,b⟩:=x;let⟨a,c,cells⟩:=q;have h:Nj I b a c cells:=h;simp only at n hid;have f:lN b<=1000000:=oG;refine fo func144 λA s w k=>gG<|OK (AT6 I b a c cells d o hid h f) rfl [(2,108)] ?_;cases g:b.findIdx? (λw=>w.id==d)with
 |none=>
  have e:KV ⟨full,v,b⟩ d=nO:=by unfold KV;simp[g]
  rw[e];exact gg [(12,hT ((-1:Int)<0) dC)]<|KR (Yk I a (lN b) c cells oG h.sl) λl m J hle t u z=>gG<|dn [] ⟨⟨l,m,cells⟩,J,rfl,hle,⟨z,t,u,h.CE⟩⟩
 |some i=>
  have j:i<lN b:=(Lv.1 g).1;have e:KV ⟨full,v,b⟩ d=sM ⟨full,v,b.eraseIdx i⟩:=by unfold KV;simp[g]
  have el:lN (b.eraseIdx i)=lN b-1:=ABf j;rw[e];refine gg [(12,hF<|(i:Int)<0)]<|Cz (AF8 I b a c cells i j f h) λq J hle p=>gG ?_;exact dn [] ⟨q,J,by unfold Ms;simp[Option.getD,Option.isSome,el],hle,p⟩ (h:={r:=.t [.g [.v<|vB full,.v<|nV v.kind,.v<|nV v.n,.v<|sV v.name,.v<|vS<|AJ v.l.1,.v<|vS<|AJ v.l.2,.v<|.slice q.a (lN b-1) q.c],.v tV],J:=J})
def Vw(p n)(a:CB p):child p n=if CB (p++[n])then some (p++[n])else none:=by
 have e:CB (p++[n])=(decide (p.length<24)&&decide (n<=999)):=by simp only[CB,Bool.and_eq_true,decide_eq_true_eq]at a;simp only[CB,List.length_append,List.length_singleton,List.all_append,List.all_cons,List.all_nil,Bool.and_true,a.2,Bool.true_and];have b:decide (0<p.length+1):=sP;rw[b,Bool.true_and];congr 1
 rw[child];rw[a,Bool.true_and,e]
def I7(t:AL):AL×Nm×Bool:=match GI t with|some (u,n)=>(u,n,tT)|none=>(t,[],fF)
def Z6(I)(h:Pow I)(t a)(f:CB t.Bg)(j:t.A7<=1000000)(k:t.Ao<=1000000):Fn 357 [.g<|Dr t a] [] I (BW (.t [.g<|Dr (I7 t).1 a,.v<|vS<|Aa (I7 t).2.1,.v<|vB (I7 t).2.2]) I) nO:=by
 have d:=ARb I h t.Bg t.A7 f;refine fo func357 λl i w g=> ?_;by_cases b:t.Ao<1;have e:I7 t=(t,[],fF):=by rw[I7,GI];rw[Ac b]
 rw[e];exact gg [(7,hT<|(t.Ao:Int)<1)]<|fi;cases c:CB (t.Bg++[t.A7])with
 |false=>
  have e:I7 t=(t,[],fF):=by rw[I7,GI];rw[AY b,Vw _ _ f,c];rfl
  rw[e];rw[c]at d;exact gg [(7,hF<|(t.Ao:Int)<1)]<|call d<|gG<|fi
 |true=>
  have e:I7 t=({t with A7:=t.A7+1,Ao:=t.Ao-1},t.Bg++[t.A7],tT):=by rw[I7,GI];rw[AY b,Vw _ _ f,c];rfl
  rw[e];rw[c,show Kx (t.Bg++[t.A7])=Dm (t.Bg++[t.A7]) by rw[Kx];rw[Ac c]]at d;exact gg [(7,hF<|(t.Ao:Int)<1)]<|call d<|gg [(22,sH t.A7),(26,hW ((t.Ao:Int)-1) ((t.Ao-1:Nat):Int))]<|fi
def AOf(I t a i j)(h:DZ I t a):Fn 108 [.g<|Dr t a,.v<|.slice i 0 j] [] I (QJ I<|DX t []) nO:=by
 refine fo func108 λy s w g=> ?_;have f:=h.c.s.cap;refine gG<|call (ACp I a.p.sa (lN t.c.stack) a.p.sc f)<|gG<|act (need:=[]) (AQQ (I:=I) Be (cap:=lN t.c.stack) (a:=a.p.sa) (x:=.v<|.slice i 0 j) LU kR Ol<|Ag _) (λh o=>by subst o;exact{r:=nA,u:=nA,n:=nA,l:=by simp,le:=AB.Hj _,d:=by simp}) ?_;rintro v rfl;refine gG ?_;have e:DX t []= {t with Aw:=0,on:=[]}:=by simp[DX]
 rw[e];exact dn [] ⟨_,I,rfl,AB.le_refl _,⟨⟨h.c.f,⟨h.c.s.sl,Ag _,Ch f h.c.s.max,h.c.s.CE⟩,h.c.t⟩,h.s⟩⟩ (h:={r:=.g<|Dr {t with Aw:=0,on:=[]} {a with p:={a.p with sc:=lN t.c.stack}},J:=I})
def Ad6(I t a c m n j)(u:0<lN c)(y:lN c<=1000000)(x:lN t.c.stack<=1000000)(g:F3 I c m n j)(h:DZ I t a):Fn 108 [.g<|Dr t a,.v<|.slice m (lN c) n] [] I (QJ I<|DX t c) nO:=by
 have d:Rows F9 (t.c.stack++c) (a.p.sl++j):=h.c.s.CE.append g.CE;refine fo func108 λF z w o=>gG<|call (ACp I a.p.sa (lN t.c.stack) a.p.sc h.c.s.cap)<|gG<|act (need:=[]) (MM (I:=I) Be (x:=.v<|.slice m (lN c) n) LU kR rfl h.c.s.sl.reads g.sl.reads (Ag _) oG (λe=> ?_) oG) M4 ?_;rcases h.c.s.sl.at_ with h|⟨b,A,arr,D,E,k,_⟩;exact h;rw[e]at k;cases k;rintro k ⟨f,i,B,C,r3,rfl⟩;refine go func108 [] 4 kR<|B4 188 I (vs:=a.p.sl++j++i) (e:=51) λb J hle _ q=>gG ?_;have el:lN (t.c.stack++c)=lN t.c.stack+lN c:=sP;have l:Av J F9 5 (t.c.stack++c) (aP b) f (a.p.sl++j):=Av.Ky q d Jd (λv g=>Pn v<|by rw[Rows.flat.1 d]at g;exact g) (by rwa[el]) C;refine dn [] ⟨{a with p:={a.p with sa:=sM ⟨b,0,nO⟩,sc:=f,sl:=a.p.sl++j}},J,?_,hle,⟨⟨(h.up hle).c.f,l,(h.up hle).c.t⟩,(h.up hle).s⟩⟩ (h:={r:=.g [.v<|sV t.id,.v<|sV t.Bg,.v<|vS<|AJ t.g.Ad.1,.v<|vS<|AJ t.g.Ad.2,.v<|vS<|AJ t.g.A5.1,.v<|vS<|AJ t.g.A5.2,.v<|.slice a.p.fa (lN t.c.AG) a.p.fc,.v<|.slice (aP b) (lN t.c.stack+lN c) f,.v<|.slice a.p.ta (lN t.c.AP) a.p.tc,.v<|.slice a.ca (lN t.AI) a.cc,.v<|nV t.A7,.v<|nV t.Ao,.v<|.int iK (0:Nat),.v<|vS<|Aa [],.v<|nV t.v.kind,.v<|nV t.v.n,.v<|sV t.v.name,.v<|vS<|AJ t.v.l.1,.v<|vS<|AJ t.v.l.2,.v<|vB t.ex],J:=J});simp[DX,Dr,el]
def ixO(o:AU Nat):Int:=match o with|none=> -1|some i=>i
def ATz{P}{l:AA Dc}{i x}(e:l[i]? =sM x)(d:P x)(b:∀(j:Nat)(y:Dc),j<i->l[j]? =sM y->P y=fF):l.findIdx? P=sM i:=by rw[Lv];obtain⟨a,rfl⟩:=Ci.1 e;exact⟨a,d,λj c=>by rw[b j _ c<|BS oG];decide⟩
def AT0{P}{l:AA Dc}(a:∀(j:Nat)(y:Dc),l[j]? =sM y->P y=fF):l.findIdx? P=nO:=by rw[ABc];intro x c;let⟨j,b⟩:=ABd c;exact a j x b
def ASr(I:AB)(a:AA SV)(AD:Nat)(sl:SV)(m:Nat)(i:Nat):Hd where
 Cd:=[(1,.v<|iV AD),(4,.v<|.int iK 0),(8,sl),(9,.v<|iV m),(10,.v<|iV i)]
 Cc:=[]
 J:=I
def ASs(I)(t:AL)(a)(c:Nat)(C:lN t.AI<=1000000)(h:DZ I t a):Fn 98 [.g<|NG t a,.v<|iV c] [] I (BW (.v<|.int iK<|ixO<|IU t c) I) nO:=by
 have q:=h.s;let⟨D,r,l,z⟩:=a;simp only at q;rw[IU];refine fo func98 λE u w o=> ?_;refine gG<|loop (λi=>i<=lN t.AI/\∀(j:Nat)(y:Dc),j<i->t.AI[j]? =sM y->(λs:Dc=>decide<|s.RE<=c) y=fF) (λi=>lN t.AI-i) (ASr I [] c (.v<|.slice r (lN t.AI) l)<|lN t.AI) 300 [] 0 ⟨Bm _,λj y n=>absurd n oG⟩ ?_;rintro i ⟨B,m⟩ again T;by_cases f:i<lN t.AI;have k:t.AI[i]? =sM t.AI[i]:=BS f;generalize t.AI[i]=x at k;obtain⟨b,d,arr,e,A,v,rfl,q2,q3,q4,q5⟩:=q.cell XO k;subst q3;by_cases p:x.RE<=c;rw[ATz k (G5 p) m];exact gg [(11,tH i<|lN t.AI),(13,Br I Rz b d (lN t.AI) l i f),(14,D8 I XG (d+i*14) (Hl x) rfl q2 q5),(18,hT<|(x.RE:Int)<=(c:Int))]<|fi;exact gg [(11,tH i<|lN t.AI),(13,Br I Rz b d (lN t.AI) l i f),(14,D8 I XG (d+i*14) (Hl x) rfl q2 q5),(18,hF<|(x.RE:Int)<=(c:Int)),(20,sH i)]<|bk again [] (i+1) ⟨oG,λj y n g=>by by_cases e:j=i;subst e;rw[k]at g;cases g;exact Gp p;exact m j y oG g⟩
 rw[AT0 λj y g=>m j y (by have:=(Ci.1 g).1;omega) g];exact gg [(11,fH i<|lN t.AI)]<|fi
def AIw(I)(t:AL)(a)(b:Nat)(d:lN t.AI<=1000000)(h:DZ I t a):Fn 39 [.g<|Dr t a,.v<|iV b] [] I (BW (.v<|.int iK<|ixO<|IU t b) I) nO:=fo func39 λf e w c=>gG<|call (AE4 I t a)<|gg [(7,.BZ (.field 202 (.tmp 6) 0) [(6,.g<|NG t a)] [] I (.g<|NG t a)<|AXt I 6 _ _ _)]<|call (ASs I t a b d h)<|gG<|fi
def AAn{I i a c k f s}(h:Av I Ll 14 i a c f)(l:i[k]? =sM s):
 ∃b d arr e g,a=sM ⟨b,d,nO⟩/\I b=sM (.cells arr e g)/\k<lN i/\∀j v,(Hl s)[j]? =sM v->arr[d+k*14+j]? =sM v:=by
 let⟨b,d,arr,e,g,m,q1,q2,q3,q4,q5⟩:=h.cell XO l;subst q3;exact⟨b,d,arr,e,g,q1,q2,q4,q5⟩
def AAm{ss:AA Dc}{k}(a:k<lN ss):ss[k]? =sM (ss.getD k Al):=by rw[BS a,DK,BS a];rfl
def ARH(I)(t:AL)(a k)(E:lN t.AI<=1000000)(z:B9 t.g.Ad)(C:∀s∈t.AI,B9 s.l)(h:DZ I t a):Fn 146 [.g<|Dr t a,.v<|iV k] [] I (BW (.t [Do (IF t k).1,.v<|vB (IF t k).2]) I) nO:=by
 have o:=h.s;let⟨N,G,D,H⟩:=a;let⟨x,l,g,c,f,i,m,d,on,v,r⟩:=t;simp only at E z C o;refine fo func146 λO F w B=> ?_;by_cases y:d=2;by_cases A:k+1=lN f;have u:=AAm (ss:=f) (k:=k) oG;have e:IF ⟨x,l,g,c,f,i,m,d,on,v,r⟩ k=if !fl g.Ad (f.getD k Al).l then(BH (-3),tT)else(v,r):=by rw[IF];simp only;rw[AY<|by rw[y,A];simp]
 have p:=C _<|De u;rw[e];generalize f.getD k Al=s at u p;obtain⟨b,q,arr,J,K,rfl,q2,q4,q5⟩:=AAn o u;have M:(lN f:Int)-1=(k:Int):=oG;refine gg [(8,EN (d:Int) 2),(14,hW ((lN f:Int)-1) (k:Int)),(15,EN (k:Int) (k:Int) rfl),(24,Br I Rz b q (lN f) D k q4),(26,D8 I Sf (q+k*14+1) [vS<|AJ s.l.1,vS<|AJ s.l.2] rfl q2 (λj v n=>by
  have:=q5 (1+j) v (by
   match j,n with
   |0,n=>exact n
   |1,n=>exact n)
  rw[<-Nb]at this;exact this))] ?_
 refine call (NB I g.Ad s.l z p) ?_;cases L:fl g.Ad s.l with
 |true=>
  exact gG<|fi
 |false=>
  exact gG<|fi
 have e:IF ⟨x,l,g,c,f,i,m,d,on,v,r⟩ k=(BH (-7),tT):=by rw[IF];simp only;rw[Ac<|.inr A]
 rw[e];exact gg [(8,EN (d:Int) 2),(14,hW ((lN f:Int)-1) ((lN f:Int)-1) rfl),(15,Fs (k:Int)<|(lN f:Int)-1)]<|fi;have e:IF ⟨x,l,g,c,f,i,m,d,on,v,r⟩ k=(BH (-7),tT):=by rw[IF];simp only;rw[Ac<|.inl y]
 rw[e];exact gg [(8,Fs (d:Int) 2)]<|fi
def AWw(I t a i)(h:DZ I t a):Fn 167 [.g<|NG t a,.v<|iV i] [] I (BW (DW<|EF t i) I) nO:=by
 have d:=h.s;let⟨u,o,l,p⟩:=a;simp only at d;refine fo func167 λx n w k=> ?_;by_cases m:i<lN t.AI;have g:=AAm m;have e:EF t i=(t.AI.getD i Al).g.Ad:=by rw[EF];rw[g]
 rw[e];generalize t.AI.getD i Al=s at g;obtain⟨b,f,arr,q,r,rfl,q2,q4,q5⟩:=AAn d g;refine gg [(9,tH i<|lN t.AI),(13,Br I Rz b f (lN t.AI) l i q4),(16,D8 I Sf (f+i*14+7) [vS<|AJ s.g.Ad.1,vS<|AJ s.g.Ad.2] rfl q2 (λj v c=>by
  have:=q5 (7+j) v (by
   match j,c with
   |0,c=>exact c
   |1,c=>exact c)
  rw[<-Nb]at this;exact this))] ?_
 exact fi;have e:EF t i=t.g.Ad:=by rw[EF];rw[Jh oG]
 rw[e];exact gg [(9,fH i<|lN t.AI)]<|fi
def AWi(I:AB)(t:AL)(a:DV)(m:AT)(n i:Nat):Hd where
 Cd:=[(2,.p 100 0),(3,.p 108 0),(4,.v<|.int iK 0),(7,.v<|iV n),(8,.v<|iV i)]
 Cc:=[(100,.cells (NG t a) 200),(108,.cells [.v<|vS<|AJ m.1,.v<|vS<|AJ m.2] 42)]
 J:=I
def AKO{t m}:∀n i:Nat,LZ t m (n+1) i=if fl (EF t i) m then LZ t m n (i+1)else i:=λ_ _=>rfl
def AWk(I t a m)(q:lN t.AI<=900000)(k:B9 m)(e:∀i,B9<|EF t i)(h:DZ I t a):Fn 112 [.g<|NG t a,DW m] [] I (BW (.v<|.int iK (CF t m:Nat)) I) nO:=by
 refine fo func112 λr o w g=>gG<|call (AEQ I t a oG)<|gG<|loop (ι:=Nat) (λi=>i<=lN t.AI+1/\CF t m=LZ t m (lN t.AI+1-i) i) (λi=>lN t.AI+1-i) (AWi I t a m<|lN t.AI+1) 300 [] 0 ⟨Bm _,rfl⟩ ?_;rintro i ⟨p,b⟩ again T;by_cases j:i<lN t.AI+1;obtain⟨n,l⟩:∃n,lN t.AI+1-i=n+1:=⟨lN t.AI-i,oG⟩;rw[l,AKO]at b;refine gg [(9,hT<|(i:Int)<((lN t.AI+1:Nat):Int))]<|call (AWw I t a i h)<|gG<|call (NB I (EF t i) m (e i) k) ?_;cases f:fl (EF t i) m with
 |true=>
  rw[f,Ac rfl]at b;refine gg [(18,sH i)] ?_;exact bk again [] (i+1) ⟨oG,by rw[b];congr 1;omega⟩
 |false=>
  rw[f]at b;have c:CF t m=i:=b;rw[c];exact gG<|fi
 have d:i=lN t.AI+1:=oG;rw[show lN t.AI+1-i=0 by omega]at b;have c:CF t m=lN t.AI+1:=by rw[b,<-d];rfl
 rw[c];exact gg [(9,hF<|(i:Int)<((lN t.AI+1:Nat):Int))]<|call (AEQ I t a oG)<|gG<|fi
def AKP(t m):∀n i,LZ t m n i<=i+n
 |0,i=>Ag _
 |n+1,i=>by rw[AKO];split;have:=AKP t m n<|i+1;omega;omega
def AWj(t m):CF t m<=lN t.AI+1:=by have:=AKP t m (lN t.AI+1) 0;rw[CF];omega
def P3:AL:=⟨[],[],⟨FW,FW⟩,⟨[],[],[]⟩,[],0,0,0,[],AZ,fF⟩
def RJ:DV:=⟨⟨nO,0,[],nO,0,[],nO,0,[]⟩,nO,0,[]⟩
def AeZ{I}:DZ I P3 RJ:=⟨⟨Av.empty,Av.empty,Av.empty⟩,Av.empty⟩
abbrev APV(I:AB)(o:AU AL):zP:=He I (λq:DV=>.t [.g<|Dr (o.getD P3) q,.v<|vB o.isSome]) λJ q=>DZ J (o.getD P3) q
def ANN{I d a c k b}(h:Av I Ll 14 d a c b)(e:k<=lN d):Av I Ll 14 (d.take k) a k (b.take<|k*14):=by have:=h.take XO k;rwa [Gn e]at this
def AVC(I t a m)(B:lN t.AI<=900000)(C:B9 m)(n:∀i,B9<|EF t i)(h:DZ I t a):Fn 58 [.g<|Dr t a,DW m] [] I (APV I<|C4 t m) nO:=by
 have hle:=AWj t m;refine fo func58 λL E w x=>gG<|call (AE4 I t a)<|gG<|call (AWk I t a m B C n h)<|gG<|call (AEQ I t a oG) ?_;rw[C4];generalize CF t m=k at hle;by_cases p:k=lN t.AI+1;rw[Ac p];exact gg [(20,hE (k:Int) ((lN t.AI+1:Nat):Int))]<|dn [] ⟨a,I,rfl,AB.le_refl _,h⟩;rw[AY p];by_cases u:k=0;rw[Ac u];exact gg [(20,hN (k:Int) ((lN t.AI+1:Nat):Int)),(23,hE (k:Int) 0)]<|dn [] ⟨RJ,I,rfl,AB.le_refl _,AeZ⟩;rw[AY u];have y:=AAm (ss:=t.AI) (k:=k-1) oG;simp only;generalize t.AI.getD (k-1) Al=s at y;have f:=h.s;have l:=h.s.cap;have v:=h.c;let⟨F,G,j,A⟩:=a;simp only at f l v;obtain⟨b,c,arr,H,K,rfl,q2,q4,q5⟩:=AAn f y;let⟨z,e,o⟩:=WW;refine gg [(20,hN (k:Int) ((lN t.AI+1:Nat):Int)),(23,hN (k:Int) 0),(28,hW ((k:Int)-1) ((k-1:Nat):Int)),(29,Br I Rz b c (lN t.AI) j (k-1) q4),(30,D8 I XG (c+(k-1)*14) (Hl s) rfl q2 q5),
  (34,.op I _ _<|Us (a:=sM ⟨b,c,nO⟩) (n:=lN t.AI) (c:=j) (m:=k) U1 e oG)] ?_
 refine call (ACo I (aO b c) k j oG)<|gG<|Cz (AIh I t.c F s.AG s.Cg s.AP v) λq J d D=>gG ?_;have el:lN (t.AI.take k)=k:=by rw[Cu];omega
 refine dn [] ⟨⟨q,sM ⟨b,c,nO⟩,k,A.take<|k*14⟩,J,?_,d,⟨D,(ANN f oG).up d λ_ _ h=>h⟩⟩ (h:={r:=.t [.g [.v<|sV t.id,.v<|sV s.name,.v<|vS<|AJ s.l.1,.v<|vS<|AJ s.l.2,.v<|vS<|AJ s.l.1,.v<|vS<|AJ s.l.2,.v<|.slice q.fa (lN (Ee t.c s.AG s.Cg s.AP).AG) q.fc,.v<|.slice q.sa (lN (Ee t.c s.AG s.Cg s.AP).stack) q.sc,.v<|.slice q.ta (lN (Ee t.c s.AG s.Cg s.AP).AP) q.tc,.v<|.slice (aO b c) k k,.v<|.int iK (0:Nat),.v<|.int iK (0:Nat),.v<|.int iK (2:Nat),.v<|vS<|Aa [],.v<|.int iK (1:Nat),.v<|.int iK 0,.v<|vS<|Aa [],.v<|vS<|AJ [],.v<|vS<|AJ [],.v fV],.v tV],J:=J});simp only[Dr,TH,VS,el];rfl
def Fx(o:Ob)(q:Em):AA SV:=[.v<|nV o.kind,.v<|vS<|AJ o.l.1,.v<|vS<|AJ o.l.2,.v<|nV o.v.kind,.v<|nV o.v.n,.v<|sV o.v.name,.v<|vS<|AJ o.v.l.1,.v<|vS<|AJ o.v.l.2,.v<|vB o.ex,.v<|vB o.done,
 .v<|vB o.var.full,.v<|nV o.var.v.kind,.v<|nV o.var.v.n,.v<|sV o.var.v.name,.v<|vS<|AJ o.var.v.l.1,.v<|vS<|AJ o.var.v.l.2,.v<|.slice q.a (lN o.var.q) q.c,.v<|nV o.fn,.v<|.int .u8 o.AR.toNat]
def HY:Em:=⟨nO,0,[]⟩
abbrev AG2(I:AB)(u:AL)(n:Nm)(o:Ob):zP:=He I (λq:DV=>.t [.g<|Dr u q,.v<|sV n,.g<|Fx o HY]) λJ q=>DZ J u q
def AKf(t:AL)(k:Nat)(s:Dc):AL:=
 {t with AI:=t.AI.take k,g:=s.g,Bg:=s.Bg,A7:=s.A7,Ao:=s.Ao,c:=Df (Ee t.c s.AG s.Cg s.AP)<|BZ 3 s.name s.l,Aw:=0,on:=[],v:=AZ,ex:=fF}
abbrev APf(I:AB)(t:AL)(k:Nat):zP:=AG2 I (GH t k) (t.AI.getD k Al).name<|GF t k
def AXK(I)(t:AL)(a k)(s:Dc)(z:t.AI[k]? =sM s)(O:lN t.AI<=900000)(F:lN t.c.stack<=900000)(C:B9 t.g.Ad)(E:∀s∈t.AI,B9 s.l)(h:DZ I t a):Fn 100 [.g<|Dr t a,.v<|iV k] [] I (AG2 I (AKf t k s) s.name {Db with kind:=3,l:=s.l,v:=(IF t k).1,ex:=(IF t k).2}) nO:=by
 have N:=(Ci.1 z).1;have m:=ARH I t a k oG C E h;refine fo func100 λP G w y=> ?_;have g:=h.s;have n:=h.s.cap;have x:=h.c;let⟨H,K,j,B⟩:=a;simp only at g n x;obtain⟨b,c,arr,L,M,rfl,q2,q4,q5⟩:=AAn g z;let⟨A,f,p⟩:=WW;refine gg [(9,hF<|(k:Int)<0),(15,hF<|(k:Int)≥(lN t.AI:Int)),(22,Br I Rz b c (lN t.AI) j k q4),(23,D8 I XG (c+k*14) (Hl s) rfl q2 q5)]<|call m<|gg [(38,.op I _ _<|Us (a:=sM ⟨b,c,nO⟩) (n:=lN t.AI) (c:=j) (m:=k) U1 f oG)]<|call (ACo I (aO b c) k j oG)<|gG<|Cz (AIh I t.c H s.AG s.Cg s.AP x) λq J d D=>gG<|Cz (AE6 J (Ee t.c s.AG s.Cg s.AP) q (BZ 3 s.name s.l) (by show(t.c.stack.take s.Cg).length<=_;rw[Cu];omega) D) λi u e o=> ?_;refine gG ?_;have el:lN (t.AI.take k)=k:=by rw[Cu];omega
 refine dn [] ⟨⟨i,sM ⟨b,c,nO⟩,k,B.take<|k*14⟩,u,?_,d.trans e,⟨o,(ANN g oG).up (d.trans e) λ_ _ h=>h⟩⟩ (h:={r:=.t [.g [.v<|sV t.id,.v<|sV s.Bg,.v<|vS<|AJ s.g.Ad.1,.v<|vS<|AJ s.g.Ad.2,.v<|vS<|AJ s.g.A5.1,.v<|vS<|AJ s.g.A5.2,.v<|.slice i.fa (lN (Df (Ee t.c s.AG s.Cg s.AP)<|BZ 3 s.name s.l).AG) i.fc,.v<|.slice i.sa (lN (Df (Ee t.c s.AG s.Cg s.AP)<|BZ 3 s.name s.l).stack) i.sc,.v<|.slice i.ta (lN (Df (Ee t.c s.AG s.Cg s.AP)<|BZ 3 s.name s.l).AP) i.tc,.v<|.slice (aO b c) k k,.v<|nV s.A7,.v<|nV s.Ao,.v<|.int iK (0:Nat),.v<|vS<|Aa [],.v<|.int iK (0:Nat),.v<|.int iK 0,.v<|vS<|Aa [],.v<|vS<|AJ [],.v<|vS<|AJ [],.v fV],.v<|sV s.name,.g<|Fx {Db with kind:=3,l:=s.l,v:=(IF t k).1,ex:=(IF t k).2} HY],J:=u});simp only[Dr,AKf,el];rfl
def AKh(I)(t:AL)(a k)(d:k<lN t.AI)(e:lN t.AI<=900000)(b:lN t.c.stack<=900000)(c:B9 t.g.Ad)(f:∀s∈t.AI,B9 s.l)(h:DZ I t a):Fn 100 [.g<|Dr t a,.v<|iV k] [] I (APf I t k) nO:=
 AXK I t a k _ (AAm d) e b c f h
abbrev H3(v:AW):AK:=.cells ((BG v).map .v) 51
def AXz(I){a k b n c}:HL prog (.binOp .eql 29 (.tmp a) (.const zS) 29) [(a,SV.s k b n c)] [] I (.v fV):=by refine .of ?_;rintro ρ l w ⟨d,_⟩ i _ _ o j;have e:=i zS xO;simp[AO]at d;have g:(eqGuard .eql 29 (.tmp a) (.const zS) (.slice (sM ⟨ρ k,b,nO⟩) n c) zS).run prog w=.ok () w:=rfl;have h:(binOp .eql 29 (.slice (sM ⟨ρ k,b,nO⟩) n c) zS).run prog w=.ok fV w:=Lib.run_eql_slice_nil w 29 51 (sM ⟨ρ k,b,nO⟩) n c 0 0 NW;simp[execOp,j,rB,d,e,g,aK,h];rfl
def APl(I:AB)(d n:Nat)(e:BN)(i:AA AF)(b:AK):zP:=λg h=>∃a c,n<=a/\a<=maxLen/\lN c=(a-n)*d/\h= {r:=.s g 0 n a,AV:=[(1,b)],nb:=[.As (i++c) e],J:=I}
def AAK(v):∀x∈BG v,x.oneCell':=SQ rfl
def ARr(I)(v):Fn 42 [.s 1 0 1 1] [(1,H3 v)] I (APl I 5 1 51 (BG v) (H3 v)) none:=by refine Ju 8 Tryz.func42 Tryz.ntmps42 rfl rfl kR λρ key w a=>gg [(4,.BZ (.binOp .eql 29 (.tmp 3) (.const (.slice none 0 0)) 29) [(3,.s 1 0 1 1)] [] I (.v (.bool false)) (AXz I))]<|act (need:=[(124,.As [] 51),(1,H3 v)]) (Kk (I:=I) Be (n:=0) (m:=1) (cap:=0) (k:=124) (vs:=[]) (CQ:=[]) (news:=BG v) (x:=.s 1 0 1 1) LU kR List.mem_cons_self rfl rfl sP (Ez (e:=51) sP rfl (AAK v)) (Nat.le_refl _) (by unfold maxLen;omega) oG) (QP rfl) ?_;rintro h' ⟨cap,AE,h1,b,c,rfl⟩;exact gG<|dn [140] ⟨cap,AE,oG,b,by rw[c],sP⟩ (h:={r:=.s (key+0) 0 (0+1) cap,AV:=[(1,H3 v)],nb:=[.As ([]++BG v++AE) 51],J:=I})
def AGo{a:Type}(I:AB)(b:AK)(S:a->SV)(R:AB->a->Prop):zP:=λ_ h=>∃x J,h= {r:=S x,AV:=[(1,b)],J:=J}/\I.le J/\R J x
abbrev AGu(I:AB)(v:AW)(u:Ay):zP:=AGo I (H3 v) (λq:DL=>.t [.g<|Dx u q,.v tV]) λJ q=>C0 J u q
def ATG(I:AB)(v:AW)(c:Ay)(p:DL)(fn m:Nat)(AR:AH)(x:TN):Hd where
 Cd:=[(1,.v<|nV fn),(4,.v<|.int .u8 AR.toNat),(5,.p 100 0),(10,.p 108 0),(11,.v fV),(12,.s 116 0 (1+x.i) x.cap),(22,.v<|.int iK (m:Nat)),(23,.v<|nV x.i)]
 Cc:=[(1,H3 v),(100,.cells (Dx c p) 48),(108,.cells [.v zS,.v zS,.v zS] 48),(116,.As (Ld (BG v) x.i++x.AE) 51)]
 J:=I
def ATI(I)(c:Ay)(p)(fn b:Nat)(v)(a:AH)(g:16<=lN c.AG):Fn 140 [.g<|Dx c p,.v<|nV fn,.v<|nV b,.s 1 0 1 1,.v<|.int .u8 a.toNat] [(1,H3 v)] I (BW (.t [.g<|Dx c p,.v fV]) I) nO:=by refine Fn.same ?_ rfl;exact fo func140 λρ e w d=>gg [(16,hT<|(lN c.AG:Int)≥16)]<|dn [] rfl
def ADF(I)(c:Ay)(p)(fn d:Nat)(v)(e:AH)(h:C0 I c p)(W:lN c.AG<16)(N:lN c.stack<=1000000):
 Fn 140 [.g<|Dx c p,.v<|nV fn,.v<|nV d,.s 1 0 1 1,.v<|.int .u8 e.toNat] [(1,H3 v)] I (AGu I v {c with AG:=c.AG++[⟨fn,0,lN c.stack,e,[v]++lP (min d 16) (BH 0)⟩]}) nO:=by
 have u:BG v=([v]:AA AW).flatMap BG:=sP;refine fo func140 λρ O w G=>gg [(16,hF<|(lN c.AG:Int)≥16)]<|A0 (ARr I v) [(1,1)] ?_;rintro _ ⟨g,k,z,B,L,rfl⟩;refine gg [(21,OU I #[3,3] d 0 d oG),(22,ADp I #[3,3] d 16 ((min d 16:Nat):Int) oG)]<|loop (ι:=TN) (λx=>x.i<=min d 16/\1+x.i<=x.cap/\x.cap<=maxLen/\lN x.AE=(x.cap-(1+x.i))*5) (λx=>min d 16-x.i)
  (ATG I v c p fn (min d 16) e) 300 [(116,164)] ⟨0,g,k⟩ ⟨Bm _,z,B,by simpa using L⟩ ?_
 rintro⟨i,g,k⟩ ⟨H,q1,q2,q3⟩ again T;simp only at H q1 q2 q3;have s:Ld (BG v) i=(Im [v] i).flatMap BG:=by rw[u];exact UK [v] i
 by_cases M:i<min d 16;refine gg [(24,hT<|(i:Int)<((min d 16:Nat):Int))]<|act (need:=[(116,.As (Ld (BG v) i++k) 51),(324,.cells ((BG<|BH 0).map .v) 51)]) (Kk (I:=I) Be (vs:=Ld (BG v) i++k) (CQ:=Ld (BG v) i) (news:=BG<|BH 0) (x:=.s 324 0 1 1) LU kR sP ?_ ?_ (λv y=>Pn v<|by rw[s]at y;exact y) (Ez (e:=51) sP rfl<|AAK _) q1 q2 oG) (QP rfl) ?_;rw[CK,s,UH,q3];simp[Im,CK,AGY,O3];rw[<-Gm];congr 1;omega;rw[O5];rw[s,UH];simp[Im];omega;rintro V ⟨l,q,X,P,r3,rfl⟩;refine gg [(29,sH i)] ?_;exact bk again [(116,332)] ⟨i+1,l,q⟩ ⟨by show i+1<=_;omega,by show 1+(i+1)<=l;omega,P,by show lN q=(l-(1+(i+1)))*5;rw[r3];congr 1⟩;have C:i=min d 16:=oG;subst C;refine go func140 [(24,hF<|(((min d 16:Nat)):Int)<((min d 16:Nat):Int))] 8 kR<|B4 116 I (vs:=Ld (BG v) (min d 16)++k) (e:=51) λb J hle _ E=> ?_;rw[s]at E;refine gG<|KR (YM J p.fa (lN c.AG) p.fc p.fl fn 0 (lN c.stack) e.toNat (aP b) (1+min d 16) g h.f.cap oG<|h.f.sl.up hle) λa m K j Q S U=>gG ?_;have D:lN (Im [v]<|min d 16)=1+min d 16:=by simp[Im];omega
 have t:F3 K (Im [v]<|min d 16) (aP b) g ((Im [v]<|min d 16).flatMap BG):=Av.Ky (j _ _ E) (Rows.flat.2 rfl) Jd (λv y=>Pn v y) oG q2;have o:(c.AG++[(⟨fn,0,lN c.stack,e,[v]++lP (min d 16) (BH 0)⟩:Cw)]).length=lN c.AG+1:=sP;have hnew:C0 K {c with AG:=c.AG++[⟨fn,0,lN c.stack,e,[v]++lP (min d 16) (BH 0)⟩]} {p with fa:=a,fc:=m,fl:=p.fl++[.int iK fn,.int iK 0,.int iK<|lN c.stack,.int .u8 e.toNat,.slice (aP b) (1+min d 16) g]}:=by refine⟨⟨by rwa[o],by rwa[o],S,?_⟩,(h.up<|hle.trans j).s,(h.up<|hle.trans j).t⟩;refine(h.f.CE.mono<|Nl<|hle.trans j).append<|Rows.one ⟨sM ⟨b,0,nO⟩,g,_,?_,t⟩;show _=[_,_,_,_,Value.slice (aP b) (lN<|Im [v]<|min d 16) g];rw[D];rfl
 refine dn [] ⟨_,K,?_,hle.trans j,hnew⟩ (h:={r:=.t [.g [.v<|.slice a (lN c.AG+1) m,.v<|.slice p.sa (lN c.stack) p.sc,.v<|.slice p.ta (lN c.AP) p.tc],.v tV],AV:=[(1,H3 v)],J:=K});simp[Dx]
def ACg{a c v u}(k)(h:Fn 140 a [(1,H3 v)] c (AGu c v u) nO)(b:FH f n 140 [(1,k)] [(1,H3 v)] a c)(hnext:∀(q:DL)(J:AB),c.le J->C0 J u q->At F fn n I w ρ A R (f.out (BA [(1,k)]) {r:=.t [.g<|Dx u q,.v tV],AV:=[(1,H3 v)],J:=J})):At F fn n I w ρ A R f:=
 A0 h [(1,k)] (hobs:=b) λh d=>by obtain⟨x,J,rfl,hle,q⟩:=d;exact hnext x J hle q
structure ABv(I:AB)(t:AL)(a:DV)(l:AT):Prop where
 pow:Pow I
 AC:DZ I t a
 Bg:CB t.Bg
 A7:t.A7<=1000000
 Ao:t.Ao<=1000000
 XN:lN t.AI<=900000
 len:Kf t.c
 Cj:B9 l
 g:Mh t.g
abbrev AI1(t:AL)(a:DV)(fn e:Nat)(arg:AW)(c:AH)(l:AT)(b d:Int)(g:Nat):AA SV:=[.g<|Dr t a,.v<|nV fn,.v<|nV e,Do arg,.v<|.int .u8 c.toNat,DW l,.v<|nV b,.v<|nV d,.v<|nV g]
def Acr(I t a)(fn h:Nat)(arg g l)(b c:Int)(m:Nat)(e:Int)(S:ABv I t a l)(d:Js t fn h arg g l b c m=.inr e):Fn 317 (AI1 t a fn h arg g l b c m) [] I (BW (.t [.g<|Dr t a,.v<|nV e]) I) nO:=by
 have i:=Z6 I S.pow t a S.Bg S.A7 S.Ao;have C:=S.len.f;have D:=S.len.s;refine fo func317 λρ y w v=> ?_;rw[Js]at d;by_cases r:b<1\/1000<b;rw[Ac r]at d;cases d;by_cases k:b<1;exact gg [(27,hT (b<1) k)]<|fi;exact gg [(27,hF (b<1) k),(30,hT<|b>1000)]<|fi;rw[AY r]at d;by_cases s:c<0\/999<c;rw[Ac s]at d;cases d;by_cases k:c<0;exact gg [(27,hF<|b<1),(30,hF<|b>1000),(34,hT (c<0) k)]<|fi;exact gg [(27,hF<|b<1),(30,hF<|b>1000),(34,hF (c<0) k),(37,hT<|c>999)]<|fi;rw[AY s]at d;refine gg [(27,hF<|b<1),(30,hF<|b>1000),(34,hF<|c<0),(37,hF<|c>999)]<|call (Pz I t.g l S.g S.Cj) ?_;by_cases p:Dh t.g l≠0;rw[Ac p]at d;cases d;exact gg [(45,Fs (Dh t.g l) 0 p)]<|fi;rw[AY p]at d;refine gg [(45,EN (Dh t.g l) 0)] ?_;cases o:GI t with
 |none=>
  rw[o]at d;cases d;rw[show I7 t=(t,[],fF) by rw[I7];rw[o]]at i;refine call i ?_;by_cases j:(t.Ao:Int)<=c;exact gg [(57,hT ((t.Ao:Int)<=c) j)]<|fi;exact gg [(57,hF ((t.Ao:Int)<=c) j)]<|fi
 |some B=>
  let⟨u,z⟩:=B;rw[o]at d;rw[show I7 t=(u,z,tT) by rw[I7];rw[o]]at i;refine call i ?_;simp only at d;by_cases j:(t.Ao:Int)<=c;rw[Ac j]at d;cases d;exact gg [(57,hT ((t.Ao:Int)<=c) j)]<|fi;rw[AY j]at d;refine gg [(57,hF ((t.Ao:Int)<=c) j)] ?_;rw[Gc]at d;by_cases q:16<=lN t.c.AG;rw[Ac q]at d;cases d;exact IG (ATI I t.c a.p fn h arg g q) [(1,476)]<|gG<|fi;rw[AY q]at d;cases d
def AI2(t u:AL)(h:Nm)(fn d:Nat)(arg:AW)(b:AH)(l:AT)(a Ao:Int)(e:Nat):AL:=
 let s:Dc:=⟨h,A4 l,e+a.toNat,lN t.c.AG,lN t.c.stack,lN t.c.AP,t.g,t.Bg,u.A7,u.Ao-Ao.toNat⟩
 {u with AI:=t.AI++[s],c:={t.c with AG:=t.c.AG++[⟨fn,0,lN t.c.stack,b,[arg]++lP (min d 16) (BH 0)⟩]},g:=⟨u.g.Ad,s.l⟩,Bg:=h,A7:=0,Ao:=Ao.toNat}
def ATK{t o}{fn d:Nat}{arg c l}{a Ao:Int}{AD:Nat}(h:Js t fn d arg c l a Ao AD=.inl o):
 ¬(a<1\/1000<a)/\¬(Ao<0\/999<Ao)/\Dh t.g l=0/\¬(t.Ao:Int)<=Ao/\lN t.c.AG<16/\∃e,GI t=sM ({t with A7:=t.A7+1,Ao:=t.Ao-1},e)/\o=AI2 t {t with A7:=t.A7+1,Ao:=t.Ao-1} e fn d arg c l a Ao AD:=by
 rw[Js]at h;by_cases g:a<1\/1000<a;rw[Ac g]at h;cases h;rw[AY g]at h;by_cases i:Ao<0\/999<Ao;rw[Ac i]at h;cases h;rw[AY i]at h;by_cases k:Dh t.g l≠0;rw[Ac k]at h;cases h;rw[AY k]at h;cases b:GI t with
 |none=>rw[b]at h;cases h
 |some q=>
  let⟨u,e⟩:=q;rw[b]at h;simp only at h;by_cases j:(t.Ao:Int)<=Ao;rw[Ac j]at h;cases h;rw[AY j]at h;rw[Gc]at h;by_cases m:16<=lN t.c.AG;rw[Ac m]at h;cases h;rw[AY m]at h;have p:u= {t with A7:=t.A7+1,Ao:=t.Ao-1}:=by rw[GI]at b;split at b;cases b;split at b;cases b;rfl;cases b
  subst p;refine⟨g,i,oG,j,oG,e,rfl,?_⟩;cases h;rfl
def Acs(I t u a)(fn j:Nat)(arg i l)(d Ao:Int)(k:Nat)(S:ABv I t a l)(Q:k<=1000000)(U:Js t fn j arg i l d Ao k=.inl u):Fn 317 (AI1 t a fn j arg i l d Ao k) [] I (He I (λq:DV=>.t [.g<|Dr u q,.v<|.int iK 0]) λJ q=>DZ J u q) nO:=by
 obtain⟨h1,h2,X,Y,Z,M,hn,rfl⟩:=ATK U;have G:=Z6 I S.pow t a S.Bg S.A7 S.Ao;rw[show I7 t=({t with A7:=t.A7+1,Ao:=t.Ao-1},M,tT) by rw[I7];rw[hn]]at G;have W:=Pz I t.g l S.g S.Cj;rw[X]at W;have l1:=S.len.f;have l2:=S.len.s;have l3:=S.XN;have l4:=S.A7;have l5:=S.Ao;obtain⟨m,rfl⟩:∃m:Nat,Ao=(m:Int):=⟨Ao.toNat,oG⟩;obtain⟨x,rfl⟩:∃x:Nat,d=(x:Int):=⟨d.toNat,oG⟩;refine fo func317 λρ aa w E=>gg [(27,hF<|(x:Int)<1),(30,hF<|(x:Int)>1000),(34,hF<|(m:Int)<0),(37,hF<|(m:Int)>999)]<|call W<|gG<|call G<|gg [(57,hF ((t.Ao:Int)<=(m:Int)) Y)]<|ACg 476 (ADF I t.c a.p fn j arg i S.AC.c Z oG) kR λq J hle T=>gg [(82,hW ((k:Int)+(x:Int)) ((k+x:Nat):Int)),(104,hW (((t.Ao-1:Nat):Int)-(m:Int)) ((t.Ao-1-m:Nat):Int))]<|call (UU J l S.Cj)<|gG ?_;refine call (ACo J a.ca (lN t.AI) a.cc S.AC.s.cap)<|gG ?_;obtain⟨s,V⟩:∃s:Dc,s=⟨M,A4 l,k+x,lN t.c.AG,lN t.c.stack,lN t.c.AP,t.g,t.Bg,t.A7+1,t.Ao-1-m⟩:=⟨_,rfl⟩;have p:∀v∈Hl s,v.oneCell':=SQ rfl;have C:=S.AC.s.sl.up hle;refine act (hobs:=by subst V;exact kR) (MM (I:=J) Be (l:=.v<|.slice a.ca (lN t.AI)<|lN t.AI) (x:=.s 844 0 1 1) AHV kR rfl C.reads (Ez (e:=114) (A9.2 rfl) rfl p) (Ag _) oG (λe=> ?_) oG) M4 ?_;rcases C.at_ with h|⟨b,ab,arr,e',fr,N,_⟩;exact h;rw[e]at N;cases N;rintro N ⟨y,L,r1,r2,r3,rfl⟩;refine go func317 [] 3 kR<|B4 852 J (vs:=a.cl++Hl s++L) (e:=114) λb K o _ hJ=>gG ?_;have B:Rows Ll (t.AI++[s]) (a.cl++Hl s):=S.AC.s.CE.append<|Rows.one rfl;have el:lN (t.AI++[s])=lN t.AI+1:=sP
 have P:Av K Ll 14 (t.AI++[s]) (aP b) y (a.cl++Hl s):=Av.Ky hJ B XO (λv H=>by rcases Bc.1 H with H|H;exact C.one v H;exact p v H) (by rwa[el]) r2
 obtain⟨D,z⟩:∃D:Ay,D= {t.c with AG:=t.c.AG++[⟨fn,0,lN t.c.stack,i,[arg]++lP (min j 16) (BH 0)⟩]}:=⟨_,rfl⟩;have e:AI2 t {t with A7:=t.A7+1,Ao:=t.Ao-1} M fn j arg i l x m k= {t with AI:=t.AI++[s],c:=D,g:=⟨t.g.Ad,A4 l⟩,Bg:=M,A7:=0,Ao:=m}:=by subst V z;rfl
 rw[e];rw[<-z]at T;refine done func317 E [] (h:={r:=.t [.g [.v<|sV t.id,.v<|sV M,.v<|vS<|AJ t.g.Ad.1,.v<|vS<|AJ t.g.Ad.2,.v<|vS<|AJ (A4 l).1,.v<|vS<|AJ (A4 l).2,.v<|.slice q.fa (lN D.AG) q.fc,.v<|.slice q.sa (lN D.stack) q.sc,.v<|.slice q.ta (lN D.AP) q.tc,.v<|.slice (aP b) (lN t.AI+1) y,.v<|.int iK (0:Nat),.v<|nV m,.v<|nV t.Aw,.v<|sV t.on,.v<|nV t.v.kind,.v<|nV t.v.n,.v<|sV t.v.name,.v<|vS<|AJ t.v.l.1,.v<|vS<|AJ t.v.l.2,.v<|vB t.ex],.v<|.int iK 0],J:=K}) (by subst z;exact kR) ⟨⟨q,sM ⟨b,0,nO⟩,y,a.cl++Hl s⟩,K,?_,hle.trans o,⟨T.up o,P⟩⟩;simp[Dr,el]
def FY(I:AB)(o:Ob)(q:Em):Prop:=ML I o.var q
def FY.up{I J o q}(h:FY I o q)(hle:I.le J):FY J o q:=ML.up h hle
abbrev APk(I:AB)(o:Ob):zP:=He I (λq:Em=>.g<|Fx o q) λJ q=>FY J o q
def Yp(I o q)(i:lN o.var.q<=1000000)(h:FY I o q):Fn 85 [.g<|Fx o q] [] I (APk I o) nO:=by have b:Nj I o.var.q q.a q.c q.l:=h;exact fo func85 λj d w a=>gG<|KR (Yk I q.a (lN o.var.q) q.c q.l oG b.sl) λc m J hle e f g=>gG<|dn [] ⟨⟨c,m,q.l⟩,J,rfl,hle,⟨g,e,f,b.CE⟩⟩
def APt(I:AB):zP:=λa h=>h= {r:=.p (a+2) 0,nb:=[.Ey [] [],.Ey [] [],.cells [.m a,.m<|a+1] 178],J:=I}
def AYk(I):Fn 87 [] [] I (APt I) nO:=fo func87 λc b w a=>gG<|dn [108,116,132] rfl
def GK(o:Ob)(q:Em):AA AF:=[.int iK o.kind,vS<|AJ o.l.1,vS<|AJ o.l.2,.int iK o.v.kind,.int iK o.v.n,vS<|Aa o.v.name,vS<|AJ o.v.l.1,vS<|AJ o.v.l.2,vB o.ex,vB o.done,
 vB o.var.full,.int iK o.var.v.kind,.int iK o.var.v.n,vS<|Aa o.var.v.name,vS<|AJ o.var.v.l.1,vS<|AJ o.var.v.l.2,.slice q.a (lN o.var.q) q.c,.int iK o.fn,.int .u8 o.AR.toNat]
def ALp(o q):Fx o q=(GK o q).map .v:=rfl
inductive C5{c β:Type}(R:c->β->Prop):AA c->AA β->Prop
 |nil:C5 R [] []
 |cons {a b l m}:R a b->C5 R l m->C5 R (a::l) (b::m)
structure Ic(es:Ae Ar)(n:Nat):Prop where
 lt:∀x∈es.toList,x.born<n
 nd:(es.toList.map (·.born)).Nodup
theorem Ic.nil(n):Ic #[] n:=⟨sP,sP⟩
def Ic.push{es n}(h:Ic es n)(k v):Ic (es.push {key:=k,val:=v,born:=n}) (n+1):=by
 refine⟨λx c=> ?_,?_⟩;simp only[P5,Bc,A9]at c;rcases c with c|rfl;have:=h.lt x c;omega;exact Xv _;rw[P5,E3,Gl];refine⟨h.nd,sP,λa e b d=> ?_⟩;obtain⟨x,c,rfl⟩:=BI.1 e;have d:b=n:=by simpa using d
 have:=h.lt x c;omega
theorem Ic.modify{es n}(h:Ic es n)(j f)(g:∀e,(f e).born=e.born):Ic (es.modify j f) n:=by
 have b:∀(l:AA Ar)(j:Nat),(l.modify j f).map (·.born)=l.map (·.born):=by
  intro l;induction l with
  |nil=>intro j;simp
  |cons x l i=>grind
 have a:(es.modify j f).toList.map (·.born)=es.toList.map (·.born):=by rw[AGF];exact b _ _
 refine⟨λx c=> ?_,by rw[a];exact h.nd⟩;have:x.born∈(es.modify j f).toList.map (·.born):=BI.2 ⟨x,c,rfl⟩;rw[a]at this;let⟨y,d,e⟩:=BI.1 this;rw[<-e];exact h.lt y d
theorem C5.mono{c β:Type}{R S}(h:∀a b,R a b->S a b):∀ {l:AA c} {m:AA β},C5 R l m->C5 S l m
 |_,_,.nil=>.nil
 |_,_,.cons a b=>.cons (h _ _ a)<|b.mono h
def C5.snoc{c β:Type}{R:c->β->Prop}{l:List c}{m:List β}{x:c}{y:β}(h:C5 R l m)(d:R x y):C5 R (l++[x]) (m++[y]):=by
 induction h with
 |nil=>exact .cons d .nil
 |cons a b e=>exact .cons a e
variable{β A:Type}{V:β->A->List Value}{R S:β->A->Prop}{s:List (Nm×β)}{es:Array MapEntry}{n:Nm}{o:β}{q:A}{j:Nat}
def Aed(s:AA<|Nm×β)(n:Nm):AU β:=(s.find? (·.1==n)).map (·.2)
def Aey(V:β->A->AA AF)(R:β->A->Prop)(e:Ar)(p:Nm×β):Prop:=e.key=vS (Aa p.1)/\∃q,e.val=.agg (V p.2 q).toArray/\R p.2 q
structure Aeh(V:β->A->AA AF)(R:β->A->Prop)(s:AA (Nm×β))(es:Ae Ar):Prop where
 perm:∃l,l.Perm s/\C5 (Aey V R) es.toList l
 nd:(s.map (·.1)).Nodup
 nm:∀p∈s,BV p.1
theorem AgH{l}(h:l.Perm s)(f:(s.map (·.1)).Nodup)(n):Aed l n=Aed s n:=by
 induction h with
 |nil=>rfl
 |cons x h e=>
  grind[Aed]
 |swap x y l=>
  grind[Aed]
 |trans c d a b=>
  grind
theorem AJI(k:BV n):∀ {es:AA Ar} {l:AA<|Nm×β} (i:Nat),C5 (Aey V R) es l->(∀p∈l,BV p.1)->
 (Aed l n=none->Instr.findNow .string (sV n) es i=some none)/\(∀o,Aed l n=some o->∃j q,Instr.findNow .string (sV n) es i=some (some (i+j,.agg (V o q).toArray))/\R o q/\es[j]?.map (·.key)=some (sV n))
 |_,_,i,.nil,_=>⟨λ_=>rfl,λo h=>by cases h⟩
 |_,_,i,.cons (a:=e) (b:=p) (l:=es) (m:=l) ⟨c,q,t,u⟩ g,hm=>by
  have m:=AJI k (i+1) g λp f=>hm p<|DY _ f;have f:=hm p sP;have v:Instr.sameNow .string (sV n) e.key=some (decide<|n=p.1):=by
   let⟨r,g,a⟩:=MapKept.sameNow_of_keys (d:=.string) (a:=.string<|Aa n) (b:=e.key) trivial (by rw[c];trivial);rw[g];congr 1;have:r↔n=p.1:=by rw[a,c];constructor;intro h;simp[Value.string.injEq]at h;exact Of k f<|str_inj.1<|Dt ByteArray.toList h;rintro rfl;rfl
   by_cases h:n=p.1
   grind
   grind
  rw[Instr.findNow];rw[v];rw[Aed];rw[KH];by_cases h:n=p.1;have d:(p.1==n):=by rw[h];simp
  rw[G5 h,d];refine⟨λh=>(by simp at h),λo b=> ?_⟩;simp at b;subst b;exact⟨0,q,by rw[t];rfl,u,by simp[c,h]⟩;have d:(p.1==n)=false:=Nf.2 λe=>h e.symm;rw[Gp h,d];refine⟨m.1,λo b=> ?_⟩;let⟨j,w,y,x,r3⟩:=m.2 o b;exact⟨j+1,w,by grind,x,by simpa using r3⟩
def AIz(a:BV n):∀ {es:AA Ar} {l:AA<|Nm×β} {j:Nat},C5 (Aey V R) es l->(∀p∈l,BV p.1)->es[j]?.map (·.key)=sM (sV n)->n∈l.map (·.1)
 |_,_,j,.nil,_,h=>by simp at h
 |_,_,0,.cons (a:=e) (b:=p) h1 hr,hm,h=>by simp at h;rw[h1.1]at h;simp[Value.string.injEq]at h;have:=Of (hm p sP) a<|str_inj.1<|Dt ByteArray.toList h;simp[this]
 |_,_,j+1,.cons h1 hr,hm,h=>by have:=AIz a hr (λp b=>hm p<|DY _ b) (by simpa using h);exact DY _ this
def AE7(V:β->A->AA AF)(n:Nm)(o:β)(q:A)(e:Ar):Ar:={e with key:=vS<|Aa n,val:=.agg (V o q).toArray}
def Ml(n:Nm)(o:β)(x:Nm×β):Nm×β:=if x.1==n then(n,o)else x
def AHK(hu: ∀b a,R b a->S b a)(f:BV n)(k:S o q): ∀ {es:List MapEntry} {l:List (Nm×β)} {j:Nat},C5 (Aey V R) es l->(l.map (·.1)).Nodup->(∀p∈l,BV p.1)->es[j]?.map (·.key)=some (.string (Aa n))->C5 (Aey V S) (es.modify j (AE7 V n o q)) (l.map (Ml n o))
 |_,_,j,.nil,_,_,h=>by simp at h
 |_,_,0,.cons (a:=e) (b:=p) (l:=es) (m:=l) h1 hr,nd,hm,h=>by
  simp at h;rw[h1.1]at h;simp only[Value.string.injEq]at h;have i:=Of (hm p sP) f (str_inj.1 (congrArg ByteArray.toList h));simp only[List.map_cons,List.nodup_cons]at nd;have m:l.map (Ml n o)=l:=by
   have: ∀x∈l,Ml n o x=x:=λx r=>by unfold Ml;rw[if_neg];intro hb;exact nd.1 (by rw[i,<-eq_of_beq hb];exact List.mem_map.2 ⟨x,r,rfl⟩)
   rw[List.map_congr_left this];simp
  rw[List.map_cons,m];refine .cons ?_ (hr.mono λ_ _ ⟨x,q,y,z⟩=>⟨x,q,y,hu _ _ z⟩);have:Ml n o p=(n,o):=by unfold Ml;rw[if_pos (by rw[i];simp)]
  rw[this];exact⟨rfl,q,rfl,k⟩
 |_,_,j+1,.cons (a:=e) (b:=p) (l:=es) (m:=l) h1 hr,nd,hm,h=>by
  simp only[List.map_cons,List.nodup_cons]at nd;have c: ∀p∈l,BV p.1:=λp hp=>hm p (List.mem_cons_of_mem _ hp);have hk:es[j]?.map (·.key)=some (.string (Aa n)):=by simpa using h
  have d:=AIz f hr c hk;have g:Ml n o p=p:=by unfold Ml;rw[if_neg];intro hb;exact nd.1 (by rw[eq_of_beq hb];exact d)
  rw[List.map_cons,g];exact .cons ⟨h1.1,h1.2.imp λq ⟨y,z⟩=>⟨y,hu _ _ z⟩⟩ (AHK hu f k hr nd.2 c hk)
theorem AMP(x):(Ml n o x).1=x.1:=by grind[Ml]
theorem Aeh.mono(h:Aeh V R s es)(c:∀b a,R b a->S b a):Aeh V S s es:=⟨h.perm.imp λ_ ⟨a,b⟩=>⟨a,b.mono λ_ _ ⟨x,q,y,z⟩=>⟨x,q,y,c _ _ z⟩⟩,h.nd,h.nm⟩
theorem Aeh.find(h:Aeh V R s es)(b:BV n):
 (Aed s n=none->Instr.findNow .string (.string (Aa n)) es.toList 0=some none)/\(∀o,Aed s n=some o->∃j q,Instr.findNow .string (.string (Aa n)) es.toList 0=some (some (j,.agg (V o q).toArray))/\R o q/\es[j]?.map (·.key)=some (.string (Aa n))):=by
 let⟨l,hp,ha⟩:=h.perm;have:=AJI b 0 ha λp a=>h.nm p (hp.mem_iff.1 a);rw[AgH hp h.nd]at this
 grind
theorem Aeh.put(h:Aeh V R s es)(r:∀b a,R b a->S b a)(k:BV n)(m:S o q)(g:es[j]?.map (·.key)=sM (sV n)):Aeh V S (s.map<|Ml n o) (es.modify j<|AE7 V n o q):=by
 let⟨l,d,f⟩:=h.perm;have i:∀p∈l,BV p.1:=λp c=>h.nm p<|d.mem_iff.1 c;have u:(l.map (·.1)).Nodup:=(d.map _).nodup_iff.2 h.nd;have e:(s.map<|Ml n o).map (·.1)=s.map (·.1):=by rw[Gk];exact JD λx _=>AMP x
 refine⟨⟨l.map<|Ml n o,d.map _,?_⟩,by rw[e];exact h.nd,λp c=> ?_⟩;rw[AGF];exact AHK r k m f u i (by simpa using g);obtain⟨x,t,rfl⟩:=BI.1 c;rw[AMP];exact h.nm x t
theorem Aeh.add(h:Aeh V R s es)(c:Aed s n=nO)(m:BV n)(i:R o q)(b):Aeh V R (s++[(n,o)]) (es.push {key:=vS<|Aa n,val:=.agg (V o q).toArray,born:=b}):=by
 let⟨l,g,f⟩:=h.perm;refine⟨⟨l++[(n,o)],g.append_right _,?_⟩,?_,λp a=> ?_⟩;rw[Array.toList_push];exact f.snoc ⟨rfl,q,rfl,i⟩;rw[List.map_append,List.nodup_append];refine⟨h.nd,sP,λx k y d e=> ?_⟩;simp at d;subst d;subst e;obtain⟨p,a,rfl⟩:=List.mem_map.1 k;unfold Aed at c
 grind[Option.map_eq_none_iff]
 rcases List.mem_append.1 a with a|a;exact h.nm p a
 grind
structure C9(I:AB)(s:Az)(es:Ae Ar)(ck:Nat):Prop where
 perm:∃l,l.Perm s/\C5 (Aey GK (FY I)) es.toList l
 nd:(s.map (·.1)).Nodup
 nm:∀p∈s,BV p.1
 bo:Ic es ck
def C9.toM{I s es a}(h:C9 I s es a):Aeh GK (FY I) s es:=⟨h.perm,h.nd,h.nm⟩
def C9.of{I s es ck}(h:Aeh GK (FY I) s es)(b:Ic es ck):C9 I s es ck:=⟨h.perm,h.nd,h.nm,b⟩
def C9.find{I:AB}{s:Az}{es:Ae Ar}{a:Nat}(h:C9 I s es a){n:Nm}(b:BV n):=h.toM.find b
def YF{b:Type}(I:AB)(a:AA<|Nat×AK)(S:b->SV)(R:AB->b->Prop):zP:=λ_ h=>∃x J,h= {r:=S x,AV:=a,J:=J}/\I.le J/\R J x
abbrev AcI:AK:=.cells [.m 2,.m 3] 178
abbrev LB(a b:Ae Ar)(n m:Nat):AA (Nat×AK):=[(1,AcI),(2,.Aq<|.map a n),(3,.Aq<|.map b m)]
def ABM:∀w,(zeroValue 87).run prog w=.ok (.agg (GK Db HY).toArray) w:=by have h:(prog.info? 87).map (λi=>i.zero)=sM (sM<|.agg (GK Db HY).toArray):=kR;let⟨i,a,b⟩:=L9.1 h;intro w;simp[zeroValue,typeInfo,a,b,aT]
def Di:prog.underlying 9=sM .string:=kR
structure Ae3(t kt et:BN)(d:TypeDesc):Prop where
 m:prog.underlying t=sM (.map kt et)
 k:prog.underlying kt=sM d
def Aer:Ae3 175 9 87 .string:=⟨kR,Di⟩
def Aek:Ae3 104 9 53 .string:=⟨kR,Di⟩
def hLk{t l i:BN}{d:TypeDesc}(T:Ae3 t l i d)(I:AB)(c:Bool)(a b g n:Nat){f:Ae Ar}{kv:AF}{j:Nat}{e:AA AF}(h:Instr.findNow d kv f.toList 0=sM (sM (j,.agg e.toArray)))(k:MapKept.IsKey d kv:=by first|exact trivial|exact rfl):Hint:=.BZ (.lookup t (.tmp a) (.tmp b) c) [(a,.m g),(b,.v kv)] [(g,.Aq<|.map f n)] I (cond c (.t [.g<|e.map .v,.v tV])<|.g<|e.map .v) (AfA c (.g<|e.map .v) T.m T.k k (λ_=>rfl) h rfl λm=>by simp[AO,Gw])
def Aez{t l g:BN}{d:TypeDesc}(T:Ae3 t l g d)(I:AB)(c:Bool)(a b i n:Nat){f:Ae Ar}{kv:AF}{e:AA AF}(k:∀w,(zeroValue g).run prog w=.ok (.agg e.toArray) w)(h:Instr.findNow d kv f.toList 0=sM nO)(j:MapKept.IsKey d kv:=by first|exact trivial|exact rfl):Hint:=.BZ (.lookup t (.tmp a) (.tmp b) c) [(a,.m i),(b,.v kv)] [(i,.Aq<|.map f n)] I (cond c (.t [.g<|e.map .v,.v fV])<|.g<|e.map .v) (AfA c (.g<|e.map .v) T.m T.k j (λ_=>rfl) h k λm=>by simp[AO,Gw])
def Qc(s:Az)(n:Nm):Ob×Bool:=match Am s n with|some o=>(o,tT)|none=>(Db,fF)
abbrev APT(I:AB)(a:AA<|Nat×AK)(r:Ob×Bool):zP:=YF I a (λq:Em=>.t [.g<|Fx r.1 q,.v<|vB r.2]) λJ q=>FY J r.1 q
def NY{I}:FY I Db HY:=⟨Dk.nil,Ag _,by show 0<=maxLen;rw[maxLen];omega,rfl⟩
def WJ(I s b k n m a)(r:BV a)(p:∀o,Am s a=sM o->lN o.var.q<=1000000)(h:C9 I s b n):Fn 31 [.p 1 0,.v<|sV a] (LB b k n m) I (APT I (LB b k n m)<|Qc s a) nO:=by
 have g:=h.find r;refine fo func31 λv t w i=> ?_;rw[Qc];cases d:Am s a with
 |some o=>
  let⟨j,q,c,l,u⟩:=g.2 o d;exact gg [(14,hLk Aer I tT 12 13 2 n c)]<|Cz (Yp I o q (p o d) l) λf J hle e=>gG<|dn [] ⟨f,J,rfl,hle,e⟩
 |none=>
  refine gg [(14,Aez Aer I tT 12 13 2 n ABM<|g.1 d)]<|Cz (Yp I Db HY (by show 0<=_;omega) NY) λf J hle e=> ?_;exact gG<|dn [] ⟨f,J,rfl,hle,e⟩
variable{n:Nat}{A:List Nat}{R:Ec}
def Qv{t km m0 m1 m k x kv v sk sx es es' I'}(p:(Mo f).op=.mapUpdate t m k x)(o:ev f.σ.tm m=.m km)(a:ev f.σ.tm k=sk)(j:∀ρ,AO ρ sk=kv)(s:ev f.σ.tm x=sx)(q:∀ρ,AO ρ sx=v)
 (e:∀(w:AN) r,w.heap[r]? =sM (.map es m0)->(Instr.mapUpdate t (.map<|sM r) kv v).run prog w=.ok () {w with heap:=w.heap.setIfInBounds r<|.map es' m1})
 (c:OB f n [(km,.Aq<|.map es m0)] I') (hnext:At F fn n I w ρ A R<|f.act {r:=.v undef,AV:=[(km,.Aq<|.map es' m1)],J:=I'}):At F fn n I w ρ A R f:=by
 refine act (need:=[(km,.Aq<|.map es m0)]) (hobs:=c) (AVT (I:=I') p o a j s q (A9.2 rfl) e) ?_ ?_;rintro h rfl;refine{r:=nA,u:=λy i=> ?_,n:=nA,l:=by simp,le:=AB.Hj _,d:=by simp};rw[A9.1 i];exact⟨A9.2 rfl,λb g=>by rw[(IC<|A9.1 g).2];rfl,nA⟩;rintro h rfl;exact hnext
def C9.up{I J s a ck}(h:C9 I s a ck)(hle:I.le J):C9 J s a ck:=.of (h.toM.mono λ_ _ z=>z.up hle) h.bo
theorem C9.put{I J s a n o q j ck}(h:C9 I s a ck)(hle:I.le J)(c:BV n)(d:FY J o q)(b:a[j]?.map (·.key)=sM (sV n)):C9 J (s.map<|Ml n o) (a.modify j<|AE7 GK n o q) ck:=.of (h.toM.put (λ_ _ z=>z.up hle) c d b)<|h.bo.modify _ _ λ_=>rfl
def T4(I:AB)(x y:Nat)(a b:AT)(r:Bool)(c:decide (a=b)=r)(d:BN:=42):Hint:=
 .BZ (.binOp .neq 42 (.tmp x) (.tmp y) d) [(x,DW a),(y,DW b)] [] I (.v<|vB<|!r)<|AK2 dC λ_ w=>c▸eqL w
def Pw:prog.underlying 175=sM (.map 9 87):=kR
def XQ(s:Az)(n:Nm)(o:Ob):Nat:=match Am s n with
 |none=>10
 |some w=>if w.kind≠o.kind\/w.l≠o.l then 11 else 0
def APr(I:AB)(e:Az)(d:Ae Ar)(m a:Nat):zP:=λ_ h=>∃(b:Ae Ar)(c:Nat)(J:AB),I.le J/\C9 J e b c/\h= {r:=.v<|nV a,AV:=LB b d c m,J:=J}
def ANS(I s c x n m b o q)(v:BV b)(z:lN o.var.q<=1000000)(B:FY I o q)(h:C9 I s c n):Fn 145 [.p 1 0,.v<|sV b,.g<|Fx o q] (LB c x n m) I (APr I (Cn s b o) x m<|XQ s b o) nO:=by
 have l:=h.find v;refine fo func145 λρ C w t=> ?_;rw[Cn,XQ];cases p:Am s b with
 |none=>
  have d:=l.1 p;exact gg [(15,Aez Aer I tT 13 14 2 n ABM d)]<|dn [] ⟨c,n,I,AB.le_refl _,h,rfl⟩
 |some u=>
  let⟨j,E,d,D,k⟩:=l.2 u p;simp only;by_cases e:u.kind=o.kind;by_cases a:u.l=o.l;rw[AY<|by simp[e,a],AY<|by simp[e,a]];refine gg [(15,hLk Aer I tT 13 14 2 n d),(24,EN (u.kind:Int) (o.kind:Int)),(30,T4 I 27 29 u.l o.l tT<|G5 a)]<|Cz (Yp I o q z B) λg J hle i=>gG<|Qv (t:=175) (km:=2) (m0:=n) (m1:=n) (es:=c) (es':=c.modify j<|AE7 GK b o g) (I':=J) (m:=.tmp 35) (k:=.tmp 36) (x:=.tmp 38) (kv:=vS<|Aa b) (v:=.agg (GK o g).toArray) (sk:=.v<|sV b) (sx:=.g<|Fx o g) kR kR kR (λ_=>rfl) kR (λρ=>by rw[ALp];simp[AO];rw[Gw]) (λw r y=>ALP (kv:=vS<|Aa b) (v:=.agg (GK o g).toArray) Pw Di trivial d k w r y) kR ?_;exact gG<|dn [] ⟨_,n,J,hle,h.put hle v i k,rfl⟩;rw[Ac<|.inr a,Ac<|.inr a];exact gg [(15,hLk Aer I tT 13 14 2 n d),(24,EN (u.kind:Int) (o.kind:Int)),(30,T4 I 27 29 u.l o.l fF<|Gp a)]<|dn [] ⟨c,n,I,AB.le_refl _,h,rfl⟩;rw[Ac<|.inl e,Ac<|.inl e];exact gg [(15,hLk Aer I tT 13 14 2 n d),(24,Fs (u.kind:Int) (o.kind:Int))]<|dn [] ⟨c,n,I,AB.le_refl _,h,rfl⟩
theorem Kl{d a b I' l g G k}(h:Fn G a b I' g<|sM k)(i)
 (hend:∀h,g (EL f) h->∃u,Is (f.σ.EV nO (EL f)<|h.rn<|BA i) A=sM u/\GM (Ip u) A/\l d {r:=.v undef,AV:=u,J:=(f.σ.EV nO (EL f)<|h.rn<|BA i).im}) (hobs:FH f n G i b a I':=by exact kR):At F fn n I w ρ A (Ends A I ρ d w l<|sM k) f:=
 ⟨λ_=>by
   rw[<-Vb];exact ACl (c:=ctx prog F fn n I w ρ A) h.out h.Gb i _ hobs (λ_ _ _ w s q=>(w.u s q).1) (λe=>by cases e) λc e h j=>by cases e;let⟨u,m,o,p⟩:=hend h j;exact AZa m rfl o p⟩
def Hg(n:Int):AA PanicEntry:=[{v:=.iface 295<|.agg #[.int iK n],recovered:=fF}]
theorem ATk(n:Int)(w):Calls prog 312 #[.int iK n] w λe a=>e=.panicked (Hg n)/\w=a:=by
 go_enter func312,ntmps312
 go_wp2
 first|exact⟨rfl,rfl,rfl⟩|exact⟨rfl,⟨rfl,rfl⟩⟩|(simp[bodyPost,Hg];done)
def ACC(I:AB)(a:AA<|Nat×AK):zP:=λ_ h=>h= {r:=.v undef,AV:=a,J:=I}
theorem AeC{I}:VZ (ACC I []) [] I:=by refine⟨?_⟩;rintro e h rfl;exact⟨⟨nA,nA,nA,sP,sP⟩,AB.le_refl _⟩
theorem Tt(I)(n:Int):Fn 312 [.v<|nV n] [] I (ACC I []) (sM<|Hg n):=by refine⟨FC.of AeC.EA.out λρ l w d hN g _ _=> ?_,AX.JL func312 kR kR⟩;refine(ATk n w).mono ?_;rintro e p ⟨rfl,rfl⟩;exact⟨_,λ_=>0,rfl,⟨rfl,rfl,rfl,Ag _,λb a _ _=>rfl,nA,(λj b k=>by simp at k),(λi j h=>by simp at h),g,λb o a=>.inl a,λb o a=>IM a⟩,rfl⟩
theorem UP(I):Fn 299 [.v<|.int iK 0] [] I (BW (.t []) I) nO:=fo func299 λρ b w a=>gg [(3,EN 0 0 rfl)]<|fi
theorem Zu(I)(n:Int)(c:n≠0):Fn 299 [.v<|nV n] [] I (ACC I []) (sM<|Hg n):=by
 exact fo func299 λρ d w a=>gg [(3,Fs n 0 c)]<|Kl (Tt I n) [] λh b=>by rw[show h=_ from b];exact⟨[],kR,kR,rfl⟩
def AQS:AA AF:=[.int iK 25,.int iK 26,.int iK 27,.int iK 28,.int iK 29,.int iK 30,.int iK 32,.int iK 33,.int iK 34,.int iK 35,.int iK 36,.int iK 37,.int iK 38,.int iK 39,.int iK 40,.int iK 41,.int iK 42,.int iK 43,.int iK 45,.int iK 46]
def AQT:AA SV:=[.v<|.func (.func 226) #[] #[],.v<|.func (.func 227) #[] #[],.v<|.func (.func 228) #[] #[],.v<|.func (.func 229) #[] #[],.v<|.func (.func 230) #[] #[],.v<|.func (.func 231) #[] #[],.v<|.func (.func 232) #[] #[],.v<|.func (.func 233) #[] #[],.v<|.func (.func 234) #[] #[],.v<|.func (.func 235) #[] #[],.v<|.func (.func 236) #[] #[],.v<|.func (.func 237) #[] #[],.v<|.func (.func 238) #[] #[],.v<|.func (.func 239) #[] #[],.v<|.func (.func 240) #[] #[],.v<|.func (.func 241) #[] #[],.v<|.func (.func 242) #[] #[],.v<|.func (.func 243) #[] #[],.v<|.func (.func 244) #[] #[],.v<|.func (.func 245) #[] #[]]
def API(I:AB):zP:=λa h=>h= {r:=.m a,nb:=[.Ey AQS AQT],J:=I}
def AQc(I):Fn 158 [] [] I (API I) nO:=fo func158 λc b w a=>gG<|dn [108] rfl
structure Bi where
 a:AU Au
 n:Nat
 c:Nat
def Bi.sv(s:Bi):SV:=.v<|.slice s.a s.n s.c
structure Cl where
 im:A6
 ip:Dw
 AD:Nat
 t:AL
 a:DV
 AP:Nat
 BU:Bi
 out:Bi
 Bo:Bi
 BY:Bi
 done:Bool
 o:Lz.Op
 args:Bi
 AR:AH
def Cl.row(c:Cl)(a:SV):AA SV:=Fa c.im c.ip++a::.v (nV c.AD)::(Dr c.t c.a++[.v<|nV c.AP,c.BU.sv,c.out.sv,c.Bo.sv,c.BY.sv,.v<|vB c.done,.v<|nV c.o.code,.v<|nV c.o.a,c.args.sv,.v<|.int .u8 c.AR.toNat])
def Cl.B3(c:Cl):AK:=.cells (c.row<|.p 2 0) 218
abbrev Sl:AK:=.cells [.m 3,.m 4] 178
structure Sm where
 es:Ae Ar
 n:Nat
 ns:Ae Ar
 m:Nat
def IT(c:Cl)(s:Sm):AA (Nat×AK):=[(1,c.B3),(2,Sl),(3,.Aq<|.map s.es s.n),(4,.Aq<|.map s.ns s.m)]
def ABz{a:Type}(I:AB)(s:Sm)(S:a->Cl)(R:AB->a->Prop):zP:=λ_ h=>∃x J,h= {r:=.t [],AV:=IT (S x) s,J:=J}/\I.le J/\R J x
abbrev YG(I:AB)(s:Sm)(c:Cl)(x:AW):zP:=ABz I s (λq:DL=>{c with t:={c.t with c:=Df c.t.c x},a:={c.a with p:=q}}) λJ q=>C0 J (Df c.t.c x) q
def ANi(I s c x)(b:lN c.t.c.stack<=1000000)(h:C0 I c.t.c c.a.p):Fn 304 [.p 1 0,Do x] (IT c s) I (YG I s c x) nO:=fo func304 λρ e w a=>gG<|Cz (AE6 I c.t.c c.a.p x b h) λq J hle d=>gG<|dn [] ⟨q,J,rfl,hle,d⟩
def ACf{e:Type}{a:AA SV}{d:AB}{G:Ba}{s:Sm}{c:Cl}{S:e->Cl}{Q:AB->e->Prop}(h:Fn G a (IT c s) d (ABz d s S Q) nO)(b:FH f n G [] (IT c s) a d)(hnext:∀x J,d.le J->Q J x->At F fn n I w ρ A R (f.out (BA []) {r:=.t [],AV:=IT (S x) s,J:=J})):At F fn n I w ρ A R f:=
 A0 h [] (hobs:=b) λh g=>by obtain⟨x,J,rfl,hle,q⟩:=g;exact hnext x J hle q
def ANa(I s c l)(b:lN c.t.c.stack<=1000000)(h:C0 I c.t.c c.a.p):Fn 295 [.p 1 0,DW l] (IT c s) I (YG I s c<|D1 l) nO:=fo func295 λρ e w a=>gG<|ACf (ANi I s c (D1 l) b h) kR λq J hle d=>gG<|dn [] ⟨q,J,rfl,hle,d⟩
def AbS(I s c)(b:lN c.t.c.stack<=1000000)(h:C0 I c.t.c c.a.p):Fn 226 [.p 1 0] (IT c s) I (YG I s c<|D1 c.t.g.Ad) nO:=fo func226 λρ e w a=>gG<|ACf (ANa I s c c.t.g.Ad b h) kR λq J hle d=>gG<|dn [] ⟨q,J,rfl,hle,d⟩
def AbO(I s c)(b:lN c.t.c.stack<=1000000)(h:C0 I c.t.c c.a.p):Fn 227 [.p 1 0] (IT c s) I (YG I s c<|D1 c.t.g.A5) nO:=fo func227 λρ e w a=>gG<|ACf (ANa I s c c.t.g.A5 b h) kR λq J hle d=>gG<|dn [] ⟨q,J,rfl,hle,d⟩
def AP1(I:AB)(s:Sm)(c:Cl):zP:=λ_ h=>h= {r:=.v undef,AV:=IT c s,J:=I}
def AcC(I s c l)(f:Mh c.t.g)(e:B9 l)(d:(Et c.t.g l).2=0):Fn 297 [.p 1 0,DW l] (IT c s) I (ABz I s (λ_:Unit=>{c with t:={c.t with g:=(Et c.t.g l).1}}) λ_ _=>True) nO:=by have a:=ANs I c.t.g l f e;rw[d]at a;generalize(Et c.t.g l).1=g at a;exact fo func297 λi h w b=>gG<|call a<|gG<|call (UP I)<|gG<|dn [] ⟨(),I,rfl,AB.le_refl _,trivial⟩
def AcD(I s c l)(j:Mh c.t.g)(i:B9 l)(b:(Et c.t.g l).2≠0):Fn 297 [.p 1 0,DW l] (IT c s) I (AP1 I s c) (sM<|Hg (Et c.t.g l).2):=by
 have a:=ANs I c.t.g l j i;generalize(Et c.t.g l).2=e at a b;generalize(Et c.t.g l).1=g at a;exact fo func297 λm k w d=>gG<|call a<|gG<|Kl (Zu I e b) [] λh f=>by rw[show h=_ from f];exact⟨IT c s,kR,kR,rfl⟩
end
section
open Go.AX Go.Maps Go.RowKit Go.Shelf Go.Sort Lz
def lB{F B}(h:(prog.funcs[F]?)=sM {B with name:=((prog.funcs[F]?).getD Al).name}:=by kernel_rfl)(a:(((prog.funcs[F]?).getD Al).name== "runtime.NumGoroutine")=fF:=by decide+kernel):Bears prog F B:=⟨_,a,h⟩
def AOw:Ren where
 f:=λx=>match x with|7=>272|10=>344|n=>n
 t:=λx=>match x with|23=>378|26=>3|3=>4|28=>366|0=>0|27=>365|33=>419|4=>4|n=>n
 g:=λx=>have n:=x;n
def AeT:SlLaysZI.n7 prog AOw:=by constructor<;>first|exact lB|(intros;exact kR)
def AOy:Ren where
 f:=λx=>match x with|6=>271|8=>342|9=>343|11=>374|13=>376|12=>375|23=>408|24=>328|14=>399|15=>400|16=>401|17=>402|18=>403|19=>404|20=>405|21=>406|22=>407|25=>415|26=>416|27=>417|28=>418|29=>419|30=>324|31=>421|n=>n
 t:=λx=>match x with|26=>3|28=>366|24=>100|0=>0|3=>3|37=>302|48=>423|50=>227|4=>4|40=>478|39=>477|45=>221|5=>5|9=>9|51=>491|55=>495|57=>500|58=>208|33=>419|n=>n
 g:=λx=>have n:=x;n
def AeW:SlLaysZI.n6 prog AOy:=by constructor<;>first|exact lB|(intros;exact kR)
def AeV:Ren where
 f:=λx=>match x with|5=>343|8=>376|7=>375|19=>408|20=>328|10=>399|11=>400|12=>401|13=>402|14=>403|15=>404|16=>405|17=>406|18=>407|30=>415|31=>416|32=>417|33=>418|34=>419|35=>324|40=>421|n=>n
 t:=λx=>match x with|23=>100|25=>3|3=>3|32=>302|22=>100|0=>0|44=>423|46=>227|4=>4|36=>478|35=>477|41=>221|5=>5|9=>9|53=>491|57=>495|63=>500|64=>208|n=>n
 g:=λx=>have n:=x;n
def AOx:SlLaysM.n5 prog AeV:=by constructor<;>first|exact lB|(intros;exact kR)
def AeY(m):AnyZI.SortsIn prog AOy Fence.wide m:=
 ⟨λB3 c a e W d hblk b=>callsIn_wide.2<|AnyM.slices_Sort_int AOx B3 c a e W d hblk b,
  λp a W=>callsIn_wide.2<|AnyM.slices_Sort_int_none AOx p a W⟩
def AeX(B b j:Nat)(c:DataW Nat)(R:AF->AU (DataW Nat×AA MemPlace))(w:AN)(m:B<w.heap.size)(d:w.cell? ⟨B,0,nO⟩=sM (.map<|sM b))(h:w.ownsMap prog 3 R b j c)(g:Maps.size c<=maxLen)(a:Maps.size c*8<=140737488355328):
 Calls prog 271 #[.func (.func 344) #[] #[.pointer<|aP B]] w λe k=>∃(v:AF)(f:AA Int),e=.returned v/\f.Perm (intKeys c)/\
  k.ownsRow w.heap.size 3 1 v (lN f) ((f.mergeSort λx y=>decide<|x<=y).map encZ)/\(v=.slice nO 0 0↔f=[])/\Below w.heap.size w k:=by
 refine(callsIn_wide (n:=6)).1 ?_;have i:SeqGives Fence.wide 3 prog 344 #[.pointer<|aP B] encZ (λf=>f.Perm<|intKeys c) (Maps.size c) w:=
  AnyZI.keys_gives (ρ:=AOw) {AeT with} Fence.wide _ trivial rfl oG B b j c _ m d h
 exact AnyZI.sorted_in AeW Fence.wide 6 trivial trivial trivial trivial rfl oG (AeY _) (JL func343 kR kR) 344 #[.pointer<|aP B] trivial (JL func344 kR kR) _ _ g a _ i
end
section
open Go.AX Go.Maps Go.RowKit Go.Shelf Lz
def lB2{F B}(h:(prog.funcs[F]?)=sM {B with name:=((prog.funcs[F]?).getD Al).name}:=by kernel_rfl)(a:(((prog.funcs[F]?).getD Al).name== "runtime.NumGoroutine")=fF:=by decide+kernel):Bears prog F B:=⟨_,a,h⟩
def ARk:Ren where
 f:=λx=>match x with|5=>116|7=>171|n=>n
 t:=λx=>match x with|23=>175|25=>9|3=>87|4=>4|20=>20|n=>n
 g:=λx=>have n:=x;n
def ARi:SlLaysW.n5 prog ARk:=by constructor<;>first|exact lB2|(intros;exact kR)
def ARn:Ren where
 f:=λx=>match x with|5=>117|7=>171|n=>n
 t:=λx=>match x with|23=>176|25=>42|3=>38|4=>4|20=>20|n=>n
 g:=λx=>have n:=x;n
def ARl:SlLaysW.n5 prog ARn:=by constructor<;>first|exact lB2|(intros;exact kR)
def AIV{F I l}{w:AN}{a r c n}{need:AA<|Nat×AK}(u:Holds w I)(t:Calls prog F #[.map<|sM r] w λe k=>e=.returned (.map<|sM w.heap.size)/\k=w.alloc (.map c n)):
 Calls prog F #[.map<|sM r] w λe k=>∃h q,h= {r:=.m a,nb:=[.Aq<|.map c n],J:=I}/\After I l w k a q h/\e=.returned (AO (h.Bh l a q) h.r):=by
 refine t.mono ?_
 rintro e k ⟨rfl,rfl⟩
 have d:Bl w (w.alloc<|.map c n):=⟨rfl,rfl,rfl,by show _<=(w.heap.push _).size;rw[NZ];exact Cv _,λx s=>(MapKept.heap_alloc w _).2 x s⟩
 have f:Ab.Bh {r:=.m a,nb:=[.Aq<|.map c n],J:=I} l a (λ_=>w.heap.size) a=w.heap.size:=by
  have:=Mm (h:={r:=.m a,nb:=[.Aq<|.map c n],J:=I}) (ρ:=l) (key:=a) (j:=0) (q:=λ_=>w.heap.size) (b:=.Aq<|.map c n) rfl
  rw[IB]at this
  exact this
 refine⟨{r:=.m a,nb:=[.Aq<|.map c n],J:=I},λ_=>w.heap.size,rfl,⟨d.os,d.tape,d.output,d.size,λx s _ _=>d.block x s,nA,λj y g=> ?_,λi j v g _=>by simp at v g;omega,d.Eo u,λb o m=>.inl m,λb o m=>IM m⟩,?_⟩
 .cases j with
  |zero=>cases g;exact⟨(MapKept.heap_alloc w _).1,rfl,.inl<|Ag _⟩
  |succ j=>simp at g
 .simp[AO,f]
def AB0(I:AB)(b:Ae Ar)(n:Nat):zP:=λa h=>h= {r:=.m a,nb:=[.Aq<|.map b n],J:=I}
def AOh{I:AB}{f:Ae Ar}{n:Nat}{c:AA<|Nat×AK}:∀a h,AB0 I f n a h->h.LD a (c.map (·.1))/\I.Da h.J:=by rintro a h rfl;refine⟨⟨λk d=> ?_,nA,λb g k d=> ?_,sP,sP⟩,AB.Hj _⟩;simp[SV.A3]at d;subst d;right;show(CX k [AK.Aq<|Obj.map f n]<|k+0).isSome;rw[Nv];rfl;simp at g;subst g;cases d
def ARj(I a n):Fn 116 [.m 1] [(1,.Aq<|.map a n)] I (AB0 I a n) nO:=by refine⟨FC.of AOh λf e w b hN c _ _=> ?_,JL func116 kR kR⟩;exact AIV (need:=[]) c<|AnyW.maps_Clone ARi (f 1) a n w<|hN (1,.Aq<|.map a n) sP _ rfl
def ARm(I b a n)(e:I.Ak b=sM (.map a n)):Fn 117 [.v<|.map<|sM b] [] I (AB0 I a n) nO:=by refine⟨FC.of AOh λg f w d hN c _ _=> ?_,JL func117 kR kR⟩;exact AIV (need:=[]) c<|AnyW.maps_Clone ARl b a n w<|c.2 b _ e
end
end Go.Proofs.YtomehhepbeiinaaGreatDoor
namespace Go.AX
def AB.Um(I:AB)(b:Nat)(o:Obj):Prop:=I b=sM o\/I.B8 b o
def AB.Um.CW{I:AB}{b o}(h:I.Um b o):I.CW b=sM o:=h.elim AB.Sj AB.B8.CW
def AB.Um.up{I J:AB}{b o}(h:I.Um b o)(k:I.le J):J.Um b o:=h.imp (k b o)<|k.Ak b o
end Go.AX
namespace Go.Proofs.YtomehhepbeiinaaGreatDoor
open Tryz
open Go.AX Lz
def BQ(n:Nm):AF:=vS<|Aa n
structure NsI(I:AB)(ns:AA Nm)(a:AU Au)(c:Nat):Prop where
 cap:lN ns<=c
 max:c<=maxLen
 at_:0<lN ns->∃b AE,a=sM ⟨b,0,nO⟩/\I.Um b (.cells (ns.map BQ++AE).toArray 9 (0,0))
def AIY:∀a b:Nm,Gu a b<0↔Dz a b
 |[],[]=>by simp[Gu,Dz]
 |[],_::_=>by simp[Gu,Dz]
 |_::_,[]=>by simp[Gu,Dz]
 |x::a,y::b=>by simp[Gu,Dz];by_cases h:x<y;simp[h];by_cases c:y<x;simp[h,c,show¬x=y by omega];have:x=y:=oG;subst this;simp[AIY a b]
def ACu:∀a b:Nm,Gu a b=0↔a=b
 |[],[]=>by simp[Gu]
 |[],_::_=>by simp[Gu]
 |_::_,[]=>by simp[Gu]
 |x::a,y::b=>by simp[Gu];by_cases h:x<y;simp[h,show¬x=y by omega];by_cases c:y<x;simp[h,c,show¬x=y by omega];have:x=y:=oG;subst this;simp[ACu a b]
abbrev QM(l:AA Nm):Prop:=l.Pairwise λa b=>Dz a b
def Mj(l:AA Nm)(k:Nm):Nat:=lN<|l.takeWhile λx=>Dz x k
def AZ6{l k i}(a:i<=lN l)(c:∀j x,j<i->l[j]? =sM x->Dz x k)(d:∀x,l[i]? =sM x->Dz x k=fF):Mj l k=i:=by
 induction l generalizing i with
 |nil=>simp at a;subst a;rfl
 |cons y l e=>
  rw[Mj];cases i with
  |zero=>rw[RR,d y rfl];rfl
  |succ i=>
   rw[RR,c 0 y oG rfl];simp[ME,FM];have:=e (i:=i) (by simpa using a) (λj x f b=>c (j+1) x oG<|by simpa using b) (λx b=>d x<|by simpa using b);rw[Mj]at this;rw[this]
def Adb{n:Nat}(h:n<=1000000000):IntKind.u64.wrap (n:Int)=(n:Int):=by show(n:Int)%2^64=_;omega
def Abk{I}{n:Nat}(x y):∀w,EJ w I->∃a,((do eqGuard .shr 302 x y (.int .u64 (n:Int))<|.int .u64 1;binOp .shr 302 (.int .u64 (n:Int)) (.int .u64 1):Sem AF)).run prog w=.ok (AO id<|.v<|.int .u64 ((n/2:Nat):Int)) a/\Bl w a:=λw _=>
 ⟨w,by
   have b:(eqGuard .shr 302 x y (.int .u64 (n:Int))<|.int .u64 1).run prog w=.ok () w:=rfl;simp[rB,b,aK];have c:(binOp .shr 302 (.int .u64 (n:Int))<|.int .u64 1)=Op.shift .shr .u64 (n:Int) .u64 1:=rfl;rw[c,shift_shr _ _ _ _ dC dC];simp[AO],Bl.refl w⟩
def ARI(I:AB)(a:AU Au)(n c:Nat)(key:Nm)(i j:Nat):Hd where
 Cd:=[(0,.v<|.slice a n c),(1,.v<|sV key),(2,.v<|.func (.func 106) #[] #[]),(8,.v<|iV n),(9,.v<|iV i),(10,.v<|iV j)]
 Cc:=[]
 J:=I
abbrev APQ(I:AB)(b:AA Nm)(a:Nm):zP:=He I (λp:Nat×Bool=>.t [.v<|iV p.1,.v<|vB p.2]) λ_ p=>p.1<=lN b/\(QM b->p=(Mj b a,decide<|b[Mj b a]? =sM a))
structure BsP(I:AB)(ns:AA Nm)(key:Nm)(x:AB×Nat×Nat):Prop where
 le:I.le x.1
 ij:x.2.1<=x.2.2
 jn:x.2.2<=lN ns
 lo:QM ns->∀q y,q<x.2.1->ns[q]? =sM y->Dz y key
 hi:QM ns->∀q y,x.2.2<=q->ns[q]? =sM y->Dz y key=fF
def AJH(I)(R:Pow I)(d:AA Nm)(a c key)(W:NsI I d a c)(V:∀n∈d,CB n)(S:CB key)(hl:lN d<=1000000):Fn 105 [.v<|.slice a (lN d) c,.v<|sV key,.v<|.func (.func 106) #[] #[]] [] I (APQ I d key) nO:=by
 refine fo func105 λρ U w k=> ?_;refine gG ?_;refine loop (ι:=AB×Nat×Nat) (BsP I d key) (λx=>x.2.2-x.2.1) (λx=>ARI x.1 a (lN d) c key x.2.1 x.2.2) 300 [] (I,0,lN d) ⟨AB.le_refl _,Bm _,Ag _,λ_ q y h=>absurd h<|Xx _,λ_ q y h s=>by have:=(Ci.1 s).1;have:lN d<=q:=h;omega⟩ ?_;rintro⟨J,i,j⟩ ⟨hle,O,m,G,F⟩ again T;simp only at hle O m G F⊢;by_cases Z:i<j;have N:(i+j)/2<lN d:=oG;have u:d[(i+j)/2]? =sM d[(i+j)/2]:=BS N;obtain⟨b,A,rfl,Q⟩:=W.at_ oG;have H:=(Q.up hle).CW;have f:((d.map BQ++A).toArray)[0+(i+j)/2*1]? =sM (BQ d[(i+j)/2]):=by rw[Mv,FE,TG,Gj<|by simpa using N,GB,u];rfl
 have v:=V _<|DR N;generalize aa:d[(i+j)/2]=x at u f v;refine gg [(17,tH i j),(20,hW ((i:Int)+(j:Int)) ((i+j:Nat):Int)),(21,.eq (Value.int .u64<|IntKind.u64.wrap ((i+j:Nat):Int)) (.int .u64 ((i+j:Nat):Int))<|by rw[Adb oG]),(22,.op J _ _<|Abk (n:=i+j) (.tmp 21)<|.const<|.int .u64 1),(23,hW (((i+j)/2:Nat):Int) (((i+j)/2:Nat):Int) rfl),(27,Br J Jr b 0 (lN d) c ((i+j)/2) N),(28,.Kz J _ _<|IZ (I:=J.CW) Di rfl H f)]<|Cz (AL2 J (R.up hle) x key v S) λ_ E g _=> ?_;have K:=AIY x key;have M:QM d->∀p q y z,p<q->d[p]? =sM y->d[q]? =sM z->Dz y z:=λl p q y z P hp D=>by obtain⟨X,rfl⟩:=Ci.1 hp;obtain⟨Y,rfl⟩:=Ci.1 D;exact Lx.1 l p q X Y P
 by_cases B:Gu x key<0;refine gg [(31,hT (Gu x key<0) B),(33,hW ((((i+j)/2:Nat):Int)+1) (((i+j)/2+1:Nat):Int))]<|bk again [] (E,(i+j)/2+1,j) ⟨hle.trans g,(by show(i+j)/2+1<=j;omega),m,λl q y D s=> ?_,F⟩;have D:q<(i+j)/2+1:=D;have o:=K.1 B;rcases Jj q ((i+j)/2)with h|h;exact UO (M l q _ y x h s u) o;have:q=(i+j)/2:=oG;rw[this,u]at s;cases s;exact o;refine gg [(31,hF (Gu x key<0) B)]<|bk again [] (E,i,(i+j)/2) ⟨hle.trans g,(by show i<=(i+j)/2;omega),(by show(i+j)/2<=lN d;omega),G,λl q y D s=> ?_⟩;have D:(i+j)/2<=q:=D;have o:Dz x key=fF:=by
  cases e:Dz x key with
  |false=>rfl
  |true=>exact(B<|K.2 e).elim
 rcases Jj ((i+j)/2) q with h|h;cases e:Dz y key with
 |false=>rfl
 |true=>have:=UO (M l _ q x y h u s) e;rw[this]at o;cases o
 have:q=(i+j)/2:=oG;rw[this,u]at s;cases s;exact o
 .have L:i=j:=oG;subst L;have t:QM d->Mj d key=i:=λl=>AZ6 m (λq y D s=>G l q y D s) λy s=>F l i y (Ag _) s;by_cases C:i<lN d
  .have u:d[i]? =sM d[i]:=BS C;obtain⟨b,A,rfl,Q⟩:=W.at_ oG;have H:=(Q.up hle).CW;have f:((d.map BQ++A).toArray)[0+i*1]? =sM (BQ d[i]):=by rw[Mv,FE,TG,Gj<|by simpa using C,GB,u];rfl
   have v:=V _<|DR C;generalize d[i]=x at u f v;refine gg [(17,fH i i),(38,tH i<|lN d),(43,Br J Jr b 0 (lN d) c i C),(44,.Kz J _ _<|IZ (I:=J.CW) Di rfl H f)]<|Cz (AL2 J (R.up hle) x key v S) λ_ E g _=> ?_;by_cases B:Gu x key=0
   .refine gg [(47,hE (Gu x key) 0 B)] ?_;exact done func105 k [] (h:={r:=.t [.v<|iV i,.v tV],J:=E}) kR ⟨(i,tT),E,rfl,hle.trans g,m,λl=>by rw[t l,u,(ACu x key).1 B];simp⟩
   .exact gg [(47,hN (Gu x key) 0 B)]<|done func105 k [] (h:={r:=.t [.v<|iV i,.v fV],J:=E}) kR ⟨(i,fF),E,rfl,hle.trans g,m,λl=>by rw[t l,u];have: ¬x=key:=λe=>B<|(ACu x key).2 e;simp[this]⟩
  .exact gg [(17,fH i i),(38,fH i<|lN d)]<|done func105 k [] (h:={r:=.t [.v<|iV i,.v fV],J:=J}) kR ⟨(i,fF),J,rfl,hle,m,λl=>by rw[t l,Jh oG];simp⟩
end Go.Proofs.YtomehhepbeiinaaGreatDoor
