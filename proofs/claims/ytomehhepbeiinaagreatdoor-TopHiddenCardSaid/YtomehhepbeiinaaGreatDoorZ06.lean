/- Part 6 of the proof of TopHidden. No conditions. -/
import Derived.Test.YtomehhepbeiinaaGreatDoorZ05
import Derived.Shelf.Strconv.Itoa4
import Derived.Shelf.Strconv.ParseIntPublic10
import Derived.Shelf.Lay
set_option maxRecDepth 100000
set_option maxHeartbeats 4000000
set_option linter.all false
open Go renaming run_underlying->rU
open Go.Result renaming andThen_ok->aK,andThen->aT
open Go.Sem renaming run_bind->rB
open UInt8 renaming ofNat->uN
open List renaming replicate->lP,range->lR
open List renaming length->lN
open Option renaming some->sM,none->nO
open Bool renaming true->tT,false->fF
open Go.Value renaming string->vS,bool->vB
open Go.IntKind renaming i64->iK
namespace Go.Proofs.YtomehhepbeiinaaGreatDoor
open Tryz
section
open Go.AX
def Dk.Wr{I a n f}(h:Dk I a nO n f):n=0:=h.at_.elim id λ⟨b,d,arr,e,g,c,_⟩=>by cases c
def M4{I a n c e d b}:∀h,VU I a n c e [] d h->h.wf I a b []:=QO<|.inl rfl
def AP6(I a)(n c:Nat)(o)(g:Int)(i:Int)(j k l)(p:n<=c)(C:n<=1000000)(h:Dk I 5 a n o):Fn 196 [.v<|.slice a n c,.g [.v<|nV g,.v<|nV i,.v<|vS j,.v<|vS k,.v<|vS l]] [] I (TS I 5 (n+1)<|o++[.int iK g,.int iK i,vS j,vS k,vS l]) nO:=by have y:min n n=n:=Xw n;refine Ju 12 func196 ntmps196 rfl rfl kR λD z w s=>gG<|call (Vz I a n c n p) ?_;rw[y];refine gG ?_;refine act (need:=[(156,.cells [.v<|nV g,.v<|nV i,.v<|vS j,.v<|vS k,.v<|vS l] 51)]) (MM Be (x:=.s 156 0 1 1) (CQ:=o) (news:=[.int iK g,.int iK i,vS j,vS k,vS l]) LU kR rfl (h.reads (c:=n)) (Ez (A9.2 rfl) rfl (by intro v m;simp at m;rcases m with rfl|rfl|rfl|rfl|rfl<;>rfl)) (Ag _) (Xv _) (λe=>by subst e;exact h.Wr) oG) M4 ?_;rintro A ⟨d,f,t,u,B,rfl⟩;refine gG<|B4 164 I (vs:=(o++[.int iK g,.int iK i,vS j,vS k,vS l])++f) (e:=51) λb J hle _ x=>gG<|dn [] ⟨_,d,J,rfl,hle,t,u,Dk.Og x (by simp[h.len,Gm]) ?_⟩ (h:={r:=.v<|.slice (aP b) (n+1) d,J:=J});intro v m;rcases Bc.1 m with q|q;exact h.one v q;simp at q;rcases q with rfl|rfl|rfl|rfl|rfl<;>rfl
def YM(I a)(n c:Nat)(s)(j:Int)(k:Int)(l:Int)(m:Int)(o)(g f:Nat)(t:n<=c)(E:n<=1000000)(h:Dk I 5 a n s):Fn 190 [.v<|.slice a n c,.g [.v<|nV j,.v<|nV k,.v<|nV l,.v<|.int .u8 m,.v<|.slice o g f]] [] I (TS I 5 (n+1)<|s++[.int iK j,.int iK k,.int iK l,.int .u8 m,.slice o g f]) nO:=by have A:min n n=n:=Xw n;refine Ju 12 func190 ntmps190 rfl rfl kR λF B w u=>gG<|call (Yr I a n c n t) ?_;rw[A];refine gG ?_;refine act (need:=[(156,.cells [.v<|nV j,.v<|nV k,.v<|nV l,.v<|.int .u8 m,.v<|.slice o g f] 65)]) (MM Be (x:=.s 156 0 1 1) (CQ:=s) (news:=[.int iK j,.int iK k,.int iK l,.int .u8 m,.slice o g f]) AHU kR rfl (h.reads (c:=n)) (Ez (A9.2 rfl) rfl (by intro v p;simp at p;rcases p with rfl|rfl|rfl|rfl|rfl<;>rfl)) (Ag _) (Xv _) (λe=>by subst e;exact h.Wr) oG) M4 ?_;rintro C ⟨d,i,x,y,D,rfl⟩;refine gG<|B4 164 I (vs:=(s++[.int iK j,.int iK k,.int iK l,.int .u8 m,.slice o g f])++i) (e:=65) λb J hle _ z=>gG<|dn [] ⟨_,d,J,rfl,hle,x,y,Dk.Og z (by simp[h.len,Gm]) ?_⟩ (h:={r:=.v<|.slice (aP b) (n+1) d,J:=J});intro v p;rcases Bc.1 p with q|q;exact h.one v q;simp at q;rcases q with rfl|rfl|rfl|rfl|rfl<;>rfl
variable{ds:List Deferred}{F:FuncId}{fn:Func}{n:Nat}{I:AB}{w:World}{ρ:Nat->Nat}{A:List Nat}{R:Ec}{f:Bv}
def doneD(j:prog.funcs[F]? =sM fn){a d}(b:100<=a)(i){h}(hend:KY Bt fn.results.toList A i a f=sM h)(g:d a h)
 (e:∀(tmps:Ae AF)(c:AN)(v:AF),(results fn tmps).run prog c=.ok v c->Rf prog I ρ a w A d nO (.returned v) c->Leaves prog fn tmps (Rf prog I ρ a w A d nO) ds .returning c):AtD ds F fn n I w ρ A (Ends A I ρ a w d nO) f:=
 ⟨λ_=>by rw[<-Vb];exact Aaq Be j i hend b g e⟩
def AJm:AA Item->AU (Ae Bw)
 | .code (.region _ Aj fF)::_=>sM Aj
 |_=>nO
def ASV(g:prog.funcs[F]? =sM fn)(s a x y B)
 (d:f.rg.isNone) (b:((AJm f.todo).map λAj=>(Aj.size,(Aj[0]?).map λo=>(o.op,o.dst,o.guard),(Aj[1]?).map λo=>(o.op,o.dst,o.guard)))=sM (2,sM (.makeFunc (.func a) #[] #[.tmp x,.tmp y],sM s,nO),sM (.defer {callee:=.value<|.tmp s,args:=#[],argTypes:=B},nO,nO))) (z:Nat.blt s n)
 (h:∀u v:AF,AtD [{target:=.fn (.func a) #[u,v],args:=#[]}] F fn n I w ρ A R ⟨f.σ.put (sM s)<|.fn (.func a) [] [f.σ.tm x,f.σ.tm y],f.todo.tail,nO,f.Bq⟩):At F fn n I w ρ A R f:=by
 let⟨Aj,c,e⟩:=L9.1 b;simp only[QC]at e;let⟨l,m,p⟩:=e;let⟨C,q,q0⟩:=L9.1 m;let⟨o1,r,q1⟩:=L9.1 p;simp only[QC]at q0 q1;obtain⟨tag,k,i⟩:∃tag k,f.todo=.code (.region tag Aj fF)::k:=by unfold AJm at c;split at c;rename_i tag j k t;cases c;exact⟨tag,k,t⟩;cases c
 rw[i]at h;exact⟨λ_=>ASW (c:=ctx prog F fn n I w ρ A) g rfl d i l q r q0.2.2 q1.2.2 q0.2.1 q1.2.1 z q0.1 q1.1 rfl rfl λu v=>(h u v).out g⟩
end
section
open Go.AX Go.RowKit
def AJe{w a}(h:Below w.heap.size w a):Bl w a:=⟨h.os,h.tape,h.output,h.size,h.block⟩
def MX{F f args av r v I}(s:prog.funcs[F]? =sM f)(a:f.body.isSome)(k:(f.name== "runtime.NumGoroutine")=fF)
 (q:∀d,(BB d args).toArray=av) (y:∀d,AO d r=v) (x:r.A3=[]) (h:∀w,EJ w I->Calls prog F av w λe n=>e=.returned v/\Below w.heap.size w n):Fn F args [] I (BW r I) nO:=by
 refine⟨FC.of (AOj x).EA.out λd z w m _ l _ _=> ?_,AX.JL s a k⟩;rw[q d];refine(h w l.1).mono ?_;rintro e n ⟨rfl,p⟩;have c:=AJe p;refine⟨{r:=r,J:=I},λ_=>0,rfl,⟨c.os,c.tape,c.output,c.size,λb a _ _=>c.block b a,nA,(λj b u=>by simp at u),(λi j t=>by simp at t),c.Eo l,λb o a=>.inl a,λb o a=>IM a⟩,?_⟩;simp[y]
def DW(a:Lz.AT):SV:=.g [.v<|vS<|AJ a.1,.v<|vS<|AJ a.2]
def Jv(s:Lz.St):SV:=.g [.v<|vS<|AJ s.Ad.1,.v<|vS<|AJ s.Ad.2,.v<|vS<|AJ s.A5.1,.v<|vS<|AJ s.A5.2]
def NB(I a b)(c:B9 a)(d:B9 b):Fn 15 [DW a,DW b] [] I (BW (.v<|vB<|Lz.fl a b) I) nO:=
 MX func15 kR kR (λ_=>rfl) (λ_=>rfl) rfl λw _=>AUN a b c d w
def UU(I a)(b:B9 a):Fn 189 [DW a] [] I (BW (DW<|Lz.A4 a) I) nO:=
 MX func189 kR kR (λ_=>rfl) (λ_=>rfl) rfl λw _=>AYu a b w
def AD8(I a b)(c:B9 a)(d:B9 b):Fn 36 [DW a,DW b] [] I (BW (DW<|Lz.jn a b) I) nO:=
 MX func36 kR kR (λ_=>rfl) (λ_=>rfl) rfl λw _=>AWI a b c d w
def AYN(I a b)(c:B9 a)(d:B9 b):Fn 292 [DW a,DW b] [] I (BW (DW<|Lz.mt a b) I) nO:=
 MX (func292) kR kR (λ_=>rfl) (λ_=>rfl) rfl λw _=>AYO a b c d w
def Zm(I a)(b:B9 a):Fn 136 [DW a] [] I (BW (.v<|vB<|Lz.A4 a==a) I) nO:=
 MX func136 kR kR (λ_=>rfl) (λ_=>rfl) rfl λw _=>Aax a _ b rfl w
end
section
open Go.AX Go.RowKit Lz
section
def Fn.same{F g need I r}(h:Fn F g need I (λ_ h=>h= {r:=r,AV:=need,J:=I}) nO)(x:SL need):Fn F g need I (BW r I) nO:=by
 refine⟨λρ v w u hN E z t=>(h.out ρ v w u hN E z t).mono ?_,h.Gb⟩;rintro e O ⟨N,q,⟨rfl,M,hle⟩,A,H⟩;have B:Ab.Bh {r:=r,AV:=need,J:=I} ρ v q=ρ:=by funext k;exact F7 (by rw[CX];split<;>rfl)
 refine⟨{r:=r,J:=I},q,⟨rfl,⟨M.r,nA,nA,Bm _,.nil⟩,hle⟩,⟨A.os,A.tape,A.output,A.size,λb y _ G=> ?_,nA,(λj b L=>by simp at L),(λi j K=>by simp at K),A.H2,A.fresh,A.IX⟩,H⟩;by_cases hex:∃d∈need,ρ d.1=b;obtain⟨d,a,rfl⟩:=hex;let⟨o,D⟩:=AK.UI (EQ.1 x d a) ρ;have C:=A.AV d a o (by rwa[B]);rw[B]at C;rw[C,hN d a o D];exact A.A2 b y (λd a e=>hex ⟨d,a,e⟩) G
variable{F:FuncId}{fn:Func}{n:Nat}{I:AB}{w:World}{ρ:Nat->Nat}{A:List Nat}{R:Ec}{f:Bv}
def Mh(s:Lz.St):Prop:=B9 s.Ad/\B9 s.A5
variable{s:Lz.St}{l:AT}{p:UInt8}{c q i j:Nat}
def WK(s:Lz.St):AK:=.cells [.v<|vS<|AJ s.Ad.1,.v<|vS<|AJ s.Ad.2,.v<|vS<|AJ s.A5.1,.v<|vS<|AJ s.A5.2] 44
def Qs(l:AT):AK:=.cells [.v<|vS<|AJ l.1,.v<|vS<|AJ l.2] 42
def quF(c:Nat):Ba:=[386,387,358,360].getD c 0
def Ud(c:Nat)(s:Lz.St)(l:AT)(p:AH):Bool:=match c with|0=>fl l s.A5|1=>fl s.Ad l|2=>fb s.Ad l p|_=>fb l s.A5 p
def quN(c o:Nat)(s:Lz.St)(l:AT)(p:AH):AA (Nat×AK):=match c with
 |0=>[(o,Qs l),(o+1,WK s)]|1=>[(o,WK s),(o+1,Qs l)]
 |2=>[(o,WK s),(o+1,Qs l),(o+2,.cells [.v<|.int .u8 p.toNat] 5)]|_=>[(o,Qs l),(o+1,WK s),(o+2,.cells [.v<|.int .u8 p.toNat] 5)]
def quA(c o:Nat):AA SV:=((lR<|if c<2 then 2 else 3).map λk=>.p (o+k) 0)
def Ue(c:Nat):Int:=if c=0\/c=3 then-4 else-3
def AaJ(o:c<4)(m:Mh s)(x:B9 l):Fn (quF c) (quA c 1) (quN c 1 s l p) I (BW (.v<|vB<|Ud c s l p) I) nO:=by
 have g:=λa b h k=>MX (I:=I) (r:=.v<|vB<|fb a b p) (args:=[DW a,DW b,.v<|.int .u8 p.toNat]) func359 kR kR (λ_=>rfl) (λ_=>rfl) rfl λw _=>ATp a b h k _ p rfl w;obtain rfl|rfl|rfl|rfl:c=0\/c=1\/c=2\/c=3:=oG;exact Fn.same (by refine fo func386 λρ e w d=>gG<|call (NB I l s.A5 x m.2)<|gG<|dn [] rfl) rfl
 exact Fn.same (by refine fo func387 λρ e w d=>gG<|call (NB I s.Ad l m.1 x)<|gG<|dn [] rfl) rfl
 exact Fn.same (by refine fo func358 λρ e w d=>gG<|call (g s.Ad l m.1 x)<|gG<|dn [] rfl) rfl
 exact Fn.same (by refine fo func360 λρ e w d=>gG<|call (g l s.A5 x m.2)<|gG<|dn [] rfl) rfl
def c1(q:Nat):Nat:=[0,0,1,2,3].getD q 0
def c2(q:Nat):Nat:=[0,1,0,0,1].getD q 0
def nQ(q:Nat):Nat:=if q=0 then 1 else 2
def item(c o:Nat):AA SV:=[.fn (.func<|quF c) []<|quA c o,.v<|.int iK<|Ue c]
def AEm(q:Nat)(s:Lz.St)(l:AT)(p:AH):AA (Nat×AK):=
 (1,.cells (item (c1 q) 2++if q=0 then[]else item (c2 q) 5) 444)::(quN (c1 q) 2 s l p++if q=0 then[]else quN (c2 q) 5 s l p)
def QY(q:Nat)(s:Lz.St)(l:AT)(p:AH):Int:=if Ud (c1 q) s l p then(if q=0 then 0 else if Ud (c2 q) s l p then 0 else Ue<|c2 q)else Ue<|c1 q
def ATv(I:AB)(q:Nat)(s:Lz.St)(l:AT)(p:AH)(i:Nat):Hd where
 Cd:=[(5,.s 1 0 (nQ q)<|nQ q),(6,.v<|iV<|nQ q),(7,.v<|iV i)]
 Cc:=AEm q s l p
 J:=I
def m5(h:q<5):q=0\/q=1\/q=2\/q=3\/q=4:=oG
def qj(j:Nat):Nat:=[0,1,1,2,2,3,3,4,4].getD j 0
def ij(j:Nat):Nat:=[0,0,1,0,1,0,1,0,1].getD j 0
def m9(h:j<9):j=0\/j=1\/j=2\/j=3\/j=4\/j=5\/j=6\/j=7\/j=8:=oG
def cj(j:Nat):Nat:=if ij j=0 then c1 (qj j)else c2<|qj j
def thj(j:Nat):AA (Nat×Nat):=[(1,if ij j=0 then 2 else 5),(2,if ij j=0 then 3 else 6),(3,4)]
def V9(b:q<5)(m:Mh s)(x:B9 l):Fn 350 [.s 1 0 (nQ q)<|nQ q] (AEm q s l p) I (BW (.v<|.int iK<|QY q s l p) I) nO:=Fn.same (by
 refine fo func350 (λρ t w k=> ?_) (hE:=by obtain rfl|rfl|rfl|rfl|rfl:=m5 b<;>exact kR);refine gG ?_ (by obtain rfl|rfl|rfl|rfl|rfl:=m5 b<;>exact kR);refine loop (λi=>i<=nQ q/\(0<i->Ud (c1 q) s l p)/\(1<i->Ud (c2 q) s l p)) (λi=>nQ q-i) (ATv I q s l p) 300 [] 0 ⟨Bm _,nofun,nofun⟩ (hobs:=by obtain rfl|rfl|rfl|rfl|rfl:=m5 b<;>exact kR) (hok:=by obtain rfl|rfl|rfl|rfl|rfl:=m5 b<;>exact kR) ?_;rintro i ⟨u,g,o⟩ again T;by_cases d:i<nQ q
 .obtain⟨j,a,rfl,rfl⟩:∃j,j<9/\q=qj j/\i=ij j:=by
   obtain rfl|rfl|rfl|rfl|rfl:=m5 b<;>obtain rfl|h0:i=0\/0<i:=oG;exact⟨0,by decide⟩;exact absurd (show i<1 from d) oG
   all_goals first|exact⟨1,by decide⟩|exact⟨3,by decide⟩|exact⟨5,by decide⟩|exact⟨7,by decide⟩|(obtain rfl:i=1:=by(have:i<2:=d;omega));first|exact⟨2,by decide⟩|exact⟨4,by decide⟩|exact⟨6,by decide⟩|exact⟨8,by decide⟩
  refine gG ?_ (by obtain rfl|rfl|rfl|rfl|rfl|rfl|rfl|rfl|rfl:=m9 a<;>exact kR);refine IG (AaJ (I:=I) (c:=cj j) (p:=p) (by obtain rfl|rfl|rfl|rfl|rfl|rfl|rfl|rfl|rfl:=m9 a<;>decide) m x) (thj j) (hobs:=by obtain rfl|rfl|rfl|rfl|rfl|rfl|rfl|rfl|rfl:=m9 a<;>exact kR) ?_;cases h:Ud (cj j) s l p with
  |true=>
   refine gG ?_ (by obtain rfl|rfl|rfl|rfl|rfl|rfl|rfl|rfl|rfl:=m9 a<;>exact kR);refine bk again [] _ ⟨d,λ_=> ?_,λ_=> ?_⟩ (hh:=by obtain rfl|rfl|rfl|rfl|rfl|rfl|rfl|rfl|rfl:=m9 a<;>exact⟨kR,kR,kR⟩);obtain rfl|rfl|rfl|rfl|rfl|rfl|rfl|rfl|rfl:=m9 a<;>first|exact h|exact g dC
   obtain rfl|rfl|rfl|rfl|rfl|rfl|rfl|rfl|rfl:=m9 a<;>first|exact h|contradiction
  |false=>
   refine gG ?_ (by obtain rfl|rfl|rfl|rfl|rfl|rfl|rfl|rfl|rfl:=m9 a<;>exact kR);refine dn [] (h:={r:=.v<|.int iK<|Ue<|cj j,AV:=AEm (qj j) s l p,J:=I}) ?_ (by obtain rfl|rfl|rfl|rfl|rfl|rfl|rfl|rfl|rfl:=m9 a<;>exact kR);have e:QY (qj j) s l p=Ue (cj j):=by obtain rfl|rfl|rfl|rfl|rfl|rfl|rfl|rfl|rfl:=m9 a<;>first|exact AY λq=>AGH (h.symm.trans q)|exact(Ac<|g dC).trans ((AY dC).trans<|AY λq=>AGH<|h.symm.trans q)
   rw[e]
 .obtain rfl:i=nQ q:=oG;have e:QY q s l p=0:=by
   obtain rfl|rfl|rfl|rfl|rfl:=m5 b;exact Ac<|g dC
   all_goals exact(Ac<|g dC).trans<|(AY dC).trans<|Ac<|o dC
  rw[e];refine gG ?_ (by obtain rfl|rfl|rfl|rfl|rfl:=m5 b<;>exact kR);exact dn [] rfl (by obtain rfl|rfl|rfl|rfl|rfl:=m5 b<;>exact kR)) (by obtain rfl|rfl|rfl|rfl|rfl:=m5 b<;>rfl)
def quK(c a:Nat):AA SV:=if c=0 then[.p (a+1) 0,.p (a+0) 0]else[.p (a+0) 0,.p (a+1) 0]
abbrev AG7(I:AB)(s:Lz.St)(l:AT)(c:Nat):zP:=λa h=>h= {r:=.g [.fn (.func<|quF c) []<|quK c a,.v<|.int iK<|Ue c],nb:=[WK s,Qs l],J:=I}
def Yi(I s l):Fn 351 [Jv s,DW l] [] I (AG7 I s l 0) nO:=fo func351 λρ b w a=>gG<|dn [100,108] rfl
def ACD(I s l):Fn 352 [Jv s,DW l] [] I (AG7 I s l 1) nO:=fo func352 λρ b w a=>gG<|dn [100,108] rfl
def Rp{a:AA SV}{e:AB}{G:Ba}{H:Nat->Ab}(h:Fn G a [] e (λd h=>h=H d) nO)(o:∀k,(H k).AV=[])(b:FH f n G [] [] a e)(hnext:At F fn n I w ρ A R<|f.out (BA [])<|H<|EL f):At F fn n I w ρ A R f:=
 A0 h [] (hobs:=b) λh g=>by subst g;exact hnext
variable (I:AB) (s:Lz.St) (l:AT) (p:UInt8) (m:Mh s) (x:B9 l)
include m x
theorem ANs:Fn 349 [Jv s,DW l] [] I (BW (.t [Jv (Et s l).1,.v<|.int iK (Et s l).2]) I) nO:=by
 have a:=V9 (I:=I) (q:=0) (s:=s) (l:=jn s.Ad l) (p:=0) dC m<|AZE _ _
 rw[show QY 0 s (jn s.Ad l) 0=if fl (jn s.Ad l) s.A5 then 0 else-4 from rfl]at a
 rw[Et]
 refine fo func349 λρ d w b=> ?_
 refine gG<|call (AD8 I s.Ad l m.1 x)<|gG<|Rp (Yi I s<|jn s.Ad l) (λ_=>rfl) kR<|gG<|IG a [(1,204),(2,197),(3,196)] ?_
 cases fl (jn s.Ad l) s.A5<;>exact gG fi
def Pz:Fn 305 [Jv s,DW l] [] I (BW (.v<|.int iK<|Dh s l) I) nO:=by have a:=V9 (I:=I) (q:=2) (s:=s) (l:=l) (p:=0) dC m x;rw[show QY 2 s l 0=Dh s l from rfl]at a;exact fo func305 λρ d w b=>gG<|Rp (ACD I s l) (λ_=>rfl) kR<|gG<|Rp (Yi I s l) (λ_=>rfl) kR<|gG<|IG a [(1,172),(2,140),(3,141),(5,165),(6,164)]<|gG fi
theorem AXl:Fn 298 [Jv s,DW l] [] I (BW (.t [Jv (KW s l).1,.v<|.int iK (KW s l).2]) I) nO:=by
 have a:=V9 (I:=I) (q:=1) (s:=s) (l:=l) (p:=0) dC m x;rw[show QY 1 s l 0=if fl l s.A5 then(if fl s.Ad l then 0 else-3)else-4 from rfl]at a;rw[KW];refine fo func298 λρ d w b=> ?_;refine gG<|Rp (Yi I s l) (λ_=>rfl) kR<|gG<|Rp (ACD I s l) (λ_=>rfl) kR<|gG<|IG a [(1,180),(2,149),(3,148),(5,172),(6,173)] ?_;cases fl l s.A5
 .exact gG fi
 cases fl s.Ad l
 .exact gG fi
 exact gG<|call (UU I l x)<|gG fi
def AHz:Fn 353 [Jv s,DW l] [] I (BW (.t [Jv (Rm s l).1,.v<|.int iK (Rm s l).2]) I) nO:=by have a:=Pz I s l m x;rw[Rm];rw[Dh]at a⊢;refine fo func353 λρ d w b=>gG<|call a ?_;cases fl s.Ad l;exact gG fi;cases fl l s.A5;exact gG fi;exact gG<|call (UU I l x)<|gG fi
theorem ASp:Fn 318 [Jv s,DW l,.v<|.int .u8 p.toNat] [] I (BW (.t [Jv (Ih s l p).1,.v<|.int iK (Ih s l p).2.1,.v<|vB (Ih s l p).2.2]) I) nO:=by
 have a:=V9 (I:=I) (q:=3) (s:=s) (l:=l) (p:=p) dC m x;rw[show QY 3 s l p=if fb s.Ad l p then(if fl l s.A5 then 0 else-4)else-3 from rfl]at a;rw[Ih];refine fo func318 λρ d w b=> ?_;refine gG<|Rp (Yi I s l) (λ_=>rfl) kR<|gG<|IG a [(1,212),(2,100),(3,108),(4,116),(5,205),(6,204)] ?_;cases fb s.Ad l p
 .exact gG fi
 cases fl l s.A5
 .exact gG fi
 exact gG<|call (UU I l x)<|gG<|call (NB I s.Ad l m.1 x)<|gG fi
theorem AXV:Fn 320 [Jv s,DW l,.v<|.int .u8 p.toNat] [] I (BW (.t [Jv (Il s l p).1,.v<|.int iK (Il s l p).2.1,.v<|vB (Il s l p).2.2]) I) nO:=by
 have a:=V9 (I:=I) (q:=4) (s:=s) (l:=l) (p:=p) dC m x;rw[show QY 4 s l p=if fb l s.A5 p then(if fl s.Ad l then 0 else-3)else-4 from rfl]at a;rw[Il];refine fo func320 λρ d w b=> ?_;refine gG<|Rp (ACD I s l) (λ_=>rfl) kR<|gG<|IG a [(1,212),(2,108),(3,100),(4,116),(5,204),(6,205)] ?_;cases fb l s.A5 p
 .exact gG fi
 cases fl s.Ad l
 .exact gG fi
 exact gG<|call (UU I l x)<|gG<|call (NB I l s.A5 x m.2)<|gG fi
end
end
section
open Go.AX Lz
def dec(n:Nat):AA AH:=
 if n<10 then[uN<|48+n]else if n<100 then[uN<|48+n/10,uN<|48+n%10]
 else[uN<|48+n/100,uN<|48+n/10%10,uN<|48+n%10]
def Dm:Nm->AA AH
 |[]=>[]
 |[n]=>dec n
 |n::l=>dec n++46::Dm l
def Aa(n:Nm):Ce:=AJ<|Dm n
abbrev sV(n:Nm):Value:=vS<|Aa n
def Rows{c:Type}(R:c->AA AF->Prop):AA c->AA AF->Prop
 |[],l=>l=[]
 |x::xs,l=>∃a b,l=a++b/\R x a/\Rows R xs b
theorem Rows.mono{d:Type}{R S}(h:∀x l,R x l->S x l):∀ {c:AA d} {l:AA AF},Rows R c l->Rows S c l
 |[],_,q=>q
 |x::c,l,⟨a,b,e,q1,q2⟩=>⟨a,b,e,h x a q1,Rows.mono h q2⟩
def Rows.append{g:Type}{R}:∀ {c d:AA g} {l m:AA AF},Rows R c l->Rows R d m->Rows R (c++d) (l++m)
 |[],_,_,_,h,k=>by cases h;exact k
 |x::c,d,l,m,⟨a,b,e,q1,q2⟩,k=>⟨a,b++m,by rw[e,Eb],q1,q2.append k⟩
def Rows.one{a:Type}{R:a->AA AF->Prop}{x:a}{l:AA AF}(h:R x l):Rows R [x] l:=⟨l,[],sP,h,rfl⟩
def Rows.len{g:Type}{R k}(d:∀x l,R x l->lN l=k):∀ {c:AA g} {l:AA AF},Rows R c l->lN l=lN c*k
 |[],_,h=>by cases h;simp
 |x::c,l,⟨a,b,e,q1,q2⟩=>by rw[e,CK,d x a q1,Rows.len d q2,FM,Gm];omega
theorem Rows.take{g:Type}{R k}(d:∀x l,R x l->lN l=k):∀ {c:AA g} {l:AA AF} (n:Nat),Rows R c l->Rows R (c.take n) (l.take<|n*k)
 |[],_,n,h=>by cases h;simp[Rows]
 |x::c,l,0,_=>by simp[Rows]
 |x::c,l,n+1,⟨a,b,e,q1,q2⟩=>by have:=d x a q1;refine⟨a,b.take<|n*k,?_,q1,q2.take d n⟩;rw[e,show(n+1)*k=lN a+n*k by rw[this,Gm];omega,AGb]
def Rows.drop{g:Type}{R k}(d:∀x l,R x l->lN l=k):∀ {c:AA g} {l:AA AF} (n:Nat),Rows R c l->Rows R (c.drop n) (l.drop<|n*k)
 |[],_,n,h=>by cases h;simp[Rows]
 |x::c,l,0,h=>by simpa using h
 |x::c,l,n+1,⟨a,b,e,q1,q2⟩=>by have:=d x a q1;rw[e,show(n+1)*k=lN a+n*k by rw[this,Gm];omega,S5];exact q2.drop d n
def Rows.get{d:Type}{R:d->AA AF->Prop}{k:Nat}(j:∀x l,R x l->lN l=k){c:AA d}{l:AA AF}(h:Rows R c l){i:Nat}{x:d}(o:c[i]? =sM x):R x ((l.drop<|i*k).take k):=by
 have g:=(h.drop j i);have:c.drop i=x::c.drop (i+1):=by obtain⟨m,rfl⟩:=Ci.1 o;exact Xp m
 rw[this]at g;obtain⟨a,b,e,q1,_⟩:=g;rwa[e,<-j x a q1,TC]
def Rows.flat{d:Type}{f}:∀ {c:AA d} {l:AA AF},Rows (λx l=>l=f x) c l↔l=c.flatMap f
 |[],l=>by simp[Rows]
 |x::c,l=>by simp[Rows,Kb];constructor;rintro⟨a,b,rfl,rfl,h⟩;rw[Rows.flat.1 h];intro h;exact⟨_,_,h,rfl,Rows.flat.2 rfl⟩
structure Av{b:Type}(I:AB)(R:b->AA AF->Prop)(size:Nat)(xs:AA b)(a:AU Au)(c:Nat)(cells:AA AF):Prop where
 sl:Dk I size a (lN xs) cells
 cap:lN xs<=c
 max:c<=maxLen
 CE:Rows R xs cells
def Av.up{e:Type}{I J:AB}{R S:e->AA AF->Prop}{b c:Nat}{d:AA e}{a:AU Au}{cells:AA AF}(h:Av I R b d a c cells)(hle:I.le J)(g:∀x l,R x l->S x l):Av J S b d a c cells:=
 ⟨h.sl.up hle,h.cap,h.max,h.CE.mono g⟩
def BG(v:AW):AA AF:=[.int iK v.kind,.int iK v.n,vS<|Aa v.name,vS<|AJ v.l.1,vS<|AJ v.l.2]
def Do(v:AW):SV:=.g [.v<|nV v.kind,.v<|nV v.n,.v<|sV v.name,.v<|vS<|AJ v.l.1,.v<|vS<|AJ v.l.2]
def F9(v:AW)(l:AA AF):Prop:=l=BG v
def Jd(v l)(h:F9 v l):lN l=5:=by rw[h];rfl
abbrev F3(I:AB)(d:AA AW)(a:AU Au)(c:Nat)(b:AA AF):Prop:=Av I F9 5 d a c b
def Ea(t:Fj):AA AF:=[.int iK t.AG,.int iK t.Cg,.int iK t.at_]
def Oy(t:Fj)(l:AA AF):Prop:=l=Ea t
def Uy(t l)(h:Oy t l):lN l=3:=by rw[h];rfl
def Gd(I:AB)(f:Cw)(l:AA AF):Prop:=∃b c a,l=[.int iK f.fn,.int iK f.pc,.int iK f.Cp,.int .u8 f.AR.toNat,.slice b (lN f.Ai) c]/\F3 I f.Ai b c a
def JN(I f l)(h:Gd I f l):lN l=5:=by obtain⟨_,_,_,rfl,_⟩:=h;rfl
def Nl{I J}(hle:I.le J)(f l)(h:Gd I f l):Gd J f l:=by let⟨b,c,a,e,q⟩:=h;exact⟨b,c,a,e,q.up hle λ_ _ h=>h⟩
structure DL where
 fa:AU Au
 fc:Nat
 fl:AA AF
 sa:AU Au
 sc:Nat
 sl:AA AF
 ta:AU Au
 tc:Nat
 tl:AA AF
structure C0(I:AB)(c:Ay)(p:DL):Prop where
 f:Av I (Gd I) 5 c.AG p.fa p.fc p.fl
 s:Av I F9 5 c.stack p.sa p.sc p.sl
 t:Av I Oy 3 c.AP p.ta p.tc p.tl
def Dx(c:Ay)(p:DL):AA SV:=[.v<|.slice p.fa (lN c.AG) p.fc,.v<|.slice p.sa (lN c.stack) p.sc,.v<|.slice p.ta (lN c.AP) p.tc]
def C0.up{I J c p}(h:C0 I c p)(hle:I.le J):C0 J c p:=
 ⟨h.f.up hle<|Nl hle,h.s.up hle λ_ _ h=>h,h.t.up hle λ_ _ h=>h⟩
def He{a:Type}(I:AB)(S:a->SV)(R:AB->a->Prop):zP:=λ_ h=>∃x J,h= {r:=S x,J:=J}/\I.le J/\R J x
variable{F:FuncId}{fn:Func}{n:Nat}{I:AB}{w:World}{ρ:Nat->Nat}{A:List Nat}{R:Ec}{f:Bv}
def Cz{c:Type}{a:AA SV}{I':AB}{G:Ba}{S:c->SV}{Q:AB->c->Prop}(h:Fn G a [] I' (He I' S Q) nO)(hnext:∀x J,I'.le J->Q J x->At F fn n I w ρ A R (f.out (BA []) {r:=S x,J:=J}))(b:FH f n G [] [] a I':=by exact kR):At F fn n I w ρ A R f:=
 A0 h [] (hobs:=b) λh d=>by obtain⟨x,J,rfl,hle,q⟩:=d;exact hnext x J hle q
def KR{b I' G d m g}(h:Fn G b [] I' (TS I' d m g) nO)(hnext:∀a c J,I'.le J->m<=c->c<=maxLen->Dk J d a m g->At F fn n I w ρ A R (f.out (BA []) {r:=.v<|.slice a m c,J:=J}))(e:FH f n G [] [] b I':=by exact kR):At F fn n I w ρ A R f:=
 A0 h [] (hobs:=e) λh o=>by obtain⟨a,c,J,rfl,i,j,k,l⟩:=o;exact hnext a c J i j k l
abbrev AGp(I:AB)(c:Ay):zP:=He I (λq:DL=>.g<|Dx c q) λJ q=>C0 J c q
def C0.push{I c p}(h:C0 I c p)(v){a m}(e:Dk I 5 a (lN c.stack+1)<|p.sl++BG v)(b:lN c.stack+1<=m)(d:m<=maxLen):C0 I (Df c v) {p with sa:=a,sc:=m,sl:=p.sl++BG v}:=
 ⟨h.f,⟨by simpa[Df]using e,by simpa[Df]using b,d,h.s.CE.append<|Rows.one rfl⟩,h.t⟩
def AHG(I a n c d v)(b:n<=c)(e:n<=1000000)(h:Dk I 5 a n d):Fn 196 [.v<|.slice a n c,Do v] [] I (TS I 5 (n+1)<|d++BG v) nO:=
 AP6 I a n c d v.kind v.n (Aa v.name) (AJ v.l.1) (AJ v.l.2) b e h
def AE6(I c p v)(g:lN c.stack<=1000000)(h:C0 I c p):Fn 147 [.g<|Dx c p,Do v] [] I (AGp I<|Df c v) nO:=by refine Ju 11 func147 ntmps147 rfl rfl kR λj i w b=>gG<|KR (AHG I p.sa (lN c.stack) p.sc p.sl v h.s.cap g h.s.sl) λa m J hle d e f=>gG<|dn [] ⟨_,J,?_,hle,(h.up hle).push v f d e⟩ (h:={r:=.g [.v<|.slice p.fa (lN c.AG) p.fc,.v<|.slice a (lN c.stack+1) m,.v<|.slice p.ta (lN c.AP) p.tc],J:=J});simp[Dx,Df]
theorem Av.take{g:Type}{I R b c}{f:AA g}{a}{d:AA AF}(i:∀x l,R x l->lN l=b)(h:Av I R b f a c d)(m):Av I R b (f.take m) a (min m<|lN f) (d.take<|min m (lN f)*b):=by have e:lN (f.take m)=min m (lN f):=sP;refine⟨?_,by rw[e];exact Ag _,Ch (Nat.min_le_right _ _)<|Ch h.cap h.max,?_⟩;rw[e];exact h.sl.take<|Nat.min_le_right _ _;have:=h.CE.take i<|min m<|lN f;rwa [show f.take (min m<|lN f)=f.take m by rw[<-IA,FN]]at this
def C0.cut{I c p}(h:C0 I c p)(f s t):C0 I (Ee c f s t) ⟨p.fa,min f<|lN c.AG,p.fl.take<|min f (lN c.AG)*5,p.sa,min s<|lN c.stack,p.sl.take<|min s (lN c.stack)*5,p.ta,min t<|lN c.AP,p.tl.take<|min t (lN c.AP)*3⟩:=
 ⟨h.f.take (JN I) f,h.s.take Jd s,h.t.take Uy t⟩
def AIh(I c p)(f s t:Nat)(h:C0 I c p):Fn 115 [.g (Dx c p),.v (.int .i64 f),.v (.int .i64 s),.v (.int .i64 t)] [] I (AGp I (Ee c f s t)) none:=by refine Ju 22 Tryz.func115 Tryz.ntmps115 rfl rfl kR λρ key w a=>gG<|call (Yr I p.fa c.AG.length p.fc f h.f.cap)<|gG<|call (Vz I p.sa c.stack.length p.sc s h.s.cap)<|gG<|call (AIg I p.ta c.AP.length p.tc t h.t.cap)<|gG<|dn [] ⟨_,I,?_,AB.le_refl _,h.cut f s t⟩ (h:={r:=.g [.v (.slice p.fa (min f c.AG.length) (min f c.AG.length)),.v (.slice p.sa (min s c.stack.length) (min s c.stack.length)),.v (.slice p.ta (min t c.AP.length) (min t c.AP.length))],J:=I});simp[Dx,Ee]
def Dk.open_{I f n a i}(h:Dk I f a n i)(p:0<n):
 ∃b c arr e g,a=sM ⟨b,c,nO⟩/\I b=sM (.cells arr e g)/\∀j v,i[j]? =sM v->arr[c+j]? =sM v:=by
 rcases h.at_ with o|⟨b,c,arr,e,g,k,l,m⟩;omega;refine⟨b,c,arr,e,g,k,l,λj v d=> ?_⟩;rw[<-m,GO]at d;split at d;rw[Jg]at d;simpa using d;cases d
def Uo{t e b off n c k a i}(j:prog.underlying t=sM (.slice e))(f:prog.info? e=sM i)(h:i.size=a)(g:k<n):
 ∀w,EJ w I->∃d,(Instr.indexAt t (.slice (aO b off) n c)<|iV k).run prog w=.ok (AO id<|.v<|.pointer<|sM ⟨b,off+k*a,nO⟩) d/\Bl w d:=λw _=>
 ⟨w,by
   have:(0:Int)<=(k:Int)/\(k:Int)<(n:Int):=oG;simp[Instr.indexAt,asIntOf,rU j,g,sizeOf,typeInfo,f,h,AO,Addr.add_mid,aT],Bl.refl w⟩
theorem IZ{t b o arr e g d v}(i:prog.underlying t=sM d)(l:d.isRow=fF)(h:I b=sM (.cells arr e g))(j:arr[o]? =sM v):
 ∀w,EJ w I->∃f,(Instr.loadAt t<|.pointer<|aO b o).run prog w=.ok (AO id<|.v v) f/\Bl w f:=λw k=>
 ⟨w,by
   have c:(isAgg t).run prog w=.ok fF w:=by simp[isAgg,rB,rU i,aK];cases d<;>simp_all[TypeDesc.isRow]
   have a:w.cell? ⟨b,o,nO⟩=sM v:=by simp[World.cell?,k b _ h,j]
   simp[Instr.loadAt,Instr.sureAddr,rB,Sem.run_pure,aK,loadVar,c];simp[load,Sem.run,a,AO],Bl.refl w⟩
def Ur{t b o arr e g d i f}(a:AA AF)(u:f=a.map .v)(q:prog.underlying t=sM d)(m:d.isRow)(n:prog.info? t=sM i)(p:i.size=lN a)(k:I b=sM (.cells arr e g))(r:∀j v,a[j]? =sM v->arr[o+j]? =sM v):
 ∀w,EJ w I->∃c,(Instr.loadAt t<|.pointer<|aO b o).run prog w=.ok (AO id<|.g f) c/\Bl w c:=λw s=>
 ⟨w,by
   have l:w.rangeAt b o a:=λj v h=>by simp[World.cell?,s b _ k,r j v h]
   have:=run_loadVar_mid (P:=prog) w b o t a d l q m (by rw[n];simp[p]);simp[Instr.loadAt,Instr.sureAddr,rB,Sem.run_pure,aK,this];rw[u];simp[AO,Gw],Bl.refl w⟩
def bT{p:Prop}[Decidable p](h:p):Value.bool (decide p)=vB tT:=by rw[G5 h]
def bF{p:Prop}[Decidable p](h: ¬p):Value.bool (decide p)=vB fF:=by rw[Gp h]
def AF9{n:Int}(h: -9223372036854775808<=n/\n<9223372036854775808):IntKind.i64.wrap n=n:=by simp[IntKind.wrap];have:IntKind.i64.bits=64:=rfl;have a:IntKind.i64.signed:=rfl;simp[this,a];omega
def iw{n m:Int}(e:n=m)(h: -9223372036854775808<=m/\m<9223372036854775808):Value.int iK (IntKind.i64.wrap n)=.int iK m:=by rw[e,AF9 h]
def Ek:prog.underlying 3=sM (.int iK):=kR
def ABA:prog.underlying 9=sM .string:=kR
def AOO:prog.underlying 4=sM .bool:=kR
def SD{a:Type}{l:AA a}{x}(h:l.getLast?=sM x):l[lN l-1]? =sM x:=by rwa [P8]at h
structure APF where
 p:DL
 a:AU Au
 c:Nat
 l:AA AF
abbrev APm(I:AB)(c:Ay)(n:Nat):zP:=He I (λq:APF=>.t [.g<|Dx (FR c n) q.p,.v<|.slice q.a n q.c,.v tV]) λJ q=>C0 J (FR c n) q.p/\F3 J (Ct c n) q.a q.c q.l
def N1{c n}(h:n<=lN c.stack):lN (Ct c n)=n:=by simp[Ct];omega
def Tx{I c p}(h:C0 I c p){f}(k:c.top=sM f):∃b d arr e o m n a,p.fa=sM ⟨b,d,nO⟩/\I b=sM (.cells arr e o)/\F3 I f.Ai m n a/\0<lN c.AG/\
 (∀j v,[Value.int iK f.fn,.int iK f.pc,.int iK f.Cp,.int .u8 f.AR.toNat,.slice m (lN f.Ai) n][j]? =sM v->arr[d+(lN c.AG-1)*5+j]? =sM v):=by
 have g:0<lN c.AG:=by
  cases e:c.AG with
  |nil=>rw[Ay.top]at k;rw[e]at k;cases k
  |cons x l=>simp
 let⟨b,d,arr,e,o,s,t,u⟩:=h.f.sl.open_ g;let⟨m,n,a,q,r⟩:=h.f.CE.get (JN I)<|SD k;refine⟨b,d,arr,e,o,m,n,a,s,t,r,g,λj v i=> ?_⟩;rw[<-q,GO]at i;split at i;rw[Jg]at i;rw[Nb];exact u _ v i;cases i
def AAU(I c p)(n:Nat)(f)(B:c.top=some f)(j:HQ c n)(T:c.stack.length<=1000000)(L:c.AG.length<=1000000)(h:C0 I c p):Fn 156 [.g<|Dx c p,.v<|.int .i64 (n:Int)] [] I (APm I c n) none:=by
 let⟨b,k,arr,e,R,X,Y,y,l,H,N,M,i⟩:=Tx h B;let⟨Q,z,fl,u,v,W,E,F,P⟩:=p;simp only at l;subst l;let⟨i65,q,s⟩:=ZT;let⟨i51,o,d⟩:=Qm;have K:MN c=f.Cp:=by rw[MN];rw[B]
 simp[HQ,Bool.and_eq_true,decide_eq_true_eq]at j;rw[K]at j;let⟨U,V⟩:=j;have D:n<=c.stack.length:=oG;have t:=h.s.cap;have x:c.stack.length-(c.stack.length-n)=n:=oG;refine Ju 61 Tryz.func156 Tryz.ntmps156 rfl rfl kR λZ O w C=>gg [(13,.eq _ _<|bT (p:=(c.AG.length:Int)>0) oG),(19,.eq _ _<|iw (n:=(c.AG.length:Int)-1) (m:=((c.AG.length-1:Nat):Int)) oG oG),
  (20,.op I _ _<|Uo (b:=b) (off:=k) (n:=c.AG.length) (c:=z) (k:=c.AG.length-1) U0 q s oG),
  (22,.op I _ _<|IZ Ek rfl H<|i 2 _ rfl),(27,.eq _ _<|bF (p:=(n:Int)<0) oG),(30,.eq _ _<|bF (p:=(f.Cp:Int)<0) oG),(35,.eq _ _<|bF (p:=(f.Cp:Int)>c.stack.length) oG),
  (40,.eq _ _<|iw (n:=(c.stack.length:Int)-f.Cp) (m:=((c.stack.length-f.Cp:Nat):Int)) oG oG),(42,.eq _ _<|bF (p:=((c.stack.length-f.Cp:Nat):Int)<n) oG),
  (49,.eq _ _<|iw (n:=(c.stack.length:Int)-n) (m:=((c.stack.length-n:Nat):Int)) oG oG),(50,.op I _ _<|Abj (a:=u) (n:=c.stack.length) (c:=v) (m:=c.stack.length-n) NW o oG)] ?_
 have g:=h.s.sl.drop (m:=c.stack.length-n) (c:=v) oG t;simp[x]at g;rw[<-d]at g;refine KR (ACs I (WH u (c.stack.length-n) v i51.size) (c.stack.length-(c.stack.length-n)) (v-(c.stack.length-n)) _ oG<|by rw[x,d];rw[d]at g;exact g) λa m J hle S G A=> ?_;refine gg [(56,.eq _ _<|iw (n:=(c.stack.length:Int)-n) (m:=((c.stack.length-n:Nat):Int)) oG oG)]<|call (Vz J u c.stack.length v (c.stack.length-n) t)<|gG ?_;refine dn [] ⟨⟨⟨some ⟨b,k,none⟩,z,fl,u,min (c.stack.length-n) c.stack.length,_,E,F,P⟩,a,m,_⟩,J,?_,hle,⟨(h.up hle).f,(h.up hle).s.take Jd<|c.stack.length-n,(h.up hle).t⟩,⟨?_,by rw[N1 D];show n<=m;omega,G,(h.up hle).s.CE.drop Jd _⟩⟩ (h:={r:=.t [.g [.v<|.slice (some ⟨b,k,none⟩) c.AG.length z,.v<|.slice u (min (c.stack.length-n) c.stack.length)<|min (c.stack.length-n) c.stack.length,.v<|.slice E c.AP.length F],.v<|.slice a (c.stack.length-(c.stack.length-n)) m,.v<|.bool true],J:=J});simp[Dx,FR,x];rw[N1 D];rw[x]at A;exact A
def U9(I)(n:Int):Fn 150 [.v<|nV n] [] I (BW (Do<|BH n) I) nO:=Ju 5 func150 ntmps150 rfl rfl kR λc b w a=>gG<|fi
def AFs(I)(b:Bool):Fn 282 [.v<|vB b] [] I (BW (Do<|NV b) I) nO:=by
 refine Ju 6 func282 ntmps282 rfl rfl kR λd c w a=> ?_;cases b with
 |true=>
  exact gG<|call (U9 I 1)<|gG<|fi
 |false=>
  exact gG<|call (U9 I 0)<|gG<|fi
structure CS where
 ia:AU Au
 iN:Nat
 ic:Nat
 ja:AU Au
 jn:Nat
 jc:Nat
 was:Ay
 wp:DL
 c:Ay
 p:DL
 oc:Nat
 oa:Nat
 ta:AU Au
 tn:Nat
 tc:Nat
 fr:Nat
 tr:Nat
 ok:Nat
 ov:AW
 xc:Nat
 xa:Nat
 wrong:Bool
 code:Int
def CS.row(m:CS)(a:SV):AA SV:=
 [.v<|.slice m.ia m.iN m.ic,.v<|.slice m.ja m.jn m.jc,.v<|.slice m.wp.fa (lN m.was.AG) m.wp.fc,.v<|.slice m.wp.sa (lN m.was.stack) m.wp.sc,.v<|.slice m.wp.ta (lN m.was.AP) m.wp.tc,
  a,.v<|.slice m.p.sa (lN m.c.stack) m.p.sc,.v<|.slice m.p.ta (lN m.c.AP) m.p.tc,.v<|nV m.oc,.v<|nV m.oa,.v<|.slice m.ta m.tn m.tc,.v<|nV m.fr,.v<|nV m.tr,
  .v<|nV m.ok,.v<|nV m.ov.kind,.v<|nV m.ov.n,.v<|sV m.ov.name,.v<|vS<|AJ m.ov.l.1,.v<|vS<|AJ m.ov.l.2,.v<|nV m.xc,.v<|nV m.xa,.v<|vB m.wrong,.v<|nV m.code]
def CS.B3(m:CS):AK:=.cells (m.row<|.v<|.slice m.p.fa (lN m.c.AG) m.p.fc) 282
def YE{a:Type}(I:AB)(S:a->CS)(R:AB->a->Prop):zP:=λ_ h=>∃x J,h= {r:=.t [],AV:=[(1,(S x).B3)],J:=J}/\I.le J/\R J x
def CS.HW(m:CS)(r:Ay ⊕ Int)(q:DL):CS:=match r with
 | .inl u=>{m with c:=u,p:=q}
 | .inr e=>{m with wrong:=tT,code:=e}
def X4(r:Ay ⊕ Int)(J:AB)(q:DL):Prop:=∀u,r=.inl u->C0 J u q
abbrev JG(I:AB)(m:CS)(r:Ay ⊕ Int):zP:=YE I (m.HW r)<|X4 r
def Rt{J u q}(h:C0 J u q):X4 (.inl u) J q:=λ_ e=>by cases e;exact h
def AS6{J}{e:Int}{q}:X4 (.inr e) J q:=λ_ h=>by cases h
def Nq(I m v)(b:lN m.c.stack<=1000000)(h:C0 I m.c m.p):Fn 277 [.p 1 0,Do v] [(1,m.B3)] I (JG I m<|.inl<|Df m.c v) nO:=fo func277 λe d w a=>gG<|Cz (AE6 I m.c m.p v b h) λq J hle c=>gG<|dn [] ⟨q,J,rfl,hle,Rt c⟩
def R4(I m)(e:Int):Fn 281 [.p 1 0,.v<|nV e] [(1,m.B3)] I (JG I m<|.inr e) nO:=fo func281 λc b w a=>gG<|dn [] ⟨m.p,I,rfl,AB.le_refl _,AS6⟩
abbrev JS:Nat×AK:=(2,.cells [.p 1 0] 280)
def AG3{a:Type}(I:AB)(S:a->CS)(R:AB->a->Prop):zP:=λ_ h=>∃x J,h= {r:=.t [],AV:=[(1,(S x).B3),JS],J:=J}/\I.le J/\R J x
abbrev M3(I:AB)(m:CS)(r:Ay ⊕ Int):zP:=AG3 I (m.HW r)<|X4 r
def IS{c:Type}{a:AA SV}{I':AB}{G:Ba}{m:AK}{S:c->CS}{Q:AB->c->Prop}(h:Fn G a [(1,m)] I' (YE I' S Q) nO)(hnext:∀x J,I'.le J->Q J x->At F fn n I w ρ A R (f.out (BA []) {r:=.t [],AV:=[(1,(S x).B3)],J:=J}))(b:FH f n G [] [(1,m)] a I':=by exact kR):At F fn n I w ρ A R f:=
 A0 h [] (hobs:=b) λh d=>by obtain⟨x,J,rfl,hle,q⟩:=d;exact hnext x J hle q
def Ye{d:Type}{a:AA SV}{c:AB}{G:Ba}{m:AK}{S:d->CS}{Q:AB->d->Prop}(k:Nat)(h:Fn G a [(1,m),JS] c (AG3 c S Q) nO)(b:FH f n G [(2,k)] [(1,m),JS] a c)(hnext:∀x J,c.le J->Q J x->At F fn n I w ρ A R (f.out (BA [(2,k)]) {r:=.t [],AV:=[(1,(S x).B3),JS],J:=J})):At F fn n I w ρ A R f:=
 A0 h [(2,k)] (hobs:=b) λh e=>by obtain⟨x,J,rfl,hle,q⟩:=e;exact hnext x J hle q
def Xc{I o a c g}(h:F3 I o a c g)(m:0<lN o):∃b d arr e l,a=sM ⟨b,d,nO⟩/\I b=sM (.cells arr e l)/\∀k v,o[k]? =sM v->∀j x,(BG v)[j]? =sM x->arr[d+k*5+j]? =sM x:=by let⟨b,d,arr,e,l,q,r,s⟩:=h.sl.open_ m;refine⟨b,d,arr,e,l,q,r,λk v t j x i=> ?_⟩;have p:=h.CE.get Jd t;rw[F9]at p;rw[<-p,GO]at i;split at i;rw[Jg]at i;rw[Nb];exact s _ x i;cases i
def neF{a b:Int}(h:a=b):Value.bool (a !=b)=vB fF:=by rw[h];simp
def neT{a b:Int}(h:a≠b):Value.bool (a !=b)=vB tT:=by simp[h]
def Y0{a b:Int}(h:a=b):Value.bool (a==b)=vB tT:=by rw[h];simp
def QW{a b:Int}(h:a≠b):Value.bool (a==b)=vB fF:=by simp[h]
abbrev CS.tk(m:CS)(b a n:Nat):CS:={m with ta:=sM ⟨b,a,nO⟩,tn:=n}
abbrev CS.ks(m:CS)(b a n:Nat):CS:={m with ia:=sM ⟨b,a,nO⟩,iN:=n}
def Sq{I}(m){d c}(q:F3 I d m.ta m.tc c)(p:m.tn=lN d)(h:0<lN d):
 ∃r:CS,∃b a arr e g,m=r.tk b a (lN d)/\I b=sM (.cells arr e g)/\∀k v,d[k]? =sM v->∀j x,(BG v)[j]? =sM x->arr[a+k*5+j]? =sM x:=by
 let⟨b,a,arr,e,g,i,l,o⟩:=Xc q h;exact⟨m,b,a,arr,e,g,by rw[CS.tk];rw[<-i,<-p],l,o⟩
def ASE{I}(m){d c}(q:F3 I d m.ia m.ic c)(p:m.iN=lN d)(h:0<lN d):
 ∃r:CS,∃b a arr e g,m=r.ks b a (lN d)/\I b=sM (.cells arr e g)/\∀k v,d[k]? =sM v->∀j x,(BG v)[j]? =sM x->arr[a+k*5+j]? =sM x:=by
 let⟨b,a,arr,e,g,i,l,o⟩:=Xc q h;exact⟨m,b,a,arr,e,g,by rw[CS.ks];rw[<-i,<-p],l,o⟩
abbrev CS.TW(m:CS)(b a:Nat):CS:={m with p:={m.p with fa:=sM ⟨b,a,nO⟩}}
def ADf(I)(m:CS)(h:C0 I m.c m.p){f}(r:m.c.top=sM f):∃b c arr e i d g a,m=m.TW b c/\I b=sM (.cells arr e i)/\F3 I f.Ai d g a/\0<lN m.c.AG/\
 (∀j v,[Value.int iK f.fn,.int iK f.pc,.int iK f.Cp,.int .u8 f.AR.toNat,.slice d (lN f.Ai) g][j]? =sM v->arr[c+(lN m.c.AG-1)*5+j]? =sM v):=by
 let⟨b,c,arr,e,i,d,g,a,k,l,o,p,q⟩:=Tx h r;exact⟨b,c,arr,e,i,d,g,a,by rw[CS.TW];rw[<-k],l,o,p,q⟩
def AGy(I:AB)(m:AK)(r:SV):zP:=λ_ h=>h= {r:=r,AV:=[(1,m)],J:=I}
def ACh{a I' G m r}(h:Fn G a [(1,m)] I' (AGy I' m r) nO)(c:m.live)(hnext:At F fn n I w ρ A R<|f.out (BA []) {r:=r,J:=I'})(b:VV f n G [] [(1,m)] [] a I':=by exact kR):At F fn n I w ρ A R f:=
 IG (Fn.same h<|by simp[SL,c]) [] hnext b
def AFq(I)(m:CS)(b a)(h:0<lN m.c.AG)(g:lN m.c.AG<=1000000):Fn 223 [.p 1 0] [(1,(m.TW b a).B3)] I (AGy I (m.TW b a).B3<|.v<|.pointer<|sM ⟨b,a+(lN m.c.AG-1)*5,nO⟩) nO:=by let⟨i65,c,d⟩:=ZT;exact fo func223 λρ i w e=>gg [(14,.eq _ _<|iw (n:=(lN m.c.AG:Int)-1) (m:=((lN m.c.AG-1:Nat):Int)) oG oG),(15,.op I _ _<|Uo (b:=b) (off:=a) (n:=lN m.c.AG) (c:=m.p.fc) (k:=lN m.c.AG-1) U0 c d oG)]<|dn [] rfl
def Sw:prog.underlying 5=sM (.int .u8):=kR
def ABK(n:Int):IntKind.i64.wrap n=wrap64 n:=by rw[IntKind.wrap,wrap64];have:IntKind.i64.bits=64:=rfl;have a:IntKind.i64.signed:=rfl;simp only[this,a,RL];split;rename_i h;simp at h;omega;rename_i h;simp at h;omega
def AZO:AK:=.Ey [.int iK 7,.int iK 8,.int iK 9,.int iK 10,.int iK 11,.int iK 12,.int iK 13] [.v<|.func (.func 377) #[] #[],.v<|.func (.func 378) #[] #[],.v<|.func (.func 379) #[] #[],.v<|.func (.func 380) #[] #[],.v<|.func (.func 381) #[] #[],.v<|.func (.func 382) #[] #[],.v<|.func (.func 384) #[] #[]]
def AGq(I:AB)(b:AK):zP:=λa h=>h= {r:=.m a,nb:=[b],J:=I}
def SS(I):Fn 345 [] [] I (AGq I AZO) nO:=fo func345 λc b w a=>gG<|dn [108] rfl
def ALn(I)(b:Bool):Fn 383 [.v<|vB b] [] I (BW (.v<|.int iK<|if b then 1 else 0) I) nO:=by refine fo func383 λd c w a=> ?_;cases b<;>(refine gG ?_;exact fi)
abbrev Qz(o:AU Int):SV:=.t [.v<|.int iK<|o.getD 0,.v<|vB o.isSome]
def AY1(I)(a b:Int):Fn 377 [.v<|nV a,.v<|nV b] [] I (BW (Qz<|HN 7 a b) I) nO:=fo func377 λe d w c=>gg [(8,.eq _ _<|Dt (Value.int iK)<|ABK<|a+b)]<|fi
def AY2(I)(a b:Int):Fn 378 [.v<|nV a,.v<|nV b] [] I (BW (Qz<|HN 8 a b) I) nO:=fo func378 λe d w c=>gg [(8,.eq _ _<|Dt (Value.int iK)<|ABK<|a-b)]<|fi
def AY3(I)(a b:Int):Fn 379 [.v<|nV a,.v<|nV b] [] I (BW (Qz<|HN 9 a b) I) nO:=fo func379 λe d w c=>gg [(8,.eq _ _<|Dt (Value.int iK)<|ABK<|a*b)]<|fi
def Abm{I}(x y)(a b:Int)(d:b≠0):∀w,EJ w I->∃c,((do eqGuard .quo 2 x y (nV a)<|nV b;binOp .quo 2 (nV a) (nV b):Sem AF)).run prog w=.ok (AO id<|.v<|.int iK<|wrap64<|a.tdiv b) c/\Bl w c:=λw _=>
 ⟨w,by simp[eqGuard_quo,binOp_quo,Op.intDiv,d,AO,ABK],Bl.refl w⟩
def Abn{I}(x y)(a b:Int)(d:b≠0):∀w,EJ w I->∃c,((do eqGuard .rem 2 x y (nV a)<|nV b;binOp .rem 2 (nV a) (nV b):Sem AF)).run prog w=.ok (AO id<|.v<|.int iK<|a.tmod b) c/\Bl w c:=λw _=>
 ⟨w,by simp[eqGuard_rem,binOp_rem,Op.intDiv,d,AO],Bl.refl w⟩
def AYx(I)(a b:Int):Fn 380 [.v<|nV a,.v<|nV b] [] I (BW (Qz<|HN 10 a b) I) nO:=by refine fo func380 λf e w c=> ?_;by_cases d:b=0;refine gg [(7,.eq _ _<|Y0 (b:=0) d)]<|Bz func380 c ?_;rw[show HN 10 a b=nO by simp[HN,d]];kernel_rfl;refine gg [(7,.eq _ _<|QW (b:=0) d),(10,.op I _ _<|Abm (.tmp 8) (.tmp 9) a b d)]<|Bz func380 c ?_;rw[show HN 10 a b=sM (wrap64<|a.tdiv b) by simp[HN,d]];kernel_rfl
def AYy(I)(a b:Int):Fn 381 [.v<|nV a,.v<|nV b] [] I (BW (Qz<|HN 11 a b) I) nO:=by refine fo func381 λf e w c=> ?_;by_cases d:b=0;refine gg [(7,.eq _ _<|Y0 (b:=0) d)]<|Bz func381 c ?_;rw[show HN 11 a b=nO by simp[HN,d]];kernel_rfl;refine gg [(7,.eq _ _<|QW (b:=0) d),(10,.op I _ _<|Abn (.tmp 8) (.tmp 9) a b d)]<|Bz func381 c ?_;rw[show HN 11 a b=sM (a.tmod b) by simp[HN,d]];kernel_rfl
def AYz(I)(a b:Int):Fn 382 [.v<|nV a,.v<|nV b] [] I (BW (Qz<|HN 12 a b) I) nO:=by refine fo func382 λe d w c=>gG<|call (ALn I<|a==b)<|gG<|Bz func382 c ?_;rw[show HN 12 a b=sM (if(a==b)=tT then 1 else 0) by simp[HN]];kernel_rfl
def AY0(I)(a b:Int):Fn 384 [.v<|nV a,.v<|nV b] [] I (BW (Qz<|HN 13 a b) I) nO:=by refine fo func384 λe d w c=>gG<|call (ALn I<|decide<|a<b)<|gG<|Bz func384 c ?_;rw[show HN 13 a b=sM (if(decide<|a<b)=tT then 1 else 0) by simp[HN]];kernel_rfl
def AY4(I)(c:Nat)(a b:Int)(i:7<=c)(j:c<=13):Fn 280 [.v<|nV c,.v<|nV a,.v<|nV b] [] I (BW (Qz<|HN c a b) I) nO:=by obtain rfl|rfl|rfl|rfl|rfl|rfl|rfl:c=7\/c=8\/c=9\/c=10\/c=11\/c=12\/c=13:=oG;refine fo func280 λg f w d=>gG<|A0 (SS I) [] λh e=> ?_;subst e;exact gG<|call (AY1 I a b)<|gG<|fi;refine fo func280 λg f w d=>gG<|A0 (SS I) [] λh e=> ?_;subst e;exact gG<|call (AY2 I a b)<|gG<|fi;refine fo func280 λg f w d=>gG<|A0 (SS I) [] λh e=> ?_;subst e;exact gG<|call (AY3 I a b)<|gG<|fi;refine fo func280 λg f w d=>gG<|A0 (SS I) [] λh e=> ?_;subst e;exact gG<|call (AYx I a b)<|gG<|fi;refine fo func280 λg f w d=>gG<|A0 (SS I) [] λh e=> ?_;subst e;exact gG<|call (AYy I a b)<|gG<|fi;refine fo func280 λg f w d=>gG<|A0 (SS I) [] λh e=> ?_;subst e;exact gG<|call (AYz I a b)<|gG<|fi;refine fo func280 λg f w d=>gG<|A0 (SS I) [] λh e=> ?_;subst e;exact gG<|call (AY0 I a b)<|gG<|fi
def Hl(s:Dc):AA AF:=[vS<|Aa s.name,vS<|AJ s.l.1,vS<|AJ s.l.2,.int iK s.RE,.int iK s.AG,.int iK s.Cg,.int iK s.AP,
 vS<|AJ s.g.Ad.1,vS<|AJ s.g.Ad.2,vS<|AJ s.g.A5.1,vS<|AJ s.g.A5.2,vS<|Aa s.Bg,.int iK s.A7,.int iK s.Ao]
def AFP(s:Dc):SV:=.g [.v<|sV s.name,.v<|vS<|AJ s.l.1,.v<|vS<|AJ s.l.2,.v<|nV s.RE,.v<|nV s.AG,.v<|nV s.Cg,.v<|nV s.AP,
 .v<|vS<|AJ s.g.Ad.1,.v<|vS<|AJ s.g.Ad.2,.v<|vS<|AJ s.g.A5.1,.v<|vS<|AJ s.g.A5.2,.v<|sV s.Bg,.v<|nV s.A7,.v<|nV s.Ao]
def Ll(s:Dc)(l:AA AF):Prop:=l=Hl s
def XO(s l)(h:Ll s l):lN l=14:=by rw[h];rfl
structure DV where
 p:DL
 ca:AU Au
 cc:Nat
 cl:AA AF
def Dr(t:AL)(a:DV):AA SV:=
 [.v<|sV t.id,.v<|sV t.Bg,.v<|vS<|AJ t.g.Ad.1,.v<|vS<|AJ t.g.Ad.2,.v<|vS<|AJ t.g.A5.1,.v<|vS<|AJ t.g.A5.2,
  .v<|.slice a.p.fa (lN t.c.AG) a.p.fc,.v<|.slice a.p.sa (lN t.c.stack) a.p.sc,.v<|.slice a.p.ta (lN t.c.AP) a.p.tc,.v<|.slice a.ca (lN t.AI) a.cc,.v<|nV t.A7,.v<|nV t.Ao,.v<|nV t.Aw,.v<|sV t.on,
  .v<|nV t.v.kind,.v<|nV t.v.n,.v<|sV t.v.name,.v<|vS<|AJ t.v.l.1,.v<|vS<|AJ t.v.l.2,.v<|vB t.ex]
structure DZ(I:AB)(t:AL)(a:DV):Prop where
 c:C0 I t.c a.p
 s:Av I Ll 14 t.AI a.ca a.cc a.cl
def DZ.up{I J t a}(h:DZ I t a)(hle:I.le J):DZ J t a:=⟨h.c.up hle,h.s.up hle λ_ _ h=>h⟩
abbrev QJ(I:AB)(t:AL):zP:=He I (λa:DV=>.g<|Dr t a) λJ a=>DZ J t a
def Av.empty{b:Type}{I R a}:Av I R a ([]:AA b) nO 0 []:=⟨Dk.nil,Ag _,by rw[maxLen];omega,rfl⟩
def AEp(I id g c p)(Ao:Nat)(h:C0 I c p):Fn 141 [.v (.string (Aa id)),Jv g,.g (Dx c p),.v (.int .i64 Ao)] [] I (QJ I (Jw id g c Ao)) none:=fo Tryz.func141 λρ key w a=>gG<|dn [] ⟨_,I,rfl,AB.le_refl _,⟨h,Av.empty⟩⟩ (h:={r:=.g (Dr (Jw id g c Ao) ⟨p,none,0,[]⟩),J:=I})
def NG(t:AL)(a:DV):AA SV:=[.v<|.slice a.ca (lN t.AI) a.cc,.v<|vS<|AJ t.g.Ad.1,.v<|vS<|AJ t.g.Ad.2]
def AE4(I t a):Fn 97 [.g<|Dr t a] [] I (BW (.g<|NG t a) I) nO:=fo func97 λd c w b=>gG<|fi
def AEQ(I t a)(d:lN t.AI<=1000000):Fn 113 [.g<|NG t a] [] I (BW (.v<|.int iK ((lN t.AI+1:Nat):Int)) I) nO:=fo func113 λe c w b=>gg [(6,.eq _ _<|iw (n:=(lN t.AI:Int)+1) (m:=((lN t.AI+1:Nat):Int)) oG oG)]<|fi
def AT2(I)(t)(a)(v)(ex:Bool)(h:DZ I t a):Fn 154 [.g (Dr t a),Do v,.v (.bool ex)] [] I (QJ I (Fq t v ex)) none:=by
 refine fo Tryz.func154 λρ key w b=> ?_;by_cases hs:0<t.AI.length;refine gg [(12,.eq _ _ (bT (p:=(t.AI.length:Int)>0) oG))]<|dn [] ⟨a,I,?_,AB.le_refl _,⟨h.c,h.s⟩⟩ (h:={r:=.g (Dr {t with Aw:=2,v:=v,ex:=ex,on:=[]} a),J:=I});simp[Fq,hs];cases ex with
 |true=>
  refine gg [(12,.eq _ _ (bF (p:=(t.AI.length:Int)>0) oG))]<|dn [] ⟨a,I,?_,AB.le_refl _,⟨h.c,h.s⟩⟩ (h:={r:=.g (Dr {t with Aw:=4,v:=v,ex:=true,on:=[]} a),J:=I});simp[Fq,hs]
 |false=>
  refine gg [(12,.eq _ _ (bF (p:=(t.AI.length:Int)>0) oG))]<|dn [] ⟨a,I,?_,AB.le_refl _,⟨h.c,h.s⟩⟩ (h:={r:=.g (Dr {t with Aw:=3,v:=v,ex:=false,on:=[]} a),J:=I});simp[Fq,hs]
def AeU:Dc:=⟨[],FW,0,0,0,0,⟨FW,FW⟩,[],0,0⟩
def Adc:prog.underlying 114=sM ((prog.underlying 114).getD Al):=kR
def Aaz:((prog.underlying 114).getD Al).isRow:=kR
def AbR{I m a c f}(h:Av I Ll 14 m a c f)(l:0<lN m):∃b d arr e i,a=sM ⟨b,d,nO⟩/\I b=sM (.cells arr e i)/\∀k v,m[k]? =sM v->∀j x,(Hl v)[j]? =sM x->arr[d+k*14+j]? =sM x:=by let⟨b,d,arr,e,i,o,p,q⟩:=h.sl.open_ l;refine⟨b,d,arr,e,i,o,p,λk v r j x g=> ?_⟩;have n:=h.CE.get XO r;rw[Ll]at n;rw[<-n,GO]at g;split at g;rw[Jg]at g;rw[Nb];exact q _ x g;cases g
def AVv(I t a)(d:lN t.AI=0):Fn 148 [.g<|NG t a] [] I (BW (.t [AFP AeU,.v fV]) I) nO:=fo func148 λe c w b=>gg [(7,.eq _ _<|Y0 (a:=(lN t.AI:Int)) (b:=0) oG)]<|fi
def AVw(I t a s)(h:Av I Ll 14 t.AI a.ca a.cc a.cl)(o:t.AI.getLast?=sM s)(y:lN t.AI<=1000000):Fn 148 [.g<|NG t a] [] I (BW (.t [AFP s,.v tV]) I) nO:=by have j:=SD o;have n:=(Ci.1 j).1;let⟨b,c,arr,e,x,d,m,q⟩:=AbR h oG;let⟨p,u,l,v⟩:=a;simp only at d;subst d;let⟨i,f,k⟩:=WW;exact fo func148 λz r w g=>gg [(7,.eq _ _<|QW (a:=(lN t.AI:Int)) (b:=0) oG),(14,.eq _ _<|iw (n:=(lN t.AI:Int)-1) (m:=((lN t.AI-1:Nat):Int)) oG oG),(15,.op I _ _<|Uo (b:=b) (off:=c) (n:=lN t.AI) (c:=l) (k:=lN t.AI-1) U1 f k n),(16,.op I _ (AFP s)<|Ur (Hl s) rfl Adc Aaz f k m<|q _ s j)]<|fi
def AXt(I)(s)(x y z):HL Tryz.prog (.field 202 (.tmp s) 0) [(s,SV.g [.v x,.v y,.v z])] [] I (.g [.v x,.v y,.v z]):=by
 refine .of ?_;rintro ρ ac w ⟨b,_⟩ _ _ _ o g;simp only[AO,BB]at b;have h1:Tryz.prog.underlying 202=some (.struct #[((Tryz.prog.fieldsOf 202)[0]?).getD default]):=kR;have c:(((Tryz.prog.fieldsOf 202)[0]?).getD default).type=200/\(((Tryz.prog.fieldsOf 202)[0]?).getD default).offset=0:=⟨kR,kR⟩;have e:Tryz.prog.underlying 200=some ((Tryz.prog.underlying 200).getD default):=kR;have f:((Tryz.prog.underlying 200).getD default).isRow=true:=kR;obtain⟨i,hi,h⟩: ∃i,Tryz.prog.info? 200=some i/\i.size=3:=T9 kR;have a:(isAgg 200).run Tryz.prog w=.ok true w:=by simp only[isAgg,Sem.run_bind,run_underlying e,Result.andThen_ok];generalize(Tryz.prog.underlying 200).getD default=d at f;cases d<;>simp_all[TypeDesc.isRow]
 simp[execOp,g,Instr.field,b,run_underlying h1,c.1,c.2,part,a,asAgg,sizeOf,typeInfo,hi,h,Result.andThen,AO,BB]
def AJP(I t a)(h:Av I Ll 14 t.AI a.ca a.cc a.cl)(d:lN t.AI<=1000000):Fn 101 [.g<|Dr t a] [] I (BW (.t [.v<|.int iK (CV t).1,.v<|.int iK (CV t).2]) I) nO:=by
 refine fo func101 λi g w b=>gG<|call (AE4 I t a)<|gg [(9,.BZ (.field 202 (.tmp 8) 0) [(8,.g<|NG t a)] [] I (.g<|NG t a)<|AXt I 8 _ _ _)] ?_;cases e:t.AI.getLast? with
 |none=>
  have f:lN t.AI=0:=by cases c:t.AI with|nil=>rfl|cons x l=>rw[c]at e;simp at e
  refine call (AVv I t a f)<|gG ?_;rw[show CV t=(0,0) by unfold CV;rw[e]];exact fi
 |some s=>
  refine call (AVw I t a s h e d)<|gG ?_;rw[show CV t=(s.AG,s.AP) by unfold CV;rw[e]];exact fi
def Gf:AA (AA AH):=["push","load","store","pop","dup","swap","add","sub","mul","div","rem","eq","lt","not","jump","if","call","ret","throw","try","end","join","meet","flows","cur","clr","raise","lower","box","open","labof","ref","get","set","var","take","put","fork","wait","scope","out","drop","lift","less","gate","enter","own"].map λs=>s.toUTF8.toList
def Oh(c:Nat):AA AF:=[vS<|AJ<|Gf.getD (c-1) [],.int .u8<|Cf c,.int .u8<|BP c,.int .u8<|D5 c]
structure EB(I:AB):Prop where
 at_:∃arr e fr,I 1=sM (.cells arr e fr)/\∀c,1<=c->c<=47->∀j x,(Oh c)[j]? =sM x->arr[(c-1)*4+j]? =sM x
def EB.up{I J}(h:EB I)(hle:I.le J):EB J:=by let⟨arr,e,a,b,c⟩:=h.at_;exact⟨arr,e,a,hle _ _ b,c⟩
def AD0(c:Nat):SV:=.g [.v<|vS<|AJ<|Gf.getD (c-1) [],.v<|.int iK<|Cf c,.v<|.int iK<|BP c,.v<|.int iK<|D5 c,.v<|vB<|Lf c]
def Su:prog.underlying 352=sM (.array 47 351):=kR
def AJ0:∃i,prog.info? 351=sM i/\i.size=4:=T9 kR
def AA7:prog.underlying 351=sM ((prog.underlying 351).getD Al):=kR
def AAe:((prog.underlying 351).getD Al).isRow:=kR
def Uq{I t e b off n k a i}(h:prog.underlying t=sM (.array n e))(d:prog.info? e=sM i)(g:i.size=a)(f:k<n):
 ∀w,EJ w I->∃c,(Instr.indexAt t (.pointer<|aO b off)<|iV k).run prog w=.ok (AO id<|.v<|.pointer<|sM ⟨b,off+k*a,nO⟩) c/\Bl w c:=λw _=>
 ⟨w,by
   have:(0:Int)<=(k:Int)/\(k:Int)<(n:Int):=oG;simp[Instr.indexAt,asIntOf,rU h,f,sizeOf,typeInfo,d,g,AO,Addr.add_mid,aT,Instr.sureAddr],Bl.refl w⟩
def AAO(c)(a:1<=c)(b:c<=47):Cf c<=5/\BP c<=4/\D5 c<=2:=by have:∀c:Fin 48,Cf c<=5/\BP c<=4/\D5 c<=2:=dC;exact this ⟨c,oG⟩
def QN(I)(hT:EB I)(c:Nat)(h1:1<=c)(n:c<=47):Fn 155 [.v (.int .i64 c)] [] I (BW (.t [AD0 c,.v (.bool true)]) I) none:=by
 let⟨arr,e,fr,m,g⟩:=hT.at_;let⟨i,hi,a⟩:=AJ0;let⟨s1,s2,p⟩:=AAO c h1 n;have g:=g c h1 n;refine fo Tryz.func155 λρ key w o=> ?_;by_cases h:c=15;subst h;refine gg [(14,.op I _ _ (Uq (b:=1) (off:=0) (k:=14) Su hi a oG)),(15,.op I _ (.g ((Oh 15).map .v)) (Ur (Oh 15) rfl AA7 AAe hi a m (λj x f=>by have:=g j x f;simpa using this)))] ?_;exact fi;by_cases k:c=18;subst k;refine gg [(14,.op I _ _ (Uq (b:=1) (off:=0) (k:=17) Su hi a oG)),(15,.op I _ (.g ((Oh 18).map .v)) (Ur (Oh 18) rfl AA7 AAe hi a m (λj x f=>by have:=g j x f;simpa using this)))] ?_;exact fi;by_cases l:c=19;subst l;refine gg [(14,.op I _ _ (Uq (b:=1) (off:=0) (k:=18) Su hi a oG)),(15,.op I _ (.g ((Oh 19).map .v)) (Ur (Oh 19) rfl AA7 AAe hi a m (λj x f=>by have:=g j x f;simpa using this)))] ?_;exact fi;refine gg [(6,.eq _ _ (bF (p:=(c:Int)<1) oG)),(9,.eq _ _ (bF (p:=(c:Int)>47) oG)),(13,.eq _ _ (iw (n:=(c:Int)-1) (m:=((c-1:Nat):Int)) oG oG)),
  (14,.op I _ _ (Uq (b:=1) (off:=0) (k:=c-1) Su hi a oG)),(15,.op I _ (.g ((Oh c).map .v)) (Ur (o:=0+(c-1)*4) (Oh c) rfl AA7 AAe hi a m (λj x f=>by have:=g j x f;simpa using this))),
  (20,.eq _ _ (iw (n:=(Cf c:Int)) (m:=(Cf c:Int)) rfl oG)),(23,.eq _ _ (iw (n:=(BP c:Int)) (m:=(BP c:Int)) rfl oG)),(26,.eq _ _ (iw (n:=(D5 c:Int)) (m:=(D5 c:Int)) rfl oG)),
  (28,.eq _ _ (QW (a:=(c:Int)) (b:=15) oG)),(31,.eq _ _ (QW (a:=(c:Int)) (b:=18) oG)),(35,.eq _ _ (QW (a:=(c:Int)) (b:=19) oG))] ?_
 have d:Lf c=false:=by simp[Lf,h,k,l]
 have b:AD0 c=.g [.v (.string (AJ (Gf.getD (c-1) []))),.v (.int .i64 (Cf c)),.v (.int .i64 (BP c)),.v (.int .i64 (D5 c)),.v (.bool false)]:=by unfold AD0;rw[d]
 rw[b];exact fi
def Cs(o:Lz.Op):AA AF:=[.int iK o.code,.int iK o.a]
def Q2(o:Lz.Op)(l:AA AF):Prop:=l=Cs o
def AAM(o l)(h:Q2 o l):lN l=2:=by rw[h];rfl
def KU(I:AB)(f:Lz.Ev)(l:AA AF):Prop:=∃b c a,l=[.int iK f.args,.int iK f.Ai,.slice b (lN f.code) c]/\Av I Q2 2 f.code b c a
def WI(I f l)(h:KU I f l):lN l=3:=by obtain⟨_,_,_,rfl,_⟩:=h;rfl
def AJa{I J}(hle:I.le J)(f l)(h:KU I f l):KU J f l:=by let⟨b,c,a,e,q⟩:=h;exact⟨b,c,a,e,q.up hle λ_ _ h=>h⟩
structure Dw where
 ka:AU Au
 kc:Nat
 kl:AA AF
 ua:AU Au
 uc:Nat
 ul:AA AF
structure FJ(I:AB)(im:A6)(p:Dw):Prop where
 k:Av I F9 5 im.DN p.ka p.kc p.kl
 u:Av I (KU I) 3 im.Ax p.ua p.uc p.ul
def Fa(a:A6)(p:Dw):AA SV:=[.v<|.slice p.ka (lN a.DN) p.kc,.v<|.slice p.ua (lN a.Ax) p.uc]
def FJ.up{I J a p}(h:FJ I a p)(hle:I.le J):FJ J a p:=⟨h.k.up hle λ_ _ h=>h,h.u.up hle<|AJa hle⟩
def Po(o:Lz.Op):SV:=.g [.v<|nV o.code,.v<|nV o.a]
def AFx:prog.underlying 30=sM (.slice 195):=kR
def ADz:∃i,prog.info? 195=sM i/\i.size=3:=T9 kR
def OR{I p a}{c:Nat}{g}(h:Av I (KU I) 3 p a c g){k:Nat}{f}(q:p[k]? =sM f):∃b d arr e o l m n,a=sM ⟨b,d,nO⟩/\I b=sM (.cells arr e o)/\Av I Q2 2 f.code l m n/\k<lN p/\∀j x,[Value.int iK f.args,.int iK f.Ai,.slice l (lN f.code) m][j]? =sM x->arr[d+k*3+j]? =sM x:=by have w:=(List.getElem?_eq_some_iff.1 q).1;let⟨b,d,arr,e,o,t,u,v⟩:=h.sl.open_ oG;let⟨l,m,n,r,s⟩:=h.CE.get (WI I) q;refine⟨b,d,arr,e,o,l,m,n,t,u,s,w,λj x i=> ?_⟩;rw[<-r,List.getElem?_take]at i;split at i;rw[List.getElem?_drop]at i;rw[Nat.add_assoc];exact v _ x i;cases i
def Acm(I)(hT:EB I)(a p o)(g:FJ I a p)(c:1<=o.code)(d:o.code<=47)(e:o.code≠17):Fn 200 [.g<|Fa a p,Po o] [] I (BW (.v<|.int iK<|CU a o) I) nO:=by refine fo func200 λh f w b=>gG<|call (QN I hT o.code c d)<|gg [(15,.eq _ _<|QW (a:=(o.code:Int)) (b:=17) oG)] ?_;rw[show CU a o=BP o.code by unfold CU;rw[AY e]];exact fi
def Acn(I)(hT:EB I)(c p a f)(m:FJ I c p)(l:c.Ax[a]? =sM f)(y:f.args<=1000000):Fn 200 [.g<|Fa c p,Po ⟨17,a⟩] [] I (BW (.v<|nV f.args) I) nO:=by let⟨b,g,arr,e,x,t,u,v,h,k,_,n,o⟩:=OR m.u l;let⟨z,A,B,C,s,D⟩:=p;simp only at h;subst h;let⟨i,d,q⟩:=ADz;refine fo func200 λE r w j=>gG<|call (QN I hT 17 oG oG)<|gg [(22,.op I _ _<|Uo (b:=b) (off:=g) (n:=lN c.Ax) (c:=s) (k:=a) AFx d q n),(24,.op I _ _<|IZ Ek rfl k<|o 0 _ rfl),(25,.eq _ _<|iw (n:=((BP 17:Nat):Int)+f.args) (m:=(f.args:Int)) (by show((0:Nat):Int)+_=_;omega) oG)] ?_;exact fi
def VA(I)(n m:Nat):Fn 197 [.v (.int .i64 n),.v (.int .i64 m)] [] I (BW (.v (.bool (decide (n<m)))) I) none:=by refine fo Tryz.func197 λρ key w a=> ?_;have e:Value.bool (decide ((n:Int)<(m:Int)))=.bool (decide (n<m)):=sP;exact gg [(6,.eq _ _ (bT (p:=(n:Int)≥0) oG)),(10,.eq _ _ e)]<|fi
abbrev CS.Ak(m:CS)(a:Nat):AK:=.cells (m.row<|.s 2 0 (lN m.c.AG) a) 282
abbrev Pk(m:CS)(a:Nat)(b:AA AF):AA (Nat×AK):=[(1,m.Ak a),(2,.As b 65)]
def AG4(I:AB)(a:AA<|Nat×AK)(r:SV):zP:=λ_ h=>h= {r:=r,AV:=a,J:=I}
def AA2(I m a c)(e:0<lN m.c.AG)(d:lN m.c.AG<=1000000):Fn 223 [.p 1 0] (Pk m a c) I (AG4 I (Pk m a c)<|.p 2<|0+(lN m.c.AG-1)*5) nO:=by
 refine fo func223 λg f w b=>gg [(14,.eq _ _<|iw (n:=(lN m.c.AG:Int)-1) (m:=((lN m.c.AG-1:Nat):Int)) oG oG),
  (15,Aee Be I 45 7 14 2 0 (lN m.c.AG) a (lN m.c.AG-1) 5 rfl rfl oG)] ?_
 exact dn [] rfl
def AWL(I m)(a:Nat)(c)(o:0<lN m.c.AG)(f:lN m.c.AG<=1000000)(s:lN m.c.AG*5<=lN c):Fn 210 [.p 1 0] (Pk m a c) I (AG4 I (Pk m a<|BX c (0+(lN m.c.AG-1)*5+1) [.int iK m.oa])<|.t []) nO:=by refine fo func210 λy t w p=>gG<|IG (Fn.same (AA2 I m a c o f) rfl) []<|gG<|act (need:=[(2,.As c 65)]) (AJu (I:=I) Be (L:=Bt) (t:=3) (k:=2) (off:=0+(lN m.c.AG-1)*5+1) (ad:=.tmp 10) (x:=.tmp 8) (ty:=⟨1,_,_⟩) (vs:=c) (cs:=[.int iK m.oa]) (e:=65) kR kR kR rfl rfl sO (by intro v q;rw[A9.1 q];rfl)<|A9.2 rfl) ?_ ?_;intro h g;subst g;refine{r:= ?_,u:= ?_,n:= ?_,l:=by simp,le:=AB.Hj _,d:=by simp};intro k i;cases i;intro x j;rw[A9.1 j];refine⟨A9.2 rfl,?_,?_⟩;intro b e;rw[(IC<|A9.1 e).2];rfl;intro k i;cases i;intro b e;cases e;intro h g;subst g;exact gG<|dn [] rfl
abbrev Hint:=It prog
def hT(p:Prop)[Decidable p](h:p:=by omega):Hint:=.eq (Value.bool<|decide p) tV<|bT h
def hF(p:Prop)[Decidable p](h: ¬p:=by omega):Hint:=.eq (Value.bool<|decide p) fV<|bF h
def hE(a b:Int)(h:a=b:=by omega):Hint:=.eq (Value.bool<|a==b) tV<|Y0 h
def hN(a b:Int)(h:a≠b:=by omega):Hint:=.eq (Value.bool<|a==b) fV<|QW h
def Fs(a b:Int)(h:a≠b:=by omega):Hint:=.eq (Value.bool<|a !=b) tV<|neT h
def EN(a b:Int)(h:a=b:=by omega):Hint:=.eq (Value.bool<|a !=b) fV<|neF h
def hW(n m:Int)(e:n=m:=by omega)(h: -9223372036854775808<=m/\m<9223372036854775808:=by omega):Hint:=.eq _ _<|iw e h
abbrev sH(x:Nat)(e:(x:Int)+1=((x+1:Nat):Int):=by omega)(h: -9223372036854775808<=((x+1:Nat):Int)/\((x+1:Nat):Int)<9223372036854775808:=by omega):=hW ((x:Int)+1) ((x+1:Nat):Int) e h
abbrev tH(x y:Nat)(h:(x:Int)<(y:Int):=by omega):=hT ((x:Int)<(y:Int)) h
abbrev fH(x y:Nat)(h:¬(x:Int)<(y:Int):=by omega):=hF ((x:Int)<(y:Int)) h
def OU(I:AB)(a:Ae BN)(x y z:Int)(h:max x y=z:=by omega):Hint:=.op I _ _<|ANY (ts:=a) (t:=3) z h
def ADp(I:AB)(a:Ae BN)(x y z:Int)(h:min x y=z:=by omega):Hint:=.op I _ _<|ANZ (ts:=a) (t:=3) z h
structure IE(t e size:Nat):Prop where
 ht:prog.underlying t=sM (.slice e)
 hi:∃i,prog.info? e=sM i/\i.size=size
def ix{I t e a b off n c k}(E:IE t e a)(g:k<n):
 ∀w,EJ w I->∃d,(Instr.indexAt t (.slice (aO b off) n c)<|iV k).run prog w=.ok (AO id<|.v<|.pointer<|sM ⟨b,off+k*a,nO⟩) d/\Bl w d:=by
 let⟨i,f,h⟩:=E.hi;exact Uo E.ht f h g
def Br(I:AB){t e a:Nat}(E:IE t e a)(b d n c k:Nat)(f:k<n:=by omega):Hint:=.op I _ _<|ix (b:=b) (off:=d) (c:=c) E f
structure Ht(t size:Nat):Prop where
 ht:∃d,prog.underlying t=sM d/\d.isRow
 hi:∃i,prog.info? t=sM i/\i.size=size
def Wh{I t a b o}(R:Ht t a){arr e g}(c:AA AF)(m:lN c=a)(h:I b=sM (.cells arr e g))(q:∀j v,c[j]? =sM v->arr[o+j]? =sM v):
 ∀w,EJ w I->∃f,(Instr.loadAt t<|.pointer<|aO b o).run prog w=.ok (AO id<|.g<|c.map .v) f/\Bl w f:=by
 let⟨d,k,n⟩:=R.ht;let⟨i,l,p⟩:=R.hi;exact Ur c rfl k n l (p.trans m.symm) h q
def D8(I:AB){t a:Nat}(R:Ht t a){b:Nat}{arr:Ae AF}{e:BN}{d:Nat×Nat}(o:Nat)(c:AA AF)(g:lN c=a)(f:I b=sM (.cells arr e d))(h:∀j v,c[j]? =sM v->arr[o+j]? =sM v):Hint:=.op I _ _<|Wh (o:=o) R c g f h
def ED(I:AB){t:Nat}{d:TypeDesc}(g:prog.underlying t=sM d)(f:d.isRow=fF){b:Nat}{arr:Ae AF}{e:BN}{a:Nat×Nat}(o:Nat)(v:AF)(c:I b=sM (.cells arr e a))(h:arr[o]? =sM v):Hint:=.op I _ _<|IZ g f c h
def PO:IE 45 65 5:=⟨U0,ZT⟩
def Gx:IE 29 51 5:=⟨NW,Qm⟩
def V6:IE 46 118 3:=⟨Sv,ZS⟩
def Rz:IE 49 114 14:=⟨U1,WW⟩
def M7:IE 30 195 3:=⟨AFx,ADz⟩
def Jr:IE 38 9 1:=⟨AON,AVt⟩
def R0:IE 83 261 7:=⟨AA9,AVs⟩
def row_of{t size}(a:(prog.underlying t).map (·.isRow)=sM tT)(b:(prog.info? t).map (·.size)=sM size):Ht t size:=⟨L9.1 a,L9.1 b⟩
def Oo:Ht 51 5:=row_of kR kR
def XJ:Ht 65 5:=row_of kR kR
def XH:Ht 118 3:=row_of kR kR
def XG:Ht 114 14:=row_of kR kR
def AM1:Ht 195 3:=row_of kR kR
def XI:Ht 211 2:=row_of kR kR
def AAi:Ht 261 7:=row_of kR kR
def Sf:Ht 42 2:=row_of kR kR
def AFw:prog.underlying 188=sM (.slice 211):=kR
def AVr:∃i,prog.info? 211=sM i/\i.size=2:=XI.hi
def PN:IE 188 211 2:=⟨AFw,AVr⟩
def Av.cell{o:Type}{I R d c k}{n:List o}{a g x}(h:Av I R d n a c g)(u:∀x l,R x l->lN l=d)(p:n[k]? =sM x):
 ∃b f arr e m l,a=sM ⟨b,f,nO⟩/\I b=sM (.cells arr e m)/\R x l/\k<lN n/\∀j v,l[j]? =sM v->arr[f+k*d+j]? =sM v:=by
 have t:=(List.getElem?_eq_some_iff.1 p).1;let⟨b,f,arr,e,m,q,r,s⟩:=h.sl.open_ oG;refine⟨b,f,arr,e,m,_,q,r,h.CE.get u p,t,λj v i=> ?_⟩;rw[List.getElem?_take]at i;split at i;rw[List.getElem?_drop]at i;rw[Nat.add_assoc];exact s _ v i;cases i
def SR{o}(h:IY o):(1<=o.code/\o.code<=47)/\(Cf o.code=0->o.a=0)/\(Cf o.code≠0->o.a<=65535):=by simp[IY,UX,Bool.and_eq_true,decide_eq_true_eq]at h;refine⟨h.1,λe=> ?_,λe=> ?_⟩;have:=h.2;rw[if_pos e]at this;simpa using this;have:=h.2;rw[if_neg e]at this;simpa using this
def XE(I)(a:EB I)(o)(h:IY o):Fn 198 [Po o] [] I (BW (.v tV) I) nO:=by let⟨⟨c,d⟩,h3,h4⟩:=SR h;refine fo func198 λg f w b=>gG<|call (QN I a o.code c d) ?_;by_cases e:Cf o.code=0;refine gg [(15,hE (Cf o.code) 0),(18,hE o.a 0 (by have:=h3 e;omega))] ?_;exact fi;have:=h4 e;exact gg [(15,hN (Cf o.code) 0),(21,hT<|(o.a:Int)≥0),(25,hT<|(o.a:Int)<=65535)]<|fi
def Qb(f:Cw)(a:AU Au)(b:Nat):AA AF:=[.int iK f.fn,.int iK f.pc,.int iK f.Cp,.int .u8 f.AR.toNat,.slice a (lN f.Ai) b]
def ADg(f:Cw)(a:AU Au)(b:Nat):SV:=.g [.v<|nV f.fn,.v<|nV f.pc,.v<|nV f.Cp,.v<|.int .u8 f.AR.toNat,.v<|.slice a (lN f.Ai) b]
def AZM(I)(g:EB I)(a p f z A d o)(t:FJ I a p)(k:a.Ax[f.fn]? =sM d)(h:1<=o.code)(i:o.code<=47):Fn 199 [.g<|Fa a p,ADg f z A,Po o] [] I (BW (.v<|vB<|Iq a f o) I) nO:=by
 refine fo func199 λM x w l=>gG<|call (QN I g o.code h i) ?_;have F:=(AAO o.code h i).1;by_cases m:Cf o.code=1;refine gg [(18,hE (Cf o.code) 1)]<|call (VA I o.a<|lN a.DN)<|gG ?_;rw[show Iq a f o=decide (o.a<lN a.DN) by unfold Iq;rw[m];rfl];exact fi;by_cases n:Cf o.code=2;refine gg [(18,hN (Cf o.code) 1),(26,hE (Cf o.code) 2)]<|call (VA I o.a<|lN f.Ai)<|gG ?_;rw[show Iq a f o=decide (o.a<lN f.Ai) by unfold Iq;rw[n];rfl];exact fi;by_cases q:Cf o.code=3;let⟨b,c,arr,e,E,B,C,D,j,s,_,u,v⟩:=OR t.u k;let⟨G,H,J,K,y,L⟩:=p;simp only at j;subst j;refine gg [(18,hN (Cf o.code) 1),(26,hN (Cf o.code) 2),(34,hE (Cf o.code) 3),(41,Br I M7 b c (lN a.Ax) y f.fn u),(43,ED I AFw rfl (c+f.fn*3+2) _ s<|v 2 _ rfl)]<|call (VA I o.a<|lN d.code)<|gG ?_;rw[show Iq a f o=decide (o.a<lN d.code) by unfold Iq;rw[q];simp[DK,k]];exact fi;by_cases r:Cf o.code=4;refine gg [(18,hN (Cf o.code) 1),(26,hN (Cf o.code) 2),(34,hN (Cf o.code) 3),(47,hE (Cf o.code) 4)]<|call (VA I o.a<|lN a.Ax)<|gG ?_;rw[show Iq a f o=decide (o.a<lN a.Ax) by unfold Iq;rw[r];rfl];exact fi;refine gg [(18,hN (Cf o.code) 1),(26,hN (Cf o.code) 2),(34,hN (Cf o.code) 3),(47,hN (Cf o.code) 4)] ?_;rw[show Iq a f o=tT by unfold Iq;have:Cf o.code=0\/Cf o.code=5:=oG;rcases this with e|e<;>(rw[e];rfl)]
 exact fi
def PE{c I' G d m e i}(h:Fn G c [] I' (Va I' d m e i) nO)(hnext:∀b a,m<=b->b<=maxLen->lN a=(b-m)*d->At F fn n I w ρ A R (f.out (BA []) {r:=.s (EL f) 0 m b,nb:=[.As (i++a) e],J:=I'}))(g:FH f n G [] [] c I':=by exact kR):At F fn n I w ρ A R f:=
 A0 h [] (hobs:=g) λh o=>by obtain⟨b,a,j,k,l,rfl⟩:=o;exact hnext b a j k l
def B0{vs cs e t k off ad x ty I'}(m:(Mo f).op=.store t ad x)(q:ev f.σ.tm ad=.p k off)(z:(ev f.σ.tm x).cs=sM (cs.map .v))(o:Bt.get t=sM ty)(y:lN cs=ty.n)(s:off+lN cs<=lN vs)(p:∀v∈cs,v.oneCell')
 (a:OB f n [(k,.As vs e)] I') (hnext:At F fn n I w ρ A R<|f.act {r:=.v undef,AV:=[(k,.As (BX vs off cs) e)],J:=I'}):At F fn n I w ρ A R f:=by
 refine act (need:=[(k,.As vs e)]) (hobs:=a) (AJu (I:=I') Be (L:=Bt) m q z o y s p<|A9.2 rfl) ?_ ?_;intro h g;subst g;refine{r:= ?_,u:= ?_,n:= ?_,l:=by simp,le:=AB.Hj _,d:=by simp};intro k i;cases i;intro B j;rw[A9.1 j];refine⟨A9.2 rfl,?_,?_⟩;intro b c;rw[(IC<|A9.1 c).2];rfl;intro k i;cases i;intro b c;cases c;intro h g;subst g;exact hnext
theorem AAr{l a:AA AF}{o}(h:o+lN a<=lN l):lN (BX l o a)=lN l:=by rw[BX];simp[CK,Cu,Lw];omega
def Ut{a b c:AA AF}{o}(h:o+lN c<=lN a):BX (a++b) o c=BX a o c++b:=by unfold BX;rw[Ji oG,VI h];simp
def ANh{a b cs:AA AF}{o}:BX (a++b) (lN a+o) cs=a++BX b o cs:=by unfold BX;rw[AGb,Nb,S5];simp
theorem Rows.AV{p:Type}{R S c j}{cs:AA AF}(o:∀x l,R x l->lN l=c)(d:∀x l,R x l->S x l):∀ {i:AA p} {l:AA AF} {k:Nat} {x x':p},Rows R i l->i[k]? =sM x->(∀h,R x h->S x' (BX h j cs))->j+lN cs<=c->Rows S (i.set k x') (BX l (k*c+j) cs)
 |y::i,l,0,x,x',⟨a,b,e,g,m⟩,hx,hf,hj=>by cases hx;have:=o _ _ g;refine⟨BX a j cs,b,?_,hf a g,m.mono d⟩;rw[e,Nat.zero_mul,FE,Ut oG]
 |y::i,l,k+1,x,x',⟨a,b,e,g,m⟩,hx,hf,hj=>by have:=o _ _ g;refine⟨a,BX b (k*c+j) cs,?_,d _ _ g,Rows.AV o d m hx hf hj⟩;rw[e,<-ANh,this];congr 1;rw[Gm];omega
def modify_eq{a:Type}{l:AA a}{k x f}(h:l[k]? =sM x):l.modify k f=l.set k (f x):=by apply VJ;intro i;rw[RP,VL];by_cases e:k=i;subst e;rw[Ac rfl,h,Ac (Ci.1 h).1];simp;rw[AY e];simp only[AY e];cases l[i]? <;>rfl
def ZA{I f}{pc:Nat}:∀b,Gd I f b->Gd I {f with pc:=pc} (BX b 1 [.int iK pc]):=by rintro b ⟨c,d,a,rfl,q⟩;exact⟨c,d,a,rfl,q⟩
def AUg{I f m}:∀b,Gd I f b->Gd I {f with AR:=m} (BX b 3 [.int .u8 m.toNat]):=by rintro b ⟨c,d,a,rfl,q⟩;exact⟨c,d,a,rfl,q⟩
def Av.Ky{h:Type}{J R a b c}{d:AA h}{l AE:AA AF}{e}(j:J b=sM (.cells (l++AE).toArray e (0,0)))(g:Rows R d l)(m:∀x l,R x l->lN l=a)(i:∀v∈l,v.oneCell')(k:lN d<=c)(o:c<=maxLen):Av J R a d (aP b) c l:=
 ⟨Dk.Og j (g.len m) i,k,o,g⟩
def AAJ{I d l}(h:Rows (Gd I) d l):∀v∈l,v.oneCell':=by
 induction d generalizing l with
 |nil=>cases h;intro v c;cases c
 |cons x d e=>
  obtain⟨a,b,rfl,⟨_,_,_,rfl,_⟩,h2⟩:=h;intro v c;rcases Bc.1 c with c|c;simp at c;rcases c with rfl|rfl|rfl|rfl|rfl<;>rfl;exact e h2 v c
abbrev APx(I:AB)(u:Ay):zP:=He I (λq:DL=>.t [.g<|Dx u q,.v tV]) λJ q=>C0 J u q
def AN7(I)(c:Ay)(p)(b:Int)(a:Nat)(e:lN c.AP-1<a\/lN c.AP=0)(g:lN c.AP<=1000000):Fn 224 [.g<|Dx c p,.v<|nV b,.v<|nV a] [] I (BW (.t [.g<|Dx c p,.v fV]) I) nO:=fo func224 λh f w d=>gg [(15,hW ((lN c.AP:Int)-1) ((lN c.AP:Int)-1) rfl),(18,OU I #[3,3] a 0 a oG),(19,hT<|(lN c.AP:Int)-1<(a:Int))]<|fi
def AdC(I c p)(f:Int)(a:Nat)(t)(h:C0 I c p)(s:c.AP.getLast?=sM t)(r:a<=lN c.AP-1)(n:t.AG<1\/lN c.AG<t.AG\/lN c.stack<t.Cg)(C:lN c.AP<=1000000):Fn 224 [.g<|Dx c p,.v<|nV f,.v<|nV a] [] I (BW (.t [.g<|Dx c p,.v fV]) I) nO:=by let⟨b,d,arr,e,z,l,m,g,q,i,j⟩:=h.t.cell Uy<|SD s;rw[Oy]at q;subst q;let⟨x,y,fl,D,E,F,G,k,H⟩:=p;simp only at m;subst m;refine fo func224 λJ v w o=> ?_;by_cases A:t.AG<1;exact gg [(15,hW ((lN c.AP:Int)-1) ((lN c.AP-1:Nat):Int)),(18,OU I #[3,3] a 0 a oG),(19,hF<|((lN c.AP-1:Nat):Int)<(a:Int)),(24,Br I V6 b d (lN c.AP) k (lN c.AP-1) i),(25,D8 I XH (d+(lN c.AP-1)*3) (Ea t) rfl g j),(28,hT<|(t.AG:Int)<1)]<|fi;by_cases B:lN c.AG<t.AG;exact gg [(15,hW ((lN c.AP:Int)-1) ((lN c.AP-1:Nat):Int)),(18,OU I #[3,3] a 0 a oG),(19,hF<|((lN c.AP-1:Nat):Int)<(a:Int)),(24,Br I V6 b d (lN c.AP) k (lN c.AP-1) i),(25,D8 I XH (d+(lN c.AP-1)*3) (Ea t) rfl g j),(28,hF<|(t.AG:Int)<1),(35,hT<|(t.AG:Int)>lN c.AG)]<|fi;exact gg [(15,hW ((lN c.AP:Int)-1) ((lN c.AP-1:Nat):Int)),(18,OU I #[3,3] a 0 a oG),(19,hF<|((lN c.AP-1:Nat):Int)<(a:Int)),(24,Br I V6 b d (lN c.AP) k (lN c.AP-1) i),(25,D8 I XH (d+(lN c.AP-1)*3) (Ea t) rfl g j),(28,hF<|(t.AG:Int)<1),(35,hF<|(t.AG:Int)>lN c.AG),(40,hF<|(t.Cg:Int)<0),(48,hT<|(t.Cg:Int)>lN c.stack)]<|fi
def AdD(I c p)(d:Int)(g:Nat)(t)(h:C0 I c p)(ht:c.AP.getLast?=sM t)(ab:g<=lN c.AP-1)(h1:1<=t.AG)(h2:t.AG<=lN c.AG)(h3:t.Cg<=lN c.stack)(hl:lN c.AP<=1000000)(aa:lN c.AG<=1000000)(ac:lN c.stack<=1000000):
 Fn 224 [.g<|Dx c p,.v<|nV d,.v<|nV g] [] I (APx I ⟨KC (c.AG.take t.AG) (t.AG-1) t.at_,c.stack.take t.Cg++[BH d],c.AP.take<|lN c.AP-1⟩) nO:=by
 let⟨b,u,arr,e,fr,l,R,Z,T,hk,L⟩:=h.t.cell Uy<|SD ht;rw[Oy]at T;subst T;let⟨fa,X,fl,U,sc,V,ta,W,tl⟩:=p;simp only at R;subst R;have j:=h.f.take (JN I) t.AG;let⟨N,B,M,e2,Y,E,_⟩:=j.sl.open_ sO;simp only at E;subst E;have hlen:lN (c.AG.take t.AG)=t.AG:=sO
 have n:min t.AG (lN c.AG)=t.AG:=oG;rw[n]at j;have A:=j.sl;rw[hlen]at A;refine fo func224 λρ ad w S=>gg [(15,hW ((lN c.AP:Int)-1) ((lN c.AP-1:Nat):Int)),(18,OU I #[3,3] g 0 g oG),(19,hF<|((lN c.AP-1:Nat):Int)<(g:Int)),(24,Br I V6 b u (lN c.AP) W (lN c.AP-1) hk),(25,D8 I XH (u+(lN c.AP-1)*3) (Ea t) rfl Z L),(28,hF<|(t.AG:Int)<1),(35,hF<|(t.AG:Int)>lN c.AG),(40,hF<|(t.Cg:Int)<0),(48,hF<|(t.Cg:Int)>lN c.stack)] ?_;have z:=Yr I (aO N B) (lN c.AG) X t.AG h.f.cap;rw[n]at z;refine call z<|gG<|PE (Yl I ⟨N,B,nO⟩ t.AG t.AG _ oG A) λC s G H hj=>gg [(60,hW ((t.AG:Int)-1) ((t.AG-1:Nat):Int)),
  (63,Aee Be I 45 57 60 484 0 t.AG C (t.AG-1) 5 rfl rfl oG)] ?_
 have D:=j.CE.len<|JN I;rw[hlen]at D;refine B0 (k:=484) (off:=0+(t.AG-1)*5+1) (t:=3) (ad:=.tmp 64) (x:=.tmp 62) (e:=65) (vs:=fl.take (t.AG*5)++s) (cs:=[.int iK t.at_]) (ty:=⟨1,_,_⟩) (I':=I) kR kR kR rfl rfl (by simp[CK,D,O3];omega) (by intro v L;rw[A9.1 L];rfl) kR ?_;refine gG<|call (Vz I U (lN c.stack) sc t.Cg h.s.cap)<|gG ?_;have F:=h.s.take Jd t.Cg;have f:min t.Cg (lN c.stack)=t.Cg:=oG;have k:lN (c.stack.take t.Cg)=t.Cg:=sO
 have q:=F.sl;rw[f]at q;rw[k]at q;refine KR (AHG I U (min t.Cg<|lN c.stack) (min t.Cg<|lN c.stack) (V.take<|t.Cg*5) (BH d) (Ag _) oG<|by rwa[f]) λa m J hle q1 q2 q3=> ?_;refine gG<|call (AIg J (aO b u) (lN c.AP) W (lN c.AP-1) h.t.cap)<|gG<|B4 484 J (vs:=BX (fl.take (t.AG*5)++s) (0+(t.AG-1)*5+1) [.int iK t.at_]) (e:=65) λO K i _ Q=> ?_;have y:∃x,(c.AG.take t.AG)[t.AG-1]? =sM x:=⟨(c.AG.take t.AG)[t.AG-1]'oG,BS oG⟩;let⟨x,y⟩:=y;have o:Rows (Gd K) (KC (c.AG.take t.AG) (t.AG-1) t.at_) (BX (fl.take<|t.AG*5) ((t.AG-1)*5+1) [.int iK t.at_]):=by rw[KC];rw[modify_eq y];exact(j.CE.AV (JN I) (λ_ _ h=>h) y ZA sP).mono<|Nl<|hle.trans i
 have hnew:C0 K ⟨KC (c.AG.take t.AG) (t.AG-1) t.at_,c.stack.take t.Cg++[BH d],c.AP.take<|lN c.AP-1⟩ ⟨sM ⟨O,0,nO⟩,C,BX (fl.take<|t.AG*5) ((t.AG-1)*5+1) [.int iK t.at_],a,m,V.take (t.Cg*5)++BG (BH d),sM ⟨b,u,nO⟩,min (lN c.AP-1)<|lN c.AP,tl.take<|min (lN c.AP-1) (lN c.AP)*3⟩:=by refine⟨?_,?_,(h.up<|hle.trans i).t.take Uy<|lN c.AP-1⟩;refine Av.Ky (l:=BX (fl.take<|t.AG*5) ((t.AG-1)*5+1) [.int iK t.at_]) (AE:=s) (e:=65) ?_ o (JN K) (AAJ o) ?_ H;rw[FE,Ut<|by simp[D,O3];omega]at Q;exact Q;simp[KC,N8,hlen];exact G;have P:lN (c.stack.take t.Cg++[BH d])=min t.Cg (lN c.stack)+1:=sP;refine⟨?_,by rwa[P],q2,?_⟩;rw[P];exact q3.up i;have:=F.CE;rw[f]at this;exact this.append<|Rows.one rfl
 refine dn [] ⟨_,K,?_,hle.trans i,hnew⟩ (h:={r:=.t [.g [.v<|.slice (aP O) t.AG C,.v<|.slice a (min t.Cg (lN c.stack)+1) m,.v<|.slice (aO b u) (min (lN c.AP-1)<|lN c.AP)<|min (lN c.AP-1)<|lN c.AP],.v tV],J:=K});simp[Dx,KC,f,k,n]
def AAQ(k:Nat)(v:AW)(o:Lz.Op):AA SV:=[.v<|nV k,.v<|nV v.kind,.v<|nV v.n,.v<|sV v.name,.v<|vS<|AJ v.l.1,.v<|vS<|AJ v.l.2,.v<|nV o.code,.v<|nV o.a]
def AZU:Lz.Out->SV
 | .Iu=>.g<|AAQ 0 AZ ⟨0,0⟩
 | .ended v=>.g<|AAQ 1 v ⟨0,0⟩
 | .failed v=>.g<|AAQ 2 v ⟨0,0⟩
 | .asked o=>.g<|AAQ 3 AZ o
abbrev YH(I:AB)(r:Ay×Lz.Out):zP:=He I (λq:DL=>.t [.g<|Dx r.1 q,AZU r.2]) λJ q=>C0 J r.1 q
structure Kf(c:Ay):Prop where
 f:lN c.AG<=900000
 s:lN c.stack<=900000
 t:lN c.AP<=900000
def AMX(I c p)(a:Int)(b:Nat)(i:Kf c)(h:C0 I c p):Fn 153 [.g<|Dx c p,.v<|nV a,.v<|nV b] [] I (YH I<|FF c a b) nO:=by
 have u:=i.f;have v:=i.s;have x:=i.t;refine fo func153 λo m w n=>gG ?_;have f:NU c a b=nO->Fn 224 [.g<|Dx c p,.v<|nV a,.v<|nV b] [] I (BW (.t [.g<|Dx c p,.v fV]) I) nO->At 153 f153 f153.ntmps I w o (([]:AA<|Nat×AK).map (·.1)) (Ends (([]:AA<|Nat×AK).map (·.1)) I o m w (YH I<|FF c a b) nO) (rX [] f153.ntmps (([]:AA<|Nat×AK).map (·.1))<|init [.g<|Dx c p,.v<|nV a,.v<|nV b] [] I<|MP f153).f:=λl k=>by
  refine call k<|gG<|call (U9 I a)<|gG ?_;have e:FF c a b=(c,.failed<|BH a):=by rw[FF];rw[l]
  rw[e];exact dn [] ⟨p,I,rfl,AB.le_refl _,h⟩
 cases d:c.AP.getLast? with
 |none=>
  have r:lN c.AP=0:=by rw[S8]at d;rw[d];rfl
  exact f (by rw[NU];rw[d])<|AN7 I c p a b (.inr r) oG
 |some t=>
  by_cases g:lN c.AP-1<b;exact f (by rw[NU];rw[d];simp only;rw[Ac g])<|AN7 I c p a b (.inl g) oG;by_cases j:t.AG<1\/lN c.AG<t.AG\/lN c.stack<t.Cg;exact f (by rw[NU];rw[d];simp only;rw[AY g,Ac j])<|AdC I c p a b t h d oG j oG;have e:FF c a b=(⟨KC (c.AG.take t.AG) (t.AG-1) t.at_,c.stack.take t.Cg++[BH a],c.AP.take<|lN c.AP-1⟩,.Iu):=by rw[FF,NU];rw[d];simp only;rw[AY g,AY j]
  rw[e];exact Cz (AdD I c p a b t h d oG oG oG oG oG oG oG) λq J hle s=>gG<|dn [] ⟨q,J,rfl,hle,s⟩
def AIU(I)(ad)(n c)(xs)(hc:n<=16777216)(h:Dk I 5 (some ad) n xs):Fn 42 [.v (.slice (some ad) n c)] [] I (Va I 5 n 51 xs) none:=by refine Ju 8 Tryz.func42 Tryz.ntmps42 rfl rfl kR λρ key w a=>gg [(4,.op I _ (.v (.bool false)) (MV (a:=some ad) (n:=n) (c:=c) (.tmp 3) (.const (.slice none 0 0)) NW))]<|act (need:=[(124,.As [] 51)]) (Kk Be (n:=0) (cap:=0) (vs:=[]) (CQ:=[]) (x:=.v (.slice (some ad) n c)) LU kR sP rfl rfl sP (h.reads (c:=c)) (Nat.le_refl _) (by unfold maxLen;omega) oG) (QO (.inr ⟨_,_,_,rfl,rfl⟩)) ?_;rintro h' ⟨cap,AE,h1,b,d,rfl⟩;refine gG ?_;exact dn [140] ⟨cap,AE,oG,b,by rw[d];simp,sP⟩ (h:={r:=.s (key+0) 0 (0+n) cap,nb:=[.As (xs++AE) 51],J:=I})
def QP{I g n i k t e q o v m}(s:m.live):∀h,VU I g n i e [(k,.gone)] o h->h.wf I g [(k,.As v q),(t,m)] []:=by rintro h ⟨p,f,_,_,_,rfl⟩;refine{r:=λx c=> ?_,u:=λw j=> ?_,n:=λb a x c=> ?_,l:=by simp,le:=AB.Hj _,d:=by simp};right;simp[SV.A3,A9]at c;subst c;have:=Nv (key:=x) (nb:=[AK.As (o++f) e]) (j:=0);simp[IB]at this;rw[this];rfl;rw[A9.1 j];refine⟨sP,λb a=> ?_,nA⟩;rcases Co.1 a with e|e;rw[(IC e).2];rfl;rwa[(IC<|A9.1 e).2];rw[A9.1 a]at c;cases c
def AI3(I)(c:Ay)(p)(h b:Nat)(e)(g f:Nat)(a:AH)(j:16<=lN c.AG):Fn 140 [.g<|Dx c p,.v<|nV h,.v<|nV b,.v<|.slice e g f,.v<|.int .u8 a.toNat] [] I (BW (.t [.g<|Dx c p,.v fV]) I) nO:=fo func140 λk i w d=>gg [(16,hT<|(lN c.AG:Int)≥16)]<|fi
def AFK{a l}(h:Rows F9 a l):l=a.flatMap BG:=Rows.flat.1 h
def Pn{c:AA AW}:∀v∈c.flatMap BG,v.oneCell':=by intro v b;let⟨x,_,a⟩:=LJ.1 b;simp[BG]at a;rcases a with rfl|rfl|rfl|rfl|rfl<;>rfl
def UH(a:AA AW):lN (a.flatMap BG)=lN a*5:=by
 induction a with
 |nil=>rfl
 |cons x a b=>rw[Kb,CK,b,FM,Gm];simp[BG];omega
abbrev AB3(I:AB)(u:Ay):zP:=He I (λq:DL=>.t [.g<|Dx u q,.v tV]) λJ q=>C0 J u q
def Im(a:AA AW)(i:Nat):AA AW:=a++lP i (BH 0)
def AXe(a i):(Im a<|i+1).flatMap BG=(Im a i).flatMap BG++BG (BH 0):=by unfold Im;rw[List.replicate_succ',<-Eb,Mu];simp
def Ld(a:AA AF):Nat->AA AF
 |0=>a
 |i+1=>Ld a i++BG (BH 0)
def UK(a):∀i,Ld (a.flatMap BG) i=(Im a i).flatMap BG
 |0=>by simp[Ld,Im]
 |i+1=>by rw[AXe,<-UK a i];rfl
structure TN where
 i:Nat
 cap:Nat
 AE:AA AF
def ATE(I:AB)(c:Ay)(p:DL)(fn n m:Nat)(AR:AH)(al:AA AF)(x:TN):Hd where
 Cd:=[(1,.v<|nV fn),(4,.v<|.int .u8 AR.toNat),(5,.p 100 0),(10,.p 108 0),(11,.v fV),(12,.s 116 0 (n+x.i) x.cap),(22,.v<|.int iK (m:Nat)),(23,.v<|nV x.i)]
 Cc:=[(100,.cells (Dx c p) 48),(108,.cells [.v zS,.v zS,.v zS] 48),(116,.As (Ld al x.i++x.AE) 51)]
 J:=I
def ADG(I)(c:Ay)(p)(t d:Nat)(e:AA AW)(A)(z:Nat)(s)(f:AH)(h:C0 I c p)(G:F3 I e (sM A) z s)(X:lN c.AG<16)(L:lN e<=1000)(P:lN c.stack<=1000000):
 Fn 140 [.g<|Dx c p,.v<|nV t,.v<|nV d,.v<|.slice (sM A) (lN e) z,.v<|.int .u8 f.toNat] [] I (AB3 I {c with AG:=c.AG++[⟨t,0,lN c.stack,f,e++lP (min d 16) (BH 0)⟩]}) nO:=by
 have l:=AFK G.CE;refine fo func140 λZ Q w H=>gg [(16,hF<|(lN c.AG:Int)≥16)]<|PE (AIU I A (lN e) z s oG G.sl) λg k B C N=>gg [(21,OU I #[3,3] d 0 d oG),(22,ADp I #[3,3] d 16 ((min d 16:Nat):Int) oG)]<|loop (ι:=TN) (λx=>x.i<=min d 16/\lN e+x.i<=x.cap/\x.cap<=maxLen/\lN x.AE=(x.cap-(lN e+x.i))*5) (λx=>min d 16-x.i)
  (ATE I c p t (lN e) (min d 16) f s) 300 [(116,164)] ⟨0,g,k⟩ ⟨Bm _,B,C,by simpa using N⟩ ?_
 rintro⟨i,g,k⟩ ⟨M,q1,q2,q3⟩ again T;simp only at M q1 q2 q3;by_cases O:i<min d 16;refine gg [(24,hT<|(i:Int)<((min d 16:Nat):Int))] ?_;refine act (need:=[(116,.As (Ld s i++k) 51),(324,.cells ((BG<|BH 0).map .v) 51)]) (Kk (I:=I) Be (vs:=Ld s i++k) (CQ:=Ld s i) (news:=BG<|BH 0) (x:=.s 324 0 1 1) LU kR sP ?_ ?_ (λv u=>Pn v<|by rw[l,UK]at u;exact u) (Ez (e:=51) sP rfl (by intro v u;simp[BG,BH]at u;rcases u with rfl|rfl|rfl|rfl|rfl<;>rfl)) q1 q2 oG) (QP rfl) ?_;rw[CK,l,UK,UH,q3];simp[Im,CK,AGY];rw[<-Gm];congr 1;omega;rw[O5];rw[l,UK,UH];simp[Im];rintro W ⟨n,q,Y,R,r3,rfl⟩;refine gg [(29,sH i)] ?_;exact bk again [(116,332)] ⟨i+1,n,q⟩ ⟨by show i+1<=_;omega,by show lN e+(i+1)<=n;omega,R,by show lN q=(n-(lN e+(i+1)))*5;rw[r3];congr 1⟩;have D:i=min d 16:=oG;subst D;refine go func140 [(24,hF<|(((min d 16:Nat)):Int)<((min d 16:Nat):Int))] 8 kR<|B4 116 I (vs:=Ld s (min d 16)++k) (e:=51) λb J hle _ F=> ?_;rw[l,UK]at F;have E:lN (Im e<|min d 16)=lN e+min d 16:=by simp[Im]
 refine gG<|KR (YM J p.fa (lN c.AG) p.fc p.fl t 0 (lN c.stack) f.toNat (aP b) (lN e+min d 16) g h.f.cap oG<|h.f.sl.up hle) λa m K j S U V=>gG ?_;have y:F3 K (Im e<|min d 16) (aP b) g ((Im e<|min d 16).flatMap BG):=Av.Ky (j _ _ F) (Rows.flat.2 rfl) Jd (λv u=>Pn v u) oG q2;have o:(c.AG++[(⟨t,0,lN c.stack,f,e++lP (min d 16) (BH 0)⟩:Cw)]).length=lN c.AG+1:=sP;have hnew:C0 K {c with AG:=c.AG++[⟨t,0,lN c.stack,f,e++lP (min d 16) (BH 0)⟩]} {p with fa:=a,fc:=m,fl:=p.fl++[.int iK t,.int iK 0,.int iK<|lN c.stack,.int .u8 f.toNat,.slice (aP b) (lN e+min d 16) g]}:=by refine⟨⟨by rwa[o],by rwa[o],U,?_⟩,(h.up<|hle.trans j).s,(h.up<|hle.trans j).t⟩;refine(h.f.CE.mono<|Nl<|hle.trans j).append<|Rows.one ⟨sM ⟨b,0,nO⟩,g,_,?_,y⟩;show _=[_,_,_,_,Value.slice (aP b) (lN<|Im e<|min d 16) g];rw[E];rfl
 refine dn [] ⟨_,K,?_,hle.trans j,hnew⟩ (h:={r:=.t [.g [.v<|.slice a (lN c.AG+1) m,.v<|.slice p.sa (lN c.stack) p.sc,.v<|.slice p.ta (lN c.AP) p.tc],.v tV],J:=K});simp[Dx]
def AdP(t:Fj):SV:=.g [.v<|nV t.AG,.v<|nV t.Cg,.v<|nV t.at_]
abbrev Lc(left:Nat):AK:=.cells [.v<|nV left] 3
abbrev TR(I:AB)(a:AA<|Nat×AK)(r:SV):zP:=λ_ h=>h= {r:=r,AV:=a,J:=I}
def OK{b a I' G r}(h:Fn G b a I' (TR I' a r) nO)(e:SL a)(d)(hnext:At F fn n I w ρ A R<|f.out (BA d) {r:=r,J:=I'})(c:VV f n G d a [] b I':=by exact kR):At F fn n I w ρ A R f:=
 IG (Fn.same h e) d hnext c
def AMl(I t left):Fn 347 [AdP t,.p 1 0] [(1,Lc left)] I (TR I [(1,Lc left)]<|.v<|vB<|decide<|left<t.AG) nO:=by refine fo func347 λρ b w a=> ?_;have e:Value.bool (decide<|(t.AG:Int)>(left:Int))=vB (decide<|left<t.AG):=sP;exact gg [(7,.eq _ _ e)]<|dn [] rfl
def Hm(l:AA Fj):AA AF:=l.flatMap Ea
def XZ(l):lN (Hm l)=lN l*3:=by
 induction l with
 |nil=>rfl
 |cons x l a=>unfold Hm at*;rw[Kb,CK,a,FM,Gm];simp[Ea];omega
def AOF{l i t}(h:l[i]? =sM t)(a):((Hm l++a).drop<|0+i*3).take 3=Ea t:=by have d:=(Ci.1 h).1;rw[FE,VI<|by rw[XZ];omega,Ji<|by rw[Lw,XZ];omega];exact Rows.get (λx l h=>by rw[h];rfl) ((Rows.flat).2 (rfl:l.flatMap Ea=l.flatMap Ea)) h
def Qj(left:Nat):AA Fj->AU Nat:=List.findIdx? λt=>decide<|left<t.AG
def PZ(left:Nat)(l:AA Fj):SV:=match Qj left l with|some i=>.v (nV i)|none=>.v<|.int iK (-1)
abbrev AAA(l:AA Fj)(a:AA AF)(left:Nat):AA (Nat×AK):=[(1,.As (Hm l++a) 118),(2,Lc left)]
def AWD(I:AB)(l:AA Fj)(cap:Nat)(AE:AA AF)(left i:Nat):Hd where
 Cd:=[(0,.s 1 0 (lN l) cap),(1,.fn (.func 347) [] [.p 2 0]),(4,.v<|.int iK 0),(7,.v<|nV<|lN l),(8,.v<|nV i)]
 Cc:=AAA l AE left
 J:=I
def AVp(I l c a left)(y:lN l<=1000000):Fn 385 [.s 1 0 (lN l) c,.fn (.func 347) [] [.p 2 0]] (AAA l a left) I (TR I (AAA l a left)<|PZ left l) nO:=by
 refine fo func385 λρ s w q=>gG<|loop (ι:=Nat) (λi=>i<=lN l/\∀j t,j<i->l[j]? =sM t->t.AG<=left) (λi=>lN l-i) (AWD I l c a left) 300 [] 0 ⟨Bm _,λj t h=>oG⟩ ?_;rintro i ⟨v,d⟩ again T;by_cases b:i<lN l;have k:l[i]? =sM l[i]:=BS b;generalize l[i]=t at k;refine gg [(9,tH i<|lN l),
  (14,Aee Be I 46 12 13 1 0 (lN l) c i 3 rfl rfl b),
  (15,Aff Be I 118 14 1 (0+i*3) 118 rfl rfl (AOF k a)<|by rw[CK,XZ];show 0+i*3+3<=_;omega)] ?_
 refine OK (AMl I t left) rfl [(1,2)] ?_;by_cases m:left<t.AG;rw[G5 m];refine gG ?_;have e:PZ left l=.v (nV i):=by
  have:Qj left l=sM i:=by rw[Qj];rw[Lv];refine⟨b,by rw[BS b]at k;cases k;simpa using m,λj g=> ?_⟩;have:=d j _ g<|BS oG;simp;omega
  rw[PZ];rw[this]
 rw[e];exact dn [] rfl;rw[Gp m];exact gg [(18,sH i)]<|bk again [] (i+1) ⟨b,λj u g p=>by by_cases e:j=i;subst e;rw[k]at p;cases p;omega;exact d j u oG p⟩
 have o:i=lN l:=oG;subst o;refine gg [(9,fH (lN l)<|lN l)] ?_;have e:PZ left l=.v (.int iK (-1)):=by
  have:Qj left l=nO:=by rw[Qj];rw[ABc];intro x r;obtain⟨j,g,rfl⟩:=P9.1 r;have:=d j _ g<|BS g;simp;omega
  rw[PZ];rw[this]
 rw[e];exact dn [] rfl
def Hi(left:Nat)(l:AA Fj):AA Fj:=l.filter λt=>decide<|t.AG<=left
structure DlX where
 i:Nat
 j:Nat
 vs:AA AF
def ASd(I:AB)(n cap left:Nat)(x:DlX):Hd where
 Cd:=[(0,.s 1 0 n cap),(1,.fn (.func 347) [] [.p 2 0]),(4,.v zS),(5,.v<|nV x.i),(6,.v<|nV x.j)]
 Cc:=[(1,.As x.vs 118),(2,Lc left)]
 J:=I
structure DlP(l:AA Fj)(left len:Nat)(x:DlX):Prop where
 lt:x.j<=lN l
 i:x.i=lN (Hi left (l.take x.j))
 len:lN x.vs=len
 pre:x.vs.take (x.i*3)=Hm (Hi left (l.take x.j))
 post:∀k t,x.j<=k->l[k]? =sM t->(x.vs.drop (0+k*3)).take 3=Ea t
def AKB{l:AA Fj}{left j}{t:Fj}(h:l[j]? =sM t):Hi left (l.take<|j+1)=Hi left (l.take j)++(if t.AG<=left then[t]else[]):=by rw[Hi];rw[My,h,VK];congr 1;by_cases e:t.AG<=left;simp[e];simp[e]
def AWQ(left)(l:AA Fj)(j)(h:j<=lN l):lN (Hi left (l.take j))<=j:=by have:=RQ (λt:Fj=>decide<|t.AG<=left)<|l.take j;rw[Hi];rw[Cu]at this;omega
def AB2(I:AB)(l:AA Fj)(left b len:Nat):zP:=λ_ h=>∃a,lN (Hm (Hi left l)++a)=len/\h= {r:=.s 1 0 (lN<|Hi left l) b,AV:=[(1,.As (Hm (Hi left l)++a) 118),(2,Lc left)],J:=I}
def ASc(I l cap a left)(hl:lN l<=1000000)(hc:lN l<=cap)(Y:lN a=(cap-lN l)*3):Fn 346 [.s 1 0 (lN l) cap,.fn (.func 347) [] [.p 2 0]] (AAA l a left) I (AB2 I l left cap<|lN<|Hm l++a) nO:=by
 have hlen:lN (Hm l++a)=cap*3:=by rw[CK,XZ,Y,<-Gm];congr 1;omega
 refine fo func346 λρ S w af=>gG ?_;have y:=AVp I l cap a left hl;cases M:Qj left l with
 |none=>
  rw[show PZ left l=.v (.int iK (-1)) by rw[PZ];rw[M]]at y;refine OK y rfl []<|gG ?_;have e:Hi left l=l:=by rw[Hi];rw[RO];intro t s;rw[Qj]at M;rw[ABc]at M;have:=M t s;simp at this;exact G5 this
  have V:AB2 I l left cap (lN<|Hm l++a) S {r:=.s 1 0 (lN l) cap,AV:=[(1,.As (Hm l++a) 118),(2,Lc left)],J:=I}:=⟨a,by rw[e],by rw[e]⟩;exact dn [] V (h:={r:=.s 1 0 (lN l) cap,AV:=[(1,.As (Hm l++a) 118),(2,Lc left)],J:=I})
 |some i0=>
  rw[show PZ left l=.v (nV i0) by rw[PZ];rw[M]]at y;have H:=M;rw[Qj]at H;rw[Lv]at H;obtain⟨N,ad,ac⟩:=H;refine OK y rfl []<|gg [(12,hN (i0:Int) (-1)),(15,sH i0)] ?_;have aa:Hi left (l.take i0)=l.take i0:=by rw[Hi];rw[RO];intro t s;obtain⟨j,Y,rfl⟩:=P9.1 s;rw[Cu]at Y;have:=ac j oG;rw[VN];simp at this;exact G5 this
  have P:Hi left (l.take<|i0+1)=l.take i0:=by rw[AKB<|BS N,aa];simp at ad;rw[AY oG,Hn]
  refine loop (ι:=DlX) (DlP l left (lN<|Hm l++a)) (λx=>lN l-x.j) (ASd I (lN l) cap left) 300 [] ⟨i0,i0+1,Hm l++a⟩ ⟨N,?_,rfl,?_,λk t _ s=>AOF s a⟩ ?_;show i0=lN (Hi left (l.take<|i0+1));rw[P,Cu];omega;show(Hm l++a).take (i0*3)=Hm (Hi left (l.take<|i0+1));rw[P,Ji<|by rw[XZ];omega];exact Rows.flat.1 (((Rows.flat (f:=Ea)).2 (rfl:l.flatMap Ea=l.flatMap Ea)).take (k:=3) (λx l h=>by rw[h];rfl) i0);rintro⟨i,j,g⟩ ⟨O,L,c,m,o⟩ again T;simp only at O L c m o;have W:i<=j:=by rw[L];exact AWQ left l j O
  by_cases z:j<lN l;have s:l[j]? =sM l[j]:=BS z;generalize l[j]=t at s;have p:=AKB (left:=left) s;refine gg [(19,tH j<|lN l),
   (24,Aee Be I 46 22 23 1 0 (lN l) cap j 3 rfl rfl z),
   (25,Aff Be I 118 24 1 (0+j*3) 118 rfl rfl (o j t (Ag _) s)<|by rw[c,hlen];show 0+j*3+3<=_;omega)] ?_
  refine OK (AMl I t left) rfl [(1,2)] ?_;by_cases K:left<t.AG;rw[G5 K];rw[AY oG,Hn]at p;refine gg [(21,sH j)] ?_;exact bk again [] ⟨i,j+1,g⟩ ⟨z,by show i=_;rwa[p],c,by show g.take (i*3)=_;rwa[p],λk t E s=>o k t (by have:j+1<=k:=E;omega) s⟩;rw[Gp K];rw[Ac oG]at p;refine gg [(33,Aee Be I 46 30 31 1 0 (lN l) cap i 3 rfl rfl oG)] ?_;refine B0 (k:=1) (off:=0+i*3) (t:=118) (ad:=.tmp 33) (x:=.tmp 32) (e:=118) (vs:=g) (cs:=Ea t) (ty:=⟨3,_,_⟩) (I':=I) kR kR kR rfl rfl (by rw[c,hlen];show 0+i*3+3<=_;omega) (by intro v hv;simp[Ea]at hv;rcases hv with rfl|rfl|rfl<;>rfl) kR ?_;refine gg [(35,sH i),(21,sH j)] ?_;have G:lN (BX g (0+i*3)<|Ea t)=lN g:=AAr (by rw[c,hlen];show 0+i*3+3<=_;omega);refine bk again [] ⟨i+1,j+1,BX g (0+i*3)<|Ea t⟩ ⟨z,?_,by show(BX g (0+i*3)<|Ea t).length=_;rw[G,c],?_,λk t' E ae=> ?_⟩;show i+1=_;rw[p,CK,<-L];rfl;show(BX g (0+i*3)<|Ea t).take ((i+1)*3)=_;rw[p];rw[Hm]at m⊢;rw[Mu,<-m,FE];rw[BX];have U:lN (g.take<|i*3)=i*3:=by rw[Cu,c,hlen];omega
  rw[Eb,show(i+1)*3=lN (g.take<|i*3)+3 by rw[U,Gm],AGb,Ji<|by show 3<=3;omega];rfl;show((BX g (0+i*3)<|Ea t).drop<|0+k*3).take 3=_;have ag:j+1<=k:=E;rw[<-(o k t' oG ae)];rw[BX];have U:lN (g.take<|0+i*3)=i*3:=by rw[Cu,c,hlen];omega
  rw[List.drop_append,List.drop_eq_nil_of_le<|by rw[CK,U];show _<=0+k*3;simp[Ea];omega,F2,AGO];congr 2;rw[CK,U];simp[Ea];omega;have Z:j=lN l:=oG;subst Z;rw[FN]at L m;have X:i<=cap:=oG;refine gg [(19,fH (lN l)<|lN l),
   (38,.BZ (.slice 46 (.tmp 36) (sM<|.tmp 37) nO nO) [(36,.s 1 0 (lN l) cap),(37,.v<|.int iK<|Int.ofNat i)] [] I (.s 1 (if cap=i then 0 else i*3) (lN l-i)<|cap-i)<|AKy Be (L:=Bt) (t:=46) (a:=36) (b:=37) (k:=1) (n:=lN l) (c:=cap) (i:=i) (e:=118) (ty:=⟨3,_,_⟩) rfl rfl W)] ?_
  have B:(if cap=i then 0 else i*3)+(lN l-i)*3<=lN g:=by rw[c,hlen];split<;>omega
  refine act (need:=[(1,.As g 118)]) (AJt (I:=I) Be (L:=Bt) (t:=46) (k:=1) (off:=if cap=i then 0 else i*3) (n:=lN l-i) (c:=cap-i) (x:=.tmp 38) (vs:=g) (e:=118) (e':=118) (ty:=⟨3,_,_⟩) kR kR rfl rfl (by decide+kernel) rfl dC B<|A9.2 rfl) ?_ ?_;rintro h ⟨C,_,_,rfl⟩;refine{r:=nA,u:=λkb ab=> ?_,n:=nA,l:=by simp,le:=AB.Hj _,d:=by simp};rw[A9.1 ab];exact⟨A9.2 rfl,λb K=>by rw[(IC<|A9.1 K).2];rfl,nA⟩;rintro h ⟨C,D,_,rfl⟩;refine gg [(41,.BZ (.slice 46 (.tmp 39) nO (sM<|.tmp 40) nO) [(39,.s 1 0 (lN l) cap),(40,.v<|.int iK<|Int.ofNat i)] [] I (.s 1 0 i cap)<|AK4 Be (L:=Bt) (t:=46) (a:=39) (b:=40) (k:=1) (n:=lN l) (c:=cap) (i:=i) (e:=118) (ty:=⟨3,_,_⟩) rfl rfl X)] ?_;have q:(BX g (if cap=i then 0 else i*3) C).take (i*3)=Hm (Hi left l):=by rw[<-m];by_cases e:cap=i;have:lN l-i=0:=oG;rw[this]at D;have Q:C=[]:=Ib (by rw[D];simp);subst Q;rw[BX];simp;rw[AY e];rw[BX];rw[Eb,Ji<|by rw[Cu,c,hlen];omega,IA,Xw]
  have G:lN (BX g (if cap=i then 0 else i*3) C)=lN g:=AAr (by rwa[D]);have V:AB2 I l left cap (lN<|Hm l++a) S {r:=.s 1 0 i cap,AV:=[(1,.As (BX g (if cap=i then 0 else i*3) C) 118),(2,Lc left)],J:=I}:=by refine⟨(BX g (if cap=i then 0 else i*3) C).drop<|i*3,?_,?_⟩;rw[<-q,TB,G,c];rw[<-q,TB,L]
  exact dn [] V (h:={r:=.s 1 0 i cap,AV:=[(1,.As (BX g (if cap=i then 0 else i*3) C) 118),(2,Lc left)],J:=I})
def ARv(I)(ad)(n c)(xs)(hc:n<=16777216)(h:Dk I 3 (some ad) n xs):Fn 43 [.v (.slice (some ad) n c)] [] I (Va I 3 n 118 xs) none:=by refine Ju 8 Tryz.func43 Tryz.ntmps43 rfl rfl kR λρ key w a=>gg [(4,.op I _ (.v (.bool false)) (MV (a:=some ad) (n:=n) (c:=c) (.tmp 3) (.const (.slice none 0 0)) Sv))]<|act (need:=[(124,.As [] 118)]) (Kk Be (n:=0) (cap:=0) (vs:=[]) (CQ:=[]) (x:=.v (.slice (some ad) n c)) ACJ kR sP rfl rfl sP (h.reads (c:=c)) (Nat.le_refl _) (by unfold maxLen;omega) oG) (QO (.inr ⟨_,_,_,rfl,rfl⟩)) ?_;rintro h' ⟨cap,AE,h1,b,d,rfl⟩;refine gG ?_;exact dn [140] ⟨cap,AE,oG,b,by rw[d];simp,sP⟩ (h:={r:=.s (key+0) 0 (0+n) cap,nb:=[.As (xs++AE) 118],J:=I})
def ARu(I c):Fn 43 [.v<|.slice nO 0 c] [] I (BW (.v zS) I) nO:=Ju 8 func43 ntmps43 rfl rfl kR λρ b w a=>gg [(4,.op I _ (.v tV)<|MV (a:=nO) (n:=0) (c:=c) (.tmp 3) (.const zS) Sv)]<|fi
def AWE(I:AB)(left:Nat)(_:Unit):Hd where
 Cd:=[(4,.v<|.int iK 0),(7,.v<|.int iK 0),(8,.v<|.int iK 0)]
 Cc:=[(2,Lc left)]
 J:=I
def AVo(I)(left:Nat):Fn 385 [.v zS,.fn (.func 347) [] [.p 2 0]] [(2,Lc left)] I (TR I [(2,Lc left)]<|.v<|.int iK (-1)) nO:=by refine fo func385 λρ b w a=>gG<|loop (λ_=>True) (λ_=>0) (AWE I left) 300 [] () trivial ?_;rintro _ _ _ T;exact gG<|dn [] rfl
def ASb(I left):Fn 346 [.v zS,.fn (.func 347) [] [.p 2 0]] [(2,Lc left)] I (TR I [(2,Lc left)]<|.v zS) nO:=fo func346 λρ b w a=>gG<|OK (AVo I left) rfl []<|gG<|dn [] rfl
abbrev APo(I:AB)(c:Ay)(v:AW):zP:=He I (λq:DL=>.t [.g<|Dx (Ei c) q,Do v,.v tV]) λJ q=>C0 J (Ei c) q
def Aar(I c p f)(U:c.top=some f)(B:HQ c 1)(Q:Kf c)(h:C0 I c p):Fn 286 [.g<|Dx c p] [] I (APo I c<|(Ct c 1).getD 0 AZ) none:=by
 have l1:=Q.f;have l2:=Q.s;have l3:=Q.t;have C:=AAU I c p 1 f U B oG oG h;let⟨b,a,arr,e,fr,va,vc,P,y,hI,ag,ae,o⟩:=Tx h U;let⟨fa,fc,fl,M,sc,sl,ta,N,tl⟩:=p;simp only at y;subst y;have hb:MN c=f.Cp:=by rw[MN];rw[U]
 have i:=B;simp[HQ,Bool.and_eq_true,decide_eq_true_eq]at i;rw[hb]at i;let⟨k1,k2⟩:=i;have af:(Ct c 1).length=1:=N1 oG;obtain⟨v,O⟩:∃v,(Ct c 1)[0]? =some v:=⟨_,List.getElem?_eq_getElem oG⟩;have Z:(Ct c 1).getD 0 AZ=v:=by rw[List.getD_eq_getElem?_getD,O];rfl
 rw[Z];refine fo Tryz.func286 λρ ah w ab=>gG<|Cz C λq J hle hq=> ?_;let⟨W,D⟩:=hq;let⟨qp,qa,qc,ql⟩:=q;simp only at W D;obtain⟨b2,g,aa,e2,ac,rfl,t,Y⟩:=Xc D oG;have H:=Y 0 v O;refine gg [(21,hN (c.AG.length:Int) 0),(28,hW ((c.AG.length:Int)-1) ((c.AG.length-1:Nat):Int)),(34,Br J PO b a c.AG.length fc<|c.AG.length-1),(36,ED J Ek rfl (a+(c.AG.length-1)*5+2) (.int .i64 f.Cp) (hle _ _ hI)<|o 2 _ rfl)]<|call (Vz J M c.stack.length sc f.Cp h.s.cap)<|gG<|call (Yr J (some ⟨b,a,none⟩) c.AG.length fc (c.AG.length-1) h.f.cap)<|gG ?_;have j:Hi (c.AG.length-1) c.AP=(Ei c).AP:=rfl;have z:=(h.up hle).f.take (JN J)<|c.AG.length-1;have E:=(h.up hle).s.take Jd f.Cp;have k:(Ei c).AG=c.AG.take (c.AG.length-1):=rfl;have hrs:(Ei c).stack=c.stack.take f.Cp:=by simp[Ei,hb]
 cases ta with
 |none=>
  have h0:c.AP.length=0:=h.t.sl.Wr;have l:c.AP=[]:=List.eq_nil_of_length_eq_zero h0;have e0:(SV.v<|Value.slice none c.AP.length N)=.v (.slice none 0 N):=by rw[h0]
  have T:Fn 43 [.v<|.slice none c.AP.length N] [] J (BW (.v<|.slice none 0 0) J) none:=by rw[e0];exact ARu J N
  refine call T<|gG<|OK (ASb J<|c.AG.length-1) rfl [(2,308)]<|gg [(52,Br J Gx b2 g 1 qc 0),(53,D8 J Oo (g+0*5) (BG v) rfl t H)] ?_;have hnew:C0 J (Ei c) ⟨some ⟨b,a,none⟩,min (c.AG.length-1) c.AG.length,fl.take<|min (c.AG.length-1) c.AG.length*5,M,min f.Cp c.stack.length,sl.take<|min f.Cp c.stack.length*5,none,0,[]⟩:=by refine⟨by rwa[k],by rwa[hrs],?_⟩;rw[<-j,l];exact Av.empty
  refine dn [] ⟨_,J,?_,hle,hnew⟩ (h:={r:=.t [.g [.v<|.slice (some ⟨b,a,none⟩) (min (c.AG.length-1) c.AG.length)<|min (c.AG.length-1) c.AG.length,.v<|.slice M (min f.Cp c.stack.length)<|min f.Cp c.stack.length,.v<|.slice none 0 0],Do v,.v<|.bool true],J:=J});simp[Dx,k,hrs,<-j,l,Hi]
 |some ta=>
  have G:tl=Hm c.AP:=Rows.flat.1 h.t.CE;refine PE (ARv J ta c.AP.length N tl oG (h.up hle).t.sl) λm L u S hj=> ?_;rw[G];refine gG<|A0 (ASc J c.AP m L (c.AG.length-1) oG u hj) [(1,476),(2,308)] ?_;rintro _ ⟨s,ad,rfl⟩;refine gg [(52,Br J Gx b2 g 1 qc 0),(53,D8 J Oo (g+0*5) (BG v) rfl t H)]<|B4 476 J (vs:=Hm (Hi (c.AG.length-1) c.AP)++s) (e:=118) λb3 K d _ hK=> ?_;have V:(Hi (c.AG.length-1) c.AP).length<=c.AP.length:=List.length_filter_le _ _;have hnew:C0 K (Ei c) ⟨some ⟨b,a,none⟩,min (c.AG.length-1) c.AG.length,fl.take<|min (c.AG.length-1) c.AG.length*5,M,min f.Cp c.stack.length,sl.take<|min f.Cp c.stack.length*5,some ⟨b3,0,none⟩,m,Hm<|Hi (c.AG.length-1) c.AP⟩:=by refine⟨by rw[k];exact z.up d<|Nl d,by rw[hrs];exact E.up d λ_ _ h=>h,?_⟩;rw[<-j];refine Av.Ky hK (Rows.flat.2 rfl) Uy (λv O=> ?_) (Nat.le_trans V u) S;let⟨x,_,hx⟩:=List.mem_flatMap.1 O;simp[Ea]at hx;rcases hx with rfl|rfl|rfl<;>rfl
  refine dn [] ⟨_,K,?_,hle.trans d,hnew⟩ (h:={r:=.t [.g [.v<|.slice (some ⟨b,a,none⟩) (min (c.AG.length-1) c.AG.length)<|min (c.AG.length-1) c.AG.length,.v<|.slice M (min f.Cp c.stack.length)<|min f.Cp c.stack.length,.v<|.slice (some ⟨b3,0,none⟩) (Hi (c.AG.length-1) c.AP).length m],Do v,.v<|.bool true],J:=K});simp[Dx,k,hrs,<-j]
structure GY(I:AB)(c:Ay)(cap:Nat)(fl AE:AA AF):Prop where
 CE:Rows (Gd I) c.AG fl
 hc:lN c.AG<=cap
 hm:cap<=maxLen
 hj:lN AE=(cap-lN c.AG)*5
def GY.up{I J c a fl AE}(h:GY I c a fl AE)(hle:I.le J):GY J c a fl AE:=⟨h.CE.mono<|Nl hle,h.hc,h.hm,h.hj⟩
def GY.len{I c b fl a}(h:GY I c b fl a):lN fl=lN c.AG*5:=h.CE.len<|JN I
theorem GY.top{I c k fl b}(h:GY I c k fl b){f}(n:c.top=sM f):0<lN c.AG/\∃g i a,F3 I f.Ai g i a/\∀j v,(Qb f g i)[j]? =sM v->(fl++b)[0+(lN c.AG-1)*5+j]? =sM v:=by have l:=SD (l:=c.AG) (x:=f) n;have o:=(Ci.1 l).1;let⟨g,i,a,e,q⟩:=h.CE.get (JN I) l;refine⟨oG,g,i,a,q,λj v d=> ?_⟩;have m:((fl.drop<|(lN c.AG-1)*5).take 5)=Qb f g i:=e;rw[<-m,GO]at d;split at d;rw[Jg]at d;rwa[FE,Gj (Ci.1 d).1];cases d
def GY.HW{I J c a fl AE}(h:GY I c a fl AE){f}(e:c.top=sM f)(hle:I.le J){j cs g}(i:∀b,Gd J f b->Gd J (g f) (BX b j cs))(k:j+lN cs<=5):
 GY J (D4 c g) a (BX fl ((lN c.AG-1)*5+j) cs) AE/\BX (fl++AE) (0+(lN c.AG-1)*5+j) cs=BX fl ((lN c.AG-1)*5+j) cs++AE:=by
 have d:=SD (l:=c.AG) (x:=f) e;have l:=(Ci.1 d).1;have m:=h.len;refine⟨⟨?_,?_,h.hm,?_⟩,?_⟩;show Rows (Gd J) (c.AG.modify (lN c.AG-1) g) _;rw[modify_eq d];exact(h.CE.mono<|Nl hle).AV (JN J) (λ_ _ h=>h) d i k;simpa[D4]using h.hc;simpa[D4]using h.hj;rw[FE,Ut oG]
theorem GY.B4{J c d b fl a}(h:GY J c d fl a)(e:J b=sM (.cells (fl++a).toArray 65 (0,0))):Av J (Gd J) 5 c.AG (aP b) d fl:=
 Av.Ky e h.CE (JN J) (AAJ h.CE) h.hc h.hm
abbrev CS.NM(m:CS)(k a:Nat):AK:=.cells (m.row<|.s k 0 (lN m.c.AG) a) 282
def X9(I:AB)(m:CS)(c:Ay)(n:Nat)(f:AA AW):zP:=λd h=>∃(J:AB)(q:DL)(ta:AU Au)(tc:Nat)(e:AA AF)(b:Nat)(fl a:AA AF),I.le J/\Av J F9 5 c.stack q.sa q.sc q.sl/\Av J Oy 3 c.AP q.ta q.tc q.tl/\GY J c b fl a/\F3 J f ta tc e/\
 h= {r:=.t [],AV:=[(1,({m with c:=c,p:=q,ta:=ta,tn:=n,tc:=tc}:CS).NM d b)],nb:=[.As (fl++a) 65],J:=J}
def AQr(I)(ae:EB I)(a g m f o)(hi:FJ I a g)(H:m.ia=g.ka)(L:m.iN=lN a.DN)(K:m.ic=g.kc)(M:m.ja=g.ua)(O:m.jn=lN a.Ax)(N:m.jc=g.uc)(ho:m.oc=o.code)(R:m.oa=o.a)
 (G:m.was.top=sM f) (af:f.pc<=100000) (ab:Fn 200 [.g<|Fa a g,Po o] [] I (BW (.v<|.int iK<|CU a o) I) nO) (t:HQ m.was<|CU a o) (V:Kf m.was) (h:C0 I m.was m.wp):
 Fn 152 [.p 1 0] [(1,m.B3)] I (X9 I m (Fl a m.was o) (CU a o)<|Ct m.was<|CU a o) nO:=by
 have l1:=V.f;have l2:=V.s;let⟨ia,iN,ic,ja,jn,jc,was,wp,c0,p0,oc,oa,ta,tn,tc,fr,tr,ok,ov,xc,xa,wrong,code⟩:=m;simp only at H L K M O N ho R G t V h l1 l2;subst H L K M O N ho R;refine fo func152 λρ l w P=>gG<|call ab<|gG<|Cz (AAU I was wp (CU a o) f G t oG oG h) λq J hle hq=> ?_;let⟨j,T⟩:=hq;have Q:0<lN was.AG:=VO (by have:f∈was.AG:=ABj G;exact this)
 let⟨⟨ah,s,d,z,A,B,C,D,E⟩,qa,qc,ql⟩:=q;simp only at j T;let⟨b,n,arr,e,ad,h1,h2,h3⟩:=j.f.sl.open_ Q;simp only at h1;subst h1;refine gG<|PE (Yl J ⟨b,n,nO⟩ (lN was.AG) s d oG j.f.sl) λi AE W X hj=> ?_;have u:GY J (FR was<|CU a o) i d AE:=⟨j.f.CE,W,X,hj⟩;refine gG<|OK (AA2 J ({ia:=g.ka,iN:=lN a.DN,ic:=g.kc,ja:=g.ua,jn:=lN a.Ax,jc:=g.uc,was:=was,wp:=wp,c:=FR was<|CU a o,p:=⟨sM ⟨b,n,nO⟩,s,d,z,A,B,C,D,E⟩,oc:=o.code,oa:=o.a,ta:=qa,tn:=CU a o,tc:=qc,fr:=fr,tr:=tr,ok:=ok,ov:=ov,xc:=xc,xa:=xa,wrong:=wrong,code:=code}:CS) i (d++AE) Q<|by show lN was.AG<=_;omega) rfl [(1,1),(2,356)] ?_;let⟨_,va,vc,U,ag,x⟩:=u.top (f:=f) G;have k:=x 1 _ rfl;refine gg [(40,Aen Be J 3 39 356 (0+(lN was.AG-1)*5+1) 65 rfl rfl k),(41,sH f.pc)] ?_;have ac:lN d=lN was.AG*5:=u.len;refine B0 (k:=356) (off:=0+(lN was.AG-1)*5+1) (t:=3) (ad:=.tmp 43) (x:=.tmp 41) (e:=65) (vs:=d++AE) (cs:=[.int iK ((f.pc+1:Nat):Int)]) (ty:=⟨1,_,_⟩) (I':=J) kR kR kR rfl rfl (by simp[CK,O3];omega) (by intro v hv;rw[A9.1 hv];rfl) kR ?_;refine gG ?_;let⟨Z,aa⟩:=u.HW (f:=f) G (AB.le_refl J) (j:=1) (cs:=[.int iK ((f.pc+1:Nat):Int)]) (g:=λf=>{f with pc:=f.pc+1}) ZA sP;have hs:BX d ((lN was.AG-1)*5+1) [.int iK ((f.pc+1:Nat):Int)]++AE=BX (d++AE) (0+(lN was.AG-1)*5+1) [.int iK ((f.pc+1:Nat):Int)]:=aa.symm;have hlen:lN (Fl a was o).AG=lN was.AG:=by simp[Fl,D4,FR]
 generalize y:({ia:=g.ka,iN:=lN a.DN,ic:=g.kc,ja:=g.ua,jn:=lN a.Ax,jc:=g.uc,was:=was,wp:=wp,c:=Fl a was o,p:=⟨sM ⟨b,n,nO⟩,s,d,z,A,B,C,D,E⟩,oc:=o.code,oa:=o.a,ta:=qa,tn:=CU a o,tc:=qc,fr:=fr,tr:=tr,ok:=ok,ov:=ov,xc:=xc,xa:=xa,wrong:=wrong,code:=code}:CS)=m';have S:m'.NM l i=.cells (m'.row<|.s l 0 (lN was.AG) i) 282:=by rw[CS.NM];rw[<-y];simp[hlen]
 have F:X9 I (⟨g.ka,lN a.DN,g.kc,g.ua,lN a.Ax,g.uc,was,wp,c0,p0,o.code,o.a,ta,tn,tc,fr,tr,ok,ov,xc,xa,wrong,code⟩:CS) (Fl a was o) (CU a o) (Ct was<|CU a o) l {r:=.t [],AV:=[(1,.cells (m'.row<|.s l 0 (lN was.AG) i) 282)],nb:=[.As (BX (d++AE) (0+(lN was.AG-1)*5+1) [.int iK ((f.pc+1:Nat):Int)]) 65],J:=J}:=
  ⟨J,⟨sM ⟨b,n,nO⟩,s,d,z,A,B,C,D,E⟩,qa,qc,ql,i,_,AE,hle,j.s,j.t,Z,T,by rw[<-hs,<-S,<-y];rfl⟩
 subst y;exact done func152 P [356] kR F
def Re(I:AB)(m:CS)(b:Nat)(d:Ay):zP:=λ_ h=>∃(J:AB)(fl a:AA AF),I.le J/\GY J d b fl a/\h= {r:=.t [],AV:=[(1,({m with c:=d}:CS).NM 2 b),(2,.As (fl++a) 65)],J:=J}
def AEz(c g):lN (D4 c g).AG=lN c.AG:=by simp[D4]
def AJ7(I m b fl a f)(e:m.c.top=sM f)(hF:GY I m.c b fl a)(c:lN m.c.AG<=1000000):Fn 210 [.p 1 0] (Pk m b<|fl++a) I (Re I m b<|D4 m.c λf=>{f with pc:=m.oa}) nO:=by have l:=hF.len;let⟨d,_⟩:=hF.top e;let⟨g,i⟩:=hF.HW e (AB.le_refl I) (j:=1) (cs:=[.int iK m.oa]) (g:=λf=>{f with pc:=m.oa}) ZA sP;have h:=AWL I m b (fl++a) d c (by rw[CK];omega);rw[i]at h;refine h.to λk x j=> ?_;subst j;refine⟨I,_,a,AB.le_refl _,g,?_⟩;rw[CS.NM];simp[AEz];rfl
def Abh{I}(x y)(a:Nat)(g:a<=1000000):∀w,EJ w I->∃b,((do eqGuard .and 3 x y (nV a)<|.int iK 255;binOp .and 3 (nV a) (.int iK 255):Sem AF)).run prog w=.ok (AO id<|.v<|.int iK ((a%256:Nat):Int)) b/\Bl w b:=λw _=>
 ⟨w,by
   have e:(BitVec.ofInt 64 (a:Int)&&&BitVec.ofInt 64 255).toNat=a%256:=by
    rw[BitVec.toNat_and];have c:(BitVec.ofInt 64 (a:Int)).toNat=a:=by rw[BitVec.toNat_ofInt];simp;omega
    have d:(BitVec.ofInt 64 255).toNat=255:=dC;rw[c,d];exact AO9 a 8
   have f:IntKind.i64.wrap ((BitVec.ofInt 64 (a:Int)&&&BitVec.ofInt 64 255).toNat:Int)=((a%256:Nat):Int):=by rw[e];exact AF9 oG
   simp only[eqGuard_and,binOp_and,Op.intBits,rB,Sem.run_pure,aK,AO];exact Dt (λz=>Result.ok (Value.int iK z) w) f,Bl.refl w⟩
def Abi{I}(x y)(a b:AH):∀w,EJ w I->∃c,((do eqGuard .and 5 x y (.int .u8 a.toNat)<|.int .u8 b.toNat;binOp .and 5 (.int .u8 a.toNat) (.int .u8 b.toNat):Sem AF)).run prog w=.ok (AO id<|.v<|.int .u8<|(a&&&b).toNat) c/\Bl w c:=λw _=>
 ⟨w,by
   have h:=ACU a b;simp only[eqGuard_and,binOp_and,Op.intBits,rB,Sem.run_pure,aK,AO];exact Dt (λz=>Result.ok (Value.int .u8 z) w) h,Bl.refl w⟩
def AXQ(I)(m:CS)(b fl a)(f:Cw)(o:m.c.top=sM f)(hF:GY I m.c b fl a)(j:lN m.c.AG<=1000000)(l:m.oa<=1000000):Fn 221 [.p 1 0] (Pk m b<|fl++a) I (Re I m b<|D4 m.c λf=>{f with AR:=f.AR&&&uN (m.oa%256)}) nO:=by
 have x:=hF.len;let⟨k,y,z,h,u,d⟩:=hF.top o;let⟨q,i⟩:=hF.HW o (AB.le_refl I) (j:=3) (cs:=[.int .u8 (f.AR&&&uN (m.oa%256)).toNat]) (g:=λf=>{f with AR:=f.AR&&&uN (m.oa%256)}) AUg sP;have e:(uN<|m.oa%256).toNat=m.oa%256:=by rw[UInt8.toNat_ofNat'];omega
 refine fo func221 λA n w g=> ?_;have p:Value.int .u8 (IntKind.u8.wrap ((m.oa%256:Nat):Int))=.int .u8 (uN<|m.oa%256).toNat:=by rw[e];congr 1;simp[IntKind.wrap];have:IntKind.u8.bits=8:=rfl;have i:IntKind.u8.signed=fF:=rfl;simp[this,i]
 refine gg [(12,.op I _ _<|Abh (.tmp 11) (.const<|.int iK 255) m.oa l),(13,.eq _ _ p)]<|OK (AA2 I m b (fl++a) k j) rfl []<|gg [(6,Aen Be I 5 5 2 (0+(lN m.c.AG-1)*5+3) 65 rfl rfl<|d 3 _ rfl),
  (14,.op I _ _<|Abi (.tmp 6) (.tmp 13) f.AR<|uN<|m.oa%256)] ?_
 refine B0 (k:=2) (off:=0+(lN m.c.AG-1)*5+3) (t:=5) (ad:=.tmp 16) (x:=.tmp 14) (e:=65) (vs:=fl++a) (cs:=[.int .u8 (f.AR&&&uN (m.oa%256)).toNat]) (ty:=⟨1,_,_⟩) (I':=I) kR kR kR rfl rfl (by simp[CK,O3];omega) (by intro v t;rw[A9.1 t];rfl) kR ?_;refine gG ?_;have s:Re I m b (D4 m.c λf=>{f with AR:=f.AR&&&uN (m.oa%256)}) n {r:=.t [],AV:=[(1,m.NM 2 b),(2,.As (BX (fl++a) (0+(lN m.c.AG-1)*5+3) [.int .u8 (f.AR&&&uN (m.oa%256)).toNat]) 65)],J:=I}:=by refine⟨I,_,a,AB.le_refl _,q,?_⟩;rw[i];rw[CS.NM];simp[AEz];rfl
 exact done func221 g [] kR s
abbrev ALX(m:CS)(a:Nat)(b:AA AF):AA (Nat×AK):=[(1,m.NM 3 a),JS,(3,.As b 65)]
def AG5(I:AB)(m:CS)(b:Nat)(d:Ay):zP:=λ_ h=>∃(J:AB)(fl a:AA AF),I.le J/\GY J d b fl a/\h= {r:=.t [],AV:=[(1,({m with c:=d}:CS).NM 3 b),JS,(3,.As (fl++a) 65)],J:=J}
abbrev AD9(c:Ay)(a:Nat):Ay:=D4 c λf=>{f with pc:=a}
def AWJ(I m b fl a f x)(j:x.n≠0)(i:m.c.top=sM f)(hF:GY I m.c b fl a)(g:lN m.c.AG<=1000000):Fn 285 [Do x,.p 2 0] (ALX m b<|fl++a) I (AG5 I m b<|AD9 m.c m.oa) nO:=by refine fo func285 λρ k w h=>gg [(5,Fs x.n 0 j)]<|A0 (AJ7 I m b fl a f i hF g) [(2,3)] ?_;rintro _ ⟨J,d,c,hle,e,rfl⟩;exact gG<|dn [] ⟨J,d,c,hle,e,rfl⟩
def AZG(I m)(d:Nat)(fl a f j g x)(z:F3 I j m.ta m.tc g)(y:m.tn=lN j)(k:j[0]? =sM x)(G:x.kind=1)(C:x.n≠0)(v:m.c.top=sM f)(hF:GY I m.c d fl a)(p:lN m.c.AG<=1000000):
 Fn 283 [.p 1 0,.v<|.int iK 1,.fn (.func 285) [] [.p 2 0]] (ALX m d<|fl++a) I (AG5 I m d<|AD9 m.c m.oa) nO:=by
 have h:0<lN j:=(Ci.1 k).1;obtain⟨m,b,c,arr,e,E,rfl,r,B⟩:=Sq m z y h;let⟨i51,s,u⟩:=Qm;have q:=B 0 x k;refine fo func283 λρ D w t=>gg [(10,Br I Gx b c (lN j) m.tc 0 h),(12,ED I Ek rfl (c+0*5+0) (nV x.kind) r<|q 0 _ rfl),(14,EN (x.kind:Int) 1),
  (22,Br I Gx b c (lN j) m.tc 0 h),(23,D8 I Oo (c+0*5) (BG x) rfl r q)] ?_
 refine A0 (AWJ I (m.tk b c<|lN j) d fl a f x C v hF p) [(2,2),(3,3)] ?_;rintro _ ⟨J,l,i,hle,o,rfl⟩;exact gG<|dn [] ⟨J,l,i,hle,o,rfl⟩
def AWK(I m c fl b f e a x)(q:F3 I e m.ta m.tc a)(p:m.tn=lN e)(j:e[0]? =sM x)(o:x.kind=1)(r:x.n≠0)(l:m.c.top=sM f)(hF:GY I m.c c fl b)(i:lN m.c.AG<=1000000):
 Fn 211 [.p 1 0] (Pk m c<|fl++b) I (Re I m c<|AD9 m.c m.oa) nO:=by
 refine fo func211 λρ s w k=>gG<|A0 (AZG I m c fl b f e a x q p j o r l hF i) [(2,100),(3,2)] ?_;rintro _ ⟨J,g,d,hle,h,rfl⟩;exact gG<|dn [] ⟨J,g,d,hle,h,rfl⟩
def ARs(I c):Fn 42 [.v<|.slice nO 0 c] [] I (BW (.v zS) I) nO:=fo func42 λd b w a=>gg [(4,.op I _ (.v tV)<|MV (a:=nO) (n:=0) (c:=c) (.tmp 3) (.const zS) NW)]<|fi
def lv:Nat->AA AF
 |0=>[]
 |i+1=>lv i++BG (BH 0)
def Wk:∀i,lv i=(lP i<|BH 0).flatMap BG
 |0=>rfl
 |i+1=>by rw[lv,Wk i,List.replicate_succ',Mu];simp
def AK6(i):lN (lv i)=i*5:=by rw[Wk,UH];simp
def Ady{I}:F3 I [] nO 0 []:=⟨Dk.nil,Ag _,by rw[maxLen];omega,rfl⟩
def ATF(I:AB)(c:Ay)(p:DL)(fn m:Nat)(AR:AH)(x:TN):Hd where
 Cd:=[(1,.v<|nV fn),(4,.v<|.int .u8 AR.toNat),(5,.p 100 0),(10,.p 108 0),(11,.v fV),(12,match x.i with|0=>.v zS|i+1=>.s 116 0 (i+1) x.cap),(22,.v<|.int iK (m:Nat)),(23,.v<|nV x.i)]
 Cc:=(100,.cells (Dx c p) 48)::(108,.cells [.v zS,.v zS,.v zS] 48)::match x.i with|0=>[]|i+1=>[(116,.As (lv (i+1)++x.AE) 51)]
 J:=I
def ATM(I)(c:Ay)(p)(t f:Nat)(D:Nat)(e:AH)(h:C0 I c p)(Q:lN c.AG<16)(O:lN c.stack<=1000000):
 Fn 140 [.g<|Dx c p,.v<|nV t,.v<|nV f,.v<|.slice nO 0 D,.v<|.int .u8 e.toNat] [] I (AB3 I {c with AG:=c.AG++[⟨t,0,lN c.stack,e,lP (min f 16)<|BH 0⟩]}) nO:=by
 obtain⟨n,N⟩:∃n,n=min f 16:=⟨_,rfl⟩;rw[<-N];refine fo func140 λR P w E=>gg [(16,hF<|(lN c.AG:Int)≥16)]<|call (ARs I D)<|gg [(21,OU I #[3,3] f 0 f oG),(22,ADp I #[3,3] f 16 (n:Int) oG)]<|loop (ι:=TN) (λx=>x.i<=n/\(0<x.i->x.i<=x.cap/\x.cap<=maxLen/\lN x.AE=(x.cap-x.i)*5)) (λx=>n-x.i)
  (ATF I c p t n e) 300 [] ⟨0,0,[]⟩ ⟨Bm _,λh=>absurd h sP⟩ ?_
 rintro⟨i,l,s⟩ ⟨L,q⟩ again T;simp only at L q;by_cases M:i<n;cases i with
 |zero=>
  refine gg [(24,hT<|((0:Nat):Int)<(n:Int))] ?_;refine act (need:=[(324,.cells ((BG<|BH 0).map .v) 51)]) (MM (I:=I) Be (a:=nO) (l:=.v zS) (x:=.s 324 0 1 1) (CQ:=[]) (news:=BG<|BH 0) LU kR rfl Ol (Ez (e:=51) (A9.2 rfl) rfl (by intro v o;simp[BG,BH]at o;rcases o with rfl|rfl|rfl|rfl|rfl<;>rfl)) (Ag _) oG (λ_=>rfl) oG) M4 ?_;rintro G ⟨k,j,F,z,r3,rfl⟩;refine gg [(29,hW (((0:Nat):Int)+1) ((1:Nat):Int))] ?_;exact bk again [(116,332)] ⟨1,k,j⟩ ⟨by show 1<=_;omega,λ_=>⟨by show 1<=k;omega,z,by show lN j=(k-1)*5;rw[r3]⟩⟩
 |succ i=>
  let⟨q1,q2,q3⟩:=q oG;refine gg [(24,hT<|((i+1:Nat):Int)<(n:Int))] ?_;refine act (need:=[(116,.As (lv (i+1)++s) 51),(324,.cells ((BG<|BH 0).map .v) 51)]) (Kk (I:=I) Be (n:=i+1) (m:=1) (cap:=l) (k:=116) (vs:=lv (i+1)++s) (CQ:=lv<|i+1) (news:=BG<|BH 0) (x:=.s 324 0 1 1) LU kR sP ?_ ?_ (λv o=>Pn v<|by rw[Wk]at o;exact o) (Ez (e:=51) sP rfl (by intro v o;simp[BG,BH]at o;rcases o with rfl|rfl|rfl|rfl|rfl<;>rfl)) q1 q2 oG) (QP rfl) ?_;rw[CK,AK6,q3,<-Gm];congr 1;omega;rw[O5];rw[AK6];rintro G ⟨k,j,F,z,r3,rfl⟩;refine gg [(29,hW (((i+1:Nat):Int)+1) ((i+1+1:Nat):Int))] ?_;exact bk again [(116,332)] ⟨i+1+1,k,j⟩ ⟨by show i+1+1<=_;omega,λ_=>⟨F,z,r3⟩⟩
 have y:i=n:=oG;subst y;have g:(c.AG++[(⟨t,0,lN c.stack,e,lP i<|BH 0⟩:Cw)]).length=lN c.AG+1:=sP;cases i with
 |zero=>
  refine gg [(24,hF<|(((0:Nat)):Int)<((0:Nat):Int))]<|KR (YM I p.fa (lN c.AG) p.fc p.fl t 0 (lN c.stack) e.toNat nO 0 0 h.f.cap oG h.f.sl) λa m K d A B C=>gG ?_;have hnew:C0 K {c with AG:=c.AG++[⟨t,0,lN c.stack,e,lP 0<|BH 0⟩]} {p with fa:=a,fc:=m,fl:=p.fl++[.int iK t,.int iK 0,.int iK<|lN c.stack,.int .u8 e.toNat,.slice nO 0 0]}:=by refine⟨⟨by rwa[g],by rwa[g],B,?_⟩,(h.up d).s,(h.up d).t⟩;exact(h.f.CE.mono<|Nl d).append<|Rows.one ⟨nO,0,[],rfl,Ady⟩
  refine dn [] ⟨_,K,?_,d,hnew⟩ (h:={r:=.t [.g [.v<|.slice a (lN c.AG+1) m,.v<|.slice p.sa (lN c.stack) p.sc,.v<|.slice p.ta (lN c.AP) p.tc],.v tV],J:=K});simp[Dx]
 |succ i=>
  let⟨q1,q2,q3⟩:=q oG;refine go func140 [(24,hF<|(((i+1:Nat)):Int)<((i+1:Nat):Int))] 8 kR<|B4 116 I (vs:=lv (i+1)++s) (e:=51) λb J hle _ H=>gG<|KR (YM J p.fa (lN c.AG) p.fc p.fl t 0 (lN c.stack) e.toNat (aP b) (i+1) l h.f.cap oG<|h.f.sl.up hle) λa m K d A B C=>gG ?_;have u:F3 K (lP (i+1)<|BH 0) (aP b) l (lv<|i+1):=Av.Ky (d _ _ H) (Rows.flat.2<|Wk<|i+1) Jd (λv o=>Pn v<|by rw[Wk]at o;exact o) (by simpa using q1) q2;have hnew:C0 K {c with AG:=c.AG++[⟨t,0,lN c.stack,e,lP (i+1)<|BH 0⟩]} {p with fa:=a,fc:=m,fl:=p.fl++[.int iK t,.int iK 0,.int iK<|lN c.stack,.int .u8 e.toNat,.slice (aP b) (i+1) l]}:=by refine⟨⟨by rwa[g],by rwa[g],B,?_⟩,(h.up<|hle.trans d).s,(h.up<|hle.trans d).t⟩;refine(h.f.CE.mono<|Nl<|hle.trans d).append<|Rows.one ⟨sM ⟨b,0,nO⟩,l,_,?_,u⟩;simp
  refine dn [] ⟨_,K,?_,hle.trans d,hnew⟩ (h:={r:=.t [.g [.v<|.slice a (lN c.AG+1) m,.v<|.slice p.sa (lN c.stack) p.sc,.v<|.slice p.ta (lN c.AP) p.tc],.v tV],J:=K});simp[Dx]
def ATL(I)(c:Ay)(p)(k g:Nat)(d:AA AW)(a)(j:Nat)(m)(f:AH)(h:C0 I c p)(n:F3 I d a j m)(o:lN c.AG<16)(l:lN d<=1000)(i:lN c.stack<=1000000):
 Fn 140 [.g<|Dx c p,.v<|nV k,.v<|nV g,.v<|.slice a (lN d) j,.v<|.int .u8 f.toNat] [] I (AB3 I {c with AG:=c.AG++[⟨k,0,lN c.stack,f,d++lP (min g 16) (BH 0)⟩]}) nO:=by
 cases a with
 |some q=>exact ADG I c p k g d q j m f h n o l i
 |none=>
  have r:lN d=0:=by rcases n.sl.at_ with h|⟨b,t,arr,e,u,h,_⟩;exact h;cases h
  have s:d=[]:=Ib r;subst s;rw[F2];exact ATM I c p k g j f h o i
def Om{g}(k){b b'}(e:AFD f k=sM b)(d:∀ρ,b'.AO ρ=b.AO ρ)(a:∀x∈b'.A3,x∈b.A3)(c:b'.live=b.live)(h:AtD g F fn n I w ρ A R<|f.re k b'):AtD g F fn n I w ρ A R f:=
 ⟨λhF=>Aae k e d a c<|h.out hF⟩
def AcJ{l cs e t k off k2 b2 ad x ty I'}(o:(Mo f).op=.store t ad x)(z:ev f.σ.tm ad=.p k off)(s:(ev f.σ.tm x).cs=sM cs)(p:Bt.get t=sM ty)(D:lN cs=ty.n)(C:off+lN cs<=lN l)(y:∀v∈cs,AAI v)
 (g:b2.live) (m:∀x∈DF (BX l off cs),x=k\/x=k2) (a:OB f n [(k,.cells l e),(k2,b2)] I') (hnext:At F fn n I w ρ A R<|f.act {r:=.v undef,AV:=[(k,.cells (BX l off cs) e)],J:=I'}):At F fn n I w ρ A R f:=by
 refine act (hobs:=a) (AVW Be o z s p D C y DT) ?_ ?_;intro h i;subst i;refine{r:= ?_,u:= ?_,n:= ?_,l:=by simp,le:=AB.Hj _,d:=by simp};intro k B;cases B;intro E j;rw[A9.1 j];refine⟨sP,?_,?_⟩;intro b c;rcases Co.1 c with q|q;rw[(IC q).2];rfl;rwa[(IC<|A9.1 q).2];intro x s;rcases m x s with q|q<;>(left;simp[q]);intro b c;cases c;intro h i;subst i;exact hnext
def AdG{e d g I r}(b:AA<|Nat×SV)(h:∀a c (o:Bw),o.op=e->(∀p∈d,c p.1=p.2)->LS prog o c a g I r nO):
 ∀a c (o:Bw),o.op=e->(∀p∈d++b,c p.1=p.2)->LS prog o c a g I r nO:=λa c o i k=>h a c o i λp j=>k p<|GC _ j
def ADh(k b)(l:AA AF):Hz k b (l.map .v)=l.map .v:=by
 induction l with
 |nil=>rfl
 |cons x l a=>simp[E4,Hz,SV.B4,a]
def AJZ(k b l r):Hz k b (l++r)=Hz k b l++Hz k b r:=by
 induction l with
 |nil=>rfl
 |cons x l a=>simp[F1,Hz,a]
def AUi(k b n c a)(l:AA AF):Hz k b (BX (l.map .v) a [.s k 0 n c])=(BX l a [.slice (aP b) n c]).map .v:=by unfold BX;rw[AJZ,AJZ,<-ABi,<-List.map_drop,ADh,ADh];simp[Hz,SV.B4]
def Pb(l:AA AF):DF (l.map .v)=[]:=by
 induction l with
 |nil=>rfl
 |cons x l a=>simp[DF,SV.A3,a]
def Zb(l r):DF (l++r)=DF l++DF r:=by
 induction l with
 |nil=>rfl
 |cons x l a=>simp[DF,a]
def AWd(k n c b)(l:AA AF):∀x∈DF (BX (l.map .v) b [.s k 0 n c]),x=k:=by intro x a;rw[BX]at a;rw[Zb,Zb,<-ABi,<-List.map_drop,Pb,Pb]at a;simpa[DF,SV.A3]using a
def AUh{I f e b c a}(g:lN e=lN f.Ai)(h:F3 I e (aP b) c a):∀d,Gd I f d->Gd I {f with Ai:=e} (BX d 4 [.slice (aP b) (lN f.Ai) c]):=by rintro d ⟨j,k,i,rfl,q⟩;refine⟨sM ⟨b,0,nO⟩,c,a,?_,h⟩;show _=[_,_,_,_,Value.slice _ (lN e) c];rw[g];rfl
def AF2(a e ρ):(AK.cells (a.map .v) e).AO ρ=(AK.As a e).AO ρ:=by simp[AK.AO,Gw]
def AcM(I m g fl AE f u y x)(ht:F3 I u m.ta m.tc y)(hn:m.tn=lN u)(O:u[0]? =sM x)(T:m.c.top=sM f)(B:m.oa<lN f.Ai)(af:lN f.Ai<=1000000)(hF:GY I m.c g fl AE)(U:lN m.c.AG<=1000000):
 Fn 203 [.p 1 0] (Pk m g<|fl++AE) I (Re I m g<|D4 m.c λf=>{f with Ai:=f.Ai.set m.oa x}) nO:=by
 have p:0<lN u:=(Ci.1 O).1;obtain⟨m,b,j,arr,e,fr,rfl,hI,l⟩:=Sq m ht hn p;have h0:=l 0 x O;have hl:=hF.len;simp only at T B hF U hl;let⟨ad,va,vc,c,o,z⟩:=hF.top T;have k:=z 4 _ rfl;let⟨b2,t,aa,e2,ab,M,ac,ae⟩:=Xc o oG;subst M;have X:=AFK o.CE;generalize hN:lN m.c.AG=N at*;have hlen:lN (fl++AE)=lN fl+lN AE:=CK;have i:((fl++AE).map SV.v)[0+(N-1)*5+4]? =sM (.v<|.slice (aO b2 t) (lN f.Ai) vc):=by rw[GB,k];rfl
 refine fo func203 λρ Z w H=>gG ?_;have L:=AA2 I (m.tk b j<|lN u) g (fl++AE) (by show 0<lN m.c.AG;omega) (by show lN m.c.AG<=_;omega);refine OK L rfl []<|go func203 [] 2 kR<|Om 2 (b:=.As (fl++AE) 65) (b':=.cells ((fl++AE).map .v) 65) kR (λρ=>AF2 _ _ ρ) (by intro x D;simp only[AK.A3,Pb]at D;cases D) rfl ?_;refine gg [(9,Afe Be I 29 8 2 (0+(lN m.c.AG-1)*5+4) 65 (l:=(fl++AE).map .v) rfl rfl<|by rw[hN];exact i)] ?_;refine PE (AIU I ⟨b2,t,nO⟩ (lN f.Ai) vc c oG o.sl) λa d Q S hj=>go func203 [] 2 kR ?_;have K:0+(lN m.c.AG-1)*5+4+1<=lN ((fl++AE).map SV.v):=by rw[DG,hlen,hN];omega
 refine AcJ (k:=2) (off:=0+(lN m.c.AG-1)*5+4) (t:=29) (ad:=.tmp 12) (x:=.tmp 10) (e:=65) (l:=(fl++AE).map .v) (cs:=[.s 164 0 (lN f.Ai) a]) (k2:=164) (b2:=.As (c++d) 51) (ty:=⟨1,_,_⟩) (I':=I) kR kR kR rfl rfl K (by intro v l;rw[A9.1 l];rfl) rfl (λx D=>.inr<|AWd _ _ _ _ _ x D) kR ?_;have G:(BX ((fl++AE).map SV.v) (0+(lN m.c.AG-1)*5+4) [.s 164 0 (lN f.Ai) a])[0+(lN m.c.AG-1)*5+4]? =sM (.s 164 0 (lN f.Ai) a):=by
  unfold BX;have h3:(((fl++AE).map SV.v).take<|0+(lN m.c.AG-1)*5+4).length=0+(lN m.c.AG-1)*5+4:=by rw[Cu];omega
  rw[Eb,GA oG,h3,RU];rfl
 have s:lN c=lN f.Ai*5:=by rw[X,UH]
 refine gg [(16,.BZ (.load 29<|.tmp 15) ([(15,.p 2<|0+(lN m.c.AG-1)*5+4)]++[(10,.s 164 0 (lN f.Ai) a)]) [(2,.cells (BX ((fl++AE).map .v) (0+(lN m.c.AG-1)*5+4) [.s 164 0 (lN f.Ai) a]) 65)] I (.s 164 0 (lN f.Ai) a)<|AdG [(10,.s 164 0 (lN f.Ai) a)]<|Zn Be (L:=Bt) (t:=29) (a:=15) (k:=2) (off:=0+(lN m.c.AG-1)*5+4) (ty:=⟨1,_,_⟩) (l:=BX ((fl++AE).map .v) (0+(lN m.c.AG-1)*5+4) [.s 164 0 (lN f.Ai) a]) (e:=65) rfl rfl G),
  (26,Br I Gx b j (lN u) m.tc 0 p),(27,D8 I Oo (j+0*5) (BG x) rfl hI h0),
  (28,Aee Be I 29 16 21 164 0 (lN f.Ai) a m.oa 5 rfl rfl B)] ?_
 refine B0 (k:=164) (off:=0+m.oa*5) (t:=51) (ad:=.tmp 28) (x:=.tmp 27) (e:=51) (vs:=c++d) (cs:=BG x) (ty:=⟨5,_,_⟩) (I':=I) kR kR kR rfl rfl (by rw[CK,s];show 0+m.oa*5+5<=_;omega) (by intro v l;simp[BG]at l;rcases l with rfl|rfl|rfl|rfl|rfl<;>rfl) kR ?_;refine gG<|B4 164 I (vs:=BX (c++d) (0+m.oa*5)<|BG x) (e:=51) λE J hle _ hJ=>Om 2 (b:=.cells (Hz 164 E<|BX ((fl++AE).map .v) (0+(lN m.c.AG-1)*5+4) [.s 164 0 (lN f.Ai) a]) 65) (b':=.As (BX (fl++AE) (0+(lN m.c.AG-1)*5+4) [.slice (aP E) (lN f.Ai) a]) 65) kR (λρ=>by rw[AUi,AF2]) (by intro x D;cases D) rfl ?_;have Y:f.Ai[m.oa]? =sM f.Ai[m.oa]:=BS B;have C:F3 J (f.Ai.set m.oa x) (aP E) a (BX c (m.oa*5+0)<|BG x):=by
  have hr:Rows F9 (f.Ai.set m.oa x) (BX c (m.oa*5+0)<|BG x):=o.CE.AV Jd (λ_ _ h=>h) Y (λag q=>by unfold F9 at q⊢;rw[q];rfl) (by simp[BG])
  refine Av.Ky (AE:=d) (e:=51) ?_ hr Jd (λv l=>Pn v<|by rw[AFK hr]at l;exact l) (by rw[ABh];exact Q) S;rw[FE,Ut<|by rw[s];show m.oa*5+5<=_;omega]at hJ;exact hJ
 have P:GY I m.c g fl AE:=hF;let⟨V,W⟩:=P.HW (f:=f) T hle (j:=4) (cs:=[.slice (aP E) (lN f.Ai) a]) (g:=λf=>{f with Ai:=f.Ai.set m.oa x}) (AUh sP C) sP;have hd:Re I (m.tk b j<|lN u) g (D4 m.c λf=>{f with Ai:=f.Ai.set m.oa x}) Z {r:=.t [],AV:=[(1,(m.tk b j<|lN u).NM 2 g),(2,.As (BX (fl++AE) (0+(lN m.c.AG-1)*5+4) [.slice (aP E) (lN f.Ai) a]) 65)],J:=J}:=by refine⟨J,_,AE,hle,V,?_⟩;rw[W];unfold CS.NM;simp only[AEz];rfl
 exact done func203 H [] kR hd
end
section
open Go.AX Go.RowKit Go.Shelf Lz
def AW3:Ren where
 f:=λx=>match x with|173=>124|246=>177|283=>253|284=>254|285=>255|286=>256|129=>328|317=>327|318=>329|319=>330|320=>331|337=>365|338=>366|n=>n
 t:=λx=>match x with|2=>2|3=>3|9=>9|4=>4|171=>360|0=>0|53=>227|37=>23|5=>5|173=>363|212=>422|51=>423|20=>20|213=>424|46=>302|232=>469|233=>470|n=>n
 g:=λx=>match x with|17=>4|18=>5|19=>6|n=>n
def AKa:LaysM.n173 prog AW3:=by constructor<;>first|(intros;exact kR)|(constructor<;>first|(intros;exact kR)|(constructor<;>intros<;>exact kR))
def Wg:Ren where
 f:=λx=>match x with|174=>322|247=>361|245=>362|287=>389|279=>390|280=>391|281=>392|282=>393|321=>409|322=>410|316=>411|171=>413|205=>412|243=>420|246=>177|283=>253|284=>254|285=>255|286=>256|129=>328|317=>327|318=>329|319=>330|320=>331|337=>365|338=>366|n=>n
 t:=λx=>match x with|9=>9|3=>3|2=>2|75=>252|85=>416|4=>4|167=>463|5=>5|53=>227|175=>464|46=>302|168=>466|37=>23|0=>0|210=>485|21=>21|127=>320|145=>499|143=>497|171=>360|173=>363|212=>422|51=>423|20=>20|213=>424|232=>469|233=>470|80=>256|n=>n
 g:=λx=>match x with|15=>7|16=>8|17=>4|18=>5|19=>6|n=>n
def AKb:LaysC.n174 prog Wg:=by constructor<;>first|(intros;exact kR)|(constructor<;>first|(intros;exact kR)|(constructor<;>intros<;>exact kR))
structure Pow(I:AB):Prop where
 tab:∃e fr,I 4=sM (.cells (Lib.pow10Tab.map λz=>Value.int .u64 z).toArray e fr)
 err:∃ev e fr,I (Wg.g 15)=sM (.cells #[ev] e fr)/\(ev=.nilIface\/∃b a,ev=.iface b a)
def Pow.up{I J}(h:Pow I)(hle:I.le J):Pow J:=by let⟨⟨e,c,d⟩,⟨ev,b,a,f,g⟩⟩:=h;exact⟨⟨e,c,hle _ _ d⟩,⟨ev,b,a,hle _ _ f,g⟩⟩
def ADk:prog.globalNamed "internal/strconv.uint64pow10" =sM 4:=kR
def Pow.is{I}(h:Pow I){w}(b:EJ w I):Lib.TabIs prog w "internal/strconv.uint64pow10" .u64 Lib.pow10Tab:=by let⟨e,c,a⟩:=h.tab;unfold Lib.TabIs World.var?;rw[ADk];simp[b 4 _ a]
def ADb{F b a f r v I}(j:prog.funcs[F]? =sM b)(i:b.body.isSome)(c:(b.name== "runtime.NumGoroutine")=fF)
 (g:∀d,(BB d a).toArray=f) (l:∀d,AO d r=v) (k:r.A3=[]) (h:∀w,EJ w I->Calls prog F f w λe m=>e=.returned v/\Below w.heap.size w m):Fn F a [] I (BW r I) nO:=
 MX j i c g l k h
def AHk(w k a):Below w.heap.size w (Go.Sort.grow (w.drewN k) a):=by refine⟨rfl,rfl,rfl,?_,λj b=> ?_⟩;show w.heap.size<=(w.heap++a).size;rw[Array.size_append];omega;show(w.heap++a)[j]? =w.heap[j]?;rw[Array.getElem?_append_left b]
def AUb(I)(c:Pow I)(n:Int)(a: -9223372036854775808<=n)(b:n<=9223372036854775807):Fn 124 [.v<|nV n,.v<|.int iK 10] [] I (BW (.v<|vS<|AJ<|Lib.itoa n) I) nO:=
 ADb func124 kR kR (λ_=>rfl) (λ_=>rfl) rfl λw d=>by refine(Any.strconv_FormatInt_10 AKa n a b w<|c.is d).mono ?_;rintro e g ⟨rfl,k,f,rfl⟩;exact⟨rfl,AHk w k f⟩
def AAx(I)(d:Pow I)(n:Int)(b: -9223372036854775808<=n)(c:n<=9223372036854775807):Fn 69 [.v<|nV n] [] I (BW (.v<|vS<|AJ<|Lib.itoa n) I) nO:=fo func69 λf e w a=>gG<|call (AUb I d n b c)<|gG<|fi
def AZe(I l)(n:Int)(h:Lib.parseIntB 64 l=.ok n)(a:lN l<=1000):Fn 322 [.v<|vS<|AJ l,.v<|.int iK 10,.v<|.int iK 64] [] I (BW (.t [.v<|nV n,.v .nilIface]) I) nO:=
 ADb func322 kR kR (λ_=>rfl) (λ_=>rfl) rfl λw b=>by refine(Any.strconv_ParseInt_10_at64_ok AKb (AJ l) (by rw[show(AJ l).size=lN l from by simp[AJ,ByteArray.size]];omega) n (by rwa[show(AJ l).data.toList=l from by simp[AJ]]) w).mono ?_;rintro e c ⟨rfl,rfl|⟨t,rfl⟩⟩;exact⟨rfl,Below.refl _ _⟩;exact⟨rfl,Go.Joins.below_bytesWorld _ _ _ _<|Ag _⟩
def AOL:prog.underlying 252=sM (.interface<|prog.methodsAt 252):=kR
def Abl{I}(x):∀w,EJ w I->∃a,((do eqGuard .neq 252 x (.const .nilIface) .nilIface .nilIface;binOp .neq 252 .nilIface .nilIface:Sem AF)).run prog w=.ok (AO id<|.v fV) a/\Bl w a:=λw _=>
 ⟨w,by
   rw[eqGuard_nil_constR];simp[rB,Sem.run_pure,aK,AO];exact run_neq_nil_nil w 252 AOL,Bl.refl w⟩
def AEn(l):Value.bool (!((AJ l).toList==(AJ l).toList))=vB fF:=sP
def Q4(I)(d:Pow I)(l)(n:Int)(h:Lib.parseIntB 64 l=.ok n)(e:Lib.itoa n=l)(g:lN l<=20)(b: -9223372036854775808<=n)(c:n<=9223372036854775807):Fn 247 [.v<|vS<|AJ l] [] I (BW (.t [.v<|nV n,.v tV]) I) nO:=by have i:=Fz l;refine fo func247 λj f w a=>gg [(8,hF<|((AJ l).size:Int)>20)]<|call (AZe I l n h oG)<|gg [(15,.op I _ _<|Abl<|.tmp 14)]<|call (AAx I d n b c) ?_;rw[e];exact gg [(20,.eq _ _<|AEn l)]<|fi
end
section
open Go.AX Lz
def BV(n:Nm):Prop:=∀x∈n,x<=999
def AMb:AA AH->Nat:=List.foldl (λa c=>10*a+(c.toNat-48)) 0
def ASU:(lR 1000).all (λn=>AMb (dec n)==n&&(dec n).all (λc=>c !=46)&&decide (1<=lN (dec n))&&decide (lN (dec n)<=3)):=kR
def KS{n}(h:n<=999):AMb (dec n)=n/\(46:UInt8)∉dec n/\1<=(dec n).length/\(dec n).length<=3:=by have:=List.all_eq_true.1 ASU n<|List.mem_range.2 oG;simp[Bool.and_eq_true,beq_iff_eq,decide_eq_true_eq,List.all_eq_true]at this;exact⟨this.1.1.1,λa=>by have:=this.1.1.2 46 a;revert this;decide,this.1.2,this.2⟩
def AIi{a b}(e:a<=999)(f:b<=999)(h:dec a=dec b):a=b:=by have c:=(KS e).1;rw[h]at c;rw[<-c,(KS f).1]
def isOk:Lib.NumEnd Int->Int->Bool
 | .ok v,n=>v==n
 |_,_=>fF
def AWC{e}{n:Int}(h:isOk e n):e=.ok n:=by unfold isOk at h;split at h;rw[eq_of_beq h];cases h
def AZf:(lR 1000).all (λn=>isOk (Lib.parseIntB 64<|dec n) (n:Int)):=kR
def AIj{n:Nat}(h:n<=999):Lib.parseIntB 64 (dec n)=.ok (n:Int):=AWC<|EQ.1 AZf n<|O4.2 oG
def AC1{n:Nat}(h:n<=999):Lib.itoa (n:Int)=dec n:=by have c: ¬(n:Int)<0:=oG;rw[Lib.itoa,dec];rw[AY c,Int.toNat_natCast];by_cases a:n<10;rw[Ac a,Lib.decDigits,RV a];rw[AY a];by_cases b:n<100;rw[Ac b,Lib.decDigits,dif_neg a,Lib.decDigits,RV oG];rfl;rw[AY b,Lib.decDigits,dif_neg a,Lib.decDigits,dif_neg oG,Lib.decDigits,RV oG];simp[F1,F2];rw[Nat.div_div_eq_div_mul]
def Acg{n}(h:n<=999)(l):(dec n++46::l).takeWhile (λc=>c !=46)=dec n:=by
 have a:=(KS h).2.1;have:∀d:AA AH,(46:AH)∉d->(d++46::l).takeWhile (λc=>c !=46)=d:=by
  intro d;induction d with
  |nil=>intro _;simp
  |cons x d g=>
   intro f;have b:(x !=46):=by rw[VT];intro e;exact f (by rw[e];simp)
   rw[F1,RR,Ac b,g λq=>f<|DY _ q]
 exact this _ a
def Ach{n}(h:n<=999):(dec n).takeWhile (λc=>c !=46)=dec n:=by
 have a:=(KS h).2.1;have:∀d:AA AH,(46:AH)∉d->d.takeWhile (λc=>c !=46)=d:=by
  intro d;induction d with
  |nil=>intro _;rfl
  |cons x d g=>
   intro f;have b:(x !=46):=by rw[VT];intro e;exact f (by rw[e];simp)
   rw[RR,Ac b,g λq=>f<|DY _ q]
 exact this _ a
def Me(n m l):Dm (n::m::l)=dec n++46::Dm (m::l):=rfl
def Z0{n l}(h:n<=999):(Dm (n::l)).takeWhile (λc=>c !=46)=dec n:=by
 cases l with
 |nil=>exact Ach h
 |cons m l=>rw[Me];exact Acg h _
def Of:∀ {a b:Nm},BV a->BV b->Dm a=Dm b->a=b
 |[],[],_,_,_=>rfl
 |[],n::l,_,hb,h=>by have c:=Z0 (l:=l)<|hb n sP;rw[<-h]at c;have:=(KS<|hb n sP).2.2.1;rw[<-c]at this;simp[Dm]at this
 |n::l,[],ha,_,h=>by have c:=Z0 (l:=l)<|ha n sP;rw[h]at c;have:=(KS<|ha n sP).2.2.1;rw[<-c]at this;simp[Dm]at this
 |[n],[m],ha,hb,h=>by rw[AIi (ha n sP) (hb m sP) h]
 |[n],m::k::l,ha,hb,h=>by
  have c:(46:AH)∈Dm [n]:=by rw[h,Me];simp
  exact absurd c (KS<|ha n sP).2.1
 |n::k::l,[m],ha,hb,h=>by
  have c:(46:AH)∈Dm [m]:=by rw[<-h,Me];simp
  exact absurd c (KS<|hb m sP).2.1
 |n::k::l,m::j::r,ha,hb,h=>by have c:=Z0 (l:=k::l)<|ha n sP;rw[h,Z0 (l:=j::r)<|hb m sP]at c;have e:=AIi (hb m sP) (ha n sP) c;subst e;rw[Me,Me]at h;have f:=List.append_cancel_left h;simp[P6,true_and]at f;rw[Of (λx d=>ha x<|DY _ d) (λx d=>hb x<|DY _ d) f]
def Z3:∀ {a:Nm},BV a->lN (Dm a)<=4*lN a/\(a≠[]->lN (Dm a)+1<=4*lN a/\1<=lN (Dm a))
 |[],_=>⟨Ag _,λh=>absurd rfl h⟩
 |[n],h=>by have:=KS<|h n sP;show(dec n).length<=4/\(_->lN (dec n)+1<=4/\1<=lN (dec n));exact⟨oG,λ_=>⟨oG,oG⟩⟩
 |n::m::l,h=>by have d:=KS<|h n sP;have b:=Z3 (a:=m::l) λx c=>h x<|DY _ c;rw[Me];simp only[CK,FM]at b⊢;have e:=b.2 sP;exact⟨oG,λ_=>⟨oG,oG⟩⟩
def Z4{n}(h:CB n):BV n/\n≠[]/\n.length<=24:=by simp[CB,Bool.and_eq_true,decide_eq_true_eq,List.all_eq_true]at h;exact⟨h.2,by intro e;rw[e]at h;simp at h,h.1.2⟩
def index_none{n}(h:n<=999):Lib.indexByte (dec n) 46= -1:=by
 have a:=(KS h).2.1;have:∀d:AA AH,(46:AH)∉d->Lib.indexByte d 46= -1:=by
  intro d;induction d with
  |nil=>intro _;rfl
  |cons x d f=>
   intro c;have b: ¬(x==46):=by intro e;exact c (by rw[eq_of_beq e];simp)
   rw[Lib.indexByte,AY b,f λq=>c<|DY _ q];rfl
 exact this _ a
def AVq{n}(h:n<=999)(l):Lib.indexByte (dec n++46::l) 46=lN (dec n):=by
 have a:=(KS h).2.1;have:∀d:AA AH,(46:AH)∉d->Lib.indexByte (d++46::l) 46=lN d:=by
  intro d;induction d with
  |nil=>intro _;rfl
  |cons x d g=>
   intro c;have b: ¬(x==46):=by intro e;exact c (by rw[eq_of_beq e];simp)
   rw[F1,Lib.indexByte,AY b,g λq=>c<|DY _ q];have: ¬((lN d:Int)== -1):=sP;rw[AY this];simp
 exact this _ a
section
open Go.RowKit Go.Shelf
attribute [local go_sem] Oper.semAt_some Fz Jc
def ADx(I l)(n:Int)(h:Lib.indexByte l 46=n):Fn 337 [.v<|vS<|AJ l,.v<|vS ⟨#[46]⟩] [] I (BW (.v<|nV n) I) nO:=
 ADb func337 kR kR (λ_=>rfl) (λ_=>rfl) rfl λw a=>by refine(ADy 46 (AJ l) w).mono ?_;rintro e b ⟨rfl,rfl⟩;rw[show(AJ l).data.toList=l from by simp[AJ],h];exact⟨rfl,Below.refl _ _⟩
end
def Ef(n:AA Nat):AA AF:=n.map λx:Nat=>Value.int iK<|Int.ofNat x
abbrev N2(x:SV):AK:=.cells [x] 100
abbrev Ny:AK:=.cells [.v tV] 4
def APS(I:AB)(n:Nat):zP:=λc h=>∃a b,1<=a/\a<=maxLen/\lN b=a-1/\h= {r:=.v tV,AV:=[(1,N2<|.s c 0 1 a),(2,Ny)],nb:=[.As (Ef [n]++b) 3],J:=I}
def nb0(a b):(CX a [b] a).isSome:=by have:=Nv (key:=a) (nb:=[b]) (j:=0);simp[IB]at this;rw[this];rfl
def APj(I:AB)(done:Nm)(n:Nat):zP:=λc h=>∃a b,lN done+1<=a/\a<=maxLen/\lN b=a-(lN done+1)/\h= {r:=.v tV,AV:=[(1,N2<|.s c 0 (lN done+1) a),(2,Ny),(3,.gone)],nb:=[.As (Ef (done++[n])++b) 3],J:=I}
def WX(n):lN (Ef n)=lN n:=by simp[Ef]
def WY(n):∀v∈Ef n,v.oneCell':=by intro v a;obtain⟨x,_,rfl⟩:=BI.1 a;rfl
def ACG:Gq prog Bt 100 3 1:=⟨⟨_,rfl⟩,⟨_,_,rfl,rfl⟩,kR⟩
def ANx(I)(h:Pow I)(n)(c:n<=999):Fn 246 [.v<|vS<|AJ<|dec n,.p 1 0,.p 2 0] [(1,N2<|.v zS),(2,Ny)] I (APS I n) nO:=by have k:=KS c;refine fo func246 λl i w d=>gG<|call (Q4 I h (dec n) n (AIj c) (AC1 c) oG oG oG)<|gg [(15,hT<|(n:Int)≥0),(19,hT<|(n:Int)<=999)]<|act (need:=[(308,.cells [.v<|nV n] 3)]) (MM (I:=I) Be (n:=0) (cap:=0) (m:=1) (a:=nO) (l:=.v zS) (x:=.s 308 0 1 1) (CQ:=[]) (news:=Ef [n]) ACG kR rfl Ol (Ez (e:=3) (A9.2 rfl) rfl<|WY [n]) (Ag _) oG (λ_=>rfl) oG) M4 ?_;rintro j ⟨b,a,e,f,g,rfl⟩;refine gG ?_;exact dn [316] ⟨b,a,e,f,by rw[g];simp,rfl⟩
def ANy(I)(l:Pow I)(a n c b)(f:n<=999)(t:lN a<24)(m:lN a<=c)(p:c<=maxLen)(o:lN b=c-lN a):Fn 246 [.v<|vS<|AJ<|dec n,.p 1 0,.p 2 0] [(1,N2<|.s 3 0 (lN a) c),(2,Ny),(3,.As (Ef a++b) 3)] I (APj I a n) nO:=by have s:=KS f;refine fo func246 λu g w h=>gG<|call (Q4 I l (dec n) n (AIj f) (AC1 f) oG oG oG)<|gg [(15,hT<|(n:Int)≥0),(19,hT<|(n:Int)<=999),(24,hT<|(lN a:Int)<24)]<|act (need:=[(3,.As (Ef a++b) 3),(308,.cells ((Ef [n]).map .v) 3)]) (Kk (I:=I) Be (n:=lN a) (m:=1) (cap:=c) (k:=3) (vs:=Ef a++b) (CQ:=Ef a) (news:=Ef [n]) (x:=.s 308 0 1 1) ACG kR DT (by rw[CK,WX,o];omega) (by rw[O5];rw[WX];omega) (WY _) (Ez (e:=3) sP rfl<|WY [n]) m p oG) (QP rfl) ?_;rintro q ⟨e,d,i,j,k,rfl⟩;refine gG ?_;refine dn [316] ⟨e,d,i,j,by rw[k];simp,?_⟩ (h:={r:=.v tV,AV:=[(1,N2<|.s (g+0) 0 (lN a+1) e),(2,Ny),(3,.gone)],nb:=[.As (Ef a++Ef [n]++d) 3],J:=I});simp[Ef]
abbrev Sn(l:AA AH):AK:=.cells [.v<|vS<|AJ l] 9
abbrev Sk:AK:=.cells [.v<|vS ⟨#[46]⟩] 9
abbrev zeroCell:AK:=.cells [.v<|.int iK 0] 3
variable{F:FuncId}{fn:Func}{n:Nat}{I:AB}{w:World}{ρ:Nat->Nat}{A:List Nat}{R:Ec}{f:Bv}
abbrev AYf(l:AA AH):AA (Nat×AK):=[(1,N2<|.v zS),(2,Ny),(3,Sk),(4,Sn l),(5,zeroCell)]
def AB7(I:AB)(c:Nm):zP:=λd h=>∃a b l,lN c<=a/\a<=maxLen/\lN b=a-lN c/\h= {r:=.t [],AV:=[(1,N2<|.s d 0 (lN c) a),(2,Ny),(3,Sk),(4,Sn l),(5,zeroCell)],nb:=[.As (Ef c++b) 3],J:=I}
structure SqX where
 IK:Nm
 Eh:Nm
 cap:Nat
 AE:AA AF
def ANj(I:AB)(x:SqX):Hd where
 Cd:=[(0,.fn (.func 246) [] [.p 1 0,.p 2 0]),(1,.p 3 0),(2,.p 4 0),(3,.p 5 0)]
 Cc:=match x.IK with
  |[]=>[(1,N2<|.v zS),(2,Ny),(3,Sk),(4,Sn<|Dm x.Eh),(5,zeroCell)]
  |d::l=>[(1,N2<|.s 6 0 (lN (d::l)) x.cap),(2,Ny),(3,Sk),(4,Sn<|Dm x.Eh),(5,zeroCell),(6,.As (Ef (d::l)++x.AE) 3)]
 J:=I
structure SqP(nm:Nm)(x:SqX):Prop where
 all:x.IK++x.Eh=nm
 ne:x.Eh≠[]
 cap:lN x.IK<=x.cap/\x.cap<=maxLen/\lN x.AE=x.cap-lN x.IK
def Abp{I}{l:AA AH}{k}(c:k<=lN l):∀w,EJ w I->∃b,(Instr.sliceAt 9 (vS<|AJ l) nO (sM<|iV k) nO).run prog w=.ok (AO id<|.v<|vS<|AJ<|l.take k) b/\Bl w b:=λw _=>
 ⟨w,by
   have a:(0:Int)<=(k:Int)/\(k:Int)<=((AJ l).size:Int):=by rw[Fz];omega
   simp[Instr.sliceAt,Instr.slice,rU ABA,Instr.sliceBounds,run_sliceBound,a.1,a.2,aT,AO,AJB],Bl.refl w⟩
def Abo{I}{l:AA AH}{k}(c:k<=lN l):∀w,EJ w I->∃b,(Instr.sliceAt 9 (vS<|AJ l) (sM<|iV k) nO nO).run prog w=.ok (AO id<|.v<|vS<|AJ<|l.drop k) b/\Bl w b:=λw _=>
 ⟨w,by
   have a:(0:Int)<=(k:Int)/\(k:Int)<=((AJ l).size:Int):=by rw[Fz];omega
   simp[Instr.sliceAt,Instr.slice,rU ABA,Instr.sliceBounds,run_sliceBound,a.1,a.2,aT,AO];rw[Fz,extract_from],Bl.refl w⟩
def AbW(I)(E:Pow I)(l:Nm)(M:BV l)(L:l≠[])(N:lN l<=24):Fn 363 [.fn (.func 246) [] [.p 1 0,.p 2 0],.p 3 0,.p 4 0,.p 5 0] (AYf<|Dm l) I (AB7 I l) nO:=by
 refine fo func363 λρ m w o=> ?_;refine gG<|loop (SqP l) (λx=>lN x.Eh) (ANj I) 300 [] ⟨[],l,0,[]⟩ ⟨rfl,L,⟨Ag _,Bm _,rfl⟩⟩ ?_;rintro⟨i,Eh,h,c⟩ ⟨a,p,b⟩ again T;simp only at a p b;cases Eh with
 |nil=>exact absurd rfl p
 |cons x Eh=>
  have q:x<=999:=M x (by rw[<-a];simp);have hlen:lN i+lN (x::Eh)=lN l:=by rw[<-a,CK]
  cases Eh with
  |nil=>
   cases i with
   |nil=>
    refine gG<|call (ADx I (dec x) (-1)<|index_none q) ?_;refine gG<|A0 (ANx I E x q) [] ?_;rintro _ ⟨h,c,s,t,u,rfl⟩;refine gG ?_;have H:AB7 I l m {r:=.t [],AV:=[(1,N2<|.s (m+0) 0 1 h),(2,Ny),(3,Sk),(4,Sn<|dec x),(5,zeroCell)],nb:=[.As (Ef [x]++c) 3],J:=I}:=by subst a;exact⟨h,c,dec x,s,t,u,rfl⟩
    exact done func363 o [364] kR H
   |cons d k=>
    refine gG<|call (ADx I (dec x) (-1)<|index_none q) ?_;refine gG<|A0 (ANy I E (d::k) x h c q (by simp at hlen⊢;omega) b.1 b.2.1 b.2.2) [(3,6)] ?_;rintro _ ⟨g,e,s,t,u,rfl⟩;refine gG ?_;have H:AB7 I l m {r:=.t [],AV:=[(1,N2<|.s (m+0) 0 (lN (d::k)+1) g),(2,Ny),(3,Sk),(4,Sn<|dec x),(5,zeroCell)],nb:=[.As (Ef (d::k++[x])++e) 3],J:=I}:=by subst a;exact⟨g,e,dec x,by simpa using s,t,by simpa using u,sP⟩
    exact done func363 o [364] kR H
  |cons y Eh=>
   have K:lN (dec x)<=lN (Dm (x::y::Eh)):=by rw[Me];simp
   have D:lN (dec x)+1<=lN (Dm (x::y::Eh)):=by rw[Me];simp
   have z:(Dm (x::y::Eh)).take (lN<|dec x)=dec x:=by rw[Me,O5];rfl
   have v:(Dm (x::y::Eh)).drop (lN (dec x)+1)=Dm (y::Eh):=by rw[Me,List.drop_append,RN oG,show(dec x).length+1-lN (dec x)=1 by omega];rfl
   have B:=Abp (I:=I) K;have j:=Abo (I:=I) D;rw[z]at B;rw[v]at j;have O:=(KS q).2.2;have C:=ADx I (Dm (x::y::Eh)) (lN<|dec x) (by rw[Me];exact AVq q _);cases i with
   |nil=>
    refine gG<|call C ?_;refine gg [(33,hF<|(lN (dec x):Int)<0),(37,hW ((lN (dec x):Int)+0) (lN (dec x):Nat)),(38,.op I _ _ B)]<|A0 (ANx I E x q) [] ?_;rintro _ ⟨h,c,s,t,u,rfl⟩;exact gg [(47,hW ((lN (dec x):Int)+1) ((lN (dec x)+1:Nat):Int)),(48,.op I _ _ j)]<|bk again [(6,412)] ⟨[x],y::Eh,h,c⟩ ⟨by simpa using a,sP,⟨s,t,u⟩⟩ (hm:=sP)
   |cons d k=>
    refine gG<|call C ?_;refine gg [(33,hF<|(lN (dec x):Int)<0),(37,hW ((lN (dec x):Int)+0) (lN (dec x):Nat)),(38,.op I _ _ B)]<|A0 (ANy I E (d::k) x h c q (by simp at hlen⊢;omega) b.1 b.2.1 b.2.2) [(3,6)] ?_;rintro _ ⟨g,e,s,t,u,rfl⟩;refine gg [(47,hW ((lN (dec x):Int)+1) ((lN (dec x)+1:Nat):Int)),(48,.op I _ _ j)] ?_;have G:lN (d::(k++[x]))=lN (d::k)+1:=sP;refine bk again [(6,412)] ⟨d::(k++[x]),y::Eh,g,e⟩ ⟨by simpa using a,sP,⟨by show(d::(k++[x])).length<=g;rw[G];exact s,t,by show lN e=g-lN (d::(k++[x]));rw[G];exact u⟩⟩ (hm:=sP) (hh:=⟨?_,kR,kR⟩);unfold ANj;simp[G];kernel_rfl
end
end Go.Proofs.YtomehhepbeiinaaGreatDoor
