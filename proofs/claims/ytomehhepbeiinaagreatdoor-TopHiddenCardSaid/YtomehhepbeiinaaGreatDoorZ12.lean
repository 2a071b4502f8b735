/- Part 12 of the proof of TopHidden. No conditions. -/
import Derived.Test.YtomehhepbeiinaaGreatDoorZ11
import Derived.Test.YtomehhepbeiinaaGreatDoorRows
import Derived.LaidMore
import Derived.Stop.Joined
import Derived.Lay
set_option maxRecDepth 100000
set_option maxHeartbeats 4000000
set_option linter.all false
open UInt8 renaming ofNat->uN
open List renaming range->lR
open List renaming length->lN
open Option renaming some->sM,none->nO
open Bool renaming true->tT,false->fF
open Go.Value renaming string->vS,bool->vB
open Go.IntKind renaming i64->iK
namespace Go.Proofs.YtomehhepbeiinaaGreatDoor
open Go.Proofs.Tryz
section
open Go.AX Go.ChangeAt Go.ChangeShapes Go.Joins Go.RowKit Go.WideShapes Lz
def We{P w}:∀ {l:AA<|String×DataW Unit} {J:AA MemPlace},DataW.LaidVars P w l J->∀b∈l,∃g t c fuel p,P.globalNamed b.1=sM g/\(P.globals[g]?).map (·.type)=sM t/\w.var? P b.1=sM c/\DataW.trod (λ_=>()) P w 0 (λ_=>tT) fF fuel t c.toList=sM (b.2,p)
 |[],_,_,_,a=>by cases a
 |(n,d)::r,J,h,b,a=>by let⟨g,t,c,fuel,p,q,e,f,i,j,k,_⟩:=h;rcases Co.1 a with rfl|a;exact⟨g,t,c,fuel,p,e,f,i,j⟩;exact We k b a
def ABD{P:B7}{w:AN}{n g b}(d:P.globalNamed n=sM g)(h:w.var? P n=sM b):∃e a,w.heap[g]? =sM (.cells b e a):=by simp[World.var?,d,Xz]at h;split at h;rename_i c e a f;cases h;exact⟨e,a,f⟩;cases h
def Kw:AA (String×DataW Unit):=[("math/bits.deBruijn32tab",Rows.laid_math_bits_deBruijn32tab),("math/bits.deBruijn64tab",Rows.laid_math_bits_deBruijn64tab),("internal/strconv.uint64pow10",Rows.laid_internal_strconv_uint64pow10),("unicode/utf8.acceptRanges",Rows.laid_unicode_utf8_acceptRanges),("strconv.ErrRange",Rows.laid_strconv_ErrRange),("strconv.ErrSyntax",Rows.laid_strconv_ErrSyntax),("lazaretto/op.table",Rows.laid_lazaretto_op_table),("lazaretto/prin.letters",Rows.laid_lazaretto_prin_letters),("lazaretto/below.words",Rows.laid_lazaretto_below_words),("unicode/utf8.first",Rows.laid_unicode_utf8_first)]
def OG(W:AN):AB:=⟨λb=>W.heap[b]?,λ_=>nO⟩
section
variable {W:World} {J:List MemPlace} (h:DataW.LaidVars Tryz.prog W Kw J)
include h
theorem AWz:Iw (OG W):=by
 let⟨g,t,b,f,p,c,m,n,j⟩:=We h ("lazaretto/prin.letters",Rows.laid_lazaretto_prin_letters) (by simp[Kw]);obtain rfl:=FX<|(show Tryz.prog.globalNamed "lazaretto/prin.letters" =sM 2 by kernel_rfl).symm.trans c;obtain rfl:=FX ((show(Tryz.prog.globals[2]?).map (·.type)=sM 368 by kernel_rfl).symm.trans m);have a:=Lib.cells_of_tab (k:=.u8) (zs:=[97,98,99,100,101,102]) Tryz.underlying368 Tryz.underlying5 kR kR j;let⟨e,d,l⟩:=ABD c n;refine⟨⟨b,e,d,l,λi k=> ?_⟩⟩;let⟨o⟩:=b;simp only at a;subst a
 match i,k with
 |0,_=>rfl
 |1,_=>rfl
 |2,_=>rfl
 |3,_=>rfl
 |4,_=>rfl
 |5,_=>rfl
omit h in
theorem Ag3:(Rows.laid_lazaretto_below_words:DataW Unit)=.agg ((List.range 5).map λi=>.lit (.string (wdB i).data.toList)):=kR
def AgQ:Aej (OG W):=by
 let⟨g,t,u,f,p,l,B,C,w⟩:=We h ("lazaretto/below.words",Rows.laid_lazaretto_below_words) (by simp[Kw]);obtain rfl:=FX<|(show Tryz.prog.globalNamed "lazaretto/below.words" =some 0 by kernel_rfl).symm.trans l;obtain rfl:=FX ((show(Tryz.prog.globals[0]?).map (·.type)=some 163 by kernel_rfl).symm.trans B);let⟨e,v,A⟩:=ABD l C;let⟨o,m,_,D,F,hlen,x⟩:=DataW.trod_array Afz w;refine⟨⟨u,e,v,A,λi z=> ?_⟩⟩;have s:Tryz.prog.cellsOf 9=1:=kR;have b:=x i oG;rw[s]at b;obtain⟨y,n⟩:∃y,o[i]? =some y:=⟨_,BS oG⟩;rw[n]at b;have a:y.1=.lit (.string (wdB i).data.toList):=by have c:=(IC D).1;have j:(Rows.laid_lazaretto_below_words:DataW Unit)=.agg (o.map (·.1)):=c;rw[Ag3]at j;have k:=Dt (·[i]?)<|DataW.agg.inj j;simp only[GB,n,AGV z,LN,QB]at k;exact k.symm
 let⟨E,q,r,_⟩:=DataW.trod_string Tryz.underlying9 b;subst r;simp only[DataW.lit.injEq,Lit.string.injEq]at a;have d:E=wdB i:=Xn<|Lu.1 a;have c:=Dt (·[0]?) q;simp only[GO,Nat.zero_lt_one,ME,Jg,TG,IB]at c;rw[<-AfP,c,d];rfl
theorem AW0:Pow (OG W):=by
 refine⟨?_,?_⟩;let⟨g,t,b,f,p,a,k,m,i⟩:=We h ("internal/strconv.uint64pow10",Rows.laid_internal_strconv_uint64pow10) (by simp[Kw]);obtain rfl:=FX<|ADk.symm.trans a;obtain rfl:=FX ((show(Tryz.prog.globals[4]?).map (·.type)=sM 422 by kernel_rfl).symm.trans k);let⟨e,c,j⟩:=ABD a m;refine⟨e,c,?_⟩;have:b=(Lib.pow10Tab.map λz=>Value.int .u64 z).toArray:=by rw[<-(Lib.cells_of_tab (k:=.u64) (zs:=Lib.pow10Tab) Tryz.underlying422 Tryz.underlying227 kR kR<|show DataW.trod _ _ _ _ _ _ _ _ _=sM (Lib.tabData .u64 Lib.pow10Tab,p) by rw[i];rfl)]
 rwa[<-this];let⟨g,t,b,f,p,a,k,m,i⟩:=We h ("strconv.ErrSyntax",Rows.laid_strconv_ErrSyntax) (by simp[Kw]);obtain rfl:=FX<|(show Tryz.prog.globalNamed "strconv.ErrSyntax" =sM (Wg.g 15) by kernel_rfl).symm.trans a;let⟨e,c,j⟩:=ABD a m;obtain rfl:=FX ((show(Tryz.prog.globals[Wg.g 15]?).map (·.type)=sM 252 by kernel_rfl).symm.trans k);let⟨_,u,v,n,_,_⟩:=iface_of_trod AOL i;let⟨l⟩:=b;simp only at n;subst n;exact⟨.iface u v,e,c,j,.inr ⟨u,v,rfl⟩⟩
omit h in
theorem Aca:(Rows.laid_lazaretto_op_table:DataW Unit)=.agg ((List.range 47).map λi=>.agg [.lit (.string (Gf.getD i [])),.lit (.int .u8 (Cf (i+1))),.lit (.int .u8 (BP (i+1))),.lit (.int .u8 (D5 (i+1)))]):=kR
theorem AW1:EB (OG W):=by
 let⟨g,t,q,f,p,G,ht,hv,hd⟩:=We h ("lazaretto/op.table",Rows.laid_lazaretto_op_table) (by simp[Kw]);obtain rfl:=FX<|(show Tryz.prog.globalNamed "lazaretto/op.table" =some 1 by kernel_rfl).symm.trans G;obtain rfl:=FX ((show(Tryz.prog.globals[1]?).map (·.type)=some 352 by kernel_rfl).symm.trans ht);let⟨e,fr,ho⟩:=ABD G hv;let⟨T,m,_,hx,hl,hlen,hf⟩:=DataW.trod_array Su hd;refine⟨⟨q,e,fr,ho,λc h1 h2 j x H=> ?_⟩⟩;have l:Tryz.prog.cellsOf 351=4:=kR;have s:=hf (c-1) oG;rw[l]at s;obtain⟨y,I⟩:∃y,T[c-1]? =some y:=⟨_,BS oG⟩;rw[I]at s;have i:y.1=.agg [.lit<|.string<|Gf.getD (c-1) [],.lit<|.int .u8<|Cf c,.lit<|.int .u8<|BP c,.lit<|.int .u8<|D5 c]:=by have o:=(IC hx).1;have D:(Rows.laid_lazaretto_op_table:DataW Unit)=.agg (T.map (·.1)):=o;rw[Aca]at D;have E:=Dt (·[c-1]?)<|DataW.agg.inj D;simp only[GB,I,AGV<|show c-1<47 by omega,LN,QB]at E;rw[<-E,show c-1+1=c by omega]
 let⟨y0,y1,y2,y3,n,w,k,K,M,N,O⟩:=trod_struct4 Tryz.underlying351 s;obtain⟨L,F⟩:∃L,List.take 4 (List.drop ((c-1)*4) q.toList)=L:=⟨_,rfl⟩;rw[F]at k K M N O;rw[l]at k;obtain⟨P,Q,R,S,rfl⟩:∃P Q R S,L=[P,Q,R,S]:=by
  match L,k with
  |[a,b,c,d],_=>exact⟨a,b,c,d,rfl⟩
 have c9:Tryz.prog.cellsOf 9=1:=kR;have Z:Tryz.prog.cellsOf 5=1:=kR;let⟨s0,z,U,_⟩:=DataW.trod_string Tryz.underlying9 K;let⟨n1,A,V,_⟩:=DataW.trod_int Tryz.underlying5 M;let⟨n2,B,X,_⟩:=DataW.trod_int Tryz.underlying5 N;let⟨n3,C,Y,_⟩:=DataW.trod_int Tryz.underlying5 O;simp only[c9,Z,S6,AGP,ABp,List.take_zero,P6,_root_.and_true]at z A B C;subst z A B C U V X Y;rw[w]at i;simp only[DataW.agg.injEq,P6,DataW.lit.injEq,Lit.string.injEq,Lit.int.injEq,_root_.true_and,_root_.and_true]at i;let⟨r0,r1,r2,r3⟩:=i;have v:s0=AJ (Gf.getD (c-1) []):=by rw[<-r0];apply Xn;simp[AJ]
 subst v;subst r1 r2 r3;have u:j<4:=(Ci.1 H).1;have r:q[(c-1)*4+j]? =(Oh c)[j]? :=by have o:=Dt (·[j]?) F;simp only[GO,u,ME,Jg]at o;rw[<-AfP,o];rfl
 rwa[r]
end
end
section
open Go.AX Go.RowKit Go.Shelf Lz
section
attribute [local go_sem] Oper.semAt_some
theorem Aej.Bf{I J}(h:Aej I)(hle:I.Da J):Aej J:=by let⟨arr,e,a,b,c⟩:=h.at_;exact⟨arr,e,a,hle _ _ b,c⟩
def Aeq(k:Ap)(a:AA Nm)(l:Lz.AT)(n:Nat):AA AF:=(lR n).map λi=>trV (Fe k<|a.take<|i+1) l
theorem Agu(k a l n):Aeq k a l (n+1)=Aeq k a l n++[trV (Fe k<|a.take<|n+1) l]:=by rw[Aeq];rw[ABn,E3];rfl
def AfT(I:AB)(P:AA Nat)(c:Ap)(a:AA AF):zP:=λ_ h=>∃(b:Bi)(d:CH)(e:AA Rw)(J:AB),h= {r:=.v<|.slice b.a b.n b.c,AV:=CL d c.im c.AD,J:=J}/\TrI I P J e c d a b
theorem Ag1{I P j a m i d}:VY (AfT I P j a) (CL m i d) I:=by refine⟨?_⟩;rintro n h ⟨q,p,o,J,rfl,g⟩;exact⟨⟨nA,(λl c=>AKD l c),nA,sP,sP⟩,g.st.le⟩
theorem Agc(a:Act)(w)(h:a.tmps.size=f28.ntmps):∃v,(results f28 a.tmps).run prog w=.ok v w:=⟨a.tmps.getD 6 undef,by simp[results,f28,go_sem]⟩
theorem Agw:AE2 Aem (eager Aem (Aem.size+1)<|lR Aem.size):=kR
theorem Agv(i:Nat)(o:Bw)(h:Aem[i]? =sM o):∀c,o.op≠.defer c:=by have:(Aem.toList.all λo=>match o.op with| .defer _=>fF|_=>tT):=kR;have a:=EQ.1 this o (by rw[<-AfP]at h;exact De h);intro c e;rw[e]at a;cases a
def Aef(d:Nat->Nat)(a b c:Nat):Nat->Nat:=λk=>if k=6 then a else if k=7 then b else if k=8 then c else d k
theorem Afa{l k}(hz:PL l 0 k)(ai:Ra k.im)(af:Aei k)(al:B9 l)(I L m)(hK:CZ I L k m)(hL:Iw I)(ah:Aej I)(a sa sc U)(hs:Av I NL 1 a sa sc U)(hlen:lN a<=200)(ak:∀id∈a,CB id):
 Fn 28 [.p 1 0,.v (.slice sa (lN a) sc),DW l] (CL m k.im k.AD) I (AfT I (CM L m) (Fe k a) (Aeq k a l (lN a))) nO:=by
 refine⟨FC.of Ag1.out λρ ao w t hH hI aj ae=> ?_,JL func28 rfl kR⟩;have p0:=PX.start hK hH hI aj ae;let⟨sb,so,ag⟩:=Afs hs;rw[show(BB ρ [.p 1 0,.v (.slice sa (lN a) sc),DW l]).toArray=#[.pointer (aP (ρ 1)),.slice sa (lN a) sc,.agg #[vS (AJ l.1),vS (AJ l.2)]] by simp[BB,AO,DW]];refine callsIn_wide.1 (?_:CallsIn Fence.wide 6 prog 28 _ w _);refine callsIn_of_wp_marks func28 rfl trivial ?_ rfl;simp only[ntmps28,Iv,FM,KJ,Nat.reduceAdd,Nat.reduceSub,LF,LH,LK,LI,F2,F1]
 gi_wp2_with (refine⟨trivial,?_⟩;gi_at_call 61;refine(AZx Fence.wide _ trivial rfl _ _ _ rfl rfl).mono ?_;rintro e w' ⟨rfl,rfl⟩)
 obtain⟨c,u⟩:∃c,w.heap.size=c:=⟨_,rfl⟩;obtain⟨j,N⟩:∃O,(Obj.cells #[.pointer (aP (ρ 1))] 27)=O:=⟨_,rfl⟩;obtain⟨H,V⟩:∃O,(Obj.cells #[vS (AJ l.1),vS (AJ l.2)] 42)=O:=⟨_,rfl⟩;obtain⟨P,ab⟩:∃O,(Obj.cells #[.slice nO 0 0] 38)=O:=⟨_,rfl⟩;obtain⟨M,ac⟩:∃O,(Obj.cells #[.slice sa (lN a) sc] 38)=O:=⟨_,rfl⟩;rw[N,V,ab,ac];have p5:=((((p0.alloc j).alloc H).alloc P).alloc j).alloc M;have R:=B6 (B6 (B6 (B6 (World.alloc_heap_new w j) H) P) j) M;have S:=B6 (B6 (B6 (World.alloc_heap_new (w.alloc j) H) P) j) M;have E:=B6 (B6 (World.alloc_heap_new ((w.alloc j).alloc H) P) j) M;have C:=B6 (World.alloc_heap_new (((w.alloc j).alloc H).alloc P) j) M;have D:=World.alloc_heap_new ((((w.alloc j).alloc H).alloc P).alloc j) M;have hw:(((((w.alloc j).alloc H).alloc P).alloc j).alloc M).heap.size=c+1+1+1+1+1:=by simp[u]
 simp only[World.size_alloc,u]at p5 R S E C D;rw[u];generalize((((w.alloc j).alloc H).alloc P).alloc j).alloc M=W0 at*;obtain⟨St,D8⟩:∃St:Ap->AA AF->AN->Prop,St=λkk r W=>∃s A J n,PX I (CM L m) ρ w kk s A J [c+1+1+1+1+1+1,c+1+1+1+1+1,c+1+1+1+1,c+1+1+1,c+1+1,c+1,c] W/\TrI I (CM L m) J A kk s r n/\W.heap[c]? =sM j/\W.heap[c+1]? =sM H/\W.heap[c+1+1]? =sM (.cells #[.slice n.a n.n n.c] 38 (0,0))/\W.heap[c+1+1+1]? =sM j/\W.heap[c+1+1+1+1]? =sM M:=⟨_,rfl⟩;have hp:∀kk r W o,St kk r W->St kk r (W.putObj (c+1+1+1+1+1+1) o):=by rw[D8];rintro kk r W o ⟨s,A,J,n,f,hT,R,S,E,C,D⟩;have no:∀ {x:Nat},x≠c+1+1+1+1+1+1->(W.putObj (c+1+1+1+1+1+1) o).heap[x]? =W.heap[x]? :=World.putObj_heap_other;exact⟨s,A,J,n,f.put sP _,hT,(no oG).trans R,(no oG).trans S,(no oG).trans E,(no oG).trans C,(no oG).trans D⟩
 refine Afn (D:=c+1+1+1+1+1) (B1:=c+1+1+1+1) (B2:=c+1+1+1) (kp:=⟨ρ 1,0,nO⟩) (c:=sc) rfl hw rfl ag (by omega) (λi=>Aa (a.getD i [])) (λi=>St (Fe k (a.take i)) (Aeq k a l i)) (λi=>St (Fe k (a.take (i+1))) (Aeq k a l i)) ?_ ?_ (λi W o=>⟨hp _ _ W o,hp _ _ W o⟩) ?_ ?_ ?_ ?_ ?_
 rotate_left
 .intro b K W h;simp
  gi_wp2
  exact h
 intro o;have:=(p5.alloc (.deferred (sM []))).alloc o;simp only[World.size_alloc,hw]at this;rw[D8];exact⟨m,L,I,⟨nO,0,0⟩,this,TrI.start hK,B6 (B6 R _) o,B6 (B6 S _) o,by subst ab;exact B6 (B6 E _) o,B6 (B6 C _) o,B6 (B6 D _) o⟩;rw[D8];rintro i W ⟨_,_,_,_,f,_,_,_,_,C,D⟩;exact⟨cell0 (by rw[D,ac]),λhi=>⟨cell0 (by rw[C,N]),f.idc hs hi (ag oG)⟩⟩;rw[D8];rintro i W ⟨s,A,J,n,f,hT,R,S,E,C,D⟩ hi;let⟨hid,ep⟩:=Afo (k:=k) hi;refine(f.run (rv:=.v (vB (F6 (Fe k (a.take i)) (a.getD i [])).2)) (AfL hz ai a hlen ak i _ hid J A s f.K) (by simp[BB,AO])).mono ?_;rintro e W' ⟨rfl,⟨m2,L2,J2,X,am⟩,hk⟩;rw[<-ep]at X;exact⟨_,rfl,⟨m2,L2,J2,n,X,hT.pick am X.K,(hk _ sP).trans R,(hk _ sP).trans S,(hk _ sP).trans E,(hk _ sP).trans C,(hk _ sP).trans D⟩,hk _ sP,hk _ sP⟩
 .rw[D8];rintro i b Y ⟨s,A,J,n,f,hT,R,S,E,C,D⟩ hi;have aa:=f.free;have Z:=f.S;have Q:∀x∈[1,2,3,4,5],Aef ρ (c+1+1) c (c+1) x=ρ x:=λx G=>by simp only[Co,Hp,_root_.or_false]at G;unfold Aef;rw[AY oG,AY oG,AY oG]
  have t:∀x∈(Aet s (Fe k (a.take (i+1))).im (Fe k (a.take (i+1))).AD l n J).Cc,x.1∈[1,2,3,4,5]\/x.1=6\/x.1=7\/x.1=8:=λx G=>by rcases Bc.1 G with q|q;exact .inl (AKD (key:=0) (nb:=[]) x q).1;simp only[Co,Hp,_root_.or_false]at q;rcases q with rfl|rfl|rfl<;>simp
  have hinv:=Ae9 (a.take (i+1)) hz;rw[Cu,FE]at hinv;have hN:Has Y (Aef ρ (c+1+1) c (c+1)) (Aet s (Fe k (a.take (i+1))).im (Fe k (a.take (i+1))).AD l n J).Cc:=by
   intro g d o ho;rcases Bc.1 d with q|q;let⟨h1,h2⟩:=AKD (key:=0) (nb:=[]) g q;have e:g.2.AO (Aef ρ (c+1+1) c (c+1))=g.2.AO ρ:=AK.Ko _ λx G=>by rcases h2 x G with q|q;exact Q x q;exact absurd q (by unfold CX;split<;>simp)
   rw[Q _ h1];exact f.B8 g q o (by rw[<-e];exact ho);simp only[Co,Hp,_root_.or_false]at q;rcases q with rfl|rfl|rfl;cases ho;exact E;cases ho;show Y.heap[c]? =_;rw[R,<-N];rfl;cases ho;show Y.heap[c+1]? =_;rw[S,<-V];rfl
  refine wpIn_block<|wpIn_mono (Af4 (P:=prog) (F:=28) (fn:=f28) (n:=f28.ntmps) func28 kR mixed Agc (Aj:=Aem) Agw Agv (s:=Aet s (Fe k (a.take (i+1))).im (Fe k (a.take (i+1))).AD l n J) (Φ:=AfU I (CM L m) A (Fe k (a.take (i+1))) s l (Aeq k a l i)) kR hN f.A.H2 ?_ ?_ rfl rfl ?_ (λT=> ?_) 3 (c+1+1+1+1+1+1) (6-1-1)) ?_;intro g d;rcases t g d with h|h|h|h;rw[Q _ h];exact aa _ h;rw[h];exact(Z _ (by simp[Aef])).2.2;rw[h];exact(Z _ (by simp[Aef])).2.2;rw[h];exact(Z _ (by simp[Aef])).2.2
  .intro x G y hy e;have lo:∀z,z∈[1,2,3,4,5]->Aef ρ (c+1+1) c (c+1) z=ρ z/\ρ z<c:=λz hz=>⟨Q z hz,u▸(f.Aeu z hz).1⟩;rcases t x G with h|h|h|h<;>rcases t y hy with F|F|F|F;rw[Q _ h,Q _ F]at e;exact(f.Aeu _ h).2.2 _ F e
   all_goals first
    |(rw[h,F];done)
    |(have q:=lo _ h;rw[q.1,F]at e;have e:ρ x.1=_:=e;simp[Aef]at e;omega)
    |(have q:=lo _ F;rw[q.1,h]at e;have e:_=ρ y.1:=e;simp[Aef]at e;omega)
    |(rw[h,F]at e;simp[Aef]at e;done)
    |(rw[h,F]at e;simp[Aef]at e;omega)
  intro p hp;simp only[Aet,Co,Hp,_root_.or_false]at hp;rcases hp with rfl|rfl|rfl|rfl<;>rfl;have an:n.n<=1000:=by have:=hT.row.n;unfold Aeq at this;rw[DG,AfQ]at this;omega
  have:=(Agx hinv (by omega) (AfC _ af) al hT (Iw.Bf f.s.le hL) (ah.Bf f.s.le) an (Aef ρ (c+1+1) c (c+1)) 100 (Ag _) Y T).out func28;rw[<-Vb]at this;exact this;rintro e a' W' ⟨rfl,hh,q,⟨⟨v,J2,rfl,B⟩,_⟩,hA2⟩;have ad:∀g∈(Aet s (Fe k (a.take (i+1))).im (Fe k (a.take (i+1))).AD l v J2).Cc,(g.1∈[1,2,3,4,5]/\Aef ρ (c+1+1) c (c+1) g.1<c)\/(w.heap.size<=Aef ρ (c+1+1) c (c+1) g.1/\Aef ρ (c+1+1) c (c+1) g.1<=c+1+1):=λg d=>by rcases Bc.1 d with q|q;have h:=(AKD (key:=0) (nb:=[]) g q).1;exact .inl ⟨h,by rw[Q _ h,<-u];exact(f.Aeu _ h).1⟩;simp only[Co,Hp,_root_.or_false]at q;rw[u];rcases q with rfl|rfl|rfl;exact .inr ⟨by show c<=c+1+1;omega,Ag _⟩;exact .inr ⟨Ag _,by show c<=c+1+1;omega⟩;exact .inr ⟨by show c<=c+1;omega,by show c+1<=c+1+1;omega⟩
  let⟨px,kp⟩:=f.step Q hA2 rfl rfl (λg d=>GC _ d) (λg d=>(ad g d).imp Ae7 Ae7) ⟨B.st.le,B.st.A2,λx G=>B.st.CE x (GC _ G)⟩ B.ZX;have hu:=hA2.AV;rw[Pp _ _ _ _ rfl]at hu;have zT:=hu (6,.cells [.v (.slice v.a v.n v.c)] 38) (HZ _ sP) _ rfl;have zK:=hu (7,.cells [.p 1 0] 27) (HZ _ sP) _ rfl;have zL:=hu (8,Qs l) (HZ _ sP) _ rfl;have ne:∀x,c+1+1<x->∀g∈(Aet s (Fe k (a.take (i+1))).im (Fe k (a.take (i+1))).AD l v J2).Cc,Aef ρ (c+1+1) c (c+1) g.1≠x:=λx G g d e=>by rcases ad g d with⟨_,q⟩|⟨_,q⟩<;>omega
  exact⟨rfl,⟨s,A,J2,v,px,by rw[Agu];exact B,by rw[<-N];exact zK,by rw[<-V];exact zL,zT,(kp _ sP (ne _ oG)).trans C,(kp _ sP (ne _ oG)).trans D⟩,kp _ sP (ne _ oG),kp _ sP (ne _ oG)⟩
 .rw[D8];rintro Y ⟨s,A,J,n,f,hT,_,_,E,_⟩ yD;rw[FN]at f hT;have yc:=cell0 E;show Exit.inBlock 0 _ _ _ _
  gi_wp2
  exact⟨sP,.inl ⟨_,_,rfl,run_takeDeferred yD,.slice n.a n.n n.c,by simp[results,f28,go_sem],_,id,⟨n,s,A,J,rfl,hT⟩,(f.put sP _).ret _ _,rfl⟩⟩
end
end
section
open Go.AX Go.RowKit Lz
def AVj(I a b):Fn 82 [.v<|.int .u8 a.toNat,.v<|.int .u8 b.toNat] [] I (BW (.v<|vB<|sub a b) I) nO:=
 MX func82 kR kR (λ_=>rfl) (λ_=>rfl) rfl λw _=>(WU _ _ a b rfl rfl w).mono λ_ _ h=>⟨h.1,h.2▸Below.refl _ w⟩
def AeG(m:CH)(im:A6)(AD:Nat)(p:AH)(a:AU Au)(len c:Nat)(J:AB)(i:Nat):Hd where
 Cd:=[(1,.v<|.int .u8 p.toNat),(8,.v<|.slice a len c),(9,.v<|iV len),(10,.v<|iV i)]
 Cc:=CL m im AD
 J:=J
abbrev APh(I:AB)(m:CH)(b:A6)(a:Nat)(r:Bool):zP:=YF I (CL m b a) (λ_:Unit=>.v<|vB r) λ_ _=>True
def AIF{k}{n:Nat}(d:BF n k)(D:n<=1000)(I L m)(C:CZ I L k m)(p):Fn 26 [.p 1 0,.v<|.int .u8 p.toNat] (CL m k.im k.AD) I (APh I m k.im k.AD<|O0 k p) nO:=by have j:=d.ll;have f:=AW9 d D I L m C;rw[O0];generalize k.B5=l at j f⊢;refine fo func26 λK E w A=>gG<|A0 f [] ?_;rintro _ ⟨⟨B,z⟩,J,rfl,hle,s,t,u⟩;have v:Av J (λ(y:Lk) l=>l=E9 y) 8 l B z (l.flatMap E9):=⟨u,s,t,Rows.flat.2 rfl⟩;refine gG<|loop (ι:=Nat) (λi=>i<=lN l/\(l.take i).all (λx=>sub x.e.AR p)) (λi=>lN l-i) (AeG m k.im k.AD p B (lN l) z J) 1000 [] 0 ⟨Bm _,rfl⟩ ?_;rintro i ⟨H,o⟩ again T;by_cases c:i<lN l;obtain⟨x,r⟩:∃x,l[i]? =sM x:=⟨_,BS c⟩;obtain⟨b,g,arr,e,G,F,rfl,q2,q3,q4,q5⟩:=v.cell (λ_ l h=>by rw[h];rfl) r;subst q3;have a:=AVj J x.e.AR p;refine gg [(11,tH i<|lN l),(12,Br J AIy b g (lN l) z i c),(13,D8 J AFJ (g+i*8) (E9 x) rfl q2 q5)] ?_;cases q:sub x.e.AR p<;>rw[q]at a;have e:l.all (λx=>sub x.e.AR p)=fF:=AGM.2 ⟨x,De r,by simp[q]⟩;rw[e];exact call a<|gG<|dn [] ⟨(),J,rfl,hle,trivial⟩;refine call a<|gg [(20,sH i)] ?_;refine bk again [] (i+1) ⟨c,?_⟩;rw[My,r];simp[o,q];obtain rfl:i=lN l:=oG;rw[FN]at o;rw[o];exact gg [(11,fH (lN l)<|lN l)]<|dn [] ⟨(),J,rfl,hle,trivial⟩
end
section
open Go.AX Lz
variable{c:Dj}{b:FO}{m:AT}{n:Int}
def ARB(h:RX c b):RX (Lz.blank c m n) (ET m n b):=by let⟨a,d,e,f,g,i⟩:=ACW (m:=m) n b;exact⟨by rw[e];exact h.fn,by rw[e];exact h.args,by rw[a];exact h.hl,by rw[d];exact h.hc,by rw[f];exact h.AR,by rw[g];exact h.Ao,by rw[i,Ta];show _<(lN (c.BJ.map _):Int);rw[DG];exact h.box,by rw[a,d];exact h.fl⟩
def AIM(h:RY c):RY (Lz.blank c m n):=by rw[Ta];refine⟨by show(c.BJ.map _).length<=8;rw[DG];exact h.nb,by show 0<lN (c.BM.map _)/\lN (c.BM.map _)<=8;rw[DG];exact h.nt,λb a=> ?_,λb a=> ?_,h.fs⟩;obtain⟨x,d,rfl⟩:=BI.1 a;rw[TZ];exact h.bx x d;obtain⟨x,d,rfl⟩:=BI.1 a;exact ARB<|h.th x d
def AQ4(c)(a:Bool)(m)(n:Int):QF (Lz.blank (Jo c a) m n) (FV m n<|Jb c.BJ 0) (FV m n<|Jb c.BJ 1) (ET m n<|Ex c.BM a 0) (ET m n<|Ex c.BM a 1) (ET m n<|Ex c.BM a 2):=⟨rfl,rfl⟩
def YW(c)(a:Bool)(l)(g:C7 n)(M)(u:∀i,M (Ex c.BM a i).AR):LQ m M 0 (EG<|Lz.blank (Jo c a) l n):=by
 have j:∀i,C7 (FV l n<|Jb c.BJ i).v:=λi=>by rw[FV];split;exact AbU _ _;exact g
 refine AYp (AQ4 c a l n) (by rw[TZ];exact Zh _) (by rw[TZ];exact Zh _) (λb d=> ?_) ⟨j 0,j 1⟩ (AYB c.Ax)<|AYA c.Ax;have d:∃i,b=ET l n (Ex c.BM a i):=by
  have:b=ET l n (Ex c.BM a 0)\/b=ET l n (Ex c.BM a 1)\/b=ET l n (Ex c.BM a 2):=by simpa using d
  rcases this with h|h|h;exact⟨0,h⟩;exact⟨1,h⟩;exact⟨2,h⟩
 obtain⟨i,rfl⟩:=d;let⟨q,r,w,s,t,x⟩:=AHx c.BM a i;let⟨e,f,v,k,o,p⟩:=ACW (m:=l) n<|Ex c.BM a i;exact⟨by rwa[e,f],by rwa[e,f],by rw[k];exact u i,by rwa[p],by rwa[o],by rw[ET];split;exact ARD _ _ _;exact g⟩
def AgB(c a){n o:Int}(d:C7 n)(e:C7 o):ER a 0 (EG<|Lz.blank (Jo c tT) a n) (EG<|Lz.blank (Jo c tT) a o):=
 ⟨YW c tT _ d _ λ_=>rfl,YW c tT _ e _ λ_=>rfl,AQ7 (ACx c tT) n o⟩
def Aex(k:Ap)(a:AA Nm)(l:Lz.AT)(n:Nat):AA Ce:=(lR n).map λi=>AJ<|trL (Fe k<|a.take<|i+1) l
def Agt(k a l n):Aeq k a l n=(Aex k a l n).map Value.string:=by rw[Aeq,Aex];rw[Gk];rfl
def Ags(k a l n):lN (Aex k a l n)=n:=by rw[Aex];rw[DG,AfQ]
def AgC{l i k h}(q:ER l i k h)(a n):Aex h a l n=Aex k a l n:=by unfold Aex;refine JD λj _=> ?_;have e:=ER.Fe (a.take<|j+1) q;unfold trL;rw[e.thq,e.Bo]
def Afg{l i k}(h:PL l i k):O0 k 0:=by rw[O0];refine EQ.2 λx a=> ?_;rw[h.lk x a];decide+kernel
def Agq(I)(N:EB I)(hP:Pow I)(hL:Iw I)(X:Aej I)(c q)(A:TL I c q)(n o:Int)(hn:C7 n)(ho:C7 o)(l:AA AH)(la)(lc:Nat)(i)(hl:Av I JC 1 l la lc i)(m:AH):
 Fn 6 [.g<|Yh c q,.v<|nV n,.v<|nV o,.v<|.slice la (lN l) lc,.v<|.int .u8 m.toNat] [] I (APy I) nO:=by
 have af:m.toNat%8<8:=JE _ dC;have az:m.toNat<256:=m.toNat_lt;have g:B9 (EW<|m.toNat%8):=AEy _;refine fo func6 λρ a8 w a5=>gG<|A0 (AQJ I N hP hL) [] ?_;rintro _ ⟨S,d,rfl⟩;refine gG<|A0 (Wd S) [] ?_;rintro _ rfl;refine gg [(21,AU0 S 20 m.toNat az),(22,AUz S 19 21 148 (m.toNat%8) af),(23,ZI S 22 148 (m.toNat%8) af)] ?_;generalize EW (m.toNat%8)=at_ at g⊢;have f:=AgB c at_ hn ho;have a0:TL S c q:=⟨A.f.imp λ_ h=>h.up d λx l h=>AH6 d.EA x l h,A.b.imp λ_ h=>h.up d λ_ _ h=>h,A.t.imp λ_ h=>h.up d λ_ _ h=>h,A.fl,A.fb⟩;have Y:∀s∈(Jo c tT).BJ,B9 s.l:=λs hs=>JV<|(Yo c tT).bx s hs;have ai:∀s∈(Jo c tT).BM,B9 s.l:=λs hs=>JV ((Yo c tT).th s hs).hl;refine Cz (AIc S c q a0 tT) λqc J1 ad au=>gG<|Cz (AHq J1 (Jo c tT) qc au at_ n g (by show 2<=1000000;decide) (by show 0<2;decide) (by show 3<=1000000;decide) (by show 0<3;decide) Y ai) λqd J2 ae av=> ?_;refine gG ?_;have j:=(d.trans ad).trans ae;refine A0 (YY J2 (N.up j) (hP.up j) (Lz.blank (Jo c tT) at_ n) qd av (AIM<|Yo c tT) (Zs c.Ax)<|ALA c.Ax) [] ?_;rintro _ ⟨ma,La,J3,rfl,R,ax⟩;have k:=j.trans R.GJ;have a1:TL J3 c q:=⟨A.f.imp λ_ h=>h.up k λx l h=>AH6 k.EA x l h,A.b.imp λ_ h=>h.up k λ_ _ h=>h,A.t.imp λ_ h=>h.up k λ_ _ h=>h,A.fl,A.fb⟩;refine gG<|Cz (AIc J3 c q a1 tT) λa3 J4 u Z=>gG<|Cz (AHq J4 (Jo c tT) a3 Z at_ o g (by show 2<=1000000;decide) (by show 0<2;decide) (by show 3<=1000000;decide) (by show 0<3;decide) Y ai) λa4 J5 v aa=> ?_;refine gG ?_;have M:=(k.trans u).trans v
 refine A0 (YY J5 (N.up M) (hP.up M) (Lz.blank (Jo c tT) at_ o) a4 aa (AIM<|Yo c tT) (Zs c.Ax)<|ALA c.Ax) [] ?_;rintro _ ⟨mb,Lb,J6,rfl,ah,ay⟩;have hd:=KL.new ((R.trans<|.of u).trans<|.of v) (ax.up<|u.trans v) ah ay;have W:=M.trans ah.GJ;have F:Ra (EG<|Lz.blank (Jo c tT) at_ n).im:=Zs c.Ax;have G:Ra (EG<|Lz.blank (Jo c tT) at_ o).im:=Zs c.Ax;have K:Aei (EG<|Lz.blank (Jo c tT) at_ n):=AfB _;have L:Aei (EG<|Lz.blank (Jo c tT) at_ o):=AfB _;generalize EG (Lz.blank (Jo c tT) at_ n)=k0 at F K f hd⊢;generalize EG (Lz.blank (Jo c tT) at_ o)=j0 at G L f hd⊢;refine gg [(37,ZJ J6 36 244),(40,ZJ J6 39 300)]<|Cz (AVe J6 l la lc i (hl.up W λ_ _ h=>h) 80 dC) λqi J7 J p=> ?_;let⟨ia,ic⟩:=qi;have aw:=AVc l 80;have O:=AVd l 80;generalize H0 l 80=a at p aw O⊢;have B:=W.trans J;have C:=hd.up J;refine gG<|A0 (Afa f.a F K g J7 La ma C.ka (hL.up B) (X.up B) a ia ic _ p oG O) (tK 244) ?_;rintro _ ⟨⟨ta,tn,tc⟩,al,U,J8,rfl,E⟩;have ac:=C.a ⟨E.st.le,E.st.A2,λx hx=>E.st.CE x<|GC _ hx⟩ E.ZX;have a2:∀x∈(Bb ta).toList,x∉CM Lb mb:=λx hx hm=>by rcases E.st.CE x (HZ _ hx)with q|q;exact C.dj x q hm;let⟨y,hy⟩:=C.kb.hasAll x hm;exact q y hy
 have a6:=j.trans<|R.GJ.trans<|AB.le_refl _;refine gG<|A0 (Afa f.b G L g J8 Lb mb ac.kb (Iw.Bf E.st.le<|hL.up B) ((X.up B).Bf E.st.le) a ia ic _ (Av.Bf E.st.le p λ_ _ h=>h) oG O) (tK 300) ?_;rintro _ ⟨⟨ua,un,uc⟩,am,V,J9,rfl,T⟩;have D:=(ac.swap.a ⟨T.st.le,T.st.A2,λx hx=>T.st.CE x<|GC _ hx⟩ T.ZX).swap;have ag:=E.row.A2 λb hb y hy=>T.st.A2 b y hy<|a2 b hb;have Q:=T.row;rw[Agt]at ag Q;rw[AgC f a<|lN a]at Q;have a7:=Ags k0 a at_<|lN a;let⟨n1,s1⟩:=ag.tx oG;let⟨n2,s2⟩:=Q.tx oG;simp only at n1 n2 s1 s2;subst n1;subst n2;have ar:I.le J9:=j.trans D.le;have aj:=Acz J9 _ _ ta ua tc uc _ _ s1 s2 oG;rw[AgA]at aj;refine gG<|call aj ?_;have e:=ER.Fe a f;rw[FE]at e;have z:lN a<=200:=oG;generalize Fe k0 a=kk at*;generalize Fe j0 a=jj at*;generalize lN a=nn at z e;have hb:=ACb J9 U V kk jj al am D.ka D.kb (T6 e.a z) (T6 e.b z) at_ g (Ui e.a z _) (Ui e.b z _) (by have:=e.a.AD;omega) (by have:=e.b.AD;omega);rw[e.same]at hb;refine gG<|A0 hb (tK 244++[(6,300),(7,301),(8,302),(9,303),(10,304)]) ?_;rintro _ ⟨an,r,rfl⟩;have H:=D.up r;have hw:=AIF e.a.bf oG an U al H.ka 0;rw[Afg e.a]at hw;refine gG<|A0 hw (tK 244) ?_;rintro _ ⟨_,ao,rfl,t,_⟩;have ak:=AIF e.b.bf oG ao V am (H.up t).kb 0;rw[Afg e.b]at ak;refine gG<|A0 ak (tK 300) ?_;rintro _ ⟨_,ap,rfl,P,_⟩;exact gG<|dn [] ⟨ap,(ar.trans r).trans<|t.trans P,rfl⟩
end
section
open Go.AX Go.RowKit Lz
def Ql(W:AN):AB:=⟨λb=>W.heap[b]?,λ_=>nO⟩
def AVg(W):Holds W (Ql W):=⟨λ_ _ h=>h,λ_ _ h=>by cases h⟩
def AQv{W W' g d q h}(f:h.AV=[])(a:After (Ql W) g W W' d q h):Below W.heap.size W W':=
 ⟨a.os,a.tape,a.output,a.size,λb e=>a.A2 b e (λi c=>by rw[f]at c;cases c) rfl⟩
def AJ1{n:Int}(h:(Lit.int iK n).wf):C7 n:=by have:=bounds_i64 h;rw[C7];omega
def Agr(W)(d:EB<|Ql W)(k:Pow<|Ql W)(j:Iw<|Ql W)(f:Aej<|Ql W)(c q)(u:TL (Ql W) c q){n o m:Int}(s:(Lit.int iK n).wf)(t:(Lit.int iK o).wf)(l g)(i:Nat)(a)(p:Av (Ql W) JC 1 l g i a)(r:(Lit.int .u8 m).wf):
 Calls prog 6 #[.agg #[.slice q.fa (lN c.Ax) q.fc,.slice q.ba (lN c.BJ) q.bc,.slice q.ta (lN c.BM) q.tc],.int iK n,.int iK o,.slice g (lN l) i,.int .u8 m] W λe W'=>e=.returned tV/\Below W.heap.size W W':=by
 obtain⟨m,rfl⟩:=AOK r;refine ((Agq (Ql W) d k j f c q u n o (AJ1 s) (AJ1 t) l g i a p m).out (λ_=>0) 100 W (Ag _) nA (AVg W) nA nA).mono ?_;rintro e W' ⟨h',q',⟨⟨J,hle,rfl⟩,_⟩,hA,rfl⟩;exact⟨rfl,AQv rfl hA⟩
end
section
open Go.AX Go.ChangeAt Go.ChangeShapes Go.Joins Go.RowKit Go.WideShapes Lz
def AM5{W:AN}{ab ao n:Nat}{xs:AA AF}(i:lN xs=n)(g:0<n)(h:∀j,j<n->W.cell? ⟨ab,ao+j,nO⟩=xs[j]?):∃arr e a,W.heap[ab]? =sM (.cells arr e a)/\(arr.toList.drop ao).take n=xs:=by
 have d:=h 0 g;rw[BS oG]at d;cases c:W.heap[ab]? with
 |none=>simp[World.cell?,c]at d
 |some o=>
  cases o<;>simp[World.cell?,c]at d;rename_i arr e a;refine⟨arr,e,a,rfl,?_⟩;apply VJ;intro j;rw[GO];by_cases f:j<n;rw[Ac f,Jg,<-h j f];simp[World.cell?,c];rw[AY f,Jh oG]
variable{H:Type}{enc:TypeId×Value->H}{W:World}{b:Bool}
def Vv{a:Au}{v:AF}(h:W.cell? (a.add 0)=sM v):a.spot=nO:=by simpa[Addr.add]using World.cell?_spot h
def AHI{a c j}:(⟨a,c,nO⟩:Au).add j=⟨a,c+j,nO⟩:=Addr.add_mid _ _ _
def AA3{fuel v y}(h:DataW.trod enc Tryz.prog W 0 (λ_=>true) b fuel 23 [v]=some y):∃(l:AA AH)(a:AU Au)(c:Nat),v=.slice a (lN l) c/\lN l<=maxLen/\∃cells,Av (OG W) JC 1 l a c cells:=by
 rcases open_ints Tryz.underlying23 Tryz.underlying5 kR h with⟨f,m⟩|⟨a,len,cap,zs,f,_,A,B,C,m,d,k⟩;obtain rfl:v=.slice none 0 0:=by simpa using f
 exact⟨[],none,0,rfl,Bm _,[],Dk.nil,Ag _,Bm _,rfl⟩;obtain rfl:v=.slice (some a) len cap:=by simpa using f
 simp[ME]at C;have hlen:lN ((zs.take len).map λn=>uN n.toNat)=len:=sO
 refine⟨(zs.take len).map λn=>uN n.toNat,some a,cap,by rw[hlen],by rw[hlen];omega,((zs.take len).map λn=>uN n.toNat).map Pv,⟨⟨by rw[DG];omega,?_,?_⟩,by rwa[hlen],B,?_⟩⟩;intro x m;obtain⟨z,_,rfl⟩:=BI.1 m;rfl;rw[hlen];rcases Nat.eq_zero_or_pos len with g|g;exact .inl g;right;let⟨o,p,E⟩:=a;have i:E=none:=Vv<|d 0 oG;subst i;let⟨arr,e,s,t,u⟩:=AM5 (W:=W) (ab:=o) (ao:=p) (n:=len) (xs:=((zs.take len).map λn=>uN n.toNat).map Pv) (by rw[DG];omega) g (λj w=>by
  have r:=d j oG;rw[AHI]at r;rw[r];have q:=range_u8 k j;rw[GB,GB,GO,Ac w,BS<|show j<lN zs by omega];rw[BS<|show j<lN zs by omega]at q;rw[DK,BS<|show j<lN zs by omega];simp[TH,LN,QB]at q⊢;rw[Pv];congr 1;have:(uN (zs[j]).toNat).toNat=(zs[j]).toNat:=by rw[UInt8.toNat_ofNat'];omega
  rw[this];omega)
 exact⟨o,p,arr,e,s,rfl,t,by rwa[TG]⟩;generalize((zs.take len).map λn=>uN n.toNat)=l;induction l with
 |nil=>rfl
 |cons x l D=>exact⟨[Pv x],l.map Pv,rfl,rfl,D⟩
def AM7{a:Type}{R:a->AA AF->Prop}{f:Nat->a}{g:Nat->AF}:∀is:AA Nat,(∀i∈is,R (f i) [g i])->Rows R (is.map f) (is.map g)
 |[],_=>rfl
 |i::is,h=>⟨[g i],is.map g,rfl,h i DT,AM7 is λj c=>h j<|DY _ c⟩
def AdO{fuel v y}(h:DataW.trod enc Tryz.prog W 0 (λ_=>true) b fuel 22 [v]=some y):∃(l:AA<|AA AH)(a:AU Au)(c:Nat),v=.slice a (lN l) c/\lN l<=maxLen/\(∀x∈l,lN x<=maxLen)/\∃cells,Av (OG W) (QR<|OG W) 1 l a c cells:=by
 rcases Go.Deep.open_slice1 Tryz.underlying22 kR h with⟨f,k⟩|⟨a,len,cap,m,n,V,D,P,f,_,M,N,t,k,g⟩;obtain rfl:v=.slice none 0 0:=by simpa using f
 exact⟨[],none,0,rfl,Bm _,nA,[],Dk.nil,Ag _,Bm _,rfl⟩;obtain rfl:v=.slice (some a) len cap:=by simpa using f
 simp[ME]at t;have A:∀i,∃l:AA AH,i<len->lN l<=maxLen/\QR (OG W) l [V i]:=λi=>by by_cases d:i<len;let⟨l,p,r,C,E,cells,G⟩:=AA3 (g i oG).2;exact⟨l,λ_=>⟨E,p,r,cells,by rw[C],G⟩⟩;exact⟨[],λq=>absurd q d⟩
 have o:=λi=>Classical.choose_spec<|A i;generalize hF:(λi=>Classical.choose<|A i)=F;have o:∀i,i<len->lN (F i)<=maxLen/\QR (OG W) (F i) [V i]:=λi d=>by rw[<-hF];exact o i d
 refine⟨(lR len).map F,some a,cap,sP,by simp;omega,λx k=> ?_,(lR len).map V,⟨⟨sP,?_,?_⟩,by simpa using M,N,AM7 _ λi d=>(o i<|O4.1 d).2⟩⟩;obtain⟨i,d,rfl⟩:=BI.1 k;exact(o i<|O4.1 d).1;intro x k;obtain⟨i,d,rfl⟩:=BI.1 k;let⟨_,p,r,cells,e,_⟩:=o i<|O4.1 d;rw[show V i=.slice p (lN<|F i) r by simpa using e];rfl;rw[DG,AfQ];rcases Nat.eq_zero_or_pos len with s|s;exact .inl s;right;let⟨w,z,O⟩:=a;have u:O=none:=Vv (g 0 oG).1;subst u;let⟨arr,e,I,J,K⟩:=AM5 (W:=W) (ab:=w) (ao:=z) (n:=len) (xs:=(lR len).map V) sP s (λj L=>by have B:=(g j oG).1;rw[AHI]at B;rw[B,GB,AGV L];rfl)
 exact⟨w,z,arr,e,I,rfl,J,by rwa[TG]⟩
def AZL{r s v d i}(y:Value.okWide Tryz.prog W r s 25 v)(h:DataW.Trod enc Tryz.prog W 0 (λ_=>true) true 25 v d i):
 ∃(c:LP)(q:QD),v=.agg #[.slice q.fa (lN c.Ax) q.fc,.slice q.ba (lN c.BJ) q.bc,.slice q.ta (lN c.BM) q.tc]/\TL (OG W) c q:=by
 obtain⟨J,rfl,g⟩:=okWide_struct Tryz.underlying25 y;obtain⟨F,G,I,rfl⟩:=array3 (g.trans (show Tryz.prog.cellsOf 25=3 by kernel_rfl));let⟨fuel,x⟩:=h;have f:DataW.trod enc Tryz.prog W 0 (λ_=>true) true fuel 25 [F,G,I]=some (d,i):=by simpa[Value.cells]using x
 let⟨M,N,O,n,_,_,j,k,l⟩:=Go.Deep.trod_struct3 Tryz.underlying25 f;have a:Tryz.prog.cellsOf 22=1:=kR;have e:Tryz.prog.cellsOf 23=1:=kR;simp[a,e,S6,AGP,ABp,List.take_zero]at j k l;obtain⟨C,m,t,rfl,u,w,z⟩:=AdO j;obtain⟨D,o,c1,rfl,K,A⟩:=AA3 k;obtain⟨E,p,c2,rfl,L,B⟩:=AA3 l;exact⟨⟨C,D,E⟩,⟨m,t,o,c1,p,c2⟩,rfl,⟨z,A,B,u,w⟩⟩
def open_list{r j v d g}(o:Value.okWide Tryz.prog W r j 23 v)(h:DataW.Trod enc Tryz.prog W 0 (λ_=>true) true 23 v d g):
 ∃(l:AA AH)(a:AU Au)(c:Nat),v=.slice a (lN l) c/\∃cells,Av (OG W) JC 1 l a c cells:=by
 obtain⟨i,p,m,rfl⟩:=okWide_slice Tryz.underlying23 o;let⟨fuel,n⟩:=h;have f:DataW.trod enc Tryz.prog W 0 (λ_=>true) true fuel 23 [.slice i p m]=some (d,g):=by simpa[Value.cells]using n
 let⟨l,a,c,e,_,k⟩:=AA3 f;exact⟨l,a,c,e,k⟩
end
end Go.Proofs.YtomehhepbeiinaaGreatDoor
