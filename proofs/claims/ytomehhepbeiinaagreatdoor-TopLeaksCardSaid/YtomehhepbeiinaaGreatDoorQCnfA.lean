/- Walks of single functions. No conditions. -/
import Derived.Test.YtomehhepbeiinaaGreatDoorQCnfTx
import Derived.Test.YtomehhepbeiinaaGreatDoorQPrsA
import Derived.Test.YtomehhepbeiinaaGreatDoorQSplA
set_option maxRecDepth 100000
set_option maxHeartbeats 4000000
set_option linter.all false
namespace Go.Proofs.YtomehhepbeiinaaGreatDoor
open Tryz
open Go.RowKit Go.Shelf
attribute [local go_sem] Oper.semAt_some Ek IB
theorem AW9{b:Type}(B m):OwnFrom B (λ(_:b)(W:AI)=>m<=W.heap.size):=λ_ _ _ _ h a _=>CB h a.size
theorem AO7(w):Calls prog 367 #[.string (str [84])] w λe a=>e=.returned (.tuple #[.string (str []),.bool true])/\Below w.heap.size w a:=by
 go_enter func367,ntmps367
 go_wp2
 refine bodyPost_ret (v:=.tuple #[.string ⟨#[]⟩,.bool true]) ?_ rfl ⟨rfl,(((Below.refl _ w).alloc (AZ _) _).alloc sP _)⟩;simp[results,f367,go_sem]
theorem AO5(t)(HT:Hid (t=[97]))(h1:(t==[84])=false)(h2:(t==[70])=false)(w)(hL:I9 w):
 CallsIn Fence.wide 6 prog 367 #[.string (str t)] w λe w'=>e=.returned (.tuple #[.string (str [1]),.bool true])/\Below w.heap.size w w':=by
 let⟨i0,hi,V,X,Y⟩:=info_parts QX;have HL:=Lib.hid hL;refine callsIn_of_wp_marks func367 rfl A0 ?_ rfl;simp[ntmps367,Hn,EW,I8,Nat.reduceAdd,Nat.reduceSub,KA,KB,KJ,KE,Fo,Fj]
 gi_wp2_with (refine⟨A0,?_⟩;gi_at_call 248;refine(Kq (AXZ _ _)).mono ?_;rintro e w' ⟨rfl,rfl⟩)
 have r0:=Boxed.new w 40 (.string ⟨#[]⟩);have r1:=Boxed.new (w.alloc (.cells #[.string ⟨#[]⟩] 40)) 4 (.bool false);have I:=Boxed.new ((w.alloc (.cells #[.string ⟨#[]⟩] 40)).alloc (.cells #[.bool false] 4)) 23 (.slice none 0 0);have A:=(((Below.refl w.heap.size w).alloc (AZ _) (.cells #[.string ⟨#[]⟩] 40)).alloc sP (.cells #[.bool false] 4)).alloc sO (.cells #[.slice none 0 0] 23);have B:(((w.alloc (.cells #[.string ⟨#[]⟩] 40)).alloc (.cells #[.bool false] 4)).alloc (.cells #[.slice none 0 0] 23)).heap.size=w.heap.size+3:=sP;rw[World.size_alloc]at r1;rw[World.size_alloc,World.size_alloc]at I;replace r0:=(r0.alloc (.cells #[.bool false] 4)).alloc (.cells #[.slice none 0 0] 23);replace r1:=r1.alloc (.cells #[.slice none 0 0] 23);generalize(((w.alloc (.cells #[.string ⟨#[]⟩] 40)).alloc (.cells #[.bool false] 4)).alloc (.cells #[.slice none 0 0] 23))=u at r0 r1 I A B⊢;have F:=((Boxed.new u 9 (.string (str t))).alloc (.cells #[.string ⟨#[38]⟩] 9)).alloc (.cells #[.int .i64 0] 3);have G:=(Boxed.new (u.alloc (.cells #[.string (str t)] 9)) 9 (.string ⟨#[38]⟩)).alloc (.cells #[.int .i64 0] 3);have a:=(((Below.refl u.heap.size u).alloc (AZ _) (.cells #[.string (str t)] 9)).alloc sP (.cells #[.string ⟨#[38]⟩] 9)).alloc sO (.cells #[.int .i64 0] 3);have S:(((u.alloc (.cells #[.string (str t)] 9)).alloc (.cells #[.string ⟨#[38]⟩] 9)).alloc (.cells #[.int .i64 0] 3)).heap.size=w.heap.size+6:=sO
 rw[World.size_alloc]at G;generalize(((u.alloc (.cells #[.string (str t)] 9)).alloc (.cells #[.string ⟨#[38]⟩] 9)).alloc (.cells #[.int .i64 0] 3))=w1 at F G a S⊢;rw[HT.out]at F;rw[B]at F G;refine wpIn_rangeFunc_ownG rfl oG (gf:=363) (lb:=#[.pointer (some ⟨w.heap.size+1+1+1+1,0,none⟩),.pointer (some ⟨w.heap.size+1+1+1,0,none⟩),.pointer (some ⟨w.heap.size+1+1+1+2,0,none⟩)]) rfl A0 (enters_of func363 kR rfl)
  (AXY (6-1) oG (w.heap.size+3) w1 oG F G) (λ_ _=>A0) (λ_ _ _ _ _ _ _ _=>A0) (Below.refl _ _) (λ_=>rfl)
  (λpre W=>(∃v,Boxed W (w.heap.size+2) 23 v/\W.ownsRow (w.heap.size+6) 5 1 v pre.length ((pre.map λ_=>(1:AH)).map GN)/\True)/\(Boxed W w.heap.size 40 (.string ⟨#[]⟩)/\Boxed W (w.heap.size+1) 4 (.bool false))/\(Below w.heap.size w W)/\w.heap.size+6<=W.heap.size)
  (λ_ _ _=>False)
  (OwnFrom.and (Own.from (holdsRow_own (w.heap.size+6) (w.heap.size+2) 23 5 1 (λpre:AA Unit=>pre.length) (λpre=>(pre.map λ_=>(1:AH)).map GN) (λ_ _=>True)) _) (OwnFrom.and (Own.from (Rb _ _ _ _ (λ_=>.string ⟨#[]⟩) (λ_=>.bool false)) _) (OwnFrom.and (ownFrom_below (AZ _) oG) (AW9 _ _))))
  (λ_ _ _ _ _ hs _ _=>hs)
  ⟨⟨_,Ly I a oG,World.ownsRow_nil _ _ _ _,A0⟩,⟨Ly r0 a oG,Ly r1 a oG⟩,A.trans (a.mono oG),oG⟩
  (λ_=>{tmps:=#[.string (str t),undef,.pointer (some ⟨w.heap.size,0,none⟩),.pointer (some ⟨w.heap.size+1,0,none⟩),.pointer (some ⟨w.heap.size+1+1,0,none⟩),.string (str [97]),undef,undef,undef,.string (str t),.bool false,.bool false,.bool false,.bool false,.string (str t),.func (.func 363) #[] #[.pointer (some ⟨w.heap.size+1+1+1+1,0,none⟩),.pointer (some ⟨w.heap.size+1+1+1,0,none⟩),.pointer (some ⟨w.heap.size+1+1+1+2,0,none⟩)],.string (str [97]),undef,undef,undef,undef,undef,undef,undef,undef,undef,undef,undef,undef,undef,undef,undef,undef,undef,undef,undef,undef,undef,undef,undef,undef,undef,undef],defers:=[]}) ?assign ?body ?done ?stop
 case assign=>
  intro l x W K L
  gi_wp2
  exact L
 case body=>
  rintro l pre x W ⟨⟨v,q,b,_⟩,⟨d,f⟩,s,C⟩ ad;obtain rfl:pre=[]:=Hm oG;have H:=Lib.hid (AVK W (HL.out.behind s));obtain⟨ao,cap,rfl⟩:∃ao cap,v=.slice ao 0 cap:=by rcases Go.Joins.ownsRow_forms b with⟨h1,h2⟩|⟨g,cap,h⟩;exact⟨none,0,by rw[h1]⟩;exact⟨_,_,h⟩
  gi_wp2_with fail
  refine⟨A0,(CallsIn.inRound l (Kq H.out)).mono ?_⟩;rintro e y ⟨rfl,a⟩;have q:=Ly q a q.lt;have d:=Ly d a d.lt;have f:=Ly f a f.lt;have b:=AWd b a;have p:=s.trans (a.mono s.size);have o:=CB C a.size;have P:=AHr a;have qv:=q.cell;have R:=Go.Joins.ownsRow_le b (show w.heap.size+2<=w.heap.size+6 by omega)
  gi_wp2_with (gi_at_builtin;refine wpListIn_append_own _ rfl _ _ 23 rfl (w.heap.size+6) 5 i0 (.int .u8 0) 1 1 underlying23 hi V X Y rfl dC _ _ _ rfl (b.alloc _) ⟨y.heap.size,0,none⟩ 1 1 [.int .u8 1] rfl rfl (cell_one_new _ _ _) (by simp[Value.oneCell']) dC oG sO ?_;intro v' w2 i m _;obtain⟨g',z,rfl⟩:=ownsRow_succ i;let⟨E,U,ae,Q,aa⟩:=q.appended dC R oG (AZ _) (Go.Joins.ownsRow_le i (show w.heap.size+2<=w.heap.size+6 by omega)) m;have ab:=E.cell;have ac:=E.frozen)
  have j:Du (w.heap.size+6) (w.heap.size+2) y (w2.setCell ⟨w.heap.size+2,0,none⟩ (.slice (some ⟨g',0,none⟩) (0+1) z)):=(Du.of_below (((Below.refl _ y).alloc o _).grown m sO λk hk=>(b.lt k hk).1)).trans (Du.setCell _ _ _);exact⟨(P.trans Q).from _,A0,⟨_,U,ownsRow_setCell_below i (a:=⟨w.heap.size+2,0,none⟩) (by show w.heap.size+2<_;omega) _,A0⟩,⟨(j.block _ oG oG).trans d,(j.block _ oG oG).trans f⟩,p.trans (j.below oG oG),CB o j.size⟩
 case done=>
  rintro D ys W hD rfl ⟨⟨v,q,b,_⟩,⟨d,f⟩,s,C⟩ L;have qv:=q.cell;have T:=Uu (P:=prog) b underlying23 underlying5 underlying40;have Z:=Lib.hid (AO6 (str [1]) (by rw[Ek];decide) W);rw[H6,show(Lz.norm [1]==[1])=true by decide+kernel]at Z
  gi_wp2_with fail
  refine⟨A0,(Kq Z.out).mono ?_⟩;rintro e y ⟨rfl,a⟩;have d:=Ly d a d.lt;have f:=Ly f a f.lt;have p:=s.trans (a.mono s.size);have M:=(AHr a).same D _ L rfl;have q0:=d.cell;have q1:=f.cell;have f0:=d.frozen;have f1:=f.frozen
  gi_wp2
  have n:=((KeepsOthers.setCell y ⟨w.heap.size,0,none⟩ (.string (str [1]))).trans (KeepsOthers.setCell _ ⟨w.heap.size+1,0,none⟩ (.bool true))).same D _ M rfl;refine⟨sP,.inl ⟨_,_,rfl,run_takeDeferred n,?_⟩⟩;have N:=cell_kept (((d.set (.string (str [1]))).other (show w.heap.size≠w.heap.size+1 by omega) (.bool true)).cell) (grownBy_putObj' _ D (.deferred none)) (λr e=>by cases e;exact⟨_,n,rfl⟩);have O:=cell_kept (((f.other (show w.heap.size+1≠w.heap.size by omega) (.string (str [1]))).set (.bool true)).cell) (grownBy_putObj' _ D (.deferred none)) (λr e=>by cases e;exact⟨_,n,rfl⟩);have J:=(p.setCell (p:=⟨w.heap.size,0,none⟩) (AZ _) (.string (str [1]))).setCell (p:=⟨w.heap.size+1,0,none⟩) (B9 _) (.bool true);refine⟨.tuple #[.string (str [1]),.bool true],?_,rfl,J.trans (belowK_b (w:=w) (AZ _) _ D _ _ oG n rfl rfl)⟩;simp[results,f367,go_sem,N,O]
 case stop=>
  rintro D c pre W _ _ h _;exact h.elim
theorem AO4(w)(a:I9 w):Calls prog 367 #[.string (str [97])] w λe b=>e=.returned (.tuple #[.string (str [1]),.bool true])/\Below w.heap.size w b:=
 callsIn_wide.1 (AO5 [97] (Lib.hid rfl) rfl rfl w a)
end Go.Proofs.YtomehhepbeiinaaGreatDoor
