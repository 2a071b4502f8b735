/- Walks of single functions. No conditions. -/
import Derived.Test.YtomehhepbeiinaaGreatDoorQEach
set_option maxRecDepth 100000
set_option maxHeartbeats 4000000
set_option linter.all false
namespace Go.Proofs.YtomehhepbeiinaaGreatDoor
open Tryz
open Go.RowKit Go.Shelf
attribute [local go_sem] Oper.semAt_some
theorem ANQ(x):bits .and .u8 (x.toNat:Int) 63=((Lz.clip x).toNat:Int):=by have h:=Z5 x 63;rw[show((63:AH).toNat:Int)=63 from rfl]at h;exact h
theorem Ud(l):(Lz.norm l).length<=256:=XG _ 256
theorem AUg(s)(hs:s.size<=1000000)(w):
 CallsIn Fence.wide 6 prog 128 #[.string s] w λe J=>e=.returned (.string (str (Lz.norm s.data.toList)))/\Below w.heap.size w J:=by
 let⟨i0,hi,u,y,z⟩:=info_parts QX;refine callsIn_of_wp_marks func128 rfl A0 ?_ rfl;simp[ntmps128,Hn,EW,I8,Nat.reduceAdd,Nat.reduceSub,KA,KB,KJ,KE,Fo,Fj]
 gi_wp2_with (gi_at_make;refine wpListIn_make_own _ rfl _ _ 23 rfl w.heap.size 5 i0 (.int .u8 0) 1 underlying23 hi u y .i64 .i64 _ s.size rfl rfl rfl (by rw[z];omega) (by unfold maxLen;omega) (AZ _) ?_;intro w1 q d)
 have r:=d.size
 gi_wp2_with (refine⟨A0,?_⟩;gi_at_call 129;refine(WT Fence.wide _ A0 rfl _ _).mono ?_;rintro e J ⟨rfl,rfl⟩)
 have M:=Boxed.new w1 23 (.slice (some ⟨w.heap.size,0,none⟩) 0 s.size);have B:=Boxed.new (w1.alloc (.cells #[.slice (some ⟨w.heap.size,0,none⟩) 0 s.size] 23)) 40 (.string s);rw[World.size_alloc]at B;have C:Below w.heap.size w ((w1.alloc (.cells #[.slice (some ⟨w.heap.size,0,none⟩) 0 s.size] 23)).alloc (.cells #[.string s] 40)):=
  (((Below.refl _ w).grown d (AZ _) (λk e=>by cases e)).alloc r _).alloc (by simp;omega) _
 refine wpIn_rangeFunc_ownG rfl oG (gf:=181) (lb:=#[.pointer (some ⟨w1.heap.size+1,0,none⟩)]) rfl A0 (enters_of func181 kR rfl)
  (WU Fence.wide (6-1) A0 rfl oG (w1.heap.size+1) s hs _ sP B.cell) (λh k=>k.trans h) (R3 sP) (Below.refl _ _) (λ_=>rfl)
  (λ(pre:AA AH) W=>(∃v,Boxed W w1.heap.size 23 v/\W.ownsRow w.heap.size 5 1 v pre.length ((pre.map Lz.clip).map GN)/\True)/\Boxed W (w1.heap.size+1) 40 (.string s)/\Below w.heap.size w W)
  (λ_ _ _=>False)
  (OwnFrom.and (Own.from (holdsRow_own w.heap.size w1.heap.size 23 5 1 (λpre:AA AH=>pre.length) (λpre=>(pre.map Lz.clip).map GN) (λ_ _=>True)) _) (OwnFrom.and (Own.from (AAB _ _ _) _) (ownFrom_below (AZ _) (by simp;omega))))
  (λ_ _ _ _ _ hs _ _=>hs)
  ⟨⟨_,M.alloc _,(q.alloc _).alloc _,A0⟩,B,C⟩
  (λx=>{tmps:=#[.string s,undef,.string {data:=#[]},.pointer (some ⟨w1.heap.size,0,none⟩),.int .u8 (x.toNat:Int),.string s,.int .i64 s.size,.slice (some ⟨w.heap.size,0,none⟩) 0 s.size,.string s,.func (.func 181) #[] #[.pointer (some ⟨w1.heap.size+1,0,none⟩)],.int .u8 (x.toNat:Int),undef,undef,undef,undef,undef,undef,undef,undef],defers:=[]}) ?assign ?body ?done ?stop
 case assign=>
  intro l x W K p
  gi_wp2
  exact p
 case body=>
  rintro l pre x W ⟨⟨v,A,a,_⟩,j,n⟩ S;have hc:=A.cell;have O:=ANQ x;have H:=n.size
  gi_wp2_with (gi_at_builtin;refine wpListIn_append_own _ rfl _ _ 23 rfl w.heap.size 5 i0 (.int .u8 0) 1 1 underlying23 hi u y z rfl dC _ _ _ rfl (a.alloc _) ⟨W.heap.size,0,none⟩ 1 1 [.int .u8 ((Lz.clip x).toNat:Int)] rfl rfl (cell_one_new _ _ _) (by simp[Value.oneCell']) (by unfold maxLen;omega) oG (by simp;omega) ?_;intro v' w2 f b _;obtain⟨N,m,rfl⟩:=ownsRow_succ f;let⟨t,I,G,F,E⟩:=A.appended dC a H r f b;have Q:=t.cell;have R:=t.frozen)
  have g:=AOF (B:=w1.heap.size) (v':=.slice (some ⟨N,0,none⟩) (pre.length+1) m) j dC oG a b;exact⟨F.from _,g.trans j.symm,⟨_,I,by rw[Bc,EL,EL];exact G,A0⟩,g,n.trans E⟩
 case done=>
  rintro D U W P rfl ⟨⟨v,A,a,_⟩,j,n⟩ p;have hc:=A.cell;have T:=Uu (P:=prog) a underlying23 underlying5 underlying9;have hl:s.data.toList.length=s.size:=sP;have L:=Lib.hid hl
  gi_wp2_with (refine⟨A0,?_⟩;gi_at_call 180;refine(Kq (AS4 _ _ (by rw[Ek,C6,L.out];unfold maxLen;omega))).mono ?_;rintro e w3 ⟨rfl,i⟩)
  rw[World.size_alloc,World.size_alloc]at P;have o:=(Jz.1 p).1;refine⟨sP,.inl ⟨_,_,rfl,run_takeDeferred ((i.block D o).trans p),?_⟩⟩;exact⟨_,results_tmp rfl _ _ _,by rw[H6];rfl,(n.trans (i.mono n.size)).trans (belowK_b (w:=w) (AZ _) _ D _ _ oG ((i.block D o).trans p) rfl rfl)⟩
 case stop=>
  rintro D c pre W _ _ h _;exact h.elim
theorem NB(s)(a:s.size<=1000000)(w):
 Calls prog 128 #[.string s] w λe b=>e=.returned (.string (str (Lz.norm s.data.toList)))/\Below w.heap.size w b:=callsIn_wide.1 (AUg s a w)
end Go.Proofs.YtomehhepbeiinaaGreatDoor
