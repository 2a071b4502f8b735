/- The statements' examples of chapter 14 hold. Condition: the formulas' lengths. -/
import Derived.Test.YtnnnnlnnohdidaaGuard7
namespace Go.Proofs.Ytnnnnlnnohdidaa
open Go.RowKit Go.Shelf

attribute [local go_sem high] eql_label neq_label
def impF (f g : List UInt8) : Bool := (List.range 64).all fun x => !Lz.holds (f.map Lz.clip) (UInt8.ofNat x) || Lz.holds (g.map Lz.clip) (UInt8.ofNat x)
theorem imp_eq (f g : List UInt8) : Lz.implies f g = impF f g := by unfold Lz.implies impF; simp only [Lz.sat_eq]
theorem fl_eq (a b : Lz.Lab) : Lz.fl a b = (impF b.1 a.1 && impF a.2 b.2) := by unfold Lz.fl; rw [imp_eq, imp_eq]
theorem fb_eq (a b : Lz.Lab) (p : UInt8) : Lz.fb a b p = (impF (Lz.and b.1 (Lz.ofP p)) a.1 && impF (Lz.and a.2 (Lz.ofP p)) b.2) := by unfold Lz.fb; rw [imp_eq, imp_eq]
instance : DecidableEq Lz.St := fun a b => if h : a.cur = b.cur ∧ a.clr = b.clr then isTrue (by cases a; cases b; simp_all) else isFalse (by rintro rfl; exact h ⟨rfl, rfl⟩)
theorem fourS {W : World} {B : Nat} {t : TypeId} {a b c d : Value} (h : Box4 W B t a b c d) : W.cell? ⟨B, 0, none⟩ = some a ∧ W.cell? ⟨B, 1, none⟩ = some b ∧ W.cell? ⟨B, 2, none⟩ = some c ∧ W.cell? ⟨B, 3, none⟩ = some d := ⟨h.cell0, h.cell1, h.cell2, h.cell3⟩
theorem keepS {W V : World} {B : Nat} {a b c d : Value} (h : W.cell? ⟨B, 0, none⟩ = some a ∧ W.cell? ⟨B, 1, none⟩ = some b ∧ W.cell? ⟨B, 2, none⟩ = some c ∧ W.cell? ⟨B, 3, none⟩ = some d) (hb : Below W.heap.size W V) :
    V.cell? ⟨B, 0, none⟩ = some a ∧ V.cell? ⟨B, 1, none⟩ = some b ∧ V.cell? ⟨B, 2, none⟩ = some c ∧ V.cell? ⟨B, 3, none⟩ = some d := by
  have e := hb.block B (block_lt_of_cell h.1)
  unfold World.cell? at h ⊢
  simp only [e]
  exact h
theorem keepA {W : World} {B : Nat} {a b c d : Value} (h : W.cell? ⟨B, 0, none⟩ = some a ∧ W.cell? ⟨B, 1, none⟩ = some b ∧ W.cell? ⟨B, 2, none⟩ = some c ∧ W.cell? ⟨B, 3, none⟩ = some d) (o : Obj) :
    (W.alloc o).cell? ⟨B, 0, none⟩ = some a ∧ (W.alloc o).cell? ⟨B, 1, none⟩ = some b ∧ (W.alloc o).cell? ⟨B, 2, none⟩ = some c ∧ (W.alloc o).cell? ⟨B, 3, none⟩ = some d := keepS h ((Below.refl _ W).alloc (Nat.le_refl _) o)
theorem keepZ {W : World} {B k : Nat} {a b c d q0 q1 q2 q3 : Value} (hne : B ≠ k) (h : W.cell? ⟨B, 0, none⟩ = some a ∧ W.cell? ⟨B, 1, none⟩ = some b ∧ W.cell? ⟨B, 2, none⟩ = some c ∧ W.cell? ⟨B, 3, none⟩ = some d) :
    ((((W.setCell ⟨k, 0, none⟩ q0).setCell ⟨k, 1, none⟩ q1).setCell ⟨k, 2, none⟩ q2).setCell ⟨k, 3, none⟩ q3).cell? ⟨B, 0, none⟩ = some a ∧ ((((W.setCell ⟨k, 0, none⟩ q0).setCell ⟨k, 1, none⟩ q1).setCell ⟨k, 2, none⟩ q2).setCell ⟨k, 3, none⟩ q3).cell? ⟨B, 1, none⟩ = some b ∧ ((((W.setCell ⟨k, 0, none⟩ q0).setCell ⟨k, 1, none⟩ q1).setCell ⟨k, 2, none⟩ q2).setCell ⟨k, 3, none⟩ q3).cell? ⟨B, 2, none⟩ = some c ∧ ((((W.setCell ⟨k, 0, none⟩ q0).setCell ⟨k, 1, none⟩ q1).setCell ⟨k, 2, none⟩ q2).setCell ⟨k, 3, none⟩ q3).cell? ⟨B, 3, none⟩ = some d :=
  ⟨set4 hne h.1, set4 hne h.2.1, set4 hne h.2.2.1, set4 hne h.2.2.2⟩
theorem zNew {U V : World} (hb : Below (U.alloc (.cells #[.string ⟨#[]⟩, .string ⟨#[]⟩, .string ⟨#[]⟩, .string ⟨#[]⟩] 26)).heap.size (U.alloc (.cells #[.string ⟨#[]⟩, .string ⟨#[]⟩, .string ⟨#[]⟩, .string ⟨#[]⟩] 26)) V) : BoxZ V U.heap.size := (Box4.new U _ _ _ _ _).below hb (Box4.new U _ _ _ _ _).lt
theorem zNewD {U V : World} (hb : Below ((U.alloc (.cells #[.string ⟨#[]⟩, .string ⟨#[]⟩, .string ⟨#[]⟩, .string ⟨#[]⟩] 26)).drew).heap.size (U.alloc (.cells #[.string ⟨#[]⟩, .string ⟨#[]⟩, .string ⟨#[]⟩, .string ⟨#[]⟩] 26)).drew V) : BoxZ V U.heap.size := (Box4.new U _ _ _ _ _).below ⟨hb.os, hb.tape, hb.output, hb.size, hb.block⟩ (Box4.new U _ _ _ _ _).lt
theorem zOld {W V : World} {B : Nat} (h : BoxZ W B) (hb : Below W.heap.size W V) : BoxZ V B := h.below hb h.lt
theorem okc {a : Lz.Lab} (h : a.1.length ≤ 10 ∧ a.2.length ≤ 10) : okL a := ⟨Nat.le_trans h.1 (by decide), Nat.le_trans h.2 (by decide)⟩

theorem exv_1 : Lz.upS ⟨([], []), ([1, 2], [])⟩ ([1], []) = (⟨([1], []), ([1, 2], [])⟩, 0) := by unfold Lz.upS; simp only [fl_eq, fb_eq]; decide +kernel
theorem ex_1 (W : World) : Calls Try.prog 14 #[.agg #[.string ⟨#[]⟩, .string ⟨#[]⟩, .string ⟨#[1, 2]⟩, .string ⟨#[]⟩], .agg #[.string ⟨#[1]⟩, .string ⟨#[]⟩]] W fun e w' => e = .returned (.tuple #[.agg #[.string ⟨#[1]⟩, .string ⟨#[]⟩, .string ⟨#[1, 2]⟩, .string ⟨#[]⟩], .int .i64 (0)]) ∧ Below W.heap.size W w' := by
  have := up_p ⟨([], []), ([1, 2], [])⟩ ([1], []) ⟨okc (by decide), okc (by decide)⟩ (okc (by decide)) W
  rw [exv_1] at this
  exact this
theorem exv_2 : Lz.upS ⟨([], []), ([1, 2], [])⟩ ([0], []) = (⟨([], []), ([1, 2], [])⟩, -4) := by unfold Lz.upS; simp only [fl_eq, fb_eq]; decide +kernel
theorem ex_2 (W : World) : Calls Try.prog 14 #[.agg #[.string ⟨#[]⟩, .string ⟨#[]⟩, .string ⟨#[1, 2]⟩, .string ⟨#[]⟩], .agg #[.string ⟨#[0]⟩, .string ⟨#[]⟩]] W fun e w' => e = .returned (.tuple #[.agg #[.string ⟨#[]⟩, .string ⟨#[]⟩, .string ⟨#[1, 2]⟩, .string ⟨#[]⟩], .int .i64 (-4)]) ∧ Below W.heap.size W w' := by
  have := up_p ⟨([], []), ([1, 2], [])⟩ ([0], []) ⟨okc (by decide), okc (by decide)⟩ (okc (by decide)) W
  rw [exv_2] at this
  exact this
theorem exv_3 : Lz.boS ⟨([1], []), ([1, 2], [])⟩ ([1, 2], []) = (⟨([1, 2], []), ([1, 2], [])⟩, 0) := by unfold Lz.boS Lz.wrS; simp only [fl_eq, fb_eq]; decide +kernel
theorem ex_3 (W : World) : Calls Try.prog 16 #[.agg #[.string ⟨#[1]⟩, .string ⟨#[]⟩, .string ⟨#[1, 2]⟩, .string ⟨#[]⟩], .agg #[.string ⟨#[1, 2]⟩, .string ⟨#[]⟩]] W fun e w' => e = .returned (.tuple #[.agg #[.string ⟨#[1, 2]⟩, .string ⟨#[]⟩, .string ⟨#[1, 2]⟩, .string ⟨#[]⟩], .int .i64 (0)]) ∧ Below W.heap.size W w' := by
  have := bo_p ⟨([1], []), ([1, 2], [])⟩ ([1, 2], []) ⟨okc (by decide), okc (by decide)⟩ (okc (by decide)) W
  rw [exv_3] at this
  exact this
theorem exv_4 : Lz.drS ⟨([1], []), ([1, 2], [])⟩ ([], []) 1 = (⟨([], []), ([1, 2], [])⟩, 0, true) := by unfold Lz.drS; simp only [fl_eq, fb_eq]; decide +kernel
theorem ex_4 (W : World) : Calls Try.prog 18 #[.agg #[.string ⟨#[1]⟩, .string ⟨#[]⟩, .string ⟨#[1, 2]⟩, .string ⟨#[]⟩], .agg #[.string ⟨#[]⟩, .string ⟨#[]⟩], .int .u8 1] W fun e w' => e = .returned (.tuple #[.agg #[.string ⟨#[]⟩, .string ⟨#[]⟩, .string ⟨#[1, 2]⟩, .string ⟨#[]⟩], .int .i64 (0), .bool true]) ∧ Below W.heap.size W w' := by
  have := drG_p ⟨([1], []), ([1, 2], [])⟩ ([], []) 1 1 rfl ⟨okc (by decide), okc (by decide)⟩ (okc (by decide)) W
  rw [exv_4] at this
  exact this
theorem exv_5 : Lz.drS ⟨([1], []), ([1, 2], [])⟩ ([], []) 2 = (⟨([1], []), ([1, 2], [])⟩, -3, false) := by unfold Lz.drS; simp only [fl_eq, fb_eq]; decide +kernel
theorem ex_5 (W : World) : Calls Try.prog 18 #[.agg #[.string ⟨#[1]⟩, .string ⟨#[]⟩, .string ⟨#[1, 2]⟩, .string ⟨#[]⟩], .agg #[.string ⟨#[]⟩, .string ⟨#[]⟩], .int .u8 2] W fun e w' => e = .returned (.tuple #[.agg #[.string ⟨#[1]⟩, .string ⟨#[]⟩, .string ⟨#[1, 2]⟩, .string ⟨#[]⟩], .int .i64 (-3), .bool false]) ∧ Below W.heap.size W w' := by
  have := drG_p ⟨([1], []), ([1, 2], [])⟩ ([], []) 2 2 rfl ⟨okc (by decide), okc (by decide)⟩ (okc (by decide)) W
  rw [exv_5] at this
  exact this
theorem exv_6 : Lz.liS ⟨([], []), ([1, 2], [])⟩ ([1, 2, 4], []) 4 = (⟨([], []), ([1, 2, 4], [])⟩, 0, true) := by unfold Lz.liS; simp only [fl_eq, fb_eq]; decide +kernel
theorem ex_6 (W : World) : Calls Try.prog 19 #[.agg #[.string ⟨#[]⟩, .string ⟨#[]⟩, .string ⟨#[1, 2]⟩, .string ⟨#[]⟩], .agg #[.string ⟨#[1, 2, 4]⟩, .string ⟨#[]⟩], .int .u8 4] W fun e w' => e = .returned (.tuple #[.agg #[.string ⟨#[]⟩, .string ⟨#[]⟩, .string ⟨#[1, 2, 4]⟩, .string ⟨#[]⟩], .int .i64 (0), .bool true]) ∧ Below W.heap.size W w' := by
  have := liG_p ⟨([], []), ([1, 2], [])⟩ ([1, 2, 4], []) 4 4 rfl ⟨okc (by decide), okc (by decide)⟩ (okc (by decide)) W
  rw [exv_6] at this
  exact this
theorem exv_7 : Lz.loS ⟨([], []), ([1, 2], [])⟩ ([1], []) = (⟨([], []), ([1], [])⟩, 0) := by unfold Lz.loS; simp only [fl_eq, fb_eq]; decide +kernel
theorem ex_7 (W : World) : Calls Try.prog 23 #[.agg #[.string ⟨#[]⟩, .string ⟨#[]⟩, .string ⟨#[1, 2]⟩, .string ⟨#[]⟩], .agg #[.string ⟨#[1]⟩, .string ⟨#[]⟩]] W fun e w' => e = .returned (.tuple #[.agg #[.string ⟨#[]⟩, .string ⟨#[]⟩, .string ⟨#[1]⟩, .string ⟨#[]⟩], .int .i64 (0)]) ∧ Below W.heap.size W w' := by
  have := lo_p ⟨([], []), ([1, 2], [])⟩ ([1], []) ⟨okc (by decide), okc (by decide)⟩ (okc (by decide)) W
  rw [exv_7] at this
  exact this
theorem exv_8 : Lz.wrS ⟨([1], []), ([1, 2], [])⟩ ([2], []) = (-3 : Int) := by unfold Lz.wrS; simp only [fl_eq, fb_eq]; decide +kernel
theorem ex_8 (W : World) : Calls Try.prog 15 #[.agg #[.string ⟨#[1]⟩, .string ⟨#[]⟩, .string ⟨#[1, 2]⟩, .string ⟨#[]⟩], .agg #[.string ⟨#[2]⟩, .string ⟨#[]⟩]] W fun e w' => e = .returned (.int .i64 (-3)) ∧ Below W.heap.size W w' := by
  have := wr_p ⟨([1], []), ([1, 2], [])⟩ ([2], []) ⟨okc (by decide), okc (by decide)⟩ (okc (by decide)) W
  rw [exv_8] at this
  exact this
theorem exv_9 : Lz.wrS ⟨([1], []), ([1, 2], [])⟩ ([1], []) = (0 : Int) := by unfold Lz.wrS; simp only [fl_eq, fb_eq]; decide +kernel
theorem ex_9 (W : World) : Calls Try.prog 15 #[.agg #[.string ⟨#[1]⟩, .string ⟨#[]⟩, .string ⟨#[1, 2]⟩, .string ⟨#[]⟩], .agg #[.string ⟨#[1]⟩, .string ⟨#[]⟩]] W fun e w' => e = .returned (.int .i64 (0)) ∧ Below W.heap.size W w' := by
  have := wr_p ⟨([1], []), ([1, 2], [])⟩ ([1], []) ⟨okc (by decide), okc (by decide)⟩ (okc (by decide)) W
  rw [exv_9] at this
  exact this
theorem exv_10 : Lz.rightS ⟨([], []), ([1, 2], [])⟩ := ⟨by unfold Lz.rightL; decide +kernel, by unfold Lz.rightL; decide +kernel, Lz.fl_iff.1 (by rw [fl_eq]; decide +kernel)⟩
theorem ex_10 (W : World) : Calls Try.prog 12 #[.agg #[.string ⟨#[]⟩, .string ⟨#[]⟩, .string ⟨#[1, 2]⟩, .string ⟨#[]⟩]] W fun e w' => e = .returned (.bool true) ∧ Below W.heap.size W w' := rtS_p ⟨([], []), ([1, 2], [])⟩ ⟨okc (by decide), okc (by decide)⟩ exv_10 W
set_option maxRecDepth 100000 in
set_option maxHeartbeats 1000000 in
theorem high_p (W : World) : Calls Try.prog 22 #[] W fun e w' => e = .returned (.agg #[.string ⟨#[0]⟩, .string ⟨#[]⟩]) ∧ Below W.heap.size W w' := by
  go_enter Try.func22, Try.ntmps22
  go_wp2
  refine bodyPost_ret (v := .agg #[.string ⟨#[0]⟩, .string ⟨#[]⟩]) ?_ rfl ⟨rfl, (Below.refl _ W).alloc (Nat.le_refl _) _⟩
  have bR := Box2.new W 24 (.string ⟨#[0]⟩) (.string ⟨#[]⟩)
  have e0 := bR.cell0
  have e1 := bR.cell1
  simp [results, Try.f22, go_sem, e0, e1]

set_option maxRecDepth 100000 in
set_option maxHeartbeats 4000000 in
theorem examples_p (w : World) : Calls Try.prog 8 #[] w fun e w' => e = .returned (.bool true) ∧ Below w.heap.size w w' := by
  have mixed := mixedOrders
  have A0 : Box2 (((w.alloc (.cells #[.string ⟨#[1]⟩, .string ⟨#[]⟩] 24)).alloc (.cells #[.string ⟨#[2]⟩, .string ⟨#[]⟩] 24)).alloc (.cells #[.string ⟨#[]⟩, .string ⟨#[]⟩, .string ⟨#[1, 2]⟩, .string ⟨#[]⟩] 26)) w.heap.size 24 (.string ⟨#[1]⟩) (.string ⟨#[]⟩) := ((Box2.new w _ _ _).alloc _).alloc _
  have B0 : Box2 (((w.alloc (.cells #[.string ⟨#[1]⟩, .string ⟨#[]⟩] 24)).alloc (.cells #[.string ⟨#[2]⟩, .string ⟨#[]⟩] 24)).alloc (.cells #[.string ⟨#[]⟩, .string ⟨#[]⟩, .string ⟨#[1, 2]⟩, .string ⟨#[]⟩] 26)) (w.heap.size + 1) 24 (.string ⟨#[2]⟩) (.string ⟨#[]⟩) := by
    have := (Box2.new (w.alloc (.cells #[.string ⟨#[1]⟩, .string ⟨#[]⟩] 24)) 24 (.string ⟨#[2]⟩) (.string ⟨#[]⟩)).alloc (.cells #[.string ⟨#[]⟩, .string ⟨#[]⟩, .string ⟨#[1, 2]⟩, .string ⟨#[]⟩] 26)
    rw [World.size_alloc] at this
    exact this
  have S0 : Box4 (((w.alloc (.cells #[.string ⟨#[1]⟩, .string ⟨#[]⟩] 24)).alloc (.cells #[.string ⟨#[2]⟩, .string ⟨#[]⟩] 24)).alloc (.cells #[.string ⟨#[]⟩, .string ⟨#[]⟩, .string ⟨#[1, 2]⟩, .string ⟨#[]⟩] 26)) (w.heap.size + 1 + 1) 26 (.string ⟨#[]⟩) (.string ⟨#[]⟩) (.string ⟨#[1, 2]⟩) (.string ⟨#[]⟩) := by
    have := Box4.new ((w.alloc (.cells #[.string ⟨#[1]⟩, .string ⟨#[]⟩] 24)).alloc (.cells #[.string ⟨#[2]⟩, .string ⟨#[]⟩] 24)) 26 (.string ⟨#[]⟩) (.string ⟨#[]⟩) (.string ⟨#[1, 2]⟩) (.string ⟨#[]⟩)
    simp only [World.size_alloc] at this
    exact this
  have hB0 : Below w.heap.size w (((w.alloc (.cells #[.string ⟨#[1]⟩, .string ⟨#[]⟩] 24)).alloc (.cells #[.string ⟨#[2]⟩, .string ⟨#[]⟩] 24)).alloc (.cells #[.string ⟨#[]⟩, .string ⟨#[]⟩, .string ⟨#[1, 2]⟩, .string ⟨#[]⟩] 26)) := (((Below.refl _ w).alloc (Nat.le_refl _) _).alloc (by simp) _).alloc (by simp; omega) _
  have qA0 := A0.cell0
  have qA1 := A0.cell1
  have qB0 := B0.cell0
  have qB1 := B0.cell1
  have qS0 := S0.cell0
  have qS1 := S0.cell1
  have qS2 := S0.cell2
  have qS3 := S0.cell3
  go_enter Try.func8, Try.ntmps8
  go_wp2_with fail
  generalize (((w.alloc (.cells #[.string ⟨#[1]⟩, .string ⟨#[]⟩] 24)).alloc (.cells #[.string ⟨#[2]⟩, .string ⟨#[]⟩] 24)).alloc (.cells #[.string ⟨#[]⟩, .string ⟨#[]⟩, .string ⟨#[1, 2]⟩, .string ⟨#[]⟩] 26)) = w0 at *

  refine (ex_1 _).mono ?_
  rintro e w1 ⟨rfl, hb1⟩
  clear qA0 qA1 qB0 qB1 qS0 qS1 qS2 qS3
  have A_w1 := A0.below hb1 A0.lt
  have B_w1 := B0.below hb1 B0.lt
  have S_w1 := S0.below hb1 S0.lt
  have hw1 := hB0.trans (hb1.mono hB0.size)
  have A_w1a := A_w1.alloc (.cells #[.string ⟨#[1]⟩, .string ⟨#[]⟩, .string ⟨#[1, 2]⟩, .string ⟨#[]⟩] 26)
  have B_w1a := B_w1.alloc (.cells #[.string ⟨#[1]⟩, .string ⟨#[]⟩, .string ⟨#[1, 2]⟩, .string ⟨#[]⟩] 26)
  have S_w1a := S_w1.alloc (.cells #[.string ⟨#[1]⟩, .string ⟨#[]⟩, .string ⟨#[1, 2]⟩, .string ⟨#[]⟩] 26)
  have T_w1a := Box4.new w1 26 (.string ⟨#[1]⟩) (.string ⟨#[]⟩) (.string ⟨#[1, 2]⟩) (.string ⟨#[]⟩)
  have hw1a := hw1.alloc hw1.size (.cells #[.string ⟨#[1]⟩, .string ⟨#[]⟩, .string ⟨#[1, 2]⟩, .string ⟨#[]⟩] 26)
  have qA0 := A_w1a.cell0
  have qA1 := A_w1a.cell1
  have qB0 := B_w1a.cell0
  have qB1 := B_w1a.cell1
  have qS0 := S_w1a.cell0
  have qS1 := S_w1a.cell1
  have qS2 := S_w1a.cell2
  have qS3 := S_w1a.cell3
  have qT0 := T_w1a.cell0
  have qT1 := T_w1a.cell1
  have qT2 := T_w1a.cell2
  have qT3 := T_w1a.cell3
  go_wp2_with fail
  have aT := T_w1a.lt
  generalize hx : (w1.alloc (.cells #[.string ⟨#[1]⟩, .string ⟨#[]⟩, .string ⟨#[1, 2]⟩, .string ⟨#[]⟩] 26)) = x1 at *
  clear qA0 qA1 qB0 qB1 qS0 qS1 qS2 qS3 qT0 qT1 qT2 qT3
  have A_d : Box2 x1.drew w.heap.size 24 (.string ⟨#[1]⟩) (.string ⟨#[]⟩) := A_w1a
  have B_d : Box2 x1.drew (w.heap.size + 1) 24 (.string ⟨#[2]⟩) (.string ⟨#[]⟩) := B_w1a
  have S_d : Box4 x1.drew (w.heap.size + 1 + 1) 26 (.string ⟨#[]⟩) (.string ⟨#[]⟩) (.string ⟨#[1, 2]⟩) (.string ⟨#[]⟩) := S_w1a
  have T_d : Box4 x1.drew w1.heap.size 26 (.string ⟨#[1]⟩) (.string ⟨#[]⟩) (.string ⟨#[1, 2]⟩) (.string ⟨#[]⟩) := T_w1a
  have h1d := drewB hw1a
  clear hx
  have c4 := fourS S_d
  have ltS := S_d.lt
  have c5 : (x1.alloc (.cells #[.string ⟨#[]⟩, .string ⟨#[]⟩, .string ⟨#[]⟩, .string ⟨#[]⟩] 26)).drew.cell? ⟨w.heap.size + 1 + 1, 0, none⟩ = some (.string ⟨#[]⟩) ∧ (x1.alloc (.cells #[.string ⟨#[]⟩, .string ⟨#[]⟩, .string ⟨#[]⟩, .string ⟨#[]⟩] 26)).drew.cell? ⟨w.heap.size + 1 + 1, 1, none⟩ = some (.string ⟨#[]⟩) ∧ (x1.alloc (.cells #[.string ⟨#[]⟩, .string ⟨#[]⟩, .string ⟨#[]⟩, .string ⟨#[]⟩] 26)).drew.cell? ⟨w.heap.size + 1 + 1, 2, none⟩ = some (.string ⟨#[1, 2]⟩) ∧ (x1.alloc (.cells #[.string ⟨#[]⟩, .string ⟨#[]⟩, .string ⟨#[]⟩, .string ⟨#[]⟩] 26)).drew.cell? ⟨w.heap.size + 1 + 1, 3, none⟩ = some (.string ⟨#[]⟩) := keepA c4 _
  have ltS' : w.heap.size + 1 + 1 < x1.heap.size := ltS
  refine Code.wp_mono (Q := fun e a' wf => e = Exit.normal ∧ ∃ v6, a' = { tmps := #[Value.bool false, Value.pointer (some { block := w.heap.size, off := 0 }), Value.pointer (some { block := w.heap.size + 1, off := 0 }), Value.pointer (some { block := w.heap.size + 1 + 1, off := 0 }), Value.pointer (some { block := w1.heap.size, off := 0 }), Value.int IntKind.i64 0, v6, Value.int IntKind.i64 (-4), undef, undef, undef, undef, undef, undef, undef, undef, undef, undef, undef, undef, undef, Value.agg #[Value.string { data := #[1] }, Value.string { data := #[] }], Value.agg #[Value.string { data := #[2] }, Value.string { data := #[] }], Value.agg #[Value.string { data := #[1, 2] }, Value.string { data := #[] }], Value.agg #[Value.string { data := #[] }, Value.string { data := #[] }, Value.string { data := #[1, 2] }, Value.string { data := #[] }], Value.tuple #[Value.agg #[Value.string { data := #[1] }, Value.string { data := #[] }, Value.string { data := #[1, 2] }, Value.string { data := #[] }], Value.int IntKind.i64 0], Value.agg #[Value.string { data := #[] }, Value.string { data := #[] }, Value.string { data := #[1, 2] }, Value.string { data := #[] }], Value.agg #[Value.string { data := #[1] }, Value.string { data := #[] }], Value.tuple #[Value.agg #[Value.string { data := #[1] }, Value.string { data := #[] }, Value.string { data := #[1, 2] }, Value.string { data := #[] }], Value.int IntKind.i64 0], Value.agg #[Value.string { data := #[1] }, Value.string { data := #[] }, Value.string { data := #[1, 2] }, Value.string { data := #[] }], Value.int IntKind.i64 0, Value.tuple #[Value.agg #[Value.string { data := #[] }, Value.string { data := #[] }, Value.string { data := #[1, 2] }, Value.string { data := #[] }], Value.int IntKind.i64 (-4)], Value.agg #[Value.string { data := #[] }, Value.string { data := #[] }, Value.string { data := #[1, 2] }, Value.string { data := #[] }], Value.agg #[Value.string { data := #[0] }, Value.string { data := #[] }], Value.tuple #[Value.agg #[Value.string { data := #[] }, Value.string { data := #[] }, Value.string { data := #[1, 2] }, Value.string { data := #[] }], Value.int IntKind.i64 (-4)], Value.agg #[Value.string { data := #[] }, Value.string { data := #[] }, Value.string { data := #[1, 2] }, Value.string { data := #[] }], Value.int IntKind.i64 (-4), undef, undef, undef, undef, undef, undef, undef, undef, undef, undef, undef, undef, undef, undef, undef, undef, undef, undef, undef, undef, undef, undef, undef, undef, undef, undef, undef, undef, undef, undef, undef, undef, undef, undef, undef, undef, undef, undef, undef, undef, undef, undef, undef, undef, undef, undef, undef, undef, undef, undef, undef, undef, undef, undef, undef, undef, undef, undef, undef, undef, undef, undef, undef, undef, undef, undef, undef, undef, undef, undef, undef, undef, undef, undef, undef, undef, undef, undef, undef, undef, undef, undef, undef, undef, undef, undef, undef, undef, undef, undef, undef, undef, undef, undef, undef, undef, undef, undef, undef, undef, undef, undef, undef, undef, undef, undef, undef, undef, undef, undef, undef, undef], defers := [] } ∧ Below x1.drew.heap.size x1.drew wf) (fun e a' wf hq => ?_) ?_
  rotate_left
  focus
   go_region_held3 (fun w' => w'.cell? ⟨w.heap.size + 1 + 1, 0, none⟩ = some (.string ⟨#[]⟩) ∧ w'.cell? ⟨w.heap.size + 1 + 1, 1, none⟩ = some (.string ⟨#[]⟩) ∧ w'.cell? ⟨w.heap.size + 1 + 1, 2, none⟩ = some (.string ⟨#[1, 2]⟩) ∧ w'.cell? ⟨w.heap.size + 1 + 1, 3, none⟩ = some (.string ⟨#[]⟩)) (first | with_reducible exact c4 | with_reducible_and_instances exact c5 | with_reducible_and_instances exact keepS (by assumption) (by assumption) | with_reducible_and_instances exact keepA (by assumption) _ | with_reducible_and_instances exact keepA (keepS (keepS c4 hb2) hb3) _ | with_reducible_and_instances exact keepZ (Nat.ne_of_lt (Nat.lt_of_lt_of_le ltS hb2.size)) (keepS (keepA (keepS c4 hb2) _) hb3) | with_reducible_and_instances exact keepZ (Nat.ne_of_lt ltS') (keepS (keepS c5 hb2) hb3))
    (first
      | (go_at_call 22; refine (high_p _).mono ?_; rintro e w2 ⟨rfl, hb2⟩; try (with_reducible_and_instances have Z2 := zNewD hb2); try (with_reducible have lt2 := Nat.lt_of_lt_of_le ltS hb2.size))
      | (go_at_call 14; refine (ex_2 _).mono ?_; rintro e w3 ⟨rfl, hb3⟩; (first | (with_reducible_and_instances have Z3 := zOld Z2 hb3) | (with_reducible_and_instances have Z3 := zNew hb3) | skip); try (have z0 := Z3.cell0); try (have z1 := Z3.cell1); try (have z2 := Z3.cell2); try (have z3 := Z3.cell3); try (have f0 := Z3.frozen 0); try (have f1 := Z3.frozen 1); try (have f2 := Z3.frozen 2); try (have f3 := Z3.frozen 3)))

   · have k3 := hb2.trans (hb3.mono hb2.size)
     exact ⟨rfl, _, rfl, k3.alloc k3.size _⟩
   · have ka := hb2.alloc hb2.size (.cells #[.string ⟨#[]⟩, .string ⟨#[]⟩, .string ⟨#[]⟩, .string ⟨#[]⟩] 26)
     have k3 := ka.trans (hb3.mono ka.size)
     exact ⟨rfl, _, rfl, below4 k3 hb2.size _ _ _ _⟩
   · have ka : Below x1.drew.heap.size x1.drew ((x1.alloc (.cells #[.string ⟨#[]⟩, .string ⟨#[]⟩, .string ⟨#[]⟩, .string ⟨#[]⟩] 26)).drew) := (Below.refl x1.drew.heap.size x1.drew).alloc (Nat.le_refl _) (.cells #[.string ⟨#[]⟩, .string ⟨#[]⟩, .string ⟨#[]⟩, .string ⟨#[]⟩] 26)
     have k2 := ka.trans (hb2.mono ka.size)
     have k3 := k2.trans (hb3.mono k2.size)
     exact ⟨rfl, _, rfl, below4 (k := x1.heap.size) k3 (Nat.le_refl x1.heap.size) _ _ _ _⟩
  obtain ⟨rfl, v6, rfl, hk⟩ := hq
  have A_f := A_d.below hk A_d.lt
  have B_f := B_d.below hk B_d.lt
  have S_f := S_d.below hk S_d.lt
  have T_f := T_d.below hk T_d.lt
  have hf := h1d.trans (hk.mono h1d.size)
  clear c4 c5
  have qA0 := A_f.cell0
  have qA1 := A_f.cell1
  have qB0 := B_f.cell0
  have qB1 := B_f.cell1
  have qS0 := S_f.cell0
  have qS1 := S_f.cell1
  have qS2 := S_f.cell2
  have qS3 := S_f.cell3
  have qT0 := T_f.cell0
  have qT1 := T_f.cell1
  have qT2 := T_f.cell2
  have qT3 := T_f.cell3
  go_wp2_with fail
  refine (ex_3 _).mono ?_
  rintro e w4 ⟨rfl, hb4⟩
  clear qA0 qA1 qB0 qB1 qS0 qS1 qS2 qS3 qT0 qT1 qT2 qT3
  have A_w4 := A_f.below hb4 A_f.lt
  have B_w4 := B_f.below hb4 B_f.lt
  have S_w4 := S_f.below hb4 S_f.lt
  have T_w4 := T_f.below hb4 T_f.lt
  have hw4 := hf.trans (hb4.mono hf.size)
  have A_w4a := A_w4.alloc (.cells #[.string ⟨#[1, 2]⟩, .string ⟨#[]⟩, .string ⟨#[1, 2]⟩, .string ⟨#[]⟩] 26)
  have B_w4a := B_w4.alloc (.cells #[.string ⟨#[1, 2]⟩, .string ⟨#[]⟩, .string ⟨#[1, 2]⟩, .string ⟨#[]⟩] 26)
  have S_w4a := S_w4.alloc (.cells #[.string ⟨#[1, 2]⟩, .string ⟨#[]⟩, .string ⟨#[1, 2]⟩, .string ⟨#[]⟩] 26)
  have T_w4a := T_w4.alloc (.cells #[.string ⟨#[1, 2]⟩, .string ⟨#[]⟩, .string ⟨#[1, 2]⟩, .string ⟨#[]⟩] 26)
  have U_w4a := Box4.new w4 26 (.string ⟨#[1, 2]⟩) (.string ⟨#[]⟩) (.string ⟨#[1, 2]⟩) (.string ⟨#[]⟩)
  have hw4a := hw4.alloc hw4.size (.cells #[.string ⟨#[1, 2]⟩, .string ⟨#[]⟩, .string ⟨#[1, 2]⟩, .string ⟨#[]⟩] 26)
  have qA0 := A_w4a.cell0
  have qA1 := A_w4a.cell1
  have qB0 := B_w4a.cell0
  have qB1 := B_w4a.cell1
  have qS0 := S_w4a.cell0
  have qS1 := S_w4a.cell1
  have qS2 := S_w4a.cell2
  have qS3 := S_w4a.cell3
  have qT0 := T_w4a.cell0
  have qT1 := T_w4a.cell1
  have qT2 := T_w4a.cell2
  have qT3 := T_w4a.cell3
  have qU0 := U_w4a.cell0
  have qU1 := U_w4a.cell1
  have qU2 := U_w4a.cell2
  have qU3 := U_w4a.cell3
  go_wp2_with fail
  refine (ex_4 _).mono ?_
  rintro e w5 ⟨rfl, hb5⟩
  clear qA0 qA1 qB0 qB1 qS0 qS1 qS2 qS3 qT0 qT1 qT2 qT3 qU0 qU1 qU2 qU3
  have A_w5 := A_w4a.below hb5 A_w4a.lt
  have B_w5 := B_w4a.below hb5 B_w4a.lt
  have S_w5 := S_w4a.below hb5 S_w4a.lt
  have T_w5 := T_w4a.below hb5 T_w4a.lt
  have U_w5 := U_w4a.below hb5 U_w4a.lt
  have hw5 := hw4a.trans (hb5.mono hw4a.size)
  have A_w5a := A_w5.alloc (.cells #[.string ⟨#[]⟩, .string ⟨#[]⟩, .string ⟨#[1, 2]⟩, .string ⟨#[]⟩] 26)
  have B_w5a := B_w5.alloc (.cells #[.string ⟨#[]⟩, .string ⟨#[]⟩, .string ⟨#[1, 2]⟩, .string ⟨#[]⟩] 26)
  have S_w5a := S_w5.alloc (.cells #[.string ⟨#[]⟩, .string ⟨#[]⟩, .string ⟨#[1, 2]⟩, .string ⟨#[]⟩] 26)
  have T_w5a := T_w5.alloc (.cells #[.string ⟨#[]⟩, .string ⟨#[]⟩, .string ⟨#[1, 2]⟩, .string ⟨#[]⟩] 26)
  have U_w5a := U_w5.alloc (.cells #[.string ⟨#[]⟩, .string ⟨#[]⟩, .string ⟨#[1, 2]⟩, .string ⟨#[]⟩] 26)
  have V_w5a := Box4.new w5 26 (.string ⟨#[]⟩) (.string ⟨#[]⟩) (.string ⟨#[1, 2]⟩) (.string ⟨#[]⟩)
  have hw5a := hw5.alloc hw5.size (.cells #[.string ⟨#[]⟩, .string ⟨#[]⟩, .string ⟨#[1, 2]⟩, .string ⟨#[]⟩] 26)
  have qA0 := A_w5a.cell0
  have qA1 := A_w5a.cell1
  have qB0 := B_w5a.cell0
  have qB1 := B_w5a.cell1
  have qS0 := S_w5a.cell0
  have qS1 := S_w5a.cell1
  have qS2 := S_w5a.cell2
  have qS3 := S_w5a.cell3
  have qT0 := T_w5a.cell0
  have qT1 := T_w5a.cell1
  have qT2 := T_w5a.cell2
  have qT3 := T_w5a.cell3
  have qU0 := U_w5a.cell0
  have qU1 := U_w5a.cell1
  have qU2 := U_w5a.cell2
  have qU3 := U_w5a.cell3
  have qV0 := V_w5a.cell0
  have qV1 := V_w5a.cell1
  have qV2 := V_w5a.cell2
  have qV3 := V_w5a.cell3
  go_wp2_with fail
  refine (ex_5 _).mono ?_
  rintro e w6 ⟨rfl, hb6⟩
  clear qA0 qA1 qB0 qB1 qS0 qS1 qS2 qS3 qT0 qT1 qT2 qT3 qU0 qU1 qU2 qU3 qV0 qV1 qV2 qV3
  have A_w6 := A_w5a.below hb6 A_w5a.lt
  have B_w6 := B_w5a.below hb6 B_w5a.lt
  have S_w6 := S_w5a.below hb6 S_w5a.lt
  have T_w6 := T_w5a.below hb6 T_w5a.lt
  have U_w6 := U_w5a.below hb6 U_w5a.lt
  have V_w6 := V_w5a.below hb6 V_w5a.lt
  have hw6 := hw5a.trans (hb6.mono hw5a.size)
  have A_w6a := A_w6.alloc (.cells #[.string ⟨#[1]⟩, .string ⟨#[]⟩, .string ⟨#[1, 2]⟩, .string ⟨#[]⟩] 26)
  have B_w6a := B_w6.alloc (.cells #[.string ⟨#[1]⟩, .string ⟨#[]⟩, .string ⟨#[1, 2]⟩, .string ⟨#[]⟩] 26)
  have S_w6a := S_w6.alloc (.cells #[.string ⟨#[1]⟩, .string ⟨#[]⟩, .string ⟨#[1, 2]⟩, .string ⟨#[]⟩] 26)
  have T_w6a := T_w6.alloc (.cells #[.string ⟨#[1]⟩, .string ⟨#[]⟩, .string ⟨#[1, 2]⟩, .string ⟨#[]⟩] 26)
  have U_w6a := U_w6.alloc (.cells #[.string ⟨#[1]⟩, .string ⟨#[]⟩, .string ⟨#[1, 2]⟩, .string ⟨#[]⟩] 26)
  have V_w6a := V_w6.alloc (.cells #[.string ⟨#[1]⟩, .string ⟨#[]⟩, .string ⟨#[1, 2]⟩, .string ⟨#[]⟩] 26)
  have N_w6a := Box4.new w6 26 (.string ⟨#[1]⟩) (.string ⟨#[]⟩) (.string ⟨#[1, 2]⟩) (.string ⟨#[]⟩)
  have hw6a := hw6.alloc hw6.size (.cells #[.string ⟨#[1]⟩, .string ⟨#[]⟩, .string ⟨#[1, 2]⟩, .string ⟨#[]⟩] 26)
  have qA0 := A_w6a.cell0
  have qA1 := A_w6a.cell1
  have qB0 := B_w6a.cell0
  have qB1 := B_w6a.cell1
  have qS0 := S_w6a.cell0
  have qS1 := S_w6a.cell1
  have qS2 := S_w6a.cell2
  have qS3 := S_w6a.cell3
  have qT0 := T_w6a.cell0
  have qT1 := T_w6a.cell1
  have qT2 := T_w6a.cell2
  have qT3 := T_w6a.cell3
  have qU0 := U_w6a.cell0
  have qU1 := U_w6a.cell1
  have qU2 := U_w6a.cell2
  have qU3 := U_w6a.cell3
  have qV0 := V_w6a.cell0
  have qV1 := V_w6a.cell1
  have qV2 := V_w6a.cell2
  have qV3 := V_w6a.cell3
  have qN0 := N_w6a.cell0
  have qN1 := N_w6a.cell1
  have qN2 := N_w6a.cell2
  have qN3 := N_w6a.cell3
  go_wp2_with fail
  refine (ex_6 _).mono ?_
  rintro e w7 ⟨rfl, hb7⟩
  clear qA0 qA1 qB0 qB1 qS0 qS1 qS2 qS3 qT0 qT1 qT2 qT3 qU0 qU1 qU2 qU3 qV0 qV1 qV2 qV3 qN0 qN1 qN2 qN3
  have A_w7 := A_w6a.below hb7 A_w6a.lt
  have B_w7 := B_w6a.below hb7 B_w6a.lt
  have S_w7 := S_w6a.below hb7 S_w6a.lt
  have T_w7 := T_w6a.below hb7 T_w6a.lt
  have U_w7 := U_w6a.below hb7 U_w6a.lt
  have V_w7 := V_w6a.below hb7 V_w6a.lt
  have N_w7 := N_w6a.below hb7 N_w6a.lt
  have hw7 := hw6a.trans (hb7.mono hw6a.size)
  have A_w7a := A_w7.alloc (.cells #[.string ⟨#[]⟩, .string ⟨#[]⟩, .string ⟨#[1, 2, 4]⟩, .string ⟨#[]⟩] 26)
  have B_w7a := B_w7.alloc (.cells #[.string ⟨#[]⟩, .string ⟨#[]⟩, .string ⟨#[1, 2, 4]⟩, .string ⟨#[]⟩] 26)
  have S_w7a := S_w7.alloc (.cells #[.string ⟨#[]⟩, .string ⟨#[]⟩, .string ⟨#[1, 2, 4]⟩, .string ⟨#[]⟩] 26)
  have T_w7a := T_w7.alloc (.cells #[.string ⟨#[]⟩, .string ⟨#[]⟩, .string ⟨#[1, 2, 4]⟩, .string ⟨#[]⟩] 26)
  have U_w7a := U_w7.alloc (.cells #[.string ⟨#[]⟩, .string ⟨#[]⟩, .string ⟨#[1, 2, 4]⟩, .string ⟨#[]⟩] 26)
  have V_w7a := V_w7.alloc (.cells #[.string ⟨#[]⟩, .string ⟨#[]⟩, .string ⟨#[1, 2, 4]⟩, .string ⟨#[]⟩] 26)
  have N_w7a := N_w7.alloc (.cells #[.string ⟨#[]⟩, .string ⟨#[]⟩, .string ⟨#[1, 2, 4]⟩, .string ⟨#[]⟩] 26)
  have X_w7a := Box4.new w7 26 (.string ⟨#[]⟩) (.string ⟨#[]⟩) (.string ⟨#[1, 2, 4]⟩) (.string ⟨#[]⟩)
  have hw7a := hw7.alloc hw7.size (.cells #[.string ⟨#[]⟩, .string ⟨#[]⟩, .string ⟨#[1, 2, 4]⟩, .string ⟨#[]⟩] 26)
  have qA0 := A_w7a.cell0
  have qA1 := A_w7a.cell1
  have qB0 := B_w7a.cell0
  have qB1 := B_w7a.cell1
  have qS0 := S_w7a.cell0
  have qS1 := S_w7a.cell1
  have qS2 := S_w7a.cell2
  have qS3 := S_w7a.cell3
  have qT0 := T_w7a.cell0
  have qT1 := T_w7a.cell1
  have qT2 := T_w7a.cell2
  have qT3 := T_w7a.cell3
  have qU0 := U_w7a.cell0
  have qU1 := U_w7a.cell1
  have qU2 := U_w7a.cell2
  have qU3 := U_w7a.cell3
  have qV0 := V_w7a.cell0
  have qV1 := V_w7a.cell1
  have qV2 := V_w7a.cell2
  have qV3 := V_w7a.cell3
  have qN0 := N_w7a.cell0
  have qN1 := N_w7a.cell1
  have qN2 := N_w7a.cell2
  have qN3 := N_w7a.cell3
  have qX0 := X_w7a.cell0
  have qX1 := X_w7a.cell1
  have qX2 := X_w7a.cell2
  have qX3 := X_w7a.cell3
  go_wp2_with fail
  refine (ex_7 _).mono ?_
  rintro e w8 ⟨rfl, hb8⟩
  clear qA0 qA1 qB0 qB1 qS0 qS1 qS2 qS3 qT0 qT1 qT2 qT3 qU0 qU1 qU2 qU3 qV0 qV1 qV2 qV3 qN0 qN1 qN2 qN3 qX0 qX1 qX2 qX3
  have A_w8 := A_w7a.below hb8 A_w7a.lt
  have B_w8 := B_w7a.below hb8 B_w7a.lt
  have S_w8 := S_w7a.below hb8 S_w7a.lt
  have T_w8 := T_w7a.below hb8 T_w7a.lt
  have U_w8 := U_w7a.below hb8 U_w7a.lt
  have V_w8 := V_w7a.below hb8 V_w7a.lt
  have N_w8 := N_w7a.below hb8 N_w7a.lt
  have X_w8 := X_w7a.below hb8 X_w7a.lt
  have hw8 := hw7a.trans (hb8.mono hw7a.size)
  have A_w8a := A_w8.alloc (.cells #[.string ⟨#[]⟩, .string ⟨#[]⟩, .string ⟨#[1]⟩, .string ⟨#[]⟩] 26)
  have B_w8a := B_w8.alloc (.cells #[.string ⟨#[]⟩, .string ⟨#[]⟩, .string ⟨#[1]⟩, .string ⟨#[]⟩] 26)
  have S_w8a := S_w8.alloc (.cells #[.string ⟨#[]⟩, .string ⟨#[]⟩, .string ⟨#[1]⟩, .string ⟨#[]⟩] 26)
  have T_w8a := T_w8.alloc (.cells #[.string ⟨#[]⟩, .string ⟨#[]⟩, .string ⟨#[1]⟩, .string ⟨#[]⟩] 26)
  have U_w8a := U_w8.alloc (.cells #[.string ⟨#[]⟩, .string ⟨#[]⟩, .string ⟨#[1]⟩, .string ⟨#[]⟩] 26)
  have V_w8a := V_w8.alloc (.cells #[.string ⟨#[]⟩, .string ⟨#[]⟩, .string ⟨#[1]⟩, .string ⟨#[]⟩] 26)
  have N_w8a := N_w8.alloc (.cells #[.string ⟨#[]⟩, .string ⟨#[]⟩, .string ⟨#[1]⟩, .string ⟨#[]⟩] 26)
  have X_w8a := X_w8.alloc (.cells #[.string ⟨#[]⟩, .string ⟨#[]⟩, .string ⟨#[1]⟩, .string ⟨#[]⟩] 26)
  have C_w8a := Box4.new w8 26 (.string ⟨#[]⟩) (.string ⟨#[]⟩) (.string ⟨#[1]⟩) (.string ⟨#[]⟩)
  have hw8a := hw8.alloc hw8.size (.cells #[.string ⟨#[]⟩, .string ⟨#[]⟩, .string ⟨#[1]⟩, .string ⟨#[]⟩] 26)
  have qA0 := A_w8a.cell0
  have qA1 := A_w8a.cell1
  have qB0 := B_w8a.cell0
  have qB1 := B_w8a.cell1
  have qS0 := S_w8a.cell0
  have qS1 := S_w8a.cell1
  have qS2 := S_w8a.cell2
  have qS3 := S_w8a.cell3
  have qT0 := T_w8a.cell0
  have qT1 := T_w8a.cell1
  have qT2 := T_w8a.cell2
  have qT3 := T_w8a.cell3
  have qU0 := U_w8a.cell0
  have qU1 := U_w8a.cell1
  have qU2 := U_w8a.cell2
  have qU3 := U_w8a.cell3
  have qV0 := V_w8a.cell0
  have qV1 := V_w8a.cell1
  have qV2 := V_w8a.cell2
  have qV3 := V_w8a.cell3
  have qN0 := N_w8a.cell0
  have qN1 := N_w8a.cell1
  have qN2 := N_w8a.cell2
  have qN3 := N_w8a.cell3
  have qX0 := X_w8a.cell0
  have qX1 := X_w8a.cell1
  have qX2 := X_w8a.cell2
  have qX3 := X_w8a.cell3
  have qC0 := C_w8a.cell0
  have qC1 := C_w8a.cell1
  have qC2 := C_w8a.cell2
  have qC3 := C_w8a.cell3
  go_wp2_with fail
  refine (ex_8 _).mono ?_
  rintro e w9 ⟨rfl, hb9⟩
  clear qA0 qA1 qB0 qB1 qS0 qS1 qS2 qS3 qT0 qT1 qT2 qT3 qU0 qU1 qU2 qU3 qV0 qV1 qV2 qV3 qN0 qN1 qN2 qN3 qX0 qX1 qX2 qX3 qC0 qC1 qC2 qC3
  have A_w9 := A_w8a.below hb9 A_w8a.lt
  have B_w9 := B_w8a.below hb9 B_w8a.lt
  have S_w9 := S_w8a.below hb9 S_w8a.lt
  have T_w9 := T_w8a.below hb9 T_w8a.lt
  have U_w9 := U_w8a.below hb9 U_w8a.lt
  have V_w9 := V_w8a.below hb9 V_w8a.lt
  have N_w9 := N_w8a.below hb9 N_w8a.lt
  have X_w9 := X_w8a.below hb9 X_w8a.lt
  have C_w9 := C_w8a.below hb9 C_w8a.lt
  have hw9 := hw8a.trans (hb9.mono hw8a.size)
  have qA0 := A_w9.cell0
  have qA1 := A_w9.cell1
  have qB0 := B_w9.cell0
  have qB1 := B_w9.cell1
  have qS0 := S_w9.cell0
  have qS1 := S_w9.cell1
  have qS2 := S_w9.cell2
  have qS3 := S_w9.cell3
  have qT0 := T_w9.cell0
  have qT1 := T_w9.cell1
  have qT2 := T_w9.cell2
  have qT3 := T_w9.cell3
  have qU0 := U_w9.cell0
  have qU1 := U_w9.cell1
  have qU2 := U_w9.cell2
  have qU3 := U_w9.cell3
  have qV0 := V_w9.cell0
  have qV1 := V_w9.cell1
  have qV2 := V_w9.cell2
  have qV3 := V_w9.cell3
  have qN0 := N_w9.cell0
  have qN1 := N_w9.cell1
  have qN2 := N_w9.cell2
  have qN3 := N_w9.cell3
  have qX0 := X_w9.cell0
  have qX1 := X_w9.cell1
  have qX2 := X_w9.cell2
  have qX3 := X_w9.cell3
  have qC0 := C_w9.cell0
  have qC1 := C_w9.cell1
  have qC2 := C_w9.cell2
  have qC3 := C_w9.cell3
  go_wp2_with fail
  refine (ex_9 _).mono ?_
  rintro e w10 ⟨rfl, hb10⟩
  clear qA0 qA1 qB0 qB1 qS0 qS1 qS2 qS3 qT0 qT1 qT2 qT3 qU0 qU1 qU2 qU3 qV0 qV1 qV2 qV3 qN0 qN1 qN2 qN3 qX0 qX1 qX2 qX3 qC0 qC1 qC2 qC3
  have A_w10 := A_w9.below hb10 A_w9.lt
  have B_w10 := B_w9.below hb10 B_w9.lt
  have S_w10 := S_w9.below hb10 S_w9.lt
  have T_w10 := T_w9.below hb10 T_w9.lt
  have U_w10 := U_w9.below hb10 U_w9.lt
  have V_w10 := V_w9.below hb10 V_w9.lt
  have N_w10 := N_w9.below hb10 N_w9.lt
  have X_w10 := X_w9.below hb10 X_w9.lt
  have C_w10 := C_w9.below hb10 C_w9.lt
  have hw10 := hw9.trans (hb10.mono hw9.size)
  have qA0 := A_w10.cell0
  have qA1 := A_w10.cell1
  have qB0 := B_w10.cell0
  have qB1 := B_w10.cell1
  have qS0 := S_w10.cell0
  have qS1 := S_w10.cell1
  have qS2 := S_w10.cell2
  have qS3 := S_w10.cell3
  have qT0 := T_w10.cell0
  have qT1 := T_w10.cell1
  have qT2 := T_w10.cell2
  have qT3 := T_w10.cell3
  have qU0 := U_w10.cell0
  have qU1 := U_w10.cell1
  have qU2 := U_w10.cell2
  have qU3 := U_w10.cell3
  have qV0 := V_w10.cell0
  have qV1 := V_w10.cell1
  have qV2 := V_w10.cell2
  have qV3 := V_w10.cell3
  have qN0 := N_w10.cell0
  have qN1 := N_w10.cell1
  have qN2 := N_w10.cell2
  have qN3 := N_w10.cell3
  have qX0 := X_w10.cell0
  have qX1 := X_w10.cell1
  have qX2 := X_w10.cell2
  have qX3 := X_w10.cell3
  have qC0 := C_w10.cell0
  have qC1 := C_w10.cell1
  have qC2 := C_w10.cell2
  have qC3 := C_w10.cell3
  go_wp2_with fail
  refine (ex_10 _).mono ?_
  rintro e w11 ⟨rfl, hb11⟩
  clear qA0 qA1 qB0 qB1 qS0 qS1 qS2 qS3 qT0 qT1 qT2 qT3 qU0 qU1 qU2 qU3 qV0 qV1 qV2 qV3 qN0 qN1 qN2 qN3 qX0 qX1 qX2 qX3 qC0 qC1 qC2 qC3
  have A_w11 := A_w10.below hb11 A_w10.lt
  have B_w11 := B_w10.below hb11 B_w10.lt
  have S_w11 := S_w10.below hb11 S_w10.lt
  have T_w11 := T_w10.below hb11 T_w10.lt
  have U_w11 := U_w10.below hb11 U_w10.lt
  have V_w11 := V_w10.below hb11 V_w10.lt
  have N_w11 := N_w10.below hb11 N_w10.lt
  have X_w11 := X_w10.below hb11 X_w10.lt
  have C_w11 := C_w10.below hb11 C_w10.lt
  have hw11 := hw10.trans (hb11.mono hw10.size)
  have qA0 := A_w11.cell0
  have qA1 := A_w11.cell1
  have qB0 := B_w11.cell0
  have qB1 := B_w11.cell1
  have qS0 := S_w11.cell0
  have qS1 := S_w11.cell1
  have qS2 := S_w11.cell2
  have qS3 := S_w11.cell3
  have qT0 := T_w11.cell0
  have qT1 := T_w11.cell1
  have qT2 := T_w11.cell2
  have qT3 := T_w11.cell3
  have qU0 := U_w11.cell0
  have qU1 := U_w11.cell1
  have qU2 := U_w11.cell2
  have qU3 := U_w11.cell3
  have qV0 := V_w11.cell0
  have qV1 := V_w11.cell1
  have qV2 := V_w11.cell2
  have qV3 := V_w11.cell3
  have qN0 := N_w11.cell0
  have qN1 := N_w11.cell1
  have qN2 := N_w11.cell2
  have qN3 := N_w11.cell3
  have qX0 := X_w11.cell0
  have qX1 := X_w11.cell1
  have qX2 := X_w11.cell2
  have qX3 := X_w11.cell3
  have qC0 := C_w11.cell0
  have qC1 := C_w11.cell1
  have qC2 := C_w11.cell2
  have qC3 := C_w11.cell3
  go_wp2
  go_ret
  exact ⟨rfl, hw11⟩
end Go.Proofs.Ytnnnnlnnohdidaa
