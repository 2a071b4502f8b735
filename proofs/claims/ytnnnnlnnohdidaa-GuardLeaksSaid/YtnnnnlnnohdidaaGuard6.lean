/- The contracts of guard.Right and of the statements' small, few, begun. Condition: the formulas' lengths. -/
import Derived.Test.YtnnnnlnnohdidaaGuard4
import Derived.BigRegion
namespace Go.Proofs.Ytnnnnlnnohdidaa
open Go.RowKit Go.Shelf

/-- A label of eight clauses at most in each half. -/
def sm (a : Lz.Lab) : Lz.Lab := (a.1.take 8, a.2.take 8)
def smS (s : Lz.St) : Lz.St := ⟨sm s.cur, sm s.clr⟩
theorem okL_sm (a : Lz.Lab) : okL (sm a) := by
  have h1 : (a.1.take 8).length ≤ 8 := List.length_take_le _ _
  have h2 : (a.2.take 8).length ≤ 8 := List.length_take_le _ _
  exact ⟨Nat.le_trans h1 (by decide), Nat.le_trans h2 (by decide)⟩
theorem extract_take (l : List UInt8) (k : Nat) : (str l).extract 0 k = str (l.take k) := by
  apply ByteArray.ext
  simp [str]
theorem cut_str (l : List UInt8) (k : Nat) (h : (if (8 : Int) < (l.length : Int) then (8 : Int) else (l.length : Int)) = (k : Int)) : (str l).extract 0 k = str (l.take 8) := by
  rw [extract_take]
  congr 1
  split at h
  · have : k = 8 := by omega
    rw [this]
  · have : k = l.length := by omega
    rw [this, List.take_of_length_le (by omega), List.take_of_length_le (by omega)]
attribute [local go_sem] str_size
set_option maxRecDepth 100000 in
set_option maxHeartbeats 2000000 in
theorem small_p (a : Lz.Lab) (h1 : a.1.length ≤ maxLen) (h2 : a.2.length ≤ maxLen) (w : World) : Calls Try.prog 11 #[pv a] w fun e w' => e = .returned (pv (sm a)) ∧ Below w.heap.size w w' := by
  have mixed := mixedOrders
  have bL : BoxL ((w.alloc (.cells #[.string (str a.1), .string (str a.2)] 24)).alloc (.cells #[.string ⟨#[]⟩, .string ⟨#[]⟩] 24)) w.heap.size a := (Box2.new w _ _ _).alloc _
  have bR := Box2.new (w.alloc (.cells #[.string (str a.1), .string (str a.2)] 24)) 24 (.string ⟨#[]⟩) (.string ⟨#[]⟩)
  rw [World.size_alloc] at bR
  have hA : Below w.heap.size w ((w.alloc (.cells #[.string (str a.1), .string (str a.2)] 24)).alloc (.cells #[.string ⟨#[]⟩, .string ⟨#[]⟩] 24)) := ((Below.refl _ w).alloc (Nat.le_refl _) _).alloc (by simp) _
  unfold maxLen at h1 h2
  obtain ⟨k, hk, hk1, hk2⟩ := cut_at a.1.length 8 8 rfl
  obtain ⟨j, hj, hj1, hj2⟩ := cut_at a.2.length 8 8 rfl
  have HK := Lib.hid (cut_str a.1 k hk)
  have HJ := Lib.hid (cut_str a.2 j hj)
  go_enter Try.func11, Try.ntmps11
  go_wp2_with fail
  generalize ((w.alloc (.cells #[.string (str a.1), .string (str a.2)] 24)).alloc (.cells #[.string ⟨#[]⟩, .string ⟨#[]⟩] 24)) = wA at bL bR hA ⊢
  have c0 := bL.cell0
  have c1 := bL.cell1
  have d0 := bR.cell0
  have d1 := bR.cell1
  have f0 := bR.frozen 0
  have f1 := bR.frozen 1
  go_region
  go_wp2
  rw [HK.out, HJ.out]
  have bR3 := box2_set1 (q := .string (str (a.2.take 8))) (box2_set0 (q := .string (str (a.1.take 8))) bR)
  have e0 := bR3.cell0
  have e1 := bR3.cell1
  refine bodyPost_ret (v := .agg #[.string (str (a.1.take 8)), .string (str (a.2.take 8))]) ?_ rfl ⟨rfl, drewB ((hA.setCell (p := ⟨w.heap.size + 1, 0, none⟩) (show w.heap.size ≤ w.heap.size + 1 by omega) _).setCell (p := ⟨w.heap.size + 1, 1, none⟩) (show w.heap.size ≤ w.heap.size + 1 by omega) _)⟩
  simp [results, Try.f11, go_sem, e0, e1]
theorem alloc2 (w : World) (s : Lz.St) : BoxS ((w.alloc (.cells #[.string (str s.cur.1), .string (str s.cur.2), .string (str s.clr.1), .string (str s.clr.2)] 26)).alloc (.cells #[.string ⟨#[]⟩, .string ⟨#[]⟩, .string ⟨#[]⟩, .string ⟨#[]⟩] 26)) w.heap.size s ∧ BoxZ ((w.alloc (.cells #[.string (str s.cur.1), .string (str s.cur.2), .string (str s.clr.1), .string (str s.clr.2)] 26)).alloc (.cells #[.string ⟨#[]⟩, .string ⟨#[]⟩, .string ⟨#[]⟩, .string ⟨#[]⟩] 26)) (w.heap.size + 1) ∧ Below w.heap.size w ((w.alloc (.cells #[.string (str s.cur.1), .string (str s.cur.2), .string (str s.clr.1), .string (str s.clr.2)] 26)).alloc (.cells #[.string ⟨#[]⟩, .string ⟨#[]⟩, .string ⟨#[]⟩, .string ⟨#[]⟩] 26)) := by
  refine ⟨(Box4.new w _ _ _ _ _).alloc _, ?_, ((Below.refl _ w).alloc (Nat.le_refl _) _).alloc (by simp) _⟩
  have := Box4.new (w.alloc (.cells #[.string (str s.cur.1), .string (str s.cur.2), .string (str s.clr.1), .string (str s.clr.2)] 26)) 26 (.string ⟨#[]⟩) (.string ⟨#[]⟩) (.string ⟨#[]⟩) (.string ⟨#[]⟩)
  simp only [World.size_alloc] at this
  exact this
/-- A state whose texts are in bounds. -/
def bndS (s : Lz.St) : Prop := s.cur.1.length ≤ maxLen ∧ s.cur.2.length ≤ maxLen ∧ s.clr.1.length ≤ maxLen ∧ s.clr.2.length ≤ maxLen
set_option maxRecDepth 100000 in
set_option maxHeartbeats 4000000 in
theorem few_p (s : Lz.St) (h : bndS s) (w : World) : Calls Try.prog 24 #[sv s] w fun e w' => e = .returned (sv (smS s)) ∧ Below w.heap.size w w' := by
  have mixed := mixedOrders
  obtain ⟨bS0, bZ0, hB0⟩ := alloc2 w s
  go_enter Try.func24, Try.ntmps24
  go_wp2_with fail
  generalize ((w.alloc (.cells #[.string (str s.cur.1), .string (str s.cur.2), .string (str s.clr.1), .string (str s.clr.2)] 26)).alloc (.cells #[.string ⟨#[]⟩, .string ⟨#[]⟩, .string ⟨#[]⟩, .string ⟨#[]⟩] 26)) = w0 at bS0 bZ0 hB0 ⊢
  have bSd : BoxS w0.drew w.heap.size s := bS0
  have bZd : BoxZ w0.drew (w.heap.size + 1) := bZ0
  have hBd := drewB hB0
  have c0 := bSd.cell0
  have c1 := bSd.cell1
  have c2 := bSd.cell2
  have c3 := bSd.cell3
  have mark := True.intro
  clear bS0 bZ0 hB0
  go_region_held3 (fun w' => w'.cell? ⟨w.heap.size, 0, none⟩ = some (.string (str s.cur.1)) ∧ w'.cell? ⟨w.heap.size, 1, none⟩ = some (.string (str s.cur.2)) ∧ w'.cell? ⟨w.heap.size, 2, none⟩ = some (.string (str s.clr.1)) ∧ w'.cell? ⟨w.heap.size, 3, none⟩ = some (.string (str s.clr.2))) (first | with_reducible exact ⟨c0, c1, c2, c3⟩ | with_reducible exact ⟨set4 (by omega) c0, set4 (by omega) c1, set4 (by omega) c2, set4 (by omega) c3⟩ | go_keep)
    (first
      | (go_at_call 11; clear mark; refine (small_p s.cur h.1 h.2.1 _).mono ?_; rintro e w1 ⟨rfl, hb1⟩; have bS1 := bSd.below hb1 bSd.lt; have bZ1 := bZd.below hb1 bZd.lt; have hB1 := hBd.trans (hb1.mono hBd.size); have c0 := bS1.cell0; have c1 := bS1.cell1; have c2 := bS1.cell2; have c3 := bS1.cell3)
      | (go_at_call 11; refine (small_p s.clr h.2.2.1 h.2.2.2 _).mono ?_; rintro e w2 ⟨rfl, hb2⟩; have bS2 := bS1.below hb2 bS1.lt; have bZ2 := bZ1.below hb2 bZ1.lt; have hB2 := hB1.trans (hb2.mono hB1.size); have c0 := bS2.cell0; have c1 := bS2.cell1; have c2 := bS2.cell2; have c3 := bS2.cell3; have z0 := bZ2.cell0; have z1 := bZ2.cell1; have z2 := bZ2.cell2; have z3 := bZ2.cell3; have f0 := bZ2.frozen 0; have f1 := bZ2.frozen 1; have f2 := bZ2.frozen 2; have f3 := bZ2.frozen 3))
  go_wp2
  have bN := box4_set (a' := .string (str (sm s.cur).1)) (b' := .string (str (sm s.cur).2)) (c' := .string (str (sm s.clr).1)) (d' := .string (str (sm s.clr).2)) bZ2
  have e0 := bN.cell0
  have e1 := bN.cell1
  have e2 := bN.cell2
  have e3 := bN.cell3
  refine bodyPost_ret (v := .agg #[.string (str (sm s.cur).1), .string (str (sm s.cur).2), .string (str (sm s.clr).1), .string (str (sm s.clr).2)]) ?_ rfl ⟨rfl, below4 hB2 (show w.heap.size ≤ w.heap.size + 1 by omega) _ _ _ _⟩
  simp [results, Try.f24, go_sem, e0, e1, e2, e3]
theorem okS_sm (s : Lz.St) : okS (smS s) := ⟨okL_sm _, okL_sm _⟩
set_option maxRecDepth 100000 in
set_option maxHeartbeats 4000000 in
theorem begun_p (s : Lz.St) (h : bndS s) (w : World) : Calls Try.prog 9 #[sv s] w fun e w' => e = .returned (sv (Lz.begun (smS s))) ∧ Below w.heap.size w w' := by
  have mixed := mixedOrders
  obtain ⟨bS0, bZ0, hB0⟩ := alloc2 w s
  have c0 := bS0.cell0
  have c1 := bS0.cell1
  have c2 := bS0.cell2
  have c3 := bS0.cell3
  have ok := okS_sm s
  have HF := Lib.hid (few_p s h)
  generalize smS s = t at ok HF ⊢
  go_enter Try.func9, Try.ntmps9
  go_wp2_with fail
  generalize ((w.alloc (.cells #[.string (str s.cur.1), .string (str s.cur.2), .string (str s.clr.1), .string (str s.clr.2)] 26)).alloc (.cells #[.string ⟨#[]⟩, .string ⟨#[]⟩, .string ⟨#[]⟩, .string ⟨#[]⟩] 26)) = w0 at bS0 bZ0 hB0 c0 c1 c2 c3 ⊢
  refine (HF.out _).mono ?_
  rintro e w1 ⟨rfl, hb1⟩
  have bS1 := bS0.below hb1 bS0.lt
  have bZ1 := bZ0.below hb1 bZ0.lt
  have hB1 := hB0.trans (hb1.mono hB0.size)
  clear bS0 bZ0 hB0 hb1 c0 c1 c2 c3
  have c0 := bS1.cell0
  have c1 := bS1.cell1
  have c2 := bS1.cell2
  have c3 := bS1.cell3
  have f0 := bS1.frozen 0
  have f1 := bS1.frozen 1
  have f2 := bS1.frozen 2
  have f3 := bS1.frozen 3
  go_wp2_with fail
  have bS2 := box4_set (a' := .string (str t.cur.1)) (b' := .string (str t.cur.2)) (c' := .string (str t.clr.1)) (d' := .string (str t.clr.2)) bS1
  have bZ2 : BoxZ ((((w1.setCell ⟨w.heap.size, 0, none⟩ (.string (str t.cur.1))).setCell ⟨w.heap.size, 1, none⟩ (.string (str t.cur.2))).setCell ⟨w.heap.size, 2, none⟩ (.string (str t.clr.1))).setCell ⟨w.heap.size, 3, none⟩ (.string (str t.clr.2))) (w.heap.size + 1) :=
    ((Below.heap_setCell _ _ _ _ (by simp)).trans ((Below.heap_setCell _ _ _ _ (by simp)).trans ((Below.heap_setCell _ _ _ _ (by simp)).trans (Below.heap_setCell _ _ _ _ (by simp))))).trans bZ1
  have hB2 := below4 hB1 (Nat.le_refl w.heap.size) (.string (str t.cur.1)) (.string (str t.cur.2)) (.string (str t.clr.1)) (.string (str t.clr.2))
  clear bS1 bZ1 hB1 c0 c1 c2 c3 f0 f1 f2 f3
  generalize ((((w1.setCell ⟨w.heap.size, 0, none⟩ (.string (str t.cur.1))).setCell ⟨w.heap.size, 1, none⟩ (.string (str t.cur.2))).setCell ⟨w.heap.size, 2, none⟩ (.string (str t.clr.1))).setCell ⟨w.heap.size, 3, none⟩ (.string (str t.clr.2))) = w2 at bS2 bZ2 hB2 ⊢
  have bSd : BoxS w2.drew w.heap.size t := bS2
  have bZd : BoxZ w2.drew (w.heap.size + 1) := bZ2
  have hBd := drewB hB2
  have c0 := bSd.cell0
  have c1 := bSd.cell1
  have c2 := bSd.cell2
  have c3 := bSd.cell3
  clear bS2 bZ2 hB2
  go_region_held3 (fun w' => w'.cell? ⟨w.heap.size, 0, none⟩ = some (.string (str t.cur.1)) ∧ w'.cell? ⟨w.heap.size, 1, none⟩ = some (.string (str t.cur.2)) ∧ w'.cell? ⟨w.heap.size, 2, none⟩ = some (.string (str t.clr.1)) ∧ w'.cell? ⟨w.heap.size, 3, none⟩ = some (.string (str t.clr.2))) (first | with_reducible exact ⟨c0, c1, c2, c3⟩ | with_reducible exact ⟨set4 (by omega) c0, set4 (by omega) c1, set4 (by omega) c2, set4 (by omega) c3⟩ | go_keep)
    (first
      | (go_at_call 17; refine (norm_p t.cur ok.1 _).mono ?_; rintro e w3 ⟨rfl, hb3⟩; have bS3 := bSd.below hb3 bSd.lt; have bZ3 := bZd.below hb3 bZd.lt; have hB3 := hBd.trans (hb3.mono hBd.size); have c0 := bS3.cell0; have c1 := bS3.cell1; have c2 := bS3.cell2; have c3 := bS3.cell3)
      | (go_at_call 25; refine (join_p t.cur t.clr ok.1 ok.2 _).mono ?_; rintro e w4 ⟨rfl, hb4⟩; have bS4 := bS3.below hb4 bS3.lt; have bZ4 := bZ3.below hb4 bZ3.lt; have hB4 := hB3.trans (hb4.mono hB3.size); have c0 := bS4.cell0; have c1 := bS4.cell1; have c2 := bS4.cell2; have c3 := bS4.cell3; have z0 := bZ4.cell0; have z1 := bZ4.cell1; have z2 := bZ4.cell2; have z3 := bZ4.cell3; have f0 := bZ4.frozen 0; have f1 := bZ4.frozen 1; have f2 := bZ4.frozen 2; have f3 := bZ4.frozen 3))
  go_wp2
  have bN := box4_set (a' := .string (str (Lz.nrm t.cur).1)) (b' := .string (str (Lz.nrm t.cur).2)) (c' := .string (str (Lz.jn t.cur t.clr).1)) (d' := .string (str (Lz.jn t.cur t.clr).2)) bZ4
  have e0 := bN.cell0
  have e1 := bN.cell1
  have e2 := bN.cell2
  have e3 := bN.cell3
  refine bodyPost_ret (v := .agg #[.string (str (Lz.nrm t.cur).1), .string (str (Lz.nrm t.cur).2), .string (str (Lz.jn t.cur t.clr).1), .string (str (Lz.jn t.cur t.clr).2)]) ?_ rfl ⟨rfl, below4 hB4 (show w.heap.size ≤ w.heap.size + 1 by omega) _ _ _ _⟩
  simp [results, Try.f9, go_sem, e0, e1, e2, e3]
theorem rt_p (a : Lz.Lab) (ha : okL a) (h : Lz.rightL a) (w : World) : Calls Try.prog 26 #[pv a] w fun e w' => e = .returned (.bool true) ∧ Below w.heap.size w w' := by
  obtain ⟨h1, h2⟩ := Lz.rightL_iff.1 h
  have := labelRight_any (str a.1) (str a.2) ha.l ha.r w
  unfold Lz.right at h1 h2
  simp only [lst_str, h1, h2, beq_self_eq_true, Bool.and_self] at this
  exact this
set_option maxRecDepth 100000 in
set_option maxHeartbeats 4000000 in
theorem rtS_p (s : Lz.St) (ok : okS s) (h : Lz.rightS s) (w : World) : Calls Try.prog 12 #[sv s] w fun e w' => e = .returned (.bool true) ∧ Below w.heap.size w w' := by
  obtain ⟨h1, h2, h3⟩ := h
  have H3 := Lib.hid (Lz.fl_iff.2 h3)
  clear h3
  have bS0 : BoxS (w.alloc (.cells #[.string (str s.cur.1), .string (str s.cur.2), .string (str s.clr.1), .string (str s.clr.2)] 26)) w.heap.size s := Box4.new w _ _ _ _ _
  have hB0 := (Below.refl w.heap.size w).alloc (Nat.le_refl _) (.cells #[.string (str s.cur.1), .string (str s.cur.2), .string (str s.clr.1), .string (str s.clr.2)] 26)
  have c0 := bS0.cell0
  have c1 := bS0.cell1
  have c2 := bS0.cell2
  have c3 := bS0.cell3
  go_enter Try.func12, Try.ntmps12
  go_wp2_with fail
  refine (rt_p s.cur ok.1 h1 _).mono ?_
  rintro e w1 ⟨rfl, hb1⟩
  have bS1 := bS0.below hb1 bS0.lt
  have hB1 := hB0.trans (hb1.mono hB0.size)
  clear bS0 hB0 hb1 c0 c1 c2 c3
  have c0 := bS1.cell0
  have c1 := bS1.cell1
  have c2 := bS1.cell2
  have c3 := bS1.cell3
  go_wp2_with fail
  refine (rt_p s.clr ok.2 h2 _).mono ?_
  rintro e w2 ⟨rfl, hb2⟩
  have bS2 := bS1.below hb2 bS1.lt
  have hB2 := hB1.trans (hb2.mono hB1.size)
  clear bS1 hB1 hb2 c0 c1 c2 c3
  have c0 := bS2.cell0
  have c1 := bS2.cell1
  have c2 := bS2.cell2
  have c3 := bS2.cell3
  go_wp2_with fail
  refine (flows_p s.cur s.clr ok.1 ok.2 _).mono ?_
  rintro e w3 ⟨rfl, hb3⟩
  rw [H3.out]
  go_wp2
  go_ret
  exact ⟨rfl, hB2.trans (hb3.mono hB2.size)⟩
end Go.Proofs.Ytnnnnlnnohdidaa
