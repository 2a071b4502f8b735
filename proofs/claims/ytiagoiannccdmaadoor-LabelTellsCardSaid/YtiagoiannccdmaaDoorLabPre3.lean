/- Words for the walks of the laws of chapter 3. Conditions: the lengths. -/
import Derived.Test.YtiagoiannccdmaaDoorLabel4
import Derived.Test.YtiagoiannccdmaaDoorParse
import Derived.BigRegion
namespace Go.Proofs.YtiagoiannccdmaaDoor
open Go.RowKit Go.Shelf
theorem drewB {n : Nat} {w W : World} (h : Below n w W) : Below n w W.drew := ⟨h.os, h.tape, h.output, h.size, h.block⟩
theorem other2 {W : World} {b k : Nat} {o : Option Obj} (hne : b ≠ k) (h : W.heap[b]? = o) (a1 a2 : Value) : ((W.setCell ⟨k, 0, none⟩ a1).setCell ⟨k, 1, none⟩ a2).heap[b]? = o :=
  ((Below.heap_setCell _ _ _ _ hne).trans (Below.heap_setCell _ _ _ _ hne)).trans h
/-- A label of eight clauses at most in each half. -/
def sm (a : Lz.Lab) : Lz.Lab := (a.1.take 8, a.2.take 8)
theorem okL_sm (a : Lz.Lab) : okL (sm a) := by
  have h1 : (a.1.take 8).length ≤ 8 := List.length_take_le _ _
  have h2 : (a.2.take 8).length ≤ 8 := List.length_take_le _ _
  exact ⟨Nat.le_trans h1 (by decide), Nat.le_trans h2 (by decide)⟩
theorem extract_take (l : List UInt8) (k : Nat) : (str l).extract 0 k = str (l.take k) := by
  apply ByteArray.ext
  simp [str]
theorem cut_str (l : List UInt8) (k : Nat) (h : (if (8 : Int) < (l.length : Int) then (8 : Int) else (l.length : Int)) = (k : Int)) : (str l).extract 0 k = str (l.take 8) := by
  rw [extract_take]
  congr 1
  split at h
  · have : k = 8 := by omega
    rw [this]
  · have : k = l.length := by omega
    rw [this, List.take_of_length_le (by omega), List.take_of_length_le (by omega)]
attribute [local go_sem] str_size
set_option maxRecDepth 100000 in
set_option maxHeartbeats 2000000 in
theorem small_p (a : Lz.Lab) (h1 : a.1.length ≤ maxLen) (h2 : a.2.length ≤ maxLen) (w : World) : Calls Tryd.prog 10 #[pv a] w fun e w' => e = .returned (pv (sm a)) ∧ Below w.heap.size w w' := by
  have mixed := mixedOrders
  have bL : BoxL ((w.alloc (.cells #[.string (str a.1), .string (str a.2)] 24)).alloc (.cells #[.string ⟨#[]⟩, .string ⟨#[]⟩] 24)) w.heap.size a := (Box2.new w _ _ _).alloc _
  have bR := Box2.new (w.alloc (.cells #[.string (str a.1), .string (str a.2)] 24)) 24 (.string ⟨#[]⟩) (.string ⟨#[]⟩)
  rw [World.size_alloc] at bR
  have hA : Below w.heap.size w ((w.alloc (.cells #[.string (str a.1), .string (str a.2)] 24)).alloc (.cells #[.string ⟨#[]⟩, .string ⟨#[]⟩] 24)) := ((Below.refl _ w).alloc (Nat.le_refl _) _).alloc (by simp) _
  unfold maxLen at h1 h2
  obtain ⟨k, hk, hk1, hk2⟩ := cut_at a.1.length 8 8 rfl
  obtain ⟨j, hj, hj1, hj2⟩ := cut_at a.2.length 8 8 rfl
  have HK := Lib.hid (cut_str a.1 k hk)
  have HJ := Lib.hid (cut_str a.2 j hj)
  go_enter Tryd.func10, Tryd.ntmps10
  go_wp2_with fail
  generalize ((w.alloc (.cells #[.string (str a.1), .string (str a.2)] 24)).alloc (.cells #[.string ⟨#[]⟩, .string ⟨#[]⟩] 24)) = wA at bL bR hA ⊢
  have c0 := bL.cell0
  have c1 := bL.cell1
  have d0 := bR.cell0
  have d1 := bR.cell1
  have f0 := bR.frozen 0
  have f1 := bR.frozen 1
  go_region
  go_wp2
  rw [HK.out, HJ.out]
  have bR3 := box2_set1 (q := .string (str (a.2.take 8))) (box2_set0 (q := .string (str (a.1.take 8))) bR)
  have e0 := bR3.cell0
  have e1 := bR3.cell1
  refine bodyPost_ret (v := .agg #[.string (str (a.1.take 8)), .string (str (a.2.take 8))]) ?_ rfl ⟨rfl, drewB ((hA.setCell (p := ⟨w.heap.size + 1, 0, none⟩) (show w.heap.size ≤ w.heap.size + 1 by omega) _).setCell (p := ⟨w.heap.size + 1, 1, none⟩) (show w.heap.size ≤ w.heap.size + 1 by omega) _)⟩
  simp [results, Tryd.f10, go_sem, e0, e1]
theorem alloc1P (w : World) (a : Lz.Lab) : BoxL (w.alloc (.cells #[.string (str a.1), .string (str a.2)] 24)) w.heap.size a ∧ Below w.heap.size w (w.alloc (.cells #[.string (str a.1), .string (str a.2)] 24)) := by
  exact ⟨Box2.new w _ _ _, (Below.refl _ w).alloc (Nat.le_refl _) _⟩
theorem alloc2P (w : World) (a b : Lz.Lab) : BoxL ((w.alloc (.cells #[.string (str a.1), .string (str a.2)] 24)).alloc (.cells #[.string (str b.1), .string (str b.2)] 24)) w.heap.size a ∧ BoxL ((w.alloc (.cells #[.string (str a.1), .string (str a.2)] 24)).alloc (.cells #[.string (str b.1), .string (str b.2)] 24)) (w.heap.size + 1) b ∧ Below w.heap.size w ((w.alloc (.cells #[.string (str a.1), .string (str a.2)] 24)).alloc (.cells #[.string (str b.1), .string (str b.2)] 24)) := by
  obtain ⟨h0, hb⟩ := alloc1P w a
  refine ⟨h0.alloc _, ?_, hb.alloc hb.size _⟩
  have := Box2.new (w.alloc (.cells #[.string (str a.1), .string (str a.2)] 24)) 24 (.string (str b.1)) (.string (str b.2))
  simp only [World.size_alloc] at this
  exact this
theorem alloc3P (w : World) (a b c : Lz.Lab) : BoxL (((w.alloc (.cells #[.string (str a.1), .string (str a.2)] 24)).alloc (.cells #[.string (str b.1), .string (str b.2)] 24)).alloc (.cells #[.string (str c.1), .string (str c.2)] 24)) w.heap.size a ∧ BoxL (((w.alloc (.cells #[.string (str a.1), .string (str a.2)] 24)).alloc (.cells #[.string (str b.1), .string (str b.2)] 24)).alloc (.cells #[.string (str c.1), .string (str c.2)] 24)) (w.heap.size + 1) b ∧ BoxL (((w.alloc (.cells #[.string (str a.1), .string (str a.2)] 24)).alloc (.cells #[.string (str b.1), .string (str b.2)] 24)).alloc (.cells #[.string (str c.1), .string (str c.2)] 24)) (w.heap.size + 1 + 1) c ∧ Below w.heap.size w (((w.alloc (.cells #[.string (str a.1), .string (str a.2)] 24)).alloc (.cells #[.string (str b.1), .string (str b.2)] 24)).alloc (.cells #[.string (str c.1), .string (str c.2)] 24)) := by
  obtain ⟨h0, h1, hb⟩ := alloc2P w a b
  refine ⟨h0.alloc _, h1.alloc _, ?_, hb.alloc hb.size _⟩
  have := Box2.new ((w.alloc (.cells #[.string (str a.1), .string (str a.2)] 24)).alloc (.cells #[.string (str b.1), .string (str b.2)] 24)) 24 (.string (str c.1)) (.string (str c.2))
  simp only [World.size_alloc] at this
  exact this
theorem alloc4P (w : World) (a b c d : Lz.Lab) : BoxL ((((w.alloc (.cells #[.string (str a.1), .string (str a.2)] 24)).alloc (.cells #[.string (str b.1), .string (str b.2)] 24)).alloc (.cells #[.string (str c.1), .string (str c.2)] 24)).alloc (.cells #[.string (str d.1), .string (str d.2)] 24)) w.heap.size a ∧ BoxL ((((w.alloc (.cells #[.string (str a.1), .string (str a.2)] 24)).alloc (.cells #[.string (str b.1), .string (str b.2)] 24)).alloc (.cells #[.string (str c.1), .string (str c.2)] 24)).alloc (.cells #[.string (str d.1), .string (str d.2)] 24)) (w.heap.size + 1) b ∧ BoxL ((((w.alloc (.cells #[.string (str a.1), .string (str a.2)] 24)).alloc (.cells #[.string (str b.1), .string (str b.2)] 24)).alloc (.cells #[.string (str c.1), .string (str c.2)] 24)).alloc (.cells #[.string (str d.1), .string (str d.2)] 24)) (w.heap.size + 1 + 1) c ∧ BoxL ((((w.alloc (.cells #[.string (str a.1), .string (str a.2)] 24)).alloc (.cells #[.string (str b.1), .string (str b.2)] 24)).alloc (.cells #[.string (str c.1), .string (str c.2)] 24)).alloc (.cells #[.string (str d.1), .string (str d.2)] 24)) (w.heap.size + 1 + 1 + 1) d ∧ Below w.heap.size w ((((w.alloc (.cells #[.string (str a.1), .string (str a.2)] 24)).alloc (.cells #[.string (str b.1), .string (str b.2)] 24)).alloc (.cells #[.string (str c.1), .string (str c.2)] 24)).alloc (.cells #[.string (str d.1), .string (str d.2)] 24)) := by
  obtain ⟨h0, h1, h2, hb⟩ := alloc3P w a b c
  refine ⟨h0.alloc _, h1.alloc _, h2.alloc _, ?_, hb.alloc hb.size _⟩
  have := Box2.new (((w.alloc (.cells #[.string (str a.1), .string (str a.2)] 24)).alloc (.cells #[.string (str b.1), .string (str b.2)] 24)).alloc (.cells #[.string (str c.1), .string (str c.2)] 24)) 24 (.string (str d.1)) (.string (str d.2))
  simp only [World.size_alloc] at this
  exact this
section
variable (W : World)
theorem flE (a b : Lz.Lab) (r : Bool) (ha : okL a) (hb : okL b) (h : Lz.fl a b = r) : Calls Tryd.prog 11 #[pv a, pv b] W fun e w' => e = .returned (.bool r) ∧ Below W.heap.size W w' := by
  subst h; exact flows_p a b ha hb W
theorem nrmE (a n : Lz.Lab) (ha : okL a) (h : Lz.nrm a = n) : Calls Tryd.prog 12 #[pv a] W fun e w' => e = .returned (pv n) ∧ Below W.heap.size W w' := by
  subst h; exact norm_p a ha W
theorem jnE (a b n : Lz.Lab) (ha : okL a) (hb : okL b) (h : Lz.jn a b = n) : Calls Tryd.prog 16 #[pv a, pv b] W fun e w' => e = .returned (pv n) ∧ Below W.heap.size W w' := by
  subst h; exact join_p a b ha hb W
theorem mtE (a b n : Lz.Lab) (ha : okL a) (hb : okL b) (h : Lz.mt a b = n) : Calls Tryd.prog 17 #[pv a, pv b] W fun e w' => e = .returned (pv n) ∧ Below W.heap.size W w' := by
  subst h; exact meet_p a b ha hb W
end
theorem lab_beq (a b : Lz.Lab) (r : Bool) (h : (a == b) = r) : (a.1 == b.1 && a.2 == b.2) = r := by
  rw [← h]
  obtain ⟨x, y⟩ := a
  obtain ⟨z, t⟩ := b
  rfl
end Go.Proofs.YtiagoiannccdmaaDoor
