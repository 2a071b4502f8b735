/- Worlds of three new blocks: words for the walks of package guard. Condition: the formulas' lengths. -/
import Derived.Test.YtnnnnlnnohdidaaGuard3
namespace Go.Proofs.Ytnnnnlnnohdidaa
open Go.RowKit Go.Shelf

abbrev BoxZ (W : World) (B : Nat) : Prop := Box4 W B 26 (.string ⟨#[]⟩) (.string ⟨#[]⟩) (.string ⟨#[]⟩) (.string ⟨#[]⟩)
theorem below4 {w W : World} {n k : Nat} (h : Below n w W) (hk : n ≤ k) (a b c d : Value) : Below n w ((((W.setCell ⟨k, 0, none⟩ a).setCell ⟨k, 1, none⟩ b).setCell ⟨k, 2, none⟩ c).setCell ⟨k, 3, none⟩ d) :=
  (((h.setCell (p := ⟨k, 0, none⟩) hk _).setCell (p := ⟨k, 1, none⟩) hk _).setCell (p := ⟨k, 2, none⟩) hk _).setCell (p := ⟨k, 3, none⟩) hk _
theorem set4 {W : World} {b j k : Nat} {v a1 a2 a3 a4 : Value} (hne : b ≠ k) (h : W.cell? ⟨b, j, none⟩ = some v) : ((((W.setCell ⟨k, 0, none⟩ a1).setCell ⟨k, 1, none⟩ a2).setCell ⟨k, 2, none⟩ a3).setCell ⟨k, 3, none⟩ a4).cell? ⟨b, j, none⟩ = some v := by
  have e : ((((W.setCell ⟨k, 0, none⟩ a1).setCell ⟨k, 1, none⟩ a2).setCell ⟨k, 2, none⟩ a3).setCell ⟨k, 3, none⟩ a4).heap[b]? = W.heap[b]? :=
    (Below.heap_setCell _ _ _ _ hne).trans ((Below.heap_setCell _ _ _ _ hne).trans ((Below.heap_setCell _ _ _ _ hne).trans (Below.heap_setCell _ _ _ _ hne)))
  unfold World.cell? at h ⊢
  simp only [e]
  exact h
theorem alloc3 (w : World) (s : Lz.St) (l : Lz.Lab) : BoxS (((w.alloc (.cells #[.string (str s.cur.1), .string (str s.cur.2), .string (str s.clr.1), .string (str s.clr.2)] 26)).alloc (.cells #[.string (str l.1), .string (str l.2)] 24)).alloc (.cells #[.string ⟨#[]⟩, .string ⟨#[]⟩, .string ⟨#[]⟩, .string ⟨#[]⟩] 26)) (w.heap.size) s ∧ BoxL (((w.alloc (.cells #[.string (str s.cur.1), .string (str s.cur.2), .string (str s.clr.1), .string (str s.clr.2)] 26)).alloc (.cells #[.string (str l.1), .string (str l.2)] 24)).alloc (.cells #[.string ⟨#[]⟩, .string ⟨#[]⟩, .string ⟨#[]⟩, .string ⟨#[]⟩] 26)) (w.heap.size + 1) l ∧ BoxZ (((w.alloc (.cells #[.string (str s.cur.1), .string (str s.cur.2), .string (str s.clr.1), .string (str s.clr.2)] 26)).alloc (.cells #[.string (str l.1), .string (str l.2)] 24)).alloc (.cells #[.string ⟨#[]⟩, .string ⟨#[]⟩, .string ⟨#[]⟩, .string ⟨#[]⟩] 26)) (w.heap.size + 1 + 1) ∧ Below w.heap.size w (((w.alloc (.cells #[.string (str s.cur.1), .string (str s.cur.2), .string (str s.clr.1), .string (str s.clr.2)] 26)).alloc (.cells #[.string (str l.1), .string (str l.2)] 24)).alloc (.cells #[.string ⟨#[]⟩, .string ⟨#[]⟩, .string ⟨#[]⟩, .string ⟨#[]⟩] 26)) ∧ (((w.alloc (.cells #[.string (str s.cur.1), .string (str s.cur.2), .string (str s.clr.1), .string (str s.clr.2)] 26)).alloc (.cells #[.string (str l.1), .string (str l.2)] 24)).alloc (.cells #[.string ⟨#[]⟩, .string ⟨#[]⟩, .string ⟨#[]⟩, .string ⟨#[]⟩] 26)).heap.size = w.heap.size + 1 + 1 + 1 := by
  refine ⟨((Box4.new w _ _ _ _ _).alloc _).alloc _, ?_, ?_, (((Below.refl _ w).alloc (Nat.le_refl _) _).alloc (by simp) _).alloc (by simp; omega) _, by simp⟩
  · have := (Box2.new (w.alloc (.cells #[.string (str s.cur.1), .string (str s.cur.2), .string (str s.clr.1), .string (str s.clr.2)] 26)) 24 (.string (str l.1)) (.string (str l.2))).alloc (.cells #[.string ⟨#[]⟩, .string ⟨#[]⟩, .string ⟨#[]⟩, .string ⟨#[]⟩] 26)
    rw [World.size_alloc] at this
    exact this
  · have := Box4.new ((w.alloc (.cells #[.string (str s.cur.1), .string (str s.cur.2), .string (str s.clr.1), .string (str s.clr.2)] 26)).alloc (.cells #[.string (str l.1), .string (str l.2)] 24)) 26 (.string ⟨#[]⟩) (.string ⟨#[]⟩) (.string ⟨#[]⟩) (.string ⟨#[]⟩)
    simp only [World.size_alloc] at this
    exact this
end Go.Proofs.Ytnnnnlnnohdidaa
