/- Words for the walks of GuardReads, GuardWrites. No conditions. -/
import Derived.Test.YtnnnnlnnohdidaaGuardPre
namespace Go.Proofs.Ytnnnnlnnohdidaa
open Go.RowKit Go.Shelf
theorem other2 {W : World} {b k : Nat} {o : Option Obj} (hne : b ≠ k) (h : W.heap[b]? = o) (a1 a2 : Value) : ((W.setCell ⟨k, 0, none⟩ a1).setCell ⟨k, 1, none⟩ a2).heap[b]? = o :=
  ((Below.heap_setCell _ _ _ _ hne).trans (Below.heap_setCell _ _ _ _ hne)).trans h
theorem alloc3L (w : World) (s : Lz.St) (l m : Lz.Lab) : BoxS (((w.alloc (.cells #[.string (str s.cur.1), .string (str s.cur.2), .string (str s.clr.1), .string (str s.clr.2)] 26)).alloc (.cells #[.string (str l.1), .string (str l.2)] 24)).alloc (.cells #[.string (str m.1), .string (str m.2)] 24)) w.heap.size s ∧ BoxL (((w.alloc (.cells #[.string (str s.cur.1), .string (str s.cur.2), .string (str s.clr.1), .string (str s.clr.2)] 26)).alloc (.cells #[.string (str l.1), .string (str l.2)] 24)).alloc (.cells #[.string (str m.1), .string (str m.2)] 24)) (w.heap.size + 1) l ∧ BoxL (((w.alloc (.cells #[.string (str s.cur.1), .string (str s.cur.2), .string (str s.clr.1), .string (str s.clr.2)] 26)).alloc (.cells #[.string (str l.1), .string (str l.2)] 24)).alloc (.cells #[.string (str m.1), .string (str m.2)] 24)) (w.heap.size + 1 + 1) m ∧ Below w.heap.size w (((w.alloc (.cells #[.string (str s.cur.1), .string (str s.cur.2), .string (str s.clr.1), .string (str s.clr.2)] 26)).alloc (.cells #[.string (str l.1), .string (str l.2)] 24)).alloc (.cells #[.string (str m.1), .string (str m.2)] 24)) := by
  obtain ⟨h1, h2, h3⟩ := alloc2L w s l
  refine ⟨h1.alloc _, h2.alloc _, ?_, h3.alloc h3.size _⟩
  have := Box2.new ((w.alloc (.cells #[.string (str s.cur.1), .string (str s.cur.2), .string (str s.clr.1), .string (str s.clr.2)] 26)).alloc (.cells #[.string (str l.1), .string (str l.2)] 24)) 24 (.string (str m.1)) (.string (str m.2))
  simp only [World.size_alloc] at this
  exact this
end Go.Proofs.Ytnnnnlnnohdidaa
