/- Two states held against one another. No conditions. -/
import Derived.Test.YtnnnnlnnohdidaaGuard7
namespace Go.Proofs.Ytnnnnlnnohdidaa
open Go.RowKit Go.Shelf
theorem stateStruct : Try.prog.underlying 26 = some (.struct (Try.prog.fieldsOf 26)) := by kernel_rfl
theorem stateStood : Try.prog.stoodInHeld 26 = false := by kernel_rfl
theorem stateGuard : Try.prog.eqGuardType Try.prog.depth 26 = false := by kernel_rfl
theorem equal_state (n : Nat) (a b c d : ByteArray) (w : World) : (Op.equalIn (n + 6) 26 (.agg #[.string a, .string b, .string c, .string d]) (.agg #[.string a, .string b, .string c, .string d])).run Try.prog w = .ok true w := by
  rw [run_equalIn_agg w (n + 5) 26 _ _ stateStruct stateStood]
  simp only [Program.fieldsOf, Try.underlying26]
  have e1 := equal_label (n + 2) a b a b w
  have e2 := equal_label (n + 2) c d c d w
  simp only [beq_self_eq_true, Bool.and_self] at e1 e2
  go_simp
theorem eql_state (a b c d : ByteArray) (w : World) : (binOp .eql 26 (.agg #[.string a, .string b, .string c, .string d]) (.agg #[.string a, .string b, .string c, .string d])).run Try.prog w = .ok (.bool true) w := by
  rw [run_eql_struct, show (10000 : Nat) = 9994 + 6 from rfl, equal_state]; rfl
theorem neq_state (a b c d : ByteArray) (w : World) : (binOp .neq 26 (.agg #[.string a, .string b, .string c, .string d]) (.agg #[.string a, .string b, .string c, .string d])).run Try.prog w = .ok (.bool false) w := by
  rw [run_neq_struct, show (10000 : Nat) = 9994 + 6 from rfl, equal_state]; rfl
theorem alloc2L (w : World) (s : Lz.St) (l : Lz.Lab) : BoxS ((w.alloc (.cells #[.string (str s.cur.1), .string (str s.cur.2), .string (str s.clr.1), .string (str s.clr.2)] 26)).alloc (.cells #[.string (str l.1), .string (str l.2)] 24)) w.heap.size s ∧ BoxL ((w.alloc (.cells #[.string (str s.cur.1), .string (str s.cur.2), .string (str s.clr.1), .string (str s.clr.2)] 26)).alloc (.cells #[.string (str l.1), .string (str l.2)] 24)) (w.heap.size + 1) l ∧ Below w.heap.size w ((w.alloc (.cells #[.string (str s.cur.1), .string (str s.cur.2), .string (str s.clr.1), .string (str s.clr.2)] 26)).alloc (.cells #[.string (str l.1), .string (str l.2)] 24)) := by
  refine ⟨(Box4.new w _ _ _ _ _).alloc _, ?_, ((Below.refl _ w).alloc (Nat.le_refl _) _).alloc (by simp) _⟩
  have := Box2.new (w.alloc (.cells #[.string (str s.cur.1), .string (str s.cur.2), .string (str s.clr.1), .string (str s.clr.2)] 26)) 24 (.string (str l.1)) (.string (str l.2))
  rw [World.size_alloc] at this
  exact this
/-- A block that a store into another block left as it was. -/
theorem other4 {W : World} {b k : Nat} {o : Option Obj} (hne : b ≠ k) (h : W.heap[b]? = o) (a1 a2 a3 a4 : Value) : ((((W.setCell ⟨k, 0, none⟩ a1).setCell ⟨k, 1, none⟩ a2).setCell ⟨k, 2, none⟩ a3).setCell ⟨k, 3, none⟩ a4).heap[b]? = o :=
  ((Below.heap_setCell _ _ _ _ hne).trans ((Below.heap_setCell _ _ _ _ hne).trans ((Below.heap_setCell _ _ _ _ hne).trans (Below.heap_setCell _ _ _ _ hne)))).trans h
end Go.Proofs.Ytnnnnlnnohdidaa
