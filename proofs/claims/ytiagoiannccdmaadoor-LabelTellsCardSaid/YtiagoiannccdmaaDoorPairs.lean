/- Labels as pairs of lists: the contracts of label.Flows, Norm, Join said of them. Condition: the formulas' lengths. -/
import Derived.Test.YtiagoiannccdmaaDoorLabel3
import Derived.Test.YtiagoiannccdmaaDoorOrd2
namespace Go.Proofs.YtiagoiannccdmaaDoor
open Go.RowKit Go.Shelf
abbrev pv (a : Lz.Lab) : Value := .agg #[.string (str a.1), .string (str a.2)]
abbrev BoxL (W : World) (B : Nat) (a : Lz.Lab) : Prop := Box2 W B 24 (.string (str a.1)) (.string (str a.2))
/-- Formulas of lengths in bounds. -/
def okL (a : Lz.Lab) : Prop := a.1.length ≤ 1000000 ∧ a.2.length ≤ 1000000
theorem okL.l {a : Lz.Lab} (h : okL a) : (str a.1).size ≤ 1000000 := h.1
theorem okL.r {a : Lz.Lab} (h : okL a) : (str a.2).size ≤ 1000000 := h.2
theorem flows_p (a b : Lz.Lab) (ha : okL a) (hb : okL b) (w : World) : Calls Tryd.prog 11 #[pv a, pv b] w fun e w' => e = .returned (.bool (Lz.fl a b)) ∧ Below w.heap.size w w' := by
  have := flows_any (str a.1) (str a.2) (str b.1) (str b.2) ha.l ha.r hb.l hb.r w
  simp only [lst_str] at this
  exact this
theorem norm_len (l : List UInt8) : (Lz.norm l).length ≤ 1000000 := Nat.le_trans (leastTo_length _ 256) (by decide)
theorem and_len (a b : List UInt8) : (Lz.and a b).length ≤ 1000000 := norm_len _
theorem or_len (a b : List UInt8) : (Lz.or a b).length ≤ 1000000 := norm_len _
theorem okL_nrm (a : Lz.Lab) : okL (Lz.nrm a) := ⟨norm_len _, norm_len _⟩
theorem okL_jn (a b : Lz.Lab) : okL (Lz.jn a b) := ⟨and_len _ _, or_len _ _⟩
theorem okL_mt (a b : Lz.Lab) : okL (Lz.mt a b) := ⟨or_len _ _, and_len _ _⟩
theorem norm_p (a : Lz.Lab) (ha : okL a) (w : World) : Calls Tryd.prog 12 #[pv a] w fun e w' => e = .returned (pv (Lz.nrm a)) ∧ Below w.heap.size w w' := by
  have := labelNorm_any (str a.1) (str a.2) ha.l ha.r w
  simp only [lst_str] at this
  exact this
theorem join_p (a b : Lz.Lab) (ha : okL a) (hb : okL b) (w : World) : Calls Tryd.prog 16 #[pv a, pv b] w fun e w' => e = .returned (pv (Lz.jn a b)) ∧ Below w.heap.size w w' := by
  have := join_any (str a.1) (str a.2) (str b.1) (str b.2) ha.l ha.r hb.l hb.r w
  simp only [lst_str] at this
  exact this


end Go.Proofs.YtiagoiannccdmaaDoor
