/- A label as an argument of a statement: what it reads as, and back. No conditions. -/
import Derived.Test.YtiagoiannccdmaaDoorPairs
import Derived.Lib.SmallJoins
import Derived.SevenTiedAt
namespace Go.Proofs.YtiagoiannccdmaaDoor
open Go.ChangeShapes Go.WideShapes Go.RowKit Go.Joins

section
variable {H : Type} {enc : TypeId × Value → H} {w : World} {base : Nat} {sp : Nat → Bool} {held : Bool}
theorem cells_form : Tryd.prog.cellsOf 22 = 1 := by kernel_rfl
theorem cells_label : Tryd.prog.cellsOf 24 = 2 := by kernel_rfl
set_option maxRecDepth 100000 in
theorem trod_label {n : Nat} {c0 c1 : Value} {y : DataW H × List MemPlace} (h : DataW.trod enc Tryd.prog w base sp held n 24 [c0, c1] = some y) :
    ∃ a b : ByteArray, c0 = .string a ∧ c1 = .string b ∧ y = (.agg [.lit (.string a.data.toList), .lit (.string b.data.toList)], []) ∧ a.size ≤ maxLen ∧ b.size ≤ maxLen := by
  obtain ⟨y0, y1, m, hx, _, h0, h1⟩ := trod_struct2 Tryd.underlying24 h
  simp only [cells_form, List.drop_zero, List.drop_succ_cons, List.take_succ_cons, List.take_zero] at h0 h1
  obtain ⟨a, ha, hxa, hsa⟩ := DataW.trod_string Tryd.underlying22 h0
  obtain ⟨b, hb, hxb, hsb⟩ := DataW.trod_string Tryd.underlying22 h1
  simp only [List.cons.injEq, and_true] at ha hb
  subst hxa hxb
  exact ⟨a, b, ha, hb, by simpa using hx, hsa, hsb⟩
set_option maxRecDepth 100000 in
theorem trod_label_mk {a b : ByteArray} (ha : a.size ≤ maxLen) (hb : b.size ≤ maxLen) (n : Nat) :
    DataW.trod enc Tryd.prog w base sp held (n + 2) 24 [.string a, .string b] = some (.agg [.lit (.string a.data.toList), .lit (.string b.data.toList)], []) := by
  have s : ∀ (z : ByteArray), z.size ≤ maxLen → DataW.trod enc Tryd.prog w base sp held (n + 1) 22 [.string z] = some (.lit (.string z.data.toList), []) := fun z hz => by
    simp [DataW.trod, Tryd.underlying22, hz]
  have := trod_struct2_mk (enc := enc) (w := w) (base := base) (spare := sp) (held := held) (n := n + 1) (cs := [.string a, .string b]) (y0 := (.lit (.string a.data.toList), [])) (y1 := (.lit (.string b.data.toList), [])) Tryd.underlying24 (by rw [cells_label]; rfl)
    (by simp only [cells_form, List.drop_zero, List.take_succ_cons, List.take_zero]; exact s a ha) (by simp only [cells_form, List.drop_succ_cons, List.drop_zero, List.take_succ_cons, List.take_zero]; exact s b hb)
  simpa using this
set_option maxRecDepth 100000 in
theorem open_label {r : Reach} {b0 : Nat} {v : Value} {d : DataW H} {ps : List MemPlace} (hv : Value.okWide Tryd.prog w r b0 24 v) (h : DataW.Trod enc Tryd.prog w base sp held 24 v d ps) :
    ∃ a b : ByteArray, v = .agg #[.string a, .string b] ∧ d = .agg [.lit (.string a.data.toList), .lit (.string b.data.toList)] ∧ ps = [] ∧ a.size ≤ maxLen ∧ b.size ≤ maxLen := by
  obtain ⟨cs, rfl, hsz⟩ := okWide_struct Tryd.underlying24 hv
  obtain ⟨c0, c1, rfl⟩ := array2 (hsz.trans cells_label)
  obtain ⟨fuel, hf⟩ := h
  have hf' : DataW.trod enc Tryd.prog w base sp held fuel 24 [c0, c1] = some (d, ps) := by simpa [Value.cells] using hf
  obtain ⟨a, b, rfl, rfl, hy, ha, hb⟩ := trod_label hf'
  simp only [Prod.mk.injEq] at hy
  exact ⟨a, b, rfl, hy.1, hy.2, ha, hb⟩
set_option maxRecDepth 100000 in
theorem shut_label {a b : ByteArray} (ha : a.size ≤ maxLen) (hb : b.size ≤ maxLen) :
    DataW.Trod enc Tryd.prog w base sp held 24 (.agg #[.string a, .string b]) (.agg [.lit (.string a.data.toList), .lit (.string b.data.toList)]) [] :=
  ⟨2, by have := trod_label_mk (enc := enc) (w := w) (base := base) (sp := sp) (held := held) ha hb 0; simpa [Value.cells] using this⟩
end
end Go.Proofs.YtiagoiannccdmaaDoor
