/- A state as an argument of a statement: what it reads as, and back. No conditions. -/
import Derived.Test.YtnnnnlnnohdidaaShut
namespace Go.Proofs.Ytnnnnlnnohdidaa
open Go.ChangeShapes Go.WideShapes Go.RowKit Go.Joins

section
variable {H : Type} {enc : TypeId × Value → H} {w : World} {base : Nat} {sp : Nat → Bool} {held : Bool}
theorem cells_state : Try.prog.cellsOf 26 = 4 := by kernel_rfl
theorem open_state {r : Reach} {b0 : Nat} {v : Value} {d : DataW H} {ps : List MemPlace} (hv : Value.okWide Try.prog w r b0 26 v) (h : DataW.Trod enc Try.prog w base sp held 26 v d ps) :
    ∃ a b c e : ByteArray, v = .agg #[.string a, .string b, .string c, .string e] ∧ d = .agg [.agg [.lit (.string a.data.toList), .lit (.string b.data.toList)], .agg [.lit (.string c.data.toList), .lit (.string e.data.toList)]] ∧ ps = [] ∧ a.size ≤ maxLen ∧ b.size ≤ maxLen ∧ c.size ≤ maxLen ∧ e.size ≤ maxLen := by
  obtain ⟨cs, rfl, hsz⟩ := okWide_struct Try.underlying26 hv
  obtain ⟨c0, c1, c2, c3, rfl⟩ := array4 (hsz.trans cells_state)
  obtain ⟨fuel, hf⟩ := h
  have hf' : DataW.trod enc Try.prog w base sp held fuel 26 [c0, c1, c2, c3] = some (d, ps) := by simpa [Value.cells] using hf
  obtain ⟨y0, y1, m, hx, _, h0, h1⟩ := trod_struct2 Try.underlying26 hf'
  simp only [cells_label, List.drop_zero, List.drop_succ_cons, List.take_succ_cons, List.take_zero] at h0 h1
  obtain ⟨a, b, rfl, rfl, hy0, ha, hb⟩ := trod_label h0
  obtain ⟨c, e, rfl, rfl, hy1, hc, he⟩ := trod_label h1
  subst hy0 hy1
  simp only [Prod.mk.injEq] at hx
  exact ⟨a, b, c, e, rfl, hx.1, by simpa using hx.2, ha, hb, hc, he⟩
theorem shut_state {a b c e : ByteArray} (ha : a.size ≤ maxLen) (hb : b.size ≤ maxLen) (hc : c.size ≤ maxLen) (he : e.size ≤ maxLen) :
    DataW.Trod enc Try.prog w base sp held 26 (.agg #[.string a, .string b, .string c, .string e]) (.agg [.agg [.lit (.string a.data.toList), .lit (.string b.data.toList)], .agg [.lit (.string c.data.toList), .lit (.string e.data.toList)]]) [] := by
  have h0 := trod_label_mk (enc := enc) (w := w) (base := base) (sp := sp) (held := held) ha hb 0
  have h1 := trod_label_mk (enc := enc) (w := w) (base := base) (sp := sp) (held := held) hc he 0
  have := trod_struct2_mk (enc := enc) (w := w) (base := base) (spare := sp) (held := held) (n := 2) (cs := [.string a, .string b, .string c, .string e]) (y0 := (.agg [.lit (.string a.data.toList), .lit (.string b.data.toList)], [])) (y1 := (.agg [.lit (.string c.data.toList), .lit (.string e.data.toList)], [])) Try.underlying26 (by rw [cells_state]; rfl)
    (by simp only [cells_label, List.drop_zero, List.take_succ_cons, List.take_zero]; exact h0) (by simp only [cells_label, List.drop_succ_cons, List.drop_zero, List.take_succ_cons, List.take_zero]; exact h1)
  exact ⟨3, by simpa [Value.cells] using this⟩
end
end Go.Proofs.Ytnnnnlnnohdidaa
