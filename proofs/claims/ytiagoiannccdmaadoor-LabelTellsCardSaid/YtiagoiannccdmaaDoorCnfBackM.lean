/- Plain mathematics of CnfBack: what is put is got, what is shown is parsed. No conditions. -/
import Derived.Test.YtiagoiannccdmaaDoorCnfParse
import Derived.Test.YtiagoiannccdmaaDoorCnfGet
import Derived.Test.YtiagoiannccdmaaDoorCnfPut
namespace Lz
theorem pieces_split (c : UInt8) : ∀ (u v : List UInt8), pieces c (u ++ c :: v) = pieces c u ++ pieces c v
  | [], v => by simp [pieces]
  | b :: u, v => by
    have ih := pieces_split c u v
    by_cases hb : (b == c) = true
    · rw [List.cons_append, pieces, if_pos hb, ih, pieces, if_pos hb]; rfl
    · rw [List.cons_append, pieces, if_neg hb, ih, pieces, if_neg hb]
      cases h : pieces c u with
      | nil => exact absurd h (pieces_ne c u)
      | cons a t => rfl
theorem zero_norm {f : List UInt8} (h : (0 : UInt8) ∈ norm f) : norm f = [0] := by
  have z : ∀ c : UInt8, sub 0 c = true := fun c => sub_iff.2 fun i _ hb => by rw [bit_zero] at hb; cases hb
  have h0 := (mem_least.1 h).1
  refine Rises.ext (least_rises _) (List.pairwise_singleton _ _) fun c => ?_
  rw [List.mem_singleton]
  constructor
  · intro hc; exact ((mem_least.1 hc).2 0 h0 (z c)).symm
  · intro e; subst e; exact h
end Lz
namespace Go.Proofs.YtiagoiannccdmaaDoor
open Go.RowKit Go.Shelf
theorem text_no38 (c : UInt8) (h : c.toNat < 64) : (38 : UInt8) ∉ textP c := by
  have := of_all64 (fun s => !(textP s).contains 38) (by decide +kernel) c h
  simpa using this
theorem parse_text (c : UInt8) (h : c.toNat < 64) (h0 : c ≠ 0) : parseP (textP c) = (c, true) := by
  have := of_all64 (fun s => s == 0 || parseP (textP s) == (s, true)) (by decide +kernel) c h
  simpa [h0] using this
theorem pieces_textC : ∀ (l : List UInt8), l ≠ [] → (∀ c, c ∈ l → c.toNat < 64) → Lz.pieces 38 (textC l) = l.map textP := by
  have h : ∀ (r : List UInt8) (l : List UInt8), l = r.reverse → l ≠ [] → (∀ c, c ∈ l → c.toNat < 64) → Lz.pieces 38 (textC l) = l.map textP := by
    intro r
    induction r with
    | nil => intro l e hne; exact absurd e hne
    | cons c r ih =>
      intro l e hne hlt
      rw [List.reverse_cons] at e
      subst e
      have hc : c.toNat < 64 := hlt c (by simp)
      rw [textC_snoc, List.map_append, List.map_cons, List.map_nil]
      unfold joinC
      by_cases hr : r.reverse = []
      · have : textC r.reverse = [] := by rw [hr]; rfl
        rw [if_pos this, hr, List.nil_append, Lz.pieces_last 38 _ (text_no38 c hc)]; rfl
      · rw [if_neg (textC_ne hr), List.append_assoc, List.singleton_append, Lz.pieces_split, ih _ rfl hr (fun d hd => hlt d (by simp at hd ⊢; exact .inl hd)), Lz.pieces_last 38 _ (text_no38 c hc)]
  intro l hne hlt
  exact h l.reverse l (by simp) hne hlt
theorem col_map : ∀ (l : List UInt8), l.length ≤ 64 → (∀ c, c ∈ l → c.toNat < 64 ∧ c ≠ 0) → col (l.map textP) = some l := by
  have h : ∀ (r : List UInt8) (l : List UInt8), l = r.reverse → l.length ≤ 64 → (∀ c, c ∈ l → c.toNat < 64 ∧ c ≠ 0) → col (l.map textP) = some l := by
    intro r
    induction r with
    | nil => intro l e _ _; subst e; rfl
    | cons c r ih =>
      intro l e hl hlt
      rw [List.reverse_cons] at e
      subst e
      rw [List.length_append] at hl
      simp only [List.length_cons, List.length_nil] at hl
      have hc := hlt c (by simp)
      rw [List.map_append, List.map_cons, List.map_nil, col_snoc, ih _ rfl (by omega) (fun d hd => hlt d (by simp at hd ⊢; exact .inl hd))]
      unfold colStep
      simp only
      rw [parse_text c hc.1 hc.2, if_pos ⟨rfl, hc.2, by omega⟩]
  intro l hl hlt
  exact h l.reverse l (by simp) hl hlt
/-- **What is shown is parsed, as what is right and says the same.** -/
theorem parseF_textF (f : List UInt8) : parseF (textF f) = (Lz.norm f, true) := by
  unfold textF
  by_cases h1 : Lz.norm f = []
  · rw [if_pos h1, h1]; rfl
  · by_cases h2 : Lz.norm f = [0]
    · rw [if_neg h1, if_pos h2, h2]; rfl
    · rw [if_neg h1, if_neg h2]
      have hlt : ∀ c, c ∈ Lz.norm f → c.toNat < 64 ∧ c ≠ 0 := fun c hc => ⟨Lz.norm_lt hc, fun e => h2 (Lz.zero_norm (by rw [← e]; exact hc))⟩
      have hp := pieces_textC _ h1 fun c hc => (hlt c hc).1
      have hcol := col_map _ (Lz.norm_len64 f) hlt
      have hno : ∀ b : UInt8, parseP [b] = (0, false) → Lz.pieces 38 [b] = [[b]] → textC (Lz.norm f) ≠ [b] := by
        intro b hb hpb e
        rw [e, hpb] at hp
        cases hn : Lz.norm f with
        | nil => exact h1 hn
        | cons c t =>
          rw [hn, List.map_cons] at hp
          have hc := hlt c (by rw [hn]; simp)
          have := parse_text c hc.1 hc.2
          rw [← (List.cons.inj hp).1, hb] at this
          exact hc.2 (Prod.mk.inj this).1.symm
      have n1 := hno 84 (by decide +kernel) (by decide)
      have n2 := hno 70 (by decide +kernel) (by decide)
      rw [parseF_some (by simpa using n1) (by simpa using n2) (by rw [hp]; exact hcol), if_pos (Lz.norm_norm f)]
theorem textF_iff (f g : List UInt8) : (textF f == textF g) = (Lz.norm f == Lz.norm g) := by
  rw [Bool.eq_iff_iff, beq_iff_eq, beq_iff_eq]
  constructor
  · intro h
    have h1 := parseF_textF f
    rw [h, parseF_textF g] at h1
    exact (Prod.mk.inj h1).1.symm
  · intro h; unfold textF; rw [h]
theorem putL_iff (f g : List UInt8) : (putL f == putL g) = (Lz.norm f == Lz.norm g) := by
  rw [Bool.eq_iff_iff, beq_iff_eq, beq_iff_eq]
  constructor
  · intro h; exact (List.cons.inj h).2
  · intro h; unfold putL; rw [h]
/-- **What is put is got where it stands.** -/
theorem getF_putL (a f b : List UInt8) : getF (a ++ putL f ++ b) (a.length : Int) = (Lz.norm f, (a.length : Int) + 1 + (Lz.norm f).length, true) := by
  have hl := Lz.norm_len64 f
  unfold getF
  have e1 : (a ++ putL f ++ b).getD a.length 0 = UInt8.ofNat (Lz.norm f).length := by
    unfold putL
    rw [List.getD_eq_getElem?_getD, List.append_assoc, List.getElem?_append_right (Nat.le_refl _), Nat.sub_self]
    rfl
  have e2 : (a ++ putL f ++ b).length = a.length + (1 + (Lz.norm f).length) + b.length := by
    unfold putL; simp; omega
  have e3 : ((a ++ putL f ++ b).drop (a.length + 1)).take (Lz.norm f).length = Lz.norm f := by
    unfold putL
    rw [List.append_assoc, ← List.drop_drop, List.drop_left, List.cons_append, List.drop_succ_cons, List.drop_zero, List.take_left]
  rw [Int.toNat_natCast, e1, Lz.toNat_ofNat_lt (by omega), if_pos ⟨by omega, by rw [e2]; omega⟩, if_pos (by rw [e2]; omega), e3, if_pos (Lz.norm_norm f)]
end Go.Proofs.YtiagoiannccdmaaDoor
