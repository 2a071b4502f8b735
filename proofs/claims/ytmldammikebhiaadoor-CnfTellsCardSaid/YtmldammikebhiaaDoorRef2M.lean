/- Plain mathematics: what the document's Parse of chapter 2 tells is what parseF tells. No program in sight; no conditions. -/
import Derived.Test.YtmldammikebhiaaDoorCnfBackM
import Derived.Test.YtmldammikebhiaaDoorRef1b
namespace Go.Proofs.YtmldammikebhiaaDoor
open Lz
/-- The clauses of words. -/
def clauseOf (ps : List (List UInt8)) : List UInt8 := ps.map fun p => (parseP p).1
theorem clauseOf_snoc (ps : List (List UInt8)) (p : List UInt8) : clauseOf (ps ++ [p]) = clauseOf ps ++ [(parseP p).1] := by simp [clauseOf]
theorem clauseOf_length (ps : List (List UInt8)) : (clauseOf ps).length = ps.length := by simp [clauseOf]
/-- Where the document's loop stands: the words ahead of `from` are read and are clauses; behind it comes no bar up to `i`. -/
def ReadTo (t : List UInt8) (ps : List (List UInt8)) (fr i : Nat) : Prop :=
  (∀ p, p ∈ ps → (parseP p).2 = true) ∧ ((i ≤ t.length ∧ fr ≤ i ∧ pieces 38 t = ps ++ pieces 38 (t.drop fr) ∧ 38 ∉ (t.drop fr).take (i - fr)) ∨ (i = t.length + 1 ∧ pieces 38 t = ps))
theorem readTo_start (t : List UInt8) : ReadTo t [] 0 0 := ⟨(fun p h => by cases h), .inl ⟨by omega, by omega, rfl, by simp⟩⟩
/-- The word that ends at i. -/
def wordAt (t : List UInt8) (fr i : Nat) : List UInt8 := (t.drop fr).take (i - fr)
theorem drop_split {t : List UInt8} {fr i : Nat} (h1 : fr ≤ i) (h2 : i < t.length) : t.drop fr = wordAt t fr i ++ t[i] :: t.drop (i + 1) := by
  unfold wordAt
  have : t.drop fr = (t.drop fr).take (i - fr) ++ (t.drop fr).drop (i - fr) := (List.take_append_drop _ _).symm
  rw [List.drop_drop] at this
  rw [show fr + (i - fr) = i from by omega] at this
  rw [← List.drop_eq_getElem_cons h2]
  exact this
theorem readTo_on {t : List UInt8} {ps : List (List UInt8)} {fr i : Nat} (h : ReadTo t ps fr i) (hi : i < t.length) (hne : t[i] ≠ 38) : ReadTo t ps fr (i + 1) := by
  obtain ⟨h0, h | h⟩ := h
  · obtain ⟨h1, h2, h3, h4⟩ := h
    refine ⟨h0, .inl ⟨by omega, by omega, h3, ?_⟩⟩
    have hl : i - fr < (t.drop fr).length := by rw [List.length_drop]; omega
    rw [show i + 1 - fr = (i - fr) + 1 from by omega, List.take_succ_eq_append_getElem hl]
    intro hm
    rcases List.mem_append.1 hm with hm | hm
    · exact h4 hm
    · rw [List.mem_singleton, List.getElem_drop] at hm
      have : t[fr + (i - fr)]'(by omega) = t[i] := by congr 1; omega
      rw [this] at hm
      exact hne hm.symm
  · omega
theorem readTo_le {t : List UInt8} {ps : List (List UInt8)} {fr i : Nat} (h : ReadTo t ps fr i) (hi : i ≤ t.length) : fr ≤ i ∧ pieces 38 t = ps ++ pieces 38 (t.drop fr) ∧ 38 ∉ wordAt t fr i := by
  obtain ⟨_, h | h⟩ := h
  · exact ⟨h.2.1, h.2.2.1, h.2.2.2⟩
  · omega
theorem readTo_bar {t : List UInt8} {ps : List (List UInt8)} {fr i : Nat} (h : ReadTo t ps fr i) (hi : i < t.length) (he : t[i] = 38) : pieces 38 t = (ps ++ [wordAt t fr i]) ++ pieces 38 (t.drop (i + 1)) := by
  obtain ⟨h1, h2, h3⟩ := readTo_le h (by omega)
  rw [h2, drop_split h1 hi, he, pieces_word 38 _ _ h3, List.append_assoc]
  rfl
theorem readTo_last {t : List UInt8} {ps : List (List UInt8)} {fr : Nat} (h : ReadTo t ps fr t.length) : pieces 38 t = ps ++ [wordAt t fr t.length] := by
  obtain ⟨h1, h2, h3⟩ := readTo_le h (Nat.le_refl _)
  have e : t.drop fr = wordAt t fr t.length := by
    unfold wordAt
    rw [List.take_of_length_le (by rw [List.length_drop]; omega)]
  rw [h2]
  congr 1
  rw [e]
  exact pieces_last 38 _ h3
theorem readTo_word {t : List UInt8} {ps : List (List UInt8)} {fr i : Nat} (h : ReadTo t ps fr i) (hi : i < t.length) (he : t[i] = 38) (hp : (parseP (wordAt t fr i)).2 = true) : ReadTo t (ps ++ [wordAt t fr i]) (i + 1) (i + 1) := by
  refine ⟨fun p hm => ?_, .inl ⟨by omega, by omega, readTo_bar h hi he, by simp⟩⟩
  rcases List.mem_append.1 hm with hm | hm
  · exact h.1 p hm
  · rw [List.mem_singleton] at hm; subst hm; exact hp
theorem readTo_end {t : List UInt8} {ps : List (List UInt8)} {fr : Nat} (h : ReadTo t ps fr t.length) (hp : (parseP (wordAt t fr t.length)).2 = true) : ReadTo t (ps ++ [wordAt t fr t.length]) (t.length + 1) (t.length + 1) := by
  refine ⟨fun p hm => ?_, .inr ⟨rfl, readTo_last h⟩⟩
  rcases List.mem_append.1 hm with hm | hm
  · exact h.1 p hm
  · rw [List.mem_singleton] at hm; subst hm; exact hp
theorem readTo_prefix {t : List UInt8} {ps : List (List UInt8)} {fr i : Nat} (h : ReadTo t ps fr i) (hi : i < t.length → ∀ h : i < t.length, t[i] = 38) (hl : i ≤ t.length) : ps ++ [wordAt t fr i] <+: pieces 38 t := by
  by_cases hlt : i < t.length
  · exact ⟨_, (readTo_bar h hlt (hi hlt hlt)).symm⟩
  · obtain rfl : i = t.length := by omega
    exact ⟨[], by rw [List.append_nil]; exact (readTo_last h).symm⟩
theorem colStep_acc (acc x : List UInt8) : colStep (some acc) x = if (parseP x).2 = true ∧ (parseP x).1 ≠ 0 ∧ acc.length ≠ 64 then some (acc ++ [(parseP x).1]) else none := rfl
theorem colStep_bad {o : Option (List UInt8)} {x : List UInt8} (h : (parseP x).2 = false) : colStep o x = none := by
  cases o with
  | none => rfl
  | some acc => rw [colStep_acc, if_neg]; rw [h]; exact fun e => by cases e.1
theorem col_bad {t : List UInt8} {ps : List (List UInt8)} {x : List UInt8} (h : ps ++ [x] <+: pieces 38 t) (hp : (parseP x).2 = false) : col (pieces 38 t) = none :=
  col_prefix h (by rw [col_snoc]; exact colStep_bad hp)
theorem col_some : ∀ (r : List (List UInt8)) (o : Option (List UInt8)) (f : List UInt8), r.foldl colStep o = some f → ∃ a, o = some a ∧ f = a ++ clauseOf r ∧ ∀ x, x ∈ r → (parseP x).2 = true ∧ (parseP x).1 ≠ 0
  | [], o, f, h => ⟨f, h, by simp [clauseOf], fun x hx => by cases hx⟩
  | x :: r, o, f, h => by
    obtain ⟨a, h1, h2, h3⟩ := col_some r (colStep o x) f h
    cases o with
    | none => cases h1
    | some acc =>
      rw [colStep_acc] at h1
      by_cases hc : (parseP x).2 = true ∧ (parseP x).1 ≠ 0 ∧ acc.length ≠ 64
      · rw [if_pos hc] at h1
        cases h1
        refine ⟨acc, rfl, by rw [h2]; simp [clauseOf], fun y hy => ?_⟩
        rcases List.mem_cons.1 hy with rfl | hy
        · exact ⟨hc.1, hc.2.1⟩
        · exact h3 y hy
      · rw [if_neg hc] at h1; cases h1
theorem pieces_inj (c : UInt8) : ∀ (u v : List UInt8), pieces c u = pieces c v → u = v
  | [], [], _ => rfl
  | [], b :: v, h => by
    unfold pieces at h
    split at h
    · have := congrArg List.length h
      have h2 := pieces_ne c v
      simp at this; exact absurd this h2
    · have := congrArg List.head? h; simp at this
  | b :: u, [], h => by
    unfold pieces at h
    split at h
    · have := congrArg List.length h
      have h2 := pieces_ne c u
      simp at this; exact absurd this h2
    · have := congrArg List.head? h; simp at this
  | b :: u, d :: v, h => by
    unfold pieces at h
    by_cases hb : (b == c) = true
    · rw [if_pos hb] at h
      by_cases hd : (d == c) = true
      · rw [if_pos hd] at h
        rw [eq_of_beq hb, eq_of_beq hd, pieces_inj c u v (List.cons.inj h).2]
      · rw [if_neg hd] at h
        have := (List.cons.inj h).1; cases this
    · rw [if_neg hb] at h
      by_cases hd : (d == c) = true
      · rw [if_pos hd] at h
        have := (List.cons.inj h).1; cases this
      · rw [if_neg hd] at h
        obtain ⟨h1, h2⟩ := List.cons.inj h
        obtain ⟨h3, h4⟩ := List.cons.inj h1
        have e : pieces c u = pieces c v := by rw [← pieces_eta c u, ← pieces_eta c v, h4, h2]
        rw [h3, pieces_inj c u v e]
theorem readTo_len {t : List UInt8} {ps : List (List UInt8)} {fr i : Nat} (h : ReadTo t ps fr i) : ps.length ≤ t.length + 1 := by
  have hl := pieces_length 38 t
  obtain ⟨_, h | h⟩ := h
  · rw [h.2.2.1, List.length_append] at hl; omega
  · rw [h.2] at hl; exact hl
theorem wordAt_extract (b : ByteArray) (fr i : Nat) (h : fr ≤ i) : b.extract fr i = str (wordAt b.data.toList fr i) := by
  apply ByteArray.ext
  rw [← Array.toList_inj]
  simp [str, wordAt, List.extract]
/-- What the document's Parse tells of the clauses of all words. -/
theorem refParse_all {t : List UInt8} {ps : List (List UInt8)} {fr : Nat} (h : ReadTo t ps fr (t.length + 1)) (h1 : (t == [84]) = false) (h2 : (t == [70]) = false) :
    parseF t = if textF (clauseOf ps) = t ∧ norm (clauseOf ps) = clauseOf ps then (clauseOf ps, true) else ([], false) := by
  have hps : pieces 38 t = ps := by
    obtain ⟨_, h | h⟩ := h
    · omega
    · exact h.2
  by_cases hc : textF (clauseOf ps) = t ∧ norm (clauseOf ps) = clauseOf ps
  · rw [if_pos hc]
    have := parseF_textF (clauseOf ps)
    rw [hc.1, hc.2] at this
    exact this
  · rw [if_neg hc]
    cases hcol : col (pieces 38 t) with
    | none => exact parseF_none h1 h2 hcol
    | some f =>
      rw [parseF_some h1 h2 hcol]
      obtain ⟨a, ha, hf, hall⟩ := col_some (pieces 38 t) (some []) f hcol
      cases ha
      rw [List.nil_append, hps] at hf
      subst hf
      by_cases hn : norm (clauseOf ps) = clauseOf ps
      · refine absurd ⟨?_, hn⟩ hc
        have hmem : ∀ c, c ∈ clauseOf ps → c.toNat < 64 ∧ c ≠ 0 := by
          intro c hm
          obtain ⟨x, hx, rfl⟩ := List.mem_map.1 hm
          rw [← hps] at hx
          exact ⟨(parseP_yes (hall x hx).1).1, (hall x hx).2⟩
        have hne : clauseOf ps ≠ [] := by
          intro e
          have hl := clauseOf_length ps
          rw [e] at hl
          have : ps = [] := List.eq_nil_of_length_eq_zero hl.symm
          rw [this] at hps
          exact pieces_ne 38 t hps
        have hn0 : clauseOf ps ≠ [0] := fun e => (hmem 0 (by rw [e]; simp)).2 rfl
        have ht : textF (clauseOf ps) = textC (clauseOf ps) := by
          unfold textF; rw [hn, if_neg hne, if_neg hn0]
        rw [ht]
        apply pieces_inj 38
        rw [pieces_textC _ hne (fun c hm => (hmem c hm).1), hps]
        unfold clauseOf
        rw [List.map_map]
        conv => rhs; rw [← List.map_id ps]
        apply List.map_congr_left
        intro x hx
        rw [← hps] at hx
        exact (parseP_yes (hall x hx).1).2
      · rw [if_neg hn]
end Go.Proofs.YtmldammikebhiaaDoor
