/- Plain mathematics of CnfTables: a table is a formula's just if more principals are never less. No program in sight. -/
import Derived.Test.YtmldammikebhiaaDoorCnf2
namespace Lz
open Go.Proofs.YtmldammikebhiaaDoor
/-- No bit of the sets below k is lost by one principal more of those below j at k. -/
def rowTo (t k : Nat) : Nat → Bool
  | 0 => true
  | j + 1 => rowTo t k j && (!t.testBit k || t.testBit (k ||| 2 ^ j))
def risesTo (t : Nat) : Nat → Bool
  | 0 => true
  | k + 1 => risesTo t k && rowTo t k 6
theorem rowTo_iff {t k j : Nat} : rowTo t k j = true ↔ ∀ i, i < j → t.testBit k = true → t.testBit (k ||| 2 ^ i) = true := by
  induction j with
  | zero => simp [rowTo]
  | succ j ih =>
    rw [rowTo, Bool.and_eq_true, ih]
    constructor
    · rintro ⟨h1, h2⟩ i hi hk
      by_cases e : i = j
      · subst e; simpa [hk] using h2
      · exact h1 i (by omega) hk
    · intro h
      refine ⟨fun i hi => h i (by omega), ?_⟩
      have := h j (by omega)
      cases hk : t.testBit k <;> simp_all
theorem risesTo_iff {t n : Nat} : risesTo t n = true ↔ ∀ k, k < n → ∀ i, i < 6 → t.testBit k = true → t.testBit (k ||| 2 ^ i) = true := by
  induction n with
  | zero => simp [risesTo]
  | succ n ih =>
    rw [risesTo, Bool.and_eq_true, ih, rowTo_iff]
    constructor
    · rintro ⟨h1, h2⟩ k hk
      by_cases e : k = n
      · subst e; exact h2
      · exact h1 k (by omega)
    · intro h
      exact ⟨fun k hk => h k (by omega), h n (by omega)⟩
theorem or_lt64 {x y : Nat} (hx : x < 64) (hy : y < 64) : x ||| y < 64 := Nat.or_lt_two_pow (n := 6) hx hy
theorem rises_chain {t : Nat} (h : risesTo t 64 = true) {x y : Nat} (hx : x < 64) (hy : y < 64) (ht : t.testBit x = true) : ∀ k, k ≤ 6 → t.testBit (x ||| y % 2 ^ k) = true := by
  intro k
  induction k with
  | zero => intro _; simpa [Nat.mod_one] using ht
  | succ k ih =>
    intro hk
    have h1 := ih (by omega)
    have hlt : x ||| y % 2 ^ k < 64 := or_lt64 hx (by have := Nat.mod_le y (2 ^ k); omega)
    have h2 := risesTo_iff.1 h _ hlt k (by omega) h1
    by_cases hb : y.testBit k = true
    · have e : x ||| y % 2 ^ (k + 1) = (x ||| y % 2 ^ k) ||| 2 ^ k := by
        apply Nat.eq_of_testBit_eq
        intro i
        simp only [Nat.testBit_or, Nat.testBit_mod_two_pow, Nat.testBit_two_pow]
        rcases Nat.lt_trichotomy i k with g | g | g
        · simp [show i < k + 1 by omega, g, show ¬ k = i by omega]
        · subst g; simp [hb]
        · simp [show ¬ i < k + 1 by omega, show ¬ i < k by omega, show ¬ k = i by omega]
      rw [e]; exact h2
    · have e : x ||| y % 2 ^ (k + 1) = x ||| y % 2 ^ k := by
        apply Nat.eq_of_testBit_eq
        intro i
        simp only [Nat.testBit_or, Nat.testBit_mod_two_pow]
        rcases Nat.lt_trichotomy i k with g | g | g
        · simp [show i < k + 1 by omega, g]
        · subst g; simp [hb]
        · simp [show ¬ i < k + 1 by omega, show ¬ i < k by omega]
      rw [e]; exact h1
theorem rises_sub {t : Nat} (h : risesTo t 64 = true) {x y : Nat} (hx : x < 64) (hy : y < 64) (hs : ∀ i, x.testBit i = true → y.testBit i = true) (ht : t.testBit x = true) : t.testBit y = true := by
  have h6 := rises_chain h hx hy ht 6 (Nat.le_refl _)
  have e : x ||| y % 2 ^ 6 = y := by
    rw [Nat.mod_eq_of_lt hy]
    apply Nat.eq_of_testBit_eq
    intro i
    rw [Nat.testBit_or]
    cases hxi : x.testBit i with
    | false => rfl
    | true => rw [hs i hxi]; rfl
  rwa [e] at h6
theorem mem_ask {t k : Nat} {c : UInt8} (hk : k ≤ 64) : c ∈ askTo t k ↔ c.toNat < k ∧ t.testBit (63 - c.toNat) = false := by
  induction k with
  | zero => simp [askTo]
  | succ k ih =>
    have ih := ih (by omega)
    have hn : (UInt8.ofNat k).toNat = k := toNat_ofNat_lt (by omega)
    unfold askTo
    split
    · rename_i hb
      rw [ih]
      constructor
      · rintro ⟨h1, h2⟩; exact ⟨by omega, h2⟩
      · rintro ⟨h1, h2⟩
        refine ⟨?_, h2⟩
        by_cases e : c.toNat = k
        · rw [e, hb] at h2; cases h2
        · omega
    · rename_i hb
      rw [List.mem_append, List.mem_singleton, ih]
      constructor
      · rintro (⟨h1, h2⟩ | rfl)
        · exact ⟨by omega, h2⟩
        · exact ⟨by omega, by rw [hn]; simpa using hb⟩
      · rintro ⟨h1, h2⟩
        by_cases e : c.toNat = k
        · exact .inr (UInt8.toNat_inj.1 (by omega))
        · exact .inl ⟨by omega, h2⟩
theorem bit_comp {c : Nat} (hc : c < 64) (i : Nat) (hi : i < 6) : (63 - c).testBit i = !c.testBit i := by
  have := Nat.testBit_two_pow_sub_succ (x := c) (n := 6) hc i
  rw [show 2 ^ 6 - (c + 1) = 63 - c by omega] at this
  rw [this, decide_eq_true hi, Bool.true_and]
theorem bit_small {x i : Nat} (hx : x < 64) (h : x.testBit i = true) : i < 6 := by
  rcases Nat.lt_or_ge i 6 with g | g
  · exact g
  · have : x < 2 ^ i := Nat.lt_of_lt_of_le hx (Nat.pow_le_pow_right (n := 2) (by omega) g)
    rw [Nat.testBit_lt_two_pow this] at h; cases h
/-- **A table is that of a formula just if more principals are never less.** -/
theorem ofT_iff (t : Nat) (ht : t < big) : Lz.table (ofT t) = t ↔ risesTo t 64 = true := by
  constructor
  · intro h
    rw [risesTo_iff]
    intro k hk i hi hb
    rw [← h, table_bit] at hb ⊢
    rw [Bool.and_eq_true] at hb ⊢
    have hp : 2 ^ i < 64 := by
      have : 2 ^ i ≤ 2 ^ 5 := Nat.pow_le_pow_right (by omega) (by omega)
      omega
    have hlt := or_lt64 hk hp
    refine ⟨decide_eq_true hlt, sat_mono (sub_iff.2 fun b _ hbb => ?_) hb.2⟩
    unfold bit at hbb ⊢
    rw [toNat_ofNat_lt (by omega)] at hbb ⊢
    rw [Nat.testBit_or, hbb]; rfl
  · intro h
    apply Nat.eq_of_testBit_eq
    intro x
    rw [table_bit]
    by_cases hx : x < 64
    · rw [decide_eq_true hx, Bool.true_and]
      have hxn : (UInt8.ofNat x).toNat = x := toNat_ofNat_lt (by omega)
      unfold ofT
      rw [sat_norm]
      cases hb : t.testBit x with
      | true =>
        rw [sat_iff]
        intro c hc
        obtain ⟨hc1, hc2⟩ := (mem_ask (Nat.le_refl 64)).1 hc
        rw [clip_lt.2 hc1, meets_iff]
        refine Decidable.byContradiction fun hno => ?_
        have hsub : ∀ i, x.testBit i = true → (63 - c.toNat).testBit i = true := by
          intro i hi
          have h6 := bit_small hx hi
          rw [bit_comp hc1 i h6]
          cases hcb : c.toNat.testBit i with
          | false => rfl
          | true => exact absurd ⟨i, by omega, hcb, by unfold bit; rw [hxn]; exact hi⟩ hno
        rw [rises_sub h hx (by omega) hsub hb] at hc2
        cases hc2
      | false =>
        rw [Bool.eq_false_iff]
        intro hs
        have hcn : (UInt8.ofNat (63 - x)).toNat = 63 - x := toNat_ofNat_lt (by omega)
        have hm : UInt8.ofNat (63 - x) ∈ askTo t 64 := (mem_ask (Nat.le_refl 64)).2 ⟨by omega, by rw [hcn, show 63 - (63 - x) = x by omega]; exact hb⟩
        have := sat_iff.1 hs _ hm
        rw [clip_lt.2 (by omega), meets_iff] at this
        obtain ⟨i, _, h1, h2⟩ := this
        unfold bit at h1 h2
        rw [hcn] at h1
        rw [hxn] at h2
        rw [bit_comp hx i (bit_small hx h2), h2] at h1
        cases h1
    · rw [decide_eq_false hx, Bool.false_and]
      symm
      apply Nat.testBit_lt_two_pow
      have : 2 ^ 64 ≤ 2 ^ x := Nat.pow_le_pow_right (by omega) (by omega)
      unfold big at ht
      omega
theorem ofT_right (t : Nat) : norm (ofT t) = ofT t := norm_norm _
end Lz
