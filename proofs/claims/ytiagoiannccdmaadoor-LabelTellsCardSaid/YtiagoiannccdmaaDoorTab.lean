/- Plain mathematics of tables of 64 bits, and the model's operations on them. No conditions. -/
import Derived.Test.YtiagoiannccdmaaDoorBase
import Derived.Laws.Bits64
namespace Lz
/-- The table of what b says, of numbers below k. -/
def tableTo (b : Nat → Bool) : Nat → Nat
  | 0 => 0
  | k + 1 => if b k then tableTo b k ||| 2 ^ k else tableTo b k
theorem tableTo_lt (b : Nat → Bool) (k : Nat) : tableTo b k < 2 ^ k := by
  induction k with
  | zero => simp [tableTo]
  | succ k ih =>
    have h1 : 2 ^ k < 2 ^ (k + 1) := Nat.pow_lt_pow_right (by decide) (by omega)
    unfold tableTo
    split
    · exact Nat.or_lt_two_pow (by omega) h1
    · omega
theorem tableTo_bit (b : Nat → Bool) (k i : Nat) : (tableTo b k).testBit i = (decide (i < k) && b i) := by
  induction k with
  | zero => simp [tableTo]
  | succ k ih =>
    unfold tableTo
    split
    · rename_i hb
      rw [Nat.testBit_or, ih, Nat.testBit_two_pow]
      by_cases h : k = i
      · subst h; simp [hb]
      · simp [h]
        by_cases h2 : i < k
        · simp [h2, Nat.lt_succ_of_lt h2]
        · have : ¬ i < k + 1 := by omega
          simp [h2, this]
    · rename_i hb
      rw [ih]
      by_cases h : k = i
      · subst h
        simp at hb
        simp [hb]
      · by_cases h2 : i < k
        · simp [h2, Nat.lt_succ_of_lt h2]
        · have : ¬ i < k + 1 := by omega
          simp [h2, this]
/-- The table of a formula. -/
def table (f : List UInt8) : Nat := tableTo (fun x => sat f (UInt8.ofNat x)) 64
theorem table_bit (f : List UInt8) (i : Nat) : (table f).testBit i = (decide (i < 64) && sat f (UInt8.ofNat i)) := tableTo_bit _ _ _
theorem implies_bits (f g : List UInt8) : implies f g = true ↔ ∀ i, i < 64 → (table f).testBit i = true → (table g).testBit i = true := by
  unfold implies
  rw [List.all_eq_true]
  constructor
  · intro h i hi
    rw [table_bit, table_bit]
    have := h i (List.mem_range.2 hi)
    simp [hi] at this ⊢
    intro hs
    rcases this with h1 | h1
    · rw [hs] at h1; cases h1
    · exact h1
  · intro h i hi
    have hi' := List.mem_range.1 hi
    have := h i hi'
    rw [table_bit, table_bit] at this
    simp [hi'] at this
    cases hs : sat f (UInt8.ofNat i)
    · rfl
    · simp [this hs]
theorem table_ext {f g : List UInt8} : table f = table g ↔ norm f = norm g := by
  constructor
  · intro h
    refine norm_eq_of fun x hx => ?_
    have hlt := clip_lt.1 hx
    have h1 := table_bit f x.toNat
    have h2 := table_bit g x.toNat
    rw [h, h2] at h1
    simpa [hlt] using h1.symm
  · intro h
    have : ∀ x, sat f x = sat g x := norm_eq_iff.1 h
    unfold table
    simp only [this]
end Lz
namespace Go.Proofs.YtiagoiannccdmaaDoor
open Go.RowKit
/-- 2^64, by a name. -/
def big : Nat := 2 ^ 64
theorem ofInt_u64 (a : Nat) (ha : a < big) : (BitVec.ofInt 64 (a : Int)).toNat = a := by
  rw [BitVec.ofInt_natCast, BitVec.toNat_ofNat]; exact Nat.mod_eq_of_lt ha
theorem wrap_u64_nat (a : Nat) (ha : a < big) : IntKind.u64.wrap (a : Int) = (a : Int) := by
  rw [IntKind.wrap_u64]
  have : a < 18446744073709551616 := ha
  omega
theorem bits_or_u64 (a b : Nat) (ha : a < big) (hb : b < big) : bits .or .u64 (a : Int) (b : Int) = ((a ||| b : Nat) : Int) := by
  have hx : a ||| b < big := Nat.or_lt_two_pow (n := 64) ha hb
  show IntKind.u64.wrap ((BitVec.ofInt 64 (a : Int) ||| BitVec.ofInt 64 (b : Int)).toNat : Int) = _
  rw [BitVec.toNat_or, ofInt_u64 a ha, ofInt_u64 b hb, wrap_u64_nat _ hx]
theorem bits_andNot_u64 (a b : Nat) (ha : a < big) (hb : b < big) : bits .andNot .u64 (a : Int) (b : Int) = ((a &&& (big - 1 - b) : Nat) : Int) := by
  have hx : a &&& (big - 1 - b) < big := Nat.lt_of_le_of_lt Nat.and_le_left ha
  show IntKind.u64.wrap ((BitVec.ofInt 64 (a : Int) &&& ~~~BitVec.ofInt 64 (b : Int)).toNat : Int) = _
  rw [BitVec.toNat_and, BitVec.toNat_not, ofInt_u64 a ha, ofInt_u64 b hb]
  exact wrap_u64_nat _ hx
theorem shl_u64 (k : Nat) (h : k < 64) : IntKind.u64.wrap (2 ^ k) = ((2 ^ k : Nat) : Int) := by
  have h1 : (2 : Nat) ^ k < big := Nat.pow_lt_pow_right (by decide) h
  have := wrap_u64_nat (2 ^ k) h1
  rw [← this]
  congr 1
theorem table_lt (f : List UInt8) : Lz.table f < big := Lz.tableTo_lt _ 64
theorem implies_zero (f g : List UInt8) : (bits .andNot .u64 (Lz.table f : Int) (Lz.table g : Int) == 0) = Lz.implies f g := by
  rw [bits_andNot_u64 _ _ (table_lt f) (table_lt g), Bool.eq_iff_iff, beq_iff_eq, Lz.implies_bits]
  constructor
  · intro h i hi hf
    have h0 : Lz.table f &&& (big - 1 - Lz.table g) = 0 := by omega
    have : (Lz.table f &&& (big - 1 - Lz.table g)).testBit i = false := by rw [h0]; simp
    rw [Nat.testBit_and, hf, Bool.true_and, show big - 1 - Lz.table g = 2 ^ 64 - (Lz.table g + 1) from by unfold big; omega, Nat.testBit_two_pow_sub_succ (table_lt g)] at this
    simpa [hi] using this
  · intro h
    have h0 : Lz.table f &&& (big - 1 - Lz.table g) = 0 := by
      apply Nat.eq_of_testBit_eq
      intro i
      rw [Nat.testBit_and, show big - 1 - Lz.table g = 2 ^ 64 - (Lz.table g + 1) from by unfold big; omega, Nat.testBit_two_pow_sub_succ (table_lt g), Nat.zero_testBit]
      by_cases hi : i < 64
      · have := h i hi
        cases hf : (Lz.table f).testBit i
        · rfl
        · rw [this hf]; simp
      · simp [hi]
    rw [h0]; rfl
end Go.Proofs.YtiagoiannccdmaaDoor
