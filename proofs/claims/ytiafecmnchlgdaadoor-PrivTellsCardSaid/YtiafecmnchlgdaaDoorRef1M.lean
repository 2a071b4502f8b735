/- Plain mathematics of the document's chapter 1: its Least is Least. No program in sight; no conditions. -/
import Derived.Test.YtiafecmnchlgdaaDoorMath
namespace Lz
/-- Is s among l, and has no other one of l all of its bits in s? -/
def minB (l : List UInt8) (s : UInt8) : Bool := (l.any fun c => c == s) && l.all fun c => c == s || !sub c s
def minTo (l : List UInt8) : Nat → List UInt8
  | 0 => []
  | k + 1 => if minB l (UInt8.ofNat k) then minTo l k ++ [UInt8.ofNat k] else minTo l k
theorem minB_iff {l : List UInt8} {s : UInt8} : minB l s = true ↔ Min l s := by
  unfold minB Min
  rw [Bool.and_eq_true, List.any_eq_true, List.all_eq_true]
  constructor
  · rintro ⟨⟨x, h1, h3⟩, h2⟩
    obtain rfl := eq_of_beq h3
    refine ⟨h1, fun d hd hs => ?_⟩
    have := h2 d hd
    rw [hs] at this
    simpa using this
  · rintro ⟨h1, h2⟩
    refine ⟨⟨s, h1, by simp⟩, fun d hd => ?_⟩
    cases hs : sub d s with
    | false => simp
    | true => rw [h2 d hd hs]; simp
theorem minTo_eq (l : List UInt8) : ∀ k, k ≤ 256 → minTo l k = leastTo l k := by
  intro k
  induction k with
  | zero => intro _; rfl
  | succ k ih =>
    intro hk
    have ih := ih (by omega)
    have hn : (UInt8.ofNat k).toNat = k := toNat_ofNat_lt (by omega)
    obtain ⟨h1, -⟩ := leastTo_spec l k (by omega)
    obtain ⟨h2, -⟩ := leastTo_spec l (k + 1) hk
    have hno : UInt8.ofNat k ∉ leastTo l k := fun h => by have := ((h1 _).1 h).2; omega
    have hm : UInt8.ofNat k ∈ leastTo l (k + 1) ↔ Min l (UInt8.ofNat k) := by rw [h2]; exact ⟨fun h => h.1, fun h => ⟨h, by omega⟩⟩
    rw [minTo, ih]
    rw [leastTo] at hm ⊢
    split at hm
    · rename_i hc
      rw [if_pos hc, if_pos (minB_iff.2 (hm.1 (by simp)))]
    · rename_i hc
      rw [if_neg hc, if_neg (fun h => hno (hm.2 (minB_iff.1 h)))]
theorem minTo_least (l : List UInt8) : minTo l 256 = least l := minTo_eq l 256 (Nat.le_refl _)
theorem minTo_length (l : List UInt8) (k : Nat) : (minTo l k).length ≤ k := by
  induction k with
  | zero => simp [minTo]
  | succ k ih =>
    unfold minTo
    split
    · rw [List.length_append]; simp; exact ih
    · omega
end Lz
