/- The contract of the document's In; one byte as a string, one bit as a number. No conditions. -/
import Derived.Test.YtiafecmnchlgdaaDoorParse
import Derived.Test.YtiafecmnchlgdaaDoorRef1M
namespace Go.Proofs.YtiafecmnchlgdaaDoor
open Go.RowKit Go.Shelf
theorem str_app (x y : List UInt8) : str x ++ str y = str (x ++ y) := by apply ByteArray.ext; simp [str]
attribute [local go_sem] str_list str_size str_app
attribute [local go_sem] str_list str_size str_app
theorem and_self_sub (a b : UInt8) : (bits .and .u8 (a.toNat : Int) (b.toNat : Int) == (a.toNat : Int)) = Lz.sub a b := by rw [bits_and_u8, toNat_beq]; rfl
theorem refIn_any (x y : Int) (a b : UInt8) (hx : x = a.toNat) (hy : y = b.toNat) (w : World) : Calls Tryd.prog 54 #[.int .u8 x, .int .u8 y] w fun e w' => e = .returned (.bool (Lz.sub a b)) ∧ w = w' := by
  subst hx hy
  go_enter Tryd.func54, Tryd.ntmps54
  go_wp2
  go_ret
  exact ⟨ret_bool (and_self_sub a b), rfl⟩
/-- 'string([]byte{x})'. -/
theorem one_byte (W : World) (x : Int) (c : UInt8) (hx : x = c.toNat) : (convert 49 9 (.slice (some ⟨W.heap.size, 0, none⟩) 1 1)).run Tryd.prog (W.alloc (.cells #[.int .u8 x] 5)) = .ok (.string (str [c])) (W.alloc (.cells #[.int .u8 x] 5)) := by
  subst hx
  exact run_convert_bytes_back (P := Tryd.prog) (W.alloc (.cells #[.int .u8 c.toNat] 5)) 49 9 5 ⟨W.heap.size, 0, none⟩ 1 [c] Tryd.underlying49 Tryd.underlying5 Tryd.underlying9 (fun j hj => by
    have h0 : j = 0 := by simpa using hj
    subst h0
    exact (Boxed.new W 5 (.int .u8 c.toNat)).cell)
theorem half_bit (s : UInt8) (k : Nat) : (s.toNat : Int) / 2 ^ k % 2 = if Lz.bit s k then 1 else 0 := by
  have e : (s.toNat : Int) / 2 ^ k = ((s.toNat / 2 ^ k : Nat) : Int) := by rw [Int.natCast_ediv, Int.natCast_pow]; rfl
  unfold Lz.bit
  rw [e, Nat.testBit_eq_decide_div_mod_eq]
  generalize s.toNat / 2 ^ k = q
  have h2 : q % 2 = 0 ∨ q % 2 = 1 := by omega
  rcases h2 with h2 | h2
  · rw [h2, if_neg (by decide)]; omega
  · rw [h2, if_pos (by decide)]; omega
theorem half_nonneg (s : UInt8) (k : Nat) : (0 : Int) ≤ (s.toNat : Int) / 2 ^ k := by
  have e : (s.toNat : Int) / 2 ^ k = ((s.toNat / 2 ^ k : Nat) : Int) := by rw [Int.natCast_ediv, Int.natCast_pow]; rfl
  rw [e]; exact Int.natCast_nonneg _
end Go.Proofs.YtiafecmnchlgdaaDoor
