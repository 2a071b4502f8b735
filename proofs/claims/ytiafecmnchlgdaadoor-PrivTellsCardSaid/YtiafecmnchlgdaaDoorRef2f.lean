/- The contract of the document's answer to chapter 2: Fix. Condition: the length. -/
import Derived.Test.YtiafecmnchlgdaaDoorRef2n
import Derived.Test.YtiafecmnchlgdaaDoorFix
namespace Go.Proofs.YtiafecmnchlgdaaDoor
open Go.RowKit Go.Shelf
attribute [local go_sem] str_list str_size str_app
set_option maxRecDepth 100000 in
set_option maxHeartbeats 2000000 in
theorem refFix_any (b : ByteArray) (hb : b.size ≤ 100000) (x : Int) (z : UInt8) (hx : x = z.toNat) (w : World) : Calls Tryd.prog 37 #[.string b, .int .u8 x] w fun e w' => e = .returned (.string (str (Lz.fix b.data.toList z))) ∧ Below w.heap.size w w' := by
  subst hx
  have hF := fix_keep b.data.toList z
  have hN1 := lst_str (Lz.norm b.data.toList)
  have hN2 : (str (Lz.norm b.data.toList)).size ≤ 64 := Lz.norm_len64 _
  rw [← hN1] at hF
  have HF := Lib.hid hF
  clear hF hN1
  go_enter Tryd.func37, Tryd.ntmps37
  go_wp2_with fail
  refine (refNorm_any b hb _).mono ?_
  rintro e w1 ⟨rfl, hb1⟩
  generalize str (Lz.norm b.data.toList) = N at HF hN2 ⊢
  go_wp2_with fail
  go_loopw [6, 7] (fun s i wr => ∃ k : Nat, k ≤ N.size ∧ i = .int .i64 k ∧ s = .string (str (keepN z (N.data.toList.take k))) ∧ Below w.heap.size w wr) (fun _ i _ => N.size - (intOf i).toNat)
  case atStart => exact ⟨0, Nat.zero_le _, rfl, rfl, hb1⟩
  case round =>
    obtain ⟨k, hk, rfl, rfl, hB⟩ := hrel
    by_cases hlt : k < N.size
    · have hst : keepN z (N.data.toList.take (k + 1)) = if Lz.meets N[k] z then keepN z (N.data.toList.take k) else keepN z (N.data.toList.take k) ++ [N[k]] := by rw [btake_succ N k hlt, keepN_snoc]
      have hll : (keepN z (N.data.toList.take k)).length ≤ 64 := by
        have := keepN_length z (N.data.toList.take k)
        rw [List.length_take] at this; omega
      have hcv := fun W => one_byte W (N[k].toNat : Int) N[k] rfl
      cases hm : Lz.meets N[k] z with
      | true =>
        have hz := meets_zero hm
        rw [hm, if_pos rfl] at hst
        have HST := Lib.hid hst
        clear hst hm
        go_wp2
        go_roundw
        case rel => exact ⟨k + 1, by omega, by go_num, by rw [HST.out], hB⟩
        case measure => simp [intOf]; omega
      | false =>
        have hz := meets_zero hm
        rw [hm, if_neg (by decide)] at hst
        have HST := Lib.hid hst
        clear hst hm
        generalize keepN z (N.data.toList.take k) = L at HST hll ⊢
        go_wp2
        go_roundw
        case rel => exact ⟨k + 1, by omega, by go_num, by rw [HST.out], hB.alloc hB.size _⟩
        case measure => simp [intOf]; omega
    · obtain rfl : k = N.size := by omega
      have hall : N.data.toList.take N.size = N.data.toList := List.take_of_length_le (by simp)
      rw [hall, HF.out]
      clear hall
      go_wp2
      go_ret
      exact ⟨rfl, hB⟩
end Go.Proofs.YtiafecmnchlgdaaDoor
