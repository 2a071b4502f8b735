/- The contracts of the document's answer to chapter 2: Norm, holds, And. Condition: the lengths. -/
import Derived.Test.YtiafecmnchlgdaaDoorRef1l
import Derived.Test.YtiafecmnchlgdaaDoorCnfR
import Derived.Test.YtiafecmnchlgdaaDoorHolds
import Derived.Test.YtiafecmnchlgdaaDoorOrd2
namespace Go.Proofs.YtiafecmnchlgdaaDoor
open Go.RowKit Go.Shelf
attribute [local go_sem] str_list str_size str_app
set_option maxRecDepth 100000 in
set_option maxHeartbeats 2000000 in
theorem refNorm_any (b : ByteArray) (hb : b.size ≤ 100000) (w : World) : Calls Tryd.prog 31 #[.string b] w fun e w' => e = .returned (.string (str (Lz.norm b.data.toList))) ∧ Below w.heap.size w w' := by
  go_enter Tryd.func31, Tryd.ntmps31
  go_wp2
  go_loopw [3, 4] (fun s i wr => ∃ k : Nat, k ≤ b.size ∧ i = .int .i64 k ∧ s = .string (str ((b.data.toList.take k).map Lz.clip)) ∧ Below w.heap.size w wr) (fun _ i _ => b.size - (intOf i).toNat)
  case atStart => exact ⟨0, Nat.zero_le _, rfl, rfl, Below.refl _ _⟩
  case round =>
    obtain ⟨k, hk, rfl, rfl, hB⟩ := hrel
    by_cases hlt : k < b.size
    · have hst : (b.data.toList.take (k + 1)).map Lz.clip = (b.data.toList.take k).map Lz.clip ++ [Lz.clip b[k]] := by rw [btake_succ b k hlt, List.map_append]; rfl
      have HST := Lib.hid hst
      have hll : ((b.data.toList.take k).map Lz.clip).length ≤ 100000 := by rw [List.length_map, List.length_take]; omega
      have h63 := and63 b[k]
      have hcv := fun W => one_byte W ((Lz.clip b[k]).toNat : Int) (Lz.clip b[k]) rfl
      clear hst
      generalize (b.data.toList.take k).map Lz.clip = L at HST hll ⊢
      generalize Lz.clip b[k] = c at HST h63 hcv
      go_wp2
      go_roundw
      case rel => exact ⟨k + 1, by omega, by go_num, by rw [HST.out], hB.alloc hB.size _⟩
      case measure => simp [intOf]; omega
    · obtain rfl : k = b.size := by omega
      have hall : b.data.toList.take b.size = b.data.toList := List.take_of_length_le (by simp)
      rw [hall]
      clear hall
      have HL := Lib.hid (refLeast_any (str (b.data.toList.map Lz.clip)) (by rw [str_size, List.length_map]; simp; omega) wr)
      go_wp2_with fail
      refine HL.out.mono ?_
      rintro e w1 ⟨rfl, hb1⟩
      rw [lst_str]
      go_wp2
      go_ret
      exact ⟨rfl, hB.trans (hb1.mono hB.size)⟩
set_option maxRecDepth 100000 in
set_option maxHeartbeats 1000000 in
theorem refholds_any (b : ByteArray) (hb : b.size ≤ 1000000) (x : Int) (z : UInt8) (hx : x = z.toNat) (w : World) : Calls Tryd.prog 50 #[.string b, .int .u8 x] w fun e w' => e = .returned (.bool (Lz.holds b.data.toList z)) ∧ w = w' := by
  subst hx
  have HP := Lib.hid fun (k : Nat) (h : Lz.holds (b.data.toList.take k) z = false) => holds_prefix (List.take_prefix k b.data.toList) h
  go_enter Tryd.func50, Tryd.ntmps50
  go_wp2
  go_loop [5] (fun i => ∃ k : Nat, k ≤ b.size ∧ i = .int .i64 k ∧ Lz.holds (b.data.toList.take k) z = true) (fun i => b.size - (intOf i).toNat)
  case atStart => exact ⟨0, Nat.zero_le _, rfl, rfl⟩
  case round =>
    obtain ⟨k, hk, rfl, hh⟩ := hrel
    by_cases hlt : k < b.size
    · have hsn : Lz.holds (b.data.toList.take (k + 1)) z = Lz.meets b[k] z := by rw [btake_succ b k hlt, holds_snoc, hh]; rfl
      cases hm : Lz.meets b[k] z with
      | true =>
        have hz := meets_zero hm
        rw [hm] at hsn
        have HS := Lib.hid hsn
        clear hm hsn hh
        go_wp2
        go_round
        case rel => exact ⟨k + 1, by omega, by go_num, HS.out⟩
        case measure => simp [intOf]; omega
      | false =>
        have hz := meets_zero hm
        rw [hm] at hsn
        have HS := Lib.hid (HP.out (k + 1) hsn)
        clear hm hsn hh
        go_wp2
        go_ret
        exact ⟨ret_bool HS.out.symm, rfl⟩
    · obtain rfl : k = b.size := by omega
      have hall : b.data.toList.take b.size = b.data.toList := List.take_of_length_le (by simp)
      rw [hall] at hh
      have HH := Lib.hid hh
      clear hall hh
      go_wp2
      go_ret
      exact ⟨ret_bool HH.out.symm, rfl⟩
theorem and_norm (f g : List UInt8) : Lz.norm (f ++ g) = Lz.and f g :=
  Lz.right_ext (Lz.right_norm _) (Lz.right_and f g) fun x => by rw [Lz.sat_norm, Lz.sat_append, Lz.sat_and]
set_option maxRecDepth 100000 in
set_option maxHeartbeats 1000000 in
theorem refAnd_any (a b : ByteArray) (ha : a.size ≤ 50000) (hb : b.size ≤ 50000) (w : World) : Calls Tryd.prog 35 #[.string a, .string b] w fun e w' => e = .returned (.string (str (Lz.and a.data.toList b.data.toList))) ∧ Below w.heap.size w w' := by
  go_enter Tryd.func35, Tryd.ntmps35
  go_wp2_with fail
  refine (refNorm_any _ (by simp only [ByteArray.size_append]; omega) _).mono ?_
  rintro e w1 ⟨rfl, hb1⟩
  rw [lst_append, and_norm]
  go_wp2
  go_ret
  exact ⟨rfl, hb1⟩
end Go.Proofs.YtiafecmnchlgdaaDoor
