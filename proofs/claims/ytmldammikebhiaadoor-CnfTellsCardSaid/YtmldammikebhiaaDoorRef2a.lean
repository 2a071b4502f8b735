/- The contracts of the document's answer to chapter 2: Norm, Right, holds, Holds, Table, And, Put. Condition: the formulas' lengths. -/
import Derived.Test.YtmldammikebhiaaDoorRef1b
import Derived.Test.YtmldammikebhiaaDoorCnfPut
import Derived.Test.YtmldammikebhiaaDoorImplies
namespace Go.Proofs.YtmldammikebhiaaDoor
open Go.RowKit Go.Shelf
attribute [local go_sem] str_list str_size str_app
set_option maxRecDepth 100000 in
set_option maxHeartbeats 2000000 in
theorem refNorm_any (b : ByteArray) (hb : b.size ≤ 100000) (w : World) : Calls Tryd.prog 27 #[.string b] w fun e w' => e = .returned (.string (str (Lz.norm b.data.toList))) ∧ Below w.heap.size w w' := by
  go_enter Tryd.func27, Tryd.ntmps27
  go_wp2
  go_loopw [3, 4] (fun s i wr => ∃ k : Nat, k ≤ b.size ∧ i = .int .i64 k ∧ s = .string (str ((b.data.toList.take k).map Lz.clip)) ∧ Below w.heap.size w wr) (fun _ i _ => b.size - (intOf i).toNat)
  case atStart => exact ⟨0, Nat.zero_le _, rfl, rfl, Below.refl _ _⟩
  case round =>
    obtain ⟨k, hk, rfl, rfl, hB⟩ := hrel
    by_cases hlt : k < b.size
    · have hst : (b.data.toList.take (k + 1)).map Lz.clip = (b.data.toList.take k).map Lz.clip ++ [Lz.clip b[k]] := by rw [btake_succ b k hlt, List.map_append]; rfl
      have HST := Lib.hid hst
      have hll : ((b.data.toList.take k).map Lz.clip).length ≤ 100000 := by rw [List.length_map, List.length_take]; omega
      have h63 := and63 b[k]
      have hcv := fun W => one_byte W ((Lz.clip b[k]).toNat : Int) (Lz.clip b[k]) rfl
      clear hst
      generalize (b.data.toList.take k).map Lz.clip = L at HST hll ⊢
      generalize Lz.clip b[k] = c at HST h63 hcv
      go_wp2
      go_roundw
      case rel => exact ⟨k + 1, by omega, by go_num, by rw [HST.out], hB.alloc hB.size _⟩
      case measure => simp [intOf]; omega
    · obtain rfl : k = b.size := by omega
      have hall : b.data.toList.take b.size = b.data.toList := List.take_of_length_le (by simp)
      rw [hall]
      clear hall
      have HL := Lib.hid (refLeast_any (str (b.data.toList.map Lz.clip)) (by rw [str_size, List.length_map]; simp; omega) wr)
      go_wp2_with fail
      refine HL.out.mono ?_
      rintro e w1 ⟨rfl, hb1⟩
      rw [lst_str]
      go_wp2
      go_ret
      exact ⟨rfl, hB.trans (hb1.mono hB.size)⟩
theorem list_eq_beq (x y : List UInt8) : decide (x = y) = (x == y) := by
  rw [Bool.eq_iff_iff]; simp
set_option maxRecDepth 100000 in
set_option maxHeartbeats 1000000 in
theorem ref2Right_any (b : ByteArray) (hb : b.size ≤ 100000) (w : World) : Calls Tryd.prog 28 #[.string b] w fun e w' => e = .returned (.bool (Lz.norm b.data.toList == b.data.toList)) ∧ Below w.heap.size w w' := by
  go_enter Tryd.func28, Tryd.ntmps28
  go_wp2_with fail
  refine (refNorm_any b hb _).mono ?_
  rintro e w1 ⟨rfl, hb1⟩
  go_wp2
  go_ret
  exact ⟨by rw [← ByteArray.toList_eq]; rfl, hb1⟩
set_option maxRecDepth 100000 in
set_option maxHeartbeats 1000000 in
theorem refholds_any (b : ByteArray) (hb : b.size ≤ 1000000) (x : Int) (z : UInt8) (hx : x = z.toNat) (w : World) : Calls Tryd.prog 46 #[.string b, .int .u8 x] w fun e w' => e = .returned (.bool (Lz.holds b.data.toList z)) ∧ w = w' := by
  subst hx
  have HP := Lib.hid fun (k : Nat) (h : Lz.holds (b.data.toList.take k) z = false) => holds_prefix (List.take_prefix k b.data.toList) h
  go_enter Tryd.func46, Tryd.ntmps46
  go_wp2
  go_loop [5] (fun i => ∃ k : Nat, k ≤ b.size ∧ i = .int .i64 k ∧ Lz.holds (b.data.toList.take k) z = true) (fun i => b.size - (intOf i).toNat)
  case atStart => exact ⟨0, Nat.zero_le _, rfl, rfl⟩
  case round =>
    obtain ⟨k, hk, rfl, hh⟩ := hrel
    by_cases hlt : k < b.size
    · have hsn : Lz.holds (b.data.toList.take (k + 1)) z = Lz.meets b[k] z := by rw [btake_succ b k hlt, holds_snoc, hh]; rfl
      cases hm : Lz.meets b[k] z with
      | true =>
        have hz := meets_zero hm
        rw [hm] at hsn
        have HS := Lib.hid hsn
        clear hm hsn hh
        go_wp2
        go_round
        case rel => exact ⟨k + 1, by omega, by go_num, HS.out⟩
        case measure => simp [intOf]; omega
      | false =>
        have hz := meets_zero hm
        rw [hm] at hsn
        have HS := Lib.hid (HP.out (k + 1) hsn)
        clear hm hsn hh
        go_wp2
        go_ret
        exact ⟨ret_bool HS.out.symm, rfl⟩
    · obtain rfl : k = b.size := by omega
      have hall : b.data.toList.take b.size = b.data.toList := List.take_of_length_le (by simp)
      rw [hall] at hh
      have HH := Lib.hid hh
      clear hall hh
      go_wp2
      go_ret
      exact ⟨ret_bool HH.out.symm, rfl⟩
set_option maxRecDepth 100000 in
set_option maxHeartbeats 1000000 in
theorem refHolds_any (b : ByteArray) (hb : b.size ≤ 100000) (x : Int) (z : UInt8) (hx : x = z.toNat) (w : World) : Calls Tryd.prog 33 #[.string b, .int .u8 x] w fun e w' => e = .returned (.bool (Lz.sat b.data.toList z)) ∧ Below w.heap.size w w' := by
  subst hx
  have HN := Lib.hid (Lz.norm_len64 b.data.toList)
  go_enter Tryd.func33, Tryd.ntmps33
  go_wp2_with fail
  refine (refNorm_any b hb _).mono ?_
  rintro e w1 ⟨rfl, hb1⟩
  go_wp2_with fail
  refine (refholds_any _ (by rw [str_size]; have := HN.out; omega) _ z rfl _).mono ?_
  rintro e w' ⟨rfl, rfl⟩
  rw [lst_str]
  go_wp2
  go_ret
  exact ⟨rfl, hb1⟩
set_option maxRecDepth 100000 in
set_option maxHeartbeats 1000000 in
theorem refTable_any (b : ByteArray) (hb : b.size ≤ 100000) (w : World) : Calls Tryd.prog 34 #[.string b] w fun e w' => e = .returned (.int .u64 ((Lz.table b.data.toList : Nat) : Int)) ∧ Below w.heap.size w w' := by
  have la := norm_length b.data.toList
  go_enter Tryd.func34, Tryd.ntmps34
  go_wp2_with fail
  refine (refNorm_any b hb _).mono ?_
  rintro e w1 ⟨rfl, hb1⟩
  have HT := Lib.hid (hTo_table b.data.toList)
  generalize Lz.norm b.data.toList = n at la HT ⊢
  go_wp2_with fail
  go_loop [3, 5] (fun t i => ∃ k : Nat, k ≤ 64 ∧ i = .int .i64 k ∧ t = .int .u64 (hTo n k)) (fun _ i => 64 - (intOf i).toNat)
  case atStart => exact ⟨0, by omega, rfl, rfl⟩
  case round =>
    obtain ⟨k, hk, rfl, rfl⟩ := hrel
    by_cases hlt : k < 64
    · have hsh := shl_u64 k hlt
      have hw : IntKind.u8.wrap (k : Int) = (k : Int) := by rw [IntKind.wrap_u8]; omega
      have hor := bits_or_u64 (hTo n k) (2 ^ k) (hTo_lt n k hk) (Nat.pow_lt_pow_right (by decide) hlt)
      have HOR := Lib.hid hor
      clear hor
      go_wp2_with fail
      refine (refholds_any _ (by rw [str_size]; omega) _ (UInt8.ofNat k) (by rw [Lz.toNat_ofNat_lt (by omega)]) _).mono ?_
      rintro e w' ⟨rfl, rfl⟩
      rw [lst_str]
      cases hh : Lz.holds n (UInt8.ofNat k) with
      | true =>
        have hst : hTo n (k + 1) = hTo n k ||| 2 ^ k := by unfold hTo; rw [Lz.tableTo, if_pos hh]
        have HST := Lib.hid hst
        clear hst hh
        go_wp2
        go_round
        case rel => exact ⟨k + 1, by omega, by go_num, by rw [two_pow_cast, HOR.out, HST.out]⟩
        case measure => simp [intOf]; omega
      | false =>
        have hst : hTo n (k + 1) = hTo n k := by unfold hTo; rw [Lz.tableTo, hh]; rfl
        have HST := Lib.hid hst
        clear hst hh
        go_wp2
        go_round
        case rel => exact ⟨k + 1, by omega, by go_num, by rw [HST.out]⟩
        case measure => simp [intOf]; omega
    · obtain rfl : k = 64 := by omega
      go_wp2
      go_ret
      exact ⟨by rw [← HT.out]; rfl, hb1⟩
theorem and_norm (f g : List UInt8) : Lz.norm (f ++ g) = Lz.and f g :=
  Lz.right_ext (Lz.right_norm _) (Lz.right_and f g) fun x => by rw [Lz.sat_norm, Lz.sat_append, Lz.sat_and]
set_option maxRecDepth 100000 in
set_option maxHeartbeats 1000000 in
theorem refAnd_any (a b : ByteArray) (ha : a.size ≤ 50000) (hb : b.size ≤ 50000) (w : World) : Calls Tryd.prog 29 #[.string a, .string b] w fun e w' => e = .returned (.string (str (Lz.and a.data.toList b.data.toList))) ∧ Below w.heap.size w w' := by
  go_enter Tryd.func29, Tryd.ntmps29
  go_wp2_with fail
  refine (refNorm_any _ (by simp only [ByteArray.size_append]; omega) _).mono ?_
  rintro e w1 ⟨rfl, hb1⟩
  rw [lst_append, and_norm]
  go_wp2
  go_ret
  exact ⟨rfl, hb1⟩
set_option maxRecDepth 100000 in
set_option maxHeartbeats 1000000 in
theorem refPut_any (b : ByteArray) (hb : b.size ≤ 100000) (w : World) : Calls Tryd.prog 36 #[.string b] w fun e w' => e = .returned (.string (str (putL b.data.toList))) ∧ Below w.heap.size w w' := by
  have HP := Lib.hid (show putL b.data.toList = UInt8.ofNat (Lz.norm b.data.toList).length :: Lz.norm b.data.toList from rfl)
  have la := Lz.norm_len64 b.data.toList
  go_enter Tryd.func36, Tryd.ntmps36
  go_wp2_with fail
  refine (refNorm_any b hb _).mono ?_
  rintro e w1 ⟨rfl, hb1⟩
  generalize Lz.norm b.data.toList = n at la HP ⊢
  have hwr : IntKind.u8.wrap (n.length : Int) = (n.length : Int) := by rw [IntKind.wrap_u8]; omega
  have hcv := fun W => one_byte W (n.length : Int) (UInt8.ofNat n.length) (by rw [Lz.toNat_ofNat_lt (by omega)])
  go_wp2
  go_ret
  exact ⟨by rw [HP.out]; rfl, hb1.alloc hb1.size _⟩
end Go.Proofs.YtmldammikebhiaaDoor
