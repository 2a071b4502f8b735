/- The contracts of cnf.Table, Implies. Condition: the formulas' lengths. -/
import Derived.Test.YtiagoiannccdmaaDoorHolds
import Derived.Test.YtiagoiannccdmaaDoorTab
namespace Go.Proofs.YtiagoiannccdmaaDoor
open Go.RowKit Go.Shelf

attribute [local go_sem] str_size

/-- The table of clauses that are right, of numbers below k. -/
def hTo (l : List UInt8) (k : Nat) : Nat := Lz.tableTo (fun x => Lz.holds l (UInt8.ofNat x)) k
theorem hTo_lt (l : List UInt8) (k : Nat) (h : k ≤ 64) : hTo l k < big := Nat.lt_of_lt_of_le (Lz.tableTo_lt _ k) (Nat.pow_le_pow_right (by decide) h)
theorem hTo_table (l : List UInt8) : hTo (Lz.norm l) 64 = Lz.table l := rfl
theorem two_pow_cast (k : Nat) : ((2 : Int) ^ k) = ((2 ^ k : Nat) : Int) := (Int.natCast_pow 2 k).symm
set_option maxRecDepth 100000 in
set_option maxHeartbeats 1000000 in
theorem table_any (s : ByteArray) (hs : s.size ≤ 1000000) (w : World) :
    Calls Tryd.prog 57 #[.string s] w fun e w' => e = .returned (.int .u64 (Lz.table s.data.toList)) ∧ Below w.heap.size w w' := by
  have la := norm_length s.data.toList
  go_enter Tryd.func57, Tryd.ntmps57
  go_wp2_with fail
  refine (norm_any s hs _).mono ?_
  rintro e w1 ⟨rfl, hb1⟩
  have HT := Lib.hid (hTo_table s.data.toList)
  generalize Lz.norm s.data.toList = n at la HT ⊢
  go_wp2_with fail
  go_loopw [3, 4, 7] (fun t _ i wr => ∃ k : Nat, k ≤ 64 ∧ i = .int .u8 k ∧ t = .int .u64 (hTo n k) ∧ Below w.heap.size w wr) (fun _ _ i _ => 64 - (intOf i).toNat)
  case atStart => exact ⟨0, by omega, rfl, rfl, hb1⟩
  case round =>
    obtain ⟨k, hk, rfl, rfl, hB⟩ := hrel
    by_cases hlt : k < 64
    · have hsh := shl_u64 k hlt
      have hor := bits_or_u64 (hTo n k) (2 ^ k) (hTo_lt n k hk) (Nat.pow_lt_pow_right (by decide) hlt)
      have HOR := Lib.hid hor
      clear hor
      go_wp2_with fail
      refine (holds_any _ (by rw [str_size]; omega) _ (UInt8.ofNat k) (by rw [Lz.toNat_ofNat_lt (by omega)]) _).mono ?_
      rintro e w2 ⟨rfl, hb2⟩
      rw [lst_str]
      cases hh : Lz.holds n (UInt8.ofNat k) with
      | true =>
        have hst : hTo n (k + 1) = hTo n k ||| 2 ^ k := by unfold hTo; rw [Lz.tableTo, if_pos hh]
        have HST := Lib.hid hst
        clear hst hh
        go_wp2
        go_roundw
        case rel => exact ⟨k + 1, by omega, by go_num, by rw [two_pow_cast, HOR.out, HST.out], hB.trans (hb2.mono hB.size)⟩
        case measure => simp [intOf]; omega
      | false =>
        have hst : hTo n (k + 1) = hTo n k := by unfold hTo; rw [Lz.tableTo, hh]; rfl
        have HST := Lib.hid hst
        clear hst hh
        go_wp2
        go_roundw
        case rel => exact ⟨k + 1, by omega, by go_num, by rw [HST.out], hB.trans (hb2.mono hB.size)⟩
        case measure => simp [intOf]; omega
    · obtain rfl : k = 64 := by omega
      go_wp2
      go_ret
      exact ⟨by rw [← HT.out]; rfl, hB⟩

set_option maxRecDepth 100000 in
set_option maxHeartbeats 1000000 in
theorem implies_any (a b : ByteArray) (ha : a.size ≤ 1000000) (hb : b.size ≤ 1000000) (w : World) :
    Calls Tryd.prog 35 #[.string a, .string b] w fun e w' => e = .returned (.bool (Lz.implies a.data.toList b.data.toList)) ∧ Below w.heap.size w w' := by
  have hi := implies_zero a.data.toList b.data.toList
  have HI := Lib.hid hi
  clear hi
  go_enter Tryd.func35, Tryd.ntmps35
  go_wp2_with fail
  refine (table_any a ha _).mono ?_
  rintro e w1 ⟨rfl, hb1⟩
  go_wp2_with fail
  refine (table_any b hb _).mono ?_
  rintro e w2 ⟨rfl, hb2⟩
  go_wp2
  go_ret
  exact ⟨ret_bool HI.out, hb1.trans (hb2.mono hb1.size)⟩
end Go.Proofs.YtiagoiannccdmaaDoor
