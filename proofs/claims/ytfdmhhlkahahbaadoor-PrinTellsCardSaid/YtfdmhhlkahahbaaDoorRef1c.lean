/- The contract of the document's Count. No conditions. -/
import Derived.Test.YtfdmhhlkahahbaaDoorRef1
import Derived.Test.YtfdmhhlkahahbaaDoorCount
namespace Go.Proofs.YtfdmhhlkahahbaaDoor
open Go.RowKit Go.Shelf
def countTo (s : UInt8) (k : Nat) : Nat := (List.range k).countP fun i => Lz.bit s i
theorem countTo_succ (s : UInt8) (k : Nat) : countTo s (k + 1) = if Lz.bit s k then countTo s k + 1 else countTo s k := by
  unfold countTo
  rw [List.range_succ, List.countP_append, List.countP_singleton]
  split <;> rfl
theorem countTo_le (s : UInt8) (k : Nat) : countTo s k ≤ k := by
  have := List.countP_le_length (p := fun i => Lz.bit s i) (l := List.range k)
  simpa [countTo] using this
set_option maxRecDepth 100000 in
set_option maxHeartbeats 2000000 in
theorem refCount_any (x : Int) (s : UInt8) (hx : x = s.toNat) (w : World) : Calls Tryd.prog 15 #[.int .u8 x] w fun e w' => e = .returned (.int .i64 (countB s)) ∧ w = w' := by
  subst hx
  have hs8 := s.toNat_lt
  have HC := Lib.hid (show countTo s 8 = countB s from rfl)
  go_enter Tryd.func15, Tryd.ntmps15
  go_wp2
  go_loop [3, 4] (fun n i => ∃ k : Nat, k ≤ 8 ∧ i = .int .i64 k ∧ n = .int .i64 (countTo s k)) (fun _ i => 8 - (intOf i).toNat)
  case atStart => exact ⟨0, by omega, rfl, rfl⟩
  case round =>
    obtain ⟨k, hk, rfl, rfl⟩ := hrel
    by_cases hlt : k < 8
    · have e1 := half_bit s k
      have e0 := half_nonneg s k
      have hst := countTo_succ s k
      have hcl := countTo_le s k
      cases hb : Lz.bit s k with
      | false =>
        rw [hb, if_neg (by decide)] at e1 hst
        have HS := Lib.hid hst
        clear hb hst
        go_wp2
        go_round
        case rel => exact ⟨k + 1, by omega, by go_num, by rw [HS.out]⟩
        case measure => simp [intOf]; omega
      | true =>
        rw [hb, if_pos rfl] at e1 hst
        have HS := Lib.hid hst
        clear hb hst
        go_wp2
        go_round
        case rel => exact ⟨k + 1, by omega, by go_num, by rw [HS.out]; go_num⟩
        case measure => simp [intOf]; omega
    · obtain rfl : k = 8 := by omega
      go_wp2
      go_ret
      exact ⟨by rw [← HC.out]; rfl, rfl⟩
end Go.Proofs.YtfdmhhlkahahbaaDoor
