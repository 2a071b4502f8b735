/- The contracts of math/bits.OnesCount8 and prin.Count. No conditions. -/
import Derived.Test.YtfdmhhlkahahbaaDoorPrin
import Derived.Lib.Tables
namespace Go.Proofs.YtfdmhhlkahahbaaDoor
open Go.RowKit Go.Shelf

/-- How many bits of a set are 1. -/
def countB (a : UInt8) : Nat := (List.range 8).countP fun i => Lz.bit a i
theorem of_all256 (p : UInt8 → Bool) (h : (List.range 256).all (fun n => p (UInt8.ofNat n)) = true) (s : UInt8) : p s = true := by
  have := List.all_eq_true.1 h s.toNat (List.mem_range.2 s.toNat_lt)
  rwa [UInt8.ofNat_toNat] at this
theorem pop8_count (a : UInt8) : Lib.pop8 (a.toNat : Int) = (countB a : Int) := by
  have := of_all256 (fun a => Lib.pop8 (a.toNat : Int) == (countB a : Int)) (by decide +kernel) a
  simpa using this
theorem countB_le (a : UInt8) : countB a ≤ 8 := by
  have := List.countP_le_length (p := fun i => Lz.bit a i) (l := List.range 8)
  simpa [countB] using this
set_option maxRecDepth 100000 in
set_option maxHeartbeats 1000000 in
theorem onesCount8_any (a : UInt8) (w : World) : Calls Tryd.prog 25 #[.int .u8 (a.toNat : Int)] w fun e w' => e = .returned (.int .i64 (countB a)) ∧ w = w' := by
  have h0 : 0 ≤ (a.toNat : Int) := by omega
  have h1 : (a.toNat : Int) ≤ 255 := by have := a.toNat_lt; omega
  have hp := pop8_count a
  have hl := countB_le a
  go_enter Tryd.func25, Tryd.ntmps25
  go_wp2
  go_ret
  exact ⟨rfl, rfl⟩
theorem count_any (x : Int) (a : UInt8) (hx : x = a.toNat) (w : World) : Calls Tryd.prog 14 #[.int .u8 x] w fun e w' => e = .returned (.int .i64 (countB a)) ∧ w = w' := by
  subst hx
  go_enter Tryd.func14, Tryd.ntmps14
  go_wp2_with (go_at_call 25; refine (onesCount8_any _ _).mono ?_; rintro e w' ⟨rfl, rfl⟩)
  go_ret
  exact ⟨rfl, rfl⟩
end Go.Proofs.YtfdmhhlkahahbaaDoor
