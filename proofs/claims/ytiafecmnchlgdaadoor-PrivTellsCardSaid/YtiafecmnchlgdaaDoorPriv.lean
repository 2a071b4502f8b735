/- The contract of priv.Of. No conditions. -/
import Derived.Test.YtiafecmnchlgdaaDoorOr
import Derived.Test.YtiafecmnchlgdaaDoorOrd
namespace Go.Proofs.YtiafecmnchlgdaaDoor
open Go.RowKit Go.Shelf
open Lz (ofTo ofP ofTo_length ofP_length)

theorem shl_u8 (k : Nat) (h : k < 6) : IntKind.u8.wrap (2 ^ k) = ((UInt8.ofNat (2 ^ k)).toNat : Int) := by
  match k, h with
  | 0, _ => rfl
  | 1, _ => rfl
  | 2, _ => rfl
  | 3, _ => rfl
  | 4, _ => rfl
  | 5, _ => rfl
set_option maxRecDepth 100000 in
set_option maxHeartbeats 1000000 in
theorem of_any (x : Int) (p : UInt8) (hx : x = p.toNat) (w : World) :
    Calls Tryd.prog 11 #[.int .u8 x] w fun e w' => e = .returned (.string (str (ofP p))) ∧ Below w.heap.size w w' := by
  subst hx
  obtain ⟨i0, hi, hz0, hz1, hz2⟩ := info_parts info_u8
  go_enter Tryd.func11, Tryd.ntmps11
  go_wp2_with fail
  go_loopw [3, 4, 5, 6] (fun v _ _ i wr => ∃ k : Nat, k ≤ 6 ∧ i = .int .i64 k ∧ wr.ownsRow w.heap.size 5 1 v (ofTo p k).length ((ofTo p k).map bval) ∧ Below w.heap.size w wr) (fun _ _ _ i _ => 6 - (intOf i).toNat)
  case atStart => exact ⟨0, by omega, rfl, World.ownsRow_nil _ _ _ _, Below.refl _ _⟩
  case round =>
    obtain ⟨k, hk, rfl, hrow, hB⟩ := hrel
    by_cases hlt : k < 6
    · have hsh := shl_u8 k hlt
      have hln := ofTo_length p k
      have hsB := hB.size
      cases hs : Lz.sub (UInt8.ofNat (2 ^ k)) p with
      | true =>
        have hst : ofTo p (k + 1) = ofTo p k ++ [UInt8.ofNat (2 ^ k)] := by rw [ofTo, if_pos hs]
        have HST := Lib.hid hst
        have HS := Lib.hid hs
        clear hst hs
        go_wp2_with (first | (go_at_call 24; refine (in_any _ _ (UInt8.ofNat (2 ^ k)) p rfl rfl _).mono ?_; rintro e w' ⟨rfl, rfl⟩; rw [HS.out]) | (at_builtin; refine wpList_append_own _ rfl _ _ 49 rfl w.heap.size 5 i0 (.int .u8 0) 1 1 Tryd.underlying49 hi hz0 hz1 hz2 rfl (by decide) _ _ _ rfl (hrow.alloc _) ⟨wr.heap.size, 0, none⟩ 1 1 [.int .u8 ((UInt8.ofNat (2 ^ k)).toNat : Int)] rfl rfl (cell_one_new _ _ _) (by simp [Value.oneCell']) (by unfold maxLen; omega) (by omega) (by simp; omega) ?_; intro v' w1 hown' hgrow _))
        go_roundw
        case rel => exact ⟨k + 1, by omega, by go_num, by rw [HST.out, List.length_append, List.map_append]; exact hown', (hB.alloc hsB _).grown hgrow (by simp; omega) (fun j e => (hrow.lt j e).1)⟩
        case measure => simp [intOf]; omega
      | false =>
        have hst : ofTo p (k + 1) = ofTo p k := by rw [ofTo, hs]; rfl
        have HST := Lib.hid hst
        have HS := Lib.hid hs
        clear hst hs
        go_wp2_with (go_at_call 24; refine (in_any _ _ (UInt8.ofNat (2 ^ k)) p rfl rfl _).mono ?_; rintro e w' ⟨rfl, rfl⟩; rw [HS.out])
        go_roundw
        case rel => exact ⟨k + 1, by omega, by go_num, by rw [HST.out]; exact hrow, hB⟩
        case measure => simp [intOf]; omega
    · obtain rfl : k = 6 := by omega
      have hst := run_string_own (P := Tryd.prog) hrow Tryd.underlying49 Tryd.underlying5 Tryd.underlying22
      go_wp2
      go_ret
      exact ⟨rfl, hB⟩
end Go.Proofs.YtiafecmnchlgdaaDoor
