/- The statements' examples of chapter 2 hold. Condition: the table of letters holds its text. -/
import Derived.Test.YtmldammikebhiaaDoorCnfParse
import Derived.Test.YtmldammikebhiaaDoorCnfGet
import Derived.Test.YtmldammikebhiaaDoorCnf2
import Derived.Test.YtmldammikebhiaaDoorCnfPut
namespace Go.Proofs.YtmldammikebhiaaDoor
open Go.RowKit Go.Shelf
attribute [local go_sem] str_list
theorem ex2_k1 (W : World) (hL : Letters W) : Calls Tryd.prog 25 #[.string ⟨#[97, 38, 98, 124, 99]⟩] W fun e w' => e = .returned (.tuple #[.string (str [1, 6]), .bool true]) ∧ Below W.heap.size W w' := by
  have h := cnfParse_any [97, 38, 98, 124, 99] (by decide) W hL
  rw [show parseF [97, 38, 98, 124, 99] = ([1, 6], true) from by decide +kernel] at h
  exact h
theorem ex2_k2 (W : World) (hL : Letters W) : Calls Tryd.prog 25 #[.string ⟨#[97, 124, 98, 38, 97]⟩] W fun e w' => e = .returned (.tuple #[.string (str []), .bool false]) ∧ Below W.heap.size W w' := by
  have h := cnfParse_any [97, 124, 98, 38, 97] (by decide) W hL
  rw [show parseF [97, 124, 98, 38, 97] = ([], false) from by decide +kernel] at h
  exact h
theorem ex2_k3 (W : World) : Calls Tryd.prog 13 #[.string ⟨#[3]⟩] W fun e w' => e = .returned (.int .u64 ((Lz.table [3] : Nat) : Int)) ∧ Below W.heap.size W w' := by
  have h := table_any ⟨#[3]⟩ (by decide) W
  exact h
theorem ex2_k4 (W : World) : Calls Tryd.prog 16 #[.int .u64 ((Lz.table [3] : Nat) : Int)] W fun e w' => e = .returned (.tuple #[.string (str [3]), .bool true]) ∧ Below W.heap.size W w' := by
  have h := ofT_any (Lz.table [3]) (by decide +kernel) W
  rw [show ofT (Lz.table [3]) = [3] from by decide +kernel, if_pos rfl, show decide (Lz.table [3] = Lz.table [3]) = true from decide_eq_true rfl] at h
  exact h
theorem ex2_k5 (W : World) : Calls Tryd.prog 17 #[.string ⟨#[1]⟩, .string ⟨#[3]⟩] W fun e w' => e = .returned (.string (str [1])) ∧ Below W.heap.size W w' := by
  have h := and_any ⟨#[1]⟩ ⟨#[3]⟩ (by decide) (by decide) W
  rw [show Lz.and (ByteArray.mk #[1]).data.toList (ByteArray.mk #[3]).data.toList = [1] from by decide +kernel] at h
  exact h
theorem ex2_k6 (W : World) : Calls Tryd.prog 18 #[.string ⟨#[1]⟩, .string ⟨#[2]⟩] W fun e w' => e = .returned (.string (str [3])) ∧ Below W.heap.size W w' := by
  have h := or_any ⟨#[1]⟩ ⟨#[2]⟩ (by decide) (by decide) W
  rw [show Lz.or (ByteArray.mk #[1]).data.toList (ByteArray.mk #[2]).data.toList = [3] from by decide +kernel] at h
  exact h
theorem ex2_k7 (W : World) : Calls Tryd.prog 20 #[.string ⟨#[1]⟩, .string ⟨#[3]⟩] W fun e w' => e = .returned (.bool true) ∧ Below W.heap.size W w' := by
  have h := implies_any ⟨#[1]⟩ ⟨#[3]⟩ (by decide) (by decide) W
  rw [show Lz.implies (ByteArray.mk #[1]).data.toList (ByteArray.mk #[3]).data.toList = true from by decide +kernel] at h
  exact h
theorem ex2_k8 (W : World) : Calls Tryd.prog 20 #[.string ⟨#[3]⟩, .string ⟨#[1]⟩] W fun e w' => e = .returned (.bool false) ∧ Below W.heap.size W w' := by
  have h := implies_any ⟨#[3]⟩ ⟨#[1]⟩ (by decide) (by decide) W
  rw [show Lz.implies (ByteArray.mk #[3]).data.toList (ByteArray.mk #[1]).data.toList = false from by decide +kernel] at h
  exact h
theorem ex2_k9 (W : World) (hL : Letters W) : Calls Tryd.prog 37 #[.string ⟨#[0]⟩] W fun e w' => e = .returned (.string (str [70])) ∧ Below W.heap.size W w' := by
  have h := cnfText_any ⟨#[0]⟩ (by decide) W hL
  rw [show textF (ByteArray.mk #[0]).data.toList = [70] from by decide +kernel] at h
  exact h
theorem ex2_k10 (W : World) : Calls Tryd.prog 35 #[.string ⟨#[3]⟩] W fun e w' => e = .returned (.string (str [1, 3])) ∧ Below W.heap.size W w' := by
  have h := put_any ⟨#[3]⟩ (by decide) W
  rw [show putL (ByteArray.mk #[3]).data.toList = [1, 3] from by decide +kernel] at h
  exact h
theorem ex2_k11 (W : World) : Calls Tryd.prog 21 #[.string ⟨#[1, 2]⟩, .int .u8 1] W fun e w' => e = .returned (.string (str [2])) ∧ Below W.heap.size W w' := by
  have h := fix_any ⟨#[1, 2]⟩ (by decide) 1 1 rfl W
  rw [show Lz.fix (ByteArray.mk #[1, 2]).data.toList 1 = [2] from by decide +kernel] at h
  exact h
theorem ex2_k12 (W : World) : Calls Tryd.prog 19 #[.string ⟨#[3]⟩, .int .u8 2] W fun e w' => e = .returned (.bool true) ∧ Below W.heap.size W w' := by
  have h := cnfHolds_any ⟨#[3]⟩ (by decide) 2 2 rfl W
  rw [show Lz.sat (ByteArray.mk #[3]).data.toList 2 = true from by decide +kernel] at h
  exact h
set_option maxRecDepth 100000 in
set_option maxHeartbeats 2000000 in
theorem examples2_any (w : World) (hL : Letters w) : Calls Tryd.prog 10 #[] w fun e w' => e = .returned (.bool true) ∧ Below w.heap.size w w' := by
  have HL := Lib.hid hL
  clear hL
  have K4 := Lib.hid fun W => ex2_k4 W
  have K3 := Lib.hid fun W => ex2_k3 W
  generalize Lz.table [3] = T at K3 K4
  go_enter Tryd.func10, Tryd.ntmps10
  go_wp2_with fail
  refine (ex2_k1 _ HL.out).mono ?_
  rintro e w1 ⟨rfl, hb1⟩
  have hB1 := hb1
  clear hb1
  go_wp2_with fail
  refine (ex2_k2 _ (HL.out.behind hB1)).mono ?_
  rintro e w2 ⟨rfl, hb2⟩
  have hB2 := hB1.trans (hb2.mono hB1.size)
  clear hB1 hb2
  go_wp2_with fail
  refine (K3.out _).mono ?_
  rintro e w3 ⟨rfl, hb3⟩
  have hB3 := hB2.trans (hb3.mono hB2.size)
  clear hB2 hb3
  go_wp2_with fail
  refine (K4.out _).mono ?_
  rintro e w4 ⟨rfl, hb4⟩
  have hB4 := hB3.trans (hb4.mono hB3.size)
  clear hB3 hb4
  go_wp2_with fail
  refine (ex2_k5 _).mono ?_
  rintro e w5 ⟨rfl, hb5⟩
  have hB5 := hB4.trans (hb5.mono hB4.size)
  clear hB4 hb5
  go_wp2_with fail
  refine (ex2_k6 _).mono ?_
  rintro e w6 ⟨rfl, hb6⟩
  have hB6 := hB5.trans (hb6.mono hB5.size)
  clear hB5 hb6
  go_wp2_with fail
  refine (ex2_k7 _).mono ?_
  rintro e w7 ⟨rfl, hb7⟩
  have hB7 := hB6.trans (hb7.mono hB6.size)
  clear hB6 hb7
  go_wp2_with fail
  refine (ex2_k8 _).mono ?_
  rintro e w8 ⟨rfl, hb8⟩
  have hB8 := hB7.trans (hb8.mono hB7.size)
  clear hB7 hb8
  go_wp2_with fail
  refine (ex2_k9 _ (HL.out.behind hB8)).mono ?_
  rintro e w9 ⟨rfl, hb9⟩
  have hB9 := hB8.trans (hb9.mono hB8.size)
  clear hB8 hb9
  go_wp2_with fail
  refine (ex2_k10 _).mono ?_
  rintro e w10 ⟨rfl, hb10⟩
  have hB10 := hB9.trans (hb10.mono hB9.size)
  clear hB9 hb10
  go_wp2_with fail
  refine (ex2_k11 _).mono ?_
  rintro e w11 ⟨rfl, hb11⟩
  have hB11 := hB10.trans (hb11.mono hB10.size)
  clear hB10 hb11
  go_wp2_with fail
  refine (ex2_k12 _).mono ?_
  rintro e w12 ⟨rfl, hb12⟩
  have hB12 := hB11.trans (hb12.mono hB11.size)
  clear hB11 hb12
  go_wp2
  go_ret
  exact ⟨rfl, hB12⟩
end Go.Proofs.YtmldammikebhiaaDoor
