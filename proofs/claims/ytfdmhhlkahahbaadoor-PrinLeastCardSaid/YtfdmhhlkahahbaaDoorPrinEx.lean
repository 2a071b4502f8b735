/- The statements' examples of chapter 1 hold. Condition: the table of letters holds its text. -/
import Derived.Test.YtfdmhhlkahahbaaDoorParse
import Derived.Test.YtfdmhhlkahahbaaDoorCount
namespace Go.Proofs.YtfdmhhlkahahbaaDoor
open Go.RowKit Go.Shelf

attribute [local go_sem] str_list

theorem ex_parse1 : parseP (ByteArray.mk #[97, 124, 99]).data.toList = (5, true) := by decide +kernel
theorem ex_parse2 : parseP (ByteArray.mk #[99, 124, 97]).data.toList = (0, false) := by decide +kernel
theorem ex_text5 : textP 5 = [97, 124, 99] := by decide +kernel
theorem ex_text0 : textP 0 = [45] := by decide +kernel
theorem ex_least : Lz.least (ByteArray.mk #[3, 1, 6]).data.toList = [1, 6] := by decide +kernel
set_option maxRecDepth 100000 in
set_option maxHeartbeats 2000000 in
theorem examples_any (w : World) (hL : Letters w) : Calls Tryd.prog 9 #[] w fun e w' => e = .returned (.bool true) ∧ Below w.heap.size w w' := by
  have HL := Lib.hid hL
  clear hL
  go_enter Tryd.func9, Tryd.ntmps9
  go_wp2_with fail
  refine (parse_any _ _ HL.out).mono ?_
  rintro e w1 ⟨rfl, hb1⟩
  rw [ex_parse1]
  go_wp2_with fail
  refine (parse_any _ _ (HL.out.behind hb1)).mono ?_
  rintro e w2 ⟨rfl, hb2⟩
  rw [ex_parse2]
  have hB2 := hb1.trans (hb2.mono hb1.size)
  clear hb1 hb2
  go_wp2_with fail
  refine (text_any _ 5 rfl _ (HL.out.behind hB2)).mono ?_
  rintro e w3 ⟨rfl, hb3⟩
  rw [ex_text5]
  have hB3 := hB2.trans (hb3.mono hB2.size)
  clear hB2 hb3
  go_wp2_with fail
  refine (least_any _ _ (by unfold maxLen; decide)).mono ?_
  rintro e w4 ⟨rfl, hb4⟩
  rw [ex_least]
  have hB4 := hB3.trans (hb4.mono hB3.size)
  clear hB3 hb4
  go_wp2_with fail
  refine (right_any _ 63 rfl _).mono ?_
  rintro e w' ⟨rfl, rfl⟩
  go_wp2_with fail
  refine (right_any _ 64 rfl _).mono ?_
  rintro e w' ⟨rfl, rfl⟩
  go_wp2_with fail
  refine (count_any _ 7 rfl _).mono ?_
  rintro e w' ⟨rfl, rfl⟩
  rw [show (countB 7) = 3 from by decide +kernel]
  go_wp2_with fail
  refine (in_any _ _ 1 3 rfl rfl _).mono ?_
  rintro e w' ⟨rfl, rfl⟩
  rw [show Lz.sub 1 3 = true from by decide +kernel]
  go_wp2_with fail
  refine (in_any _ _ 2 1 rfl rfl _).mono ?_
  rintro e w' ⟨rfl, rfl⟩
  rw [show Lz.sub 2 1 = false from by decide +kernel]
  go_wp2_with fail
  refine (text_any _ 0 rfl _ (HL.out.behind hB4)).mono ?_
  rintro e w5 ⟨rfl, hb5⟩
  rw [ex_text0]
  go_wp2
  go_ret
  exact ⟨rfl, hB4.trans (hb5.mono hB4.size)⟩
end Go.Proofs.YtfdmhhlkahahbaaDoor
