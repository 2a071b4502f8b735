/- The statements' examples of chapter 3 hold. Condition: the table of letters holds its text. -/
import Derived.Test.YtiagoiannccdmaaDoorLabelPut
import Derived.Test.YtiagoiannccdmaaDoorLabelLH
namespace Go.Proofs.YtiagoiannccdmaaDoor
open Go.RowKit Go.Shelf
attribute [local go_sem] str_list str_size
attribute [local go_sem high] eql_label neq_label
def lA : Lz.Lab := ([1], [])
def lB : Lz.Lab := ([2], [1])
theorem okA : okL lA := ⟨by decide, by decide⟩
theorem okB : okL lB := ⟨by decide, by decide⟩
theorem ex3_p1 (W : World) (hL : Letters W) : Calls Tryd.prog 20 #[.string ⟨#[97, 47, 84]⟩] W fun e w' => e = .returned (.tuple #[pv lA, .bool true]) ∧ Below W.heap.size W w' := by
  have h := labelParse_p [97, 47, 84] (by decide) W hL
  rw [show parseLb [97, 47, 84] = (lA, true) from by decide +kernel] at h
  exact h
theorem ex3_p2 (W : World) (hL : Letters W) : Calls Tryd.prog 20 #[.string ⟨#[98, 47, 97]⟩] W fun e w' => e = .returned (.tuple #[pv lB, .bool true]) ∧ Below W.heap.size W w' := by
  have h := labelParse_p [98, 47, 97] (by decide) W hL
  rw [show parseLb [98, 47, 97] = (lB, true) from by decide +kernel] at h
  exact h
theorem ex3_p3 (W : World) (hL : Letters W) : Calls Tryd.prog 20 #[.string ⟨#[97, 47, 84, 47, 84]⟩] W fun e w' => e = .returned (.tuple #[pv ([], []), .bool false]) ∧ Below W.heap.size W w' := by
  have h := labelParse_p [97, 47, 84, 47, 84] (by decide) W hL
  rw [show parseLb [97, 47, 84, 47, 84] = (([], []), false) from by decide +kernel] at h
  exact h
theorem ex3_j (W : World) : Calls Tryd.prog 16 #[pv lA, pv lB] W fun e w' => e = .returned (pv (Lz.jn lA lB)) ∧ Below W.heap.size W w' := join_p lA lB okA okB W
theorem ex3_m (W : World) : Calls Tryd.prog 17 #[pv lA, pv lB] W fun e w' => e = .returned (pv (Lz.mt lA lB)) ∧ Below W.heap.size W w' := meet_p lA lB okA okB W
theorem ex3_tj (W : World) (hL : Letters W) : Calls Tryd.prog 31 #[pv (Lz.jn lA lB)] W fun e w' => e = .returned (.string ⟨#[97, 38, 98, 47, 84]⟩) ∧ Below W.heap.size W w' := by
  have h := labelText_p (Lz.jn lA lB) (okL_jn _ _) W hL
  rw [show textLb (Lz.jn lA lB) = [97, 38, 98, 47, 84] from by decide +kernel] at h
  exact h
theorem ex3_tm (W : World) (hL : Letters W) : Calls Tryd.prog 31 #[pv (Lz.mt lA lB)] W fun e w' => e = .returned (.string ⟨#[97, 124, 98, 47, 97]⟩) ∧ Below W.heap.size W w' := by
  have h := labelText_p (Lz.mt lA lB) (okL_mt _ _) W hL
  rw [show textLb (Lz.mt lA lB) = [97, 124, 98, 47, 97] from by decide +kernel] at h
  exact h
theorem okLow : okL Lz.low := ⟨by decide, by decide⟩
theorem okHigh : okL Lz.high := ⟨by decide, by decide⟩
theorem ex3_f1 (W : World) : Calls Tryd.prog 11 #[pv Lz.low, pv lA] W fun e w' => e = .returned (.bool true) ∧ Below W.heap.size W w' := by
  have h := flows_p Lz.low lA okLow okA W
  rw [show Lz.fl Lz.low lA = true from by decide +kernel] at h
  exact h
theorem ex3_f2 (W : World) : Calls Tryd.prog 11 #[pv lA, pv Lz.high] W fun e w' => e = .returned (.bool true) ∧ Below W.heap.size W w' := by
  have h := flows_p lA Lz.high okA okHigh W
  rw [show Lz.fl lA Lz.high = true from by decide +kernel] at h
  exact h
theorem ex3_f3 (W : World) : Calls Tryd.prog 11 #[pv lA, pv Lz.low] W fun e w' => e = .returned (.bool false) ∧ Below W.heap.size W w' := by
  have h := flows_p lA Lz.low okA okLow W
  rw [show Lz.fl lA Lz.low = false from by decide +kernel] at h
  exact h
theorem ex3_put (W : World) : Calls Tryd.prog 29 #[pv lA] W fun e w' => e = .returned (.string ⟨#[1, 1, 0]⟩) ∧ Below W.heap.size W w' := by
  have h := labelPut_p lA okA W
  rw [show putLb lA = [1, 1, 0] from by decide +kernel] at h
  exact h
theorem ex3_r (W : World) : Calls Tryd.prog 15 #[.agg #[.string ⟨#[2, 1]⟩, .string ⟨#[]⟩]] W fun e w' => e = .returned (.bool false) ∧ Below W.heap.size W w' :=
  right_p ([2, 1], []) false ⟨by decide, by decide⟩ (by decide +kernel) W
set_option maxRecDepth 100000 in
set_option maxHeartbeats 4000000 in
theorem examples3_any (w : World) (hL : Letters w) : Calls Tryd.prog 9 #[] w fun e w' => e = .returned (.bool true) ∧ Below w.heap.size w w' := by
  have HL := Lib.hid hL
  have mixed := mixedOrders
  clear hL
  go_enter Tryd.func9, Tryd.ntmps9
  go_wp2_with fail
  refine (ex3_p1 _ HL.out).mono ?_
  rintro e w1 ⟨rfl, hb1⟩
  have hB1 := hb1.alloc hb1.size (.cells #[.string (str lA.1), .string (str lA.2)] 24)
  have A1 : BoxL (w1.alloc (.cells #[.string (str lA.1), .string (str lA.2)] 24)) w1.heap.size lA := Box2.new w1 _ _ _
  clear hb1
  go_wp2_with fail
  refine (ex3_p2 _ (HL.out.behind hB1)).mono ?_
  rintro e w2 ⟨rfl, hb2⟩
  have A2 := (A1.below hb2 A1.lt).alloc (.cells #[.string (str lB.1), .string (str lB.2)] 24)
  have hB2' := hB1.trans (hb2.mono hB1.size)
  have hB2 := hB2'.alloc hB2'.size (.cells #[.string (str lB.1), .string (str lB.2)] 24)
  have B2 : BoxL (w2.alloc (.cells #[.string (str lB.1), .string (str lB.2)] 24)) w2.heap.size lB := Box2.new w2 _ _ _
  clear hB1 A1 hb2 hB2'
  go_wp2_with fail
  refine (ex3_p3 _ (HL.out.behind hB2)).mono ?_
  rintro e w3 ⟨rfl, hb3⟩
  have A3 := (A2.below hb3 A2.lt).alloc (.cells #[.string (str []), .string (str [])] 24)
  have B3 := (B2.below hb3 B2.lt).alloc (.cells #[.string (str []), .string (str [])] 24)
  have hB3' := hB2.trans (hb3.mono hB2.size)
  have hB3 := hB3'.alloc hB3'.size (.cells #[.string (str []), .string (str [])] 24)
  clear hB2 A2 B2 hb3 hB3'
  go_wp2_with fail
  generalize (w3.alloc (.cells #[.string (str []), .string (str [])] 24)) = w4 at A3 B3 hB3 ⊢
  have HL4 := Lib.hid (HL.out.behind hB3)
  have kA0 := cell_regrown A3.cell0
  have kA1 := cell_regrown A3.cell1
  have kB0 := cell_regrown B3.cell0
  have kB1 := cell_regrown B3.cell1
  have rj := quiet_call (w := w4) (fun W _ => ex3_j W)
  have rtj := quiet_call (w := w4) (fun W hb => ex3_tj W (HL4.out.behind hb))
  have rm := quiet_call (w := w4) (fun W _ => ex3_m W)
  have rtm := quiet_call (w := w4) (fun W hb => ex3_tm W (HL4.out.behind hb))
  have rlo := quiet_call (w := w4) (fun W _ => low_p W)
  have rf1 := quiet_call (w := w4) (fun W _ => ex3_f1 W)
  have rhi := quiet_call (w := w4) (fun W _ => high_p W)
  have rf2 := quiet_call (w := w4) (fun W _ => ex3_f2 W)
  have rf3 := quiet_call (w := w4) (fun W _ => ex3_f3 W)
  have rp := quiet_call (w := w4) (fun W _ => ex3_put W)
  have rr := quiet_call (w := w4) (fun W _ => ex3_r W)
  refine wp_region_quiet_below mixed (by kernel_rfl) ?_
  repeat (go_big_quiet_step (fail))
  go_big_quiet_step (exact rj _ _)
  repeat (go_big_quiet_step (fail))
  go_big_quiet_step (exact rtj _ _)
  repeat (go_big_quiet_step (fail))
  go_big_quiet_step (exact rm _ _)
  repeat (go_big_quiet_step (fail))
  go_big_quiet_step (exact rtm _ _)
  repeat (go_big_quiet_step (fail))
  go_big_quiet_step (exact rlo _ _)
  repeat (go_big_quiet_step (fail))
  go_big_quiet_step (exact rf1 _ _)
  repeat (go_big_quiet_step (fail))
  go_big_quiet_step (exact rhi _ _)
  repeat (go_big_quiet_step (fail))
  go_big_quiet_step (exact rf2 _ _)
  repeat (go_big_quiet_step (fail))
  go_big_quiet_step (exact rlo _ _)
  repeat (go_big_quiet_step (fail))
  go_big_quiet_step (exact rf3 _ _)
  repeat (go_big_quiet_step (fail))
  go_big_quiet_step (exact rp _ _)
  repeat (go_big_quiet_step (fail))
  go_big_quiet_step (exact rr _ _)
  repeat (go_big_quiet_step (fail))
  refine wpQuiet_nil ?_
  intro W1 hw'
  have hb4 := below_of_regrown hw'
  clear hw'
  go_wp2
  go_ret
  exact ⟨rfl, hB3.trans (hb4.mono hB3.size)⟩
end Go.Proofs.YtiagoiannccdmaaDoor
