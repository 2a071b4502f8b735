/- The contract of label.Put. Condition: the formulas' lengths. -/
import Derived.Test.YtiagoiannccdmaaDoorLabelIO
import Derived.Test.YtiagoiannccdmaaDoorLabelM
namespace Go.Proofs.YtiagoiannccdmaaDoor
open Go.RowKit Go.Shelf
theorem putL_len65 (f : List UInt8) : (putL f).length ≤ 65 := by
  have := Lz.norm_len64 f
  unfold putL
  simp
  omega
attribute [local go_sem] str_list str_size str_cat
set_option maxRecDepth 100000 in
set_option maxHeartbeats 1000000 in
theorem labelPut_p (a : Lz.Lab) (ha : okL a) (w : World) : Calls Tryd.prog 29 #[pv a] w fun e w' => e = .returned (.string (str (putLb a))) ∧ Below w.heap.size w w' := by
  have bL : BoxL (w.alloc (.cells #[.string (str a.1), .string (str a.2)] 24)) w.heap.size a := Box2.new w _ _ _
  have hA : Below w.heap.size w (w.alloc (.cells #[.string (str a.1), .string (str a.2)] 24)) := (Below.refl _ w).alloc (Nat.le_refl _) _
  have k0 := cell_regrown bL.cell0
  have k1 := cell_regrown bL.cell1
  have r0 := quiet_call (w := w.alloc (.cells #[.string (str a.1), .string (str a.2)] 24)) (fun W _ => put_any (str a.1) ha.l W)
  have r1 := quiet_call (w := w.alloc (.cells #[.string (str a.1), .string (str a.2)] 24)) (fun W _ => put_any (str a.2) ha.r W)
  have l0 := putL_len65 a.1
  have l1 := putL_len65 a.2
  rw [lst_str] at r0 r1
  have mixed := mixedOrders
  go_enter Tryd.func29, Tryd.ntmps29
  go_wp2_with fail
  refine wp_region_quiet_below mixed (by kernel_rfl) ?_
  repeat (go_big_quiet_step (fail))
  go_big_quiet_step (exact r0 _ _)
  repeat (go_big_quiet_step (fail))
  go_big_quiet_step (exact r1 _ _)
  repeat (go_big_quiet_step (fail))
  refine wpQuiet_nil ?_
  intro W1 hw'
  have hb1 := below_of_regrown hw'
  clear hw' k0 k1 r0 r1
  go_wp2
  go_ret
  exact ⟨rfl, hA.trans (hb1.mono hA.size)⟩
end Go.Proofs.YtiagoiannccdmaaDoor
