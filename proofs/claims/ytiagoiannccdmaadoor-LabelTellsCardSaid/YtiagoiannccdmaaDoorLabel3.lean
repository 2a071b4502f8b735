/- The contract of label.Right. Condition: the formulas' lengths. -/
import Derived.Test.YtiagoiannccdmaaDoorLabel2
import Derived.Deep.QuietTactic
namespace Go.Proofs.YtiagoiannccdmaaDoor
open Go.RowKit Go.Shelf
theorem labelStruct : Tryd.prog.underlying 24 = some (.struct (Tryd.prog.fieldsOf 24)) := by kernel_rfl
theorem labelStood : Tryd.prog.stoodInHeld 24 = false := by kernel_rfl
theorem labelGuard : Tryd.prog.eqGuardType Tryd.prog.depth 24 = false := by kernel_rfl
/-- Two labels held against one another. -/
theorem equal_label (n : Nat) (a b c d : ByteArray) (w : World) : (Op.equalIn (n + 3) 24 (.agg #[.string a, .string b]) (.agg #[.string c, .string d])).run Tryd.prog w = .ok (a.toList == c.toList && b.toList == d.toList) w := by
  rw [run_equalIn_agg w (n + 2) 24 _ _ labelStruct labelStood]
  simp only [Program.fieldsOf, Tryd.underlying24]
  go_simp
  cases h1 : (a.toList == c.toList) <;> cases h2 : (b.toList == d.toList) <;> simp_all
theorem eql_label (a b c d : ByteArray) (w : World) : (binOp .eql 24 (.agg #[.string a, .string b]) (.agg #[.string c, .string d])).run Tryd.prog w = .ok (.bool (a.toList == c.toList && b.toList == d.toList)) w := by
  rw [run_eql_struct, show (10000 : Nat) = 9997 + 3 from rfl, equal_label]; rfl
theorem neq_label (a b c d : ByteArray) (w : World) : (binOp .neq 24 (.agg #[.string a, .string b]) (.agg #[.string c, .string d])).run Tryd.prog w = .ok (.bool (!(a.toList == c.toList && b.toList == d.toList))) w := by
  rw [run_neq_struct, show (10000 : Nat) = 9997 + 3 from rfl, equal_label]; rfl
attribute [local go_sem high] eql_label neq_label
attribute [local go_sem] str_list

set_option maxRecDepth 100000 in
set_option maxHeartbeats 1000000 in
theorem labelRight_any (s i : ByteArray) (hs : s.size ≤ 1000000) (hi : i.size ≤ 1000000) (w : World) :
    Calls Tryd.prog 15 #[.agg #[.string s, .string i]] w fun e w' => e = .returned (.bool (Lz.norm s.data.toList == s.data.toList && Lz.norm i.data.toList == i.data.toList)) ∧ Below w.heap.size w w' := by
  have bL := Box2.new w 24 (.string s) (.string i)
  have k0 := cell_regrown bL.cell0
  have k1 := cell_regrown bL.cell1
  have hA : Below w.heap.size w (w.alloc (.cells #[.string s, .string i] 24)) := (Below.refl _ w).alloc (Nat.le_refl _) _
  have cN := quiet_call (w := w.alloc (.cells #[.string s, .string i] 24)) (fun W _ => labelNorm_any s i hs hi W)
  have mixed := mixedOrders
  go_enter Tryd.func15, Tryd.ntmps15
  go_wp2_with fail
  refine wp_region_quiet_below mixed (by kernel_rfl) ?_
  repeat (quiet_step (exact cN _ _))
  refine wpQuiet_nil ?_
  intro W1 hw'
  have hb1 := below_of_regrown hw'
  clear hw' k0 k1 cN
  go_wp2
  go_ret
  exact ⟨ret_bool (by rw [← ByteArray.toList_eq s, ← ByteArray.toList_eq i]), hA.trans (hb1.mono hA.size)⟩
end Go.Proofs.YtiagoiannccdmaaDoor
