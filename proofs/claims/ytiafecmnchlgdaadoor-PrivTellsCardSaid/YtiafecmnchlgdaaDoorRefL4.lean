/- The contracts of the law's ref, alike of labels. No conditions. -/
import Derived.Test.YtiafecmnchlgdaaDoorPairs
namespace Go.Proofs.YtiafecmnchlgdaaDoor
open Go.RowKit Go.Shelf
attribute [local go_sem] str_list str_size
abbrev BoxR (W : World) (B : Nat) (a : Lz.Lab) : Prop := Box2 W B 32 (.string (str a.1)) (.string (str a.2))
set_option maxRecDepth 100000 in
set_option maxHeartbeats 1000000 in
theorem ref_p (a : Lz.Lab) (w : World) : Calls Tryd.prog 15 #[pv a] w fun e w' => e = .returned (pv a) ∧ Below w.heap.size w w' := by
  go_enter Tryd.func15, Tryd.ntmps15
  go_wp2
  refine bodyPost_ret (v := pv a) ?_ rfl ⟨rfl, ((Below.refl _ w).alloc (Nat.le_refl _) _).alloc (by simp) _⟩
  simp [results, Tryd.f15, go_sem]
set_option maxRecDepth 100000 in
set_option maxHeartbeats 1000000 in
theorem alike_p (a : Lz.Lab) (w : World) : Calls Tryd.prog 16 #[pv a, pv a] w fun e w' => e = .returned (.bool true) ∧ Below w.heap.size w w' := by
  go_enter Tryd.func16, Tryd.ntmps16
  go_wp2
  go_ret
  exact ⟨rfl, ((Below.refl _ w).alloc (Nat.le_refl _) _).alloc (by simp) _⟩
end Go.Proofs.YtiafecmnchlgdaaDoor
