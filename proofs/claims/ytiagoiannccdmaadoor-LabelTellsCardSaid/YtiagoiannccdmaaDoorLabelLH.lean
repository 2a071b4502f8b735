/- The contracts of label.Low, High. No conditions. -/
import Derived.Test.YtiagoiannccdmaaDoorLabel4
namespace Go.Proofs.YtiagoiannccdmaaDoor
open Go.RowKit Go.Shelf
set_option maxRecDepth 100000 in
set_option maxHeartbeats 1000000 in
theorem low_p (w : World) : Calls Tryd.prog 13 #[] w fun e w' => e = .returned (pv Lz.low) ∧ Below w.heap.size w w' := by
  go_enter Tryd.func13, Tryd.ntmps13
  go_wp2
  refine bodyPost_ret (v := .agg #[.string ⟨#[]⟩, .string ⟨#[0]⟩]) ?_ rfl ⟨rfl, (Below.refl _ w).alloc (Nat.le_refl _) _⟩
  simp [results, Tryd.f13, go_sem]
set_option maxRecDepth 100000 in
set_option maxHeartbeats 1000000 in
theorem high_p (w : World) : Calls Tryd.prog 14 #[] w fun e w' => e = .returned (pv Lz.high) ∧ Below w.heap.size w w' := by
  go_enter Tryd.func14, Tryd.ntmps14
  go_wp2
  refine bodyPost_ret (v := .agg #[.string ⟨#[0]⟩, .string ⟨#[]⟩]) ?_ rfl ⟨rfl, (Below.refl _ w).alloc (Nat.le_refl _) _⟩
  simp [results, Tryd.f14, go_sem]
end Go.Proofs.YtiagoiannccdmaaDoor
