/- The contract of cnf.Holds. Condition: the formula's length. -/
import Derived.Test.YtmldammikebhiaaDoorFix
import Derived.Test.YtmldammikebhiaaDoorImplies
import Derived.Test.YtmldammikebhiaaDoorCnfR
import Derived.Test.YtmldammikebhiaaDoorOrd2
namespace Go.Proofs.YtmldammikebhiaaDoor
open Go.RowKit Go.Shelf
attribute [local go_sem] str_list str_size
set_option maxRecDepth 100000 in
set_option maxHeartbeats 1000000 in
theorem cnfHolds_any (s : ByteArray) (hs : s.size ≤ 1000000) (x : Int) (z : UInt8) (hx : x = z.toNat) (w : World) :
    Calls Tryd.prog 19 #[.string s, .int .u8 x] w fun e w' => e = .returned (.bool (Lz.sat s.data.toList z)) ∧ Below w.heap.size w w' := by
  subst hx
  have la := norm_length s.data.toList
  go_enter Tryd.func19, Tryd.ntmps19
  go_wp2_with fail
  refine (norm_any s hs _).mono ?_
  rintro e w1 ⟨rfl, hb1⟩
  go_wp2_with fail
  refine (holds_any _ (by rw [str_size]; omega) _ z rfl _).mono ?_
  rintro e w2 ⟨rfl, hb2⟩
  rw [lst_str]
  go_wp2
  go_ret
  exact ⟨rfl, hb1.trans (hb2.mono hb1.size)⟩
end Go.Proofs.YtmldammikebhiaaDoor
