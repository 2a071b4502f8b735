/- The contracts of package cnf over lists, each with its result under a name. Conditions: the lengths. -/
import Derived.Test.YtmldammikebhiaaDoorCnf3
namespace Lz
theorem and_len (f g : List UInt8) : (and f g).length ≤ 64 := norm_len64 _
theorem or_len (f g : List UInt8) : (or f g).length ≤ 64 := norm_len64 _
theorem fix_len (f : List UInt8) (p : UInt8) : (fix f p).length ≤ 64 := Nat.le_trans (List.length_filter_le _ _) (norm_len64 f)
end Lz
namespace Go.Proofs.YtmldammikebhiaaDoor
open Go.RowKit Go.Shelf
section
variable (W : World)
theorem normE (x n : List UInt8) (hx : x.length ≤ 1000000) (h : Lz.norm x = n) : Calls Tryd.prog 12 #[.string (str x)] W fun e w' => e = .returned (.string (str n)) ∧ Below W.heap.size W w' := by
  subst h; exact norm_any (str x) hx W
theorem andE (x y n : List UInt8) (hx : x.length ≤ 1000000) (hy : y.length ≤ 1000000) (h : Lz.and x y = n) : Calls Tryd.prog 17 #[.string (str x), .string (str y)] W fun e w' => e = .returned (.string (str n)) ∧ Below W.heap.size W w' := by
  subst h; exact and_any (str x) (str y) hx hy W
theorem orE (x y n : List UInt8) (hx : x.length ≤ 1000000) (hy : y.length ≤ 1000000) (h : Lz.or x y = n) : Calls Tryd.prog 18 #[.string (str x), .string (str y)] W fun e w' => e = .returned (.string (str n)) ∧ Below W.heap.size W w' := by
  subst h; exact or_any (str x) (str y) hx hy W
theorem impE (x y : List UInt8) (r : Bool) (hx : x.length ≤ 1000000) (hy : y.length ≤ 1000000) (h : Lz.implies x y = r) : Calls Tryd.prog 20 #[.string (str x), .string (str y)] W fun e w' => e = .returned (.bool r) ∧ Below W.heap.size W w' := by
  subst h; exact implies_any (str x) (str y) hx hy W
theorem fixE (x n : List UInt8) (v : Int) (z : UInt8) (hv : v = z.toNat) (hx : x.length ≤ 1000000) (h : Lz.fix x z = n) : Calls Tryd.prog 21 #[.string (str x), .int .u8 v] W fun e w' => e = .returned (.string (str n)) ∧ Below W.heap.size W w' := by
  subst h; exact fix_any (str x) hx v z hv W
theorem satE (x : List UInt8) (r : Bool) (v : Int) (z : UInt8) (hv : v = z.toNat) (hx : x.length ≤ 1000000) (h : Lz.sat x z = r) : Calls Tryd.prog 19 #[.string (str x), .int .u8 v] W fun e w' => e = .returned (.bool r) ∧ Below W.heap.size W w' := by
  subst h; exact cnfHolds_any (str x) hx v z hv W
theorem rightE (x : List UInt8) (r : Bool) (hx : x.length ≤ 1000000) (h : (Lz.norm x == x) = r) : Calls Tryd.prog 14 #[.string (str x)] W fun e w' => e = .returned (.bool r) ∧ Below W.heap.size W w' := by
  subst h; exact cnfRight_any (str x) hx W
theorem tableE (x : List UInt8) (t : Nat) (hx : x.length ≤ 1000000) (h : Lz.table x = t) : Calls Tryd.prog 13 #[.string (str x)] W fun e w' => e = .returned (.int .u64 (t : Int)) ∧ Below W.heap.size W w' := by
  subst h; exact table_any (str x) hx W
theorem putE (x n : List UInt8) (hx : x.length ≤ 1000000) (h : putL x = n) : Calls Tryd.prog 35 #[.string (str x)] W fun e w' => e = .returned (.string (str n)) ∧ Below W.heap.size W w' := by
  subst h; exact put_any (str x) hx W
theorem leastE (x n : List UInt8) (hx : x.length ≤ 1000000) (h : Lz.least x = n) : Calls Tryd.prog 15 #[.string (str x)] W fun e w' => e = .returned (.string (str n)) ∧ Below W.heap.size W w' := by
  subst h; exact least_any (str x) W (by unfold maxLen; rw [str_size]; omega)
end
end Go.Proofs.YtmldammikebhiaaDoor
