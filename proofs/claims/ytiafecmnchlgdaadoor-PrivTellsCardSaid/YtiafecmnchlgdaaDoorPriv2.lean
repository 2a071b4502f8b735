/- The contracts of priv.Flows, Drop. Condition: the formulas' lengths. -/
import Derived.Test.YtiafecmnchlgdaaDoorLabel3
import Derived.BigQuiet
import Derived.Test.YtiafecmnchlgdaaDoorOrd2
import Derived.Test.YtiafecmnchlgdaaDoorPriv
import Derived.Test.YtiafecmnchlgdaaDoorFix
namespace Go.Proofs.YtiafecmnchlgdaaDoor
open Go.RowKit Go.Shelf
open Lz (ofTo ofP ofTo_length ofP_length)

theorem and_length (a b : List UInt8) : (Lz.and a b).length ≤ 256 := leastTo_length _ 256
/-- Does a label flow to another one by the principals of p? -/
def flowsBy (s i s' i' : List UInt8) (p : UInt8) : Bool := Lz.implies (Lz.and s' (ofP p)) s && Lz.implies (Lz.and i (ofP p)) i'
set_option maxRecDepth 100000 in
set_option maxHeartbeats 2000000 in
theorem privFlows_any (s i s' i' : ByteArray) (hs : s.size ≤ 1000000) (hi : i.size ≤ 1000000) (hs' : s'.size ≤ 1000000) (hi' : i'.size ≤ 1000000) (x : Int) (p : UInt8) (hx : x = p.toNat) (w : World) :
    Calls Tryd.prog 13 #[.agg #[.string s, .string i], .agg #[.string s', .string i'], .int .u8 x] w fun e w' => e = .returned (.bool (flowsBy s.data.toList i.data.toList s'.data.toList i'.data.toList p)) ∧ Below w.heap.size w w' := by
  subst hx
  have bL := (Box2.new w 24 (.string s) (.string i)).alloc (.cells #[.string s', .string i'] 24)
  have bM := Box2.new (w.alloc (.cells #[.string s, .string i] 24)) 24 (.string s') (.string i')
  rw [World.size_alloc] at bM
  have hA : Below w.heap.size w ((w.alloc (.cells #[.string s, .string i] 24)).alloc (.cells #[.string s', .string i'] 24)) := ((Below.refl _ w).alloc (Nat.le_refl _) _).alloc (by simp) _
  have hof := ofP_length p
  have mixed := mixedOrders
  have hso : (str (ofP p)).size ≤ 1000000 := by rw [str_size]; omega
  have hsa : (str (Lz.and s'.data.toList (ofP p))).size ≤ 1000000 := by have := and_length s'.data.toList (ofP p); rw [str_size]; omega
  have hsb : (str (Lz.and i.data.toList (ofP p))).size ≤ 1000000 := by have := and_length i.data.toList (ofP p); rw [str_size]; omega
  cases h1 : Lz.implies (Lz.and s'.data.toList (ofP p)) s.data.toList with
  | false =>
    have hf : flowsBy s.data.toList i.data.toList s'.data.toList i'.data.toList p = false := by unfold flowsBy; rw [h1]; rfl
    rw [hf]
    have H1 := Lib.hid h1
    clear h1 hf
    go_enter Tryd.func13, Tryd.ntmps13
    go_wp2_with fail
    refine (of_any _ p rfl _).mono ?_
    rintro e w1 ⟨rfl, hb1⟩
    have bL1 := bL.below hb1 bL.lt
    have bM1 := bM.below hb1 bM.lt
    have k0 := cell_regrown bL1.cell0
    have k1 := cell_regrown bL1.cell1
    have k2 := cell_regrown bM1.cell0
    have k3 := cell_regrown bM1.cell1
    have c1 := quiet_call (w := w1) (fun W _ => and_any s' (str (ofP p)) hs' hso W)
    have c2 := quiet_call (w := w1) (v := .bool false) (fun W _ => (implies_any (str (Lz.and s'.data.toList (ofP p))) s hsa hs W).mono fun e w' ⟨he, hb⟩ => ⟨by rw [he, lst_str, H1.out], hb⟩)
    rw [lst_str] at c1
    go_wp2_with fail
    refine wp_region_quiet_below mixed (by kernel_rfl) ?_
    repeat (go_big_quiet_step (fail))
    go_big_quiet_step (exact c1 _ _)
    repeat (go_big_quiet_step (fail))
    go_big_quiet_step (exact c2 _ _)
    repeat (go_big_quiet_step (fail))
    refine wpQuiet_nil ?_
    intro W1 hw'
    have hb2 := below_of_regrown hw'
    clear hw' k0 k1 k2 k3 c1 c2
    go_wp2
    go_ret
    have hB1 := hA.trans (hb1.mono hA.size)
    exact ⟨rfl, hB1.trans (hb2.mono hB1.size)⟩
  | true =>
    have hf : flowsBy s.data.toList i.data.toList s'.data.toList i'.data.toList p = Lz.implies (Lz.and i.data.toList (ofP p)) i'.data.toList := by unfold flowsBy; rw [h1]; rfl
    rw [hf]
    have H1 := Lib.hid h1
    clear h1 hf
    go_enter Tryd.func13, Tryd.ntmps13
    go_wp2_with fail
    refine (of_any _ p rfl _).mono ?_
    rintro e w1 ⟨rfl, hb1⟩
    have bL1 := bL.below hb1 bL.lt
    have bM1 := bM.below hb1 bM.lt
    have k0 := cell_regrown bL1.cell0
    have k1 := cell_regrown bL1.cell1
    have k2 := cell_regrown bM1.cell0
    have k3 := cell_regrown bM1.cell1
    have c1 := quiet_call (w := w1) (fun W _ => and_any s' (str (ofP p)) hs' hso W)
    have c2 := quiet_call (w := w1) (v := .bool true) (fun W _ => (implies_any (str (Lz.and s'.data.toList (ofP p))) s hsa hs W).mono fun e w' ⟨he, hb⟩ => ⟨by rw [he, lst_str, H1.out], hb⟩)
    have c3 := quiet_call (w := w1) (fun W _ => and_any i (str (ofP p)) hi hso W)
    have c4 := quiet_call (w := w1) (fun W _ => implies_any (str (Lz.and i.data.toList (ofP p))) i' hsb hi' W)
    rw [lst_str] at c1 c3 c4
    go_wp2_with fail
    refine wp_region_quiet_below mixed (by kernel_rfl) ?_
    repeat (go_big_quiet_step (fail))
    go_big_quiet_step (exact c1 _ _)
    repeat (go_big_quiet_step (fail))
    go_big_quiet_step (exact c2 _ _)
    repeat (go_big_quiet_step (fail))
    go_big_quiet_step (exact c3 _ _)
    repeat (go_big_quiet_step (fail))
    go_big_quiet_step (exact c4 _ _)
    repeat (go_big_quiet_step (fail))
    refine wpQuiet_nil ?_
    intro W1 hw'
    have hb2 := below_of_regrown hw'
    clear hw' k0 k1 k2 k3 c1 c2 c3 c4
    go_wp2
    go_ret
    have hB1 := hA.trans (hb1.mono hA.size)
    exact ⟨rfl, hB1.trans (hb2.mono hB1.size)⟩
end Go.Proofs.YtiafecmnchlgdaaDoor
