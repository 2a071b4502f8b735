/- The contracts of the document's answer to chapter 4: Drop, Reach, Needs. Condition: the formulas' lengths. -/
import Derived.Test.YtiafecmnchlgdaaDoorRef4a
import Derived.Deep.RegionHeld3
namespace Go.Proofs.YtiafecmnchlgdaaDoor
open Go.RowKit Go.Shelf
theorem strR {l : List UInt8} (h : l.length ≤ 1000) : (str l).size ≤ 100000 := Nat.le_trans h (by decide)
theorem strR2 {l : List UInt8} (h : l.length ≤ 1000) : (str l).size ≤ 50000 := Nat.le_trans h (by decide)
theorem ofP_ok2 (p : UInt8) : (str (Lz.ofP p)).size ≤ 50000 := strR2 (Nat.le_trans (Lz.ofP_length p) (by decide))
set_option maxRecDepth 100000 in
set_option maxHeartbeats 2000000 in
theorem ref4Drop_p (a : Lz.Lab) (ha : okR a) (x : Int) (p : UInt8) (hx : x = p.toNat) (w : World) : Calls Tryd.prog 18 #[pv a, .int .u8 x] w fun e w' => e = .returned (pv (Lz.dr a p)) ∧ Below w.heap.size w w' := by
  subst hx
  have bL : BoxR ((w.alloc (.cells #[.string (str a.1), .string (str a.2)] 32)).alloc (.cells #[.string ⟨#[]⟩, .string ⟨#[]⟩] 32)) w.heap.size a := (Box2.new w _ _ _).alloc _
  have bR := Box2.new (w.alloc (.cells #[.string (str a.1), .string (str a.2)] 32)) 32 (.string ⟨#[]⟩) (.string ⟨#[]⟩)
  rw [World.size_alloc] at bR
  have hA : Below w.heap.size w ((w.alloc (.cells #[.string (str a.1), .string (str a.2)] 32)).alloc (.cells #[.string ⟨#[]⟩, .string ⟨#[]⟩] 32)) := ((Below.refl _ w).alloc (Nat.le_refl _) _).alloc (by simp) _
  have hAs : ((w.alloc (.cells #[.string (str a.1), .string (str a.2)] 32)).alloc (.cells #[.string ⟨#[]⟩, .string ⟨#[]⟩] 32)).heap.size = w.heap.size + 2 := by simp
  have mixed := mixedOrders
  go_enter Tryd.func18, Tryd.ntmps18
  go_wp2_with fail
  generalize ((w.alloc (.cells #[.string (str a.1), .string (str a.2)] 32)).alloc (.cells #[.string ⟨#[]⟩, .string ⟨#[]⟩] 32)) = wA at bL bR hA hAs ⊢
  have c0 := bL.cell0
  have c1 := bL.cell1
  have bLd : BoxR wA.drew w.heap.size a := bL
  have bRd : Box2 wA.drew (w.heap.size + 1) 32 (.string ⟨#[]⟩) (.string ⟨#[]⟩) := bR
  have hAd : Below w.heap.size w wA.drew := ⟨hA.os, hA.tape, hA.output, hA.size, hA.block⟩
  have hAs' : wA.drew.heap.size = w.heap.size + 2 := hAs
  clear bL bR hA hAs
  go_region_held3 (fun w' => w'.cell? ⟨w.heap.size, 0, none⟩ = some (.string (str a.1)) ∧ w'.cell? ⟨w.heap.size, 1, none⟩ = some (.string (str a.2))) (first | exact ⟨c0, c1⟩ | go_keep)
    (first
      | (go_at_call 37; refine (refFix_any _ (strR ha.1) _ p rfl _).mono ?_; rintro e w1 ⟨rfl, hb1⟩; rw [lst_str]; have bL1 := bLd.below hb1 bLd.lt; have bR1 := bRd.below hb1 bRd.lt; have hB1 := hAd.trans (hb1.mono hAd.size); have c0 := bL1.cell0; have c1 := bL1.cell1)
      | (go_at_call 12; refine (ref4Of_any _ p rfl _).mono ?_; rintro e w2 ⟨rfl, hb2⟩; have bL2 := bL1.below hb2 bL1.lt; have bR2 := bR1.below hb2 bR1.lt; have hB2 := hB1.trans (hb2.mono hB1.size); have c0 := bL2.cell0; have c1 := bL2.cell1)
      | (go_at_call 35; refine (refAnd_any _ _ (strR2 ha.2) (ofP_ok2 p) _).mono ?_; rintro e w3 ⟨rfl, hb3⟩; rw [lst_str, lst_str]; have bL3 := bL2.below hb3 bL2.lt; have bR3 := bR2.below hb3 bR2.lt; have hB3 := hB2.trans (hb3.mono hB2.size); have c0 := bL3.cell0; have c1 := bL3.cell1; have d0 := bR3.cell0; have d1 := bR3.cell1; have f0 := bR3.frozen 0; have f1 := bR3.frozen 1))
  go_wp2
  have bR4 := box2_set1 (q := .string (str (Lz.and a.2 (Lz.ofP p)))) (box2_set0 (q := .string (str (Lz.fix a.1 p))) bR3)
  have e0 := bR4.cell0
  have e1 := bR4.cell1
  refine bodyPost_ret (v := .agg #[.string (str (Lz.fix a.1 p)), .string (str (Lz.and a.2 (Lz.ofP p)))]) ?_ rfl ⟨rfl, (hB3.setCell (p := ⟨w.heap.size + 1, 0, none⟩) (show w.heap.size ≤ w.heap.size + 1 by omega) _).setCell (p := ⟨w.heap.size + 1, 1, none⟩) (show w.heap.size ≤ w.heap.size + 1 by omega) _⟩
  simp [results, Tryd.f18, go_sem, e0, e1]
set_option maxRecDepth 100000 in
set_option maxHeartbeats 2000000 in
theorem ref4Reach_p (a : Lz.Lab) (ha : okR a) (x : Int) (p : UInt8) (hx : x = p.toNat) (w : World) : Calls Tryd.prog 20 #[pv a, .int .u8 x] w fun e w' => e = .returned (pv (Lz.re a p)) ∧ Below w.heap.size w w' := by
  subst hx
  have bL : BoxR ((w.alloc (.cells #[.string (str a.1), .string (str a.2)] 32)).alloc (.cells #[.string ⟨#[]⟩, .string ⟨#[]⟩] 32)) w.heap.size a := (Box2.new w _ _ _).alloc _
  have bR := Box2.new (w.alloc (.cells #[.string (str a.1), .string (str a.2)] 32)) 32 (.string ⟨#[]⟩) (.string ⟨#[]⟩)
  rw [World.size_alloc] at bR
  have hA : Below w.heap.size w ((w.alloc (.cells #[.string (str a.1), .string (str a.2)] 32)).alloc (.cells #[.string ⟨#[]⟩, .string ⟨#[]⟩] 32)) := ((Below.refl _ w).alloc (Nat.le_refl _) _).alloc (by simp) _
  have hAs : ((w.alloc (.cells #[.string (str a.1), .string (str a.2)] 32)).alloc (.cells #[.string ⟨#[]⟩, .string ⟨#[]⟩] 32)).heap.size = w.heap.size + 2 := by simp
  have mixed := mixedOrders
  go_enter Tryd.func20, Tryd.ntmps20
  go_wp2_with fail
  generalize ((w.alloc (.cells #[.string (str a.1), .string (str a.2)] 32)).alloc (.cells #[.string ⟨#[]⟩, .string ⟨#[]⟩] 32)) = wA at bL bR hA hAs ⊢
  have c0 := bL.cell0
  have c1 := bL.cell1
  have bLd : BoxR wA.drew w.heap.size a := bL
  have bRd : Box2 wA.drew (w.heap.size + 1) 32 (.string ⟨#[]⟩) (.string ⟨#[]⟩) := bR
  have hAd : Below w.heap.size w wA.drew := ⟨hA.os, hA.tape, hA.output, hA.size, hA.block⟩
  have hAs' : wA.drew.heap.size = w.heap.size + 2 := hAs
  clear bL bR hA hAs
  go_region_held3 (fun w' => w'.cell? ⟨w.heap.size, 0, none⟩ = some (.string (str a.1)) ∧ w'.cell? ⟨w.heap.size, 1, none⟩ = some (.string (str a.2))) (first | exact ⟨c0, c1⟩ | go_keep)
    (first
      | (go_at_call 12; refine (ref4Of_any _ p rfl _).mono ?_; rintro e w1 ⟨rfl, hb1⟩; have bL1 := bLd.below hb1 bLd.lt; have bR1 := bRd.below hb1 bRd.lt; have hB1 := hAd.trans (hb1.mono hAd.size); have c0 := bL1.cell0; have c1 := bL1.cell1)
      | (go_at_call 35; refine (refAnd_any _ _ (strR2 ha.1) (ofP_ok2 p) _).mono ?_; rintro e w2 ⟨rfl, hb2⟩; rw [lst_str, lst_str]; have bL2 := bL1.below hb2 bL1.lt; have bR2 := bR1.below hb2 bR1.lt; have hB2 := hB1.trans (hb2.mono hB1.size); have c0 := bL2.cell0; have c1 := bL2.cell1)
      | (go_at_call 37; refine (refFix_any _ (strR ha.2) _ p rfl _).mono ?_; rintro e w3 ⟨rfl, hb3⟩; rw [lst_str]; have bL3 := bL2.below hb3 bL2.lt; have bR3 := bR2.below hb3 bR2.lt; have hB3 := hB2.trans (hb3.mono hB2.size); have c0 := bL3.cell0; have c1 := bL3.cell1; have d0 := bR3.cell0; have d1 := bR3.cell1; have f0 := bR3.frozen 0; have f1 := bR3.frozen 1))
  go_wp2
  have bR4 := box2_set1 (q := .string (str (Lz.fix a.2 p))) (box2_set0 (q := .string (str (Lz.and a.1 (Lz.ofP p)))) bR3)
  have e0 := bR4.cell0
  have e1 := bR4.cell1
  refine bodyPost_ret (v := .agg #[.string (str (Lz.and a.1 (Lz.ofP p))), .string (str (Lz.fix a.2 p))]) ?_ rfl ⟨rfl, (hB3.setCell (p := ⟨w.heap.size + 1, 0, none⟩) (show w.heap.size ≤ w.heap.size + 1 by omega) _).setCell (p := ⟨w.heap.size + 1, 1, none⟩) (show w.heap.size ≤ w.heap.size + 1 by omega) _⟩
  simp [results, Tryd.f20, go_sem, e0, e1]
end Go.Proofs.YtiafecmnchlgdaaDoor
