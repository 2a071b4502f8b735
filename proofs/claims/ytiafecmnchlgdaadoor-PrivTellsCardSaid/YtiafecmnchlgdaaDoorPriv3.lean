/- The contracts of priv.Flows, Drop of pairs. Condition: the formulas' lengths. -/
import Derived.Test.YtiafecmnchlgdaaDoorPairs
import Derived.Test.YtiafecmnchlgdaaDoorPriv2
import Derived.Deep.RegionHeld3
namespace Go.Proofs.YtiafecmnchlgdaaDoor
open Go.RowKit Go.Shelf

theorem okL_dr (a : Lz.Lab) (p : UInt8) : okL (Lz.dr a p) := ⟨Nat.le_trans (List.length_filter_le _ _) (norm_len _), and_len _ _⟩
theorem okL_re (a : Lz.Lab) (p : UInt8) : okL (Lz.re a p) := ⟨and_len _ _, Nat.le_trans (List.length_filter_le _ _) (norm_len _)⟩
theorem fb_p (a b : Lz.Lab) (ha : okL a) (hb : okL b) (x : Int) (p : UInt8) (hx : x = p.toNat) (w : World) : Calls Tryd.prog 13 #[pv a, pv b, .int .u8 x] w fun e w' => e = .returned (.bool (Lz.fb a b p)) ∧ Below w.heap.size w w' := by
  have := privFlows_any (str a.1) (str a.2) (str b.1) (str b.2) ha.l ha.r hb.l hb.r x p hx w
  simp only [lst_str] at this
  exact this
theorem str_le {l : List UInt8} (h : l.length ≤ 1000000) : (str l).size ≤ 1000000 := h
theorem ofP_ok (p : UInt8) : (str (Lz.ofP p)).size ≤ 1000000 := str_le (Nat.le_trans (Lz.ofP_length p) (by decide))
set_option maxRecDepth 100000 in
set_option maxHeartbeats 2000000 in
theorem dr_p (a : Lz.Lab) (ha : okL a) (x : Int) (p : UInt8) (hx : x = p.toNat) (w : World) : Calls Tryd.prog 17 #[pv a, .int .u8 x] w fun e w' => e = .returned (pv (Lz.dr a p)) ∧ Below w.heap.size w w' := by
  subst hx
  have bL : BoxL ((w.alloc (.cells #[.string (str a.1), .string (str a.2)] 24)).alloc (.cells #[.string ⟨#[]⟩, .string ⟨#[]⟩] 24)) w.heap.size a := (Box2.new w _ _ _).alloc _
  have bR := Box2.new (w.alloc (.cells #[.string (str a.1), .string (str a.2)] 24)) 24 (.string ⟨#[]⟩) (.string ⟨#[]⟩)
  rw [World.size_alloc] at bR
  have hA : Below w.heap.size w ((w.alloc (.cells #[.string (str a.1), .string (str a.2)] 24)).alloc (.cells #[.string ⟨#[]⟩, .string ⟨#[]⟩] 24)) := ((Below.refl _ w).alloc (Nat.le_refl _) _).alloc (by simp) _
  have hAs : ((w.alloc (.cells #[.string (str a.1), .string (str a.2)] 24)).alloc (.cells #[.string ⟨#[]⟩, .string ⟨#[]⟩] 24)).heap.size = w.heap.size + 2 := by simp
  have mixed := mixedOrders
  go_enter Tryd.func17, Tryd.ntmps17
  go_wp2_with fail
  generalize ((w.alloc (.cells #[.string (str a.1), .string (str a.2)] 24)).alloc (.cells #[.string ⟨#[]⟩, .string ⟨#[]⟩] 24)) = wA at bL bR hA hAs ⊢
  have c0 := bL.cell0
  have c1 := bL.cell1
  have bLd : BoxL wA.drew w.heap.size a := bL
  have bRd : Box2 wA.drew (w.heap.size + 1) 24 (.string ⟨#[]⟩) (.string ⟨#[]⟩) := bR
  have hAd : Below w.heap.size w wA.drew := ⟨hA.os, hA.tape, hA.output, hA.size, hA.block⟩
  have hAs' : wA.drew.heap.size = w.heap.size + 2 := hAs
  clear bL bR hA hAs
  go_region_held3 (fun w' => w'.cell? ⟨w.heap.size, 0, none⟩ = some (.string (str a.1)) ∧ w'.cell? ⟨w.heap.size, 1, none⟩ = some (.string (str a.2))) (first | exact ⟨c0, c1⟩ | go_keep)
    (first
      | (go_at_call 36; refine (fix_any _ (str_le ha.1) _ p rfl _).mono ?_; rintro e w1 ⟨rfl, hb1⟩; rw [lst_str]; have bL1 := bLd.below hb1 bLd.lt; have bR1 := bRd.below hb1 bRd.lt; have hB1 := hAd.trans (hb1.mono hAd.size); have c0 := bL1.cell0; have c1 := bL1.cell1)
      | (go_at_call 11; refine (of_any _ p rfl _).mono ?_; rintro e w2 ⟨rfl, hb2⟩; have bL2 := bL1.below hb2 bL1.lt; have bR2 := bR1.below hb2 bR1.lt; have hB2 := hB1.trans (hb2.mono hB1.size); have c0 := bL2.cell0; have c1 := bL2.cell1)
      | (go_at_call 33; refine (and_any _ _ (str_le ha.2) (ofP_ok p) _).mono ?_; rintro e w3 ⟨rfl, hb3⟩; rw [lst_str, lst_str]; have bL3 := bL2.below hb3 bL2.lt; have bR3 := bR2.below hb3 bR2.lt; have hB3 := hB2.trans (hb3.mono hB2.size); have c0 := bL3.cell0; have c1 := bL3.cell1; have d0 := bR3.cell0; have d1 := bR3.cell1; have f0 := bR3.frozen 0; have f1 := bR3.frozen 1))
  go_wp2
  have bR4 := box2_set1 (q := .string (str (Lz.and a.2 (Lz.ofP p)))) (box2_set0 (q := .string (str (Lz.fix a.1 p))) bR3)
  have e0 := bR4.cell0
  have e1 := bR4.cell1
  refine bodyPost_ret (v := .agg #[.string (str (Lz.fix a.1 p)), .string (str (Lz.and a.2 (Lz.ofP p)))]) ?_ rfl ⟨rfl, (hB3.setCell (p := ⟨w.heap.size + 1, 0, none⟩) (show w.heap.size ≤ w.heap.size + 1 by omega) _).setCell (p := ⟨w.heap.size + 1, 1, none⟩) (show w.heap.size ≤ w.heap.size + 1 by omega) _⟩
  simp [results, Tryd.f17, go_sem, e0, e1]
end Go.Proofs.YtiafecmnchlgdaaDoor
