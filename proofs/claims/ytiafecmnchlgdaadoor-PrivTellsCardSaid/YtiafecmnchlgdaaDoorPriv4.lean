/- The contracts of priv.Reach, Needs. Condition: the formulas' lengths. -/
import Derived.Test.YtiafecmnchlgdaaDoorPriv3
import Derived.Test.YtiafecmnchlgdaaDoorCnfText
import Derived.Deep.RegionHeld3
namespace Go.Proofs.YtiafecmnchlgdaaDoor
open Go.RowKit Go.Shelf
attribute [local go_sem] str_size
set_option maxRecDepth 100000 in
set_option maxHeartbeats 2000000 in
theorem re_p (a : Lz.Lab) (ha : okL a) (x : Int) (p : UInt8) (hx : x = p.toNat) (w : World) : Calls Tryd.prog 19 #[pv a, .int .u8 x] w fun e w' => e = .returned (pv (Lz.re a p)) ∧ Below w.heap.size w w' := by
  subst hx
  have bL : BoxL ((w.alloc (.cells #[.string (str a.1), .string (str a.2)] 24)).alloc (.cells #[.string ⟨#[]⟩, .string ⟨#[]⟩] 24)) w.heap.size a := (Box2.new w _ _ _).alloc _
  have bR := Box2.new (w.alloc (.cells #[.string (str a.1), .string (str a.2)] 24)) 24 (.string ⟨#[]⟩) (.string ⟨#[]⟩)
  rw [World.size_alloc] at bR
  have hA : Below w.heap.size w ((w.alloc (.cells #[.string (str a.1), .string (str a.2)] 24)).alloc (.cells #[.string ⟨#[]⟩, .string ⟨#[]⟩] 24)) := ((Below.refl _ w).alloc (Nat.le_refl _) _).alloc (by simp) _
  have hAs : ((w.alloc (.cells #[.string (str a.1), .string (str a.2)] 24)).alloc (.cells #[.string ⟨#[]⟩, .string ⟨#[]⟩] 24)).heap.size = w.heap.size + 2 := by simp
  have mixed := mixedOrders
  go_enter Tryd.func19, Tryd.ntmps19
  go_wp2_with fail
  generalize ((w.alloc (.cells #[.string (str a.1), .string (str a.2)] 24)).alloc (.cells #[.string ⟨#[]⟩, .string ⟨#[]⟩] 24)) = wA at bL bR hA hAs ⊢
  have c0 := bL.cell0
  have c1 := bL.cell1
  have bLd : BoxL wA.drew w.heap.size a := bL
  have bRd : Box2 wA.drew (w.heap.size + 1) 24 (.string ⟨#[]⟩) (.string ⟨#[]⟩) := bR
  have hAd : Below w.heap.size w wA.drew := ⟨hA.os, hA.tape, hA.output, hA.size, hA.block⟩
  have hAs' : wA.drew.heap.size = w.heap.size + 2 := hAs
  clear bL bR hA hAs
  go_region_held3 (fun w' => w'.cell? ⟨w.heap.size, 0, none⟩ = some (.string (str a.1)) ∧ w'.cell? ⟨w.heap.size, 1, none⟩ = some (.string (str a.2))) (first | exact ⟨c0, c1⟩ | go_keep)
    (first
      | (go_at_call 11; refine (of_any _ p rfl _).mono ?_; rintro e w1 ⟨rfl, hb1⟩; have bL1 := bLd.below hb1 bLd.lt; have bR1 := bRd.below hb1 bRd.lt; have hB1 := hAd.trans (hb1.mono hAd.size); have c0 := bL1.cell0; have c1 := bL1.cell1)
      | (go_at_call 33; refine (and_any _ _ (str_le ha.1) (ofP_ok p) _).mono ?_; rintro e w2 ⟨rfl, hb2⟩; rw [lst_str, lst_str]; have bL2 := bL1.below hb2 bL1.lt; have bR2 := bR1.below hb2 bR1.lt; have hB2 := hB1.trans (hb2.mono hB1.size); have c0 := bL2.cell0; have c1 := bL2.cell1)
      | (go_at_call 36; refine (fix_any _ (str_le ha.2) _ p rfl _).mono ?_; rintro e w3 ⟨rfl, hb3⟩; rw [lst_str]; have bL3 := bL2.below hb3 bL2.lt; have bR3 := bR2.below hb3 bR2.lt; have hB3 := hB2.trans (hb3.mono hB2.size); have c0 := bL3.cell0; have c1 := bL3.cell1; have d0 := bR3.cell0; have d1 := bR3.cell1; have f0 := bR3.frozen 0; have f1 := bR3.frozen 1))
  go_wp2
  have bR4 := box2_set1 (q := .string (str (Lz.fix a.2 p))) (box2_set0 (q := .string (str (Lz.and a.1 (Lz.ofP p)))) bR3)
  have e0 := bR4.cell0
  have e1 := bR4.cell1
  refine bodyPost_ret (v := .agg #[.string (str (Lz.and a.1 (Lz.ofP p))), .string (str (Lz.fix a.2 p))]) ?_ rfl ⟨rfl, (hB3.setCell (p := ⟨w.heap.size + 1, 0, none⟩) (show w.heap.size ≤ w.heap.size + 1 by omega) _).setCell (p := ⟨w.heap.size + 1, 1, none⟩) (show w.heap.size ≤ w.heap.size + 1 by omega) _⟩
  simp [results, Tryd.f19, go_sem, e0, e1]
theorem two {W : World} {j : Nat} {b : Lz.Lab} (k : BoxL W j b) : W.cell? ⟨j, 0, none⟩ = some (.string (str b.1)) ∧ W.cell? ⟨j, 1, none⟩ = some (.string (str b.2)) := ⟨k.cell0, k.cell1⟩
set_option maxRecDepth 100000 in
set_option maxHeartbeats 4000000 in
theorem needs_p (a b : Lz.Lab) (ha : okL a) (hb : okL b) (w : World) : Calls Tryd.prog 21 #[pv a, pv b] w fun e w' => e = .returned (.string (str (Lz.needs a b))) ∧ Below w.heap.size w w' := by
  obtain ⟨i0, hi, hz0, hz1, hz2⟩ := info_parts info_u8
  have HND := Lib.hid (show Lz.needs a b = Lz.least (Lz.enough (Lz.nrm a) (Lz.nrm b) 64) from rfl)
  have bA : BoxL ((w.alloc (.cells #[.string (str a.1), .string (str a.2)] 24)).alloc (.cells #[.string (str b.1), .string (str b.2)] 24)) w.heap.size a := (Box2.new w _ _ _).alloc _
  have bB := Box2.new (w.alloc (.cells #[.string (str a.1), .string (str a.2)] 24)) 24 (.string (str b.1)) (.string (str b.2))
  rw [World.size_alloc] at bB
  have hA : Below w.heap.size w ((w.alloc (.cells #[.string (str a.1), .string (str a.2)] 24)).alloc (.cells #[.string (str b.1), .string (str b.2)] 24)) := ((Below.refl _ w).alloc (Nat.le_refl _) _).alloc (by simp) _
  have hAs : ((w.alloc (.cells #[.string (str a.1), .string (str a.2)] 24)).alloc (.cells #[.string (str b.1), .string (str b.2)] 24)).heap.size = w.heap.size + 2 := by simp
  have mixed := mixedOrders
  have HNA := Lib.hid (fun W => norm_p a ha W)
  have HNB := Lib.hid (fun W => norm_p b hb W)
  have okna := okL_nrm a
  have oknb := okL_nrm b
  generalize Lz.nrm a = na at HNA okna HND
  generalize Lz.nrm b = nb at HNB oknb HND
  go_enter Tryd.func21, Tryd.ntmps21
  go_wp2_with fail
  generalize ((w.alloc (.cells #[.string (str a.1), .string (str a.2)] 24)).alloc (.cells #[.string (str b.1), .string (str b.2)] 24)) = wA at bA bB hA hAs ⊢
  have bAd : BoxL wA.drew w.heap.size a := bA
  have bBd : BoxL wA.drew (w.heap.size + 1) b := bB
  have hAd : Below w.heap.size w wA.drew := ⟨hA.os, hA.tape, hA.output, hA.size, hA.block⟩
  have hAs' : wA.drew.heap.size = w.heap.size + 2 := hAs
  have c0 := two bBd
  have g0 := bAd.cell0
  have g1 := bAd.cell1
  clear bA bB hA hAs
  have g2 := bBd.cell0
  have g3 := bBd.cell1
  have mark := True.intro
  refine Code.wp_mono (Q := fun e a' wf => e = Exit.normal ∧ a' = { tmps := #[pv a, pv b, .pointer (some ⟨w.heap.size, 0, none⟩), .pointer (some ⟨w.heap.size + 1, 0, none⟩), .string ⟨#[]⟩, undef, undef, pv a, pv na, pv b, pv nb, undef, undef, undef, undef, undef, undef, undef, undef, undef, undef, undef, undef, undef, undef, undef, undef, undef], defers := [] } ∧ BoxL wf w.heap.size na ∧ BoxL wf (w.heap.size + 1) nb ∧ Below w.heap.size w wf ∧ w.heap.size + 2 ≤ wf.heap.size) (fun e a' wf hq => ?_) ?_
  rotate_left
  focus
   go_region_with (first
      | (go_at_call 38; clear mark; refine (HNA.out _).mono ?_; rintro e w1 ⟨rfl, hb1⟩; have bA1 := bAd.below hb1 bAd.lt; have bB1 := bBd.below hb1 bBd.lt; have hB1 := hAd.trans (hb1.mono hAd.size); have g2 := bB1.cell0; have g3 := bB1.cell1)
      | (go_at_call 38; refine (HNB.out _).mono ?_; rintro e w2 ⟨rfl, hb2⟩; have bA2 := bA1.below hb2 bA1.lt; have bB2 := bB1.below hb2 bB1.lt; have hB2 := hB1.trans (hb2.mono hB1.size); have f0 := bA2.frozen 0; have f1 := bA2.frozen 1; have f2 := bB2.frozen 0; have f3 := bB2.frozen 1; have g0 := bA2.cell0; have g1 := bA2.cell1; have g2 := bB2.cell0; have g3 := bB2.cell1))
   all_goals
     have hAx := box2_set1 (q := .string (str na.2)) (box2_set0 (q := .string (str na.1)) bA2)
     refine ⟨rfl, rfl, (Below.heap_setCell _ _ _ _ (show w.heap.size ≠ w.heap.size + 1 by omega)).trans ((Below.heap_setCell _ _ _ _ (show w.heap.size ≠ w.heap.size + 1 by omega)).trans hAx), box2_set1 (box2_set0 ((Below.heap_setCell _ _ _ _ (show w.heap.size + 1 ≠ w.heap.size by omega)).trans ((Below.heap_setCell _ _ _ _ (show w.heap.size + 1 ≠ w.heap.size by omega)).trans bB2))), (((hB2.setCell (p := ⟨w.heap.size, 0, none⟩) (Nat.le_refl _) _).setCell (p := ⟨w.heap.size, 1, none⟩) (Nat.le_refl _) _).setCell (p := ⟨w.heap.size + 1, 0, none⟩) (show w.heap.size ≤ w.heap.size + 1 by omega) _).setCell (p := ⟨w.heap.size + 1, 1, none⟩) (show w.heap.size ≤ w.heap.size + 1 by omega) _, ?_⟩
     have hlt := bB2.lt
     simp only [World.setCell, Array.size_modify]
     omega
  obtain ⟨rfl, rfl, A0, B0, hB0, hs0⟩ := hq
  clear bAd bBd hAd hAs' c0 g0 g1 g2 g3 HNA HNB mark mixed
  go_wp2_with fail
  go_loopw [5, 6, 11] (fun v _ i wr => ∃ k : Nat, k ≤ 64 ∧ i = .int .i64 k ∧ wr.ownsRow (w.heap.size + 2) 5 1 v (Lz.enough na nb k).length ((Lz.enough na nb k).map bval) ∧ BoxL wr w.heap.size na ∧ BoxL wr (w.heap.size + 1) nb ∧ Below w.heap.size w wr ∧ w.heap.size + 2 ≤ wr.heap.size) (fun _ _ i _ => 64 - (intOf i).toNat)
  case atStart => exact ⟨0, by omega, rfl, World.ownsRow_nil _ _ _ _, A0, B0, hB0, hs0⟩
  case round =>
    obtain ⟨k, hk, rfl, hrow, A1, B1, hB1, hs1⟩ := hrel
    have hel := Lz.enough_length na nb k
    by_cases hlt : k < 64
    · have hw : IntKind.u8.wrap (k : Int) = (k : Int) := by rw [IntKind.wrap_u8]; omega
      have hkn : (k : Int) = ((UInt8.ofNat k).toNat : Int) := by rw [Lz.toNat_ofNat_lt (by omega)]
      have HKN := Lib.hid hkn
      have HF := Lib.hid (fb_p na nb okna oknb (k : Int) (UInt8.ofNat k) hkn wr)
      have hst : Lz.enough na nb (k + 1) = if Lz.fb na nb (UInt8.ofNat k) then Lz.enough na nb k ++ [UInt8.ofNat k] else Lz.enough na nb k := rfl
      have HST := Lib.hid hst
      clear hkn hst
      have g0 := A1.cell0
      have g1 := A1.cell1
      have g2 := B1.cell0
      have g3 := B1.cell1
      generalize hu : UInt8.ofNat k = u at HKN HF HST
      clear hu
      cases hb : Lz.fb na nb u with
      | false =>
        rw [hb] at HF HST
        clear hb
        rw [if_neg (by decide)] at HST
        go_wp2_with fail
        refine HF.out.mono ?_
        rintro e w1 ⟨rfl, hb1⟩
        go_wp2
        go_roundw
        case rel => exact ⟨k + 1, by omega, by go_num, by rw [HST.out]; exact row_below hrow hb1, A1.below hb1 A1.lt, B1.below hb1 B1.lt, hB1.trans (hb1.mono hB1.size), Nat.le_trans hs1 hb1.size⟩
        case measure => simp [intOf]; omega
      | true =>
        rw [hb] at HF HST
        clear hb
        rw [if_pos rfl] at HST
        go_wp2_with fail
        refine HF.out.mono ?_
        rintro e w1 ⟨rfl, hb1⟩
        have hrow1 := row_below hrow hb1
        have A2 := A1.below hb1 A1.lt
        have B2 := B1.below hb1 B1.lt
        have hB2 := hB1.trans (hb1.mono hB1.size)
        have hs2 := Nat.le_trans hs1 hb1.size
        clear g0 g1 g2 g3 A1 B1 hB1 hs1 hb1 hrow
        go_wp2_with (at_builtin; refine wpList_append_own _ rfl _ _ 49 rfl (w.heap.size + 2) 5 i0 (.int .u8 0) 1 1 Tryd.underlying49 hi hz0 hz1 hz2 rfl (by decide) _ _ _ rfl (hrow1.alloc _) ⟨w1.heap.size, 0, none⟩ 1 1 [.int .u8 (k : Int)] rfl rfl (cell_one_new _ _ _) (by simp [Value.oneCell']) (by unfold maxLen; omega) (by omega) (by simp; omega) ?_; intro v' w2 hown' hgrow _)
        have hbw : Below (w.heap.size + 2) w1 w2 := ((Below.refl _ w1).alloc hs2 _).grown hgrow (by simp; omega) (fun j e => (hrow1.lt j e).1)
        go_roundw
        case rel => exact ⟨k + 1, by omega, by go_num, by rw [HST.out, List.length_append, List.map_append]; rw [HKN.out] at hown'; exact hown', A2.below hbw (by omega), B2.below hbw (by omega), hB2.trans (hbw.mono (by omega)), Nat.le_trans hs2 hbw.size⟩
        case measure => simp [intOf]; omega
    · obtain rfl : k = 64 := by omega
      have hst := run_string_own (P := Tryd.prog) hrow Tryd.underlying49 Tryd.underlying5 Tryd.underlying9
      go_wp2_with fail
      refine (least_any _ _ (by unfold maxLen; rw [str_size]; omega)).mono ?_
      rintro e w1 ⟨rfl, hb1⟩
      rw [lst_str, ← HND.out]
      go_wp2
      go_ret
      exact ⟨rfl, hB1.trans (hb1.mono hB1.size)⟩
end Go.Proofs.YtiafecmnchlgdaaDoor
