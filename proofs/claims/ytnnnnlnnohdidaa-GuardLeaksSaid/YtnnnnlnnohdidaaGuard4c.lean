/- The contract of guard.Lower. Condition: the formulas' lengths. -/
import Derived.Test.YtnnnnlnnohdidaaGuard4
namespace Go.Proofs.Ytnnnnlnnohdidaa
open Go.RowKit Go.Shelf

set_option maxRecDepth 100000 in
set_option maxHeartbeats 4000000 in
theorem lo_p (s : Lz.St) (l : Lz.Lab) (hs : okS s) (hl : okL l) (w : World) : Calls Try.prog 23 #[sv s, pv l] w fun e w' => e = .returned (.tuple #[sv (Lz.loS s l).1, .int .i64 (Lz.loS s l).2]) ∧ Below w.heap.size w w' := by
  have mixed := mixedOrders
  obtain ⟨bS0, bL0, bZ0, hB0, hs0⟩ := alloc3 w s l
  have c0 := bS0.cell0
  have c1 := bS0.cell1
  have c2 := bS0.cell2
  have c3 := bS0.cell3
  have c4 := bL0.cell0
  have c5 := bL0.cell1
  cases h1 : Lz.fl l s.clr with
  | false =>
    have hr : Lz.loS s l = (s, (-4)) := by unfold Lz.loS; rw [h1]; rfl
    rw [hr]
    have H1 := Lib.hid h1
  
    clear hr h1
    go_enter Try.func23, Try.ntmps23
    go_wp2_with fail
    generalize (((w.alloc (.cells #[.string (str s.cur.1), .string (str s.cur.2), .string (str s.clr.1), .string (str s.clr.2)] 26)).alloc (.cells #[.string (str l.1), .string (str l.2)] 24)).alloc (.cells #[.string ⟨#[]⟩, .string ⟨#[]⟩, .string ⟨#[]⟩, .string ⟨#[]⟩] 26)) = w0 at bS0 bL0 bZ0 hB0 hs0 c0 c1 c2 c3 c4 c5 ⊢
    have bSd : BoxS w0.drew (w.heap.size) s := bS0
    have bLd : BoxL w0.drew (w.heap.size + 1) l := bL0
    have bZd : BoxZ w0.drew (w.heap.size + 1 + 1) := bZ0
    have hBd := drewB hB0
    go_region_held3 (fun w' => w'.cell? ⟨w.heap.size, 0, none⟩ = some (.string (str s.cur.1)) ∧ w'.cell? ⟨w.heap.size, 1, none⟩ = some (.string (str s.cur.2)) ∧ w'.cell? ⟨w.heap.size, 2, none⟩ = some (.string (str s.clr.1)) ∧ w'.cell? ⟨w.heap.size, 3, none⟩ = some (.string (str s.clr.2)) ∧ w'.cell? ⟨w.heap.size + 1, 0, none⟩ = some (.string (str l.1)) ∧ w'.cell? ⟨w.heap.size + 1, 1, none⟩ = some (.string (str l.2))) (first | with_reducible exact ⟨c0, c1, c2, c3, c4, c5⟩ | with_reducible exact ⟨set4 (by omega) c0, set4 (by omega) c1, set4 (by omega) c2, set4 (by omega) c3, set4 (by omega) c4, set4 (by omega) c5⟩ | go_keep)
      (first
        | (go_at_call 29; refine (cleared_any s l hs.2 hl _).mono ?_; rintro e w1 ⟨v1, rfl, hm1, hb1⟩; have bS1 := bSd.below hb1 bSd.lt; have bL1 := bLd.below hb1 bLd.lt; have bZ1 := bZd.below hb1 bZd.lt; have hB1 := hBd.trans (hb1.mono hBd.size); have c0 := bS1.cell0; have c1 := bS1.cell1; have c2 := bS1.cell2; have c3 := bS1.cell3; have c4 := bL1.cell0; have c5 := bL1.cell1)
        | (go_at_call 30; refine (above_any s l hs.1 hl _).mono ?_; rintro e w2 ⟨v2, rfl, hm2, hb2⟩; have bS2 := bS1.below hb2 bS1.lt; have bL2 := bL1.below hb2 bL1.lt; have bZ2 := bZ1.below hb2 bZ1.lt; have hB2 := hB1.trans (hb2.mono hB1.size); have hm1' := hm1.below hb2; have bG := Box4.new w2 49 v1 (.int .i64 (-4)) v2 (.int .i64 (-3)); have hG := (Below.refl w2.heap.size w2).alloc (Nat.le_refl _) (.cells #[v1, .int .i64 (-4), v2, .int .i64 (-3)] 49); have c0 := bS2.cell0; have c1 := bS2.cell1; have c2 := bS2.cell2; have c3 := bS2.cell3; have c4 := bL2.cell0; have c5 := bL2.cell1)
        | (go_at_call 28; refine (first2_eq _ v1 v2 (-4) (-3) (Lz.fl l s.clr) (Lz.fl s.cur l) (-4) (by rw [H1.out]; rfl) _ bG (hm1'.below hG) (hm2.below hG)).mono ?_; rintro e w3 ⟨rfl, hb3⟩; have hb3' := hG.trans (hb3.mono hG.size); have bS3 := bS2.below hb3' bS2.lt; have bL3 := bL2.below hb3' bL2.lt; have bZ3 := bZ2.below hb3' bZ2.lt; have hB3 := hB2.trans (hb3'.mono hB2.size); have c0 := bS3.cell0; have c1 := bS3.cell1; have c2 := bS3.cell2; have c3 := bS3.cell3; have c4 := bL3.cell0; have c5 := bL3.cell1; have z0 := bZ3.cell0; have z1 := bZ3.cell1; have z2 := bZ3.cell2; have z3 := bZ3.cell3; have f0 := bZ3.frozen 0; have f1 := bZ3.frozen 1; have f2 := bZ3.frozen 2; have f3 := bZ3.frozen 3))
    go_wp2
    have bN := box4_set (a' := .string (str s.cur.1)) (b' := .string (str s.cur.2)) (c' := .string (str s.clr.1)) (d' := .string (str s.clr.2)) bZ3
    have e0 := bN.cell0
    have e1 := bN.cell1
    have e2 := bN.cell2
    have e3 := bN.cell3
    refine bodyPost_ret (v := .tuple #[.agg #[.string (str s.cur.1), .string (str s.cur.2), .string (str s.clr.1), .string (str s.clr.2)], .int .i64 (-4)]) ?_ rfl ⟨rfl, below4 hB3 (show w.heap.size ≤ w.heap.size + 1 + 1 by omega) _ _ _ _⟩
    simp [results, Try.f23, go_sem, e0, e1, e2, e3]
  | true =>
    cases h2 : Lz.fl s.cur l with
    | false =>
      have hr : Lz.loS s l = (s, (-3)) := by unfold Lz.loS; rw [h1, h2]; rfl
      rw [hr]
      have H1 := Lib.hid h1
      have H2 := Lib.hid h2
      clear hr h1 h2
      go_enter Try.func23, Try.ntmps23
      go_wp2_with fail
      generalize (((w.alloc (.cells #[.string (str s.cur.1), .string (str s.cur.2), .string (str s.clr.1), .string (str s.clr.2)] 26)).alloc (.cells #[.string (str l.1), .string (str l.2)] 24)).alloc (.cells #[.string ⟨#[]⟩, .string ⟨#[]⟩, .string ⟨#[]⟩, .string ⟨#[]⟩] 26)) = w0 at bS0 bL0 bZ0 hB0 hs0 c0 c1 c2 c3 c4 c5 ⊢
      have bSd : BoxS w0.drew (w.heap.size) s := bS0
      have bLd : BoxL w0.drew (w.heap.size + 1) l := bL0
      have bZd : BoxZ w0.drew (w.heap.size + 1 + 1) := bZ0
      have hBd := drewB hB0
      go_region_held3 (fun w' => w'.cell? ⟨w.heap.size, 0, none⟩ = some (.string (str s.cur.1)) ∧ w'.cell? ⟨w.heap.size, 1, none⟩ = some (.string (str s.cur.2)) ∧ w'.cell? ⟨w.heap.size, 2, none⟩ = some (.string (str s.clr.1)) ∧ w'.cell? ⟨w.heap.size, 3, none⟩ = some (.string (str s.clr.2)) ∧ w'.cell? ⟨w.heap.size + 1, 0, none⟩ = some (.string (str l.1)) ∧ w'.cell? ⟨w.heap.size + 1, 1, none⟩ = some (.string (str l.2))) (first | with_reducible exact ⟨c0, c1, c2, c3, c4, c5⟩ | with_reducible exact ⟨set4 (by omega) c0, set4 (by omega) c1, set4 (by omega) c2, set4 (by omega) c3, set4 (by omega) c4, set4 (by omega) c5⟩ | go_keep)
        (first
          | (go_at_call 29; refine (cleared_any s l hs.2 hl _).mono ?_; rintro e w1 ⟨v1, rfl, hm1, hb1⟩; have bS1 := bSd.below hb1 bSd.lt; have bL1 := bLd.below hb1 bLd.lt; have bZ1 := bZd.below hb1 bZd.lt; have hB1 := hBd.trans (hb1.mono hBd.size); have c0 := bS1.cell0; have c1 := bS1.cell1; have c2 := bS1.cell2; have c3 := bS1.cell3; have c4 := bL1.cell0; have c5 := bL1.cell1)
          | (go_at_call 30; refine (above_any s l hs.1 hl _).mono ?_; rintro e w2 ⟨v2, rfl, hm2, hb2⟩; have bS2 := bS1.below hb2 bS1.lt; have bL2 := bL1.below hb2 bL1.lt; have bZ2 := bZ1.below hb2 bZ1.lt; have hB2 := hB1.trans (hb2.mono hB1.size); have hm1' := hm1.below hb2; have bG := Box4.new w2 49 v1 (.int .i64 (-4)) v2 (.int .i64 (-3)); have hG := (Below.refl w2.heap.size w2).alloc (Nat.le_refl _) (.cells #[v1, .int .i64 (-4), v2, .int .i64 (-3)] 49); have c0 := bS2.cell0; have c1 := bS2.cell1; have c2 := bS2.cell2; have c3 := bS2.cell3; have c4 := bL2.cell0; have c5 := bL2.cell1)
          | (go_at_call 28; refine (first2_eq _ v1 v2 (-4) (-3) (Lz.fl l s.clr) (Lz.fl s.cur l) (-3) (by rw [H1.out, H2.out]; rfl) _ bG (hm1'.below hG) (hm2.below hG)).mono ?_; rintro e w3 ⟨rfl, hb3⟩; have hb3' := hG.trans (hb3.mono hG.size); have bS3 := bS2.below hb3' bS2.lt; have bL3 := bL2.below hb3' bL2.lt; have bZ3 := bZ2.below hb3' bZ2.lt; have hB3 := hB2.trans (hb3'.mono hB2.size); have c0 := bS3.cell0; have c1 := bS3.cell1; have c2 := bS3.cell2; have c3 := bS3.cell3; have c4 := bL3.cell0; have c5 := bL3.cell1; have z0 := bZ3.cell0; have z1 := bZ3.cell1; have z2 := bZ3.cell2; have z3 := bZ3.cell3; have f0 := bZ3.frozen 0; have f1 := bZ3.frozen 1; have f2 := bZ3.frozen 2; have f3 := bZ3.frozen 3))
      go_wp2
      have bN := box4_set (a' := .string (str s.cur.1)) (b' := .string (str s.cur.2)) (c' := .string (str s.clr.1)) (d' := .string (str s.clr.2)) bZ3
      have e0 := bN.cell0
      have e1 := bN.cell1
      have e2 := bN.cell2
      have e3 := bN.cell3
      refine bodyPost_ret (v := .tuple #[.agg #[.string (str s.cur.1), .string (str s.cur.2), .string (str s.clr.1), .string (str s.clr.2)], .int .i64 (-3)]) ?_ rfl ⟨rfl, below4 hB3 (show w.heap.size ≤ w.heap.size + 1 + 1 by omega) _ _ _ _⟩
      simp [results, Try.f23, go_sem, e0, e1, e2, e3]
    | true =>
      have hr : Lz.loS s l = (⟨s.cur, Lz.nrm l⟩, 0) := by unfold Lz.loS; rw [h1, h2]; rfl
      rw [hr]
      have H1 := Lib.hid h1
      have H2 := Lib.hid h2
      clear hr h1 h2
      go_enter Try.func23, Try.ntmps23
      go_wp2_with fail
      generalize (((w.alloc (.cells #[.string (str s.cur.1), .string (str s.cur.2), .string (str s.clr.1), .string (str s.clr.2)] 26)).alloc (.cells #[.string (str l.1), .string (str l.2)] 24)).alloc (.cells #[.string ⟨#[]⟩, .string ⟨#[]⟩, .string ⟨#[]⟩, .string ⟨#[]⟩] 26)) = w0 at bS0 bL0 bZ0 hB0 hs0 c0 c1 c2 c3 c4 c5 ⊢
      have bSd : BoxS w0.drew (w.heap.size) s := bS0
      have bLd : BoxL w0.drew (w.heap.size + 1) l := bL0
      have bZd : BoxZ w0.drew (w.heap.size + 1 + 1) := bZ0
      have hBd := drewB hB0
      go_region_held3 (fun w' => w'.cell? ⟨w.heap.size, 0, none⟩ = some (.string (str s.cur.1)) ∧ w'.cell? ⟨w.heap.size, 1, none⟩ = some (.string (str s.cur.2)) ∧ w'.cell? ⟨w.heap.size, 2, none⟩ = some (.string (str s.clr.1)) ∧ w'.cell? ⟨w.heap.size, 3, none⟩ = some (.string (str s.clr.2)) ∧ w'.cell? ⟨w.heap.size + 1, 0, none⟩ = some (.string (str l.1)) ∧ w'.cell? ⟨w.heap.size + 1, 1, none⟩ = some (.string (str l.2))) (first | with_reducible exact ⟨c0, c1, c2, c3, c4, c5⟩ | with_reducible exact ⟨set4 (by omega) c0, set4 (by omega) c1, set4 (by omega) c2, set4 (by omega) c3, set4 (by omega) c4, set4 (by omega) c5⟩ | go_keep)
        (first
          | (go_at_call 29; refine (cleared_any s l hs.2 hl _).mono ?_; rintro e w1 ⟨v1, rfl, hm1, hb1⟩; have bS1 := bSd.below hb1 bSd.lt; have bL1 := bLd.below hb1 bLd.lt; have bZ1 := bZd.below hb1 bZd.lt; have hB1 := hBd.trans (hb1.mono hBd.size); have c0 := bS1.cell0; have c1 := bS1.cell1; have c2 := bS1.cell2; have c3 := bS1.cell3; have c4 := bL1.cell0; have c5 := bL1.cell1)
          | (go_at_call 30; refine (above_any s l hs.1 hl _).mono ?_; rintro e w2 ⟨v2, rfl, hm2, hb2⟩; have bS2 := bS1.below hb2 bS1.lt; have bL2 := bL1.below hb2 bL1.lt; have bZ2 := bZ1.below hb2 bZ1.lt; have hB2 := hB1.trans (hb2.mono hB1.size); have hm1' := hm1.below hb2; have bG := Box4.new w2 49 v1 (.int .i64 (-4)) v2 (.int .i64 (-3)); have hG := (Below.refl w2.heap.size w2).alloc (Nat.le_refl _) (.cells #[v1, .int .i64 (-4), v2, .int .i64 (-3)] 49); have c0 := bS2.cell0; have c1 := bS2.cell1; have c2 := bS2.cell2; have c3 := bS2.cell3; have c4 := bL2.cell0; have c5 := bL2.cell1)
          | (go_at_call 28; refine (first2_eq _ v1 v2 (-4) (-3) (Lz.fl l s.clr) (Lz.fl s.cur l) 0 (by rw [H1.out, H2.out]; rfl) _ bG (hm1'.below hG) (hm2.below hG)).mono ?_; rintro e w3 ⟨rfl, hb3⟩; have hb3' := hG.trans (hb3.mono hG.size); have bS3 := bS2.below hb3' bS2.lt; have bL3 := bL2.below hb3' bL2.lt; have bZ3 := bZ2.below hb3' bZ2.lt; have hB3 := hB2.trans (hb3'.mono hB2.size); have c0 := bS3.cell0; have c1 := bS3.cell1; have c2 := bS3.cell2; have c3 := bS3.cell3; have c4 := bL3.cell0; have c5 := bL3.cell1))
      go_wp2_with fail
      have bS4 : BoxS w3.drew (w.heap.size) s := bS3
      have bL4 : BoxL w3.drew (w.heap.size + 1) l := bL3
      have bZ4 : BoxZ w3.drew (w.heap.size + 1 + 1) := bZ3
      have hB4 := drewB hB3
      have c0 := bS4.cell0
      have c1 := bS4.cell1
      have c2 := bS4.cell2
      have c3 := bS4.cell3
      have c4 := bL4.cell0
      have c5 := bL4.cell1
      go_region_held3 (fun w' => w'.cell? ⟨w.heap.size, 0, none⟩ = some (.string (str s.cur.1)) ∧ w'.cell? ⟨w.heap.size, 1, none⟩ = some (.string (str s.cur.2)) ∧ w'.cell? ⟨w.heap.size, 2, none⟩ = some (.string (str s.clr.1)) ∧ w'.cell? ⟨w.heap.size, 3, none⟩ = some (.string (str s.clr.2)) ∧ w'.cell? ⟨w.heap.size + 1, 0, none⟩ = some (.string (str l.1)) ∧ w'.cell? ⟨w.heap.size + 1, 1, none⟩ = some (.string (str l.2))) (first | with_reducible exact ⟨c0, c1, c2, c3, c4, c5⟩ | with_reducible exact ⟨set4 (by omega) c0, set4 (by omega) c1, set4 (by omega) c2, set4 (by omega) c3, set4 (by omega) c4, set4 (by omega) c5⟩ | go_keep)
        (first
          | (go_at_call 17; refine (norm_p l hl _).mono ?_; rintro e w5 ⟨rfl, hb5⟩; have bS5 := bS4.below hb5 bS4.lt; have bL5 := bL4.below hb5 bL4.lt; have bZ5 := bZ4.below hb5 bZ4.lt; have hB5 := hB4.trans (hb5.mono hB4.size); have c0 := bS5.cell0; have c1 := bS5.cell1; have c2 := bS5.cell2; have c3 := bS5.cell3; have c4 := bL5.cell0; have c5 := bL5.cell1; have z0 := bZ5.cell0; have z1 := bZ5.cell1; have z2 := bZ5.cell2; have z3 := bZ5.cell3; have f0 := bZ5.frozen 0; have f1 := bZ5.frozen 1; have f2 := bZ5.frozen 2; have f3 := bZ5.frozen 3))
      go_wp2
      have bN := box4_set (a' := .string (str s.cur.1)) (b' := .string (str s.cur.2)) (c' := .string (str (Lz.nrm l).1)) (d' := .string (str (Lz.nrm l).2)) bZ5
      have e0 := bN.cell0
      have e1 := bN.cell1
      have e2 := bN.cell2
      have e3 := bN.cell3
      refine bodyPost_ret (v := .tuple #[.agg #[.string (str s.cur.1), .string (str s.cur.2), .string (str (Lz.nrm l).1), .string (str (Lz.nrm l).2)], .int .i64 0]) ?_ rfl ⟨rfl, below4 hB5 (show w.heap.size ≤ w.heap.size + 1 + 1 by omega) _ _ _ _⟩
      simp [results, Try.f23, go_sem, e0, e1, e2, e3]
end Go.Proofs.Ytnnnnlnnohdidaa
