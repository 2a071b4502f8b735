/- The contract of guard.Both. Condition: the formulas' lengths. -/
import Derived.Test.YtnnnnlnnohdidaaGuard4
namespace Go.Proofs.Ytnnnnlnnohdidaa
open Go.RowKit Go.Shelf

set_option maxRecDepth 100000 in
set_option maxHeartbeats 4000000 in
theorem bo_p (s : Lz.St) (l : Lz.Lab) (hs : okS s) (hl : okL l) (w : World) : Calls Try.prog 16 #[sv s, pv l] w fun e w' => e = .returned (.tuple #[sv (Lz.boS s l).1, .int .i64 (Lz.boS s l).2]) ∧ Below w.heap.size w w' := by
  have mixed := mixedOrders
  obtain ⟨bS0, bL0, bZ0, hB0, hs0⟩ := alloc3 w s l
  have c0 := bS0.cell0
  have c1 := bS0.cell1
  have c2 := bS0.cell2
  have c3 := bS0.cell3
  have c4 := bL0.cell0
  have c5 := bL0.cell1
  cases h : (Lz.fl s.cur l && Lz.fl l s.clr) with
  | false =>
    have hr : Lz.boS s l = (s, (Lz.wrS s l)) := by unfold Lz.boS; rw [h]; rfl
    have hw : (Lz.wrS s l = 0) ↔ (Lz.fl s.cur l && Lz.fl l s.clr) = true := Lz.wrS_zero s l
    rw [h] at hw
    rw [hr]
    clear hr h
    have hn : ¬ Lz.wrS s l = 0 := fun x => by have := hw.1 x; cases this
    clear hw
    obtain ⟨n, hq⟩ : ∃ n, Lz.wrS s l = n := ⟨_, rfl⟩
    rw [hq] at hn ⊢
    have HQ := Lib.hid hq
    clear hq
    go_enter Try.func16, Try.ntmps16
    go_wp2_with fail
    generalize (((w.alloc (.cells #[.string (str s.cur.1), .string (str s.cur.2), .string (str s.clr.1), .string (str s.clr.2)] 26)).alloc (.cells #[.string (str l.1), .string (str l.2)] 24)).alloc (.cells #[.string ⟨#[]⟩, .string ⟨#[]⟩, .string ⟨#[]⟩, .string ⟨#[]⟩] 26)) = w0 at bS0 bL0 bZ0 hB0 hs0 c0 c1 c2 c3 c4 c5 ⊢
    refine (wr_p s l hs hl _).mono ?_
    rintro e w1 ⟨rfl, hb1⟩
    have bS1 := bS0.below hb1 bS0.lt
    have bL1 := bL0.below hb1 bL0.lt
    have bZ1 := bZ0.below hb1 bZ0.lt
    have hB1 := hB0.trans (hb1.mono hB0.size)
    have c0 := bS1.cell0
    have c1 := bS1.cell1
    have c2 := bS1.cell2
    have c3 := bS1.cell3
    have c4 := bL1.cell0
    have c5 := bL1.cell1
    have z0 := bZ1.cell0
    have z1 := bZ1.cell1
    have z2 := bZ1.cell2
    have z3 := bZ1.cell3
    have f0 := bZ1.frozen 0
    have f1 := bZ1.frozen 1
    have f2 := bZ1.frozen 2
    have f3 := bZ1.frozen 3
    clear bS0 bL0 bZ0 hB0 hb1
    rw [HQ.out]
    go_wp2
    have bN := box4_set (a' := .string (str s.cur.1)) (b' := .string (str s.cur.2)) (c' := .string (str s.clr.1)) (d' := .string (str s.clr.2)) bZ1
    have e0 := bN.cell0
    have e1 := bN.cell1
    have e2 := bN.cell2
    have e3 := bN.cell3
    refine bodyPost_ret (v := .tuple #[.agg #[.string (str s.cur.1), .string (str s.cur.2), .string (str s.clr.1), .string (str s.clr.2)], .int .i64 n]) ?_ rfl ⟨rfl, below4 hB1 (show w.heap.size ≤ w.heap.size + 1 + 1 by omega) _ _ _ _⟩
    simp [results, Try.f16, go_sem, e0, e1, e2, e3]
  | true =>
    have hr : Lz.boS s l = (⟨Lz.nrm l, s.clr⟩, 0) := by unfold Lz.boS; rw [h]; rfl
    have hw : (Lz.wrS s l = 0) ↔ (Lz.fl s.cur l && Lz.fl l s.clr) = true := Lz.wrS_zero s l
    rw [h] at hw
    rw [hr]
    clear hr h
    have hn : Lz.wrS s l = 0 := hw.2 rfl
    have HN := Lib.hid hn
    clear hn hw
    go_enter Try.func16, Try.ntmps16
    go_wp2_with fail
    generalize (((w.alloc (.cells #[.string (str s.cur.1), .string (str s.cur.2), .string (str s.clr.1), .string (str s.clr.2)] 26)).alloc (.cells #[.string (str l.1), .string (str l.2)] 24)).alloc (.cells #[.string ⟨#[]⟩, .string ⟨#[]⟩, .string ⟨#[]⟩, .string ⟨#[]⟩] 26)) = w0 at bS0 bL0 bZ0 hB0 hs0 c0 c1 c2 c3 c4 c5 ⊢
    refine (wr_p s l hs hl _).mono ?_
    rintro e w1 ⟨rfl, hb1⟩
    have bS1 := bS0.below hb1 bS0.lt
    have bL1 := bL0.below hb1 bL0.lt
    have bZ1 := bZ0.below hb1 bZ0.lt
    have hB1 := hB0.trans (hb1.mono hB0.size)
    have c0 := bS1.cell0
    have c1 := bS1.cell1
    have c2 := bS1.cell2
    have c3 := bS1.cell3
    have c4 := bL1.cell0
    have c5 := bL1.cell1
    clear bS0 bL0 bZ0 hB0 hb1
    rw [HN.out]
    go_wp2_with fail
    have bS2 : BoxS w1.drew (w.heap.size) s := bS1
    have bL2 : BoxL w1.drew (w.heap.size + 1) l := bL1
    have bZ2 : BoxZ w1.drew (w.heap.size + 1 + 1) := bZ1
    have hB2 := drewB hB1
    have c0 := bS2.cell0
    have c1 := bS2.cell1
    have c2 := bS2.cell2
    have c3 := bS2.cell3
    have c4 := bL2.cell0
    have c5 := bL2.cell1
    go_region_held3 (fun w' => w'.cell? ⟨w.heap.size, 0, none⟩ = some (.string (str s.cur.1)) ∧ w'.cell? ⟨w.heap.size, 1, none⟩ = some (.string (str s.cur.2)) ∧ w'.cell? ⟨w.heap.size, 2, none⟩ = some (.string (str s.clr.1)) ∧ w'.cell? ⟨w.heap.size, 3, none⟩ = some (.string (str s.clr.2)) ∧ w'.cell? ⟨w.heap.size + 1, 0, none⟩ = some (.string (str l.1)) ∧ w'.cell? ⟨w.heap.size + 1, 1, none⟩ = some (.string (str l.2))) (first | with_reducible exact ⟨c0, c1, c2, c3, c4, c5⟩ | with_reducible exact ⟨set4 (by omega) c0, set4 (by omega) c1, set4 (by omega) c2, set4 (by omega) c3, set4 (by omega) c4, set4 (by omega) c5⟩ | go_keep)
      (first
        | (go_at_call 17; refine (norm_p l hl _).mono ?_; rintro e w3 ⟨rfl, hb3⟩; have bS3 := bS2.below hb3 bS2.lt; have bL3 := bL2.below hb3 bL2.lt; have bZ3 := bZ2.below hb3 bZ2.lt; have hB3 := hB2.trans (hb3.mono hB2.size); have c0 := bS3.cell0; have c1 := bS3.cell1; have c2 := bS3.cell2; have c3 := bS3.cell3; have c4 := bL3.cell0; have c5 := bL3.cell1; have z0 := bZ3.cell0; have z1 := bZ3.cell1; have z2 := bZ3.cell2; have z3 := bZ3.cell3; have f0 := bZ3.frozen 0; have f1 := bZ3.frozen 1; have f2 := bZ3.frozen 2; have f3 := bZ3.frozen 3))
    go_wp2
    have bN := box4_set (a' := .string (str (Lz.nrm l).1)) (b' := .string (str (Lz.nrm l).2)) (c' := .string (str s.clr.1)) (d' := .string (str s.clr.2)) bZ3
    have e0 := bN.cell0
    have e1 := bN.cell1
    have e2 := bN.cell2
    have e3 := bN.cell3
    refine bodyPost_ret (v := .tuple #[.agg #[.string (str (Lz.nrm l).1), .string (str (Lz.nrm l).2), .string (str s.clr.1), .string (str s.clr.2)], .int .i64 0]) ?_ rfl ⟨rfl, below4 hB3 (show w.heap.size ≤ w.heap.size + 1 + 1 by omega) _ _ _ _⟩
    simp [results, Try.f16, go_sem, e0, e1, e2, e3]
end Go.Proofs.Ytnnnnlnnohdidaa
