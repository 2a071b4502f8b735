/- The contracts of guard.Taint. Condition: the formulas' lengths. -/
import Derived.Test.YtnnnnlnnohdidaaGuard4
namespace Go.Proofs.Ytnnnnlnnohdidaa
open Go.RowKit Go.Shelf

set_option maxRecDepth 100000 in
set_option maxHeartbeats 4000000 in
theorem up_p (s : Lz.St) (l : Lz.Lab) (hs : okS s) (hl : okL l) (w : World) : Calls Try.prog 14 #[sv s, pv l] w fun e w' => e = .returned (.tuple #[sv (Lz.upS s l).1, .int .i64 (Lz.upS s l).2]) ∧ Below w.heap.size w w' := by
  have mixed := mixedOrders
  obtain ⟨bS0, bL0, bZ0, hB0, hs0⟩ := alloc3 w s l
  have c0 := bS0.cell0
  have c1 := bS0.cell1
  have c2 := bS0.cell2
  have c3 := bS0.cell3
  have c4 := bL0.cell0
  have c5 := bL0.cell1
  cases h : Lz.fl (Lz.jn s.cur l) s.clr with
  | false =>
    have hr : Lz.upS s l = (s, (-4)) := by unfold Lz.upS; rw [h]; rfl
    rw [hr]
    have HH := Lib.hid h
    clear h hr
    go_enter Try.func14, Try.ntmps14
    go_wp2_with fail
    generalize (((w.alloc (.cells #[.string (str s.cur.1), .string (str s.cur.2), .string (str s.clr.1), .string (str s.clr.2)] 26)).alloc (.cells #[.string (str l.1), .string (str l.2)] 24)).alloc (.cells #[.string ⟨#[]⟩, .string ⟨#[]⟩, .string ⟨#[]⟩, .string ⟨#[]⟩] 26)) = w0 at bS0 bL0 bZ0 hB0 hs0 c0 c1 c2 c3 c4 c5 ⊢
    refine (join_p s.cur l hs.1 hl _).mono ?_
    rintro e w1 ⟨rfl, hb1⟩
    have bS1 := bS0.below hb1 bS0.lt
    have bL1 := bL0.below hb1 bL0.lt
    have bZ1 := bZ0.below hb1 bZ0.lt
    have hB1 := hB0.trans (hb1.mono hB0.size)
  
    have hB1' := hB1.alloc hB1.size (.cells #[.string (str (Lz.jn s.cur l).1), .string (str (Lz.jn s.cur l).2)] 24)
    have bU := Box2.new w1 24 (.string (str (Lz.jn s.cur l).1)) (.string (str (Lz.jn s.cur l).2))
    have bSa := bS1.alloc (.cells #[.string (str (Lz.jn s.cur l).1), .string (str (Lz.jn s.cur l).2)] 24)
    have bZa := bZ1.alloc (.cells #[.string (str (Lz.jn s.cur l).1), .string (str (Lz.jn s.cur l).2)] 24)
    have c0 := bSa.cell0
    have c1 := bSa.cell1
    have c2 := bSa.cell2
    have c3 := bSa.cell3
    clear bS0 bL0 bZ0 hB0 bS1 bL1 bZ1 hB1 hb1 c4 c5
    go_wp2_with fail
    refine (cleared_any s (Lz.jn s.cur l) hs.2 (okL_jn _ _) _).mono ?_
    rintro e w2 ⟨v2, rfl, hm2, hb2⟩
    have bS2 := bSa.below hb2 bSa.lt
    have bZ2 := bZa.below hb2 bZa.lt
    have bU2 := bU.below hb2 bU.lt
    have hB2 := hB1'.trans (hb2.mono hB1'.size)
    have bG := Box2.new w2 49 v2 (.int .i64 (-4))
    have hG := (Below.refl w2.heap.size w2).alloc (Nat.le_refl _) (.cells #[v2, .int .i64 (-4)] 49)
    go_wp2_with fail
    refine (first1_eq _ v2 (-4) (Lz.fl (Lz.jn s.cur l) s.clr) (-4) (by rw [HH.out]; rfl) _ bG (hm2.below hG)).mono ?_
    rintro e w3 ⟨rfl, hb3⟩
    have hb3' := hG.trans (hb3.mono hG.size)
    have bS3 := bS2.below hb3' bS2.lt
    have bZ3 := bZ2.below hb3' bZ2.lt
    have bU3 := bU2.below hb3' bU2.lt
    have hB3 := hB2.trans (hb3'.mono hB2.size)
    have c0 := bS3.cell0
    have c1 := bS3.cell1
    have c2 := bS3.cell2
    have c3 := bS3.cell3
    have c4 := bU3.cell0
    have c5 := bU3.cell1
    have z0 := bZ3.cell0
    have z1 := bZ3.cell1
    have z2 := bZ3.cell2
    have z3 := bZ3.cell3
    have f0 := bZ3.frozen 0
    have f1 := bZ3.frozen 1
    have f2 := bZ3.frozen 2
    have f3 := bZ3.frozen 3
    go_wp2
    have bN := box4_set (a' := .string (str s.cur.1)) (b' := .string (str s.cur.2)) (c' := .string (str s.clr.1)) (d' := .string (str s.clr.2)) bZ3
    have e0 := bN.cell0
    have e1 := bN.cell1
    have e2 := bN.cell2
    have e3 := bN.cell3
    refine bodyPost_ret (v := .tuple #[.agg #[.string (str s.cur.1), .string (str s.cur.2), .string (str s.clr.1), .string (str s.clr.2)], .int .i64 (-4)]) ?_ rfl ⟨rfl, below4 hB3 (show w.heap.size ≤ w.heap.size + 1 + 1 by omega) _ _ _ _⟩
    simp [results, Try.f14, go_sem, e0, e1, e2, e3]
  | true =>
    have hr : Lz.upS s l = (⟨Lz.jn s.cur l, s.clr⟩, 0) := by unfold Lz.upS; rw [h]; rfl
    rw [hr]
    have HH := Lib.hid h
    clear h hr
    go_enter Try.func14, Try.ntmps14
    go_wp2_with fail
    generalize (((w.alloc (.cells #[.string (str s.cur.1), .string (str s.cur.2), .string (str s.clr.1), .string (str s.clr.2)] 26)).alloc (.cells #[.string (str l.1), .string (str l.2)] 24)).alloc (.cells #[.string ⟨#[]⟩, .string ⟨#[]⟩, .string ⟨#[]⟩, .string ⟨#[]⟩] 26)) = w0 at bS0 bL0 bZ0 hB0 hs0 c0 c1 c2 c3 c4 c5 ⊢
    refine (join_p s.cur l hs.1 hl _).mono ?_
    rintro e w1 ⟨rfl, hb1⟩
    have bS1 := bS0.below hb1 bS0.lt
    have bL1 := bL0.below hb1 bL0.lt
    have bZ1 := bZ0.below hb1 bZ0.lt
    have hB1 := hB0.trans (hb1.mono hB0.size)
  
    have hB1' := hB1.alloc hB1.size (.cells #[.string (str (Lz.jn s.cur l).1), .string (str (Lz.jn s.cur l).2)] 24)
    have bU := Box2.new w1 24 (.string (str (Lz.jn s.cur l).1)) (.string (str (Lz.jn s.cur l).2))
    have bSa := bS1.alloc (.cells #[.string (str (Lz.jn s.cur l).1), .string (str (Lz.jn s.cur l).2)] 24)
    have bZa := bZ1.alloc (.cells #[.string (str (Lz.jn s.cur l).1), .string (str (Lz.jn s.cur l).2)] 24)
    have c0 := bSa.cell0
    have c1 := bSa.cell1
    have c2 := bSa.cell2
    have c3 := bSa.cell3
    clear bS0 bL0 bZ0 hB0 bS1 bL1 bZ1 hB1 hb1 c4 c5
    go_wp2_with fail
    refine (cleared_any s (Lz.jn s.cur l) hs.2 (okL_jn _ _) _).mono ?_
    rintro e w2 ⟨v2, rfl, hm2, hb2⟩
    have bS2 := bSa.below hb2 bSa.lt
    have bZ2 := bZa.below hb2 bZa.lt
    have bU2 := bU.below hb2 bU.lt
    have hB2 := hB1'.trans (hb2.mono hB1'.size)
    have bG := Box2.new w2 49 v2 (.int .i64 (-4))
    have hG := (Below.refl w2.heap.size w2).alloc (Nat.le_refl _) (.cells #[v2, .int .i64 (-4)] 49)
    go_wp2_with fail
    refine (first1_eq _ v2 (-4) (Lz.fl (Lz.jn s.cur l) s.clr) 0 (by rw [HH.out]; rfl) _ bG (hm2.below hG)).mono ?_
    rintro e w3 ⟨rfl, hb3⟩
    have hb3' := hG.trans (hb3.mono hG.size)
    have bS3 := bS2.below hb3' bS2.lt
    have bZ3 := bZ2.below hb3' bZ2.lt
    have bU3 := bU2.below hb3' bU2.lt
    have hB3 := hB2.trans (hb3'.mono hB2.size)
    have c0 := bS3.cell0
    have c1 := bS3.cell1
    have c2 := bS3.cell2
    have c3 := bS3.cell3
    have c4 := bU3.cell0
    have c5 := bU3.cell1
    have z0 := bZ3.cell0
    have z1 := bZ3.cell1
    have z2 := bZ3.cell2
    have z3 := bZ3.cell3
    have f0 := bZ3.frozen 0
    have f1 := bZ3.frozen 1
    have f2 := bZ3.frozen 2
    have f3 := bZ3.frozen 3
    go_wp2
    have bN := box4_set (a' := .string (str (Lz.jn s.cur l).1)) (b' := .string (str (Lz.jn s.cur l).2)) (c' := .string (str s.clr.1)) (d' := .string (str s.clr.2)) bZ3
    have e0 := bN.cell0
    have e1 := bN.cell1
    have e2 := bN.cell2
    have e3 := bN.cell3
    refine bodyPost_ret (v := .tuple #[.agg #[.string (str (Lz.jn s.cur l).1), .string (str (Lz.jn s.cur l).2), .string (str s.clr.1), .string (str s.clr.2)], .int .i64 0]) ?_ rfl ⟨rfl, below4 hB3 (show w.heap.size ≤ w.heap.size + 1 + 1 by omega) _ _ _ _⟩
    simp [results, Try.f14, go_sem, e0, e1, e2, e3]
end Go.Proofs.Ytnnnnlnnohdidaa
