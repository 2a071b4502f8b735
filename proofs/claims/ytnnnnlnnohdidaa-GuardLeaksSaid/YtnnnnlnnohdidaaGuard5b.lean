/- The contract of guard.Lift. Condition: the formulas' lengths. -/
import Derived.Test.YtnnnnlnnohdidaaGuard4
import Derived.Test.YtnnnnlnnohdidaaPriv3
namespace Go.Proofs.Ytnnnnlnnohdidaa
open Go.RowKit Go.Shelf

set_option maxRecDepth 100000 in
set_option maxHeartbeats 2000000 in
theorem li5_closure (b c d : Nat) (s : Lz.St) (l : Lz.Lab) (p : UInt8) (hs : okS s) (hl : okL l) (w : World) (hb : BoxS w b s) (hc : BoxL w c l) (hd : Boxed w d 5 (.int .u8 (p.toNat : Int))) :
    Calls Try.prog 36 #[.pointer (some ⟨c, 0, none⟩), .pointer (some ⟨b, 0, none⟩), .pointer (some ⟨d, 0, none⟩)] w fun e w' => e = .returned (.bool (Lz.fb l s.clr p)) ∧ Below w.heap.size w w' := by
  have c0 := hb.cell0
  have c1 := hb.cell1
  have c2 := hb.cell2
  have c3 := hb.cell3
  have d0 := hc.cell0
  have d1 := hc.cell1
  have u0 := hd.cell
  go_enter Try.func36, Try.ntmps36
  go_wp2_with fail
  refine (fb_p l s.clr hl hs.2 _ p rfl _).mono ?_
  rintro e w1 ⟨rfl, hb1⟩
  go_wp2
  go_ret
  exact ⟨rfl, hb1⟩

set_option maxRecDepth 100000 in
theorem li5_alloc (w : World) (s : Lz.St) (l : Lz.Lab) (p : UInt8) : BoxS (((((w.alloc (.cells #[.string (str s.cur.1), .string (str s.cur.2), .string (str s.clr.1), .string (str s.clr.2)] 26)).alloc (.cells #[.string (str l.1), .string (str l.2)] 24)).alloc (.cells #[.int .u8 (p.toNat : Int)] 5)).alloc (.cells #[.string ⟨#[]⟩, .string ⟨#[]⟩, .string ⟨#[]⟩, .string ⟨#[]⟩] 26)).alloc (.cells #[.func (.func 36) #[] #[.pointer (some ⟨w.heap.size + 1, 0, none⟩), .pointer (some ⟨w.heap.size, 0, none⟩), .pointer (some ⟨w.heap.size + 1 + 1, 0, none⟩)], .int .i64 (-4)] 49)) (w.heap.size) s ∧ BoxL (((((w.alloc (.cells #[.string (str s.cur.1), .string (str s.cur.2), .string (str s.clr.1), .string (str s.clr.2)] 26)).alloc (.cells #[.string (str l.1), .string (str l.2)] 24)).alloc (.cells #[.int .u8 (p.toNat : Int)] 5)).alloc (.cells #[.string ⟨#[]⟩, .string ⟨#[]⟩, .string ⟨#[]⟩, .string ⟨#[]⟩] 26)).alloc (.cells #[.func (.func 36) #[] #[.pointer (some ⟨w.heap.size + 1, 0, none⟩), .pointer (some ⟨w.heap.size, 0, none⟩), .pointer (some ⟨w.heap.size + 1 + 1, 0, none⟩)], .int .i64 (-4)] 49)) (w.heap.size + 1) l ∧ Boxed (((((w.alloc (.cells #[.string (str s.cur.1), .string (str s.cur.2), .string (str s.clr.1), .string (str s.clr.2)] 26)).alloc (.cells #[.string (str l.1), .string (str l.2)] 24)).alloc (.cells #[.int .u8 (p.toNat : Int)] 5)).alloc (.cells #[.string ⟨#[]⟩, .string ⟨#[]⟩, .string ⟨#[]⟩, .string ⟨#[]⟩] 26)).alloc (.cells #[.func (.func 36) #[] #[.pointer (some ⟨w.heap.size + 1, 0, none⟩), .pointer (some ⟨w.heap.size, 0, none⟩), .pointer (some ⟨w.heap.size + 1 + 1, 0, none⟩)], .int .i64 (-4)] 49)) (w.heap.size + 1 + 1) 5 (.int .u8 (p.toNat : Int)) ∧ BoxZ (((((w.alloc (.cells #[.string (str s.cur.1), .string (str s.cur.2), .string (str s.clr.1), .string (str s.clr.2)] 26)).alloc (.cells #[.string (str l.1), .string (str l.2)] 24)).alloc (.cells #[.int .u8 (p.toNat : Int)] 5)).alloc (.cells #[.string ⟨#[]⟩, .string ⟨#[]⟩, .string ⟨#[]⟩, .string ⟨#[]⟩] 26)).alloc (.cells #[.func (.func 36) #[] #[.pointer (some ⟨w.heap.size + 1, 0, none⟩), .pointer (some ⟨w.heap.size, 0, none⟩), .pointer (some ⟨w.heap.size + 1 + 1, 0, none⟩)], .int .i64 (-4)] 49)) (w.heap.size + 1 + 1 + 1) ∧ Box2 (((((w.alloc (.cells #[.string (str s.cur.1), .string (str s.cur.2), .string (str s.clr.1), .string (str s.clr.2)] 26)).alloc (.cells #[.string (str l.1), .string (str l.2)] 24)).alloc (.cells #[.int .u8 (p.toNat : Int)] 5)).alloc (.cells #[.string ⟨#[]⟩, .string ⟨#[]⟩, .string ⟨#[]⟩, .string ⟨#[]⟩] 26)).alloc (.cells #[.func (.func 36) #[] #[.pointer (some ⟨w.heap.size + 1, 0, none⟩), .pointer (some ⟨w.heap.size, 0, none⟩), .pointer (some ⟨w.heap.size + 1 + 1, 0, none⟩)], .int .i64 (-4)] 49)) (w.heap.size + 1 + 1 + 1 + 1) 49 (.func (.func 36) #[] #[.pointer (some ⟨w.heap.size + 1, 0, none⟩), .pointer (some ⟨w.heap.size, 0, none⟩), .pointer (some ⟨w.heap.size + 1 + 1, 0, none⟩)]) (.int .i64 (-4)) ∧ Box2 (((((w.alloc (.cells #[.string (str s.cur.1), .string (str s.cur.2), .string (str s.clr.1), .string (str s.clr.2)] 26)).alloc (.cells #[.string (str l.1), .string (str l.2)] 24)).alloc (.cells #[.int .u8 (p.toNat : Int)] 5)).alloc (.cells #[.string ⟨#[]⟩, .string ⟨#[]⟩, .string ⟨#[]⟩, .string ⟨#[]⟩] 26)).alloc (.cells #[.nilFunc, .int .i64 0] 49)) (w.heap.size + 1 + 1 + 1 + 1) 49 .nilFunc (.int .i64 0) ∧ Below w.heap.size w (((((w.alloc (.cells #[.string (str s.cur.1), .string (str s.cur.2), .string (str s.clr.1), .string (str s.clr.2)] 26)).alloc (.cells #[.string (str l.1), .string (str l.2)] 24)).alloc (.cells #[.int .u8 (p.toNat : Int)] 5)).alloc (.cells #[.string ⟨#[]⟩, .string ⟨#[]⟩, .string ⟨#[]⟩, .string ⟨#[]⟩] 26)).alloc (.cells #[.func (.func 36) #[] #[.pointer (some ⟨w.heap.size + 1, 0, none⟩), .pointer (some ⟨w.heap.size, 0, none⟩), .pointer (some ⟨w.heap.size + 1 + 1, 0, none⟩)], .int .i64 (-4)] 49)) := by
  refine ⟨((((Box4.new w _ _ _ _ _).alloc _).alloc _).alloc _).alloc _, ?_, ?_, ?_, ?_, ?_, ((((((Below.refl _ w).alloc (Nat.le_refl _) _).alloc (by simp) _).alloc (by simp; omega) _).alloc (by simp; omega) _).alloc (by simp; omega) _)⟩
  · have := (((Box2.new (w.alloc (.cells #[.string (str s.cur.1), .string (str s.cur.2), .string (str s.clr.1), .string (str s.clr.2)] 26)) 24 (.string (str l.1)) (.string (str l.2))).alloc (.cells #[.int .u8 (p.toNat : Int)] 5)).alloc (.cells #[.string ⟨#[]⟩, .string ⟨#[]⟩, .string ⟨#[]⟩, .string ⟨#[]⟩] 26)).alloc (.cells #[.func (.func 36) #[] #[.pointer (some ⟨w.heap.size + 1, 0, none⟩), .pointer (some ⟨w.heap.size, 0, none⟩), .pointer (some ⟨w.heap.size + 1 + 1, 0, none⟩)], .int .i64 (-4)] 49)
    rw [World.size_alloc] at this
    exact this
  · have := ((Boxed.new ((w.alloc (.cells #[.string (str s.cur.1), .string (str s.cur.2), .string (str s.clr.1), .string (str s.clr.2)] 26)).alloc (.cells #[.string (str l.1), .string (str l.2)] 24)) 5 (.int .u8 (p.toNat : Int))).alloc (.cells #[.string ⟨#[]⟩, .string ⟨#[]⟩, .string ⟨#[]⟩, .string ⟨#[]⟩] 26)).alloc (.cells #[.func (.func 36) #[] #[.pointer (some ⟨w.heap.size + 1, 0, none⟩), .pointer (some ⟨w.heap.size, 0, none⟩), .pointer (some ⟨w.heap.size + 1 + 1, 0, none⟩)], .int .i64 (-4)] 49)
    simp only [World.size_alloc] at this
    exact this
  · have := (Box4.new (((w.alloc (.cells #[.string (str s.cur.1), .string (str s.cur.2), .string (str s.clr.1), .string (str s.clr.2)] 26)).alloc (.cells #[.string (str l.1), .string (str l.2)] 24)).alloc (.cells #[.int .u8 (p.toNat : Int)] 5)) 26 (.string ⟨#[]⟩) (.string ⟨#[]⟩) (.string ⟨#[]⟩) (.string ⟨#[]⟩)).alloc (.cells #[.func (.func 36) #[] #[.pointer (some ⟨w.heap.size + 1, 0, none⟩), .pointer (some ⟨w.heap.size, 0, none⟩), .pointer (some ⟨w.heap.size + 1 + 1, 0, none⟩)], .int .i64 (-4)] 49)
    simp only [World.size_alloc] at this
    exact this
  · have := Box2.new ((((w.alloc (.cells #[.string (str s.cur.1), .string (str s.cur.2), .string (str s.clr.1), .string (str s.clr.2)] 26)).alloc (.cells #[.string (str l.1), .string (str l.2)] 24)).alloc (.cells #[.int .u8 (p.toNat : Int)] 5)).alloc (.cells #[.string ⟨#[]⟩, .string ⟨#[]⟩, .string ⟨#[]⟩, .string ⟨#[]⟩] 26)) 49 (.func (.func 36) #[] #[.pointer (some ⟨w.heap.size + 1, 0, none⟩), .pointer (some ⟨w.heap.size, 0, none⟩), .pointer (some ⟨w.heap.size + 1 + 1, 0, none⟩)]) (.int .i64 (-4))
    simp only [World.size_alloc] at this
    exact this
  · have := Box2.new ((((w.alloc (.cells #[.string (str s.cur.1), .string (str s.cur.2), .string (str s.clr.1), .string (str s.clr.2)] 26)).alloc (.cells #[.string (str l.1), .string (str l.2)] 24)).alloc (.cells #[.int .u8 (p.toNat : Int)] 5)).alloc (.cells #[.string ⟨#[]⟩, .string ⟨#[]⟩, .string ⟨#[]⟩, .string ⟨#[]⟩] 26)) 49 .nilFunc (.int .i64 0)
    simp only [World.size_alloc] at this
    exact this

set_option maxRecDepth 100000 in
set_option maxHeartbeats 4000000 in
theorem liG_p_no (s : Lz.St) (l : Lz.Lab) (p : UInt8) (hs : okS s) (hl : okL l) (w : World) (h1 : Lz.fb l s.clr p = false) : Calls Try.prog 19 #[sv s, pv l, .int .u8 (p.toNat : Int)] w fun e w' => e = .returned (.tuple #[sv (Lz.liS s l p).1, .int .i64 (Lz.liS s l p).2.1, .bool (Lz.liS s l p).2.2]) ∧ Below w.heap.size w w' := by
  have mixed := mixedOrders
  obtain ⟨bS0, bL0, bU0, bZ0, bM0, bMz, hB0⟩ := li5_alloc w s l p
  have hr : Lz.liS s l p = (s, (-4), false) := by unfold Lz.liS; rw [h1]; rfl
  rw [hr]
  have H1 := Lib.hid h1
  clear hr h1
  have c0 := bMz.cell0
  have c1 := bMz.cell1
  have f0 := bMz.frozen 0
  have f1 := bMz.frozen 1
  go_enter Try.func19, Try.ntmps19
  go_wp2_with fail
  clear c0 c1 f0 f1 bMz
  have hm0 : Must (((((w.alloc (.cells #[.string (str s.cur.1), .string (str s.cur.2), .string (str s.clr.1), .string (str s.clr.2)] 26)).alloc (.cells #[.string (str l.1), .string (str l.2)] 24)).alloc (.cells #[.int .u8 (p.toNat : Int)] 5)).alloc (.cells #[.string ⟨#[]⟩, .string ⟨#[]⟩, .string ⟨#[]⟩, .string ⟨#[]⟩] 26)).alloc (.cells #[.func (.func 36) #[] #[.pointer (some ⟨w.heap.size + 1, 0, none⟩), .pointer (some ⟨w.heap.size, 0, none⟩), .pointer (some ⟨w.heap.size + 1 + 1, 0, none⟩)], .int .i64 (-4)] 49)) (Lz.fb l s.clr p) (.func (.func 36) #[] #[.pointer (some ⟨w.heap.size + 1, 0, none⟩), .pointer (some ⟨w.heap.size, 0, none⟩), .pointer (some ⟨w.heap.size + 1 + 1, 0, none⟩)]) := ⟨36, _, rfl, enters_of Try.func36 (by kernel_rfl) rfl, fun W hW => li5_closure _ _ _ s l p hs hl W (Box4.below bS0 hW bS0.lt) (Box2.below bL0 hW bL0.lt) (boxed_below bU0 hW (Array.getElem?_eq_some_iff.1 bU0).1)⟩
  generalize (((((w.alloc (.cells #[.string (str s.cur.1), .string (str s.cur.2), .string (str s.clr.1), .string (str s.clr.2)] 26)).alloc (.cells #[.string (str l.1), .string (str l.2)] 24)).alloc (.cells #[.int .u8 (p.toNat : Int)] 5)).alloc (.cells #[.string ⟨#[]⟩, .string ⟨#[]⟩, .string ⟨#[]⟩, .string ⟨#[]⟩] 26)).alloc (.cells #[.func (.func 36) #[] #[.pointer (some ⟨w.heap.size + 1, 0, none⟩), .pointer (some ⟨w.heap.size, 0, none⟩), .pointer (some ⟨w.heap.size + 1 + 1, 0, none⟩)], .int .i64 (-4)] 49)) = w0 at bS0 bL0 bU0 bZ0 bM0 hB0 hm0 ⊢
  have bSd : BoxS w0.drew (w.heap.size) s := bS0
  have bLd : BoxL w0.drew (w.heap.size + 1) l := bL0
  have bZd : BoxZ w0.drew (w.heap.size + 1 + 1 + 1) := bZ0
  have hBd := drewB hB0
  have bMd : Box2 w0.drew (w.heap.size + 1 + 1 + 1 + 1) 49 (.func (.func 36) #[] #[.pointer (some ⟨w.heap.size + 1, 0, none⟩), .pointer (some ⟨w.heap.size, 0, none⟩), .pointer (some ⟨w.heap.size + 1 + 1, 0, none⟩)]) (.int .i64 (-4)) := bM0
  have hmd : Must w0.drew (Lz.fb l s.clr p) (.func (.func 36) #[] #[.pointer (some ⟨w.heap.size + 1, 0, none⟩), .pointer (some ⟨w.heap.size, 0, none⟩), .pointer (some ⟨w.heap.size + 1 + 1, 0, none⟩)]) := hm0.below (drewB (Below.refl _ w0))
  have c0 := bSd.cell0
  have c1 := bSd.cell1
  have c2 := bSd.cell2
  have c3 := bSd.cell3
  have c4 := bLd.cell0
  have c5 := bLd.cell1
  have m0 := bMd.cell0
  have m1 := bMd.cell1
  clear bS0 bL0 bU0 bZ0 bM0 hB0 hm0
  go_region_held3 (fun w' => w'.cell? ⟨w.heap.size, 0, none⟩ = some (.string (str s.cur.1)) ∧ w'.cell? ⟨w.heap.size, 1, none⟩ = some (.string (str s.cur.2)) ∧ w'.cell? ⟨w.heap.size, 2, none⟩ = some (.string (str s.clr.1)) ∧ w'.cell? ⟨w.heap.size, 3, none⟩ = some (.string (str s.clr.2)) ∧ w'.cell? ⟨w.heap.size + 1, 0, none⟩ = some (.string (str l.1)) ∧ w'.cell? ⟨w.heap.size + 1, 1, none⟩ = some (.string (str l.2)) ∧ w'.cell? ⟨w.heap.size + 1 + 1 + 1 + 1, 0, none⟩ = some (.func (.func 36) #[] #[.pointer (some ⟨w.heap.size + 1, 0, none⟩), .pointer (some ⟨w.heap.size, 0, none⟩), .pointer (some ⟨w.heap.size + 1 + 1, 0, none⟩)]) ∧ w'.cell? ⟨w.heap.size + 1 + 1 + 1 + 1, 1, none⟩ = some (.int .i64 (-4))) (first | with_reducible exact ⟨c0, c1, c2, c3, c4, c5, m0, m1⟩ | go_keep)
    (first
      | (go_at_call 30; refine (above_any s l hs.1 hl _).mono ?_; rintro e w1 ⟨v1, rfl, hm1, hb1⟩; have bS1 := bSd.below hb1 bSd.lt; have bL1 := bLd.below hb1 bLd.lt; have bZ1 := bZd.below hb1 bZd.lt; have hB1 := hBd.trans (hb1.mono hBd.size); have bM1 := bMd.below hb1 bMd.lt; have hm0' := hmd.below hb1; have bG := Box4.new w1 49 (.func (.func 36) #[] #[.pointer (some ⟨w.heap.size + 1, 0, none⟩), .pointer (some ⟨w.heap.size, 0, none⟩), .pointer (some ⟨w.heap.size + 1 + 1, 0, none⟩)]) (.int .i64 (-4)) v1 (.int .i64 (-3)); have hG := (Below.refl w1.heap.size w1).alloc (Nat.le_refl _) (.cells #[.func (.func 36) #[] #[.pointer (some ⟨w.heap.size + 1, 0, none⟩), .pointer (some ⟨w.heap.size, 0, none⟩), .pointer (some ⟨w.heap.size + 1 + 1, 0, none⟩)], .int .i64 (-4), v1, .int .i64 (-3)] 49); have c0 := bS1.cell0; have c1 := bS1.cell1; have c2 := bS1.cell2; have c3 := bS1.cell3; have c4 := bL1.cell0; have c5 := bL1.cell1; have m0 := bM1.cell0; have m1 := bM1.cell1)
      | (go_at_call 28; refine (first2_eq _ (.func (.func 36) #[] #[.pointer (some ⟨w.heap.size + 1, 0, none⟩), .pointer (some ⟨w.heap.size, 0, none⟩), .pointer (some ⟨w.heap.size + 1 + 1, 0, none⟩)]) v1 (-4) (-3) (Lz.fb l s.clr p) (Lz.fl s.cur l) (-4) (by rw [H1.out]; rfl) _ bG (hm0'.below hG) (hm1.below hG)).mono ?_; rintro e w3 ⟨rfl, hb3⟩; have hb3' := hG.trans (hb3.mono hG.size); have bS3 := bS1.below hb3' bS1.lt; have bL3 := bL1.below hb3' bL1.lt; have bZ3 := bZ1.below hb3' bZ1.lt; have hB3 := hB1.trans (hb3'.mono hB1.size); have bM3 := bM1.below hb3' bM1.lt; have c0 := bS3.cell0; have c1 := bS3.cell1; have c2 := bS3.cell2; have c3 := bS3.cell3; have c4 := bL3.cell0; have c5 := bL3.cell1; have z0 := bZ3.cell0; have z1 := bZ3.cell1; have z2 := bZ3.cell2; have z3 := bZ3.cell3; have f0 := bZ3.frozen 0; have f1 := bZ3.frozen 1; have f2 := bZ3.frozen 2; have f3 := bZ3.frozen 3; have m0 := bM3.cell0; have m1 := bM3.cell1))
  go_wp2
  have bN := box4_set (a' := .string (str s.cur.1)) (b' := .string (str s.cur.2)) (c' := .string (str s.clr.1)) (d' := .string (str s.clr.2)) bZ3
  have e0 := bN.cell0
  have e1 := bN.cell1
  have e2 := bN.cell2
  have e3 := bN.cell3
  refine bodyPost_ret (v := .tuple #[.agg #[.string (str s.cur.1), .string (str s.cur.2), .string (str s.clr.1), .string (str s.clr.2)], .int .i64 (-4), .bool false]) ?_ rfl ⟨rfl, below4 hB3 (show w.heap.size ≤ w.heap.size + 1 + 1 + 1 by omega) _ _ _ _⟩
  simp [results, Try.f19, go_sem, e0, e1, e2, e3]
set_option maxRecDepth 100000 in
set_option maxHeartbeats 4000000 in
theorem liG_p_far (s : Lz.St) (l : Lz.Lab) (p : UInt8) (hs : okS s) (hl : okL l) (w : World) (h1 : Lz.fb l s.clr p = true) (h2 : Lz.fl s.cur l = false) : Calls Try.prog 19 #[sv s, pv l, .int .u8 (p.toNat : Int)] w fun e w' => e = .returned (.tuple #[sv (Lz.liS s l p).1, .int .i64 (Lz.liS s l p).2.1, .bool (Lz.liS s l p).2.2]) ∧ Below w.heap.size w w' := by
  have mixed := mixedOrders
  obtain ⟨bS0, bL0, bU0, bZ0, bM0, bMz, hB0⟩ := li5_alloc w s l p
  have hr : Lz.liS s l p = (s, (-3), false) := by unfold Lz.liS; rw [h1, h2]; rfl
  rw [hr]
  have H1 := Lib.hid h1
  have H2 := Lib.hid h2
  clear hr h1 h2
  have c0 := bMz.cell0
  have c1 := bMz.cell1
  have f0 := bMz.frozen 0
  have f1 := bMz.frozen 1
  go_enter Try.func19, Try.ntmps19
  go_wp2_with fail
  clear c0 c1 f0 f1 bMz
  have hm0 : Must (((((w.alloc (.cells #[.string (str s.cur.1), .string (str s.cur.2), .string (str s.clr.1), .string (str s.clr.2)] 26)).alloc (.cells #[.string (str l.1), .string (str l.2)] 24)).alloc (.cells #[.int .u8 (p.toNat : Int)] 5)).alloc (.cells #[.string ⟨#[]⟩, .string ⟨#[]⟩, .string ⟨#[]⟩, .string ⟨#[]⟩] 26)).alloc (.cells #[.func (.func 36) #[] #[.pointer (some ⟨w.heap.size + 1, 0, none⟩), .pointer (some ⟨w.heap.size, 0, none⟩), .pointer (some ⟨w.heap.size + 1 + 1, 0, none⟩)], .int .i64 (-4)] 49)) (Lz.fb l s.clr p) (.func (.func 36) #[] #[.pointer (some ⟨w.heap.size + 1, 0, none⟩), .pointer (some ⟨w.heap.size, 0, none⟩), .pointer (some ⟨w.heap.size + 1 + 1, 0, none⟩)]) := ⟨36, _, rfl, enters_of Try.func36 (by kernel_rfl) rfl, fun W hW => li5_closure _ _ _ s l p hs hl W (Box4.below bS0 hW bS0.lt) (Box2.below bL0 hW bL0.lt) (boxed_below bU0 hW (Array.getElem?_eq_some_iff.1 bU0).1)⟩
  generalize (((((w.alloc (.cells #[.string (str s.cur.1), .string (str s.cur.2), .string (str s.clr.1), .string (str s.clr.2)] 26)).alloc (.cells #[.string (str l.1), .string (str l.2)] 24)).alloc (.cells #[.int .u8 (p.toNat : Int)] 5)).alloc (.cells #[.string ⟨#[]⟩, .string ⟨#[]⟩, .string ⟨#[]⟩, .string ⟨#[]⟩] 26)).alloc (.cells #[.func (.func 36) #[] #[.pointer (some ⟨w.heap.size + 1, 0, none⟩), .pointer (some ⟨w.heap.size, 0, none⟩), .pointer (some ⟨w.heap.size + 1 + 1, 0, none⟩)], .int .i64 (-4)] 49)) = w0 at bS0 bL0 bU0 bZ0 bM0 hB0 hm0 ⊢
  have bSd : BoxS w0.drew (w.heap.size) s := bS0
  have bLd : BoxL w0.drew (w.heap.size + 1) l := bL0
  have bZd : BoxZ w0.drew (w.heap.size + 1 + 1 + 1) := bZ0
  have hBd := drewB hB0
  have bMd : Box2 w0.drew (w.heap.size + 1 + 1 + 1 + 1) 49 (.func (.func 36) #[] #[.pointer (some ⟨w.heap.size + 1, 0, none⟩), .pointer (some ⟨w.heap.size, 0, none⟩), .pointer (some ⟨w.heap.size + 1 + 1, 0, none⟩)]) (.int .i64 (-4)) := bM0
  have hmd : Must w0.drew (Lz.fb l s.clr p) (.func (.func 36) #[] #[.pointer (some ⟨w.heap.size + 1, 0, none⟩), .pointer (some ⟨w.heap.size, 0, none⟩), .pointer (some ⟨w.heap.size + 1 + 1, 0, none⟩)]) := hm0.below (drewB (Below.refl _ w0))
  have c0 := bSd.cell0
  have c1 := bSd.cell1
  have c2 := bSd.cell2
  have c3 := bSd.cell3
  have c4 := bLd.cell0
  have c5 := bLd.cell1
  have m0 := bMd.cell0
  have m1 := bMd.cell1
  clear bS0 bL0 bU0 bZ0 bM0 hB0 hm0
  go_region_held3 (fun w' => w'.cell? ⟨w.heap.size, 0, none⟩ = some (.string (str s.cur.1)) ∧ w'.cell? ⟨w.heap.size, 1, none⟩ = some (.string (str s.cur.2)) ∧ w'.cell? ⟨w.heap.size, 2, none⟩ = some (.string (str s.clr.1)) ∧ w'.cell? ⟨w.heap.size, 3, none⟩ = some (.string (str s.clr.2)) ∧ w'.cell? ⟨w.heap.size + 1, 0, none⟩ = some (.string (str l.1)) ∧ w'.cell? ⟨w.heap.size + 1, 1, none⟩ = some (.string (str l.2)) ∧ w'.cell? ⟨w.heap.size + 1 + 1 + 1 + 1, 0, none⟩ = some (.func (.func 36) #[] #[.pointer (some ⟨w.heap.size + 1, 0, none⟩), .pointer (some ⟨w.heap.size, 0, none⟩), .pointer (some ⟨w.heap.size + 1 + 1, 0, none⟩)]) ∧ w'.cell? ⟨w.heap.size + 1 + 1 + 1 + 1, 1, none⟩ = some (.int .i64 (-4))) (first | with_reducible exact ⟨c0, c1, c2, c3, c4, c5, m0, m1⟩ | go_keep)
    (first
      | (go_at_call 30; refine (above_any s l hs.1 hl _).mono ?_; rintro e w1 ⟨v1, rfl, hm1, hb1⟩; have bS1 := bSd.below hb1 bSd.lt; have bL1 := bLd.below hb1 bLd.lt; have bZ1 := bZd.below hb1 bZd.lt; have hB1 := hBd.trans (hb1.mono hBd.size); have bM1 := bMd.below hb1 bMd.lt; have hm0' := hmd.below hb1; have bG := Box4.new w1 49 (.func (.func 36) #[] #[.pointer (some ⟨w.heap.size + 1, 0, none⟩), .pointer (some ⟨w.heap.size, 0, none⟩), .pointer (some ⟨w.heap.size + 1 + 1, 0, none⟩)]) (.int .i64 (-4)) v1 (.int .i64 (-3)); have hG := (Below.refl w1.heap.size w1).alloc (Nat.le_refl _) (.cells #[.func (.func 36) #[] #[.pointer (some ⟨w.heap.size + 1, 0, none⟩), .pointer (some ⟨w.heap.size, 0, none⟩), .pointer (some ⟨w.heap.size + 1 + 1, 0, none⟩)], .int .i64 (-4), v1, .int .i64 (-3)] 49); have c0 := bS1.cell0; have c1 := bS1.cell1; have c2 := bS1.cell2; have c3 := bS1.cell3; have c4 := bL1.cell0; have c5 := bL1.cell1; have m0 := bM1.cell0; have m1 := bM1.cell1)
      | (go_at_call 28; refine (first2_eq _ (.func (.func 36) #[] #[.pointer (some ⟨w.heap.size + 1, 0, none⟩), .pointer (some ⟨w.heap.size, 0, none⟩), .pointer (some ⟨w.heap.size + 1 + 1, 0, none⟩)]) v1 (-4) (-3) (Lz.fb l s.clr p) (Lz.fl s.cur l) (-3) (by rw [H1.out, H2.out]; rfl) _ bG (hm0'.below hG) (hm1.below hG)).mono ?_; rintro e w3 ⟨rfl, hb3⟩; have hb3' := hG.trans (hb3.mono hG.size); have bS3 := bS1.below hb3' bS1.lt; have bL3 := bL1.below hb3' bL1.lt; have bZ3 := bZ1.below hb3' bZ1.lt; have hB3 := hB1.trans (hb3'.mono hB1.size); have bM3 := bM1.below hb3' bM1.lt; have c0 := bS3.cell0; have c1 := bS3.cell1; have c2 := bS3.cell2; have c3 := bS3.cell3; have c4 := bL3.cell0; have c5 := bL3.cell1; have z0 := bZ3.cell0; have z1 := bZ3.cell1; have z2 := bZ3.cell2; have z3 := bZ3.cell3; have f0 := bZ3.frozen 0; have f1 := bZ3.frozen 1; have f2 := bZ3.frozen 2; have f3 := bZ3.frozen 3; have m0 := bM3.cell0; have m1 := bM3.cell1))
  go_wp2
  have bN := box4_set (a' := .string (str s.cur.1)) (b' := .string (str s.cur.2)) (c' := .string (str s.clr.1)) (d' := .string (str s.clr.2)) bZ3
  have e0 := bN.cell0
  have e1 := bN.cell1
  have e2 := bN.cell2
  have e3 := bN.cell3
  refine bodyPost_ret (v := .tuple #[.agg #[.string (str s.cur.1), .string (str s.cur.2), .string (str s.clr.1), .string (str s.clr.2)], .int .i64 (-3), .bool false]) ?_ rfl ⟨rfl, below4 hB3 (show w.heap.size ≤ w.heap.size + 1 + 1 + 1 by omega) _ _ _ _⟩
  simp [results, Try.f19, go_sem, e0, e1, e2, e3]
set_option maxRecDepth 100000 in
set_option maxHeartbeats 4000000 in
theorem liG_p_yes (s : Lz.St) (l : Lz.Lab) (p : UInt8) (hs : okS s) (hl : okL l) (w : World) (h1 : Lz.fb l s.clr p = true) (h2 : Lz.fl s.cur l = true) : Calls Try.prog 19 #[sv s, pv l, .int .u8 (p.toNat : Int)] w fun e w' => e = .returned (.tuple #[sv (Lz.liS s l p).1, .int .i64 (Lz.liS s l p).2.1, .bool (Lz.liS s l p).2.2]) ∧ Below w.heap.size w w' := by
  have mixed := mixedOrders
  obtain ⟨bS0, bL0, bU0, bZ0, bM0, bMz, hB0⟩ := li5_alloc w s l p
  have hr : Lz.liS s l p = (⟨s.cur, Lz.nrm l⟩, 0, (!Lz.fl l s.clr)) := by unfold Lz.liS; rw [h1, h2]; rfl
  rw [hr]
  have H1 := Lib.hid h1
  have H2 := Lib.hid h2
  clear hr h1 h2
  have c0 := bMz.cell0
  have c1 := bMz.cell1
  have f0 := bMz.frozen 0
  have f1 := bMz.frozen 1
  go_enter Try.func19, Try.ntmps19
  go_wp2_with fail
  clear c0 c1 f0 f1 bMz
  have hm0 : Must (((((w.alloc (.cells #[.string (str s.cur.1), .string (str s.cur.2), .string (str s.clr.1), .string (str s.clr.2)] 26)).alloc (.cells #[.string (str l.1), .string (str l.2)] 24)).alloc (.cells #[.int .u8 (p.toNat : Int)] 5)).alloc (.cells #[.string ⟨#[]⟩, .string ⟨#[]⟩, .string ⟨#[]⟩, .string ⟨#[]⟩] 26)).alloc (.cells #[.func (.func 36) #[] #[.pointer (some ⟨w.heap.size + 1, 0, none⟩), .pointer (some ⟨w.heap.size, 0, none⟩), .pointer (some ⟨w.heap.size + 1 + 1, 0, none⟩)], .int .i64 (-4)] 49)) (Lz.fb l s.clr p) (.func (.func 36) #[] #[.pointer (some ⟨w.heap.size + 1, 0, none⟩), .pointer (some ⟨w.heap.size, 0, none⟩), .pointer (some ⟨w.heap.size + 1 + 1, 0, none⟩)]) := ⟨36, _, rfl, enters_of Try.func36 (by kernel_rfl) rfl, fun W hW => li5_closure _ _ _ s l p hs hl W (Box4.below bS0 hW bS0.lt) (Box2.below bL0 hW bL0.lt) (boxed_below bU0 hW (Array.getElem?_eq_some_iff.1 bU0).1)⟩
  generalize (((((w.alloc (.cells #[.string (str s.cur.1), .string (str s.cur.2), .string (str s.clr.1), .string (str s.clr.2)] 26)).alloc (.cells #[.string (str l.1), .string (str l.2)] 24)).alloc (.cells #[.int .u8 (p.toNat : Int)] 5)).alloc (.cells #[.string ⟨#[]⟩, .string ⟨#[]⟩, .string ⟨#[]⟩, .string ⟨#[]⟩] 26)).alloc (.cells #[.func (.func 36) #[] #[.pointer (some ⟨w.heap.size + 1, 0, none⟩), .pointer (some ⟨w.heap.size, 0, none⟩), .pointer (some ⟨w.heap.size + 1 + 1, 0, none⟩)], .int .i64 (-4)] 49)) = w0 at bS0 bL0 bU0 bZ0 bM0 hB0 hm0 ⊢
  have bSd : BoxS w0.drew (w.heap.size) s := bS0
  have bLd : BoxL w0.drew (w.heap.size + 1) l := bL0
  have bZd : BoxZ w0.drew (w.heap.size + 1 + 1 + 1) := bZ0
  have hBd := drewB hB0
  have bMd : Box2 w0.drew (w.heap.size + 1 + 1 + 1 + 1) 49 (.func (.func 36) #[] #[.pointer (some ⟨w.heap.size + 1, 0, none⟩), .pointer (some ⟨w.heap.size, 0, none⟩), .pointer (some ⟨w.heap.size + 1 + 1, 0, none⟩)]) (.int .i64 (-4)) := bM0
  have hmd : Must w0.drew (Lz.fb l s.clr p) (.func (.func 36) #[] #[.pointer (some ⟨w.heap.size + 1, 0, none⟩), .pointer (some ⟨w.heap.size, 0, none⟩), .pointer (some ⟨w.heap.size + 1 + 1, 0, none⟩)]) := hm0.below (drewB (Below.refl _ w0))
  have c0 := bSd.cell0
  have c1 := bSd.cell1
  have c2 := bSd.cell2
  have c3 := bSd.cell3
  have c4 := bLd.cell0
  have c5 := bLd.cell1
  have m0 := bMd.cell0
  have m1 := bMd.cell1
  clear bS0 bL0 bU0 bZ0 bM0 hB0 hm0
  go_region_held3 (fun w' => w'.cell? ⟨w.heap.size, 0, none⟩ = some (.string (str s.cur.1)) ∧ w'.cell? ⟨w.heap.size, 1, none⟩ = some (.string (str s.cur.2)) ∧ w'.cell? ⟨w.heap.size, 2, none⟩ = some (.string (str s.clr.1)) ∧ w'.cell? ⟨w.heap.size, 3, none⟩ = some (.string (str s.clr.2)) ∧ w'.cell? ⟨w.heap.size + 1, 0, none⟩ = some (.string (str l.1)) ∧ w'.cell? ⟨w.heap.size + 1, 1, none⟩ = some (.string (str l.2)) ∧ w'.cell? ⟨w.heap.size + 1 + 1 + 1 + 1, 0, none⟩ = some (.func (.func 36) #[] #[.pointer (some ⟨w.heap.size + 1, 0, none⟩), .pointer (some ⟨w.heap.size, 0, none⟩), .pointer (some ⟨w.heap.size + 1 + 1, 0, none⟩)]) ∧ w'.cell? ⟨w.heap.size + 1 + 1 + 1 + 1, 1, none⟩ = some (.int .i64 (-4))) (first | with_reducible exact ⟨c0, c1, c2, c3, c4, c5, m0, m1⟩ | go_keep)
    (first
      | (go_at_call 30; refine (above_any s l hs.1 hl _).mono ?_; rintro e w1 ⟨v1, rfl, hm1, hb1⟩; have bS1 := bSd.below hb1 bSd.lt; have bL1 := bLd.below hb1 bLd.lt; have bZ1 := bZd.below hb1 bZd.lt; have hB1 := hBd.trans (hb1.mono hBd.size); have bM1 := bMd.below hb1 bMd.lt; have hm0' := hmd.below hb1; have bG := Box4.new w1 49 (.func (.func 36) #[] #[.pointer (some ⟨w.heap.size + 1, 0, none⟩), .pointer (some ⟨w.heap.size, 0, none⟩), .pointer (some ⟨w.heap.size + 1 + 1, 0, none⟩)]) (.int .i64 (-4)) v1 (.int .i64 (-3)); have hG := (Below.refl w1.heap.size w1).alloc (Nat.le_refl _) (.cells #[.func (.func 36) #[] #[.pointer (some ⟨w.heap.size + 1, 0, none⟩), .pointer (some ⟨w.heap.size, 0, none⟩), .pointer (some ⟨w.heap.size + 1 + 1, 0, none⟩)], .int .i64 (-4), v1, .int .i64 (-3)] 49); have c0 := bS1.cell0; have c1 := bS1.cell1; have c2 := bS1.cell2; have c3 := bS1.cell3; have c4 := bL1.cell0; have c5 := bL1.cell1; have m0 := bM1.cell0; have m1 := bM1.cell1)
      | (go_at_call 28; refine (first2_eq _ (.func (.func 36) #[] #[.pointer (some ⟨w.heap.size + 1, 0, none⟩), .pointer (some ⟨w.heap.size, 0, none⟩), .pointer (some ⟨w.heap.size + 1 + 1, 0, none⟩)]) v1 (-4) (-3) (Lz.fb l s.clr p) (Lz.fl s.cur l) 0 (by rw [H1.out, H2.out]; rfl) _ bG (hm0'.below hG) (hm1.below hG)).mono ?_; rintro e w3 ⟨rfl, hb3⟩; have hb3' := hG.trans (hb3.mono hG.size); have bS3 := bS1.below hb3' bS1.lt; have bL3 := bL1.below hb3' bL1.lt; have bZ3 := bZ1.below hb3' bZ1.lt; have hB3 := hB1.trans (hb3'.mono hB1.size); have bM3 := bM1.below hb3' bM1.lt; have c0 := bS3.cell0; have c1 := bS3.cell1; have c2 := bS3.cell2; have c3 := bS3.cell3; have c4 := bL3.cell0; have c5 := bL3.cell1; have m0 := bM3.cell0; have m1 := bM3.cell1))
  go_wp2_with fail
  have bS4 : BoxS w3.drew (w.heap.size) s := bS3
  have bL4 : BoxL w3.drew (w.heap.size + 1) l := bL3
  have bZ4 : BoxZ w3.drew (w.heap.size + 1 + 1 + 1) := bZ3
  have hB4 := drewB hB3
  have c0 := bS4.cell0
  have c1 := bS4.cell1
  have c2 := bS4.cell2
  have c3 := bS4.cell3
  have c4 := bL4.cell0
  have c5 := bL4.cell1
  go_region_held3 (fun w' => w'.cell? ⟨w.heap.size, 0, none⟩ = some (.string (str s.cur.1)) ∧ w'.cell? ⟨w.heap.size, 1, none⟩ = some (.string (str s.cur.2)) ∧ w'.cell? ⟨w.heap.size, 2, none⟩ = some (.string (str s.clr.1)) ∧ w'.cell? ⟨w.heap.size, 3, none⟩ = some (.string (str s.clr.2)) ∧ w'.cell? ⟨w.heap.size + 1, 0, none⟩ = some (.string (str l.1)) ∧ w'.cell? ⟨w.heap.size + 1, 1, none⟩ = some (.string (str l.2))) (first | with_reducible exact ⟨c0, c1, c2, c3, c4, c5⟩ | with_reducible exact ⟨set4 (by omega) c0, set4 (by omega) c1, set4 (by omega) c2, set4 (by omega) c3, set4 (by omega) c4, set4 (by omega) c5⟩ | go_keep)
    (first
      | (go_at_call 17; refine (norm_p l hl _).mono ?_; rintro e w5 ⟨rfl, hb5⟩; have bS5 := bS4.below hb5 bS4.lt; have bL5 := bL4.below hb5 bL4.lt; have bZ5 := bZ4.below hb5 bZ4.lt; have hB5 := hB4.trans (hb5.mono hB4.size); have c0 := bS5.cell0; have c1 := bS5.cell1; have c2 := bS5.cell2; have c3 := bS5.cell3; have c4 := bL5.cell0; have c5 := bL5.cell1)
      | (go_at_call 13; refine (flows_p l s.clr hl hs.2 _).mono ?_; rintro e w6 ⟨rfl, hb6⟩; have bS6 := bS5.below hb6 bS5.lt; have bL6 := bL5.below hb6 bL5.lt; have bZ6 := bZ5.below hb6 bZ5.lt; have hB6 := hB5.trans (hb6.mono hB5.size); have c0 := bS6.cell0; have c1 := bS6.cell1; have c2 := bS6.cell2; have c3 := bS6.cell3; have c4 := bL6.cell0; have c5 := bL6.cell1; have z0 := bZ6.cell0; have z1 := bZ6.cell1; have z2 := bZ6.cell2; have z3 := bZ6.cell3; have f0 := bZ6.frozen 0; have f1 := bZ6.frozen 1; have f2 := bZ6.frozen 2; have f3 := bZ6.frozen 3))
  go_wp2
  have bN := box4_set (a' := .string (str s.cur.1)) (b' := .string (str s.cur.2)) (c' := .string (str (Lz.nrm l).1)) (d' := .string (str (Lz.nrm l).2)) bZ6
  have e0 := bN.cell0
  have e1 := bN.cell1
  have e2 := bN.cell2
  have e3 := bN.cell3
  refine bodyPost_ret (v := .tuple #[.agg #[.string (str s.cur.1), .string (str s.cur.2), .string (str (Lz.nrm l).1), .string (str (Lz.nrm l).2)], .int .i64 0, .bool (!Lz.fl l s.clr)]) ?_ rfl ⟨rfl, below4 hB6 (show w.heap.size ≤ w.heap.size + 1 + 1 + 1 by omega) _ _ _ _⟩
  simp [results, Try.f19, go_sem, e0, e1, e2, e3]
theorem liG_p (s : Lz.St) (l : Lz.Lab) (x : Int) (p : UInt8) (hx : x = p.toNat) (hs : okS s) (hl : okL l) (w : World) : Calls Try.prog 19 #[sv s, pv l, .int .u8 x] w fun e w' => e = .returned (.tuple #[sv (Lz.liS s l p).1, .int .i64 (Lz.liS s l p).2.1, .bool (Lz.liS s l p).2.2]) ∧ Below w.heap.size w w' := by
  subst hx
  cases h1 : Lz.fb l s.clr p with
  | false => exact liG_p_no s l p hs hl w h1
  | true =>
    cases h2 : Lz.fl s.cur l with
    | false => exact liG_p_far s l p hs hl w h1 h2
    | true => exact liG_p_yes s l p hs hl w h1 h2
end Go.Proofs.Ytnnnnlnnohdidaa
