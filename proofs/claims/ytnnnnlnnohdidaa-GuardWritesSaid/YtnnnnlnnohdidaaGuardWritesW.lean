/- The walk of GuardWrites. Conditions: the sizes of what came in. -/
import Derived.Test.YtnnnnlnnohdidaaGuardPre2
import Derived.BigQuiet
namespace Go.Proofs.Ytnnnnlnnohdidaa
open Go.RowKit Go.Shelf
attribute [local go_sem high] eql_label neq_label eql_state neq_state
set_option maxRecDepth 100000 in
set_option maxHeartbeats 8000000 in
theorem walkPGuardWrites (s : Lz.St) (l m : Lz.Lab) (hs : bndS s) (hl1 : l.1.length ≤ maxLen) (hl2 : l.2.length ≤ maxLen) (hm1 : m.1.length ≤ maxLen) (hm2 : m.2.length ≤ maxLen) (w : World) :
    Calls Try.prog 6 #[sv s, pv l, pv m] w fun e w' => e = .returned (.bool true) ∧ Below w.heap.size w w' := by
  have mixed := mixedOrders
  obtain ⟨S0, L0, M0, hB0⟩ := alloc3L w s l m
  have HF := Lib.hid (begun_p s hs)
  have ok : okS (Lz.begun (smS s)) := ⟨okL_nrm _, okL_jn _ _⟩
  have RT := Lib.hid (Lz.right_begun (smS s))
  generalize Lz.begun (smS s) = t at HF ok RT
  have HL := Lib.hid (small_p l hl1 hl2)
  have HM := Lib.hid (small_p m hm1 hm2)
  have okl := okL_sm l
  have okm := okL_sm m
  generalize hal : sm l = a at HL okl
  generalize ham : sm m = c at HM okm
  clear hal ham
  have qS0 := S0.cell0
  have qS1 := S0.cell1
  have qS2 := S0.cell2
  have qS3 := S0.cell3
  have qL0 := L0.cell0
  have qL1 := L0.cell1
  have qM0 := M0.cell0
  have qM1 := M0.cell1
  go_enter Try.func6, Try.ntmps6
  go_wp2_with fail
  generalize (((w.alloc (.cells #[.string (str s.cur.1), .string (str s.cur.2), .string (str s.clr.1), .string (str s.clr.2)] 26)).alloc (.cells #[.string (str l.1), .string (str l.2)] 24)).alloc (.cells #[.string (str m.1), .string (str m.2)] 24)) = w0 at *
  go_wp2_with fail
  refine (examples_p _).mono ?_
  rintro e w1 ⟨rfl, hb1⟩
  clear qS0 qS1 qS2 qS3 qL0 qL1 qM0 qM1
  have S_w1 := S0.below hb1 S0.lt
  have L_w1 := L0.below hb1 L0.lt
  have M_w1 := M0.below hb1 M0.lt
  have hB1 := hB0.trans (hb1.mono hB0.size)
  clear hb1 hB0 S0 L0 M0
  have qS0 := S_w1.cell0
  have qS1 := S_w1.cell1
  have qS2 := S_w1.cell2
  have qS3 := S_w1.cell3
  have qL0 := L_w1.cell0
  have qL1 := L_w1.cell1
  have qM0 := M_w1.cell0
  have qM1 := M_w1.cell1
  go_wp2_with fail
  refine (HF.out _).mono ?_
  rintro e w2 ⟨rfl, hb2⟩
  clear qS0 qS1 qS2 qS3 qL0 qL1 qM0 qM1
  have S_w2 := S_w1.below hb2 S_w1.lt
  have L_w2 := L_w1.below hb2 L_w1.lt
  have M_w2 := M_w1.below hb2 M_w1.lt
  have hB2 := hB1.trans (hb2.mono hB1.size)
  clear hb2 hB1 S_w1 L_w1 M_w1
  have qS0 := S_w2.cell0
  have qS1 := S_w2.cell1
  have qS2 := S_w2.cell2
  have qS3 := S_w2.cell3
  have qL0 := L_w2.cell0
  have qL1 := L_w2.cell1
  have qM0 := M_w2.cell0
  have qM1 := M_w2.cell1
  have f0 := S_w2.frozen 0
  have f1 := S_w2.frozen 1
  have f2 := S_w2.frozen 2
  have f3 := S_w2.frozen 3
  go_wp2_with fail
  have S_s := box4_set (a' := .string (str t.cur.1)) (b' := .string (str t.cur.2)) (c' := .string (str t.clr.1)) (d' := .string (str t.clr.2)) S_w2
  have L_s : Box2 ((((w2.setCell ⟨w.heap.size, 0, none⟩ (.string (str t.cur.1))).setCell ⟨w.heap.size, 1, none⟩ (.string (str t.cur.2))).setCell ⟨w.heap.size, 2, none⟩ (.string (str t.clr.1))).setCell ⟨w.heap.size, 3, none⟩ (.string (str t.clr.2))) (w.heap.size + 1) 24 (.string (str l.1)) (.string (str l.2)) := other4 (by omega) L_w2 _ _ _ _
  have M_s : Box2 ((((w2.setCell ⟨w.heap.size, 0, none⟩ (.string (str t.cur.1))).setCell ⟨w.heap.size, 1, none⟩ (.string (str t.cur.2))).setCell ⟨w.heap.size, 2, none⟩ (.string (str t.clr.1))).setCell ⟨w.heap.size, 3, none⟩ (.string (str t.clr.2))) (w.heap.size + 1 + 1) 24 (.string (str m.1)) (.string (str m.2)) := other4 (by omega) M_w2 _ _ _ _
  have hs := below4 hB2 (show w.heap.size ≤ w.heap.size by omega) (.string (str t.cur.1)) (.string (str t.cur.2)) (.string (str t.clr.1)) (.string (str t.clr.2))
  clear qS0 qS1 qS2 qS3 qL0 qL1 qM0 qM1
  clear hB2 S_w2 L_w2 M_w2 f0 f1 f2 f3
  generalize ((((w2.setCell ⟨w.heap.size, 0, none⟩ (.string (str t.cur.1))).setCell ⟨w.heap.size, 1, none⟩ (.string (str t.cur.2))).setCell ⟨w.heap.size, 2, none⟩ (.string (str t.clr.1))).setCell ⟨w.heap.size, 3, none⟩ (.string (str t.clr.2))) = w3 at hs S_s L_s M_s ⊢
  have S_w3 := S_s
  have L_w3 := L_s
  have M_w3 := M_s
  have hB3 := hs
  clear hs S_s L_s M_s
  have qS0 := S_w3.cell0
  have qS1 := S_w3.cell1
  have qS2 := S_w3.cell2
  have qS3 := S_w3.cell3
  have qL0 := L_w3.cell0
  have qL1 := L_w3.cell1
  have qM0 := M_w3.cell0
  have qM1 := M_w3.cell1
  go_wp2_with fail
  refine (HL.out _).mono ?_
  rintro e w4 ⟨rfl, hb4⟩
  clear qS0 qS1 qS2 qS3 qL0 qL1 qM0 qM1
  have S_w4 := S_w3.below hb4 S_w3.lt
  have L_w4 := L_w3.below hb4 L_w3.lt
  have M_w4 := M_w3.below hb4 M_w3.lt
  have hB4 := hB3.trans (hb4.mono hB3.size)
  clear hb4 hB3 S_w3 L_w3 M_w3
  have qS0 := S_w4.cell0
  have qS1 := S_w4.cell1
  have qS2 := S_w4.cell2
  have qS3 := S_w4.cell3
  have qL0 := L_w4.cell0
  have qL1 := L_w4.cell1
  have qM0 := M_w4.cell0
  have qM1 := M_w4.cell1
  have f0 := L_w4.frozen 0
  have f1 := L_w4.frozen 1
  go_wp2_with fail
  have L_s := box2_set1 (q := .string (str a.2)) (box2_set0 (q := .string (str a.1)) L_w4)
  have S_s : Box4 ((w4.setCell ⟨(w.heap.size + 1), 0, none⟩ (.string (str a.1))).setCell ⟨(w.heap.size + 1), 1, none⟩ (.string (str a.2))) w.heap.size 26 (.string (str t.cur.1)) (.string (str t.cur.2)) (.string (str t.clr.1)) (.string (str t.clr.2)) := other2 (by omega) S_w4 _ _
  have M_s : Box2 ((w4.setCell ⟨(w.heap.size + 1), 0, none⟩ (.string (str a.1))).setCell ⟨(w.heap.size + 1), 1, none⟩ (.string (str a.2))) (w.heap.size + 1 + 1) 24 (.string (str m.1)) (.string (str m.2)) := other2 (by omega) M_w4 _ _
  have hs := (hB4.setCell (p := ⟨(w.heap.size + 1), 0, none⟩) (show w.heap.size ≤ (w.heap.size + 1) by omega) (.string (str a.1))).setCell (p := ⟨(w.heap.size + 1), 1, none⟩) (show w.heap.size ≤ (w.heap.size + 1) by omega) (.string (str a.2))
  clear qS0 qS1 qS2 qS3 qL0 qL1 qM0 qM1
  clear hB4 S_w4 L_w4 M_w4 f0 f1
  generalize ((w4.setCell ⟨(w.heap.size + 1), 0, none⟩ (.string (str a.1))).setCell ⟨(w.heap.size + 1), 1, none⟩ (.string (str a.2))) = w5 at hs S_s L_s M_s ⊢
  have S_w5 := S_s
  have L_w5 := L_s
  have M_w5 := M_s
  have hB5 := hs
  clear hs S_s L_s M_s
  have qS0 := S_w5.cell0
  have qS1 := S_w5.cell1
  have qS2 := S_w5.cell2
  have qS3 := S_w5.cell3
  have qL0 := L_w5.cell0
  have qL1 := L_w5.cell1
  have qM0 := M_w5.cell0
  have qM1 := M_w5.cell1
  go_wp2_with fail
  refine (HM.out _).mono ?_
  rintro e w6 ⟨rfl, hb6⟩
  clear qS0 qS1 qS2 qS3 qL0 qL1 qM0 qM1
  have S_w6 := S_w5.below hb6 S_w5.lt
  have L_w6 := L_w5.below hb6 L_w5.lt
  have M_w6 := M_w5.below hb6 M_w5.lt
  have hB6 := hB5.trans (hb6.mono hB5.size)
  clear hb6 hB5 S_w5 L_w5 M_w5
  have qS0 := S_w6.cell0
  have qS1 := S_w6.cell1
  have qS2 := S_w6.cell2
  have qS3 := S_w6.cell3
  have qL0 := L_w6.cell0
  have qL1 := L_w6.cell1
  have qM0 := M_w6.cell0
  have qM1 := M_w6.cell1
  have f0 := M_w6.frozen 0
  have f1 := M_w6.frozen 1
  go_wp2_with fail
  have M_s := box2_set1 (q := .string (str c.2)) (box2_set0 (q := .string (str c.1)) M_w6)
  have S_s : Box4 ((w6.setCell ⟨(w.heap.size + 1 + 1), 0, none⟩ (.string (str c.1))).setCell ⟨(w.heap.size + 1 + 1), 1, none⟩ (.string (str c.2))) w.heap.size 26 (.string (str t.cur.1)) (.string (str t.cur.2)) (.string (str t.clr.1)) (.string (str t.clr.2)) := other2 (by omega) S_w6 _ _
  have L_s : Box2 ((w6.setCell ⟨(w.heap.size + 1 + 1), 0, none⟩ (.string (str c.1))).setCell ⟨(w.heap.size + 1 + 1), 1, none⟩ (.string (str c.2))) (w.heap.size + 1) 24 (.string (str a.1)) (.string (str a.2)) := other2 (by omega) L_w6 _ _
  have hs := (hB6.setCell (p := ⟨(w.heap.size + 1 + 1), 0, none⟩) (show w.heap.size ≤ (w.heap.size + 1 + 1) by omega) (.string (str c.1))).setCell (p := ⟨(w.heap.size + 1 + 1), 1, none⟩) (show w.heap.size ≤ (w.heap.size + 1 + 1) by omega) (.string (str c.2))
  clear qS0 qS1 qS2 qS3 qL0 qL1 qM0 qM1
  clear hB6 S_w6 L_w6 M_w6 f0 f1
  generalize ((w6.setCell ⟨(w.heap.size + 1 + 1), 0, none⟩ (.string (str c.1))).setCell ⟨(w.heap.size + 1 + 1), 1, none⟩ (.string (str c.2))) = w7 at hs S_s L_s M_s ⊢
  have S_w7 := S_s
  have L_w7 := L_s
  have M_w7 := M_s
  have hB7 := hs
  clear hs S_s L_s M_s
  have qS0 := S_w7.cell0
  have qS1 := S_w7.cell1
  have qS2 := S_w7.cell2
  have qS3 := S_w7.cell3
  have qL0 := L_w7.cell0
  have qL1 := L_w7.cell1
  have qM0 := M_w7.cell0
  have qM1 := M_w7.cell1
  have HT := Lib.hid (fun W => up_p t c ok okm W)
  have oku : okS (Lz.upS t c).1 := okS_stS t 0 c 0 ok
  have hbeh : Lz.wrS (Lz.upS t c).1 a = 0 → Lz.wrS t a = 0 := Lz.wr_behind t a c
  generalize Lz.upS t c = q at HT oku hbeh
  obtain ⟨u, x⟩ := q
  have HWU := Lib.hid (fun W => wr_p u a oku okl W)
  simp only at hbeh
  generalize Lz.wrS u a = y at HWU hbeh
  have HW := Lib.hid (fun W => wr_p t a ok okl W)
  have HB := Lib.hid (fun W => bo_p t a ok okl W)
  cases hA : Lz.fl t.cur a with
  | false =>
    have hw : Lz.wrS t a = -3 := by unfold Lz.wrS; rw [hA]; rfl
    have hb : Lz.boS t a = (t, -3) := by unfold Lz.boS; rw [hA, Bool.false_and, hw]; rfl
    rw [hw] at HW
    rw [hb] at HB
    have hy : ¬ y = 0 := fun e => absurd (hw.symm.trans (hbeh e)) (by decide)
    clear hbeh hw hb
    have HAA := Lib.hid hA
    clear hA
    go_wp2_with fail
    refine (HW.out _).mono ?_
    rintro e w8 ⟨rfl, hb8⟩
    clear qS0 qS1 qS2 qS3 qL0 qL1 qM0 qM1
    have S_w8 := S_w7.below hb8 S_w7.lt
    have L_w8 := L_w7.below hb8 L_w7.lt
    have M_w8 := M_w7.below hb8 M_w7.lt
    have hB8 := hB7.trans (hb8.mono hB7.size)
    clear hb8 hB7 S_w7 L_w7 M_w7
    have qS0 := S_w8.cell0
    have qS1 := S_w8.cell1
    have qS2 := S_w8.cell2
    have qS3 := S_w8.cell3
    have qL0 := L_w8.cell0
    have qL1 := L_w8.cell1
    have qM0 := M_w8.cell0
    have qM1 := M_w8.cell1
    go_wp2_with fail
    refine (HT.out _).mono ?_
    rintro e w9 ⟨rfl, hb9⟩
    clear qS0 qS1 qS2 qS3 qL0 qL1 qM0 qM1
    have S_w9 := S_w8.below hb9 S_w8.lt
    have L_w9 := L_w8.below hb9 L_w8.lt
    have M_w9 := M_w8.below hb9 M_w8.lt
    have hB9 := hB8.trans (hb9.mono hB8.size)
    clear hb9 hB8 S_w8 L_w8 M_w8
    have S_w9a := S_w9.alloc (.cells #[.string (str u.cur.1), .string (str u.cur.2), .string (str u.clr.1), .string (str u.clr.2)] 26)
    have L_w9a := L_w9.alloc (.cells #[.string (str u.cur.1), .string (str u.cur.2), .string (str u.clr.1), .string (str u.clr.2)] 26)
    have M_w9a := M_w9.alloc (.cells #[.string (str u.cur.1), .string (str u.cur.2), .string (str u.clr.1), .string (str u.clr.2)] 26)
    have T_w9a := Box4.new w9 26 (.string (str u.cur.1)) (.string (str u.cur.2)) (.string (str u.clr.1)) (.string (str u.clr.2))
    have hB9a := hB9.alloc hB9.size (.cells #[.string (str u.cur.1), .string (str u.cur.2), .string (str u.clr.1), .string (str u.clr.2)] 26)
    have qS0 := S_w9a.cell0
    have qS1 := S_w9a.cell1
    have qS2 := S_w9a.cell2
    have qS3 := S_w9a.cell3
    have qL0 := L_w9a.cell0
    have qL1 := L_w9a.cell1
    have qM0 := M_w9a.cell0
    have qM1 := M_w9a.cell1
    have qT0 := T_w9a.cell0
    have qT1 := T_w9a.cell1
    have qT2 := T_w9a.cell2
    have qT3 := T_w9a.cell3
    go_wp2_with fail
    refine (HB.out _).mono ?_
    rintro e w10 ⟨rfl, hb10⟩
    clear qS0 qS1 qS2 qS3 qL0 qL1 qM0 qM1 qT0 qT1 qT2 qT3
    have S_w10 := S_w9a.below hb10 S_w9a.lt
    have L_w10 := L_w9a.below hb10 L_w9a.lt
    have M_w10 := M_w9a.below hb10 M_w9a.lt
    have T_w10 := T_w9a.below hb10 T_w9a.lt
    have hB10 := hB9a.trans (hb10.mono hB9a.size)
    clear hb10 hB9a S_w9a L_w9a M_w9a T_w9a
    have S_w10a := S_w10.alloc (.cells #[.string (str t.cur.1), .string (str t.cur.2), .string (str t.clr.1), .string (str t.clr.2)] 26)
    have L_w10a := L_w10.alloc (.cells #[.string (str t.cur.1), .string (str t.cur.2), .string (str t.clr.1), .string (str t.clr.2)] 26)
    have M_w10a := M_w10.alloc (.cells #[.string (str t.cur.1), .string (str t.cur.2), .string (str t.clr.1), .string (str t.clr.2)] 26)
    have T_w10a := T_w10.alloc (.cells #[.string (str t.cur.1), .string (str t.cur.2), .string (str t.clr.1), .string (str t.clr.2)] 26)
    have U_w10a := Box4.new w10 26 (.string (str t.cur.1)) (.string (str t.cur.2)) (.string (str t.clr.1)) (.string (str t.clr.2))
    have hB10a := hB10.alloc hB10.size (.cells #[.string (str t.cur.1), .string (str t.cur.2), .string (str t.clr.1), .string (str t.clr.2)] 26)
    have qS0 := S_w10a.cell0
    have qS1 := S_w10a.cell1
    have qS2 := S_w10a.cell2
    have qS3 := S_w10a.cell3
    have qL0 := L_w10a.cell0
    have qL1 := L_w10a.cell1
    have qM0 := M_w10a.cell0
    have qM1 := M_w10a.cell1
    have qT0 := T_w10a.cell0
    have qT1 := T_w10a.cell1
    have qT2 := T_w10a.cell2
    have qT3 := T_w10a.cell3
    have qU0 := U_w10a.cell0
    have qU1 := U_w10a.cell1
    have qU2 := U_w10a.cell2
    have qU3 := U_w10a.cell3
    go_wp2_with fail
    refine (flows_p t.cur a ok.1 okl _).mono ?_
    rintro e w11 ⟨rfl, hb11⟩
    rw [HAA.out]
    clear qS0 qS1 qS2 qS3 qL0 qL1 qM0 qM1 qT0 qT1 qT2 qT3 qU0 qU1 qU2 qU3
    have S_w11 := S_w10a.below hb11 S_w10a.lt
    have L_w11 := L_w10a.below hb11 L_w10a.lt
    have M_w11 := M_w10a.below hb11 M_w10a.lt
    have T_w11 := T_w10a.below hb11 T_w10a.lt
    have U_w11 := U_w10a.below hb11 U_w10a.lt
    have hB11 := hB10a.trans (hb11.mono hB10a.size)
    clear hb11 hB10a S_w10a L_w10a M_w10a T_w10a U_w10a
    have qS0 := S_w11.cell0
    have qS1 := S_w11.cell1
    have qS2 := S_w11.cell2
    have qS3 := S_w11.cell3
    have qL0 := L_w11.cell0
    have qL1 := L_w11.cell1
    have qM0 := M_w11.cell0
    have qM1 := M_w11.cell1
    have qT0 := T_w11.cell0
    have qT1 := T_w11.cell1
    have qT2 := T_w11.cell2
    have qT3 := T_w11.cell3
    have qU0 := U_w11.cell0
    have qU1 := U_w11.cell1
    have qU2 := U_w11.cell2
    have qU3 := U_w11.cell3
    go_wp2_with fail
    refine (HWU.out _).mono ?_
    rintro e w12 ⟨rfl, hb12⟩
    clear qS0 qS1 qS2 qS3 qL0 qL1 qM0 qM1 qT0 qT1 qT2 qT3 qU0 qU1 qU2 qU3
    have S_w12 := S_w11.below hb12 S_w11.lt
    have L_w12 := L_w11.below hb12 L_w11.lt
    have M_w12 := M_w11.below hb12 M_w11.lt
    have T_w12 := T_w11.below hb12 T_w11.lt
    have U_w12 := U_w11.below hb12 U_w11.lt
    have hB12 := hB11.trans (hb12.mono hB11.size)
    clear hb12 hB11 S_w11 L_w11 M_w11 T_w11 U_w11
    have qS0 := S_w12.cell0
    have qS1 := S_w12.cell1
    have qS2 := S_w12.cell2
    have qS3 := S_w12.cell3
    have qL0 := L_w12.cell0
    have qL1 := L_w12.cell1
    have qM0 := M_w12.cell0
    have qM1 := M_w12.cell1
    have qT0 := T_w12.cell0
    have qT1 := T_w12.cell1
    have qT2 := T_w12.cell2
    have qT3 := T_w12.cell3
    have qU0 := U_w12.cell0
    have qU1 := U_w12.cell1
    have qU2 := U_w12.cell2
    have qU3 := U_w12.cell3
    go_wp2_with fail
    clear qS0 qS1 qS2 qS3 qL0 qL1 qM0 qM1 qT0 qT1 qT2 qT3 qU0 qU1 qU2 qU3
    refine wp_region_quiet_below mixed (by kernel_rfl) ?_
    repeat (go_big_quiet_step (fail))
    refine wpQuiet_nil ?_
    intro W1 hw'
    have hb9 := below_of_regrown hw'
    clear hw'
    go_wp2
    go_ret
    exact ⟨rfl, hB12.trans (hb9.mono hB12.size)⟩
  | true =>
    cases hB : Lz.fl a t.clr with
    | false =>
      have hw : Lz.wrS t a = -4 := by unfold Lz.wrS; rw [hA, hB]; rfl
      have hb : Lz.boS t a = (t, -4) := by unfold Lz.boS; rw [hA, hB, hw]; rfl
      rw [hw] at HW
      rw [hb] at HB
      have hy : ¬ y = 0 := fun e => absurd (hw.symm.trans (hbeh e)) (by decide)
      clear hbeh hw hb
      have HAA := Lib.hid hA
      clear hA
      have HBB := Lib.hid hB
      clear hB
      go_wp2_with fail
      refine (HW.out _).mono ?_
      rintro e w8 ⟨rfl, hb8⟩
      clear qS0 qS1 qS2 qS3 qL0 qL1 qM0 qM1
      have S_w8 := S_w7.below hb8 S_w7.lt
      have L_w8 := L_w7.below hb8 L_w7.lt
      have M_w8 := M_w7.below hb8 M_w7.lt
      have hB8 := hB7.trans (hb8.mono hB7.size)
      clear hb8 hB7 S_w7 L_w7 M_w7
      have qS0 := S_w8.cell0
      have qS1 := S_w8.cell1
      have qS2 := S_w8.cell2
      have qS3 := S_w8.cell3
      have qL0 := L_w8.cell0
      have qL1 := L_w8.cell1
      have qM0 := M_w8.cell0
      have qM1 := M_w8.cell1
      go_wp2_with fail
      refine (HT.out _).mono ?_
      rintro e w9 ⟨rfl, hb9⟩
      clear qS0 qS1 qS2 qS3 qL0 qL1 qM0 qM1
      have S_w9 := S_w8.below hb9 S_w8.lt
      have L_w9 := L_w8.below hb9 L_w8.lt
      have M_w9 := M_w8.below hb9 M_w8.lt
      have hB9 := hB8.trans (hb9.mono hB8.size)
      clear hb9 hB8 S_w8 L_w8 M_w8
      have S_w9a := S_w9.alloc (.cells #[.string (str u.cur.1), .string (str u.cur.2), .string (str u.clr.1), .string (str u.clr.2)] 26)
      have L_w9a := L_w9.alloc (.cells #[.string (str u.cur.1), .string (str u.cur.2), .string (str u.clr.1), .string (str u.clr.2)] 26)
      have M_w9a := M_w9.alloc (.cells #[.string (str u.cur.1), .string (str u.cur.2), .string (str u.clr.1), .string (str u.clr.2)] 26)
      have T_w9a := Box4.new w9 26 (.string (str u.cur.1)) (.string (str u.cur.2)) (.string (str u.clr.1)) (.string (str u.clr.2))
      have hB9a := hB9.alloc hB9.size (.cells #[.string (str u.cur.1), .string (str u.cur.2), .string (str u.clr.1), .string (str u.clr.2)] 26)
      have qS0 := S_w9a.cell0
      have qS1 := S_w9a.cell1
      have qS2 := S_w9a.cell2
      have qS3 := S_w9a.cell3
      have qL0 := L_w9a.cell0
      have qL1 := L_w9a.cell1
      have qM0 := M_w9a.cell0
      have qM1 := M_w9a.cell1
      have qT0 := T_w9a.cell0
      have qT1 := T_w9a.cell1
      have qT2 := T_w9a.cell2
      have qT3 := T_w9a.cell3
      go_wp2_with fail
      refine (HB.out _).mono ?_
      rintro e w10 ⟨rfl, hb10⟩
      clear qS0 qS1 qS2 qS3 qL0 qL1 qM0 qM1 qT0 qT1 qT2 qT3
      have S_w10 := S_w9a.below hb10 S_w9a.lt
      have L_w10 := L_w9a.below hb10 L_w9a.lt
      have M_w10 := M_w9a.below hb10 M_w9a.lt
      have T_w10 := T_w9a.below hb10 T_w9a.lt
      have hB10 := hB9a.trans (hb10.mono hB9a.size)
      clear hb10 hB9a S_w9a L_w9a M_w9a T_w9a
      have S_w10a := S_w10.alloc (.cells #[.string (str t.cur.1), .string (str t.cur.2), .string (str t.clr.1), .string (str t.clr.2)] 26)
      have L_w10a := L_w10.alloc (.cells #[.string (str t.cur.1), .string (str t.cur.2), .string (str t.clr.1), .string (str t.clr.2)] 26)
      have M_w10a := M_w10.alloc (.cells #[.string (str t.cur.1), .string (str t.cur.2), .string (str t.clr.1), .string (str t.clr.2)] 26)
      have T_w10a := T_w10.alloc (.cells #[.string (str t.cur.1), .string (str t.cur.2), .string (str t.clr.1), .string (str t.clr.2)] 26)
      have U_w10a := Box4.new w10 26 (.string (str t.cur.1)) (.string (str t.cur.2)) (.string (str t.clr.1)) (.string (str t.clr.2))
      have hB10a := hB10.alloc hB10.size (.cells #[.string (str t.cur.1), .string (str t.cur.2), .string (str t.clr.1), .string (str t.clr.2)] 26)
      have qS0 := S_w10a.cell0
      have qS1 := S_w10a.cell1
      have qS2 := S_w10a.cell2
      have qS3 := S_w10a.cell3
      have qL0 := L_w10a.cell0
      have qL1 := L_w10a.cell1
      have qM0 := M_w10a.cell0
      have qM1 := M_w10a.cell1
      have qT0 := T_w10a.cell0
      have qT1 := T_w10a.cell1
      have qT2 := T_w10a.cell2
      have qT3 := T_w10a.cell3
      have qU0 := U_w10a.cell0
      have qU1 := U_w10a.cell1
      have qU2 := U_w10a.cell2
      have qU3 := U_w10a.cell3
      go_wp2_with fail
      refine (flows_p t.cur a ok.1 okl _).mono ?_
      rintro e w11 ⟨rfl, hb11⟩
      rw [HAA.out]
      clear qS0 qS1 qS2 qS3 qL0 qL1 qM0 qM1 qT0 qT1 qT2 qT3 qU0 qU1 qU2 qU3
      have S_w11 := S_w10a.below hb11 S_w10a.lt
      have L_w11 := L_w10a.below hb11 L_w10a.lt
      have M_w11 := M_w10a.below hb11 M_w10a.lt
      have T_w11 := T_w10a.below hb11 T_w10a.lt
      have U_w11 := U_w10a.below hb11 U_w10a.lt
      have hB11 := hB10a.trans (hb11.mono hB10a.size)
      clear hb11 hB10a S_w10a L_w10a M_w10a T_w10a U_w10a
      have qS0 := S_w11.cell0
      have qS1 := S_w11.cell1
      have qS2 := S_w11.cell2
      have qS3 := S_w11.cell3
      have qL0 := L_w11.cell0
      have qL1 := L_w11.cell1
      have qM0 := M_w11.cell0
      have qM1 := M_w11.cell1
      have qT0 := T_w11.cell0
      have qT1 := T_w11.cell1
      have qT2 := T_w11.cell2
      have qT3 := T_w11.cell3
      have qU0 := U_w11.cell0
      have qU1 := U_w11.cell1
      have qU2 := U_w11.cell2
      have qU3 := U_w11.cell3
      go_wp2_with fail
      refine (flows_p a t.clr okl ok.2 _).mono ?_
      rintro e w12 ⟨rfl, hb12⟩
      rw [HBB.out]
      clear qS0 qS1 qS2 qS3 qL0 qL1 qM0 qM1 qT0 qT1 qT2 qT3 qU0 qU1 qU2 qU3
      have S_w12 := S_w11.below hb12 S_w11.lt
      have L_w12 := L_w11.below hb12 L_w11.lt
      have M_w12 := M_w11.below hb12 M_w11.lt
      have T_w12 := T_w11.below hb12 T_w11.lt
      have U_w12 := U_w11.below hb12 U_w11.lt
      have hB12 := hB11.trans (hb12.mono hB11.size)
      clear hb12 hB11 S_w11 L_w11 M_w11 T_w11 U_w11
      have qS0 := S_w12.cell0
      have qS1 := S_w12.cell1
      have qS2 := S_w12.cell2
      have qS3 := S_w12.cell3
      have qL0 := L_w12.cell0
      have qL1 := L_w12.cell1
      have qM0 := M_w12.cell0
      have qM1 := M_w12.cell1
      have qT0 := T_w12.cell0
      have qT1 := T_w12.cell1
      have qT2 := T_w12.cell2
      have qT3 := T_w12.cell3
      have qU0 := U_w12.cell0
      have qU1 := U_w12.cell1
      have qU2 := U_w12.cell2
      have qU3 := U_w12.cell3
      go_wp2_with fail
      refine (HWU.out _).mono ?_
      rintro e w13 ⟨rfl, hb13⟩
      clear qS0 qS1 qS2 qS3 qL0 qL1 qM0 qM1 qT0 qT1 qT2 qT3 qU0 qU1 qU2 qU3
      have S_w13 := S_w12.below hb13 S_w12.lt
      have L_w13 := L_w12.below hb13 L_w12.lt
      have M_w13 := M_w12.below hb13 M_w12.lt
      have T_w13 := T_w12.below hb13 T_w12.lt
      have U_w13 := U_w12.below hb13 U_w12.lt
      have hB13 := hB12.trans (hb13.mono hB12.size)
      clear hb13 hB12 S_w12 L_w12 M_w12 T_w12 U_w12
      have qS0 := S_w13.cell0
      have qS1 := S_w13.cell1
      have qS2 := S_w13.cell2
      have qS3 := S_w13.cell3
      have qL0 := L_w13.cell0
      have qL1 := L_w13.cell1
      have qM0 := M_w13.cell0
      have qM1 := M_w13.cell1
      have qT0 := T_w13.cell0
      have qT1 := T_w13.cell1
      have qT2 := T_w13.cell2
      have qT3 := T_w13.cell3
      have qU0 := U_w13.cell0
      have qU1 := U_w13.cell1
      have qU2 := U_w13.cell2
      have qU3 := U_w13.cell3
      go_wp2_with fail
      clear qS0 qS1 qS2 qS3 qL0 qL1 qM0 qM1 qT0 qT1 qT2 qT3 qU0 qU1 qU2 qU3
      refine wp_region_quiet_below mixed (by kernel_rfl) ?_
      repeat (go_big_quiet_step (fail))
      refine wpQuiet_nil ?_
      intro W1 hw'
      have hb9 := below_of_regrown hw'
      clear hw'
      go_wp2
      go_ret
      exact ⟨rfl, hB13.trans (hb9.mono hB13.size)⟩
    | true =>
      by_cases hy : y = 0
      · subst hy
        have hw : Lz.wrS t a = 0 := by unfold Lz.wrS; rw [hA, hB]; rfl
        have hb : Lz.boS t a = (⟨Lz.nrm a, t.clr⟩, 0) := by unfold Lz.boS; rw [hA, hB]; rfl
        rw [hw] at HW
        rw [hb] at HB
        clear hbeh hw hb
        have HAA := Lib.hid hA
        clear hA
        have HBB := Lib.hid hB
        clear hB
        go_wp2_with fail
        refine (HW.out _).mono ?_
        rintro e w8 ⟨rfl, hb8⟩
        clear qS0 qS1 qS2 qS3 qL0 qL1 qM0 qM1
        have S_w8 := S_w7.below hb8 S_w7.lt
        have L_w8 := L_w7.below hb8 L_w7.lt
        have M_w8 := M_w7.below hb8 M_w7.lt
        have hB8 := hB7.trans (hb8.mono hB7.size)
        clear hb8 hB7 S_w7 L_w7 M_w7
        have qS0 := S_w8.cell0
        have qS1 := S_w8.cell1
        have qS2 := S_w8.cell2
        have qS3 := S_w8.cell3
        have qL0 := L_w8.cell0
        have qL1 := L_w8.cell1
        have qM0 := M_w8.cell0
        have qM1 := M_w8.cell1
        go_wp2_with fail
        refine (HT.out _).mono ?_
        rintro e w9 ⟨rfl, hb9⟩
        clear qS0 qS1 qS2 qS3 qL0 qL1 qM0 qM1
        have S_w9 := S_w8.below hb9 S_w8.lt
        have L_w9 := L_w8.below hb9 L_w8.lt
        have M_w9 := M_w8.below hb9 M_w8.lt
        have hB9 := hB8.trans (hb9.mono hB8.size)
        clear hb9 hB8 S_w8 L_w8 M_w8
        have S_w9a := S_w9.alloc (.cells #[.string (str u.cur.1), .string (str u.cur.2), .string (str u.clr.1), .string (str u.clr.2)] 26)
        have L_w9a := L_w9.alloc (.cells #[.string (str u.cur.1), .string (str u.cur.2), .string (str u.clr.1), .string (str u.clr.2)] 26)
        have M_w9a := M_w9.alloc (.cells #[.string (str u.cur.1), .string (str u.cur.2), .string (str u.clr.1), .string (str u.clr.2)] 26)
        have T_w9a := Box4.new w9 26 (.string (str u.cur.1)) (.string (str u.cur.2)) (.string (str u.clr.1)) (.string (str u.clr.2))
        have hB9a := hB9.alloc hB9.size (.cells #[.string (str u.cur.1), .string (str u.cur.2), .string (str u.clr.1), .string (str u.clr.2)] 26)
        have qS0 := S_w9a.cell0
        have qS1 := S_w9a.cell1
        have qS2 := S_w9a.cell2
        have qS3 := S_w9a.cell3
        have qL0 := L_w9a.cell0
        have qL1 := L_w9a.cell1
        have qM0 := M_w9a.cell0
        have qM1 := M_w9a.cell1
        have qT0 := T_w9a.cell0
        have qT1 := T_w9a.cell1
        have qT2 := T_w9a.cell2
        have qT3 := T_w9a.cell3
        go_wp2_with fail
        refine (HB.out _).mono ?_
        rintro e w10 ⟨rfl, hb10⟩
        clear qS0 qS1 qS2 qS3 qL0 qL1 qM0 qM1 qT0 qT1 qT2 qT3
        have S_w10 := S_w9a.below hb10 S_w9a.lt
        have L_w10 := L_w9a.below hb10 L_w9a.lt
        have M_w10 := M_w9a.below hb10 M_w9a.lt
        have T_w10 := T_w9a.below hb10 T_w9a.lt
        have hB10 := hB9a.trans (hb10.mono hB9a.size)
        clear hb10 hB9a S_w9a L_w9a M_w9a T_w9a
        have S_w10a := S_w10.alloc (.cells #[.string (str (Lz.nrm a).1), .string (str (Lz.nrm a).2), .string (str t.clr.1), .string (str t.clr.2)] 26)
        have L_w10a := L_w10.alloc (.cells #[.string (str (Lz.nrm a).1), .string (str (Lz.nrm a).2), .string (str t.clr.1), .string (str t.clr.2)] 26)
        have M_w10a := M_w10.alloc (.cells #[.string (str (Lz.nrm a).1), .string (str (Lz.nrm a).2), .string (str t.clr.1), .string (str t.clr.2)] 26)
        have T_w10a := T_w10.alloc (.cells #[.string (str (Lz.nrm a).1), .string (str (Lz.nrm a).2), .string (str t.clr.1), .string (str t.clr.2)] 26)
        have U_w10a := Box4.new w10 26 (.string (str (Lz.nrm a).1)) (.string (str (Lz.nrm a).2)) (.string (str t.clr.1)) (.string (str t.clr.2))
        have hB10a := hB10.alloc hB10.size (.cells #[.string (str (Lz.nrm a).1), .string (str (Lz.nrm a).2), .string (str t.clr.1), .string (str t.clr.2)] 26)
        have qS0 := S_w10a.cell0
        have qS1 := S_w10a.cell1
        have qS2 := S_w10a.cell2
        have qS3 := S_w10a.cell3
        have qL0 := L_w10a.cell0
        have qL1 := L_w10a.cell1
        have qM0 := M_w10a.cell0
        have qM1 := M_w10a.cell1
        have qT0 := T_w10a.cell0
        have qT1 := T_w10a.cell1
        have qT2 := T_w10a.cell2
        have qT3 := T_w10a.cell3
        have qU0 := U_w10a.cell0
        have qU1 := U_w10a.cell1
        have qU2 := U_w10a.cell2
        have qU3 := U_w10a.cell3
        go_wp2_with fail
        refine (flows_p t.cur a ok.1 okl _).mono ?_
        rintro e w11 ⟨rfl, hb11⟩
        rw [HAA.out]
        clear qS0 qS1 qS2 qS3 qL0 qL1 qM0 qM1 qT0 qT1 qT2 qT3 qU0 qU1 qU2 qU3
        have S_w11 := S_w10a.below hb11 S_w10a.lt
        have L_w11 := L_w10a.below hb11 L_w10a.lt
        have M_w11 := M_w10a.below hb11 M_w10a.lt
        have T_w11 := T_w10a.below hb11 T_w10a.lt
        have U_w11 := U_w10a.below hb11 U_w10a.lt
        have hB11 := hB10a.trans (hb11.mono hB10a.size)
        clear hb11 hB10a S_w10a L_w10a M_w10a T_w10a U_w10a
        have qS0 := S_w11.cell0
        have qS1 := S_w11.cell1
        have qS2 := S_w11.cell2
        have qS3 := S_w11.cell3
        have qL0 := L_w11.cell0
        have qL1 := L_w11.cell1
        have qM0 := M_w11.cell0
        have qM1 := M_w11.cell1
        have qT0 := T_w11.cell0
        have qT1 := T_w11.cell1
        have qT2 := T_w11.cell2
        have qT3 := T_w11.cell3
        have qU0 := U_w11.cell0
        have qU1 := U_w11.cell1
        have qU2 := U_w11.cell2
        have qU3 := U_w11.cell3
        go_wp2_with fail
        refine (flows_p a t.clr okl ok.2 _).mono ?_
        rintro e w12 ⟨rfl, hb12⟩
        rw [HBB.out]
        clear qS0 qS1 qS2 qS3 qL0 qL1 qM0 qM1 qT0 qT1 qT2 qT3 qU0 qU1 qU2 qU3
        have S_w12 := S_w11.below hb12 S_w11.lt
        have L_w12 := L_w11.below hb12 L_w11.lt
        have M_w12 := M_w11.below hb12 M_w11.lt
        have T_w12 := T_w11.below hb12 T_w11.lt
        have U_w12 := U_w11.below hb12 U_w11.lt
        have hB12 := hB11.trans (hb12.mono hB11.size)
        clear hb12 hB11 S_w11 L_w11 M_w11 T_w11 U_w11
        have qS0 := S_w12.cell0
        have qS1 := S_w12.cell1
        have qS2 := S_w12.cell2
        have qS3 := S_w12.cell3
        have qL0 := L_w12.cell0
        have qL1 := L_w12.cell1
        have qM0 := M_w12.cell0
        have qM1 := M_w12.cell1
        have qT0 := T_w12.cell0
        have qT1 := T_w12.cell1
        have qT2 := T_w12.cell2
        have qT3 := T_w12.cell3
        have qU0 := U_w12.cell0
        have qU1 := U_w12.cell1
        have qU2 := U_w12.cell2
        have qU3 := U_w12.cell3
        go_wp2_with fail
        refine (HWU.out _).mono ?_
        rintro e w13 ⟨rfl, hb13⟩
        clear qS0 qS1 qS2 qS3 qL0 qL1 qM0 qM1 qT0 qT1 qT2 qT3 qU0 qU1 qU2 qU3
        have S_w13 := S_w12.below hb13 S_w12.lt
        have L_w13 := L_w12.below hb13 L_w12.lt
        have M_w13 := M_w12.below hb13 M_w12.lt
        have T_w13 := T_w12.below hb13 T_w12.lt
        have U_w13 := U_w12.below hb13 U_w12.lt
        have hB13 := hB12.trans (hb13.mono hB12.size)
        clear hb13 hB12 S_w12 L_w12 M_w12 T_w12 U_w12
        have qS0 := S_w13.cell0
        have qS1 := S_w13.cell1
        have qS2 := S_w13.cell2
        have qS3 := S_w13.cell3
        have qL0 := L_w13.cell0
        have qL1 := L_w13.cell1
        have qM0 := M_w13.cell0
        have qM1 := M_w13.cell1
        have qT0 := T_w13.cell0
        have qT1 := T_w13.cell1
        have qT2 := T_w13.cell2
        have qT3 := T_w13.cell3
        have qU0 := U_w13.cell0
        have qU1 := U_w13.cell1
        have qU2 := U_w13.cell2
        have qU3 := U_w13.cell3
        go_wp2_with fail
        have kU0 := cell_regrown U_w13.cell0
        have kU1 := cell_regrown U_w13.cell1
        have kU2 := cell_regrown U_w13.cell2
        have kU3 := cell_regrown U_w13.cell3
        have kL0 := cell_regrown L_w13.cell0
        have kL1 := cell_regrown L_w13.cell1
        have kS0 := cell_regrown S_w13.cell0
        have kS1 := cell_regrown S_w13.cell1
        have kS2 := cell_regrown S_w13.cell2
        have kS3 := cell_regrown S_w13.cell3
        have cN := quiet_call (w := w13) (fun W _ => norm_p a okl W)
        clear qS0 qS1 qS2 qS3 qL0 qL1 qM0 qM1 qT0 qT1 qT2 qT3 qU0 qU1 qU2 qU3
        refine wp_region_quiet_below mixed (by kernel_rfl) ?_
        repeat (go_big_quiet_step (fail))
        go_big_quiet_step (exact cN _ _)
        repeat (go_big_quiet_step (fail))
        refine wpQuiet_nil ?_
        intro W1 hw'
        have hb9 := below_of_regrown hw'
        clear hw'
        go_wp2
        go_ret
        exact ⟨rfl, hB13.trans (hb9.mono hB13.size)⟩
      · have hw : Lz.wrS t a = 0 := by unfold Lz.wrS; rw [hA, hB]; rfl
        have hb : Lz.boS t a = (⟨Lz.nrm a, t.clr⟩, 0) := by unfold Lz.boS; rw [hA, hB]; rfl
        rw [hw] at HW
        rw [hb] at HB
        clear hbeh hw hb
        have HAA := Lib.hid hA
        clear hA
        have HBB := Lib.hid hB
        clear hB
        go_wp2_with fail
        refine (HW.out _).mono ?_
        rintro e w8 ⟨rfl, hb8⟩
        clear qS0 qS1 qS2 qS3 qL0 qL1 qM0 qM1
        have S_w8 := S_w7.below hb8 S_w7.lt
        have L_w8 := L_w7.below hb8 L_w7.lt
        have M_w8 := M_w7.below hb8 M_w7.lt
        have hB8 := hB7.trans (hb8.mono hB7.size)
        clear hb8 hB7 S_w7 L_w7 M_w7
        have qS0 := S_w8.cell0
        have qS1 := S_w8.cell1
        have qS2 := S_w8.cell2
        have qS3 := S_w8.cell3
        have qL0 := L_w8.cell0
        have qL1 := L_w8.cell1
        have qM0 := M_w8.cell0
        have qM1 := M_w8.cell1
        go_wp2_with fail
        refine (HT.out _).mono ?_
        rintro e w9 ⟨rfl, hb9⟩
        clear qS0 qS1 qS2 qS3 qL0 qL1 qM0 qM1
        have S_w9 := S_w8.below hb9 S_w8.lt
        have L_w9 := L_w8.below hb9 L_w8.lt
        have M_w9 := M_w8.below hb9 M_w8.lt
        have hB9 := hB8.trans (hb9.mono hB8.size)
        clear hb9 hB8 S_w8 L_w8 M_w8
        have S_w9a := S_w9.alloc (.cells #[.string (str u.cur.1), .string (str u.cur.2), .string (str u.clr.1), .string (str u.clr.2)] 26)
        have L_w9a := L_w9.alloc (.cells #[.string (str u.cur.1), .string (str u.cur.2), .string (str u.clr.1), .string (str u.clr.2)] 26)
        have M_w9a := M_w9.alloc (.cells #[.string (str u.cur.1), .string (str u.cur.2), .string (str u.clr.1), .string (str u.clr.2)] 26)
        have T_w9a := Box4.new w9 26 (.string (str u.cur.1)) (.string (str u.cur.2)) (.string (str u.clr.1)) (.string (str u.clr.2))
        have hB9a := hB9.alloc hB9.size (.cells #[.string (str u.cur.1), .string (str u.cur.2), .string (str u.clr.1), .string (str u.clr.2)] 26)
        have qS0 := S_w9a.cell0
        have qS1 := S_w9a.cell1
        have qS2 := S_w9a.cell2
        have qS3 := S_w9a.cell3
        have qL0 := L_w9a.cell0
        have qL1 := L_w9a.cell1
        have qM0 := M_w9a.cell0
        have qM1 := M_w9a.cell1
        have qT0 := T_w9a.cell0
        have qT1 := T_w9a.cell1
        have qT2 := T_w9a.cell2
        have qT3 := T_w9a.cell3
        go_wp2_with fail
        refine (HB.out _).mono ?_
        rintro e w10 ⟨rfl, hb10⟩
        clear qS0 qS1 qS2 qS3 qL0 qL1 qM0 qM1 qT0 qT1 qT2 qT3
        have S_w10 := S_w9a.below hb10 S_w9a.lt
        have L_w10 := L_w9a.below hb10 L_w9a.lt
        have M_w10 := M_w9a.below hb10 M_w9a.lt
        have T_w10 := T_w9a.below hb10 T_w9a.lt
        have hB10 := hB9a.trans (hb10.mono hB9a.size)
        clear hb10 hB9a S_w9a L_w9a M_w9a T_w9a
        have S_w10a := S_w10.alloc (.cells #[.string (str (Lz.nrm a).1), .string (str (Lz.nrm a).2), .string (str t.clr.1), .string (str t.clr.2)] 26)
        have L_w10a := L_w10.alloc (.cells #[.string (str (Lz.nrm a).1), .string (str (Lz.nrm a).2), .string (str t.clr.1), .string (str t.clr.2)] 26)
        have M_w10a := M_w10.alloc (.cells #[.string (str (Lz.nrm a).1), .string (str (Lz.nrm a).2), .string (str t.clr.1), .string (str t.clr.2)] 26)
        have T_w10a := T_w10.alloc (.cells #[.string (str (Lz.nrm a).1), .string (str (Lz.nrm a).2), .string (str t.clr.1), .string (str t.clr.2)] 26)
        have U_w10a := Box4.new w10 26 (.string (str (Lz.nrm a).1)) (.string (str (Lz.nrm a).2)) (.string (str t.clr.1)) (.string (str t.clr.2))
        have hB10a := hB10.alloc hB10.size (.cells #[.string (str (Lz.nrm a).1), .string (str (Lz.nrm a).2), .string (str t.clr.1), .string (str t.clr.2)] 26)
        have qS0 := S_w10a.cell0
        have qS1 := S_w10a.cell1
        have qS2 := S_w10a.cell2
        have qS3 := S_w10a.cell3
        have qL0 := L_w10a.cell0
        have qL1 := L_w10a.cell1
        have qM0 := M_w10a.cell0
        have qM1 := M_w10a.cell1
        have qT0 := T_w10a.cell0
        have qT1 := T_w10a.cell1
        have qT2 := T_w10a.cell2
        have qT3 := T_w10a.cell3
        have qU0 := U_w10a.cell0
        have qU1 := U_w10a.cell1
        have qU2 := U_w10a.cell2
        have qU3 := U_w10a.cell3
        go_wp2_with fail
        refine (flows_p t.cur a ok.1 okl _).mono ?_
        rintro e w11 ⟨rfl, hb11⟩
        rw [HAA.out]
        clear qS0 qS1 qS2 qS3 qL0 qL1 qM0 qM1 qT0 qT1 qT2 qT3 qU0 qU1 qU2 qU3
        have S_w11 := S_w10a.below hb11 S_w10a.lt
        have L_w11 := L_w10a.below hb11 L_w10a.lt
        have M_w11 := M_w10a.below hb11 M_w10a.lt
        have T_w11 := T_w10a.below hb11 T_w10a.lt
        have U_w11 := U_w10a.below hb11 U_w10a.lt
        have hB11 := hB10a.trans (hb11.mono hB10a.size)
        clear hb11 hB10a S_w10a L_w10a M_w10a T_w10a U_w10a
        have qS0 := S_w11.cell0
        have qS1 := S_w11.cell1
        have qS2 := S_w11.cell2
        have qS3 := S_w11.cell3
        have qL0 := L_w11.cell0
        have qL1 := L_w11.cell1
        have qM0 := M_w11.cell0
        have qM1 := M_w11.cell1
        have qT0 := T_w11.cell0
        have qT1 := T_w11.cell1
        have qT2 := T_w11.cell2
        have qT3 := T_w11.cell3
        have qU0 := U_w11.cell0
        have qU1 := U_w11.cell1
        have qU2 := U_w11.cell2
        have qU3 := U_w11.cell3
        go_wp2_with fail
        refine (flows_p a t.clr okl ok.2 _).mono ?_
        rintro e w12 ⟨rfl, hb12⟩
        rw [HBB.out]
        clear qS0 qS1 qS2 qS3 qL0 qL1 qM0 qM1 qT0 qT1 qT2 qT3 qU0 qU1 qU2 qU3
        have S_w12 := S_w11.below hb12 S_w11.lt
        have L_w12 := L_w11.below hb12 L_w11.lt
        have M_w12 := M_w11.below hb12 M_w11.lt
        have T_w12 := T_w11.below hb12 T_w11.lt
        have U_w12 := U_w11.below hb12 U_w11.lt
        have hB12 := hB11.trans (hb12.mono hB11.size)
        clear hb12 hB11 S_w11 L_w11 M_w11 T_w11 U_w11
        have qS0 := S_w12.cell0
        have qS1 := S_w12.cell1
        have qS2 := S_w12.cell2
        have qS3 := S_w12.cell3
        have qL0 := L_w12.cell0
        have qL1 := L_w12.cell1
        have qM0 := M_w12.cell0
        have qM1 := M_w12.cell1
        have qT0 := T_w12.cell0
        have qT1 := T_w12.cell1
        have qT2 := T_w12.cell2
        have qT3 := T_w12.cell3
        have qU0 := U_w12.cell0
        have qU1 := U_w12.cell1
        have qU2 := U_w12.cell2
        have qU3 := U_w12.cell3
        go_wp2_with fail
        refine (HWU.out _).mono ?_
        rintro e w13 ⟨rfl, hb13⟩
        clear qS0 qS1 qS2 qS3 qL0 qL1 qM0 qM1 qT0 qT1 qT2 qT3 qU0 qU1 qU2 qU3
        have S_w13 := S_w12.below hb13 S_w12.lt
        have L_w13 := L_w12.below hb13 L_w12.lt
        have M_w13 := M_w12.below hb13 M_w12.lt
        have T_w13 := T_w12.below hb13 T_w12.lt
        have U_w13 := U_w12.below hb13 U_w12.lt
        have hB13 := hB12.trans (hb13.mono hB12.size)
        clear hb13 hB12 S_w12 L_w12 M_w12 T_w12 U_w12
        have qS0 := S_w13.cell0
        have qS1 := S_w13.cell1
        have qS2 := S_w13.cell2
        have qS3 := S_w13.cell3
        have qL0 := L_w13.cell0
        have qL1 := L_w13.cell1
        have qM0 := M_w13.cell0
        have qM1 := M_w13.cell1
        have qT0 := T_w13.cell0
        have qT1 := T_w13.cell1
        have qT2 := T_w13.cell2
        have qT3 := T_w13.cell3
        have qU0 := U_w13.cell0
        have qU1 := U_w13.cell1
        have qU2 := U_w13.cell2
        have qU3 := U_w13.cell3
        go_wp2_with fail
        have kU0 := cell_regrown U_w13.cell0
        have kU1 := cell_regrown U_w13.cell1
        have kU2 := cell_regrown U_w13.cell2
        have kU3 := cell_regrown U_w13.cell3
        have kL0 := cell_regrown L_w13.cell0
        have kL1 := cell_regrown L_w13.cell1
        have kS0 := cell_regrown S_w13.cell0
        have kS1 := cell_regrown S_w13.cell1
        have kS2 := cell_regrown S_w13.cell2
        have kS3 := cell_regrown S_w13.cell3
        have cN := quiet_call (w := w13) (fun W _ => norm_p a okl W)
        clear qS0 qS1 qS2 qS3 qL0 qL1 qM0 qM1 qT0 qT1 qT2 qT3 qU0 qU1 qU2 qU3
        refine wp_region_quiet_below mixed (by kernel_rfl) ?_
        repeat (go_big_quiet_step (fail))
        go_big_quiet_step (exact cN _ _)
        repeat (go_big_quiet_step (fail))
        refine wpQuiet_nil ?_
        intro W1 hw'
        have hb9 := below_of_regrown hw'
        clear hw'
        go_wp2
        go_ret
        exact ⟨rfl, hB13.trans (hb9.mono hB13.size)⟩
theorem walkGuardWrites (a b c e : ByteArray) (ha : a.size ≤ maxLen) (hb : b.size ≤ maxLen) (hc : c.size ≤ maxLen) (he : e.size ≤ maxLen) (l i : ByteArray) (hl : l.size ≤ maxLen) (hi : i.size ≤ maxLen) (m j : ByteArray) (hm : m.size ≤ maxLen) (hj : j.size ≤ maxLen) (w : World) :
    Calls Try.prog 6 #[.agg #[.string a, .string b, .string c, .string e], .agg #[.string l, .string i], .agg #[.string m, .string j]] w fun e w' => e = .returned (.bool true) ∧ Below w.heap.size w w' :=
  walkPGuardWrites ⟨(a.data.toList, b.data.toList), (c.data.toList, e.data.toList)⟩ (l.data.toList, i.data.toList) (m.data.toList, j.data.toList) ⟨ha, hb, hc, he⟩ hl hi hm hj w
end Go.Proofs.Ytnnnnlnnohdidaa
