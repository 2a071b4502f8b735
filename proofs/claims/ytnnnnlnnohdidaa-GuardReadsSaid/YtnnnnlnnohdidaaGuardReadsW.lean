/- The walk of GuardReads. Conditions: the sizes of what came in. -/
import Derived.Test.YtnnnnlnnohdidaaGuardPre2
namespace Go.Proofs.Ytnnnnlnnohdidaa
open Go.RowKit Go.Shelf
attribute [local go_sem high] eql_label neq_label eql_state neq_state
set_option maxRecDepth 100000 in
set_option maxHeartbeats 8000000 in
theorem walkPGuardReads (s : Lz.St) (l m : Lz.Lab) (hs : bndS s) (hl1 : l.1.length ≤ maxLen) (hl2 : l.2.length ≤ maxLen) (hm1 : m.1.length ≤ maxLen) (hm2 : m.2.length ≤ maxLen) (w : World) :
    Calls Try.prog 5 #[sv s, pv l, pv m] w fun e w' => e = .returned (.bool true) ∧ Below w.heap.size w w' := by
  have mixed := mixedOrders
  obtain ⟨S0, L0, M0, hB0⟩ := alloc3L w s l m
  have HF := Lib.hid (begun_p s hs)
  have ok : okS (Lz.begun (smS s)) := ⟨okL_nrm _, okL_jn _ _⟩
  have RT := Lib.hid (Lz.right_begun (smS s))
  generalize Lz.begun (smS s) = t at HF ok RT
  have HL := Lib.hid (small_p l hl1 hl2)
  have HM := Lib.hid (small_p m hm1 hm2)
  have okl := okL_sm l
  have okm := okL_sm m
  generalize hal : sm l = a at HL okl
  generalize ham : sm m = c at HM okm
  clear hal ham
  have qS0 := S0.cell0
  have qS1 := S0.cell1
  have qS2 := S0.cell2
  have qS3 := S0.cell3
  have qL0 := L0.cell0
  have qL1 := L0.cell1
  have qM0 := M0.cell0
  have qM1 := M0.cell1
  go_enter Try.func5, Try.ntmps5
  go_wp2_with fail
  generalize (((w.alloc (.cells #[.string (str s.cur.1), .string (str s.cur.2), .string (str s.clr.1), .string (str s.clr.2)] 26)).alloc (.cells #[.string (str l.1), .string (str l.2)] 24)).alloc (.cells #[.string (str m.1), .string (str m.2)] 24)) = w0 at *
  go_wp2_with fail
  refine (examples_p _).mono ?_
  rintro e w1 ⟨rfl, hb1⟩
  clear qS0 qS1 qS2 qS3 qL0 qL1 qM0 qM1
  have S_w1 := S0.below hb1 S0.lt
  have L_w1 := L0.below hb1 L0.lt
  have M_w1 := M0.below hb1 M0.lt
  have hB1 := hB0.trans (hb1.mono hB0.size)
  clear hb1 hB0 S0 L0 M0
  have qS0 := S_w1.cell0
  have qS1 := S_w1.cell1
  have qS2 := S_w1.cell2
  have qS3 := S_w1.cell3
  have qL0 := L_w1.cell0
  have qL1 := L_w1.cell1
  have qM0 := M_w1.cell0
  have qM1 := M_w1.cell1
  go_wp2_with fail
  refine (HF.out _).mono ?_
  rintro e w2 ⟨rfl, hb2⟩
  clear qS0 qS1 qS2 qS3 qL0 qL1 qM0 qM1
  have S_w2 := S_w1.below hb2 S_w1.lt
  have L_w2 := L_w1.below hb2 L_w1.lt
  have M_w2 := M_w1.below hb2 M_w1.lt
  have hB2 := hB1.trans (hb2.mono hB1.size)
  clear hb2 hB1 S_w1 L_w1 M_w1
  have qS0 := S_w2.cell0
  have qS1 := S_w2.cell1
  have qS2 := S_w2.cell2
  have qS3 := S_w2.cell3
  have qL0 := L_w2.cell0
  have qL1 := L_w2.cell1
  have qM0 := M_w2.cell0
  have qM1 := M_w2.cell1
  have f0 := S_w2.frozen 0
  have f1 := S_w2.frozen 1
  have f2 := S_w2.frozen 2
  have f3 := S_w2.frozen 3
  go_wp2_with fail
  have S_s := box4_set (a' := .string (str t.cur.1)) (b' := .string (str t.cur.2)) (c' := .string (str t.clr.1)) (d' := .string (str t.clr.2)) S_w2
  have L_s : Box2 ((((w2.setCell ⟨w.heap.size, 0, none⟩ (.string (str t.cur.1))).setCell ⟨w.heap.size, 1, none⟩ (.string (str t.cur.2))).setCell ⟨w.heap.size, 2, none⟩ (.string (str t.clr.1))).setCell ⟨w.heap.size, 3, none⟩ (.string (str t.clr.2))) (w.heap.size + 1) 24 (.string (str l.1)) (.string (str l.2)) := other4 (by omega) L_w2 _ _ _ _
  have M_s : Box2 ((((w2.setCell ⟨w.heap.size, 0, none⟩ (.string (str t.cur.1))).setCell ⟨w.heap.size, 1, none⟩ (.string (str t.cur.2))).setCell ⟨w.heap.size, 2, none⟩ (.string (str t.clr.1))).setCell ⟨w.heap.size, 3, none⟩ (.string (str t.clr.2))) (w.heap.size + 1 + 1) 24 (.string (str m.1)) (.string (str m.2)) := other4 (by omega) M_w2 _ _ _ _
  have hs := below4 hB2 (show w.heap.size ≤ w.heap.size by omega) (.string (str t.cur.1)) (.string (str t.cur.2)) (.string (str t.clr.1)) (.string (str t.clr.2))
  clear qS0 qS1 qS2 qS3 qL0 qL1 qM0 qM1
  clear hB2 S_w2 L_w2 M_w2 f0 f1 f2 f3
  generalize ((((w2.setCell ⟨w.heap.size, 0, none⟩ (.string (str t.cur.1))).setCell ⟨w.heap.size, 1, none⟩ (.string (str t.cur.2))).setCell ⟨w.heap.size, 2, none⟩ (.string (str t.clr.1))).setCell ⟨w.heap.size, 3, none⟩ (.string (str t.clr.2))) = w3 at hs S_s L_s M_s ⊢
  have S_w3 := S_s
  have L_w3 := L_s
  have M_w3 := M_s
  have hB3 := hs
  clear hs S_s L_s M_s
  have qS0 := S_w3.cell0
  have qS1 := S_w3.cell1
  have qS2 := S_w3.cell2
  have qS3 := S_w3.cell3
  have qL0 := L_w3.cell0
  have qL1 := L_w3.cell1
  have qM0 := M_w3.cell0
  have qM1 := M_w3.cell1
  go_wp2_with fail
  refine (HL.out _).mono ?_
  rintro e w4 ⟨rfl, hb4⟩
  clear qS0 qS1 qS2 qS3 qL0 qL1 qM0 qM1
  have S_w4 := S_w3.below hb4 S_w3.lt
  have L_w4 := L_w3.below hb4 L_w3.lt
  have M_w4 := M_w3.below hb4 M_w3.lt
  have hB4 := hB3.trans (hb4.mono hB3.size)
  clear hb4 hB3 S_w3 L_w3 M_w3
  have qS0 := S_w4.cell0
  have qS1 := S_w4.cell1
  have qS2 := S_w4.cell2
  have qS3 := S_w4.cell3
  have qL0 := L_w4.cell0
  have qL1 := L_w4.cell1
  have qM0 := M_w4.cell0
  have qM1 := M_w4.cell1
  have f0 := L_w4.frozen 0
  have f1 := L_w4.frozen 1
  go_wp2_with fail
  have L_s := box2_set1 (q := .string (str a.2)) (box2_set0 (q := .string (str a.1)) L_w4)
  have S_s : Box4 ((w4.setCell ⟨(w.heap.size + 1), 0, none⟩ (.string (str a.1))).setCell ⟨(w.heap.size + 1), 1, none⟩ (.string (str a.2))) w.heap.size 26 (.string (str t.cur.1)) (.string (str t.cur.2)) (.string (str t.clr.1)) (.string (str t.clr.2)) := other2 (by omega) S_w4 _ _
  have M_s : Box2 ((w4.setCell ⟨(w.heap.size + 1), 0, none⟩ (.string (str a.1))).setCell ⟨(w.heap.size + 1), 1, none⟩ (.string (str a.2))) (w.heap.size + 1 + 1) 24 (.string (str m.1)) (.string (str m.2)) := other2 (by omega) M_w4 _ _
  have hs := (hB4.setCell (p := ⟨(w.heap.size + 1), 0, none⟩) (show w.heap.size ≤ (w.heap.size + 1) by omega) (.string (str a.1))).setCell (p := ⟨(w.heap.size + 1), 1, none⟩) (show w.heap.size ≤ (w.heap.size + 1) by omega) (.string (str a.2))
  clear qS0 qS1 qS2 qS3 qL0 qL1 qM0 qM1
  clear hB4 S_w4 L_w4 M_w4 f0 f1
  generalize ((w4.setCell ⟨(w.heap.size + 1), 0, none⟩ (.string (str a.1))).setCell ⟨(w.heap.size + 1), 1, none⟩ (.string (str a.2))) = w5 at hs S_s L_s M_s ⊢
  have S_w5 := S_s
  have L_w5 := L_s
  have M_w5 := M_s
  have hB5 := hs
  clear hs S_s L_s M_s
  have qS0 := S_w5.cell0
  have qS1 := S_w5.cell1
  have qS2 := S_w5.cell2
  have qS3 := S_w5.cell3
  have qL0 := L_w5.cell0
  have qL1 := L_w5.cell1
  have qM0 := M_w5.cell0
  have qM1 := M_w5.cell1
  go_wp2_with fail
  refine (HM.out _).mono ?_
  rintro e w6 ⟨rfl, hb6⟩
  clear qS0 qS1 qS2 qS3 qL0 qL1 qM0 qM1
  have S_w6 := S_w5.below hb6 S_w5.lt
  have L_w6 := L_w5.below hb6 L_w5.lt
  have M_w6 := M_w5.below hb6 M_w5.lt
  have hB6 := hB5.trans (hb6.mono hB5.size)
  clear hb6 hB5 S_w5 L_w5 M_w5
  have qS0 := S_w6.cell0
  have qS1 := S_w6.cell1
  have qS2 := S_w6.cell2
  have qS3 := S_w6.cell3
  have qL0 := L_w6.cell0
  have qL1 := L_w6.cell1
  have qM0 := M_w6.cell0
  have qM1 := M_w6.cell1
  have f0 := M_w6.frozen 0
  have f1 := M_w6.frozen 1
  go_wp2_with fail
  have M_s := box2_set1 (q := .string (str c.2)) (box2_set0 (q := .string (str c.1)) M_w6)
  have S_s : Box4 ((w6.setCell ⟨(w.heap.size + 1 + 1), 0, none⟩ (.string (str c.1))).setCell ⟨(w.heap.size + 1 + 1), 1, none⟩ (.string (str c.2))) w.heap.size 26 (.string (str t.cur.1)) (.string (str t.cur.2)) (.string (str t.clr.1)) (.string (str t.clr.2)) := other2 (by omega) S_w6 _ _
  have L_s : Box2 ((w6.setCell ⟨(w.heap.size + 1 + 1), 0, none⟩ (.string (str c.1))).setCell ⟨(w.heap.size + 1 + 1), 1, none⟩ (.string (str c.2))) (w.heap.size + 1) 24 (.string (str a.1)) (.string (str a.2)) := other2 (by omega) L_w6 _ _
  have hs := (hB6.setCell (p := ⟨(w.heap.size + 1 + 1), 0, none⟩) (show w.heap.size ≤ (w.heap.size + 1 + 1) by omega) (.string (str c.1))).setCell (p := ⟨(w.heap.size + 1 + 1), 1, none⟩) (show w.heap.size ≤ (w.heap.size + 1 + 1) by omega) (.string (str c.2))
  clear qS0 qS1 qS2 qS3 qL0 qL1 qM0 qM1
  clear hB6 S_w6 L_w6 M_w6 f0 f1
  generalize ((w6.setCell ⟨(w.heap.size + 1 + 1), 0, none⟩ (.string (str c.1))).setCell ⟨(w.heap.size + 1 + 1), 1, none⟩ (.string (str c.2))) = w7 at hs S_s L_s M_s ⊢
  have S_w7 := S_s
  have L_w7 := L_s
  have M_w7 := M_s
  have hB7 := hs
  clear hs S_s L_s M_s
  have qS0 := S_w7.cell0
  have qS1 := S_w7.cell1
  have qS2 := S_w7.cell2
  have qS3 := S_w7.cell3
  have qL0 := L_w7.cell0
  have qL1 := L_w7.cell1
  have qM0 := M_w7.cell0
  have qM1 := M_w7.cell1
  have HU := Lib.hid (fun W => up_p t a ok okl W)
  have HFL := Lib.hid (Lz.up_fl t a)
  have hcc := Lz.fl_iff.2 RT.out.2.2
  have HCC := Lib.hid hcc
  clear hcc
  cases h : Lz.fl (Lz.jn t.cur a) t.clr with
  | false =>
    have hu : Lz.upS t a = (t, -4) := by unfold Lz.upS; rw [h]; rfl
    have h2 : Lz.fl a t.clr = false := by have := HFL.out; rw [h, HCC.out, Bool.true_and] at this; exact this.symm
    have H2 := Lib.hid h2
    rw [hu] at HU
    clear hu h h2
    go_wp2_with fail
    refine (HU.out _).mono ?_
    rintro e w8 ⟨rfl, hb8⟩
    clear qS0 qS1 qS2 qS3 qL0 qL1 qM0 qM1
    have S_w8 := S_w7.below hb8 S_w7.lt
    have L_w8 := L_w7.below hb8 L_w7.lt
    have M_w8 := M_w7.below hb8 M_w7.lt
    have hB8 := hB7.trans (hb8.mono hB7.size)
    clear hb8 hB7 S_w7 L_w7 M_w7
    have S_w8a := S_w8.alloc (.cells #[.string (str t.cur.1), .string (str t.cur.2), .string (str t.clr.1), .string (str t.clr.2)] 26)
    have L_w8a := L_w8.alloc (.cells #[.string (str t.cur.1), .string (str t.cur.2), .string (str t.clr.1), .string (str t.clr.2)] 26)
    have M_w8a := M_w8.alloc (.cells #[.string (str t.cur.1), .string (str t.cur.2), .string (str t.clr.1), .string (str t.clr.2)] 26)
    have T_w8a := Box4.new w8 26 (.string (str t.cur.1)) (.string (str t.cur.2)) (.string (str t.clr.1)) (.string (str t.clr.2))
    have hB8a := hB8.alloc hB8.size (.cells #[.string (str t.cur.1), .string (str t.cur.2), .string (str t.clr.1), .string (str t.clr.2)] 26)
    have qS0 := S_w8a.cell0
    have qS1 := S_w8a.cell1
    have qS2 := S_w8a.cell2
    have qS3 := S_w8a.cell3
    have qL0 := L_w8a.cell0
    have qL1 := L_w8a.cell1
    have qM0 := M_w8a.cell0
    have qM1 := M_w8a.cell1
    have qT0 := T_w8a.cell0
    have qT1 := T_w8a.cell1
    have qT2 := T_w8a.cell2
    have qT3 := T_w8a.cell3
    go_wp2_with fail
    refine (flows_p t.cur t.clr ok.1 ok.2 _).mono ?_
    rintro e w9 ⟨rfl, hb9⟩
    rw [HCC.out]
    clear qS0 qS1 qS2 qS3 qL0 qL1 qM0 qM1 qT0 qT1 qT2 qT3
    have S_w9 := S_w8a.below hb9 S_w8a.lt
    have L_w9 := L_w8a.below hb9 L_w8a.lt
    have M_w9 := M_w8a.below hb9 M_w8a.lt
    have T_w9 := T_w8a.below hb9 T_w8a.lt
    have hB9 := hB8a.trans (hb9.mono hB8a.size)
    clear hb9 hB8a S_w8a L_w8a M_w8a T_w8a
    have qS0 := S_w9.cell0
    have qS1 := S_w9.cell1
    have qS2 := S_w9.cell2
    have qS3 := S_w9.cell3
    have qL0 := L_w9.cell0
    have qL1 := L_w9.cell1
    have qM0 := M_w9.cell0
    have qM1 := M_w9.cell1
    have qT0 := T_w9.cell0
    have qT1 := T_w9.cell1
    have qT2 := T_w9.cell2
    have qT3 := T_w9.cell3
    go_wp2_with fail
    refine (flows_p a t.clr okl ok.2 _).mono ?_
    rintro e w10 ⟨rfl, hb10⟩
    rw [H2.out]
    clear qS0 qS1 qS2 qS3 qL0 qL1 qM0 qM1 qT0 qT1 qT2 qT3
    have S_w10 := S_w9.below hb10 S_w9.lt
    have L_w10 := L_w9.below hb10 L_w9.lt
    have M_w10 := M_w9.below hb10 M_w9.lt
    have T_w10 := T_w9.below hb10 T_w9.lt
    have hB10 := hB9.trans (hb10.mono hB9.size)
    clear hb10 hB9 S_w9 L_w9 M_w9 T_w9
    go_wp2
    go_ret
    exact ⟨rfl, hB10⟩
  | true =>
    have hu : Lz.upS t a = ((⟨Lz.jn t.cur a, t.clr⟩ : Lz.St), 0) := by unfold Lz.upS; rw [h]; rfl
    have h2 : Lz.fl a t.clr = true := by have := HFL.out; rw [h, HCC.out, Bool.true_and] at this; exact this.symm
    have hag : Lz.upS (⟨Lz.jn t.cur a, t.clr⟩ : Lz.St) a = ((⟨Lz.jn t.cur a, t.clr⟩ : Lz.St), 0) := by have := Lz.up_again t a h; rw [hu] at this; exact this
    have h3 : Lz.fl a (Lz.jn t.cur a) = true := Lz.fl_iff.2 (Lz.le_jn_right _ _)
    have h4 := Lz.fl_jn t.cur a c
    have oku : okS (⟨Lz.jn t.cur a, t.clr⟩ : Lz.St) := ⟨okL_jn _ _, ok.2⟩
    have HA := Lib.hid (fun W => up_p (⟨Lz.jn t.cur a, t.clr⟩ : Lz.St) a oku okl W)
    rw [hag] at HA
    rw [hu] at HU
    have okj : okL (Lz.jn t.cur a) := okL_jn _ _
    generalize Lz.jn t.cur a = j at HU HA h3 h4 oku okj
    have H2 := Lib.hid h2
    have H3 := Lib.hid h3
    clear hu hag h h2 h3
    cases h1 : Lz.fl t.cur c with
    | false =>
      rw [h1, Bool.false_and] at h4
      have H1 := Lib.hid h1
      have H4 := Lib.hid h4
      clear h1 h4
      go_wp2_with fail
      refine (HU.out _).mono ?_
      rintro e w8 ⟨rfl, hb8⟩
      clear qS0 qS1 qS2 qS3 qL0 qL1 qM0 qM1
      have S_w8 := S_w7.below hb8 S_w7.lt
      have L_w8 := L_w7.below hb8 L_w7.lt
      have M_w8 := M_w7.below hb8 M_w7.lt
      have hB8 := hB7.trans (hb8.mono hB7.size)
      clear hb8 hB7 S_w7 L_w7 M_w7
      have S_w8a := S_w8.alloc (.cells #[.string (str j.1), .string (str j.2), .string (str t.clr.1), .string (str t.clr.2)] 26)
      have L_w8a := L_w8.alloc (.cells #[.string (str j.1), .string (str j.2), .string (str t.clr.1), .string (str t.clr.2)] 26)
      have M_w8a := M_w8.alloc (.cells #[.string (str j.1), .string (str j.2), .string (str t.clr.1), .string (str t.clr.2)] 26)
      have T_w8a := Box4.new w8 26 (.string (str j.1)) (.string (str j.2)) (.string (str t.clr.1)) (.string (str t.clr.2))
      have hB8a := hB8.alloc hB8.size (.cells #[.string (str j.1), .string (str j.2), .string (str t.clr.1), .string (str t.clr.2)] 26)
      have qS0 := S_w8a.cell0
      have qS1 := S_w8a.cell1
      have qS2 := S_w8a.cell2
      have qS3 := S_w8a.cell3
      have qL0 := L_w8a.cell0
      have qL1 := L_w8a.cell1
      have qM0 := M_w8a.cell0
      have qM1 := M_w8a.cell1
      have qT0 := T_w8a.cell0
      have qT1 := T_w8a.cell1
      have qT2 := T_w8a.cell2
      have qT3 := T_w8a.cell3
      go_wp2_with fail
      refine (flows_p t.cur c ok.1 okm _).mono ?_
      rintro e w9 ⟨rfl, hb9⟩
      rw [H1.out]
      clear qS0 qS1 qS2 qS3 qL0 qL1 qM0 qM1 qT0 qT1 qT2 qT3
      have S_w9 := S_w8a.below hb9 S_w8a.lt
      have L_w9 := L_w8a.below hb9 L_w8a.lt
      have M_w9 := M_w8a.below hb9 M_w8a.lt
      have T_w9 := T_w8a.below hb9 T_w8a.lt
      have hB9 := hB8a.trans (hb9.mono hB8a.size)
      clear hb9 hB8a S_w8a L_w8a M_w8a T_w8a
      have qS0 := S_w9.cell0
      have qS1 := S_w9.cell1
      have qS2 := S_w9.cell2
      have qS3 := S_w9.cell3
      have qL0 := L_w9.cell0
      have qL1 := L_w9.cell1
      have qM0 := M_w9.cell0
      have qM1 := M_w9.cell1
      have qT0 := T_w9.cell0
      have qT1 := T_w9.cell1
      have qT2 := T_w9.cell2
      have qT3 := T_w9.cell3
      go_wp2_with fail
      refine (HA.out _).mono ?_
      rintro e w10 ⟨rfl, hb10⟩
      clear qS0 qS1 qS2 qS3 qL0 qL1 qM0 qM1 qT0 qT1 qT2 qT3
      have S_w10 := S_w9.below hb10 S_w9.lt
      have L_w10 := L_w9.below hb10 L_w9.lt
      have M_w10 := M_w9.below hb10 M_w9.lt
      have T_w10 := T_w9.below hb10 T_w9.lt
      have hB10 := hB9.trans (hb10.mono hB9.size)
      clear hb10 hB9 S_w9 L_w9 M_w9 T_w9
      have S_w10a := S_w10.alloc (.cells #[.string (str j.1), .string (str j.2), .string (str t.clr.1), .string (str t.clr.2)] 26)
      have L_w10a := L_w10.alloc (.cells #[.string (str j.1), .string (str j.2), .string (str t.clr.1), .string (str t.clr.2)] 26)
      have M_w10a := M_w10.alloc (.cells #[.string (str j.1), .string (str j.2), .string (str t.clr.1), .string (str t.clr.2)] 26)
      have T_w10a := T_w10.alloc (.cells #[.string (str j.1), .string (str j.2), .string (str t.clr.1), .string (str t.clr.2)] 26)
      have R_w10a := Box4.new w10 26 (.string (str j.1)) (.string (str j.2)) (.string (str t.clr.1)) (.string (str t.clr.2))
      have hB10a := hB10.alloc hB10.size (.cells #[.string (str j.1), .string (str j.2), .string (str t.clr.1), .string (str t.clr.2)] 26)
      have qS0 := S_w10a.cell0
      have qS1 := S_w10a.cell1
      have qS2 := S_w10a.cell2
      have qS3 := S_w10a.cell3
      have qL0 := L_w10a.cell0
      have qL1 := L_w10a.cell1
      have qM0 := M_w10a.cell0
      have qM1 := M_w10a.cell1
      have qT0 := T_w10a.cell0
      have qT1 := T_w10a.cell1
      have qT2 := T_w10a.cell2
      have qT3 := T_w10a.cell3
      have qR0 := R_w10a.cell0
      have qR1 := R_w10a.cell1
      have qR2 := R_w10a.cell2
      have qR3 := R_w10a.cell3
      go_wp2_with fail
      refine (flows_p a j okl okj _).mono ?_
      rintro e w11 ⟨rfl, hb11⟩
      rw [H3.out]
      clear qS0 qS1 qS2 qS3 qL0 qL1 qM0 qM1 qT0 qT1 qT2 qT3 qR0 qR1 qR2 qR3
      have S_w11 := S_w10a.below hb11 S_w10a.lt
      have L_w11 := L_w10a.below hb11 L_w10a.lt
      have M_w11 := M_w10a.below hb11 M_w10a.lt
      have T_w11 := T_w10a.below hb11 T_w10a.lt
      have R_w11 := R_w10a.below hb11 R_w10a.lt
      have hB11 := hB10a.trans (hb11.mono hB10a.size)
      clear hb11 hB10a S_w10a L_w10a M_w10a T_w10a R_w10a
      have qS0 := S_w11.cell0
      have qS1 := S_w11.cell1
      have qS2 := S_w11.cell2
      have qS3 := S_w11.cell3
      have qL0 := L_w11.cell0
      have qL1 := L_w11.cell1
      have qM0 := M_w11.cell0
      have qM1 := M_w11.cell1
      have qT0 := T_w11.cell0
      have qT1 := T_w11.cell1
      have qT2 := T_w11.cell2
      have qT3 := T_w11.cell3
      have qR0 := R_w11.cell0
      have qR1 := R_w11.cell1
      have qR2 := R_w11.cell2
      have qR3 := R_w11.cell3
      go_wp2_with fail
      refine (flows_p j c okj okm _).mono ?_
      rintro e w12 ⟨rfl, hb12⟩
      rw [H4.out]
      clear qS0 qS1 qS2 qS3 qL0 qL1 qM0 qM1 qT0 qT1 qT2 qT3 qR0 qR1 qR2 qR3
      have S_w12 := S_w11.below hb12 S_w11.lt
      have L_w12 := L_w11.below hb12 L_w11.lt
      have M_w12 := M_w11.below hb12 M_w11.lt
      have T_w12 := T_w11.below hb12 T_w11.lt
      have R_w12 := R_w11.below hb12 R_w11.lt
      have hB12 := hB11.trans (hb12.mono hB11.size)
      clear hb12 hB11 S_w11 L_w11 M_w11 T_w11 R_w11
      have qS0 := S_w12.cell0
      have qS1 := S_w12.cell1
      have qS2 := S_w12.cell2
      have qS3 := S_w12.cell3
      have qL0 := L_w12.cell0
      have qL1 := L_w12.cell1
      have qM0 := M_w12.cell0
      have qM1 := M_w12.cell1
      have qT0 := T_w12.cell0
      have qT1 := T_w12.cell1
      have qT2 := T_w12.cell2
      have qT3 := T_w12.cell3
      have qR0 := R_w12.cell0
      have qR1 := R_w12.cell1
      have qR2 := R_w12.cell2
      have qR3 := R_w12.cell3
      go_wp2_with fail
      refine (flows_p a t.clr okl ok.2 _).mono ?_
      rintro e w13 ⟨rfl, hb13⟩
      rw [H2.out]
      clear qS0 qS1 qS2 qS3 qL0 qL1 qM0 qM1 qT0 qT1 qT2 qT3 qR0 qR1 qR2 qR3
      have S_w13 := S_w12.below hb13 S_w12.lt
      have L_w13 := L_w12.below hb13 L_w12.lt
      have M_w13 := M_w12.below hb13 M_w12.lt
      have T_w13 := T_w12.below hb13 T_w12.lt
      have R_w13 := R_w12.below hb13 R_w12.lt
      have hB13 := hB12.trans (hb13.mono hB12.size)
      clear hb13 hB12 S_w12 L_w12 M_w12 T_w12 R_w12
      go_wp2
      go_ret
      exact ⟨rfl, hB13⟩
    | true =>
      rw [h1, Bool.true_and] at h4
      have H1 := Lib.hid h1
      have H4 := Lib.hid h4
      clear h1 h4
      go_wp2_with fail
      refine (HU.out _).mono ?_
      rintro e w8 ⟨rfl, hb8⟩
      clear qS0 qS1 qS2 qS3 qL0 qL1 qM0 qM1
      have S_w8 := S_w7.below hb8 S_w7.lt
      have L_w8 := L_w7.below hb8 L_w7.lt
      have M_w8 := M_w7.below hb8 M_w7.lt
      have hB8 := hB7.trans (hb8.mono hB7.size)
      clear hb8 hB7 S_w7 L_w7 M_w7
      have S_w8a := S_w8.alloc (.cells #[.string (str j.1), .string (str j.2), .string (str t.clr.1), .string (str t.clr.2)] 26)
      have L_w8a := L_w8.alloc (.cells #[.string (str j.1), .string (str j.2), .string (str t.clr.1), .string (str t.clr.2)] 26)
      have M_w8a := M_w8.alloc (.cells #[.string (str j.1), .string (str j.2), .string (str t.clr.1), .string (str t.clr.2)] 26)
      have T_w8a := Box4.new w8 26 (.string (str j.1)) (.string (str j.2)) (.string (str t.clr.1)) (.string (str t.clr.2))
      have hB8a := hB8.alloc hB8.size (.cells #[.string (str j.1), .string (str j.2), .string (str t.clr.1), .string (str t.clr.2)] 26)
      have qS0 := S_w8a.cell0
      have qS1 := S_w8a.cell1
      have qS2 := S_w8a.cell2
      have qS3 := S_w8a.cell3
      have qL0 := L_w8a.cell0
      have qL1 := L_w8a.cell1
      have qM0 := M_w8a.cell0
      have qM1 := M_w8a.cell1
      have qT0 := T_w8a.cell0
      have qT1 := T_w8a.cell1
      have qT2 := T_w8a.cell2
      have qT3 := T_w8a.cell3
      go_wp2_with fail
      refine (flows_p t.cur c ok.1 okm _).mono ?_
      rintro e w9 ⟨rfl, hb9⟩
      rw [H1.out]
      clear qS0 qS1 qS2 qS3 qL0 qL1 qM0 qM1 qT0 qT1 qT2 qT3
      have S_w9 := S_w8a.below hb9 S_w8a.lt
      have L_w9 := L_w8a.below hb9 L_w8a.lt
      have M_w9 := M_w8a.below hb9 M_w8a.lt
      have T_w9 := T_w8a.below hb9 T_w8a.lt
      have hB9 := hB8a.trans (hb9.mono hB8a.size)
      clear hb9 hB8a S_w8a L_w8a M_w8a T_w8a
      have qS0 := S_w9.cell0
      have qS1 := S_w9.cell1
      have qS2 := S_w9.cell2
      have qS3 := S_w9.cell3
      have qL0 := L_w9.cell0
      have qL1 := L_w9.cell1
      have qM0 := M_w9.cell0
      have qM1 := M_w9.cell1
      have qT0 := T_w9.cell0
      have qT1 := T_w9.cell1
      have qT2 := T_w9.cell2
      have qT3 := T_w9.cell3
      go_wp2_with fail
      refine (flows_p a c okl okm _).mono ?_
      rintro e w10 ⟨rfl, hb10⟩
      clear qS0 qS1 qS2 qS3 qL0 qL1 qM0 qM1 qT0 qT1 qT2 qT3
      have S_w10 := S_w9.below hb10 S_w9.lt
      have L_w10 := L_w9.below hb10 L_w9.lt
      have M_w10 := M_w9.below hb10 M_w9.lt
      have T_w10 := T_w9.below hb10 T_w9.lt
      have hB10 := hB9.trans (hb10.mono hB9.size)
      clear hb10 hB9 S_w9 L_w9 M_w9 T_w9
      have qS0 := S_w10.cell0
      have qS1 := S_w10.cell1
      have qS2 := S_w10.cell2
      have qS3 := S_w10.cell3
      have qL0 := L_w10.cell0
      have qL1 := L_w10.cell1
      have qM0 := M_w10.cell0
      have qM1 := M_w10.cell1
      have qT0 := T_w10.cell0
      have qT1 := T_w10.cell1
      have qT2 := T_w10.cell2
      have qT3 := T_w10.cell3
      go_wp2_with fail
      refine (HA.out _).mono ?_
      rintro e w11 ⟨rfl, hb11⟩
      clear qS0 qS1 qS2 qS3 qL0 qL1 qM0 qM1 qT0 qT1 qT2 qT3
      have S_w11 := S_w10.below hb11 S_w10.lt
      have L_w11 := L_w10.below hb11 L_w10.lt
      have M_w11 := M_w10.below hb11 M_w10.lt
      have T_w11 := T_w10.below hb11 T_w10.lt
      have hB11 := hB10.trans (hb11.mono hB10.size)
      clear hb11 hB10 S_w10 L_w10 M_w10 T_w10
      have S_w11a := S_w11.alloc (.cells #[.string (str j.1), .string (str j.2), .string (str t.clr.1), .string (str t.clr.2)] 26)
      have L_w11a := L_w11.alloc (.cells #[.string (str j.1), .string (str j.2), .string (str t.clr.1), .string (str t.clr.2)] 26)
      have M_w11a := M_w11.alloc (.cells #[.string (str j.1), .string (str j.2), .string (str t.clr.1), .string (str t.clr.2)] 26)
      have T_w11a := T_w11.alloc (.cells #[.string (str j.1), .string (str j.2), .string (str t.clr.1), .string (str t.clr.2)] 26)
      have R_w11a := Box4.new w11 26 (.string (str j.1)) (.string (str j.2)) (.string (str t.clr.1)) (.string (str t.clr.2))
      have hB11a := hB11.alloc hB11.size (.cells #[.string (str j.1), .string (str j.2), .string (str t.clr.1), .string (str t.clr.2)] 26)
      have qS0 := S_w11a.cell0
      have qS1 := S_w11a.cell1
      have qS2 := S_w11a.cell2
      have qS3 := S_w11a.cell3
      have qL0 := L_w11a.cell0
      have qL1 := L_w11a.cell1
      have qM0 := M_w11a.cell0
      have qM1 := M_w11a.cell1
      have qT0 := T_w11a.cell0
      have qT1 := T_w11a.cell1
      have qT2 := T_w11a.cell2
      have qT3 := T_w11a.cell3
      have qR0 := R_w11a.cell0
      have qR1 := R_w11a.cell1
      have qR2 := R_w11a.cell2
      have qR3 := R_w11a.cell3
      go_wp2_with fail
      refine (flows_p a j okl okj _).mono ?_
      rintro e w12 ⟨rfl, hb12⟩
      rw [H3.out]
      clear qS0 qS1 qS2 qS3 qL0 qL1 qM0 qM1 qT0 qT1 qT2 qT3 qR0 qR1 qR2 qR3
      have S_w12 := S_w11a.below hb12 S_w11a.lt
      have L_w12 := L_w11a.below hb12 L_w11a.lt
      have M_w12 := M_w11a.below hb12 M_w11a.lt
      have T_w12 := T_w11a.below hb12 T_w11a.lt
      have R_w12 := R_w11a.below hb12 R_w11a.lt
      have hB12 := hB11a.trans (hb12.mono hB11a.size)
      clear hb12 hB11a S_w11a L_w11a M_w11a T_w11a R_w11a
      have qS0 := S_w12.cell0
      have qS1 := S_w12.cell1
      have qS2 := S_w12.cell2
      have qS3 := S_w12.cell3
      have qL0 := L_w12.cell0
      have qL1 := L_w12.cell1
      have qM0 := M_w12.cell0
      have qM1 := M_w12.cell1
      have qT0 := T_w12.cell0
      have qT1 := T_w12.cell1
      have qT2 := T_w12.cell2
      have qT3 := T_w12.cell3
      have qR0 := R_w12.cell0
      have qR1 := R_w12.cell1
      have qR2 := R_w12.cell2
      have qR3 := R_w12.cell3
      go_wp2_with fail
      refine (flows_p j c okj okm _).mono ?_
      rintro e w13 ⟨rfl, hb13⟩
      rw [H4.out]
      clear qS0 qS1 qS2 qS3 qL0 qL1 qM0 qM1 qT0 qT1 qT2 qT3 qR0 qR1 qR2 qR3
      have S_w13 := S_w12.below hb13 S_w12.lt
      have L_w13 := L_w12.below hb13 L_w12.lt
      have M_w13 := M_w12.below hb13 M_w12.lt
      have T_w13 := T_w12.below hb13 T_w12.lt
      have R_w13 := R_w12.below hb13 R_w12.lt
      have hB13 := hB12.trans (hb13.mono hB12.size)
      clear hb13 hB12 S_w12 L_w12 M_w12 T_w12 R_w12
      have qS0 := S_w13.cell0
      have qS1 := S_w13.cell1
      have qS2 := S_w13.cell2
      have qS3 := S_w13.cell3
      have qL0 := L_w13.cell0
      have qL1 := L_w13.cell1
      have qM0 := M_w13.cell0
      have qM1 := M_w13.cell1
      have qT0 := T_w13.cell0
      have qT1 := T_w13.cell1
      have qT2 := T_w13.cell2
      have qT3 := T_w13.cell3
      have qR0 := R_w13.cell0
      have qR1 := R_w13.cell1
      have qR2 := R_w13.cell2
      have qR3 := R_w13.cell3
      go_wp2_with fail
      refine (flows_p a t.clr okl ok.2 _).mono ?_
      rintro e w14 ⟨rfl, hb14⟩
      rw [H2.out]
      clear qS0 qS1 qS2 qS3 qL0 qL1 qM0 qM1 qT0 qT1 qT2 qT3 qR0 qR1 qR2 qR3
      have S_w14 := S_w13.below hb14 S_w13.lt
      have L_w14 := L_w13.below hb14 L_w13.lt
      have M_w14 := M_w13.below hb14 M_w13.lt
      have T_w14 := T_w13.below hb14 T_w13.lt
      have R_w14 := R_w13.below hb14 R_w13.lt
      have hB14 := hB13.trans (hb14.mono hB13.size)
      clear hb14 hB13 S_w13 L_w13 M_w13 T_w13 R_w13
      go_wp2
      go_ret
      exact ⟨rfl, hB14⟩
theorem walkGuardReads (a b c e : ByteArray) (ha : a.size ≤ maxLen) (hb : b.size ≤ maxLen) (hc : c.size ≤ maxLen) (he : e.size ≤ maxLen) (l i : ByteArray) (hl : l.size ≤ maxLen) (hi : i.size ≤ maxLen) (m j : ByteArray) (hm : m.size ≤ maxLen) (hj : j.size ≤ maxLen) (w : World) :
    Calls Try.prog 5 #[.agg #[.string a, .string b, .string c, .string e], .agg #[.string l, .string i], .agg #[.string m, .string j]] w fun e w' => e = .returned (.bool true) ∧ Below w.heap.size w w' :=
  walkPGuardReads ⟨(a.data.toList, b.data.toList), (c.data.toList, e.data.toList)⟩ (l.data.toList, i.data.toList) (m.data.toList, j.data.toList) ⟨ha, hb, hc, he⟩ hl hi hm hj w
end Go.Proofs.Ytnnnnlnnohdidaa
