/- The walk of GuardLeaks. Conditions: the sizes of what came in. -/
import Derived.Test.YtnnnnlnnohdidaaGuardPre2
import Derived.Test.YtnnnnlnnohdidaaOrd3
import Derived.BigQuiet
namespace Go.Proofs.Ytnnnnlnnohdidaa
open Go.RowKit Go.Shelf
attribute [local go_sem high] eql_label neq_label eql_state neq_state
theorem okS_dr (s : Lz.St) (l : Lz.Lab) (p : UInt8) (h : okS s) : okS (Lz.drS s l p).1 := okS_stS s 4 l p h
theorem okS_li (s : Lz.St) (l : Lz.Lab) (p : UInt8) (h : okS s) : okS (Lz.liS s l p).1 := okS_stS s 5 l p h
set_option maxRecDepth 100000 in
set_option maxHeartbeats 8000000 in
theorem walkPGuardLeaks (s : Lz.St) (l : Lz.Lab) (p : UInt8) (hs : bndS s) (hl1 : l.1.length ≤ maxLen) (hl2 : l.2.length ≤ maxLen) (w : World) :
    Calls Try.prog 7 #[sv s, pv l, .int .u8 (p.toNat : Int)] w fun e w' => e = .returned (.bool true) ∧ Below w.heap.size w w' := by
  have mixed := mixedOrders
  obtain ⟨S0, L0, hB0⟩ := alloc2L w s l
  have HF := Lib.hid (begun_p s hs)
  have ok : okS (Lz.begun (smS s)) := ⟨okL_nrm _, okL_jn _ _⟩
  generalize Lz.begun (smS s) = t at HF ok
  have HL := Lib.hid (small_p l hl1 hl2)
  have okl := okL_sm l
  generalize hal : sm l = a at HL okl
  clear hal
  have HD := Lib.hid (fun W => drG_p t a _ p rfl ok okl W)
  have HV := Lib.hid (fun W => liG_p t a _ p rfl ok okl W)
  have HN := Lib.hid (fun W => drG_p t a 0 0 rfl ok okl W)
  have okd := okS_dr t a p ok
  have okv := okS_li t a p ok
  obtain ⟨fd1, fd2, fd3⟩ := Lz.dr_facts t a p
  obtain ⟨fl1, fl2⟩ := Lz.li_facts t a p
  generalize Lz.drS t a p = q1 at HD okd fd1 fd2
  generalize Lz.liS t a p = q2 at HV okv fl1 fl2
  generalize Lz.drS t a 0 = q3 at HN fd1 fd3
  obtain ⟨d, ex, lg⟩ := q1
  obtain ⟨v, lf, td⟩ := q2
  obtain ⟨n, nx, never⟩ := q3
  simp only at fd1 fd2 fd3 fl1 fl2 okd okv
  subst fd3
  have FD1 := Lib.hid fd1
  have FD2 := Lib.hid fd2
  have FL1 := Lib.hid fl1
  have FL2 := Lib.hid fl2
  clear fd1 fd2 fl1 fl2
  have qS0 := S0.cell0
  have qS1 := S0.cell1
  have qS2 := S0.cell2
  have qS3 := S0.cell3
  have qL0 := L0.cell0
  have qL1 := L0.cell1
  go_enter Try.func7, Try.ntmps7
  go_wp2_with fail
  generalize ((w.alloc (.cells #[.string (str s.cur.1), .string (str s.cur.2), .string (str s.clr.1), .string (str s.clr.2)] 26)).alloc (.cells #[.string (str l.1), .string (str l.2)] 24)) = w0 at *
  go_wp2_with fail
  refine (examples_p _).mono ?_
  rintro e w1 ⟨rfl, hb1⟩
  clear qS0 qS1 qS2 qS3 qL0 qL1
  have S_w1 := S0.below hb1 S0.lt
  have L_w1 := L0.below hb1 L0.lt
  have hB1 := hB0.trans (hb1.mono hB0.size)
  clear hb1 hB0 S0 L0
  have qS0 := S_w1.cell0
  have qS1 := S_w1.cell1
  have qS2 := S_w1.cell2
  have qS3 := S_w1.cell3
  have qL0 := L_w1.cell0
  have qL1 := L_w1.cell1
  go_wp2_with fail
  refine (HF.out _).mono ?_
  rintro e w2 ⟨rfl, hb2⟩
  clear qS0 qS1 qS2 qS3 qL0 qL1
  have S_w2 := S_w1.below hb2 S_w1.lt
  have L_w2 := L_w1.below hb2 L_w1.lt
  have hB2 := hB1.trans (hb2.mono hB1.size)
  clear hb2 hB1 S_w1 L_w1
  have qS0 := S_w2.cell0
  have qS1 := S_w2.cell1
  have qS2 := S_w2.cell2
  have qS3 := S_w2.cell3
  have qL0 := L_w2.cell0
  have qL1 := L_w2.cell1
  have f0 := S_w2.frozen 0
  have f1 := S_w2.frozen 1
  have f2 := S_w2.frozen 2
  have f3 := S_w2.frozen 3
  go_wp2_with fail
  have S_s := box4_set (a' := .string (str t.cur.1)) (b' := .string (str t.cur.2)) (c' := .string (str t.clr.1)) (d' := .string (str t.clr.2)) S_w2
  have L_s : Box2 ((((w2.setCell ⟨w.heap.size, 0, none⟩ (.string (str t.cur.1))).setCell ⟨w.heap.size, 1, none⟩ (.string (str t.cur.2))).setCell ⟨w.heap.size, 2, none⟩ (.string (str t.clr.1))).setCell ⟨w.heap.size, 3, none⟩ (.string (str t.clr.2))) (w.heap.size + 1) 24 (.string (str l.1)) (.string (str l.2)) := other4 (by omega) L_w2 _ _ _ _
  have hs := below4 hB2 (show w.heap.size ≤ w.heap.size by omega) (.string (str t.cur.1)) (.string (str t.cur.2)) (.string (str t.clr.1)) (.string (str t.clr.2))
  clear qS0 qS1 qS2 qS3 qL0 qL1
  clear hB2 S_w2 L_w2 f0 f1 f2 f3
  generalize ((((w2.setCell ⟨w.heap.size, 0, none⟩ (.string (str t.cur.1))).setCell ⟨w.heap.size, 1, none⟩ (.string (str t.cur.2))).setCell ⟨w.heap.size, 2, none⟩ (.string (str t.clr.1))).setCell ⟨w.heap.size, 3, none⟩ (.string (str t.clr.2))) = w3 at hs S_s L_s ⊢
  have S_w3 := S_s
  have L_w3 := L_s
  have hB3 := hs
  clear hs S_s L_s
  have qS0 := S_w3.cell0
  have qS1 := S_w3.cell1
  have qS2 := S_w3.cell2
  have qS3 := S_w3.cell3
  have qL0 := L_w3.cell0
  have qL1 := L_w3.cell1
  go_wp2_with fail
  refine (HL.out _).mono ?_
  rintro e w4 ⟨rfl, hb4⟩
  clear qS0 qS1 qS2 qS3 qL0 qL1
  have S_w4 := S_w3.below hb4 S_w3.lt
  have L_w4 := L_w3.below hb4 L_w3.lt
  have hB4 := hB3.trans (hb4.mono hB3.size)
  clear hb4 hB3 S_w3 L_w3
  have qS0 := S_w4.cell0
  have qS1 := S_w4.cell1
  have qS2 := S_w4.cell2
  have qS3 := S_w4.cell3
  have qL0 := L_w4.cell0
  have qL1 := L_w4.cell1
  have f0 := L_w4.frozen 0
  have f1 := L_w4.frozen 1
  go_wp2_with fail
  have L_s := box2_set1 (q := .string (str a.2)) (box2_set0 (q := .string (str a.1)) L_w4)
  have S_s : Box4 ((w4.setCell ⟨(w.heap.size + 1), 0, none⟩ (.string (str a.1))).setCell ⟨(w.heap.size + 1), 1, none⟩ (.string (str a.2))) w.heap.size 26 (.string (str t.cur.1)) (.string (str t.cur.2)) (.string (str t.clr.1)) (.string (str t.clr.2)) := other2 (by omega) S_w4 _ _
  have hs := (hB4.setCell (p := ⟨(w.heap.size + 1), 0, none⟩) (show w.heap.size ≤ (w.heap.size + 1) by omega) (.string (str a.1))).setCell (p := ⟨(w.heap.size + 1), 1, none⟩) (show w.heap.size ≤ (w.heap.size + 1) by omega) (.string (str a.2))
  clear qS0 qS1 qS2 qS3 qL0 qL1
  clear hB4 S_w4 L_w4 f0 f1
  generalize ((w4.setCell ⟨(w.heap.size + 1), 0, none⟩ (.string (str a.1))).setCell ⟨(w.heap.size + 1), 1, none⟩ (.string (str a.2))) = w5 at hs S_s L_s ⊢
  have S_w5 := S_s
  have L_w5 := L_s
  have hB5 := hs
  clear hs S_s L_s
  have qS0 := S_w5.cell0
  have qS1 := S_w5.cell1
  have qS2 := S_w5.cell2
  have qS3 := S_w5.cell3
  have qL0 := L_w5.cell0
  have qL1 := L_w5.cell1
  go_wp2_with fail
  refine (HD.out _).mono ?_
  rintro e w6 ⟨rfl, hb6⟩
  clear qS0 qS1 qS2 qS3 qL0 qL1
  have S_w6 := S_w5.below hb6 S_w5.lt
  have L_w6 := L_w5.below hb6 L_w5.lt
  have hB6 := hB5.trans (hb6.mono hB5.size)
  clear hb6 hB5 S_w5 L_w5
  have S_w6a := S_w6.alloc (.cells #[.string (str d.cur.1), .string (str d.cur.2), .string (str d.clr.1), .string (str d.clr.2)] 26)
  have L_w6a := L_w6.alloc (.cells #[.string (str d.cur.1), .string (str d.cur.2), .string (str d.clr.1), .string (str d.clr.2)] 26)
  have D_w6a := Box4.new w6 26 (.string (str d.cur.1)) (.string (str d.cur.2)) (.string (str d.clr.1)) (.string (str d.clr.2))
  have hB6a := hB6.alloc hB6.size (.cells #[.string (str d.cur.1), .string (str d.cur.2), .string (str d.clr.1), .string (str d.clr.2)] 26)
  have qS0 := S_w6a.cell0
  have qS1 := S_w6a.cell1
  have qS2 := S_w6a.cell2
  have qS3 := S_w6a.cell3
  have qL0 := L_w6a.cell0
  have qL1 := L_w6a.cell1
  have qD0 := D_w6a.cell0
  have qD1 := D_w6a.cell1
  have qD2 := D_w6a.cell2
  have qD3 := D_w6a.cell3
  go_wp2_with fail
  refine (HV.out _).mono ?_
  rintro e w7 ⟨rfl, hb7⟩
  clear qS0 qS1 qS2 qS3 qL0 qL1 qD0 qD1 qD2 qD3
  have S_w7 := S_w6a.below hb7 S_w6a.lt
  have L_w7 := L_w6a.below hb7 L_w6a.lt
  have D_w7 := D_w6a.below hb7 D_w6a.lt
  have hB7 := hB6a.trans (hb7.mono hB6a.size)
  clear hb7 hB6a S_w6a L_w6a D_w6a
  have S_w7a := S_w7.alloc (.cells #[.string (str v.cur.1), .string (str v.cur.2), .string (str v.clr.1), .string (str v.clr.2)] 26)
  have L_w7a := L_w7.alloc (.cells #[.string (str v.cur.1), .string (str v.cur.2), .string (str v.clr.1), .string (str v.clr.2)] 26)
  have D_w7a := D_w7.alloc (.cells #[.string (str v.cur.1), .string (str v.cur.2), .string (str v.clr.1), .string (str v.clr.2)] 26)
  have V_w7a := Box4.new w7 26 (.string (str v.cur.1)) (.string (str v.cur.2)) (.string (str v.clr.1)) (.string (str v.clr.2))
  have hB7a := hB7.alloc hB7.size (.cells #[.string (str v.cur.1), .string (str v.cur.2), .string (str v.clr.1), .string (str v.clr.2)] 26)
  have qS0 := S_w7a.cell0
  have qS1 := S_w7a.cell1
  have qS2 := S_w7a.cell2
  have qS3 := S_w7a.cell3
  have qL0 := L_w7a.cell0
  have qL1 := L_w7a.cell1
  have qD0 := D_w7a.cell0
  have qD1 := D_w7a.cell1
  have qD2 := D_w7a.cell2
  have qD3 := D_w7a.cell3
  have qV0 := V_w7a.cell0
  have qV1 := V_w7a.cell1
  have qV2 := V_w7a.cell2
  have qV3 := V_w7a.cell3
  go_wp2_with fail
  refine (HN.out _).mono ?_
  rintro e w8 ⟨rfl, hb8⟩
  clear qS0 qS1 qS2 qS3 qL0 qL1 qD0 qD1 qD2 qD3 qV0 qV1 qV2 qV3
  have S_w8 := S_w7a.below hb8 S_w7a.lt
  have L_w8 := L_w7a.below hb8 L_w7a.lt
  have D_w8 := D_w7a.below hb8 D_w7a.lt
  have V_w8 := V_w7a.below hb8 V_w7a.lt
  have hB8 := hB7a.trans (hb8.mono hB7a.size)
  clear hb8 hB7a S_w7a L_w7a D_w7a V_w7a
  have S_w8a := S_w8.alloc (.cells #[.string (str n.cur.1), .string (str n.cur.2), .string (str n.clr.1), .string (str n.clr.2)] 26)
  have L_w8a := L_w8.alloc (.cells #[.string (str n.cur.1), .string (str n.cur.2), .string (str n.clr.1), .string (str n.clr.2)] 26)
  have D_w8a := D_w8.alloc (.cells #[.string (str n.cur.1), .string (str n.cur.2), .string (str n.clr.1), .string (str n.clr.2)] 26)
  have V_w8a := V_w8.alloc (.cells #[.string (str n.cur.1), .string (str n.cur.2), .string (str n.clr.1), .string (str n.clr.2)] 26)
  have N_w8a := Box4.new w8 26 (.string (str n.cur.1)) (.string (str n.cur.2)) (.string (str n.clr.1)) (.string (str n.clr.2))
  have hB8a := hB8.alloc hB8.size (.cells #[.string (str n.cur.1), .string (str n.cur.2), .string (str n.clr.1), .string (str n.clr.2)] 26)
  have qS0 := S_w8a.cell0
  have qS1 := S_w8a.cell1
  have qS2 := S_w8a.cell2
  have qS3 := S_w8a.cell3
  have qL0 := L_w8a.cell0
  have qL1 := L_w8a.cell1
  have qD0 := D_w8a.cell0
  have qD1 := D_w8a.cell1
  have qD2 := D_w8a.cell2
  have qD3 := D_w8a.cell3
  have qV0 := V_w8a.cell0
  have qV1 := V_w8a.cell1
  have qV2 := V_w8a.cell2
  have qV3 := V_w8a.cell3
  have qN0 := N_w8a.cell0
  have qN1 := N_w8a.cell1
  have qN2 := N_w8a.cell2
  have qN3 := N_w8a.cell3
  cases lg with
  | true =>
    have eex := (FD1.out rfl).1
    subst eex
    cases td with
    | true =>
      have elf := (FL1.out rfl).1
      subst elf
      have X1 := Lib.hid (FD2.out rfl)
      have X2 := Lib.hid (FL2.out rfl)
      have hn := (FD1.out rfl).2.1
      have X3 := Lib.hid (FD1.out rfl).2.2
      have X4 := Lib.hid (FL1.out rfl).2
      clear FD1 FD2 FL1 FL2 HD HV HN HF HL
      go_wp2_with fail
      refine (fb_p t.cur d.cur ok.1 okd.1 _ p rfl _).mono ?_
      rintro e w9 ⟨rfl, hb9⟩
      rw [X1.out]
      clear qS0 qS1 qS2 qS3 qL0 qL1 qD0 qD1 qD2 qD3 qV0 qV1 qV2 qV3 qN0 qN1 qN2 qN3
      have S_w9 := S_w8a.below hb9 S_w8a.lt
      have L_w9 := L_w8a.below hb9 L_w8a.lt
      have D_w9 := D_w8a.below hb9 D_w8a.lt
      have V_w9 := V_w8a.below hb9 V_w8a.lt
      have N_w9 := N_w8a.below hb9 N_w8a.lt
      have hB9 := hB8a.trans (hb9.mono hB8a.size)
      clear hb9 hB8a S_w8a L_w8a D_w8a V_w8a N_w8a
      have qS0 := S_w9.cell0
      have qS1 := S_w9.cell1
      have qS2 := S_w9.cell2
      have qS3 := S_w9.cell3
      have qL0 := L_w9.cell0
      have qL1 := L_w9.cell1
      have qD0 := D_w9.cell0
      have qD1 := D_w9.cell1
      have qD2 := D_w9.cell2
      have qD3 := D_w9.cell3
      have qV0 := V_w9.cell0
      have qV1 := V_w9.cell1
      have qV2 := V_w9.cell2
      have qV3 := V_w9.cell3
      have qN0 := N_w9.cell0
      have qN1 := N_w9.cell1
      have qN2 := N_w9.cell2
      have qN3 := N_w9.cell3
      go_wp2_with fail
      refine (fb_p v.clr t.clr okv.2 ok.2 _ p rfl _).mono ?_
      rintro e w10 ⟨rfl, hb10⟩
      rw [X2.out]
      clear qS0 qS1 qS2 qS3 qL0 qL1 qD0 qD1 qD2 qD3 qV0 qV1 qV2 qV3 qN0 qN1 qN2 qN3
      have S_w10 := S_w9.below hb10 S_w9.lt
      have L_w10 := L_w9.below hb10 L_w9.lt
      have D_w10 := D_w9.below hb10 D_w9.lt
      have V_w10 := V_w9.below hb10 V_w9.lt
      have N_w10 := N_w9.below hb10 N_w9.lt
      have hB10 := hB9.trans (hb10.mono hB9.size)
      clear hb10 hB9 S_w9 L_w9 D_w9 V_w9 N_w9
      have qS0 := S_w10.cell0
      have qS1 := S_w10.cell1
      have qS2 := S_w10.cell2
      have qS3 := S_w10.cell3
      have qL0 := L_w10.cell0
      have qL1 := L_w10.cell1
      have qD0 := D_w10.cell0
      have qD1 := D_w10.cell1
      have qD2 := D_w10.cell2
      have qD3 := D_w10.cell3
      have qV0 := V_w10.cell0
      have qV1 := V_w10.cell1
      have qV2 := V_w10.cell2
      have qV3 := V_w10.cell3
      have qN0 := N_w10.cell0
      have qN1 := N_w10.cell1
      have qN2 := N_w10.cell2
      have qN3 := N_w10.cell3
      go_wp2_with fail
      have kS0 := cell_regrown S_w10.cell0
      have kS1 := cell_regrown S_w10.cell1
      have kS2 := cell_regrown S_w10.cell2
      have kS3 := cell_regrown S_w10.cell3
      have kD0 := cell_regrown D_w10.cell0
      have kD1 := cell_regrown D_w10.cell1
      have kD2 := cell_regrown D_w10.cell2
      have kD3 := cell_regrown D_w10.cell3
      have kV0 := cell_regrown V_w10.cell0
      have kV1 := cell_regrown V_w10.cell1
      have kV2 := cell_regrown V_w10.cell2
      have kV3 := cell_regrown V_w10.cell3
      have r1 := quiet_call (w := w10) (v := .bool false) (fun W _ => (flows_p v.clr t.clr okv.2 ok.2 W).mono fun e w' ⟨he, hb⟩ => ⟨by rw [he, X4.out], hb⟩)
      have r2 := quiet_call (w := w10) (fun W _ => dr_p t.cur ok.1 _ p rfl W)
      have r3 := quiet_call (w := w10) (v := .bool true) (fun W _ => (flows_p (Lz.dr t.cur p) d.cur (okL_dr _ _) okd.1 W).mono fun e w' ⟨he, hb⟩ => ⟨by rw [he, X3.out], hb⟩)
      clear qS0 qS1 qS2 qS3 qL0 qL1 qD0 qD1 qD2 qD3 qV0 qV1 qV2 qV3 qN0 qN1 qN2 qN3
      refine wp_region_quiet_below mixed (by kernel_rfl) ?_
      repeat (go_big_quiet_step (fail))
      go_big_quiet_step (exact r1 _ _)
      repeat (go_big_quiet_step (fail))
      go_big_quiet_step (exact r2 _ _)
      repeat (go_big_quiet_step (fail))
      go_big_quiet_step (exact r3 _ _)
      repeat (go_big_quiet_step (fail))
      refine wpQuiet_nil ?_
      intro W1 hw'
      have hb9 := below_of_regrown hw'
      clear hw'
      go_wp2
      go_ret
      exact ⟨rfl, hB10.trans (hb9.mono hB10.size)⟩
    | false =>
      by_cases hlf : lf = 0
      · subst hlf
        have X1 := Lib.hid (FD2.out rfl)
        have X2 := Lib.hid (FL2.out rfl)
        have hn := (FD1.out rfl).2.1
        have X3 := Lib.hid (FD1.out rfl).2.2
        clear FD1 FD2 FL1 FL2 HD HV HN HF HL
        go_wp2_with fail
        refine (fb_p t.cur d.cur ok.1 okd.1 _ p rfl _).mono ?_
        rintro e w9 ⟨rfl, hb9⟩
        rw [X1.out]
        clear qS0 qS1 qS2 qS3 qL0 qL1 qD0 qD1 qD2 qD3 qV0 qV1 qV2 qV3 qN0 qN1 qN2 qN3
        have S_w9 := S_w8a.below hb9 S_w8a.lt
        have L_w9 := L_w8a.below hb9 L_w8a.lt
        have D_w9 := D_w8a.below hb9 D_w8a.lt
        have V_w9 := V_w8a.below hb9 V_w8a.lt
        have N_w9 := N_w8a.below hb9 N_w8a.lt
        have hB9 := hB8a.trans (hb9.mono hB8a.size)
        clear hb9 hB8a S_w8a L_w8a D_w8a V_w8a N_w8a
        have qS0 := S_w9.cell0
        have qS1 := S_w9.cell1
        have qS2 := S_w9.cell2
        have qS3 := S_w9.cell3
        have qL0 := L_w9.cell0
        have qL1 := L_w9.cell1
        have qD0 := D_w9.cell0
        have qD1 := D_w9.cell1
        have qD2 := D_w9.cell2
        have qD3 := D_w9.cell3
        have qV0 := V_w9.cell0
        have qV1 := V_w9.cell1
        have qV2 := V_w9.cell2
        have qV3 := V_w9.cell3
        have qN0 := N_w9.cell0
        have qN1 := N_w9.cell1
        have qN2 := N_w9.cell2
        have qN3 := N_w9.cell3
        go_wp2_with fail
        refine (fb_p v.clr t.clr okv.2 ok.2 _ p rfl _).mono ?_
        rintro e w10 ⟨rfl, hb10⟩
        rw [X2.out]
        clear qS0 qS1 qS2 qS3 qL0 qL1 qD0 qD1 qD2 qD3 qV0 qV1 qV2 qV3 qN0 qN1 qN2 qN3
        have S_w10 := S_w9.below hb10 S_w9.lt
        have L_w10 := L_w9.below hb10 L_w9.lt
        have D_w10 := D_w9.below hb10 D_w9.lt
        have V_w10 := V_w9.below hb10 V_w9.lt
        have N_w10 := N_w9.below hb10 N_w9.lt
        have hB10 := hB9.trans (hb10.mono hB9.size)
        clear hb10 hB9 S_w9 L_w9 D_w9 V_w9 N_w9
        have qS0 := S_w10.cell0
        have qS1 := S_w10.cell1
        have qS2 := S_w10.cell2
        have qS3 := S_w10.cell3
        have qL0 := L_w10.cell0
        have qL1 := L_w10.cell1
        have qD0 := D_w10.cell0
        have qD1 := D_w10.cell1
        have qD2 := D_w10.cell2
        have qD3 := D_w10.cell3
        have qV0 := V_w10.cell0
        have qV1 := V_w10.cell1
        have qV2 := V_w10.cell2
        have qV3 := V_w10.cell3
        have qN0 := N_w10.cell0
        have qN1 := N_w10.cell1
        have qN2 := N_w10.cell2
        have qN3 := N_w10.cell3
        go_wp2_with fail
        have kS0 := cell_regrown S_w10.cell0
        have kS1 := cell_regrown S_w10.cell1
        have kS2 := cell_regrown S_w10.cell2
        have kS3 := cell_regrown S_w10.cell3
        have kD0 := cell_regrown D_w10.cell0
        have kD1 := cell_regrown D_w10.cell1
        have kD2 := cell_regrown D_w10.cell2
        have kD3 := cell_regrown D_w10.cell3
        have kV0 := cell_regrown V_w10.cell0
        have kV1 := cell_regrown V_w10.cell1
        have kV2 := cell_regrown V_w10.cell2
        have kV3 := cell_regrown V_w10.cell3
        have r2 := quiet_call (w := w10) (fun W _ => dr_p t.cur ok.1 _ p rfl W)
        have r3 := quiet_call (w := w10) (v := .bool true) (fun W _ => (flows_p (Lz.dr t.cur p) d.cur (okL_dr _ _) okd.1 W).mono fun e w' ⟨he, hb⟩ => ⟨by rw [he, X3.out], hb⟩)
        clear qS0 qS1 qS2 qS3 qL0 qL1 qD0 qD1 qD2 qD3 qV0 qV1 qV2 qV3 qN0 qN1 qN2 qN3
        refine wp_region_quiet_below mixed (by kernel_rfl) ?_
        repeat (go_big_quiet_step (fail))
        go_big_quiet_step (exact r2 _ _)
        repeat (go_big_quiet_step (fail))
        go_big_quiet_step (exact r3 _ _)
        repeat (go_big_quiet_step (fail))
        refine wpQuiet_nil ?_
        intro W1 hw'
        have hb9 := below_of_regrown hw'
        clear hw'
        go_wp2
        go_ret
        exact ⟨rfl, hB10.trans (hb9.mono hB10.size)⟩
      · skip
        have X1 := Lib.hid (FD2.out rfl)
        have hn := (FD1.out rfl).2.1
        have X3 := Lib.hid (FD1.out rfl).2.2
        clear FD1 FD2 FL1 FL2 HD HV HN HF HL
        go_wp2_with fail
        refine (fb_p t.cur d.cur ok.1 okd.1 _ p rfl _).mono ?_
        rintro e w9 ⟨rfl, hb9⟩
        rw [X1.out]
        clear qS0 qS1 qS2 qS3 qL0 qL1 qD0 qD1 qD2 qD3 qV0 qV1 qV2 qV3 qN0 qN1 qN2 qN3
        have S_w9 := S_w8a.below hb9 S_w8a.lt
        have L_w9 := L_w8a.below hb9 L_w8a.lt
        have D_w9 := D_w8a.below hb9 D_w8a.lt
        have V_w9 := V_w8a.below hb9 V_w8a.lt
        have N_w9 := N_w8a.below hb9 N_w8a.lt
        have hB9 := hB8a.trans (hb9.mono hB8a.size)
        clear hb9 hB8a S_w8a L_w8a D_w8a V_w8a N_w8a
        have qS0 := S_w9.cell0
        have qS1 := S_w9.cell1
        have qS2 := S_w9.cell2
        have qS3 := S_w9.cell3
        have qL0 := L_w9.cell0
        have qL1 := L_w9.cell1
        have qD0 := D_w9.cell0
        have qD1 := D_w9.cell1
        have qD2 := D_w9.cell2
        have qD3 := D_w9.cell3
        have qV0 := V_w9.cell0
        have qV1 := V_w9.cell1
        have qV2 := V_w9.cell2
        have qV3 := V_w9.cell3
        have qN0 := N_w9.cell0
        have qN1 := N_w9.cell1
        have qN2 := N_w9.cell2
        have qN3 := N_w9.cell3
        go_wp2_with fail
        have kS0 := cell_regrown S_w9.cell0
        have kS1 := cell_regrown S_w9.cell1
        have kS2 := cell_regrown S_w9.cell2
        have kS3 := cell_regrown S_w9.cell3
        have kD0 := cell_regrown D_w9.cell0
        have kD1 := cell_regrown D_w9.cell1
        have kD2 := cell_regrown D_w9.cell2
        have kD3 := cell_regrown D_w9.cell3
        have kV0 := cell_regrown V_w9.cell0
        have kV1 := cell_regrown V_w9.cell1
        have kV2 := cell_regrown V_w9.cell2
        have kV3 := cell_regrown V_w9.cell3
        have r2 := quiet_call (w := w9) (fun W _ => dr_p t.cur ok.1 _ p rfl W)
        have r3 := quiet_call (w := w9) (v := .bool true) (fun W _ => (flows_p (Lz.dr t.cur p) d.cur (okL_dr _ _) okd.1 W).mono fun e w' ⟨he, hb⟩ => ⟨by rw [he, X3.out], hb⟩)
        clear qS0 qS1 qS2 qS3 qL0 qL1 qD0 qD1 qD2 qD3 qV0 qV1 qV2 qV3 qN0 qN1 qN2 qN3
        refine wp_region_quiet_below mixed (by kernel_rfl) ?_
        repeat (go_big_quiet_step (fail))
        go_big_quiet_step (exact r2 _ _)
        repeat (go_big_quiet_step (fail))
        go_big_quiet_step (exact r3 _ _)
        repeat (go_big_quiet_step (fail))
        refine wpQuiet_nil ?_
        intro W1 hw'
        have hb9 := below_of_regrown hw'
        clear hw'
        go_wp2
        go_ret
        exact ⟨rfl, hB9.trans (hb9.mono hB9.size)⟩
  | false =>
    by_cases hex : ex = 0
    · subst hex
      cases td with
      | true =>
        have elf := (FL1.out rfl).1
        subst elf
        have X1 := Lib.hid (FD2.out rfl)
        have X2 := Lib.hid (FL2.out rfl)
        have X4 := Lib.hid (FL1.out rfl).2
        clear FD1 FD2 FL1 FL2 HD HV HN HF HL
        go_wp2_with fail
        refine (fb_p t.cur d.cur ok.1 okd.1 _ p rfl _).mono ?_
        rintro e w9 ⟨rfl, hb9⟩
        rw [X1.out]
        clear qS0 qS1 qS2 qS3 qL0 qL1 qD0 qD1 qD2 qD3 qV0 qV1 qV2 qV3 qN0 qN1 qN2 qN3
        have S_w9 := S_w8a.below hb9 S_w8a.lt
        have L_w9 := L_w8a.below hb9 L_w8a.lt
        have D_w9 := D_w8a.below hb9 D_w8a.lt
        have V_w9 := V_w8a.below hb9 V_w8a.lt
        have N_w9 := N_w8a.below hb9 N_w8a.lt
        have hB9 := hB8a.trans (hb9.mono hB8a.size)
        clear hb9 hB8a S_w8a L_w8a D_w8a V_w8a N_w8a
        have qS0 := S_w9.cell0
        have qS1 := S_w9.cell1
        have qS2 := S_w9.cell2
        have qS3 := S_w9.cell3
        have qL0 := L_w9.cell0
        have qL1 := L_w9.cell1
        have qD0 := D_w9.cell0
        have qD1 := D_w9.cell1
        have qD2 := D_w9.cell2
        have qD3 := D_w9.cell3
        have qV0 := V_w9.cell0
        have qV1 := V_w9.cell1
        have qV2 := V_w9.cell2
        have qV3 := V_w9.cell3
        have qN0 := N_w9.cell0
        have qN1 := N_w9.cell1
        have qN2 := N_w9.cell2
        have qN3 := N_w9.cell3
        go_wp2_with fail
        refine (fb_p v.clr t.clr okv.2 ok.2 _ p rfl _).mono ?_
        rintro e w10 ⟨rfl, hb10⟩
        rw [X2.out]
        clear qS0 qS1 qS2 qS3 qL0 qL1 qD0 qD1 qD2 qD3 qV0 qV1 qV2 qV3 qN0 qN1 qN2 qN3
        have S_w10 := S_w9.below hb10 S_w9.lt
        have L_w10 := L_w9.below hb10 L_w9.lt
        have D_w10 := D_w9.below hb10 D_w9.lt
        have V_w10 := V_w9.below hb10 V_w9.lt
        have N_w10 := N_w9.below hb10 N_w9.lt
        have hB10 := hB9.trans (hb10.mono hB9.size)
        clear hb10 hB9 S_w9 L_w9 D_w9 V_w9 N_w9
        have qS0 := S_w10.cell0
        have qS1 := S_w10.cell1
        have qS2 := S_w10.cell2
        have qS3 := S_w10.cell3
        have qL0 := L_w10.cell0
        have qL1 := L_w10.cell1
        have qD0 := D_w10.cell0
        have qD1 := D_w10.cell1
        have qD2 := D_w10.cell2
        have qD3 := D_w10.cell3
        have qV0 := V_w10.cell0
        have qV1 := V_w10.cell1
        have qV2 := V_w10.cell2
        have qV3 := V_w10.cell3
        have qN0 := N_w10.cell0
        have qN1 := N_w10.cell1
        have qN2 := N_w10.cell2
        have qN3 := N_w10.cell3
        go_wp2_with fail
        have kS0 := cell_regrown S_w10.cell0
        have kS1 := cell_regrown S_w10.cell1
        have kS2 := cell_regrown S_w10.cell2
        have kS3 := cell_regrown S_w10.cell3
        have kD0 := cell_regrown D_w10.cell0
        have kD1 := cell_regrown D_w10.cell1
        have kD2 := cell_regrown D_w10.cell2
        have kD3 := cell_regrown D_w10.cell3
        have kV0 := cell_regrown V_w10.cell0
        have kV1 := cell_regrown V_w10.cell1
        have kV2 := cell_regrown V_w10.cell2
        have kV3 := cell_regrown V_w10.cell3
        have r1 := quiet_call (w := w10) (v := .bool false) (fun W _ => (flows_p v.clr t.clr okv.2 ok.2 W).mono fun e w' ⟨he, hb⟩ => ⟨by rw [he, X4.out], hb⟩)
        clear qS0 qS1 qS2 qS3 qL0 qL1 qD0 qD1 qD2 qD3 qV0 qV1 qV2 qV3 qN0 qN1 qN2 qN3
        refine wp_region_quiet_below mixed (by kernel_rfl) ?_
        repeat (go_big_quiet_step (fail))
        go_big_quiet_step (exact r1 _ _)
        repeat (go_big_quiet_step (fail))
        refine wpQuiet_nil ?_
        intro W1 hw'
        have hb9 := below_of_regrown hw'
        clear hw'
        go_wp2
        go_ret
        exact ⟨rfl, hB10.trans (hb9.mono hB10.size)⟩
      | false =>
        by_cases hlf : lf = 0
        · subst hlf
          have X1 := Lib.hid (FD2.out rfl)
          have X2 := Lib.hid (FL2.out rfl)
          clear FD1 FD2 FL1 FL2 HD HV HN HF HL
          go_wp2_with fail
          refine (fb_p t.cur d.cur ok.1 okd.1 _ p rfl _).mono ?_
          rintro e w9 ⟨rfl, hb9⟩
          rw [X1.out]
          clear qS0 qS1 qS2 qS3 qL0 qL1 qD0 qD1 qD2 qD3 qV0 qV1 qV2 qV3 qN0 qN1 qN2 qN3
          have S_w9 := S_w8a.below hb9 S_w8a.lt
          have L_w9 := L_w8a.below hb9 L_w8a.lt
          have D_w9 := D_w8a.below hb9 D_w8a.lt
          have V_w9 := V_w8a.below hb9 V_w8a.lt
          have N_w9 := N_w8a.below hb9 N_w8a.lt
          have hB9 := hB8a.trans (hb9.mono hB8a.size)
          clear hb9 hB8a S_w8a L_w8a D_w8a V_w8a N_w8a
          have qS0 := S_w9.cell0
          have qS1 := S_w9.cell1
          have qS2 := S_w9.cell2
          have qS3 := S_w9.cell3
          have qL0 := L_w9.cell0
          have qL1 := L_w9.cell1
          have qD0 := D_w9.cell0
          have qD1 := D_w9.cell1
          have qD2 := D_w9.cell2
          have qD3 := D_w9.cell3
          have qV0 := V_w9.cell0
          have qV1 := V_w9.cell1
          have qV2 := V_w9.cell2
          have qV3 := V_w9.cell3
          have qN0 := N_w9.cell0
          have qN1 := N_w9.cell1
          have qN2 := N_w9.cell2
          have qN3 := N_w9.cell3
          go_wp2_with fail
          refine (fb_p v.clr t.clr okv.2 ok.2 _ p rfl _).mono ?_
          rintro e w10 ⟨rfl, hb10⟩
          rw [X2.out]
          clear qS0 qS1 qS2 qS3 qL0 qL1 qD0 qD1 qD2 qD3 qV0 qV1 qV2 qV3 qN0 qN1 qN2 qN3
          have S_w10 := S_w9.below hb10 S_w9.lt
          have L_w10 := L_w9.below hb10 L_w9.lt
          have D_w10 := D_w9.below hb10 D_w9.lt
          have V_w10 := V_w9.below hb10 V_w9.lt
          have N_w10 := N_w9.below hb10 N_w9.lt
          have hB10 := hB9.trans (hb10.mono hB9.size)
          clear hb10 hB9 S_w9 L_w9 D_w9 V_w9 N_w9
          have qS0 := S_w10.cell0
          have qS1 := S_w10.cell1
          have qS2 := S_w10.cell2
          have qS3 := S_w10.cell3
          have qL0 := L_w10.cell0
          have qL1 := L_w10.cell1
          have qD0 := D_w10.cell0
          have qD1 := D_w10.cell1
          have qD2 := D_w10.cell2
          have qD3 := D_w10.cell3
          have qV0 := V_w10.cell0
          have qV1 := V_w10.cell1
          have qV2 := V_w10.cell2
          have qV3 := V_w10.cell3
          have qN0 := N_w10.cell0
          have qN1 := N_w10.cell1
          have qN2 := N_w10.cell2
          have qN3 := N_w10.cell3
          go_wp2_with fail
          clear qS0 qS1 qS2 qS3 qL0 qL1 qD0 qD1 qD2 qD3 qV0 qV1 qV2 qV3 qN0 qN1 qN2 qN3
          refine wp_region_quiet_below mixed (by kernel_rfl) ?_
          repeat (go_big_quiet_step (fail))
          refine wpQuiet_nil ?_
          intro W1 hw'
          have hb9 := below_of_regrown hw'
          clear hw'
          go_wp2
          go_ret
          exact ⟨rfl, hB10.trans (hb9.mono hB10.size)⟩
        · skip
          have X1 := Lib.hid (FD2.out rfl)
          clear FD1 FD2 FL1 FL2 HD HV HN HF HL
          go_wp2_with fail
          refine (fb_p t.cur d.cur ok.1 okd.1 _ p rfl _).mono ?_
          rintro e w9 ⟨rfl, hb9⟩
          rw [X1.out]
          clear qS0 qS1 qS2 qS3 qL0 qL1 qD0 qD1 qD2 qD3 qV0 qV1 qV2 qV3 qN0 qN1 qN2 qN3
          have S_w9 := S_w8a.below hb9 S_w8a.lt
          have L_w9 := L_w8a.below hb9 L_w8a.lt
          have D_w9 := D_w8a.below hb9 D_w8a.lt
          have V_w9 := V_w8a.below hb9 V_w8a.lt
          have N_w9 := N_w8a.below hb9 N_w8a.lt
          have hB9 := hB8a.trans (hb9.mono hB8a.size)
          clear hb9 hB8a S_w8a L_w8a D_w8a V_w8a N_w8a
          have qS0 := S_w9.cell0
          have qS1 := S_w9.cell1
          have qS2 := S_w9.cell2
          have qS3 := S_w9.cell3
          have qL0 := L_w9.cell0
          have qL1 := L_w9.cell1
          have qD0 := D_w9.cell0
          have qD1 := D_w9.cell1
          have qD2 := D_w9.cell2
          have qD3 := D_w9.cell3
          have qV0 := V_w9.cell0
          have qV1 := V_w9.cell1
          have qV2 := V_w9.cell2
          have qV3 := V_w9.cell3
          have qN0 := N_w9.cell0
          have qN1 := N_w9.cell1
          have qN2 := N_w9.cell2
          have qN3 := N_w9.cell3
          go_wp2_with fail
          clear qS0 qS1 qS2 qS3 qL0 qL1 qD0 qD1 qD2 qD3 qV0 qV1 qV2 qV3 qN0 qN1 qN2 qN3
          refine wp_region_quiet_below mixed (by kernel_rfl) ?_
          repeat (go_big_quiet_step (fail))
          refine wpQuiet_nil ?_
          intro W1 hw'
          have hb9 := below_of_regrown hw'
          clear hw'
          go_wp2
          go_ret
          exact ⟨rfl, hB9.trans (hb9.mono hB9.size)⟩
    · skip
      cases td with
      | true =>
        have elf := (FL1.out rfl).1
        subst elf
        have X2 := Lib.hid (FL2.out rfl)
        have X4 := Lib.hid (FL1.out rfl).2
        clear FD1 FD2 FL1 FL2 HD HV HN HF HL
        go_wp2_with fail
        refine (fb_p v.clr t.clr okv.2 ok.2 _ p rfl _).mono ?_
        rintro e w9 ⟨rfl, hb9⟩
        rw [X2.out]
        clear qS0 qS1 qS2 qS3 qL0 qL1 qD0 qD1 qD2 qD3 qV0 qV1 qV2 qV3 qN0 qN1 qN2 qN3
        have S_w9 := S_w8a.below hb9 S_w8a.lt
        have L_w9 := L_w8a.below hb9 L_w8a.lt
        have D_w9 := D_w8a.below hb9 D_w8a.lt
        have V_w9 := V_w8a.below hb9 V_w8a.lt
        have N_w9 := N_w8a.below hb9 N_w8a.lt
        have hB9 := hB8a.trans (hb9.mono hB8a.size)
        clear hb9 hB8a S_w8a L_w8a D_w8a V_w8a N_w8a
        have qS0 := S_w9.cell0
        have qS1 := S_w9.cell1
        have qS2 := S_w9.cell2
        have qS3 := S_w9.cell3
        have qL0 := L_w9.cell0
        have qL1 := L_w9.cell1
        have qD0 := D_w9.cell0
        have qD1 := D_w9.cell1
        have qD2 := D_w9.cell2
        have qD3 := D_w9.cell3
        have qV0 := V_w9.cell0
        have qV1 := V_w9.cell1
        have qV2 := V_w9.cell2
        have qV3 := V_w9.cell3
        have qN0 := N_w9.cell0
        have qN1 := N_w9.cell1
        have qN2 := N_w9.cell2
        have qN3 := N_w9.cell3
        go_wp2_with fail
        have kS0 := cell_regrown S_w9.cell0
        have kS1 := cell_regrown S_w9.cell1
        have kS2 := cell_regrown S_w9.cell2
        have kS3 := cell_regrown S_w9.cell3
        have kD0 := cell_regrown D_w9.cell0
        have kD1 := cell_regrown D_w9.cell1
        have kD2 := cell_regrown D_w9.cell2
        have kD3 := cell_regrown D_w9.cell3
        have kV0 := cell_regrown V_w9.cell0
        have kV1 := cell_regrown V_w9.cell1
        have kV2 := cell_regrown V_w9.cell2
        have kV3 := cell_regrown V_w9.cell3
        have r1 := quiet_call (w := w9) (v := .bool false) (fun W _ => (flows_p v.clr t.clr okv.2 ok.2 W).mono fun e w' ⟨he, hb⟩ => ⟨by rw [he, X4.out], hb⟩)
        clear qS0 qS1 qS2 qS3 qL0 qL1 qD0 qD1 qD2 qD3 qV0 qV1 qV2 qV3 qN0 qN1 qN2 qN3
        refine wp_region_quiet_below mixed (by kernel_rfl) ?_
        repeat (go_big_quiet_step (fail))
        go_big_quiet_step (exact r1 _ _)
        repeat (go_big_quiet_step (fail))
        refine wpQuiet_nil ?_
        intro W1 hw'
        have hb9 := below_of_regrown hw'
        clear hw'
        go_wp2
        go_ret
        exact ⟨rfl, hB9.trans (hb9.mono hB9.size)⟩
      | false =>
        by_cases hlf : lf = 0
        · subst hlf
          have X2 := Lib.hid (FL2.out rfl)
          clear FD1 FD2 FL1 FL2 HD HV HN HF HL
          go_wp2_with fail
          refine (fb_p v.clr t.clr okv.2 ok.2 _ p rfl _).mono ?_
          rintro e w9 ⟨rfl, hb9⟩
          rw [X2.out]
          clear qS0 qS1 qS2 qS3 qL0 qL1 qD0 qD1 qD2 qD3 qV0 qV1 qV2 qV3 qN0 qN1 qN2 qN3
          have S_w9 := S_w8a.below hb9 S_w8a.lt
          have L_w9 := L_w8a.below hb9 L_w8a.lt
          have D_w9 := D_w8a.below hb9 D_w8a.lt
          have V_w9 := V_w8a.below hb9 V_w8a.lt
          have N_w9 := N_w8a.below hb9 N_w8a.lt
          have hB9 := hB8a.trans (hb9.mono hB8a.size)
          clear hb9 hB8a S_w8a L_w8a D_w8a V_w8a N_w8a
          have qS0 := S_w9.cell0
          have qS1 := S_w9.cell1
          have qS2 := S_w9.cell2
          have qS3 := S_w9.cell3
          have qL0 := L_w9.cell0
          have qL1 := L_w9.cell1
          have qD0 := D_w9.cell0
          have qD1 := D_w9.cell1
          have qD2 := D_w9.cell2
          have qD3 := D_w9.cell3
          have qV0 := V_w9.cell0
          have qV1 := V_w9.cell1
          have qV2 := V_w9.cell2
          have qV3 := V_w9.cell3
          have qN0 := N_w9.cell0
          have qN1 := N_w9.cell1
          have qN2 := N_w9.cell2
          have qN3 := N_w9.cell3
          go_wp2_with fail
          clear qS0 qS1 qS2 qS3 qL0 qL1 qD0 qD1 qD2 qD3 qV0 qV1 qV2 qV3 qN0 qN1 qN2 qN3
          refine wp_region_quiet_below mixed (by kernel_rfl) ?_
          repeat (go_big_quiet_step (fail))
          refine wpQuiet_nil ?_
          intro W1 hw'
          have hb9 := below_of_regrown hw'
          clear hw'
          go_wp2
          go_ret
          exact ⟨rfl, hB9.trans (hb9.mono hB9.size)⟩
        · skip
          clear FD1 FD2 FL1 FL2 HD HV HN HF HL
          go_wp2_with fail
          clear qS0 qS1 qS2 qS3 qL0 qL1 qD0 qD1 qD2 qD3 qV0 qV1 qV2 qV3 qN0 qN1 qN2 qN3
          refine wp_region_quiet_below mixed (by kernel_rfl) ?_
          repeat (go_big_quiet_step (fail))
          refine wpQuiet_nil ?_
          intro W1 hw'
          have hb9 := below_of_regrown hw'
          clear hw'
          go_wp2
          go_ret
          exact ⟨rfl, hB8a.trans (hb9.mono hB8a.size)⟩
theorem walkGuardLeaks (a b c e : ByteArray) (ha : a.size ≤ maxLen) (hb : b.size ≤ maxLen) (hc : c.size ≤ maxLen) (he : e.size ≤ maxLen) (l i : ByteArray) (hl : l.size ≤ maxLen) (hi : i.size ≤ maxLen) (y : Int) (hy : (Lit.int .u8 y).wf = true) (w : World) :
    Calls Try.prog 7 #[.agg #[.string a, .string b, .string c, .string e], .agg #[.string l, .string i], .int .u8 y] w fun e w' => e = .returned (.bool true) ∧ Below w.heap.size w w' := by
  obtain ⟨p, rfl⟩ := u8_of hy
  exact walkPGuardLeaks ⟨(a.data.toList, b.data.toList), (c.data.toList, e.data.toList)⟩ (l.data.toList, i.data.toList) p ⟨ha, hb, hc, he⟩ hl hi w
end Go.Proofs.Ytnnnnlnnohdidaa
