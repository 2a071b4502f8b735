/- The walk of LabelBack. Conditions: the sizes of what came in; the table of letters holds its text. -/
import Derived.Test.YtiagoiannccdmaaDoorLabPre3
import Derived.Test.YtiagoiannccdmaaDoorEx3
import Derived.Test.YtiagoiannccdmaaDoorLabelGet
import Derived.BigQuiet
namespace Go.Proofs.YtiagoiannccdmaaDoor
open Go.RowKit Go.Shelf
attribute [local go_sem] str_list str_size str_cat
attribute [local go_sem high] eql_label neq_label
set_option maxRecDepth 100000 in
set_option maxHeartbeats 8000000 in
theorem walkPLabelBack (a : Lz.Lab) (ha1 : a.1.length ≤ maxLen) (ha2 : a.2.length ≤ maxLen) (b : Lz.Lab) (hb1 : b.1.length ≤ maxLen) (hb2 : b.2.length ≤ maxLen) (X : List UInt8) (hX : X.length ≤ 140737488351232) (Y : List UInt8) (hY : Y.length ≤ 140737488351232) (w : World) (hL : Letters w) :
    Calls Tryd.prog 8 #[pv a, pv b, .string (str X), .string (str Y)] w fun e w' => e = .returned (.bool true) ∧ Below w.heap.size w w' := by
  have mixed := mixedOrders
  have HL := Lib.hid hL
  clear hL
  have HSa := Lib.hid (small_p a ha1 ha2)
  have oka := okL_sm a
  generalize hsa : sm a = qa at HSa oka
  clear hsa
  have HSb := Lib.hid (small_p b hb1 hb2)
  have okb := okL_sm b
  generalize hsb : sm b = qb at HSb okb
  clear hsb
  obtain ⟨na, hna⟩ : ∃ na, Lz.nrm qa = na := ⟨_, rfl⟩
  have okna : okL na := by rw [← hna]; exact okL_nrm _
  obtain ⟨nb, hnb⟩ : ∃ nb, Lz.nrm qb = nb := ⟨_, rfl⟩
  have oknb : okL nb := by rw [← hnb]; exact okL_nrm _
  obtain ⟨p, hp⟩ : ∃ p, putLb qa = p := ⟨_, rfl⟩
  obtain ⟨q, hq⟩ : ∃ q, putLb qb = q := ⟨_, rfl⟩
  obtain ⟨t, ht⟩ : ∃ t, textLb qa = t := ⟨_, rfl⟩
  obtain ⟨u, hu⟩ : ∃ u, textLb qb = u := ⟨_, rfl⟩
  obtain ⟨S, hS⟩ : ∃ S, X ++ (p ++ (q ++ Y)) = S := ⟨_, rfl⟩
  obtain ⟨N1, hN1⟩ : ∃ N1, X.length + p.length = N1 := ⟨_, rfl⟩
  obtain ⟨N2, hN2⟩ : ∃ N2, N1 + q.length = N2 := ⟨_, rfl⟩
  have lt : t.length ≤ 2001 := by rw [← ht]; exact textLb_len _
  have lp : p.length ≤ 130 := by rw [← hp]; exact putLb_len _
  have lq : q.length ≤ 130 := by rw [← hq]; exact putLb_len _
  have lS : S.length = X.length + p.length + q.length + Y.length := by rw [← hS]; simp; omega
  have H1 := Lib.hid (show putLb qa = p from hp)
  have H2 := Lib.hid (show putLb qb = q from hq)
  have H3 := Lib.hid (show X ++ (p ++ (q ++ Y)) = S from hS)
  have H4 := Lib.hid (show getLb S (X.length : Int) = (na, (N1 : Int), true) from by have h := getLb_putLb X qa (q ++ Y); rw [hp, List.append_assoc, hS, hna] at h; rw [h, ← hN1]; simp)
  have H5 := Lib.hid (show getLb S (N1 : Int) = (nb, (N2 : Int), true) from by have h := getLb_putLb (X ++ p) qb Y; rw [hq, List.append_assoc, List.append_assoc, hS, hnb, List.length_append, hN1] at h; rw [h, ← hN2]; simp)
  have H6 := Lib.hid (show textLb qa = t from ht)
  have H7 := Lib.hid (show parseLb t = (na, true) from by rw [← ht, ← hna]; exact parseLb_textLb _)
  have H8 := Lib.hid (show Lz.nrm qa = na from hna)
  have H9 := Lib.hid (show Lz.nrm qb = nb from hnb)
  have H10 := Lib.hid (show textLb qb = u from hu)
  have TU := Lib.hid (show (t == u) = (na == nb) from by rw [← ht, ← hu, ← hna, ← hnb]; exact textLb_iff _ _)
  have PQ := Lib.hid (show (p == q) = (na == nb) from by rw [← hp, ← hq, ← hna, ← hnb]; exact putLb_iff _ _)
  have hend : ((N2 : Int) == (S.length : Int) - (Y.length : Int)) = true := by rw [beq_iff_eq]; omega
  have i1 : Y.length ≤ S.length := by omega
  have i2 : S.length ≤ 281474976702464 + 1000 := by omega
  have i3 : S.length ≤ maxLen := by unfold maxLen; omega
  have j1 : (X ++ p).length ≤ 140737488351232 + 130 := by rw [List.length_append]; omega
  have j2 : (X ++ (p ++ q)).length ≤ 140737488351232 + 260 := by rw [List.length_append, List.length_append]; omega
  clear hna hnb hp hq ht hu hS hN1 hN2 lS
  obtain ⟨A_0, B_0, hB0⟩ := alloc2P w a b
  have qA0 := A_0.cell0
  have qA1 := A_0.cell1
  have qB0 := B_0.cell0
  have qB1 := B_0.cell1
  go_enter Tryd.func8, Tryd.ntmps8
  go_wp2_with fail
  generalize ((w.alloc (.cells #[.string (str a.1), .string (str a.2)] 24)).alloc (.cells #[.string (str b.1), .string (str b.2)] 24)) = w0 at *
  have HEX := Lib.hid (fun W hL => examples3_any W hL)
  refine (HEX.out _ (HL.out.behind hB0)).mono ?_
  rintro e w1 ⟨rfl, hb1⟩
  clear qA0 qA1 qB0 qB1
  have A_1 := A_0.below hb1 A_0.lt
  have B_1 := B_0.below hb1 B_0.lt
  have hB1 := hB0.trans (hb1.mono hB0.size)
  clear hb1 hB0 A_0 B_0
  have qA0 := A_1.cell0
  have qA1 := A_1.cell1
  have qB0 := B_1.cell0
  have qB1 := B_1.cell1
  go_wp2_with fail
  refine (HSa.out _).mono ?_
  rintro e w2 ⟨rfl, hb2⟩
  clear qA0 qA1 qB0 qB1
  have A_2 := A_1.below hb2 A_1.lt
  have B_2 := B_1.below hb2 B_1.lt
  have hB2 := hB1.trans (hb2.mono hB1.size)
  clear hb2 hB1 A_1 B_1
  have qA0 := A_2.cell0
  have qA1 := A_2.cell1
  have qB0 := B_2.cell0
  have qB1 := B_2.cell1
  have f0 := A_2.frozen 0
  have f1 := A_2.frozen 1
  go_wp2_with fail
  have A_s : BoxL ((w2.setCell ⟨w.heap.size, 0, none⟩ (.string (str qa.1))).setCell ⟨w.heap.size, 1, none⟩ (.string (str qa.2))) w.heap.size qa := box2_set1 (box2_set0 A_2)
  have B_s : BoxL ((w2.setCell ⟨w.heap.size, 0, none⟩ (.string (str qa.1))).setCell ⟨w.heap.size, 1, none⟩ (.string (str qa.2))) (w.heap.size + 1) b := other2 (by omega) B_2 _ _
  have hs := (hB2.setCell (p := ⟨w.heap.size, 0, none⟩) (show w.heap.size ≤ w.heap.size by omega) (.string (str qa.1))).setCell (p := ⟨w.heap.size, 1, none⟩) (show w.heap.size ≤ w.heap.size by omega) (.string (str qa.2))
  clear qA0 qA1 qB0 qB1 f0 f1 hB2 A_2 B_2
  generalize ((w2.setCell ⟨w.heap.size, 0, none⟩ (.string (str qa.1))).setCell ⟨w.heap.size, 1, none⟩ (.string (str qa.2))) = w3 at hs A_s B_s ⊢
  have A_3 := A_s
  have B_3 := B_s
  have hB3 := hs
  clear hs A_s B_s
  have qA0 := A_3.cell0
  have qA1 := A_3.cell1
  have qB0 := B_3.cell0
  have qB1 := B_3.cell1
  go_wp2_with fail
  refine (HSb.out _).mono ?_
  rintro e w4 ⟨rfl, hb4⟩
  clear qA0 qA1 qB0 qB1
  have A_4 := A_3.below hb4 A_3.lt
  have B_4 := B_3.below hb4 B_3.lt
  have hB4 := hB3.trans (hb4.mono hB3.size)
  clear hb4 hB3 A_3 B_3
  have qA0 := A_4.cell0
  have qA1 := A_4.cell1
  have qB0 := B_4.cell0
  have qB1 := B_4.cell1
  have f0 := B_4.frozen 0
  have f1 := B_4.frozen 1
  go_wp2_with fail
  have B_s : BoxL ((w4.setCell ⟨(w.heap.size + 1), 0, none⟩ (.string (str qb.1))).setCell ⟨(w.heap.size + 1), 1, none⟩ (.string (str qb.2))) (w.heap.size + 1) qb := box2_set1 (box2_set0 B_4)
  have A_s : BoxL ((w4.setCell ⟨(w.heap.size + 1), 0, none⟩ (.string (str qb.1))).setCell ⟨(w.heap.size + 1), 1, none⟩ (.string (str qb.2))) w.heap.size qa := other2 (by omega) A_4 _ _
  have hs := (hB4.setCell (p := ⟨(w.heap.size + 1), 0, none⟩) (show w.heap.size ≤ (w.heap.size + 1) by omega) (.string (str qb.1))).setCell (p := ⟨(w.heap.size + 1), 1, none⟩) (show w.heap.size ≤ (w.heap.size + 1) by omega) (.string (str qb.2))
  clear qA0 qA1 qB0 qB1 f0 f1 hB4 A_4 B_4
  generalize ((w4.setCell ⟨(w.heap.size + 1), 0, none⟩ (.string (str qb.1))).setCell ⟨(w.heap.size + 1), 1, none⟩ (.string (str qb.2))) = w5 at hs A_s B_s ⊢
  have A_5 := A_s
  have B_5 := B_s
  have hB5 := hs
  clear hs A_s B_s
  have qA0 := A_5.cell0
  have qA1 := A_5.cell1
  have qB0 := B_5.cell0
  have qB1 := B_5.cell1
  cases hnk : (na == nb) with
  | true =>
    have ht1 := TU.out
    have hp1 := PQ.out
    rw [hnk] at ht1 hp1
    obtain rfl := eq_of_beq hnk
    obtain rfl := eq_of_beq ht1
    obtain rfl := eq_of_beq hp1
    clear ht1 hp1 hnk TU PQ
    go_wp2_with fail
    clear qA0 qA1 qB0 qB1
    have kA0 := cell_regrown A_5.cell0
    have kA1 := cell_regrown A_5.cell1
    have kB0 := cell_regrown B_5.cell0
    have kB1 := cell_regrown B_5.cell1
    have r0 := quiet_call (w := w5) (fun W hb => putLE W qa p oka H1.out)
    have r1 := quiet_call (w := w5) (fun W hb => putLE W qb p okb H2.out)
    refine wp_region_quiet_below mixed (by kernel_rfl) ?_
    repeat (go_big_quiet_step (fail))
    go_big_quiet_step (exact r0 _ _)
    repeat (go_big_quiet_step (fail))
    go_big_quiet_step (exact r1 _ _)
    repeat (go_big_quiet_step (fail))
    refine wpQuiet_nil ?_
    intro w6 hw'
    have hb6 := below_of_regrown hw'
    clear hw' r0 r1 kA0 kA1 kB0 kB1
    have A_6 := A_5.below hb6 A_5.lt
    have B_6 := B_5.below hb6 B_5.lt
    have hB6 := hB5.trans (hb6.mono hB5.size)
    clear hb6 hB5 A_5 B_5
    have qA0 := A_6.cell0
    have qA1 := A_6.cell1
    have qB0 := B_6.cell0
    have qB1 := B_6.cell1
    go_wp2_with fail
    rw [H3.out]
    refine (getLE _ S _ na (N1 : Int) i3 H4.out).mono ?_
    rintro e w7 ⟨rfl, hb7⟩
    clear qA0 qA1 qB0 qB1
    have A_7 := A_6.below hb7 A_6.lt
    have B_7 := B_6.below hb7 B_6.lt
    have hB7 := hB6.trans (hb7.mono hB6.size)
    clear hb7 hB6 A_6 B_6
    have qA0 := A_7.cell0
    have qA1 := A_7.cell1
    have qB0 := B_7.cell0
    have qB1 := B_7.cell1
    clear qA0 qA1 qB0 qB1
    have A_7_a := A_7.alloc (.cells #[.string (str na.1), .string (str na.2)] 24)
    have B_7_a := B_7.alloc (.cells #[.string (str na.1), .string (str na.2)] 24)
    have L_a : BoxL (w7.alloc (.cells #[.string (str na.1), .string (str na.2)] 24)) w7.heap.size na := Box2.new w7 _ _ _
    have hB7a := hB7.alloc hB7.size (.cells #[.string (str na.1), .string (str na.2)] 24)
    clear hB7 A_7 B_7
    have qA0 := A_7_a.cell0
    have qA1 := A_7_a.cell1
    have qB0 := B_7_a.cell0
    have qB1 := B_7_a.cell1
    have qL0 := L_a.cell0
    have qL1 := L_a.cell1
    go_wp2_with fail
    refine (getLE _ S _ na (N2 : Int) i3 H5.out).mono ?_
    rintro e w8 ⟨rfl, hb8⟩
    clear qA0 qA1 qB0 qB1 qL0 qL1
    have A_8 := A_7_a.below hb8 A_7_a.lt
    have B_8 := B_7_a.below hb8 B_7_a.lt
    have L_8 := L_a.below hb8 L_a.lt
    have hB8 := hB7a.trans (hb8.mono hB7a.size)
    clear hb8 hB7a A_7_a B_7_a L_a
    have qA0 := A_8.cell0
    have qA1 := A_8.cell1
    have qB0 := B_8.cell0
    have qB1 := B_8.cell1
    have qL0 := L_8.cell0
    have qL1 := L_8.cell1
    clear qA0 qA1 qB0 qB1 qL0 qL1
    have A_8_a := A_8.alloc (.cells #[.string (str na.1), .string (str na.2)] 24)
    have B_8_a := B_8.alloc (.cells #[.string (str na.1), .string (str na.2)] 24)
    have L_8_a := L_8.alloc (.cells #[.string (str na.1), .string (str na.2)] 24)
    have M_a : BoxL (w8.alloc (.cells #[.string (str na.1), .string (str na.2)] 24)) w8.heap.size na := Box2.new w8 _ _ _
    have hB8a := hB8.alloc hB8.size (.cells #[.string (str na.1), .string (str na.2)] 24)
    clear hB8 A_8 B_8 L_8
    have qA0 := A_8_a.cell0
    have qA1 := A_8_a.cell1
    have qB0 := B_8_a.cell0
    have qB1 := B_8_a.cell1
    have qL0 := L_8_a.cell0
    have qL1 := L_8_a.cell1
    have qM0 := M_a.cell0
    have qM1 := M_a.cell1
    go_wp2_with fail
    refine (textLE _ qa t oka H6.out (HL.out.behind hB8a)).mono ?_
    rintro e w9 ⟨rfl, hb9⟩
    clear qA0 qA1 qB0 qB1 qL0 qL1 qM0 qM1
    have A_9 := A_8_a.below hb9 A_8_a.lt
    have B_9 := B_8_a.below hb9 B_8_a.lt
    have L_9 := L_8_a.below hb9 L_8_a.lt
    have M_9 := M_a.below hb9 M_a.lt
    have hB9 := hB8a.trans (hb9.mono hB8a.size)
    clear hb9 hB8a A_8_a B_8_a L_8_a M_a
    have qA0 := A_9.cell0
    have qA1 := A_9.cell1
    have qB0 := B_9.cell0
    have qB1 := B_9.cell1
    have qL0 := L_9.cell0
    have qL1 := L_9.cell1
    have qM0 := M_9.cell0
    have qM1 := M_9.cell1
    go_wp2_with fail
    refine (parseLE _ t na (by omega) H7.out (HL.out.behind hB9)).mono ?_
    rintro e w10 ⟨rfl, hb10⟩
    clear qA0 qA1 qB0 qB1 qL0 qL1 qM0 qM1
    have A_10 := A_9.below hb10 A_9.lt
    have B_10 := B_9.below hb10 B_9.lt
    have L_10 := L_9.below hb10 L_9.lt
    have M_10 := M_9.below hb10 M_9.lt
    have hB10 := hB9.trans (hb10.mono hB9.size)
    clear hb10 hB9 A_9 B_9 L_9 M_9
    have qA0 := A_10.cell0
    have qA1 := A_10.cell1
    have qB0 := B_10.cell0
    have qB1 := B_10.cell1
    have qL0 := L_10.cell0
    have qL1 := L_10.cell1
    have qM0 := M_10.cell0
    have qM1 := M_10.cell1
    clear qA0 qA1 qB0 qB1 qL0 qL1 qM0 qM1
    have A_10_a := A_10.alloc (.cells #[.string (str na.1), .string (str na.2)] 24)
    have B_10_a := B_10.alloc (.cells #[.string (str na.1), .string (str na.2)] 24)
    have L_10_a := L_10.alloc (.cells #[.string (str na.1), .string (str na.2)] 24)
    have M_10_a := M_10.alloc (.cells #[.string (str na.1), .string (str na.2)] 24)
    have P_a : BoxL (w10.alloc (.cells #[.string (str na.1), .string (str na.2)] 24)) w10.heap.size na := Box2.new w10 _ _ _
    have hB10a := hB10.alloc hB10.size (.cells #[.string (str na.1), .string (str na.2)] 24)
    clear hB10 A_10 B_10 L_10 M_10
    have qA0 := A_10_a.cell0
    have qA1 := A_10_a.cell1
    have qB0 := B_10_a.cell0
    have qB1 := B_10_a.cell1
    have qL0 := L_10_a.cell0
    have qL1 := L_10_a.cell1
    have qM0 := M_10_a.cell0
    have qM1 := M_10_a.cell1
    have qP0 := P_a.cell0
    have qP1 := P_a.cell1
    go_wp2_with fail
    clear qA0 qA1 qB0 qB1 qL0 qL1 qM0 qM1 qP0 qP1
    generalize (w10.alloc (.cells #[.string (str na.1), .string (str na.2)] 24)) = w11 at hB10a A_10_a B_10_a L_10_a M_10_a P_a ⊢
    have kA0 := cell_regrown A_10_a.cell0
    have kA1 := cell_regrown A_10_a.cell1
    have kB0 := cell_regrown B_10_a.cell0
    have kB1 := cell_regrown B_10_a.cell1
    have kL0 := cell_regrown L_10_a.cell0
    have kL1 := cell_regrown L_10_a.cell1
    have kM0 := cell_regrown M_10_a.cell0
    have kM1 := cell_regrown M_10_a.cell1
    have kP0 := cell_regrown P_a.cell0
    have kP1 := cell_regrown P_a.cell1
    have r0 := quiet_call (w := w11) (fun W hb => nrmE W qa na oka H8.out)
    have r1 := quiet_call (w := w11) (fun W hb => nrmE W qb na okb H9.out)
    refine wp_region_quiet_below mixed (by kernel_rfl) ?_
    repeat (go_big_quiet_step (fail))
    go_big_quiet_step (exact r0 _ _)
    repeat (go_big_quiet_step (fail))
    go_big_quiet_step (exact r1 _ _)
    repeat (go_big_quiet_step (fail))
    refine wpQuiet_nil ?_
    intro w12 hw'
    have hb12 := below_of_regrown hw'
    clear hw' r0 r1 kA0 kA1 kB0 kB1 kL0 kL1 kM0 kM1 kP0 kP1
    have A_12 := A_10_a.below hb12 A_10_a.lt
    have B_12 := B_10_a.below hb12 B_10_a.lt
    have L_12 := L_10_a.below hb12 L_10_a.lt
    have M_12 := M_10_a.below hb12 M_10_a.lt
    have P_12 := P_a.below hb12 P_a.lt
    have hB12 := hB10a.trans (hb12.mono hB10a.size)
    clear hb12 hB10a A_10_a B_10_a L_10_a M_10_a P_a
    have qA0 := A_12.cell0
    have qA1 := A_12.cell1
    have qB0 := B_12.cell0
    have qB1 := B_12.cell1
    have qL0 := L_12.cell0
    have qL1 := L_12.cell1
    have qM0 := M_12.cell0
    have qM1 := M_12.cell1
    have qP0 := P_12.cell0
    have qP1 := P_12.cell1
    have HLq := Lib.hid (HL.out.behind hB12)
    go_wp2_with fail
    clear qA0 qA1 qB0 qB1 qL0 qL1 qM0 qM1 qP0 qP1
    have kA0 := cell_regrown A_12.cell0
    have kA1 := cell_regrown A_12.cell1
    have kB0 := cell_regrown B_12.cell0
    have kB1 := cell_regrown B_12.cell1
    have kL0 := cell_regrown L_12.cell0
    have kL1 := cell_regrown L_12.cell1
    have kM0 := cell_regrown M_12.cell0
    have kM1 := cell_regrown M_12.cell1
    have kP0 := cell_regrown P_12.cell0
    have kP1 := cell_regrown P_12.cell1
    have r0 := quiet_call (w := w12) (fun W hb => nrmE W qa na oka H8.out)
    have r1 := quiet_call (w := w12) (fun W hb => nrmE W qb na okb H9.out)
    have r2 := quiet_call (w := w12) (fun W hb => putLE W qa p oka H1.out)
    have r3 := quiet_call (w := w12) (fun W hb => putLE W qb p okb H2.out)
    have r4 := quiet_call (w := w12) (fun W hb => textLE W qa t oka H6.out (HLq.out.behind hb))
    have r5 := quiet_call (w := w12) (fun W hb => textLE W qb t okb H10.out (HLq.out.behind hb))
    refine wp_region_quiet_below mixed (by kernel_rfl) ?_
    repeat (go_big_quiet_step (fail))
    go_big_quiet_step (exact r0 _ _)
    repeat (go_big_quiet_step (fail))
    go_big_quiet_step (exact r1 _ _)
    repeat (go_big_quiet_step (fail))
    go_big_quiet_step (exact r2 _ _)
    repeat (go_big_quiet_step (fail))
    go_big_quiet_step (exact r3 _ _)
    repeat (go_big_quiet_step (fail))
    go_big_quiet_step (exact r4 _ _)
    repeat (go_big_quiet_step (fail))
    go_big_quiet_step (exact r5 _ _)
    repeat (go_big_quiet_step (fail))
    refine wpQuiet_nil ?_
    intro w13 hw'
    have hb13 := below_of_regrown hw'
    clear hw' r0 r1 r2 r3 r4 r5 kA0 kA1 kB0 kB1 kL0 kL1 kM0 kM1 kP0 kP1
    have A_13 := A_12.below hb13 A_12.lt
    have B_13 := B_12.below hb13 B_12.lt
    have L_13 := L_12.below hb13 L_12.lt
    have M_13 := M_12.below hb13 M_12.lt
    have P_13 := P_12.below hb13 P_12.lt
    have hB13 := hB12.trans (hb13.mono hB12.size)
    clear hb13 hB12 A_12 B_12 L_12 M_12 P_12
    have qA0 := A_13.cell0
    have qA1 := A_13.cell1
    have qB0 := B_13.cell0
    have qB1 := B_13.cell1
    have qL0 := L_13.cell0
    have qL1 := L_13.cell1
    have qM0 := M_13.cell0
    have qM1 := M_13.cell1
    have qP0 := P_13.cell0
    have qP1 := P_13.cell1
    clear qA0 qA1 qB0 qB1 qL0 qL1 qM0 qM1 qP0 qP1
    go_wp2
    go_ret
    exact ⟨rfl, hB13⟩
  | false =>
    have ht1 := TU.out
    have hp1 := PQ.out
    rw [hnk] at ht1 hp1
    have hne := lab_beq _ _ _ hnk
    clear TU PQ
    go_wp2_with fail
    clear qA0 qA1 qB0 qB1
    have kA0 := cell_regrown A_5.cell0
    have kA1 := cell_regrown A_5.cell1
    have kB0 := cell_regrown B_5.cell0
    have kB1 := cell_regrown B_5.cell1
    have r0 := quiet_call (w := w5) (fun W hb => putLE W qa p oka H1.out)
    have r1 := quiet_call (w := w5) (fun W hb => putLE W qb q okb H2.out)
    refine wp_region_quiet_below mixed (by kernel_rfl) ?_
    repeat (go_big_quiet_step (fail))
    go_big_quiet_step (exact r0 _ _)
    repeat (go_big_quiet_step (fail))
    go_big_quiet_step (exact r1 _ _)
    repeat (go_big_quiet_step (fail))
    refine wpQuiet_nil ?_
    intro w6 hw'
    have hb6 := below_of_regrown hw'
    clear hw' r0 r1 kA0 kA1 kB0 kB1
    have A_6 := A_5.below hb6 A_5.lt
    have B_6 := B_5.below hb6 B_5.lt
    have hB6 := hB5.trans (hb6.mono hB5.size)
    clear hb6 hB5 A_5 B_5
    have qA0 := A_6.cell0
    have qA1 := A_6.cell1
    have qB0 := B_6.cell0
    have qB1 := B_6.cell1
    go_wp2_with fail
    rw [H3.out]
    refine (getLE _ S _ na (N1 : Int) i3 H4.out).mono ?_
    rintro e w7 ⟨rfl, hb7⟩
    clear qA0 qA1 qB0 qB1
    have A_7 := A_6.below hb7 A_6.lt
    have B_7 := B_6.below hb7 B_6.lt
    have hB7 := hB6.trans (hb7.mono hB6.size)
    clear hb7 hB6 A_6 B_6
    have qA0 := A_7.cell0
    have qA1 := A_7.cell1
    have qB0 := B_7.cell0
    have qB1 := B_7.cell1
    clear qA0 qA1 qB0 qB1
    have A_7_a := A_7.alloc (.cells #[.string (str na.1), .string (str na.2)] 24)
    have B_7_a := B_7.alloc (.cells #[.string (str na.1), .string (str na.2)] 24)
    have L_a : BoxL (w7.alloc (.cells #[.string (str na.1), .string (str na.2)] 24)) w7.heap.size na := Box2.new w7 _ _ _
    have hB7a := hB7.alloc hB7.size (.cells #[.string (str na.1), .string (str na.2)] 24)
    clear hB7 A_7 B_7
    have qA0 := A_7_a.cell0
    have qA1 := A_7_a.cell1
    have qB0 := B_7_a.cell0
    have qB1 := B_7_a.cell1
    have qL0 := L_a.cell0
    have qL1 := L_a.cell1
    go_wp2_with fail
    refine (getLE _ S _ nb (N2 : Int) i3 H5.out).mono ?_
    rintro e w8 ⟨rfl, hb8⟩
    clear qA0 qA1 qB0 qB1 qL0 qL1
    have A_8 := A_7_a.below hb8 A_7_a.lt
    have B_8 := B_7_a.below hb8 B_7_a.lt
    have L_8 := L_a.below hb8 L_a.lt
    have hB8 := hB7a.trans (hb8.mono hB7a.size)
    clear hb8 hB7a A_7_a B_7_a L_a
    have qA0 := A_8.cell0
    have qA1 := A_8.cell1
    have qB0 := B_8.cell0
    have qB1 := B_8.cell1
    have qL0 := L_8.cell0
    have qL1 := L_8.cell1
    clear qA0 qA1 qB0 qB1 qL0 qL1
    have A_8_a := A_8.alloc (.cells #[.string (str nb.1), .string (str nb.2)] 24)
    have B_8_a := B_8.alloc (.cells #[.string (str nb.1), .string (str nb.2)] 24)
    have L_8_a := L_8.alloc (.cells #[.string (str nb.1), .string (str nb.2)] 24)
    have M_a : BoxL (w8.alloc (.cells #[.string (str nb.1), .string (str nb.2)] 24)) w8.heap.size nb := Box2.new w8 _ _ _
    have hB8a := hB8.alloc hB8.size (.cells #[.string (str nb.1), .string (str nb.2)] 24)
    clear hB8 A_8 B_8 L_8
    have qA0 := A_8_a.cell0
    have qA1 := A_8_a.cell1
    have qB0 := B_8_a.cell0
    have qB1 := B_8_a.cell1
    have qL0 := L_8_a.cell0
    have qL1 := L_8_a.cell1
    have qM0 := M_a.cell0
    have qM1 := M_a.cell1
    go_wp2_with fail
    refine (textLE _ qa t oka H6.out (HL.out.behind hB8a)).mono ?_
    rintro e w9 ⟨rfl, hb9⟩
    clear qA0 qA1 qB0 qB1 qL0 qL1 qM0 qM1
    have A_9 := A_8_a.below hb9 A_8_a.lt
    have B_9 := B_8_a.below hb9 B_8_a.lt
    have L_9 := L_8_a.below hb9 L_8_a.lt
    have M_9 := M_a.below hb9 M_a.lt
    have hB9 := hB8a.trans (hb9.mono hB8a.size)
    clear hb9 hB8a A_8_a B_8_a L_8_a M_a
    have qA0 := A_9.cell0
    have qA1 := A_9.cell1
    have qB0 := B_9.cell0
    have qB1 := B_9.cell1
    have qL0 := L_9.cell0
    have qL1 := L_9.cell1
    have qM0 := M_9.cell0
    have qM1 := M_9.cell1
    go_wp2_with fail
    refine (parseLE _ t na (by omega) H7.out (HL.out.behind hB9)).mono ?_
    rintro e w10 ⟨rfl, hb10⟩
    clear qA0 qA1 qB0 qB1 qL0 qL1 qM0 qM1
    have A_10 := A_9.below hb10 A_9.lt
    have B_10 := B_9.below hb10 B_9.lt
    have L_10 := L_9.below hb10 L_9.lt
    have M_10 := M_9.below hb10 M_9.lt
    have hB10 := hB9.trans (hb10.mono hB9.size)
    clear hb10 hB9 A_9 B_9 L_9 M_9
    have qA0 := A_10.cell0
    have qA1 := A_10.cell1
    have qB0 := B_10.cell0
    have qB1 := B_10.cell1
    have qL0 := L_10.cell0
    have qL1 := L_10.cell1
    have qM0 := M_10.cell0
    have qM1 := M_10.cell1
    clear qA0 qA1 qB0 qB1 qL0 qL1 qM0 qM1
    have A_10_a := A_10.alloc (.cells #[.string (str na.1), .string (str na.2)] 24)
    have B_10_a := B_10.alloc (.cells #[.string (str na.1), .string (str na.2)] 24)
    have L_10_a := L_10.alloc (.cells #[.string (str na.1), .string (str na.2)] 24)
    have M_10_a := M_10.alloc (.cells #[.string (str na.1), .string (str na.2)] 24)
    have P_a : BoxL (w10.alloc (.cells #[.string (str na.1), .string (str na.2)] 24)) w10.heap.size na := Box2.new w10 _ _ _
    have hB10a := hB10.alloc hB10.size (.cells #[.string (str na.1), .string (str na.2)] 24)
    clear hB10 A_10 B_10 L_10 M_10
    have qA0 := A_10_a.cell0
    have qA1 := A_10_a.cell1
    have qB0 := B_10_a.cell0
    have qB1 := B_10_a.cell1
    have qL0 := L_10_a.cell0
    have qL1 := L_10_a.cell1
    have qM0 := M_10_a.cell0
    have qM1 := M_10_a.cell1
    have qP0 := P_a.cell0
    have qP1 := P_a.cell1
    go_wp2_with fail
    clear qA0 qA1 qB0 qB1 qL0 qL1 qM0 qM1 qP0 qP1
    generalize (w10.alloc (.cells #[.string (str na.1), .string (str na.2)] 24)) = w11 at hB10a A_10_a B_10_a L_10_a M_10_a P_a ⊢
    have kA0 := cell_regrown A_10_a.cell0
    have kA1 := cell_regrown A_10_a.cell1
    have kB0 := cell_regrown B_10_a.cell0
    have kB1 := cell_regrown B_10_a.cell1
    have kL0 := cell_regrown L_10_a.cell0
    have kL1 := cell_regrown L_10_a.cell1
    have kM0 := cell_regrown M_10_a.cell0
    have kM1 := cell_regrown M_10_a.cell1
    have kP0 := cell_regrown P_a.cell0
    have kP1 := cell_regrown P_a.cell1
    have r0 := quiet_call (w := w11) (fun W hb => nrmE W qa na oka H8.out)
    have r1 := quiet_call (w := w11) (fun W hb => nrmE W qb nb okb H9.out)
    refine wp_region_quiet_below mixed (by kernel_rfl) ?_
    repeat (go_big_quiet_step (fail))
    go_big_quiet_step (exact r0 _ _)
    repeat (go_big_quiet_step (fail))
    go_big_quiet_step (exact r1 _ _)
    repeat (go_big_quiet_step (fail))
    refine wpQuiet_nil ?_
    intro w12 hw'
    have hb12 := below_of_regrown hw'
    clear hw' r0 r1 kA0 kA1 kB0 kB1 kL0 kL1 kM0 kM1 kP0 kP1
    have A_12 := A_10_a.below hb12 A_10_a.lt
    have B_12 := B_10_a.below hb12 B_10_a.lt
    have L_12 := L_10_a.below hb12 L_10_a.lt
    have M_12 := M_10_a.below hb12 M_10_a.lt
    have P_12 := P_a.below hb12 P_a.lt
    have hB12 := hB10a.trans (hb12.mono hB10a.size)
    clear hb12 hB10a A_10_a B_10_a L_10_a M_10_a P_a
    have qA0 := A_12.cell0
    have qA1 := A_12.cell1
    have qB0 := B_12.cell0
    have qB1 := B_12.cell1
    have qL0 := L_12.cell0
    have qL1 := L_12.cell1
    have qM0 := M_12.cell0
    have qM1 := M_12.cell1
    have qP0 := P_12.cell0
    have qP1 := P_12.cell1
    have HLq := Lib.hid (HL.out.behind hB12)
    go_wp2_with fail
    clear qA0 qA1 qB0 qB1 qL0 qL1 qM0 qM1 qP0 qP1
    have kA0 := cell_regrown A_12.cell0
    have kA1 := cell_regrown A_12.cell1
    have kB0 := cell_regrown B_12.cell0
    have kB1 := cell_regrown B_12.cell1
    have kL0 := cell_regrown L_12.cell0
    have kL1 := cell_regrown L_12.cell1
    have kM0 := cell_regrown M_12.cell0
    have kM1 := cell_regrown M_12.cell1
    have kP0 := cell_regrown P_12.cell0
    have kP1 := cell_regrown P_12.cell1
    have r0 := quiet_call (w := w12) (fun W hb => nrmE W qa na oka H8.out)
    have r1 := quiet_call (w := w12) (fun W hb => nrmE W qb nb okb H9.out)
    have r2 := quiet_call (w := w12) (fun W hb => putLE W qa p oka H1.out)
    have r3 := quiet_call (w := w12) (fun W hb => putLE W qb q okb H2.out)
    have r4 := quiet_call (w := w12) (fun W hb => textLE W qa t oka H6.out (HLq.out.behind hb))
    have r5 := quiet_call (w := w12) (fun W hb => textLE W qb u okb H10.out (HLq.out.behind hb))
    refine wp_region_quiet_below mixed (by kernel_rfl) ?_
    repeat (go_big_quiet_step (fail))
    go_big_quiet_step (exact r0 _ _)
    repeat (go_big_quiet_step (fail))
    go_big_quiet_step (exact r1 _ _)
    repeat (go_big_quiet_step (fail))
    go_big_quiet_step (exact r2 _ _)
    repeat (go_big_quiet_step (fail))
    go_big_quiet_step (exact r3 _ _)
    repeat (go_big_quiet_step (fail))
    go_big_quiet_step (exact r4 _ _)
    repeat (go_big_quiet_step (fail))
    go_big_quiet_step (exact r5 _ _)
    repeat (go_big_quiet_step (fail))
    refine wpQuiet_nil ?_
    intro w13 hw'
    have hb13 := below_of_regrown hw'
    clear hw' r0 r1 r2 r3 r4 r5 kA0 kA1 kB0 kB1 kL0 kL1 kM0 kM1 kP0 kP1
    have A_13 := A_12.below hb13 A_12.lt
    have B_13 := B_12.below hb13 B_12.lt
    have L_13 := L_12.below hb13 L_12.lt
    have M_13 := M_12.below hb13 M_12.lt
    have P_13 := P_12.below hb13 P_12.lt
    have hB13 := hB12.trans (hb13.mono hB12.size)
    clear hb13 hB12 A_12 B_12 L_12 M_12 P_12
    have qA0 := A_13.cell0
    have qA1 := A_13.cell1
    have qB0 := B_13.cell0
    have qB1 := B_13.cell1
    have qL0 := L_13.cell0
    have qL1 := L_13.cell1
    have qM0 := M_13.cell0
    have qM1 := M_13.cell1
    have qP0 := P_13.cell0
    have qP1 := P_13.cell1
    clear qA0 qA1 qB0 qB1 qL0 qL1 qM0 qM1 qP0 qP1
    go_wp2
    go_ret
    exact ⟨rfl, hB13⟩
theorem walkLabelBack (a ia : ByteArray) (ha : a.size ≤ maxLen) (ka : ia.size ≤ maxLen) (b ib : ByteArray) (hb : b.size ≤ maxLen) (kb : ib.size ≤ maxLen) (X : ByteArray) (hX : X.data.toList.length ≤ reachBytes) (Y : ByteArray) (hY : Y.data.toList.length ≤ reachBytes) (w : World) (hL : Letters w) :
    Calls Tryd.prog 8 #[.agg #[.string a, .string ia], .agg #[.string b, .string ib], .string X, .string Y] w fun e w' => e = .returned (.bool true) ∧ Below w.heap.size w w' := by
  exact walkPLabelBack (a.data.toList, ia.data.toList) ha ka (b.data.toList, ib.data.toList) hb kb X.data.toList (by unfold reachBytes at hX; omega) Y.data.toList (by unfold reachBytes at hY; omega) w hL
end Go.Proofs.YtiagoiannccdmaaDoor
