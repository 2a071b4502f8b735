/- The walk of LabelRises. Conditions: the sizes of what came in; the table of letters holds its text. -/
import Derived.Test.YtiagoiannccdmaaDoorLabPre3
import Derived.Test.YtiagoiannccdmaaDoorEx3
import Derived.Deep.RegionHeld3
import Derived.BigQuiet
namespace Go.Proofs.YtiagoiannccdmaaDoor
open Go.RowKit Go.Shelf
attribute [local go_sem] str_list str_size
attribute [local go_sem high] eql_label neq_label
set_option maxRecDepth 100000 in
set_option maxHeartbeats 8000000 in
theorem walkPLabelRises (a : Lz.Lab) (ha1 : a.1.length ≤ maxLen) (ha2 : a.2.length ≤ maxLen) (b : Lz.Lab) (hb1 : b.1.length ≤ maxLen) (hb2 : b.2.length ≤ maxLen) (c : Lz.Lab) (hc1 : c.1.length ≤ maxLen) (hc2 : c.2.length ≤ maxLen) (d : Lz.Lab) (hd1 : d.1.length ≤ maxLen) (hd2 : d.2.length ≤ maxLen) (w : World) (hL : Letters w) :
    Calls Tryd.prog 6 #[pv a, pv b, pv c, pv d] w fun e w' => e = .returned (.bool true) ∧ Below w.heap.size w w' := by
  have mixed := mixedOrders
  have HL := Lib.hid hL
  clear hL
  have HSa := Lib.hid (small_p a ha1 ha2)
  have oka := okL_sm a
  generalize hsa : sm a = qa at HSa oka
  clear hsa
  have HSb := Lib.hid (small_p b hb1 hb2)
  have okb := okL_sm b
  generalize hsb : sm b = qb at HSb okb
  clear hsb
  have HSc := Lib.hid (small_p c hc1 hc2)
  have okc := okL_sm c
  generalize hsc : sm c = qc at HSc okc
  clear hsc
  have HSd := Lib.hid (small_p d hd1 hd2)
  have okd := okL_sm d
  generalize hsd : sm d = qd at HSd okd
  clear hsd
  obtain ⟨u, hu⟩ : ∃ u, Lz.jn qa qb = u := ⟨_, rfl⟩
  have oku : okL u := by rw [← hu]; exact okL_jn _ _
  obtain ⟨v, hv⟩ : ∃ v, Lz.jn qc qd = v := ⟨_, rfl⟩
  have okv : okL v := by rw [← hv]; exact okL_jn _ _
  obtain ⟨j1, hj1⟩ : ∃ j1, Lz.jn qa qc = j1 := ⟨_, rfl⟩
  have okj1 : okL j1 := by rw [← hj1]; exact okL_jn _ _
  obtain ⟨j2, hj2⟩ : ∃ j2, Lz.jn u v = j2 := ⟨_, rfl⟩
  have okj2 : okL j2 := by rw [← hj2]; exact okL_jn _ _
  obtain ⟨m1, hm1⟩ : ∃ m1, Lz.mt qa qc = m1 := ⟨_, rfl⟩
  have okm1 : okL m1 := by rw [← hm1]; exact okL_mt _ _
  obtain ⟨m2, hm2⟩ : ∃ m2, Lz.mt u v = m2 := ⟨_, rfl⟩
  have okm2 : okL m2 := by rw [← hm2]; exact okL_mt _ _
  have H1 := Lib.hid (show Lz.jn qa qb = u from hu)
  have H2 := Lib.hid (show Lz.jn qc qd = v from hv)
  have H3 := Lib.hid (show Lz.jn qa qc = j1 from hj1)
  have H4 := Lib.hid (show Lz.jn u v = j2 from hj2)
  have H5 := Lib.hid (show Lz.mt qa qc = m1 from hm1)
  have H6 := Lib.hid (show Lz.mt u v = m2 from hm2)
  have F1 := Lib.hid (show Lz.fl qa u = true from by rw [← hu]; exact Lz.fl_iff.2 (Lz.le_jn_left _ _))
  have F2 := Lib.hid (show Lz.fl j1 j2 = true from by rw [← hj1, ← hj2, ← hu, ← hv]; exact Lz.fl_iff.2 (Lz.jn_mono (Lz.le_jn_left _ _) (Lz.le_jn_left _ _)))
  have F3 := Lib.hid (show Lz.fl m1 m2 = true from by rw [← hm1, ← hm2, ← hu, ← hv]; exact Lz.fl_iff.2 (Lz.mt_mono (Lz.le_jn_left _ _) (Lz.le_jn_left _ _)))
  clear hu hv hj1 hj2 hm1 hm2
  obtain ⟨A_0, B_0, C_0, D_0, hB0⟩ := alloc4P w a b c d
  have qA0 := A_0.cell0
  have qA1 := A_0.cell1
  have qB0 := B_0.cell0
  have qB1 := B_0.cell1
  have qC0 := C_0.cell0
  have qC1 := C_0.cell1
  have qD0 := D_0.cell0
  have qD1 := D_0.cell1
  go_enter Tryd.func6, Tryd.ntmps6
  go_wp2_with fail
  generalize ((((w.alloc (.cells #[.string (str a.1), .string (str a.2)] 24)).alloc (.cells #[.string (str b.1), .string (str b.2)] 24)).alloc (.cells #[.string (str c.1), .string (str c.2)] 24)).alloc (.cells #[.string (str d.1), .string (str d.2)] 24)) = w0 at *
  have HEX := Lib.hid (fun W hL => examples3_any W hL)
  refine (HEX.out _ (HL.out.behind hB0)).mono ?_
  rintro e w1 ⟨rfl, hb1⟩
  clear qA0 qA1 qB0 qB1 qC0 qC1 qD0 qD1
  have A_1 := A_0.below hb1 A_0.lt
  have B_1 := B_0.below hb1 B_0.lt
  have C_1 := C_0.below hb1 C_0.lt
  have D_1 := D_0.below hb1 D_0.lt
  have hB1 := hB0.trans (hb1.mono hB0.size)
  clear hb1 hB0 A_0 B_0 C_0 D_0
  have qA0 := A_1.cell0
  have qA1 := A_1.cell1
  have qB0 := B_1.cell0
  have qB1 := B_1.cell1
  have qC0 := C_1.cell0
  have qC1 := C_1.cell1
  have qD0 := D_1.cell0
  have qD1 := D_1.cell1
  go_wp2_with fail
  refine (HSa.out _).mono ?_
  rintro e w2 ⟨rfl, hb2⟩
  clear qA0 qA1 qB0 qB1 qC0 qC1 qD0 qD1
  have A_2 := A_1.below hb2 A_1.lt
  have B_2 := B_1.below hb2 B_1.lt
  have C_2 := C_1.below hb2 C_1.lt
  have D_2 := D_1.below hb2 D_1.lt
  have hB2 := hB1.trans (hb2.mono hB1.size)
  clear hb2 hB1 A_1 B_1 C_1 D_1
  have qA0 := A_2.cell0
  have qA1 := A_2.cell1
  have qB0 := B_2.cell0
  have qB1 := B_2.cell1
  have qC0 := C_2.cell0
  have qC1 := C_2.cell1
  have qD0 := D_2.cell0
  have qD1 := D_2.cell1
  have f0 := A_2.frozen 0
  have f1 := A_2.frozen 1
  go_wp2_with fail
  have A_s : BoxL ((w2.setCell ⟨w.heap.size, 0, none⟩ (.string (str qa.1))).setCell ⟨w.heap.size, 1, none⟩ (.string (str qa.2))) w.heap.size qa := box2_set1 (box2_set0 A_2)
  have B_s : BoxL ((w2.setCell ⟨w.heap.size, 0, none⟩ (.string (str qa.1))).setCell ⟨w.heap.size, 1, none⟩ (.string (str qa.2))) (w.heap.size + 1) b := other2 (by omega) B_2 _ _
  have C_s : BoxL ((w2.setCell ⟨w.heap.size, 0, none⟩ (.string (str qa.1))).setCell ⟨w.heap.size, 1, none⟩ (.string (str qa.2))) (w.heap.size + 1 + 1) c := other2 (by omega) C_2 _ _
  have D_s : BoxL ((w2.setCell ⟨w.heap.size, 0, none⟩ (.string (str qa.1))).setCell ⟨w.heap.size, 1, none⟩ (.string (str qa.2))) (w.heap.size + 1 + 1 + 1) d := other2 (by omega) D_2 _ _
  have hs := (hB2.setCell (p := ⟨w.heap.size, 0, none⟩) (show w.heap.size ≤ w.heap.size by omega) (.string (str qa.1))).setCell (p := ⟨w.heap.size, 1, none⟩) (show w.heap.size ≤ w.heap.size by omega) (.string (str qa.2))
  clear qA0 qA1 qB0 qB1 qC0 qC1 qD0 qD1 f0 f1 hB2 A_2 B_2 C_2 D_2
  generalize ((w2.setCell ⟨w.heap.size, 0, none⟩ (.string (str qa.1))).setCell ⟨w.heap.size, 1, none⟩ (.string (str qa.2))) = w3 at hs A_s B_s C_s D_s ⊢
  have A_3 := A_s
  have B_3 := B_s
  have C_3 := C_s
  have D_3 := D_s
  have hB3 := hs
  clear hs A_s B_s C_s D_s
  have qA0 := A_3.cell0
  have qA1 := A_3.cell1
  have qB0 := B_3.cell0
  have qB1 := B_3.cell1
  have qC0 := C_3.cell0
  have qC1 := C_3.cell1
  have qD0 := D_3.cell0
  have qD1 := D_3.cell1
  go_wp2_with fail
  refine (HSc.out _).mono ?_
  rintro e w4 ⟨rfl, hb4⟩
  clear qA0 qA1 qB0 qB1 qC0 qC1 qD0 qD1
  have A_4 := A_3.below hb4 A_3.lt
  have B_4 := B_3.below hb4 B_3.lt
  have C_4 := C_3.below hb4 C_3.lt
  have D_4 := D_3.below hb4 D_3.lt
  have hB4 := hB3.trans (hb4.mono hB3.size)
  clear hb4 hB3 A_3 B_3 C_3 D_3
  have qA0 := A_4.cell0
  have qA1 := A_4.cell1
  have qB0 := B_4.cell0
  have qB1 := B_4.cell1
  have qC0 := C_4.cell0
  have qC1 := C_4.cell1
  have qD0 := D_4.cell0
  have qD1 := D_4.cell1
  have f0 := C_4.frozen 0
  have f1 := C_4.frozen 1
  go_wp2_with fail
  have C_s : BoxL ((w4.setCell ⟨(w.heap.size + 1 + 1), 0, none⟩ (.string (str qc.1))).setCell ⟨(w.heap.size + 1 + 1), 1, none⟩ (.string (str qc.2))) (w.heap.size + 1 + 1) qc := box2_set1 (box2_set0 C_4)
  have A_s : BoxL ((w4.setCell ⟨(w.heap.size + 1 + 1), 0, none⟩ (.string (str qc.1))).setCell ⟨(w.heap.size + 1 + 1), 1, none⟩ (.string (str qc.2))) w.heap.size qa := other2 (by omega) A_4 _ _
  have B_s : BoxL ((w4.setCell ⟨(w.heap.size + 1 + 1), 0, none⟩ (.string (str qc.1))).setCell ⟨(w.heap.size + 1 + 1), 1, none⟩ (.string (str qc.2))) (w.heap.size + 1) b := other2 (by omega) B_4 _ _
  have D_s : BoxL ((w4.setCell ⟨(w.heap.size + 1 + 1), 0, none⟩ (.string (str qc.1))).setCell ⟨(w.heap.size + 1 + 1), 1, none⟩ (.string (str qc.2))) (w.heap.size + 1 + 1 + 1) d := other2 (by omega) D_4 _ _
  have hs := (hB4.setCell (p := ⟨(w.heap.size + 1 + 1), 0, none⟩) (show w.heap.size ≤ (w.heap.size + 1 + 1) by omega) (.string (str qc.1))).setCell (p := ⟨(w.heap.size + 1 + 1), 1, none⟩) (show w.heap.size ≤ (w.heap.size + 1 + 1) by omega) (.string (str qc.2))
  clear qA0 qA1 qB0 qB1 qC0 qC1 qD0 qD1 f0 f1 hB4 A_4 B_4 C_4 D_4
  generalize ((w4.setCell ⟨(w.heap.size + 1 + 1), 0, none⟩ (.string (str qc.1))).setCell ⟨(w.heap.size + 1 + 1), 1, none⟩ (.string (str qc.2))) = w5 at hs A_s B_s C_s D_s ⊢
  have A_5 := A_s
  have B_5 := B_s
  have C_5 := C_s
  have D_5 := D_s
  have hB5 := hs
  clear hs A_s B_s C_s D_s
  have qA0 := A_5.cell0
  have qA1 := A_5.cell1
  have qB0 := B_5.cell0
  have qB1 := B_5.cell1
  have qC0 := C_5.cell0
  have qC1 := C_5.cell1
  have qD0 := D_5.cell0
  have qD1 := D_5.cell1
  go_wp2_with fail
  have A_y0 : BoxL w5.drew w.heap.size qa := A_5
  have B_y0 : BoxL w5.drew (w.heap.size + 1) b := B_5
  have C_y0 : BoxL w5.drew (w.heap.size + 1 + 1) qc := C_5
  have D_y0 : BoxL w5.drew (w.heap.size + 1 + 1 + 1) d := D_5
  have hC0 := drewB hB5
  refine Code.wp_mono (Q := fun e a' wf => e = Exit.normal ∧ a' = { tmps := #[pv a, pv b, pv c, pv d, .pointer (some ⟨w.heap.size, 0, none⟩), .pointer (some ⟨(w.heap.size + 1), 0, none⟩), .pointer (some ⟨(w.heap.size + 1 + 1), 0, none⟩), .pointer (some ⟨(w.heap.size + 1 + 1 + 1), 0, none⟩), .bool false, .bool true, .bool true, .bool true, .bool false, pv a, pv qa, pv c, pv qc, pv qa, pv b, pv qb, pv u, undef, undef, undef, undef, undef, undef, undef, undef, undef, undef, undef, undef, undef, undef, undef, undef, undef, undef, undef, undef, undef, undef, undef, undef, undef, undef, undef, undef], defers := [] } ∧ BoxL wf w.heap.size qa ∧ BoxL wf (w.heap.size + 1) u ∧ BoxL wf (w.heap.size + 1 + 1) qc ∧ BoxL wf (w.heap.size + 1 + 1 + 1) d ∧ Below w.heap.size w wf) (fun e a' wf hq => ?_) ?_
  rotate_left
  focus
   go_region_with (first
        | (go_at_call 10; refine (HSb.out _).mono ?_; rintro e y1 ⟨rfl, hy1⟩; have A_y1 := A_y0.below hy1 A_y0.lt; have B_y1 := B_y0.below hy1 B_y0.lt; have C_y1 := C_y0.below hy1 C_y0.lt; have D_y1 := D_y0.below hy1 D_y0.lt; have hC1 := hC0.trans (hy1.mono hC0.size); have yA0 := A_y1.cell0; have yA1 := A_y1.cell1; have yB0 := B_y1.cell0; have yB1 := B_y1.cell1; have yC0 := C_y1.cell0; have yC1 := C_y1.cell1; have yD0 := D_y1.cell0; have yD1 := D_y1.cell1; have z0 := B_y1.frozen 0; have z1 := B_y1.frozen 1)
        | (go_at_call 16; refine (jnE _ qa qb u oka okb H1.out).mono ?_; rintro e y2 ⟨rfl, hy2⟩; have A_y2 := A_y1.below hy2 A_y1.lt; have B_y2 := B_y1.below hy2 B_y1.lt; have C_y2 := C_y1.below hy2 C_y1.lt; have D_y2 := D_y1.below hy2 D_y1.lt; have hC2 := hC1.trans (hy2.mono hC1.size); have yA0 := A_y2.cell0; have yA1 := A_y2.cell1; have yB0 := B_y2.cell0; have yB1 := B_y2.cell1; have yC0 := C_y2.cell0; have yC1 := C_y2.cell1; have yD0 := D_y2.cell0; have yD1 := D_y2.cell1; have z0 := B_y2.frozen 0; have z1 := B_y2.frozen 1))
   all_goals exact ⟨rfl, rfl, other2 (by omega) A_y2 _ _, box2_set1 (box2_set0 B_y2), other2 (by omega) C_y2 _ _, other2 (by omega) D_y2 _ _, (hC2.setCell (p := ⟨(w.heap.size + 1), 0, none⟩) (show w.heap.size ≤ (w.heap.size + 1) by omega) _).setCell (p := ⟨(w.heap.size + 1), 1, none⟩) (show w.heap.size ≤ (w.heap.size + 1) by omega) _⟩
  obtain ⟨rfl, rfl, A_6, B_6, C_6, D_6, hB6⟩ := hq
  clear qA0 qA1 qB0 qB1 qC0 qC1 qD0 qD1 hC0 hB5 A_y0 B_y0 C_y0 D_y0 A_5 B_5 C_5 D_5
  have qA0 := A_6.cell0
  have qA1 := A_6.cell1
  have qB0 := B_6.cell0
  have qB1 := B_6.cell1
  have qC0 := C_6.cell0
  have qC1 := C_6.cell1
  have qD0 := D_6.cell0
  have qD1 := D_6.cell1
  obtain ⟨wg, rfl⟩ : ∃ W : World, W = wf := ⟨_, rfl⟩
  go_wp2_with fail
  have A_y0 : BoxL wg.drew w.heap.size qa := A_6
  have B_y0 : BoxL wg.drew (w.heap.size + 1) u := B_6
  have C_y0 : BoxL wg.drew (w.heap.size + 1 + 1) qc := C_6
  have D_y0 : BoxL wg.drew (w.heap.size + 1 + 1 + 1) d := D_6
  have hC0 := drewB hB6
  refine Code.wp_mono (Q := fun e a' wf => e = Exit.normal ∧ a' = { tmps := #[pv a, pv b, pv c, pv d, .pointer (some ⟨w.heap.size, 0, none⟩), .pointer (some ⟨(w.heap.size + 1), 0, none⟩), .pointer (some ⟨(w.heap.size + 1 + 1), 0, none⟩), .pointer (some ⟨(w.heap.size + 1 + 1 + 1), 0, none⟩), .bool false, .bool true, .bool true, .bool true, .bool false, pv a, pv qa, pv c, pv qc, pv qa, pv b, pv qb, pv u, pv qc, pv d, pv qd, pv v, undef, undef, undef, undef, undef, undef, undef, undef, undef, undef, undef, undef, undef, undef, undef, undef, undef, undef, undef, undef, undef, undef, undef, undef], defers := [] } ∧ BoxL wf w.heap.size qa ∧ BoxL wf (w.heap.size + 1) u ∧ BoxL wf (w.heap.size + 1 + 1) qc ∧ BoxL wf (w.heap.size + 1 + 1 + 1) v ∧ Below w.heap.size w wf) (fun e a' wf hq => ?_) ?_
  rotate_left
  focus
   go_region_with (first
        | (go_at_call 10; refine (HSd.out _).mono ?_; rintro e y1 ⟨rfl, hy1⟩; have A_y1 := A_y0.below hy1 A_y0.lt; have B_y1 := B_y0.below hy1 B_y0.lt; have C_y1 := C_y0.below hy1 C_y0.lt; have D_y1 := D_y0.below hy1 D_y0.lt; have hC1 := hC0.trans (hy1.mono hC0.size); have yA0 := A_y1.cell0; have yA1 := A_y1.cell1; have yB0 := B_y1.cell0; have yB1 := B_y1.cell1; have yC0 := C_y1.cell0; have yC1 := C_y1.cell1; have yD0 := D_y1.cell0; have yD1 := D_y1.cell1; have z0 := D_y1.frozen 0; have z1 := D_y1.frozen 1)
        | (go_at_call 16; refine (jnE _ qc qd v okc okd H2.out).mono ?_; rintro e y2 ⟨rfl, hy2⟩; have A_y2 := A_y1.below hy2 A_y1.lt; have B_y2 := B_y1.below hy2 B_y1.lt; have C_y2 := C_y1.below hy2 C_y1.lt; have D_y2 := D_y1.below hy2 D_y1.lt; have hC2 := hC1.trans (hy2.mono hC1.size); have yA0 := A_y2.cell0; have yA1 := A_y2.cell1; have yB0 := B_y2.cell0; have yB1 := B_y2.cell1; have yC0 := C_y2.cell0; have yC1 := C_y2.cell1; have yD0 := D_y2.cell0; have yD1 := D_y2.cell1; have z0 := D_y2.frozen 0; have z1 := D_y2.frozen 1))
   all_goals exact ⟨rfl, rfl, other2 (by omega) A_y2 _ _, other2 (by omega) B_y2 _ _, other2 (by omega) C_y2 _ _, box2_set1 (box2_set0 D_y2), (hC2.setCell (p := ⟨(w.heap.size + 1 + 1 + 1), 0, none⟩) (show w.heap.size ≤ (w.heap.size + 1 + 1 + 1) by omega) _).setCell (p := ⟨(w.heap.size + 1 + 1 + 1), 1, none⟩) (show w.heap.size ≤ (w.heap.size + 1 + 1 + 1) by omega) _⟩
  obtain ⟨rfl, rfl, A_7, B_7, C_7, D_7, hB7⟩ := hq
  clear qA0 qA1 qB0 qB1 qC0 qC1 qD0 qD1 hC0 hB6 A_y0 B_y0 C_y0 D_y0 A_6 B_6 C_6 D_6
  have qA0 := A_7.cell0
  have qA1 := A_7.cell1
  have qB0 := B_7.cell0
  have qB1 := B_7.cell1
  have qC0 := C_7.cell0
  have qC1 := C_7.cell1
  have qD0 := D_7.cell0
  have qD1 := D_7.cell1
  go_wp2_with fail
  clear qA0 qA1 qB0 qB1 qC0 qC1 qD0 qD1
  have kA0 := cell_regrown A_7.cell0
  have kA1 := cell_regrown A_7.cell1
  have kB0 := cell_regrown B_7.cell0
  have kB1 := cell_regrown B_7.cell1
  have kC0 := cell_regrown C_7.cell0
  have kC1 := cell_regrown C_7.cell1
  have kD0 := cell_regrown D_7.cell0
  have kD1 := cell_regrown D_7.cell1
  have r0 := quiet_call (w := wf) (fun W hb => flE W qa u true oka oku F1.out)
  have r1 := quiet_call (w := wf) (fun W hb => jnE W qa qc j1 oka okc H3.out)
  have r2 := quiet_call (w := wf) (fun W hb => jnE W u v j2 oku okv H4.out)
  have r3 := quiet_call (w := wf) (fun W hb => flE W j1 j2 true okj1 okj2 F2.out)
  have r4 := quiet_call (w := wf) (fun W hb => mtE W qa qc m1 oka okc H5.out)
  have r5 := quiet_call (w := wf) (fun W hb => mtE W u v m2 oku okv H6.out)
  have r6 := quiet_call (w := wf) (fun W hb => flE W m1 m2 true okm1 okm2 F3.out)
  refine wp_region_quiet_below mixed (by kernel_rfl) ?_
  repeat (go_big_quiet_step (fail))
  go_big_quiet_step (exact r0 _ _)
  repeat (go_big_quiet_step (fail))
  go_big_quiet_step (exact r1 _ _)
  repeat (go_big_quiet_step (fail))
  go_big_quiet_step (exact r2 _ _)
  repeat (go_big_quiet_step (fail))
  go_big_quiet_step (exact r3 _ _)
  repeat (go_big_quiet_step (fail))
  go_big_quiet_step (exact r4 _ _)
  repeat (go_big_quiet_step (fail))
  go_big_quiet_step (exact r5 _ _)
  repeat (go_big_quiet_step (fail))
  go_big_quiet_step (exact r6 _ _)
  repeat (go_big_quiet_step (fail))
  refine wpQuiet_nil ?_
  intro w8 hw'
  have hb8 := below_of_regrown hw'
  clear hw' r0 r1 r2 r3 r4 r5 r6 kA0 kA1 kB0 kB1 kC0 kC1 kD0 kD1
  have A_8 := A_7.below hb8 A_7.lt
  have B_8 := B_7.below hb8 B_7.lt
  have C_8 := C_7.below hb8 C_7.lt
  have D_8 := D_7.below hb8 D_7.lt
  have hB8 := hB7.trans (hb8.mono hB7.size)
  clear hb8 hB7 A_7 B_7 C_7 D_7
  have qA0 := A_8.cell0
  have qA1 := A_8.cell1
  have qB0 := B_8.cell0
  have qB1 := B_8.cell1
  have qC0 := C_8.cell0
  have qC1 := C_8.cell1
  have qD0 := D_8.cell0
  have qD1 := D_8.cell1
  clear qA0 qA1 qB0 qB1 qC0 qC1 qD0 qD1
  go_wp2
  go_ret
  exact ⟨rfl, hB8⟩
theorem walkLabelRises (a ia : ByteArray) (ha : a.size ≤ maxLen) (ka : ia.size ≤ maxLen) (b ib : ByteArray) (hb : b.size ≤ maxLen) (kb : ib.size ≤ maxLen) (c ic : ByteArray) (hc : c.size ≤ maxLen) (kc : ic.size ≤ maxLen) (d id : ByteArray) (hd : d.size ≤ maxLen) (kd : id.size ≤ maxLen) (w : World) (hL : Letters w) :
    Calls Tryd.prog 6 #[.agg #[.string a, .string ia], .agg #[.string b, .string ib], .agg #[.string c, .string ic], .agg #[.string d, .string id]] w fun e w' => e = .returned (.bool true) ∧ Below w.heap.size w w' := by
  exact walkPLabelRises (a.data.toList, ia.data.toList) ha ka (b.data.toList, ib.data.toList) hb kb (c.data.toList, ic.data.toList) hc kc (d.data.toList, id.data.toList) hd kd w hL
end Go.Proofs.YtiagoiannccdmaaDoor
