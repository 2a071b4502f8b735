/- The walk of LabelLaws. Conditions: the sizes of what came in; the table of letters holds its text. -/
import Derived.Test.YtiagoiannccdmaaDoorLabPre3
import Derived.Test.YtiagoiannccdmaaDoorEx3
import Derived.BigQuiet
namespace Go.Proofs.YtiagoiannccdmaaDoor
open Go.RowKit Go.Shelf
attribute [local go_sem] str_list str_size
attribute [local go_sem high] eql_label neq_label
set_option maxRecDepth 100000 in
set_option maxHeartbeats 8000000 in
theorem walkPLabelLaws (a : Lz.Lab) (ha1 : a.1.length ≤ maxLen) (ha2 : a.2.length ≤ maxLen) (b : Lz.Lab) (hb1 : b.1.length ≤ maxLen) (hb2 : b.2.length ≤ maxLen) (c : Lz.Lab) (hc1 : c.1.length ≤ maxLen) (hc2 : c.2.length ≤ maxLen) (w : World) (hL : Letters w) :
    Calls Tryd.prog 5 #[pv a, pv b, pv c] w fun e w' => e = .returned (.bool true) ∧ Below w.heap.size w w' := by
  have mixed := mixedOrders
  have HL := Lib.hid hL
  clear hL
  have HSa := Lib.hid (small_p a ha1 ha2)
  have oka := okL_sm a
  generalize hsa : sm a = qa at HSa oka
  clear hsa
  have HSb := Lib.hid (small_p b hb1 hb2)
  have okb := okL_sm b
  generalize hsb : sm b = qb at HSb okb
  clear hsb
  have HSc := Lib.hid (small_p c hc1 hc2)
  have okc := okL_sm c
  generalize hsc : sm c = qc at HSc okc
  clear hsc
  obtain ⟨n, hn⟩ : ∃ n, Lz.nrm qa = n := ⟨_, rfl⟩
  have okn : okL n := by rw [← hn]; exact okL_nrm _
  obtain ⟨nb, hnb⟩ : ∃ nb, Lz.nrm qb = nb := ⟨_, rfl⟩
  have oknb : okL nb := by rw [← hnb]; exact okL_nrm _
  obtain ⟨p, hp⟩ : ∃ p, Lz.jn qa qb = p := ⟨_, rfl⟩
  have okp : okL p := by rw [← hp]; exact okL_jn _ _
  obtain ⟨o, ho⟩ : ∃ o, Lz.mt qa qb = o := ⟨_, rfl⟩
  have oko : okL o := by rw [← ho]; exact okL_mt _ _
  obtain ⟨r, hr⟩ : ∃ r, Lz.jn qb qc = r := ⟨_, rfl⟩
  have okr : okL r := by rw [← hr]; exact okL_jn _ _
  obtain ⟨v, hv⟩ : ∃ v, Lz.mt qb qc = v := ⟨_, rfl⟩
  have okv : okL v := by rw [← hv]; exact okL_mt _ _
  obtain ⟨s, hs⟩ : ∃ s, Lz.jn qa r = s := ⟨_, rfl⟩
  have oks : okL s := by rw [← hs]; exact okL_jn _ _
  obtain ⟨t, ht⟩ : ∃ t, Lz.mt qa v = t := ⟨_, rfl⟩
  have okt : okL t := by rw [← ht]; exact okL_mt _ _
  obtain ⟨f, hf⟩ : ∃ f, Lz.fl qa qb = f := ⟨_, rfl⟩
  have H1 := Lib.hid (show Lz.nrm qa = n from hn)
  have H2 := Lib.hid (show Lz.jn qa qb = p from hp)
  have H3 := Lib.hid (show Lz.jn qb qa = p from (Lz.jn_comm _ _).trans hp)
  have H4 := Lib.hid (show Lz.mt qa qb = o from ho)
  have H5 := Lib.hid (show Lz.mt qb qa = o from (Lz.mt_comm _ _).trans ho)
  have H6 := Lib.hid (show Lz.jn qa qa = n from (Lz.jn_self _).trans hn)
  have H7 := Lib.hid (show Lz.mt qa qa = n from (Lz.mt_self _).trans hn)
  have H8 := Lib.hid (show Lz.jn qa o = n from by rw [← ho, ← hn]; exact Lz.jn_mt _ _)
  have H9 := Lib.hid (show Lz.mt qa p = n from by rw [← hp, ← hn]; exact Lz.mt_jn _ _)
  have H10 := Lib.hid (show Lz.jn qb qc = r from hr)
  have H11 := Lib.hid (show Lz.jn qa r = s from hs)
  have H12 := Lib.hid (show Lz.jn p qc = s from by rw [← hp, ← hs, ← hr]; exact (Lz.jn_assoc _ _ _).symm)
  have H13 := Lib.hid (show Lz.mt qb qc = v from hv)
  have H14 := Lib.hid (show Lz.mt qa v = t from ht)
  have H15 := Lib.hid (show Lz.mt o qc = t from by rw [← ho, ← ht, ← hv]; exact (Lz.mt_assoc _ _ _).symm)
  have H16 := Lib.hid (show Lz.fl qa qb = f from hf)
  have H17 := Lib.hid (show (p == nb) = f from by rw [← hp, ← hnb, ← hf]; exact (Lz.fl_jn_eq _ _).symm)
  have H18 := Lib.hid (show (o == n) = f from by rw [← ho, ← hn, ← hf]; exact (Lz.fl_mt_eq _ _).symm)
  have H19 := Lib.hid (show Lz.nrm qb = nb from hnb)
  have H20 := Lib.hid (show Lz.jn qa Lz.low = n from (Lz.jn_low _).trans hn)
  have H21 := Lib.hid (show Lz.mt qa Lz.high = n from (Lz.mt_high _).trans hn)
  clear hn hnb hp ho hr hv hs ht hf
  obtain ⟨A_0, B_0, C_0, hB0⟩ := alloc3P w a b c
  have qA0 := A_0.cell0
  have qA1 := A_0.cell1
  have qB0 := B_0.cell0
  have qB1 := B_0.cell1
  have qC0 := C_0.cell0
  have qC1 := C_0.cell1
  go_enter Tryd.func5, Tryd.ntmps5
  go_wp2_with fail
  generalize (((w.alloc (.cells #[.string (str a.1), .string (str a.2)] 24)).alloc (.cells #[.string (str b.1), .string (str b.2)] 24)).alloc (.cells #[.string (str c.1), .string (str c.2)] 24)) = w0 at *
  have HEX := Lib.hid (fun W hL => examples3_any W hL)
  refine (HEX.out _ (HL.out.behind hB0)).mono ?_
  rintro e w1 ⟨rfl, hb1⟩
  clear qA0 qA1 qB0 qB1 qC0 qC1
  have A_1 := A_0.below hb1 A_0.lt
  have B_1 := B_0.below hb1 B_0.lt
  have C_1 := C_0.below hb1 C_0.lt
  have hB1 := hB0.trans (hb1.mono hB0.size)
  clear hb1 hB0 A_0 B_0 C_0
  have qA0 := A_1.cell0
  have qA1 := A_1.cell1
  have qB0 := B_1.cell0
  have qB1 := B_1.cell1
  have qC0 := C_1.cell0
  have qC1 := C_1.cell1
  go_wp2_with fail
  refine (HSa.out _).mono ?_
  rintro e w2 ⟨rfl, hb2⟩
  clear qA0 qA1 qB0 qB1 qC0 qC1
  have A_2 := A_1.below hb2 A_1.lt
  have B_2 := B_1.below hb2 B_1.lt
  have C_2 := C_1.below hb2 C_1.lt
  have hB2 := hB1.trans (hb2.mono hB1.size)
  clear hb2 hB1 A_1 B_1 C_1
  have qA0 := A_2.cell0
  have qA1 := A_2.cell1
  have qB0 := B_2.cell0
  have qB1 := B_2.cell1
  have qC0 := C_2.cell0
  have qC1 := C_2.cell1
  have f0 := A_2.frozen 0
  have f1 := A_2.frozen 1
  go_wp2_with fail
  have A_s : BoxL ((w2.setCell ⟨w.heap.size, 0, none⟩ (.string (str qa.1))).setCell ⟨w.heap.size, 1, none⟩ (.string (str qa.2))) w.heap.size qa := box2_set1 (box2_set0 A_2)
  have B_s : BoxL ((w2.setCell ⟨w.heap.size, 0, none⟩ (.string (str qa.1))).setCell ⟨w.heap.size, 1, none⟩ (.string (str qa.2))) (w.heap.size + 1) b := other2 (by omega) B_2 _ _
  have C_s : BoxL ((w2.setCell ⟨w.heap.size, 0, none⟩ (.string (str qa.1))).setCell ⟨w.heap.size, 1, none⟩ (.string (str qa.2))) (w.heap.size + 1 + 1) c := other2 (by omega) C_2 _ _
  have hs := (hB2.setCell (p := ⟨w.heap.size, 0, none⟩) (show w.heap.size ≤ w.heap.size by omega) (.string (str qa.1))).setCell (p := ⟨w.heap.size, 1, none⟩) (show w.heap.size ≤ w.heap.size by omega) (.string (str qa.2))
  clear qA0 qA1 qB0 qB1 qC0 qC1 f0 f1 hB2 A_2 B_2 C_2
  generalize ((w2.setCell ⟨w.heap.size, 0, none⟩ (.string (str qa.1))).setCell ⟨w.heap.size, 1, none⟩ (.string (str qa.2))) = w3 at hs A_s B_s C_s ⊢
  have A_3 := A_s
  have B_3 := B_s
  have C_3 := C_s
  have hB3 := hs
  clear hs A_s B_s C_s
  have qA0 := A_3.cell0
  have qA1 := A_3.cell1
  have qB0 := B_3.cell0
  have qB1 := B_3.cell1
  have qC0 := C_3.cell0
  have qC1 := C_3.cell1
  go_wp2_with fail
  refine (HSb.out _).mono ?_
  rintro e w4 ⟨rfl, hb4⟩
  clear qA0 qA1 qB0 qB1 qC0 qC1
  have A_4 := A_3.below hb4 A_3.lt
  have B_4 := B_3.below hb4 B_3.lt
  have C_4 := C_3.below hb4 C_3.lt
  have hB4 := hB3.trans (hb4.mono hB3.size)
  clear hb4 hB3 A_3 B_3 C_3
  have qA0 := A_4.cell0
  have qA1 := A_4.cell1
  have qB0 := B_4.cell0
  have qB1 := B_4.cell1
  have qC0 := C_4.cell0
  have qC1 := C_4.cell1
  have f0 := B_4.frozen 0
  have f1 := B_4.frozen 1
  go_wp2_with fail
  have B_s : BoxL ((w4.setCell ⟨(w.heap.size + 1), 0, none⟩ (.string (str qb.1))).setCell ⟨(w.heap.size + 1), 1, none⟩ (.string (str qb.2))) (w.heap.size + 1) qb := box2_set1 (box2_set0 B_4)
  have A_s : BoxL ((w4.setCell ⟨(w.heap.size + 1), 0, none⟩ (.string (str qb.1))).setCell ⟨(w.heap.size + 1), 1, none⟩ (.string (str qb.2))) w.heap.size qa := other2 (by omega) A_4 _ _
  have C_s : BoxL ((w4.setCell ⟨(w.heap.size + 1), 0, none⟩ (.string (str qb.1))).setCell ⟨(w.heap.size + 1), 1, none⟩ (.string (str qb.2))) (w.heap.size + 1 + 1) c := other2 (by omega) C_4 _ _
  have hs := (hB4.setCell (p := ⟨(w.heap.size + 1), 0, none⟩) (show w.heap.size ≤ (w.heap.size + 1) by omega) (.string (str qb.1))).setCell (p := ⟨(w.heap.size + 1), 1, none⟩) (show w.heap.size ≤ (w.heap.size + 1) by omega) (.string (str qb.2))
  clear qA0 qA1 qB0 qB1 qC0 qC1 f0 f1 hB4 A_4 B_4 C_4
  generalize ((w4.setCell ⟨(w.heap.size + 1), 0, none⟩ (.string (str qb.1))).setCell ⟨(w.heap.size + 1), 1, none⟩ (.string (str qb.2))) = w5 at hs A_s B_s C_s ⊢
  have A_5 := A_s
  have B_5 := B_s
  have C_5 := C_s
  have hB5 := hs
  clear hs A_s B_s C_s
  have qA0 := A_5.cell0
  have qA1 := A_5.cell1
  have qB0 := B_5.cell0
  have qB1 := B_5.cell1
  have qC0 := C_5.cell0
  have qC1 := C_5.cell1
  go_wp2_with fail
  refine (HSc.out _).mono ?_
  rintro e w6 ⟨rfl, hb6⟩
  clear qA0 qA1 qB0 qB1 qC0 qC1
  have A_6 := A_5.below hb6 A_5.lt
  have B_6 := B_5.below hb6 B_5.lt
  have C_6 := C_5.below hb6 C_5.lt
  have hB6 := hB5.trans (hb6.mono hB5.size)
  clear hb6 hB5 A_5 B_5 C_5
  have qA0 := A_6.cell0
  have qA1 := A_6.cell1
  have qB0 := B_6.cell0
  have qB1 := B_6.cell1
  have qC0 := C_6.cell0
  have qC1 := C_6.cell1
  have f0 := C_6.frozen 0
  have f1 := C_6.frozen 1
  go_wp2_with fail
  have C_s : BoxL ((w6.setCell ⟨(w.heap.size + 1 + 1), 0, none⟩ (.string (str qc.1))).setCell ⟨(w.heap.size + 1 + 1), 1, none⟩ (.string (str qc.2))) (w.heap.size + 1 + 1) qc := box2_set1 (box2_set0 C_6)
  have A_s : BoxL ((w6.setCell ⟨(w.heap.size + 1 + 1), 0, none⟩ (.string (str qc.1))).setCell ⟨(w.heap.size + 1 + 1), 1, none⟩ (.string (str qc.2))) w.heap.size qa := other2 (by omega) A_6 _ _
  have B_s : BoxL ((w6.setCell ⟨(w.heap.size + 1 + 1), 0, none⟩ (.string (str qc.1))).setCell ⟨(w.heap.size + 1 + 1), 1, none⟩ (.string (str qc.2))) (w.heap.size + 1) qb := other2 (by omega) B_6 _ _
  have hs := (hB6.setCell (p := ⟨(w.heap.size + 1 + 1), 0, none⟩) (show w.heap.size ≤ (w.heap.size + 1 + 1) by omega) (.string (str qc.1))).setCell (p := ⟨(w.heap.size + 1 + 1), 1, none⟩) (show w.heap.size ≤ (w.heap.size + 1 + 1) by omega) (.string (str qc.2))
  clear qA0 qA1 qB0 qB1 qC0 qC1 f0 f1 hB6 A_6 B_6 C_6
  generalize ((w6.setCell ⟨(w.heap.size + 1 + 1), 0, none⟩ (.string (str qc.1))).setCell ⟨(w.heap.size + 1 + 1), 1, none⟩ (.string (str qc.2))) = w7 at hs A_s B_s C_s ⊢
  have A_7 := A_s
  have B_7 := B_s
  have C_7 := C_s
  have hB7 := hs
  clear hs A_s B_s C_s
  have qA0 := A_7.cell0
  have qA1 := A_7.cell1
  have qB0 := B_7.cell0
  have qB1 := B_7.cell1
  have qC0 := C_7.cell0
  have qC1 := C_7.cell1
  go_wp2_with fail
  refine (nrmE _ qa n oka H1.out).mono ?_
  rintro e w8 ⟨rfl, hb8⟩
  clear qA0 qA1 qB0 qB1 qC0 qC1
  have A_8 := A_7.below hb8 A_7.lt
  have B_8 := B_7.below hb8 B_7.lt
  have C_8 := C_7.below hb8 C_7.lt
  have hB8 := hB7.trans (hb8.mono hB7.size)
  clear hb8 hB7 A_7 B_7 C_7
  have qA0 := A_8.cell0
  have qA1 := A_8.cell1
  have qB0 := B_8.cell0
  have qB1 := B_8.cell1
  have qC0 := C_8.cell0
  have qC1 := C_8.cell1
  clear qA0 qA1 qB0 qB1 qC0 qC1
  have A_8_a := A_8.alloc (.cells #[.string (str n.1), .string (str n.2)] 24)
  have B_8_a := B_8.alloc (.cells #[.string (str n.1), .string (str n.2)] 24)
  have C_8_a := C_8.alloc (.cells #[.string (str n.1), .string (str n.2)] 24)
  have N_a : BoxL (w8.alloc (.cells #[.string (str n.1), .string (str n.2)] 24)) w8.heap.size n := Box2.new w8 _ _ _
  have hB8a := hB8.alloc hB8.size (.cells #[.string (str n.1), .string (str n.2)] 24)
  clear hB8 A_8 B_8 C_8
  have qA0 := A_8_a.cell0
  have qA1 := A_8_a.cell1
  have qB0 := B_8_a.cell0
  have qB1 := B_8_a.cell1
  have qC0 := C_8_a.cell0
  have qC1 := C_8_a.cell1
  have qN0 := N_a.cell0
  have qN1 := N_a.cell1
  cases f with
  | true =>
    obtain rfl := eq_of_beq H17.out
    obtain rfl := eq_of_beq H18.out
    go_wp2_with fail
    clear qA0 qA1 qB0 qB1 qC0 qC1 qN0 qN1
    generalize (w8.alloc (.cells #[.string (str o.1), .string (str o.2)] 24)) = w9 at hB8a A_8_a B_8_a C_8_a N_a ⊢
    have kA0 := cell_regrown A_8_a.cell0
    have kA1 := cell_regrown A_8_a.cell1
    have kB0 := cell_regrown B_8_a.cell0
    have kB1 := cell_regrown B_8_a.cell1
    have kC0 := cell_regrown C_8_a.cell0
    have kC1 := cell_regrown C_8_a.cell1
    have kN0 := cell_regrown N_a.cell0
    have kN1 := cell_regrown N_a.cell1
    have r0 := quiet_call (w := w9) (fun W hb => jnE W qa qb p oka okb H2.out)
    have r1 := quiet_call (w := w9) (fun W hb => jnE W qb qa p okb oka H3.out)
    have r2 := quiet_call (w := w9) (fun W hb => mtE W qa qb o oka okb H4.out)
    have r3 := quiet_call (w := w9) (fun W hb => mtE W qb qa o okb oka H5.out)
    have r4 := quiet_call (w := w9) (fun W hb => jnE W qa qa o oka oka H6.out)
    have r5 := quiet_call (w := w9) (fun W hb => mtE W qa qa o oka oka H7.out)
    have r6 := quiet_call (w := w9) (fun W hb => jnE W qa o o oka oko H8.out)
    have r7 := quiet_call (w := w9) (fun W hb => mtE W qa p o oka okp H9.out)
    refine wp_region_quiet_below mixed (by kernel_rfl) ?_
    repeat (go_big_quiet_step (fail))
    go_big_quiet_step (exact r0 _ _)
    repeat (go_big_quiet_step (fail))
    go_big_quiet_step (exact r1 _ _)
    repeat (go_big_quiet_step (fail))
    go_big_quiet_step (exact r2 _ _)
    repeat (go_big_quiet_step (fail))
    go_big_quiet_step (exact r3 _ _)
    repeat (go_big_quiet_step (fail))
    go_big_quiet_step (exact r4 _ _)
    repeat (go_big_quiet_step (fail))
    go_big_quiet_step (exact r5 _ _)
    repeat (go_big_quiet_step (fail))
    go_big_quiet_step (exact r2 _ _)
    repeat (go_big_quiet_step (fail))
    go_big_quiet_step (exact r6 _ _)
    repeat (go_big_quiet_step (fail))
    go_big_quiet_step (exact r0 _ _)
    repeat (go_big_quiet_step (fail))
    go_big_quiet_step (exact r7 _ _)
    repeat (go_big_quiet_step (fail))
    refine wpQuiet_nil ?_
    intro w10 hw'
    have hb10 := below_of_regrown hw'
    clear hw' r0 r1 r2 r3 r4 r5 r6 r7 kA0 kA1 kB0 kB1 kC0 kC1 kN0 kN1
    have A_10 := A_8_a.below hb10 A_8_a.lt
    have B_10 := B_8_a.below hb10 B_8_a.lt
    have C_10 := C_8_a.below hb10 C_8_a.lt
    have N_10 := N_a.below hb10 N_a.lt
    have hB10 := hB8a.trans (hb10.mono hB8a.size)
    clear hb10 hB8a A_8_a B_8_a C_8_a N_a
    have qA0 := A_10.cell0
    have qA1 := A_10.cell1
    have qB0 := B_10.cell0
    have qB1 := B_10.cell1
    have qC0 := C_10.cell0
    have qC1 := C_10.cell1
    have qN0 := N_10.cell0
    have qN1 := N_10.cell1
    go_wp2_with fail
    clear qA0 qA1 qB0 qB1 qC0 qC1 qN0 qN1
    have kA0 := cell_regrown A_10.cell0
    have kA1 := cell_regrown A_10.cell1
    have kB0 := cell_regrown B_10.cell0
    have kB1 := cell_regrown B_10.cell1
    have kC0 := cell_regrown C_10.cell0
    have kC1 := cell_regrown C_10.cell1
    have kN0 := cell_regrown N_10.cell0
    have kN1 := cell_regrown N_10.cell1
    have r0 := quiet_call (w := w10) (fun W hb => jnE W qb qc r okb okc H10.out)
    have r1 := quiet_call (w := w10) (fun W hb => jnE W qa r s oka okr H11.out)
    have r2 := quiet_call (w := w10) (fun W hb => jnE W qa qb p oka okb H2.out)
    have r3 := quiet_call (w := w10) (fun W hb => jnE W p qc s okp okc H12.out)
    have r4 := quiet_call (w := w10) (fun W hb => mtE W qb qc v okb okc H13.out)
    have r5 := quiet_call (w := w10) (fun W hb => mtE W qa v t oka okv H14.out)
    have r6 := quiet_call (w := w10) (fun W hb => mtE W qa qb o oka okb H4.out)
    have r7 := quiet_call (w := w10) (fun W hb => mtE W o qc t oko okc H15.out)
    refine wp_region_quiet_below mixed (by kernel_rfl) ?_
    repeat (go_big_quiet_step (fail))
    go_big_quiet_step (exact r0 _ _)
    repeat (go_big_quiet_step (fail))
    go_big_quiet_step (exact r1 _ _)
    repeat (go_big_quiet_step (fail))
    go_big_quiet_step (exact r2 _ _)
    repeat (go_big_quiet_step (fail))
    go_big_quiet_step (exact r3 _ _)
    repeat (go_big_quiet_step (fail))
    go_big_quiet_step (exact r4 _ _)
    repeat (go_big_quiet_step (fail))
    go_big_quiet_step (exact r5 _ _)
    repeat (go_big_quiet_step (fail))
    go_big_quiet_step (exact r6 _ _)
    repeat (go_big_quiet_step (fail))
    go_big_quiet_step (exact r7 _ _)
    repeat (go_big_quiet_step (fail))
    refine wpQuiet_nil ?_
    intro w11 hw'
    have hb11 := below_of_regrown hw'
    clear hw' r0 r1 r2 r3 r4 r5 r6 r7 kA0 kA1 kB0 kB1 kC0 kC1 kN0 kN1
    have A_11 := A_10.below hb11 A_10.lt
    have B_11 := B_10.below hb11 B_10.lt
    have C_11 := C_10.below hb11 C_10.lt
    have N_11 := N_10.below hb11 N_10.lt
    have hB11 := hB10.trans (hb11.mono hB10.size)
    clear hb11 hB10 A_10 B_10 C_10 N_10
    have qA0 := A_11.cell0
    have qA1 := A_11.cell1
    have qB0 := B_11.cell0
    have qB1 := B_11.cell1
    have qC0 := C_11.cell0
    have qC1 := C_11.cell1
    have qN0 := N_11.cell0
    have qN1 := N_11.cell1
    go_wp2_with fail
    refine (flE _ qa qb true oka okb H16.out).mono ?_
    rintro e w12 ⟨rfl, hb12⟩
    clear qA0 qA1 qB0 qB1 qC0 qC1 qN0 qN1
    have A_12 := A_11.below hb12 A_11.lt
    have B_12 := B_11.below hb12 B_11.lt
    have C_12 := C_11.below hb12 C_11.lt
    have N_12 := N_11.below hb12 N_11.lt
    have hB12 := hB11.trans (hb12.mono hB11.size)
    clear hb12 hB11 A_11 B_11 C_11 N_11
    have qA0 := A_12.cell0
    have qA1 := A_12.cell1
    have qB0 := B_12.cell0
    have qB1 := B_12.cell1
    have qC0 := C_12.cell0
    have qC1 := C_12.cell1
    have qN0 := N_12.cell0
    have qN1 := N_12.cell1
    go_wp2_with fail
    clear qA0 qA1 qB0 qB1 qC0 qC1 qN0 qN1
    have kA0 := cell_regrown A_12.cell0
    have kA1 := cell_regrown A_12.cell1
    have kB0 := cell_regrown B_12.cell0
    have kB1 := cell_regrown B_12.cell1
    have kC0 := cell_regrown C_12.cell0
    have kC1 := cell_regrown C_12.cell1
    have kN0 := cell_regrown N_12.cell0
    have kN1 := cell_regrown N_12.cell1
    have r0 := quiet_call (w := w12) (fun W hb => jnE W qa qb p oka okb H2.out)
    have r1 := quiet_call (w := w12) (fun W hb => nrmE W qb p okb H19.out)
    have r2 := quiet_call (w := w12) (fun W hb => mtE W qa qb o oka okb H4.out)
    have r3 := quiet_call (w := w12) (fun W hb => low_p W)
    have r4 := quiet_call (w := w12) (fun W hb => jnE W qa Lz.low o oka okLow H20.out)
    have r5 := quiet_call (w := w12) (fun W hb => high_p W)
    have r6 := quiet_call (w := w12) (fun W hb => mtE W qa Lz.high o oka okHigh H21.out)
    refine wp_region_quiet_below mixed (by kernel_rfl) ?_
    repeat (go_big_quiet_step (fail))
    go_big_quiet_step (exact r0 _ _)
    repeat (go_big_quiet_step (fail))
    go_big_quiet_step (exact r1 _ _)
    repeat (go_big_quiet_step (fail))
    go_big_quiet_step (exact r2 _ _)
    repeat (go_big_quiet_step (fail))
    go_big_quiet_step (exact r3 _ _)
    repeat (go_big_quiet_step (fail))
    go_big_quiet_step (exact r4 _ _)
    repeat (go_big_quiet_step (fail))
    go_big_quiet_step (exact r5 _ _)
    repeat (go_big_quiet_step (fail))
    go_big_quiet_step (exact r6 _ _)
    repeat (go_big_quiet_step (fail))
    refine wpQuiet_nil ?_
    intro w13 hw'
    have hb13 := below_of_regrown hw'
    clear hw' r0 r1 r2 r3 r4 r5 r6 kA0 kA1 kB0 kB1 kC0 kC1 kN0 kN1
    have A_13 := A_12.below hb13 A_12.lt
    have B_13 := B_12.below hb13 B_12.lt
    have C_13 := C_12.below hb13 C_12.lt
    have N_13 := N_12.below hb13 N_12.lt
    have hB13 := hB12.trans (hb13.mono hB12.size)
    clear hb13 hB12 A_12 B_12 C_12 N_12
    have qA0 := A_13.cell0
    have qA1 := A_13.cell1
    have qB0 := B_13.cell0
    have qB1 := B_13.cell1
    have qC0 := C_13.cell0
    have qC1 := C_13.cell1
    have qN0 := N_13.cell0
    have qN1 := N_13.cell1
    clear qA0 qA1 qB0 qB1 qC0 qC1 qN0 qN1
    go_wp2
    go_ret
    exact ⟨rfl, hB13⟩
  | false =>
    have e1 := lab_beq _ _ _ H17.out
    have e2 := lab_beq _ _ _ H18.out
    go_wp2_with fail
    clear qA0 qA1 qB0 qB1 qC0 qC1 qN0 qN1
    generalize (w8.alloc (.cells #[.string (str n.1), .string (str n.2)] 24)) = w9 at hB8a A_8_a B_8_a C_8_a N_a ⊢
    have kA0 := cell_regrown A_8_a.cell0
    have kA1 := cell_regrown A_8_a.cell1
    have kB0 := cell_regrown B_8_a.cell0
    have kB1 := cell_regrown B_8_a.cell1
    have kC0 := cell_regrown C_8_a.cell0
    have kC1 := cell_regrown C_8_a.cell1
    have kN0 := cell_regrown N_a.cell0
    have kN1 := cell_regrown N_a.cell1
    have r0 := quiet_call (w := w9) (fun W hb => jnE W qa qb p oka okb H2.out)
    have r1 := quiet_call (w := w9) (fun W hb => jnE W qb qa p okb oka H3.out)
    have r2 := quiet_call (w := w9) (fun W hb => mtE W qa qb o oka okb H4.out)
    have r3 := quiet_call (w := w9) (fun W hb => mtE W qb qa o okb oka H5.out)
    have r4 := quiet_call (w := w9) (fun W hb => jnE W qa qa n oka oka H6.out)
    have r5 := quiet_call (w := w9) (fun W hb => mtE W qa qa n oka oka H7.out)
    have r6 := quiet_call (w := w9) (fun W hb => jnE W qa o n oka oko H8.out)
    have r7 := quiet_call (w := w9) (fun W hb => mtE W qa p n oka okp H9.out)
    refine wp_region_quiet_below mixed (by kernel_rfl) ?_
    repeat (go_big_quiet_step (fail))
    go_big_quiet_step (exact r0 _ _)
    repeat (go_big_quiet_step (fail))
    go_big_quiet_step (exact r1 _ _)
    repeat (go_big_quiet_step (fail))
    go_big_quiet_step (exact r2 _ _)
    repeat (go_big_quiet_step (fail))
    go_big_quiet_step (exact r3 _ _)
    repeat (go_big_quiet_step (fail))
    go_big_quiet_step (exact r4 _ _)
    repeat (go_big_quiet_step (fail))
    go_big_quiet_step (exact r5 _ _)
    repeat (go_big_quiet_step (fail))
    go_big_quiet_step (exact r2 _ _)
    repeat (go_big_quiet_step (fail))
    go_big_quiet_step (exact r6 _ _)
    repeat (go_big_quiet_step (fail))
    go_big_quiet_step (exact r0 _ _)
    repeat (go_big_quiet_step (fail))
    go_big_quiet_step (exact r7 _ _)
    repeat (go_big_quiet_step (fail))
    refine wpQuiet_nil ?_
    intro w10 hw'
    have hb10 := below_of_regrown hw'
    clear hw' r0 r1 r2 r3 r4 r5 r6 r7 kA0 kA1 kB0 kB1 kC0 kC1 kN0 kN1
    have A_10 := A_8_a.below hb10 A_8_a.lt
    have B_10 := B_8_a.below hb10 B_8_a.lt
    have C_10 := C_8_a.below hb10 C_8_a.lt
    have N_10 := N_a.below hb10 N_a.lt
    have hB10 := hB8a.trans (hb10.mono hB8a.size)
    clear hb10 hB8a A_8_a B_8_a C_8_a N_a
    have qA0 := A_10.cell0
    have qA1 := A_10.cell1
    have qB0 := B_10.cell0
    have qB1 := B_10.cell1
    have qC0 := C_10.cell0
    have qC1 := C_10.cell1
    have qN0 := N_10.cell0
    have qN1 := N_10.cell1
    go_wp2_with fail
    clear qA0 qA1 qB0 qB1 qC0 qC1 qN0 qN1
    have kA0 := cell_regrown A_10.cell0
    have kA1 := cell_regrown A_10.cell1
    have kB0 := cell_regrown B_10.cell0
    have kB1 := cell_regrown B_10.cell1
    have kC0 := cell_regrown C_10.cell0
    have kC1 := cell_regrown C_10.cell1
    have kN0 := cell_regrown N_10.cell0
    have kN1 := cell_regrown N_10.cell1
    have r0 := quiet_call (w := w10) (fun W hb => jnE W qb qc r okb okc H10.out)
    have r1 := quiet_call (w := w10) (fun W hb => jnE W qa r s oka okr H11.out)
    have r2 := quiet_call (w := w10) (fun W hb => jnE W qa qb p oka okb H2.out)
    have r3 := quiet_call (w := w10) (fun W hb => jnE W p qc s okp okc H12.out)
    have r4 := quiet_call (w := w10) (fun W hb => mtE W qb qc v okb okc H13.out)
    have r5 := quiet_call (w := w10) (fun W hb => mtE W qa v t oka okv H14.out)
    have r6 := quiet_call (w := w10) (fun W hb => mtE W qa qb o oka okb H4.out)
    have r7 := quiet_call (w := w10) (fun W hb => mtE W o qc t oko okc H15.out)
    refine wp_region_quiet_below mixed (by kernel_rfl) ?_
    repeat (go_big_quiet_step (fail))
    go_big_quiet_step (exact r0 _ _)
    repeat (go_big_quiet_step (fail))
    go_big_quiet_step (exact r1 _ _)
    repeat (go_big_quiet_step (fail))
    go_big_quiet_step (exact r2 _ _)
    repeat (go_big_quiet_step (fail))
    go_big_quiet_step (exact r3 _ _)
    repeat (go_big_quiet_step (fail))
    go_big_quiet_step (exact r4 _ _)
    repeat (go_big_quiet_step (fail))
    go_big_quiet_step (exact r5 _ _)
    repeat (go_big_quiet_step (fail))
    go_big_quiet_step (exact r6 _ _)
    repeat (go_big_quiet_step (fail))
    go_big_quiet_step (exact r7 _ _)
    repeat (go_big_quiet_step (fail))
    refine wpQuiet_nil ?_
    intro w11 hw'
    have hb11 := below_of_regrown hw'
    clear hw' r0 r1 r2 r3 r4 r5 r6 r7 kA0 kA1 kB0 kB1 kC0 kC1 kN0 kN1
    have A_11 := A_10.below hb11 A_10.lt
    have B_11 := B_10.below hb11 B_10.lt
    have C_11 := C_10.below hb11 C_10.lt
    have N_11 := N_10.below hb11 N_10.lt
    have hB11 := hB10.trans (hb11.mono hB10.size)
    clear hb11 hB10 A_10 B_10 C_10 N_10
    have qA0 := A_11.cell0
    have qA1 := A_11.cell1
    have qB0 := B_11.cell0
    have qB1 := B_11.cell1
    have qC0 := C_11.cell0
    have qC1 := C_11.cell1
    have qN0 := N_11.cell0
    have qN1 := N_11.cell1
    go_wp2_with fail
    refine (flE _ qa qb false oka okb H16.out).mono ?_
    rintro e w12 ⟨rfl, hb12⟩
    clear qA0 qA1 qB0 qB1 qC0 qC1 qN0 qN1
    have A_12 := A_11.below hb12 A_11.lt
    have B_12 := B_11.below hb12 B_11.lt
    have C_12 := C_11.below hb12 C_11.lt
    have N_12 := N_11.below hb12 N_11.lt
    have hB12 := hB11.trans (hb12.mono hB11.size)
    clear hb12 hB11 A_11 B_11 C_11 N_11
    have qA0 := A_12.cell0
    have qA1 := A_12.cell1
    have qB0 := B_12.cell0
    have qB1 := B_12.cell1
    have qC0 := C_12.cell0
    have qC1 := C_12.cell1
    have qN0 := N_12.cell0
    have qN1 := N_12.cell1
    go_wp2_with fail
    clear qA0 qA1 qB0 qB1 qC0 qC1 qN0 qN1
    have kA0 := cell_regrown A_12.cell0
    have kA1 := cell_regrown A_12.cell1
    have kB0 := cell_regrown B_12.cell0
    have kB1 := cell_regrown B_12.cell1
    have kC0 := cell_regrown C_12.cell0
    have kC1 := cell_regrown C_12.cell1
    have kN0 := cell_regrown N_12.cell0
    have kN1 := cell_regrown N_12.cell1
    have r0 := quiet_call (w := w12) (fun W hb => jnE W qa qb p oka okb H2.out)
    have r1 := quiet_call (w := w12) (fun W hb => nrmE W qb nb okb H19.out)
    have r2 := quiet_call (w := w12) (fun W hb => mtE W qa qb o oka okb H4.out)
    have r3 := quiet_call (w := w12) (fun W hb => low_p W)
    have r4 := quiet_call (w := w12) (fun W hb => jnE W qa Lz.low n oka okLow H20.out)
    have r5 := quiet_call (w := w12) (fun W hb => high_p W)
    have r6 := quiet_call (w := w12) (fun W hb => mtE W qa Lz.high n oka okHigh H21.out)
    refine wp_region_quiet_below mixed (by kernel_rfl) ?_
    repeat (go_big_quiet_step (fail))
    go_big_quiet_step (exact r0 _ _)
    repeat (go_big_quiet_step (fail))
    go_big_quiet_step (exact r1 _ _)
    repeat (go_big_quiet_step (fail))
    go_big_quiet_step (exact r2 _ _)
    repeat (go_big_quiet_step (fail))
    go_big_quiet_step (exact r3 _ _)
    repeat (go_big_quiet_step (fail))
    go_big_quiet_step (exact r4 _ _)
    repeat (go_big_quiet_step (fail))
    go_big_quiet_step (exact r5 _ _)
    repeat (go_big_quiet_step (fail))
    go_big_quiet_step (exact r6 _ _)
    repeat (go_big_quiet_step (fail))
    refine wpQuiet_nil ?_
    intro w13 hw'
    have hb13 := below_of_regrown hw'
    clear hw' r0 r1 r2 r3 r4 r5 r6 kA0 kA1 kB0 kB1 kC0 kC1 kN0 kN1
    have A_13 := A_12.below hb13 A_12.lt
    have B_13 := B_12.below hb13 B_12.lt
    have C_13 := C_12.below hb13 C_12.lt
    have N_13 := N_12.below hb13 N_12.lt
    have hB13 := hB12.trans (hb13.mono hB12.size)
    clear hb13 hB12 A_12 B_12 C_12 N_12
    have qA0 := A_13.cell0
    have qA1 := A_13.cell1
    have qB0 := B_13.cell0
    have qB1 := B_13.cell1
    have qC0 := C_13.cell0
    have qC1 := C_13.cell1
    have qN0 := N_13.cell0
    have qN1 := N_13.cell1
    clear qA0 qA1 qB0 qB1 qC0 qC1 qN0 qN1
    go_wp2
    go_ret
    exact ⟨rfl, hB13⟩
theorem walkLabelLaws (a ia : ByteArray) (ha : a.size ≤ maxLen) (ka : ia.size ≤ maxLen) (b ib : ByteArray) (hb : b.size ≤ maxLen) (kb : ib.size ≤ maxLen) (c ic : ByteArray) (hc : c.size ≤ maxLen) (kc : ic.size ≤ maxLen) (w : World) (hL : Letters w) :
    Calls Tryd.prog 5 #[.agg #[.string a, .string ia], .agg #[.string b, .string ib], .agg #[.string c, .string ic]] w fun e w' => e = .returned (.bool true) ∧ Below w.heap.size w w' := by
  exact walkPLabelLaws (a.data.toList, ia.data.toList) ha ka (b.data.toList, ib.data.toList) hb kb (c.data.toList, ic.data.toList) hc kc w hL
end Go.Proofs.YtiagoiannccdmaaDoor
