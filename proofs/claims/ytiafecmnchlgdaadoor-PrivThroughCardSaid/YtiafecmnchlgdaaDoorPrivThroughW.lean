/- The walk of PrivThrough. Conditions: the sizes of what came in; the table of letters holds its text. -/
import Derived.Test.YtiafecmnchlgdaaDoorLabPre4
import Derived.Test.YtiafecmnchlgdaaDoorEx4
import Derived.BigQuiet
namespace Go.Proofs.YtiafecmnchlgdaaDoor
open Go.RowKit Go.Shelf
attribute [local go_sem] str_list str_size
attribute [local go_sem high] eql_label neq_label
set_option maxRecDepth 100000 in
set_option maxHeartbeats 8000000 in
theorem walkPPrivThrough (a : Lz.Lab) (ha1 : a.1.length ≤ maxLen) (ha2 : a.2.length ≤ maxLen) (b : Lz.Lab) (hb1 : b.1.length ≤ maxLen) (hb2 : b.2.length ≤ maxLen) (c : Lz.Lab) (hc1 : c.1.length ≤ maxLen) (hc2 : c.2.length ≤ maxLen) (p : UInt8) (q : UInt8) (w : World) (hL : Letters w) :
    Calls Tryd.prog 4 #[pv a, pv b, pv c, .int .u8 (p.toNat : Int), .int .u8 (q.toNat : Int)] w fun e w' => e = .returned (.bool true) ∧ Below w.heap.size w w' := by
  have mixed := mixedOrders
  have HL := Lib.hid hL
  clear hL
  have HSa := Lib.hid (small_p a ha1 ha2)
  have oka := okL_sm a
  generalize hsa : sm a = qa at HSa oka
  clear hsa
  have HSb := Lib.hid (small_p b hb1 hb2)
  have okb := okL_sm b
  generalize hsb : sm b = qb at HSb okb
  clear hsb
  have HSc := Lib.hid (small_p c hc1 hc2)
  have okc := okL_sm c
  generalize hsc : sm c = qc at HSc okc
  clear hsc
  obtain ⟨f1, hf1⟩ : ∃ f1, Lz.fb qa qb p = f1 := ⟨_, rfl⟩
  obtain ⟨f2, hf2⟩ : ∃ f2, Lz.fb qb qc p = f2 := ⟨_, rfl⟩
  obtain ⟨f3, hf3⟩ : ∃ f3, Lz.fb qa qc p = f3 := ⟨_, rfl⟩
  obtain ⟨d, hd⟩ : ∃ d, Lz.dr qa p = d := ⟨_, rfl⟩
  have okd : okL d := by rw [← hd]; exact okL_dr _ _
  obtain ⟨e, he⟩ : ∃ e, Lz.dr qa (p ||| q) = e := ⟨_, rfl⟩
  have oke : okL e := by rw [← he]; exact okL_dr _ _
  obtain ⟨r, hr⟩ : ∃ r, Lz.re qa p = r := ⟨_, rfl⟩
  have okr : okL r := by rw [← hr]; exact okL_re _ _
  obtain ⟨s, hs⟩ : ∃ s, Lz.re qa (p ||| q) = s := ⟨_, rfl⟩
  have oks : okL s := by rw [← hs]; exact okL_re _ _
  have HPQ := Lib.hid (show bits .or .u8 (p.toNat : Int) (q.toNat : Int) = ((p ||| q).toNat : Int) from bits_or_u8 p q)
  have H1 := Lib.hid (show Lz.fb qa qb p = f1 from hf1)
  have H2 := Lib.hid (show Lz.fb qb qc p = f2 from hf2)
  have H3 := Lib.hid (show Lz.fb qa qc p = f3 from hf3)
  have T := Lib.hid (show f1 = true → f2 = true → f3 = true from by rw [← hf1, ← hf2, ← hf3]; exact Lz.fb_trans)
  have H5 := Lib.hid (show Lz.dr qa p = d from hd)
  have H6 := Lib.hid (show Lz.dr qa (p ||| q) = e from he)
  have H7 := Lib.hid (show Lz.re qa p = r from hr)
  have H8 := Lib.hid (show Lz.re qa (p ||| q) = s from hs)
  have H9 := Lib.hid (show Lz.dr d q = e from by rw [← hd, ← he]; exact Lz.dr_dr _ _ _)
  have H10 := Lib.hid (show Lz.re r q = s from by rw [← hr, ← hs]; exact Lz.re_re _ _ _)
  clear hf1 hf2 hf3 hd he hr hs
  obtain ⟨A_0, B_0, C_0, hB0⟩ := alloc3P w a b c
  have qA0 := A_0.cell0
  have qA1 := A_0.cell1
  have qB0 := B_0.cell0
  have qB1 := B_0.cell1
  have qC0 := C_0.cell0
  have qC1 := C_0.cell1
  go_enter Tryd.func4, Tryd.ntmps4
  go_wp2_with fail
  generalize (((w.alloc (.cells #[.string (str a.1), .string (str a.2)] 24)).alloc (.cells #[.string (str b.1), .string (str b.2)] 24)).alloc (.cells #[.string (str c.1), .string (str c.2)] 24)) = w0 at *
  have HEX := Lib.hid (fun W hL => examples4_any W hL)
  refine (HEX.out _ (HL.out.behind hB0)).mono ?_
  rintro e w1 ⟨rfl, hb1⟩
  clear qA0 qA1 qB0 qB1 qC0 qC1
  have A_1 := A_0.below hb1 A_0.lt
  have B_1 := B_0.below hb1 B_0.lt
  have C_1 := C_0.below hb1 C_0.lt
  have hB1 := hB0.trans (hb1.mono hB0.size)
  clear hb1 hB0 A_0 B_0 C_0
  have qA0 := A_1.cell0
  have qA1 := A_1.cell1
  have qB0 := B_1.cell0
  have qB1 := B_1.cell1
  have qC0 := C_1.cell0
  have qC1 := C_1.cell1
  go_wp2_with fail
  refine (HSa.out _).mono ?_
  rintro e w2 ⟨rfl, hb2⟩
  clear qA0 qA1 qB0 qB1 qC0 qC1
  have A_2 := A_1.below hb2 A_1.lt
  have B_2 := B_1.below hb2 B_1.lt
  have C_2 := C_1.below hb2 C_1.lt
  have hB2 := hB1.trans (hb2.mono hB1.size)
  clear hb2 hB1 A_1 B_1 C_1
  have qA0 := A_2.cell0
  have qA1 := A_2.cell1
  have qB0 := B_2.cell0
  have qB1 := B_2.cell1
  have qC0 := C_2.cell0
  have qC1 := C_2.cell1
  have f0 := A_2.frozen 0
  have f1 := A_2.frozen 1
  go_wp2_with fail
  have A_s : BoxL ((w2.setCell ⟨w.heap.size, 0, none⟩ (.string (str qa.1))).setCell ⟨w.heap.size, 1, none⟩ (.string (str qa.2))) w.heap.size qa := box2_set1 (box2_set0 A_2)
  have B_s : BoxL ((w2.setCell ⟨w.heap.size, 0, none⟩ (.string (str qa.1))).setCell ⟨w.heap.size, 1, none⟩ (.string (str qa.2))) (w.heap.size + 1) b := other2 (by omega) B_2 _ _
  have C_s : BoxL ((w2.setCell ⟨w.heap.size, 0, none⟩ (.string (str qa.1))).setCell ⟨w.heap.size, 1, none⟩ (.string (str qa.2))) (w.heap.size + 1 + 1) c := other2 (by omega) C_2 _ _
  have hs := (hB2.setCell (p := ⟨w.heap.size, 0, none⟩) (show w.heap.size ≤ w.heap.size by omega) (.string (str qa.1))).setCell (p := ⟨w.heap.size, 1, none⟩) (show w.heap.size ≤ w.heap.size by omega) (.string (str qa.2))
  clear qA0 qA1 qB0 qB1 qC0 qC1 f0 f1 hB2 A_2 B_2 C_2
  generalize ((w2.setCell ⟨w.heap.size, 0, none⟩ (.string (str qa.1))).setCell ⟨w.heap.size, 1, none⟩ (.string (str qa.2))) = w3 at hs A_s B_s C_s ⊢
  have A_3 := A_s
  have B_3 := B_s
  have C_3 := C_s
  have hB3 := hs
  clear hs A_s B_s C_s
  have qA0 := A_3.cell0
  have qA1 := A_3.cell1
  have qB0 := B_3.cell0
  have qB1 := B_3.cell1
  have qC0 := C_3.cell0
  have qC1 := C_3.cell1
  go_wp2_with fail
  refine (HSb.out _).mono ?_
  rintro e w4 ⟨rfl, hb4⟩
  clear qA0 qA1 qB0 qB1 qC0 qC1
  have A_4 := A_3.below hb4 A_3.lt
  have B_4 := B_3.below hb4 B_3.lt
  have C_4 := C_3.below hb4 C_3.lt
  have hB4 := hB3.trans (hb4.mono hB3.size)
  clear hb4 hB3 A_3 B_3 C_3
  have qA0 := A_4.cell0
  have qA1 := A_4.cell1
  have qB0 := B_4.cell0
  have qB1 := B_4.cell1
  have qC0 := C_4.cell0
  have qC1 := C_4.cell1
  have f0 := B_4.frozen 0
  have f1 := B_4.frozen 1
  go_wp2_with fail
  have B_s : BoxL ((w4.setCell ⟨(w.heap.size + 1), 0, none⟩ (.string (str qb.1))).setCell ⟨(w.heap.size + 1), 1, none⟩ (.string (str qb.2))) (w.heap.size + 1) qb := box2_set1 (box2_set0 B_4)
  have A_s : BoxL ((w4.setCell ⟨(w.heap.size + 1), 0, none⟩ (.string (str qb.1))).setCell ⟨(w.heap.size + 1), 1, none⟩ (.string (str qb.2))) w.heap.size qa := other2 (by omega) A_4 _ _
  have C_s : BoxL ((w4.setCell ⟨(w.heap.size + 1), 0, none⟩ (.string (str qb.1))).setCell ⟨(w.heap.size + 1), 1, none⟩ (.string (str qb.2))) (w.heap.size + 1 + 1) c := other2 (by omega) C_4 _ _
  have hs := (hB4.setCell (p := ⟨(w.heap.size + 1), 0, none⟩) (show w.heap.size ≤ (w.heap.size + 1) by omega) (.string (str qb.1))).setCell (p := ⟨(w.heap.size + 1), 1, none⟩) (show w.heap.size ≤ (w.heap.size + 1) by omega) (.string (str qb.2))
  clear qA0 qA1 qB0 qB1 qC0 qC1 f0 f1 hB4 A_4 B_4 C_4
  generalize ((w4.setCell ⟨(w.heap.size + 1), 0, none⟩ (.string (str qb.1))).setCell ⟨(w.heap.size + 1), 1, none⟩ (.string (str qb.2))) = w5 at hs A_s B_s C_s ⊢
  have A_5 := A_s
  have B_5 := B_s
  have C_5 := C_s
  have hB5 := hs
  clear hs A_s B_s C_s
  have qA0 := A_5.cell0
  have qA1 := A_5.cell1
  have qB0 := B_5.cell0
  have qB1 := B_5.cell1
  have qC0 := C_5.cell0
  have qC1 := C_5.cell1
  go_wp2_with fail
  refine (HSc.out _).mono ?_
  rintro e w6 ⟨rfl, hb6⟩
  clear qA0 qA1 qB0 qB1 qC0 qC1
  have A_6 := A_5.below hb6 A_5.lt
  have B_6 := B_5.below hb6 B_5.lt
  have C_6 := C_5.below hb6 C_5.lt
  have hB6 := hB5.trans (hb6.mono hB5.size)
  clear hb6 hB5 A_5 B_5 C_5
  have qA0 := A_6.cell0
  have qA1 := A_6.cell1
  have qB0 := B_6.cell0
  have qB1 := B_6.cell1
  have qC0 := C_6.cell0
  have qC1 := C_6.cell1
  have f0 := C_6.frozen 0
  have f1 := C_6.frozen 1
  go_wp2_with fail
  have C_s : BoxL ((w6.setCell ⟨(w.heap.size + 1 + 1), 0, none⟩ (.string (str qc.1))).setCell ⟨(w.heap.size + 1 + 1), 1, none⟩ (.string (str qc.2))) (w.heap.size + 1 + 1) qc := box2_set1 (box2_set0 C_6)
  have A_s : BoxL ((w6.setCell ⟨(w.heap.size + 1 + 1), 0, none⟩ (.string (str qc.1))).setCell ⟨(w.heap.size + 1 + 1), 1, none⟩ (.string (str qc.2))) w.heap.size qa := other2 (by omega) A_6 _ _
  have B_s : BoxL ((w6.setCell ⟨(w.heap.size + 1 + 1), 0, none⟩ (.string (str qc.1))).setCell ⟨(w.heap.size + 1 + 1), 1, none⟩ (.string (str qc.2))) (w.heap.size + 1) qb := other2 (by omega) B_6 _ _
  have hs := (hB6.setCell (p := ⟨(w.heap.size + 1 + 1), 0, none⟩) (show w.heap.size ≤ (w.heap.size + 1 + 1) by omega) (.string (str qc.1))).setCell (p := ⟨(w.heap.size + 1 + 1), 1, none⟩) (show w.heap.size ≤ (w.heap.size + 1 + 1) by omega) (.string (str qc.2))
  clear qA0 qA1 qB0 qB1 qC0 qC1 f0 f1 hB6 A_6 B_6 C_6
  generalize ((w6.setCell ⟨(w.heap.size + 1 + 1), 0, none⟩ (.string (str qc.1))).setCell ⟨(w.heap.size + 1 + 1), 1, none⟩ (.string (str qc.2))) = w7 at hs A_s B_s C_s ⊢
  have A_7 := A_s
  have B_7 := B_s
  have C_7 := C_s
  have hB7 := hs
  clear hs A_s B_s C_s
  have qA0 := A_7.cell0
  have qA1 := A_7.cell1
  have qB0 := B_7.cell0
  have qB1 := B_7.cell1
  have qC0 := C_7.cell0
  have qC1 := C_7.cell1
  cases f1 with
  | true =>
    cases f2 with
    | true =>
      obtain rfl := T.out (by trivial) (by trivial)
      go_wp2_with fail
      refine (fbE _ qa qb true _ p rfl oka okb H1.out).mono ?_
      rintro e w8 ⟨rfl, hb8⟩
      clear qA0 qA1 qB0 qB1 qC0 qC1
      have A_8 := A_7.below hb8 A_7.lt
      have B_8 := B_7.below hb8 B_7.lt
      have C_8 := C_7.below hb8 C_7.lt
      have hB8 := hB7.trans (hb8.mono hB7.size)
      clear hb8 hB7 A_7 B_7 C_7
      have qA0 := A_8.cell0
      have qA1 := A_8.cell1
      have qB0 := B_8.cell0
      have qB1 := B_8.cell1
      have qC0 := C_8.cell0
      have qC1 := C_8.cell1
      go_wp2_with fail
      refine (fbE _ qb qc true _ p rfl okb okc H2.out).mono ?_
      rintro e w9 ⟨rfl, hb9⟩
      clear qA0 qA1 qB0 qB1 qC0 qC1
      have A_9 := A_8.below hb9 A_8.lt
      have B_9 := B_8.below hb9 B_8.lt
      have C_9 := C_8.below hb9 C_8.lt
      have hB9 := hB8.trans (hb9.mono hB8.size)
      clear hb9 hB8 A_8 B_8 C_8
      have qA0 := A_9.cell0
      have qA1 := A_9.cell1
      have qB0 := B_9.cell0
      have qB1 := B_9.cell1
      have qC0 := C_9.cell0
      have qC1 := C_9.cell1
      go_wp2_with fail
      refine (fbE _ qa qc true _ p rfl oka okc H3.out).mono ?_
      rintro e w10 ⟨rfl, hb10⟩
      clear qA0 qA1 qB0 qB1 qC0 qC1
      have A_10 := A_9.below hb10 A_9.lt
      have B_10 := B_9.below hb10 B_9.lt
      have C_10 := C_9.below hb10 C_9.lt
      have hB10 := hB9.trans (hb10.mono hB9.size)
      clear hb10 hB9 A_9 B_9 C_9
      have qA0 := A_10.cell0
      have qA1 := A_10.cell1
      have qB0 := B_10.cell0
      have qB1 := B_10.cell1
      have qC0 := C_10.cell0
      have qC1 := C_10.cell1
      go_wp2_with fail
      clear qA0 qA1 qB0 qB1 qC0 qC1
      have kA0 := cell_regrown A_10.cell0
      have kA1 := cell_regrown A_10.cell1
      have kB0 := cell_regrown B_10.cell0
      have kB1 := cell_regrown B_10.cell1
      have kC0 := cell_regrown C_10.cell0
      have kC1 := cell_regrown C_10.cell1
      have r0 := quiet_call (w := w10) (fun W hb => drE W qa d _ p rfl oka H5.out)
      have r1 := quiet_call (w := w10) (fun W hb => drE W d e _ q rfl okd H9.out)
      have r2 := quiet_call (w := w10) (fun W hb => drE W qa e _ (p ||| q) HPQ.out oka H6.out)
      have r3 := quiet_call (w := w10) (fun W hb => reE W qa r _ p rfl oka H7.out)
      have r4 := quiet_call (w := w10) (fun W hb => reE W r s _ q rfl okr H10.out)
      have r5 := quiet_call (w := w10) (fun W hb => reE W qa s _ (p ||| q) HPQ.out oka H8.out)
      refine wp_region_quiet_below mixed (by kernel_rfl) ?_
      repeat (go_big_quiet_step (fail))
      go_big_quiet_step (exact r0 _ _)
      repeat (go_big_quiet_step (fail))
      go_big_quiet_step (exact r1 _ _)
      repeat (go_big_quiet_step (fail))
      go_big_quiet_step (exact r2 _ _)
      repeat (go_big_quiet_step (fail))
      go_big_quiet_step (exact r3 _ _)
      repeat (go_big_quiet_step (fail))
      go_big_quiet_step (exact r4 _ _)
      repeat (go_big_quiet_step (fail))
      go_big_quiet_step (exact r5 _ _)
      repeat (go_big_quiet_step (fail))
      refine wpQuiet_nil ?_
      intro w11 hw'
      have hb11 := below_of_regrown hw'
      clear hw' r0 r1 r2 r3 r4 r5 kA0 kA1 kB0 kB1 kC0 kC1
      have A_11 := A_10.below hb11 A_10.lt
      have B_11 := B_10.below hb11 B_10.lt
      have C_11 := C_10.below hb11 C_10.lt
      have hB11 := hB10.trans (hb11.mono hB10.size)
      clear hb11 hB10 A_10 B_10 C_10
      have qA0 := A_11.cell0
      have qA1 := A_11.cell1
      have qB0 := B_11.cell0
      have qB1 := B_11.cell1
      have qC0 := C_11.cell0
      have qC1 := C_11.cell1
      clear qA0 qA1 qB0 qB1 qC0 qC1
      go_wp2
      go_ret
      exact ⟨rfl, hB11⟩
    | false =>
      go_wp2_with fail
      refine (fbE _ qa qb true _ p rfl oka okb H1.out).mono ?_
      rintro e w8 ⟨rfl, hb8⟩
      clear qA0 qA1 qB0 qB1 qC0 qC1
      have A_8 := A_7.below hb8 A_7.lt
      have B_8 := B_7.below hb8 B_7.lt
      have C_8 := C_7.below hb8 C_7.lt
      have hB8 := hB7.trans (hb8.mono hB7.size)
      clear hb8 hB7 A_7 B_7 C_7
      have qA0 := A_8.cell0
      have qA1 := A_8.cell1
      have qB0 := B_8.cell0
      have qB1 := B_8.cell1
      have qC0 := C_8.cell0
      have qC1 := C_8.cell1
      go_wp2_with fail
      refine (fbE _ qb qc false _ p rfl okb okc H2.out).mono ?_
      rintro e w9 ⟨rfl, hb9⟩
      clear qA0 qA1 qB0 qB1 qC0 qC1
      have A_9 := A_8.below hb9 A_8.lt
      have B_9 := B_8.below hb9 B_8.lt
      have C_9 := C_8.below hb9 C_8.lt
      have hB9 := hB8.trans (hb9.mono hB8.size)
      clear hb9 hB8 A_8 B_8 C_8
      have qA0 := A_9.cell0
      have qA1 := A_9.cell1
      have qB0 := B_9.cell0
      have qB1 := B_9.cell1
      have qC0 := C_9.cell0
      have qC1 := C_9.cell1
      go_wp2_with fail
      clear qA0 qA1 qB0 qB1 qC0 qC1
      have kA0 := cell_regrown A_9.cell0
      have kA1 := cell_regrown A_9.cell1
      have kB0 := cell_regrown B_9.cell0
      have kB1 := cell_regrown B_9.cell1
      have kC0 := cell_regrown C_9.cell0
      have kC1 := cell_regrown C_9.cell1
      have r0 := quiet_call (w := w9) (fun W hb => drE W qa d _ p rfl oka H5.out)
      have r1 := quiet_call (w := w9) (fun W hb => drE W d e _ q rfl okd H9.out)
      have r2 := quiet_call (w := w9) (fun W hb => drE W qa e _ (p ||| q) HPQ.out oka H6.out)
      have r3 := quiet_call (w := w9) (fun W hb => reE W qa r _ p rfl oka H7.out)
      have r4 := quiet_call (w := w9) (fun W hb => reE W r s _ q rfl okr H10.out)
      have r5 := quiet_call (w := w9) (fun W hb => reE W qa s _ (p ||| q) HPQ.out oka H8.out)
      refine wp_region_quiet_below mixed (by kernel_rfl) ?_
      repeat (go_big_quiet_step (fail))
      go_big_quiet_step (exact r0 _ _)
      repeat (go_big_quiet_step (fail))
      go_big_quiet_step (exact r1 _ _)
      repeat (go_big_quiet_step (fail))
      go_big_quiet_step (exact r2 _ _)
      repeat (go_big_quiet_step (fail))
      go_big_quiet_step (exact r3 _ _)
      repeat (go_big_quiet_step (fail))
      go_big_quiet_step (exact r4 _ _)
      repeat (go_big_quiet_step (fail))
      go_big_quiet_step (exact r5 _ _)
      repeat (go_big_quiet_step (fail))
      refine wpQuiet_nil ?_
      intro w10 hw'
      have hb10 := below_of_regrown hw'
      clear hw' r0 r1 r2 r3 r4 r5 kA0 kA1 kB0 kB1 kC0 kC1
      have A_10 := A_9.below hb10 A_9.lt
      have B_10 := B_9.below hb10 B_9.lt
      have C_10 := C_9.below hb10 C_9.lt
      have hB10 := hB9.trans (hb10.mono hB9.size)
      clear hb10 hB9 A_9 B_9 C_9
      have qA0 := A_10.cell0
      have qA1 := A_10.cell1
      have qB0 := B_10.cell0
      have qB1 := B_10.cell1
      have qC0 := C_10.cell0
      have qC1 := C_10.cell1
      clear qA0 qA1 qB0 qB1 qC0 qC1
      go_wp2
      go_ret
      exact ⟨rfl, hB10⟩
  | false =>
    go_wp2_with fail
    refine (fbE _ qa qb false _ p rfl oka okb H1.out).mono ?_
    rintro e w8 ⟨rfl, hb8⟩
    clear qA0 qA1 qB0 qB1 qC0 qC1
    have A_8 := A_7.below hb8 A_7.lt
    have B_8 := B_7.below hb8 B_7.lt
    have C_8 := C_7.below hb8 C_7.lt
    have hB8 := hB7.trans (hb8.mono hB7.size)
    clear hb8 hB7 A_7 B_7 C_7
    have qA0 := A_8.cell0
    have qA1 := A_8.cell1
    have qB0 := B_8.cell0
    have qB1 := B_8.cell1
    have qC0 := C_8.cell0
    have qC1 := C_8.cell1
    go_wp2_with fail
    clear qA0 qA1 qB0 qB1 qC0 qC1
    have kA0 := cell_regrown A_8.cell0
    have kA1 := cell_regrown A_8.cell1
    have kB0 := cell_regrown B_8.cell0
    have kB1 := cell_regrown B_8.cell1
    have kC0 := cell_regrown C_8.cell0
    have kC1 := cell_regrown C_8.cell1
    have r0 := quiet_call (w := w8) (fun W hb => drE W qa d _ p rfl oka H5.out)
    have r1 := quiet_call (w := w8) (fun W hb => drE W d e _ q rfl okd H9.out)
    have r2 := quiet_call (w := w8) (fun W hb => drE W qa e _ (p ||| q) HPQ.out oka H6.out)
    have r3 := quiet_call (w := w8) (fun W hb => reE W qa r _ p rfl oka H7.out)
    have r4 := quiet_call (w := w8) (fun W hb => reE W r s _ q rfl okr H10.out)
    have r5 := quiet_call (w := w8) (fun W hb => reE W qa s _ (p ||| q) HPQ.out oka H8.out)
    refine wp_region_quiet_below mixed (by kernel_rfl) ?_
    repeat (go_big_quiet_step (fail))
    go_big_quiet_step (exact r0 _ _)
    repeat (go_big_quiet_step (fail))
    go_big_quiet_step (exact r1 _ _)
    repeat (go_big_quiet_step (fail))
    go_big_quiet_step (exact r2 _ _)
    repeat (go_big_quiet_step (fail))
    go_big_quiet_step (exact r3 _ _)
    repeat (go_big_quiet_step (fail))
    go_big_quiet_step (exact r4 _ _)
    repeat (go_big_quiet_step (fail))
    go_big_quiet_step (exact r5 _ _)
    repeat (go_big_quiet_step (fail))
    refine wpQuiet_nil ?_
    intro w9 hw'
    have hb9 := below_of_regrown hw'
    clear hw' r0 r1 r2 r3 r4 r5 kA0 kA1 kB0 kB1 kC0 kC1
    have A_9 := A_8.below hb9 A_8.lt
    have B_9 := B_8.below hb9 B_8.lt
    have C_9 := C_8.below hb9 C_8.lt
    have hB9 := hB8.trans (hb9.mono hB8.size)
    clear hb9 hB8 A_8 B_8 C_8
    have qA0 := A_9.cell0
    have qA1 := A_9.cell1
    have qB0 := B_9.cell0
    have qB1 := B_9.cell1
    have qC0 := C_9.cell0
    have qC1 := C_9.cell1
    clear qA0 qA1 qB0 qB1 qC0 qC1
    go_wp2
    go_ret
    exact ⟨rfl, hB9⟩
theorem walkPrivThrough (a ia : ByteArray) (ha : a.size ≤ maxLen) (ka : ia.size ≤ maxLen) (b ib : ByteArray) (hb : b.size ≤ maxLen) (kb : ib.size ≤ maxLen) (c ic : ByteArray) (hc : c.size ≤ maxLen) (kc : ic.size ≤ maxLen) (p : Int) (hp : (Lit.int .u8 p).wf = true) (q : Int) (hq : (Lit.int .u8 q).wf = true) (w : World) (hL : Letters w) :
    Calls Tryd.prog 4 #[.agg #[.string a, .string ia], .agg #[.string b, .string ib], .agg #[.string c, .string ic], .int .u8 p, .int .u8 q] w fun e w' => e = .returned (.bool true) ∧ Below w.heap.size w w' := by
  obtain ⟨p, rfl⟩ := u8_of hp
  obtain ⟨q, rfl⟩ := u8_of hq
  exact walkPPrivThrough (a.data.toList, ia.data.toList) ha ka (b.data.toList, ib.data.toList) hb kb (c.data.toList, ic.data.toList) hc kc p q w hL
end Go.Proofs.YtiafecmnchlgdaaDoor
