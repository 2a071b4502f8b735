/- The walk of PrivRises. Conditions: the sizes of what came in; the table of letters holds its text. -/
import Derived.Test.YtiafecmnchlgdaaDoorLabPre4
import Derived.Test.YtiafecmnchlgdaaDoorEx4
import Derived.BigQuiet
namespace Go.Proofs.YtiafecmnchlgdaaDoor
open Go.RowKit Go.Shelf
attribute [local go_sem] str_list str_size
attribute [local go_sem high] eql_label neq_label
set_option maxRecDepth 100000 in
set_option maxHeartbeats 8000000 in
theorem walkPPrivRises (a : Lz.Lab) (ha1 : a.1.length ≤ maxLen) (ha2 : a.2.length ≤ maxLen) (b : Lz.Lab) (hb1 : b.1.length ≤ maxLen) (hb2 : b.2.length ≤ maxLen) (p : UInt8) (w : World) (hL : Letters w) :
    Calls Tryd.prog 8 #[pv a, pv b, .int .u8 (p.toNat : Int)] w fun e w' => e = .returned (.bool true) ∧ Below w.heap.size w w' := by
  have mixed := mixedOrders
  have HL := Lib.hid hL
  clear hL
  have HSa := Lib.hid (small_p a ha1 ha2)
  have oka := okL_sm a
  generalize hsa : sm a = qa at HSa oka
  clear hsa
  have HSb := Lib.hid (small_p b hb1 hb2)
  have okb := okL_sm b
  generalize hsb : sm b = qb at HSb okb
  clear hsb
  obtain ⟨l, hl⟩ : ∃ l, Lz.fl qa qb = l := ⟨_, rfl⟩
  obtain ⟨d, hd⟩ : ∃ d, Lz.dr qa p = d := ⟨_, rfl⟩
  have okd : okL d := by rw [← hd]; exact okL_dr _ _
  obtain ⟨e, he⟩ : ∃ e, Lz.dr qb p = e := ⟨_, rfl⟩
  have oke : okL e := by rw [← he]; exact okL_dr _ _
  obtain ⟨r, hr⟩ : ∃ r, Lz.re qa p = r := ⟨_, rfl⟩
  have okr : okL r := by rw [← hr]; exact okL_re _ _
  obtain ⟨s, hs⟩ : ∃ s, Lz.re qb p = s := ⟨_, rfl⟩
  have oks : okL s := by rw [← hs]; exact okL_re _ _
  obtain ⟨j, hj⟩ : ∃ j, Lz.jn qa qb = j := ⟨_, rfl⟩
  have okj : okL j := by rw [← hj]; exact okL_jn _ _
  obtain ⟨m, hm⟩ : ∃ m, Lz.mt qa qb = m := ⟨_, rfl⟩
  have okm : okL m := by rw [← hm]; exact okL_mt _ _
  obtain ⟨u, hu⟩ : ∃ u, Lz.jn d e = u := ⟨_, rfl⟩
  have oku : okL u := by rw [← hu]; exact okL_jn _ _
  obtain ⟨v, hv⟩ : ∃ v, Lz.mt r s = v := ⟨_, rfl⟩
  have okv : okL v := by rw [← hv]; exact okL_mt _ _
  have H1 := Lib.hid (show Lz.fl qa qb = l from hl)
  have H2 := Lib.hid (show Lz.dr qa p = d from hd)
  have H3 := Lib.hid (show Lz.dr qb p = e from he)
  have H4 := Lib.hid (show Lz.re qa p = r from hr)
  have H5 := Lib.hid (show Lz.re qb p = s from hs)
  have H6 := Lib.hid (show Lz.jn qa qb = j from hj)
  have H7 := Lib.hid (show Lz.mt qa qb = m from hm)
  have H8 := Lib.hid (show Lz.jn d e = u from hu)
  have H9 := Lib.hid (show Lz.mt r s = v from hv)
  have H10 := Lib.hid (show Lz.dr j p = u from by rw [← hj, ← hu, ← hd, ← he]; exact Lz.dr_jn _ _ _)
  have H11 := Lib.hid (show Lz.re m p = v from by rw [← hm, ← hv, ← hr, ← hs]; exact Lz.re_mt _ _ _)
  have T1 := Lib.hid (show l = true → Lz.fl d e = true from by rw [← hl, ← hd, ← he]; exact fun h => Lz.fl_iff.2 (Lz.dr_mono (Lz.fl_iff.1 h)))
  have T2 := Lib.hid (show l = true → Lz.fl r s = true from by rw [← hl, ← hr, ← hs]; exact fun h => Lz.fl_iff.2 (Lz.re_mono (Lz.fl_iff.1 h)))
  clear hl hd he hr hs hj hm hu hv
  obtain ⟨A_0, B_0, hB0⟩ := alloc2P w a b
  have qA0 := A_0.cell0
  have qA1 := A_0.cell1
  have qB0 := B_0.cell0
  have qB1 := B_0.cell1
  go_enter Tryd.func8, Tryd.ntmps8
  go_wp2_with fail
  generalize ((w.alloc (.cells #[.string (str a.1), .string (str a.2)] 24)).alloc (.cells #[.string (str b.1), .string (str b.2)] 24)) = w0 at *
  have HEX := Lib.hid (fun W hL => examples4_any W hL)
  refine (HEX.out _ (HL.out.behind hB0)).mono ?_
  rintro e w1 ⟨rfl, hb1⟩
  clear qA0 qA1 qB0 qB1
  have A_1 := A_0.below hb1 A_0.lt
  have B_1 := B_0.below hb1 B_0.lt
  have hB1 := hB0.trans (hb1.mono hB0.size)
  clear hb1 hB0 A_0 B_0
  have qA0 := A_1.cell0
  have qA1 := A_1.cell1
  have qB0 := B_1.cell0
  have qB1 := B_1.cell1
  go_wp2_with fail
  refine (HSa.out _).mono ?_
  rintro e w2 ⟨rfl, hb2⟩
  clear qA0 qA1 qB0 qB1
  have A_2 := A_1.below hb2 A_1.lt
  have B_2 := B_1.below hb2 B_1.lt
  have hB2 := hB1.trans (hb2.mono hB1.size)
  clear hb2 hB1 A_1 B_1
  have qA0 := A_2.cell0
  have qA1 := A_2.cell1
  have qB0 := B_2.cell0
  have qB1 := B_2.cell1
  have f0 := A_2.frozen 0
  have f1 := A_2.frozen 1
  go_wp2_with fail
  have A_s : BoxL ((w2.setCell ⟨w.heap.size, 0, none⟩ (.string (str qa.1))).setCell ⟨w.heap.size, 1, none⟩ (.string (str qa.2))) w.heap.size qa := box2_set1 (box2_set0 A_2)
  have B_s : BoxL ((w2.setCell ⟨w.heap.size, 0, none⟩ (.string (str qa.1))).setCell ⟨w.heap.size, 1, none⟩ (.string (str qa.2))) (w.heap.size + 1) b := other2 (by omega) B_2 _ _
  have hs := (hB2.setCell (p := ⟨w.heap.size, 0, none⟩) (show w.heap.size ≤ w.heap.size by omega) (.string (str qa.1))).setCell (p := ⟨w.heap.size, 1, none⟩) (show w.heap.size ≤ w.heap.size by omega) (.string (str qa.2))
  clear qA0 qA1 qB0 qB1 f0 f1 hB2 A_2 B_2
  generalize ((w2.setCell ⟨w.heap.size, 0, none⟩ (.string (str qa.1))).setCell ⟨w.heap.size, 1, none⟩ (.string (str qa.2))) = w3 at hs A_s B_s ⊢
  have A_3 := A_s
  have B_3 := B_s
  have hB3 := hs
  clear hs A_s B_s
  have qA0 := A_3.cell0
  have qA1 := A_3.cell1
  have qB0 := B_3.cell0
  have qB1 := B_3.cell1
  go_wp2_with fail
  refine (HSb.out _).mono ?_
  rintro e w4 ⟨rfl, hb4⟩
  clear qA0 qA1 qB0 qB1
  have A_4 := A_3.below hb4 A_3.lt
  have B_4 := B_3.below hb4 B_3.lt
  have hB4 := hB3.trans (hb4.mono hB3.size)
  clear hb4 hB3 A_3 B_3
  have qA0 := A_4.cell0
  have qA1 := A_4.cell1
  have qB0 := B_4.cell0
  have qB1 := B_4.cell1
  have f0 := B_4.frozen 0
  have f1 := B_4.frozen 1
  go_wp2_with fail
  have B_s : BoxL ((w4.setCell ⟨(w.heap.size + 1), 0, none⟩ (.string (str qb.1))).setCell ⟨(w.heap.size + 1), 1, none⟩ (.string (str qb.2))) (w.heap.size + 1) qb := box2_set1 (box2_set0 B_4)
  have A_s : BoxL ((w4.setCell ⟨(w.heap.size + 1), 0, none⟩ (.string (str qb.1))).setCell ⟨(w.heap.size + 1), 1, none⟩ (.string (str qb.2))) w.heap.size qa := other2 (by omega) A_4 _ _
  have hs := (hB4.setCell (p := ⟨(w.heap.size + 1), 0, none⟩) (show w.heap.size ≤ (w.heap.size + 1) by omega) (.string (str qb.1))).setCell (p := ⟨(w.heap.size + 1), 1, none⟩) (show w.heap.size ≤ (w.heap.size + 1) by omega) (.string (str qb.2))
  clear qA0 qA1 qB0 qB1 f0 f1 hB4 A_4 B_4
  generalize ((w4.setCell ⟨(w.heap.size + 1), 0, none⟩ (.string (str qb.1))).setCell ⟨(w.heap.size + 1), 1, none⟩ (.string (str qb.2))) = w5 at hs A_s B_s ⊢
  have A_5 := A_s
  have B_5 := B_s
  have hB5 := hs
  clear hs A_s B_s
  have qA0 := A_5.cell0
  have qA1 := A_5.cell1
  have qB0 := B_5.cell0
  have qB1 := B_5.cell1
  cases l with
  | true =>
    go_wp2_with fail
    clear qA0 qA1 qB0 qB1
    have kA0 := cell_regrown A_5.cell0
    have kA1 := cell_regrown A_5.cell1
    have kB0 := cell_regrown B_5.cell0
    have kB1 := cell_regrown B_5.cell1
    have r0 := quiet_call (w := w5) (fun W hb => flE W qa qb true oka okb H1.out)
    have r1 := quiet_call (w := w5) (fun W hb => drE W qa d _ p rfl oka H2.out)
    have r2 := quiet_call (w := w5) (fun W hb => drE W qb e _ p rfl okb H3.out)
    have r3 := quiet_call (w := w5) (fun W hb => flE W d e true okd oke (T1.out (by trivial)))
    have r4 := quiet_call (w := w5) (fun W hb => reE W qa r _ p rfl oka H4.out)
    have r5 := quiet_call (w := w5) (fun W hb => reE W qb s _ p rfl okb H5.out)
    have r6 := quiet_call (w := w5) (fun W hb => flE W r s true okr oks (T2.out (by trivial)))
    refine wp_region_quiet_below mixed (by kernel_rfl) ?_
    repeat (go_big_quiet_step (fail))
    go_big_quiet_step (exact r0 _ _)
    repeat (go_big_quiet_step (fail))
    go_big_quiet_step (exact r1 _ _)
    repeat (go_big_quiet_step (fail))
    go_big_quiet_step (exact r2 _ _)
    repeat (go_big_quiet_step (fail))
    go_big_quiet_step (exact r3 _ _)
    repeat (go_big_quiet_step (fail))
    go_big_quiet_step (exact r4 _ _)
    repeat (go_big_quiet_step (fail))
    go_big_quiet_step (exact r5 _ _)
    repeat (go_big_quiet_step (fail))
    go_big_quiet_step (exact r6 _ _)
    repeat (go_big_quiet_step (fail))
    refine wpQuiet_nil ?_
    intro w6 hw'
    have hb6 := below_of_regrown hw'
    clear hw' r0 r1 r2 r3 r4 r5 r6 kA0 kA1 kB0 kB1
    have A_6 := A_5.below hb6 A_5.lt
    have B_6 := B_5.below hb6 B_5.lt
    have hB6 := hB5.trans (hb6.mono hB5.size)
    clear hb6 hB5 A_5 B_5
    have qA0 := A_6.cell0
    have qA1 := A_6.cell1
    have qB0 := B_6.cell0
    have qB1 := B_6.cell1
    go_wp2_with fail
    clear qA0 qA1 qB0 qB1
    have kA0 := cell_regrown A_6.cell0
    have kA1 := cell_regrown A_6.cell1
    have kB0 := cell_regrown B_6.cell0
    have kB1 := cell_regrown B_6.cell1
    have r0 := quiet_call (w := w6) (fun W hb => jnE W qa qb j oka okb H6.out)
    have r1 := quiet_call (w := w6) (fun W hb => drE W j u _ p rfl okj H10.out)
    have r2 := quiet_call (w := w6) (fun W hb => drE W qa d _ p rfl oka H2.out)
    have r3 := quiet_call (w := w6) (fun W hb => drE W qb e _ p rfl okb H3.out)
    have r4 := quiet_call (w := w6) (fun W hb => jnE W d e u okd oke H8.out)
    have r5 := quiet_call (w := w6) (fun W hb => mtE W qa qb m oka okb H7.out)
    have r6 := quiet_call (w := w6) (fun W hb => reE W m v _ p rfl okm H11.out)
    have r7 := quiet_call (w := w6) (fun W hb => reE W qa r _ p rfl oka H4.out)
    have r8 := quiet_call (w := w6) (fun W hb => reE W qb s _ p rfl okb H5.out)
    have r9 := quiet_call (w := w6) (fun W hb => mtE W r s v okr oks H9.out)
    refine wp_region_quiet_below mixed (by kernel_rfl) ?_
    repeat (go_big_quiet_step (fail))
    go_big_quiet_step (exact r0 _ _)
    repeat (go_big_quiet_step (fail))
    go_big_quiet_step (exact r1 _ _)
    repeat (go_big_quiet_step (fail))
    go_big_quiet_step (exact r2 _ _)
    repeat (go_big_quiet_step (fail))
    go_big_quiet_step (exact r3 _ _)
    repeat (go_big_quiet_step (fail))
    go_big_quiet_step (exact r4 _ _)
    repeat (go_big_quiet_step (fail))
    go_big_quiet_step (exact r5 _ _)
    repeat (go_big_quiet_step (fail))
    go_big_quiet_step (exact r6 _ _)
    repeat (go_big_quiet_step (fail))
    go_big_quiet_step (exact r7 _ _)
    repeat (go_big_quiet_step (fail))
    go_big_quiet_step (exact r8 _ _)
    repeat (go_big_quiet_step (fail))
    go_big_quiet_step (exact r9 _ _)
    repeat (go_big_quiet_step (fail))
    refine wpQuiet_nil ?_
    intro w7 hw'
    have hb7 := below_of_regrown hw'
    clear hw' r0 r1 r2 r3 r4 r5 r6 r7 r8 r9 kA0 kA1 kB0 kB1
    have A_7 := A_6.below hb7 A_6.lt
    have B_7 := B_6.below hb7 B_6.lt
    have hB7 := hB6.trans (hb7.mono hB6.size)
    clear hb7 hB6 A_6 B_6
    have qA0 := A_7.cell0
    have qA1 := A_7.cell1
    have qB0 := B_7.cell0
    have qB1 := B_7.cell1
    clear qA0 qA1 qB0 qB1
    go_wp2
    go_ret
    exact ⟨rfl, hB7⟩
  | false =>
    go_wp2_with fail
    clear qA0 qA1 qB0 qB1
    have kA0 := cell_regrown A_5.cell0
    have kA1 := cell_regrown A_5.cell1
    have kB0 := cell_regrown B_5.cell0
    have kB1 := cell_regrown B_5.cell1
    have r0 := quiet_call (w := w5) (fun W hb => flE W qa qb false oka okb H1.out)
    refine wp_region_quiet_below mixed (by kernel_rfl) ?_
    repeat (go_big_quiet_step (fail))
    go_big_quiet_step (exact r0 _ _)
    repeat (go_big_quiet_step (fail))
    refine wpQuiet_nil ?_
    intro w6 hw'
    have hb6 := below_of_regrown hw'
    clear hw' r0 kA0 kA1 kB0 kB1
    have A_6 := A_5.below hb6 A_5.lt
    have B_6 := B_5.below hb6 B_5.lt
    have hB6 := hB5.trans (hb6.mono hB5.size)
    clear hb6 hB5 A_5 B_5
    have qA0 := A_6.cell0
    have qA1 := A_6.cell1
    have qB0 := B_6.cell0
    have qB1 := B_6.cell1
    go_wp2_with fail
    clear qA0 qA1 qB0 qB1
    have kA0 := cell_regrown A_6.cell0
    have kA1 := cell_regrown A_6.cell1
    have kB0 := cell_regrown B_6.cell0
    have kB1 := cell_regrown B_6.cell1
    have r0 := quiet_call (w := w6) (fun W hb => jnE W qa qb j oka okb H6.out)
    have r1 := quiet_call (w := w6) (fun W hb => drE W j u _ p rfl okj H10.out)
    have r2 := quiet_call (w := w6) (fun W hb => drE W qa d _ p rfl oka H2.out)
    have r3 := quiet_call (w := w6) (fun W hb => drE W qb e _ p rfl okb H3.out)
    have r4 := quiet_call (w := w6) (fun W hb => jnE W d e u okd oke H8.out)
    have r5 := quiet_call (w := w6) (fun W hb => mtE W qa qb m oka okb H7.out)
    have r6 := quiet_call (w := w6) (fun W hb => reE W m v _ p rfl okm H11.out)
    have r7 := quiet_call (w := w6) (fun W hb => reE W qa r _ p rfl oka H4.out)
    have r8 := quiet_call (w := w6) (fun W hb => reE W qb s _ p rfl okb H5.out)
    have r9 := quiet_call (w := w6) (fun W hb => mtE W r s v okr oks H9.out)
    refine wp_region_quiet_below mixed (by kernel_rfl) ?_
    repeat (go_big_quiet_step (fail))
    go_big_quiet_step (exact r0 _ _)
    repeat (go_big_quiet_step (fail))
    go_big_quiet_step (exact r1 _ _)
    repeat (go_big_quiet_step (fail))
    go_big_quiet_step (exact r2 _ _)
    repeat (go_big_quiet_step (fail))
    go_big_quiet_step (exact r3 _ _)
    repeat (go_big_quiet_step (fail))
    go_big_quiet_step (exact r4 _ _)
    repeat (go_big_quiet_step (fail))
    go_big_quiet_step (exact r5 _ _)
    repeat (go_big_quiet_step (fail))
    go_big_quiet_step (exact r6 _ _)
    repeat (go_big_quiet_step (fail))
    go_big_quiet_step (exact r7 _ _)
    repeat (go_big_quiet_step (fail))
    go_big_quiet_step (exact r8 _ _)
    repeat (go_big_quiet_step (fail))
    go_big_quiet_step (exact r9 _ _)
    repeat (go_big_quiet_step (fail))
    refine wpQuiet_nil ?_
    intro w7 hw'
    have hb7 := below_of_regrown hw'
    clear hw' r0 r1 r2 r3 r4 r5 r6 r7 r8 r9 kA0 kA1 kB0 kB1
    have A_7 := A_6.below hb7 A_6.lt
    have B_7 := B_6.below hb7 B_6.lt
    have hB7 := hB6.trans (hb7.mono hB6.size)
    clear hb7 hB6 A_6 B_6
    have qA0 := A_7.cell0
    have qA1 := A_7.cell1
    have qB0 := B_7.cell0
    have qB1 := B_7.cell1
    clear qA0 qA1 qB0 qB1
    go_wp2
    go_ret
    exact ⟨rfl, hB7⟩
theorem walkPrivRises (a ia : ByteArray) (ha : a.size ≤ maxLen) (ka : ia.size ≤ maxLen) (b ib : ByteArray) (hb : b.size ≤ maxLen) (kb : ib.size ≤ maxLen) (p : Int) (hp : (Lit.int .u8 p).wf = true) (w : World) (hL : Letters w) :
    Calls Tryd.prog 8 #[.agg #[.string a, .string ia], .agg #[.string b, .string ib], .int .u8 p] w fun e w' => e = .returned (.bool true) ∧ Below w.heap.size w w' := by
  obtain ⟨p, rfl⟩ := u8_of hp
  exact walkPPrivRises (a.data.toList, ia.data.toList) ha ka (b.data.toList, ib.data.toList) hb kb p w hL
end Go.Proofs.YtiafecmnchlgdaaDoor
