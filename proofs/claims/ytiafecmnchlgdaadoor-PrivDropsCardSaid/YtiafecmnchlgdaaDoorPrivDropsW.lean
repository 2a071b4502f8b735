/- The walk of PrivDrops. Conditions: the sizes of what came in; the table of letters holds its text. -/
import Derived.Test.YtiafecmnchlgdaaDoorLabPre4
import Derived.Test.YtiafecmnchlgdaaDoorEx4
import Derived.BigQuiet
namespace Go.Proofs.YtiafecmnchlgdaaDoor
open Go.RowKit Go.Shelf
attribute [local go_sem] str_list str_size
attribute [local go_sem high] eql_label neq_label
set_option maxRecDepth 100000 in
set_option maxHeartbeats 8000000 in
theorem walkPPrivDrops (a : Lz.Lab) (ha1 : a.1.length ≤ maxLen) (ha2 : a.2.length ≤ maxLen) (b : Lz.Lab) (hb1 : b.1.length ≤ maxLen) (hb2 : b.2.length ≤ maxLen) (p : UInt8) (w : World) (hL : Letters w) :
    Calls Tryd.prog 7 #[pv a, pv b, .int .u8 (p.toNat : Int)] w fun e w' => e = .returned (.bool true) ∧ Below w.heap.size w w' := by
  have mixed := mixedOrders
  have HL := Lib.hid hL
  clear hL
  have HSa := Lib.hid (small_p a ha1 ha2)
  have oka := okL_sm a
  generalize hsa : sm a = qa at HSa oka
  clear hsa
  have HSb := Lib.hid (small_p b hb1 hb2)
  have okb := okL_sm b
  generalize hsb : sm b = qb at HSb okb
  clear hsb
  obtain ⟨f, hf⟩ : ∃ f, Lz.fb qa qb p = f := ⟨_, rfl⟩
  obtain ⟨d, hd⟩ : ∃ d, Lz.dr qa p = d := ⟨_, rfl⟩
  have okd : okL d := by rw [← hd]; exact okL_dr _ _
  obtain ⟨r, hr⟩ : ∃ r, Lz.re qb p = r := ⟨_, rfl⟩
  have okr : okL r := by rw [← hr]; exact okL_re _ _
  have H1 := Lib.hid (show Lz.fb qa qb p = f from hf)
  have H2 := Lib.hid (show Lz.dr qa p = d from hd)
  have H3 := Lib.hid (show Lz.re qb p = r from hr)
  have H4 := Lib.hid (show Lz.fl d qb = f from by rw [← hd, ← hf]; exact Lz.fl_dr _ _ _)
  have H5 := Lib.hid (show Lz.fl qa r = f from by rw [← hr, ← hf]; exact Lz.fl_re _ _ _)
  have H6 := Lib.hid (show Lz.fl d qa = true from by rw [← hd]; exact Lz.fl_iff.2 (Lz.dr_le_self _ _))
  have H7 := Lib.hid (show Lz.fl qb r = true from by rw [← hr]; exact Lz.fl_iff.2 (Lz.le_re_self _ _))
  have R1 := Lib.hid (show (Lz.nrm d == d) = true from by rw [beq_iff_eq, ← hd]; exact Lz.rightL_dr _ _)
  have R2 := Lib.hid (show (Lz.nrm r == r) = true from by rw [beq_iff_eq, ← hr]; exact Lz.rightL_re _ _)
  clear hf hd hr
  obtain ⟨A_0, B_0, hB0⟩ := alloc2P w a b
  have qA0 := A_0.cell0
  have qA1 := A_0.cell1
  have qB0 := B_0.cell0
  have qB1 := B_0.cell1
  go_enter Tryd.func7, Tryd.ntmps7
  go_wp2_with fail
  generalize ((w.alloc (.cells #[.string (str a.1), .string (str a.2)] 24)).alloc (.cells #[.string (str b.1), .string (str b.2)] 24)) = w0 at *
  have HEX := Lib.hid (fun W hL => examples4_any W hL)
  refine (HEX.out _ (HL.out.behind hB0)).mono ?_
  rintro e w1 ⟨rfl, hb1⟩
  clear qA0 qA1 qB0 qB1
  have A_1 := A_0.below hb1 A_0.lt
  have B_1 := B_0.below hb1 B_0.lt
  have hB1 := hB0.trans (hb1.mono hB0.size)
  clear hb1 hB0 A_0 B_0
  have qA0 := A_1.cell0
  have qA1 := A_1.cell1
  have qB0 := B_1.cell0
  have qB1 := B_1.cell1
  go_wp2_with fail
  refine (HSa.out _).mono ?_
  rintro e w2 ⟨rfl, hb2⟩
  clear qA0 qA1 qB0 qB1
  have A_2 := A_1.below hb2 A_1.lt
  have B_2 := B_1.below hb2 B_1.lt
  have hB2 := hB1.trans (hb2.mono hB1.size)
  clear hb2 hB1 A_1 B_1
  have qA0 := A_2.cell0
  have qA1 := A_2.cell1
  have qB0 := B_2.cell0
  have qB1 := B_2.cell1
  have f0 := A_2.frozen 0
  have f1 := A_2.frozen 1
  go_wp2_with fail
  have A_s : BoxL ((w2.setCell ⟨w.heap.size, 0, none⟩ (.string (str qa.1))).setCell ⟨w.heap.size, 1, none⟩ (.string (str qa.2))) w.heap.size qa := box2_set1 (box2_set0 A_2)
  have B_s : BoxL ((w2.setCell ⟨w.heap.size, 0, none⟩ (.string (str qa.1))).setCell ⟨w.heap.size, 1, none⟩ (.string (str qa.2))) (w.heap.size + 1) b := other2 (by omega) B_2 _ _
  have hs := (hB2.setCell (p := ⟨w.heap.size, 0, none⟩) (show w.heap.size ≤ w.heap.size by omega) (.string (str qa.1))).setCell (p := ⟨w.heap.size, 1, none⟩) (show w.heap.size ≤ w.heap.size by omega) (.string (str qa.2))
  clear qA0 qA1 qB0 qB1 f0 f1 hB2 A_2 B_2
  generalize ((w2.setCell ⟨w.heap.size, 0, none⟩ (.string (str qa.1))).setCell ⟨w.heap.size, 1, none⟩ (.string (str qa.2))) = w3 at hs A_s B_s ⊢
  have A_3 := A_s
  have B_3 := B_s
  have hB3 := hs
  clear hs A_s B_s
  have qA0 := A_3.cell0
  have qA1 := A_3.cell1
  have qB0 := B_3.cell0
  have qB1 := B_3.cell1
  go_wp2_with fail
  refine (HSb.out _).mono ?_
  rintro e w4 ⟨rfl, hb4⟩
  clear qA0 qA1 qB0 qB1
  have A_4 := A_3.below hb4 A_3.lt
  have B_4 := B_3.below hb4 B_3.lt
  have hB4 := hB3.trans (hb4.mono hB3.size)
  clear hb4 hB3 A_3 B_3
  have qA0 := A_4.cell0
  have qA1 := A_4.cell1
  have qB0 := B_4.cell0
  have qB1 := B_4.cell1
  have f0 := B_4.frozen 0
  have f1 := B_4.frozen 1
  go_wp2_with fail
  have B_s : BoxL ((w4.setCell ⟨(w.heap.size + 1), 0, none⟩ (.string (str qb.1))).setCell ⟨(w.heap.size + 1), 1, none⟩ (.string (str qb.2))) (w.heap.size + 1) qb := box2_set1 (box2_set0 B_4)
  have A_s : BoxL ((w4.setCell ⟨(w.heap.size + 1), 0, none⟩ (.string (str qb.1))).setCell ⟨(w.heap.size + 1), 1, none⟩ (.string (str qb.2))) w.heap.size qa := other2 (by omega) A_4 _ _
  have hs := (hB4.setCell (p := ⟨(w.heap.size + 1), 0, none⟩) (show w.heap.size ≤ (w.heap.size + 1) by omega) (.string (str qb.1))).setCell (p := ⟨(w.heap.size + 1), 1, none⟩) (show w.heap.size ≤ (w.heap.size + 1) by omega) (.string (str qb.2))
  clear qA0 qA1 qB0 qB1 f0 f1 hB4 A_4 B_4
  generalize ((w4.setCell ⟨(w.heap.size + 1), 0, none⟩ (.string (str qb.1))).setCell ⟨(w.heap.size + 1), 1, none⟩ (.string (str qb.2))) = w5 at hs A_s B_s ⊢
  have A_5 := A_s
  have B_5 := B_s
  have hB5 := hs
  clear hs A_s B_s
  have qA0 := A_5.cell0
  have qA1 := A_5.cell1
  have qB0 := B_5.cell0
  have qB1 := B_5.cell1
  cases f with
  | true =>
    go_wp2_with fail
    refine (fbE _ qa qb true _ p rfl oka okb H1.out).mono ?_
    rintro e w6 ⟨rfl, hb6⟩
    clear qA0 qA1 qB0 qB1
    have A_6 := A_5.below hb6 A_5.lt
    have B_6 := B_5.below hb6 B_5.lt
    have hB6 := hB5.trans (hb6.mono hB5.size)
    clear hb6 hB5 A_5 B_5
    have qA0 := A_6.cell0
    have qA1 := A_6.cell1
    have qB0 := B_6.cell0
    have qB1 := B_6.cell1
    go_wp2_with fail
    refine (drE _ qa d _ p rfl oka H2.out).mono ?_
    rintro e w7 ⟨rfl, hb7⟩
    clear qA0 qA1 qB0 qB1
    have A_7 := A_6.below hb7 A_6.lt
    have B_7 := B_6.below hb7 B_6.lt
    have hB7 := hB6.trans (hb7.mono hB6.size)
    clear hb7 hB6 A_6 B_6
    have qA0 := A_7.cell0
    have qA1 := A_7.cell1
    have qB0 := B_7.cell0
    have qB1 := B_7.cell1
    clear qA0 qA1 qB0 qB1
    have A_7_a := A_7.alloc (.cells #[.string (str d.1), .string (str d.2)] 24)
    have B_7_a := B_7.alloc (.cells #[.string (str d.1), .string (str d.2)] 24)
    have D_a : BoxL (w7.alloc (.cells #[.string (str d.1), .string (str d.2)] 24)) w7.heap.size d := Box2.new w7 _ _ _
    have hB7a := hB7.alloc hB7.size (.cells #[.string (str d.1), .string (str d.2)] 24)
    clear hB7 A_7 B_7
    have qA0 := A_7_a.cell0
    have qA1 := A_7_a.cell1
    have qB0 := B_7_a.cell0
    have qB1 := B_7_a.cell1
    have qD0 := D_a.cell0
    have qD1 := D_a.cell1
    go_wp2_with fail
    refine (reE _ qb r _ p rfl okb H3.out).mono ?_
    rintro e w8 ⟨rfl, hb8⟩
    clear qA0 qA1 qB0 qB1 qD0 qD1
    have A_8 := A_7_a.below hb8 A_7_a.lt
    have B_8 := B_7_a.below hb8 B_7_a.lt
    have D_8 := D_a.below hb8 D_a.lt
    have hB8 := hB7a.trans (hb8.mono hB7a.size)
    clear hb8 hB7a A_7_a B_7_a D_a
    have qA0 := A_8.cell0
    have qA1 := A_8.cell1
    have qB0 := B_8.cell0
    have qB1 := B_8.cell1
    have qD0 := D_8.cell0
    have qD1 := D_8.cell1
    clear qA0 qA1 qB0 qB1 qD0 qD1
    have A_8_a := A_8.alloc (.cells #[.string (str r.1), .string (str r.2)] 24)
    have B_8_a := B_8.alloc (.cells #[.string (str r.1), .string (str r.2)] 24)
    have D_8_a := D_8.alloc (.cells #[.string (str r.1), .string (str r.2)] 24)
    have R_a : BoxL (w8.alloc (.cells #[.string (str r.1), .string (str r.2)] 24)) w8.heap.size r := Box2.new w8 _ _ _
    have hB8a := hB8.alloc hB8.size (.cells #[.string (str r.1), .string (str r.2)] 24)
    clear hB8 A_8 B_8 D_8
    have qA0 := A_8_a.cell0
    have qA1 := A_8_a.cell1
    have qB0 := B_8_a.cell0
    have qB1 := B_8_a.cell1
    have qD0 := D_8_a.cell0
    have qD1 := D_8_a.cell1
    have qR0 := R_a.cell0
    have qR1 := R_a.cell1
    go_wp2_with fail
    refine (flE _ d qb true okd okb H4.out).mono ?_
    rintro e w9 ⟨rfl, hb9⟩
    clear qA0 qA1 qB0 qB1 qD0 qD1 qR0 qR1
    have A_9 := A_8_a.below hb9 A_8_a.lt
    have B_9 := B_8_a.below hb9 B_8_a.lt
    have D_9 := D_8_a.below hb9 D_8_a.lt
    have R_9 := R_a.below hb9 R_a.lt
    have hB9 := hB8a.trans (hb9.mono hB8a.size)
    clear hb9 hB8a A_8_a B_8_a D_8_a R_a
    have qA0 := A_9.cell0
    have qA1 := A_9.cell1
    have qB0 := B_9.cell0
    have qB1 := B_9.cell1
    have qD0 := D_9.cell0
    have qD1 := D_9.cell1
    have qR0 := R_9.cell0
    have qR1 := R_9.cell1
    go_wp2_with fail
    refine (flE _ qa r true oka okr H5.out).mono ?_
    rintro e w10 ⟨rfl, hb10⟩
    clear qA0 qA1 qB0 qB1 qD0 qD1 qR0 qR1
    have A_10 := A_9.below hb10 A_9.lt
    have B_10 := B_9.below hb10 B_9.lt
    have D_10 := D_9.below hb10 D_9.lt
    have R_10 := R_9.below hb10 R_9.lt
    have hB10 := hB9.trans (hb10.mono hB9.size)
    clear hb10 hB9 A_9 B_9 D_9 R_9
    have qA0 := A_10.cell0
    have qA1 := A_10.cell1
    have qB0 := B_10.cell0
    have qB1 := B_10.cell1
    have qD0 := D_10.cell0
    have qD1 := D_10.cell1
    have qR0 := R_10.cell0
    have qR1 := R_10.cell1
    go_wp2_with fail
    refine (flE _ d qa true okd oka H6.out).mono ?_
    rintro e w11 ⟨rfl, hb11⟩
    clear qA0 qA1 qB0 qB1 qD0 qD1 qR0 qR1
    have A_11 := A_10.below hb11 A_10.lt
    have B_11 := B_10.below hb11 B_10.lt
    have D_11 := D_10.below hb11 D_10.lt
    have R_11 := R_10.below hb11 R_10.lt
    have hB11 := hB10.trans (hb11.mono hB10.size)
    clear hb11 hB10 A_10 B_10 D_10 R_10
    have qA0 := A_11.cell0
    have qA1 := A_11.cell1
    have qB0 := B_11.cell0
    have qB1 := B_11.cell1
    have qD0 := D_11.cell0
    have qD1 := D_11.cell1
    have qR0 := R_11.cell0
    have qR1 := R_11.cell1
    go_wp2_with fail
    refine (flE _ qb r true okb okr H7.out).mono ?_
    rintro e w12 ⟨rfl, hb12⟩
    clear qA0 qA1 qB0 qB1 qD0 qD1 qR0 qR1
    have A_12 := A_11.below hb12 A_11.lt
    have B_12 := B_11.below hb12 B_11.lt
    have D_12 := D_11.below hb12 D_11.lt
    have R_12 := R_11.below hb12 R_11.lt
    have hB12 := hB11.trans (hb12.mono hB11.size)
    clear hb12 hB11 A_11 B_11 D_11 R_11
    have qA0 := A_12.cell0
    have qA1 := A_12.cell1
    have qB0 := B_12.cell0
    have qB1 := B_12.cell1
    have qD0 := D_12.cell0
    have qD1 := D_12.cell1
    have qR0 := R_12.cell0
    have qR1 := R_12.cell1
    go_wp2_with fail
    refine (right_p d true okd R1.out _).mono ?_
    rintro e w13 ⟨rfl, hb13⟩
    clear qA0 qA1 qB0 qB1 qD0 qD1 qR0 qR1
    have A_13 := A_12.below hb13 A_12.lt
    have B_13 := B_12.below hb13 B_12.lt
    have D_13 := D_12.below hb13 D_12.lt
    have R_13 := R_12.below hb13 R_12.lt
    have hB13 := hB12.trans (hb13.mono hB12.size)
    clear hb13 hB12 A_12 B_12 D_12 R_12
    have qA0 := A_13.cell0
    have qA1 := A_13.cell1
    have qB0 := B_13.cell0
    have qB1 := B_13.cell1
    have qD0 := D_13.cell0
    have qD1 := D_13.cell1
    have qR0 := R_13.cell0
    have qR1 := R_13.cell1
    go_wp2_with fail
    refine (right_p r true okr R2.out _).mono ?_
    rintro e w14 ⟨rfl, hb14⟩
    clear qA0 qA1 qB0 qB1 qD0 qD1 qR0 qR1
    have A_14 := A_13.below hb14 A_13.lt
    have B_14 := B_13.below hb14 B_13.lt
    have D_14 := D_13.below hb14 D_13.lt
    have R_14 := R_13.below hb14 R_13.lt
    have hB14 := hB13.trans (hb14.mono hB13.size)
    clear hb14 hB13 A_13 B_13 D_13 R_13
    have qA0 := A_14.cell0
    have qA1 := A_14.cell1
    have qB0 := B_14.cell0
    have qB1 := B_14.cell1
    have qD0 := D_14.cell0
    have qD1 := D_14.cell1
    have qR0 := R_14.cell0
    have qR1 := R_14.cell1
    clear qA0 qA1 qB0 qB1 qD0 qD1 qR0 qR1
    go_wp2
    go_ret
    exact ⟨rfl, hB14⟩
  | false =>
    go_wp2_with fail
    refine (fbE _ qa qb false _ p rfl oka okb H1.out).mono ?_
    rintro e w6 ⟨rfl, hb6⟩
    clear qA0 qA1 qB0 qB1
    have A_6 := A_5.below hb6 A_5.lt
    have B_6 := B_5.below hb6 B_5.lt
    have hB6 := hB5.trans (hb6.mono hB5.size)
    clear hb6 hB5 A_5 B_5
    have qA0 := A_6.cell0
    have qA1 := A_6.cell1
    have qB0 := B_6.cell0
    have qB1 := B_6.cell1
    go_wp2_with fail
    refine (drE _ qa d _ p rfl oka H2.out).mono ?_
    rintro e w7 ⟨rfl, hb7⟩
    clear qA0 qA1 qB0 qB1
    have A_7 := A_6.below hb7 A_6.lt
    have B_7 := B_6.below hb7 B_6.lt
    have hB7 := hB6.trans (hb7.mono hB6.size)
    clear hb7 hB6 A_6 B_6
    have qA0 := A_7.cell0
    have qA1 := A_7.cell1
    have qB0 := B_7.cell0
    have qB1 := B_7.cell1
    clear qA0 qA1 qB0 qB1
    have A_7_a := A_7.alloc (.cells #[.string (str d.1), .string (str d.2)] 24)
    have B_7_a := B_7.alloc (.cells #[.string (str d.1), .string (str d.2)] 24)
    have D_a : BoxL (w7.alloc (.cells #[.string (str d.1), .string (str d.2)] 24)) w7.heap.size d := Box2.new w7 _ _ _
    have hB7a := hB7.alloc hB7.size (.cells #[.string (str d.1), .string (str d.2)] 24)
    clear hB7 A_7 B_7
    have qA0 := A_7_a.cell0
    have qA1 := A_7_a.cell1
    have qB0 := B_7_a.cell0
    have qB1 := B_7_a.cell1
    have qD0 := D_a.cell0
    have qD1 := D_a.cell1
    go_wp2_with fail
    refine (reE _ qb r _ p rfl okb H3.out).mono ?_
    rintro e w8 ⟨rfl, hb8⟩
    clear qA0 qA1 qB0 qB1 qD0 qD1
    have A_8 := A_7_a.below hb8 A_7_a.lt
    have B_8 := B_7_a.below hb8 B_7_a.lt
    have D_8 := D_a.below hb8 D_a.lt
    have hB8 := hB7a.trans (hb8.mono hB7a.size)
    clear hb8 hB7a A_7_a B_7_a D_a
    have qA0 := A_8.cell0
    have qA1 := A_8.cell1
    have qB0 := B_8.cell0
    have qB1 := B_8.cell1
    have qD0 := D_8.cell0
    have qD1 := D_8.cell1
    clear qA0 qA1 qB0 qB1 qD0 qD1
    have A_8_a := A_8.alloc (.cells #[.string (str r.1), .string (str r.2)] 24)
    have B_8_a := B_8.alloc (.cells #[.string (str r.1), .string (str r.2)] 24)
    have D_8_a := D_8.alloc (.cells #[.string (str r.1), .string (str r.2)] 24)
    have R_a : BoxL (w8.alloc (.cells #[.string (str r.1), .string (str r.2)] 24)) w8.heap.size r := Box2.new w8 _ _ _
    have hB8a := hB8.alloc hB8.size (.cells #[.string (str r.1), .string (str r.2)] 24)
    clear hB8 A_8 B_8 D_8
    have qA0 := A_8_a.cell0
    have qA1 := A_8_a.cell1
    have qB0 := B_8_a.cell0
    have qB1 := B_8_a.cell1
    have qD0 := D_8_a.cell0
    have qD1 := D_8_a.cell1
    have qR0 := R_a.cell0
    have qR1 := R_a.cell1
    go_wp2_with fail
    refine (flE _ d qb false okd okb H4.out).mono ?_
    rintro e w9 ⟨rfl, hb9⟩
    clear qA0 qA1 qB0 qB1 qD0 qD1 qR0 qR1
    have A_9 := A_8_a.below hb9 A_8_a.lt
    have B_9 := B_8_a.below hb9 B_8_a.lt
    have D_9 := D_8_a.below hb9 D_8_a.lt
    have R_9 := R_a.below hb9 R_a.lt
    have hB9 := hB8a.trans (hb9.mono hB8a.size)
    clear hb9 hB8a A_8_a B_8_a D_8_a R_a
    have qA0 := A_9.cell0
    have qA1 := A_9.cell1
    have qB0 := B_9.cell0
    have qB1 := B_9.cell1
    have qD0 := D_9.cell0
    have qD1 := D_9.cell1
    have qR0 := R_9.cell0
    have qR1 := R_9.cell1
    go_wp2_with fail
    refine (flE _ qa r false oka okr H5.out).mono ?_
    rintro e w10 ⟨rfl, hb10⟩
    clear qA0 qA1 qB0 qB1 qD0 qD1 qR0 qR1
    have A_10 := A_9.below hb10 A_9.lt
    have B_10 := B_9.below hb10 B_9.lt
    have D_10 := D_9.below hb10 D_9.lt
    have R_10 := R_9.below hb10 R_9.lt
    have hB10 := hB9.trans (hb10.mono hB9.size)
    clear hb10 hB9 A_9 B_9 D_9 R_9
    have qA0 := A_10.cell0
    have qA1 := A_10.cell1
    have qB0 := B_10.cell0
    have qB1 := B_10.cell1
    have qD0 := D_10.cell0
    have qD1 := D_10.cell1
    have qR0 := R_10.cell0
    have qR1 := R_10.cell1
    go_wp2_with fail
    refine (flE _ d qa true okd oka H6.out).mono ?_
    rintro e w11 ⟨rfl, hb11⟩
    clear qA0 qA1 qB0 qB1 qD0 qD1 qR0 qR1
    have A_11 := A_10.below hb11 A_10.lt
    have B_11 := B_10.below hb11 B_10.lt
    have D_11 := D_10.below hb11 D_10.lt
    have R_11 := R_10.below hb11 R_10.lt
    have hB11 := hB10.trans (hb11.mono hB10.size)
    clear hb11 hB10 A_10 B_10 D_10 R_10
    have qA0 := A_11.cell0
    have qA1 := A_11.cell1
    have qB0 := B_11.cell0
    have qB1 := B_11.cell1
    have qD0 := D_11.cell0
    have qD1 := D_11.cell1
    have qR0 := R_11.cell0
    have qR1 := R_11.cell1
    go_wp2_with fail
    refine (flE _ qb r true okb okr H7.out).mono ?_
    rintro e w12 ⟨rfl, hb12⟩
    clear qA0 qA1 qB0 qB1 qD0 qD1 qR0 qR1
    have A_12 := A_11.below hb12 A_11.lt
    have B_12 := B_11.below hb12 B_11.lt
    have D_12 := D_11.below hb12 D_11.lt
    have R_12 := R_11.below hb12 R_11.lt
    have hB12 := hB11.trans (hb12.mono hB11.size)
    clear hb12 hB11 A_11 B_11 D_11 R_11
    have qA0 := A_12.cell0
    have qA1 := A_12.cell1
    have qB0 := B_12.cell0
    have qB1 := B_12.cell1
    have qD0 := D_12.cell0
    have qD1 := D_12.cell1
    have qR0 := R_12.cell0
    have qR1 := R_12.cell1
    go_wp2_with fail
    refine (right_p d true okd R1.out _).mono ?_
    rintro e w13 ⟨rfl, hb13⟩
    clear qA0 qA1 qB0 qB1 qD0 qD1 qR0 qR1
    have A_13 := A_12.below hb13 A_12.lt
    have B_13 := B_12.below hb13 B_12.lt
    have D_13 := D_12.below hb13 D_12.lt
    have R_13 := R_12.below hb13 R_12.lt
    have hB13 := hB12.trans (hb13.mono hB12.size)
    clear hb13 hB12 A_12 B_12 D_12 R_12
    have qA0 := A_13.cell0
    have qA1 := A_13.cell1
    have qB0 := B_13.cell0
    have qB1 := B_13.cell1
    have qD0 := D_13.cell0
    have qD1 := D_13.cell1
    have qR0 := R_13.cell0
    have qR1 := R_13.cell1
    go_wp2_with fail
    refine (right_p r true okr R2.out _).mono ?_
    rintro e w14 ⟨rfl, hb14⟩
    clear qA0 qA1 qB0 qB1 qD0 qD1 qR0 qR1
    have A_14 := A_13.below hb14 A_13.lt
    have B_14 := B_13.below hb14 B_13.lt
    have D_14 := D_13.below hb14 D_13.lt
    have R_14 := R_13.below hb14 R_13.lt
    have hB14 := hB13.trans (hb14.mono hB13.size)
    clear hb14 hB13 A_13 B_13 D_13 R_13
    have qA0 := A_14.cell0
    have qA1 := A_14.cell1
    have qB0 := B_14.cell0
    have qB1 := B_14.cell1
    have qD0 := D_14.cell0
    have qD1 := D_14.cell1
    have qR0 := R_14.cell0
    have qR1 := R_14.cell1
    clear qA0 qA1 qB0 qB1 qD0 qD1 qR0 qR1
    go_wp2
    go_ret
    exact ⟨rfl, hB14⟩
theorem walkPrivDrops (a ia : ByteArray) (ha : a.size ≤ maxLen) (ka : ia.size ≤ maxLen) (b ib : ByteArray) (hb : b.size ≤ maxLen) (kb : ib.size ≤ maxLen) (p : Int) (hp : (Lit.int .u8 p).wf = true) (w : World) (hL : Letters w) :
    Calls Tryd.prog 7 #[.agg #[.string a, .string ia], .agg #[.string b, .string ib], .int .u8 p] w fun e w' => e = .returned (.bool true) ∧ Below w.heap.size w w' := by
  obtain ⟨p, rfl⟩ := u8_of hp
  exact walkPPrivDrops (a.data.toList, ia.data.toList) ha ka (b.data.toList, ib.data.toList) hb kb p w hL
end Go.Proofs.YtiafecmnchlgdaaDoor
