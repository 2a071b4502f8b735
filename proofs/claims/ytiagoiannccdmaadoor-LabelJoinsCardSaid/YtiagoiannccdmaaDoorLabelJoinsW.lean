/- The walk of LabelJoins. Conditions: the sizes of what came in; the table of letters holds its text. -/
import Derived.Test.YtiagoiannccdmaaDoorLabPre3
import Derived.Test.YtiagoiannccdmaaDoorEx3
import Derived.BigQuiet
namespace Go.Proofs.YtiagoiannccdmaaDoor
open Go.RowKit Go.Shelf
attribute [local go_sem] str_list str_size
attribute [local go_sem high] eql_label neq_label
set_option maxRecDepth 100000 in
set_option maxHeartbeats 8000000 in
theorem walkPLabelJoins (a : Lz.Lab) (ha1 : a.1.length ≤ maxLen) (ha2 : a.2.length ≤ maxLen) (b : Lz.Lab) (hb1 : b.1.length ≤ maxLen) (hb2 : b.2.length ≤ maxLen) (c : Lz.Lab) (hc1 : c.1.length ≤ maxLen) (hc2 : c.2.length ≤ maxLen) (w : World) (hL : Letters w) :
    Calls Tryd.prog 4 #[pv a, pv b, pv c] w fun e w' => e = .returned (.bool true) ∧ Below w.heap.size w w' := by
  have mixed := mixedOrders
  have HL := Lib.hid hL
  clear hL
  have HSa := Lib.hid (small_p a ha1 ha2)
  have oka := okL_sm a
  generalize hsa : sm a = qa at HSa oka
  clear hsa
  have HSb := Lib.hid (small_p b hb1 hb2)
  have okb := okL_sm b
  generalize hsb : sm b = qb at HSb okb
  clear hsb
  have HSc := Lib.hid (small_p c hc1 hc2)
  have okc := okL_sm c
  generalize hsc : sm c = qc at HSc okc
  clear hsc
  obtain ⟨j, hj⟩ : ∃ j, Lz.jn qa qb = j := ⟨_, rfl⟩
  have okj : okL j := by rw [← hj]; exact okL_jn _ _
  obtain ⟨m, hm⟩ : ∃ m, Lz.mt qa qb = m := ⟨_, rfl⟩
  have okm : okL m := by rw [← hm]; exact okL_mt _ _
  obtain ⟨o1, ho1⟩ : ∃ o1, Lz.fl qa qc = o1 := ⟨_, rfl⟩
  obtain ⟨o2, ho2⟩ : ∃ o2, Lz.fl qb qc = o2 := ⟨_, rfl⟩
  obtain ⟨u1, hu1⟩ : ∃ u1, Lz.fl qc qa = u1 := ⟨_, rfl⟩
  obtain ⟨u2, hu2⟩ : ∃ u2, Lz.fl qc qb = u2 := ⟨_, rfl⟩
  have H1 := Lib.hid (show Lz.jn qa qb = j from hj)
  have H2 := Lib.hid (show Lz.mt qa qb = m from hm)
  have O1 := Lib.hid (show Lz.fl qa qc = o1 from ho1)
  have O2 := Lib.hid (show Lz.fl qb qc = o2 from ho2)
  have U1 := Lib.hid (show Lz.fl qc qa = u1 from hu1)
  have U2 := Lib.hid (show Lz.fl qc qb = u2 from hu2)
  have OJ := Lib.hid (show Lz.fl j qc = (o1 && o2) from by rw [← hj, ← ho1, ← ho2]; exact Lz.fl_jn _ _ _)
  have UM := Lib.hid (show Lz.fl qc m = (u1 && u2) from by rw [← hm, ← hu1, ← hu2]; exact Lz.fl_mt _ _ _)
  have R1 := Lib.hid (show (Lz.nrm j == j) = true from by rw [beq_iff_eq, ← hj]; exact Lz.rightL_jn _ _)
  have R2 := Lib.hid (show (Lz.nrm m == m) = true from by rw [beq_iff_eq, ← hm]; exact Lz.rightL_mt _ _)
  clear hj hm ho1 ho2 hu1 hu2
  obtain ⟨A_0, B_0, C_0, hB0⟩ := alloc3P w a b c
  have qA0 := A_0.cell0
  have qA1 := A_0.cell1
  have qB0 := B_0.cell0
  have qB1 := B_0.cell1
  have qC0 := C_0.cell0
  have qC1 := C_0.cell1
  go_enter Tryd.func4, Tryd.ntmps4
  go_wp2_with fail
  generalize (((w.alloc (.cells #[.string (str a.1), .string (str a.2)] 24)).alloc (.cells #[.string (str b.1), .string (str b.2)] 24)).alloc (.cells #[.string (str c.1), .string (str c.2)] 24)) = w0 at *
  have HEX := Lib.hid (fun W hL => examples3_any W hL)
  refine (HEX.out _ (HL.out.behind hB0)).mono ?_
  rintro e w1 ⟨rfl, hb1⟩
  clear qA0 qA1 qB0 qB1 qC0 qC1
  have A_1 := A_0.below hb1 A_0.lt
  have B_1 := B_0.below hb1 B_0.lt
  have C_1 := C_0.below hb1 C_0.lt
  have hB1 := hB0.trans (hb1.mono hB0.size)
  clear hb1 hB0 A_0 B_0 C_0
  have qA0 := A_1.cell0
  have qA1 := A_1.cell1
  have qB0 := B_1.cell0
  have qB1 := B_1.cell1
  have qC0 := C_1.cell0
  have qC1 := C_1.cell1
  go_wp2_with fail
  refine (HSa.out _).mono ?_
  rintro e w2 ⟨rfl, hb2⟩
  clear qA0 qA1 qB0 qB1 qC0 qC1
  have A_2 := A_1.below hb2 A_1.lt
  have B_2 := B_1.below hb2 B_1.lt
  have C_2 := C_1.below hb2 C_1.lt
  have hB2 := hB1.trans (hb2.mono hB1.size)
  clear hb2 hB1 A_1 B_1 C_1
  have qA0 := A_2.cell0
  have qA1 := A_2.cell1
  have qB0 := B_2.cell0
  have qB1 := B_2.cell1
  have qC0 := C_2.cell0
  have qC1 := C_2.cell1
  have f0 := A_2.frozen 0
  have f1 := A_2.frozen 1
  go_wp2_with fail
  have A_s : BoxL ((w2.setCell ⟨w.heap.size, 0, none⟩ (.string (str qa.1))).setCell ⟨w.heap.size, 1, none⟩ (.string (str qa.2))) w.heap.size qa := box2_set1 (box2_set0 A_2)
  have B_s : BoxL ((w2.setCell ⟨w.heap.size, 0, none⟩ (.string (str qa.1))).setCell ⟨w.heap.size, 1, none⟩ (.string (str qa.2))) (w.heap.size + 1) b := other2 (by omega) B_2 _ _
  have C_s : BoxL ((w2.setCell ⟨w.heap.size, 0, none⟩ (.string (str qa.1))).setCell ⟨w.heap.size, 1, none⟩ (.string (str qa.2))) (w.heap.size + 1 + 1) c := other2 (by omega) C_2 _ _
  have hs := (hB2.setCell (p := ⟨w.heap.size, 0, none⟩) (show w.heap.size ≤ w.heap.size by omega) (.string (str qa.1))).setCell (p := ⟨w.heap.size, 1, none⟩) (show w.heap.size ≤ w.heap.size by omega) (.string (str qa.2))
  clear qA0 qA1 qB0 qB1 qC0 qC1 f0 f1 hB2 A_2 B_2 C_2
  generalize ((w2.setCell ⟨w.heap.size, 0, none⟩ (.string (str qa.1))).setCell ⟨w.heap.size, 1, none⟩ (.string (str qa.2))) = w3 at hs A_s B_s C_s ⊢
  have A_3 := A_s
  have B_3 := B_s
  have C_3 := C_s
  have hB3 := hs
  clear hs A_s B_s C_s
  have qA0 := A_3.cell0
  have qA1 := A_3.cell1
  have qB0 := B_3.cell0
  have qB1 := B_3.cell1
  have qC0 := C_3.cell0
  have qC1 := C_3.cell1
  go_wp2_with fail
  refine (HSb.out _).mono ?_
  rintro e w4 ⟨rfl, hb4⟩
  clear qA0 qA1 qB0 qB1 qC0 qC1
  have A_4 := A_3.below hb4 A_3.lt
  have B_4 := B_3.below hb4 B_3.lt
  have C_4 := C_3.below hb4 C_3.lt
  have hB4 := hB3.trans (hb4.mono hB3.size)
  clear hb4 hB3 A_3 B_3 C_3
  have qA0 := A_4.cell0
  have qA1 := A_4.cell1
  have qB0 := B_4.cell0
  have qB1 := B_4.cell1
  have qC0 := C_4.cell0
  have qC1 := C_4.cell1
  have f0 := B_4.frozen 0
  have f1 := B_4.frozen 1
  go_wp2_with fail
  have B_s : BoxL ((w4.setCell ⟨(w.heap.size + 1), 0, none⟩ (.string (str qb.1))).setCell ⟨(w.heap.size + 1), 1, none⟩ (.string (str qb.2))) (w.heap.size + 1) qb := box2_set1 (box2_set0 B_4)
  have A_s : BoxL ((w4.setCell ⟨(w.heap.size + 1), 0, none⟩ (.string (str qb.1))).setCell ⟨(w.heap.size + 1), 1, none⟩ (.string (str qb.2))) w.heap.size qa := other2 (by omega) A_4 _ _
  have C_s : BoxL ((w4.setCell ⟨(w.heap.size + 1), 0, none⟩ (.string (str qb.1))).setCell ⟨(w.heap.size + 1), 1, none⟩ (.string (str qb.2))) (w.heap.size + 1 + 1) c := other2 (by omega) C_4 _ _
  have hs := (hB4.setCell (p := ⟨(w.heap.size + 1), 0, none⟩) (show w.heap.size ≤ (w.heap.size + 1) by omega) (.string (str qb.1))).setCell (p := ⟨(w.heap.size + 1), 1, none⟩) (show w.heap.size ≤ (w.heap.size + 1) by omega) (.string (str qb.2))
  clear qA0 qA1 qB0 qB1 qC0 qC1 f0 f1 hB4 A_4 B_4 C_4
  generalize ((w4.setCell ⟨(w.heap.size + 1), 0, none⟩ (.string (str qb.1))).setCell ⟨(w.heap.size + 1), 1, none⟩ (.string (str qb.2))) = w5 at hs A_s B_s C_s ⊢
  have A_5 := A_s
  have B_5 := B_s
  have C_5 := C_s
  have hB5 := hs
  clear hs A_s B_s C_s
  have qA0 := A_5.cell0
  have qA1 := A_5.cell1
  have qB0 := B_5.cell0
  have qB1 := B_5.cell1
  have qC0 := C_5.cell0
  have qC1 := C_5.cell1
  go_wp2_with fail
  refine (HSc.out _).mono ?_
  rintro e w6 ⟨rfl, hb6⟩
  clear qA0 qA1 qB0 qB1 qC0 qC1
  have A_6 := A_5.below hb6 A_5.lt
  have B_6 := B_5.below hb6 B_5.lt
  have C_6 := C_5.below hb6 C_5.lt
  have hB6 := hB5.trans (hb6.mono hB5.size)
  clear hb6 hB5 A_5 B_5 C_5
  have qA0 := A_6.cell0
  have qA1 := A_6.cell1
  have qB0 := B_6.cell0
  have qB1 := B_6.cell1
  have qC0 := C_6.cell0
  have qC1 := C_6.cell1
  have f0 := C_6.frozen 0
  have f1 := C_6.frozen 1
  go_wp2_with fail
  have C_s : BoxL ((w6.setCell ⟨(w.heap.size + 1 + 1), 0, none⟩ (.string (str qc.1))).setCell ⟨(w.heap.size + 1 + 1), 1, none⟩ (.string (str qc.2))) (w.heap.size + 1 + 1) qc := box2_set1 (box2_set0 C_6)
  have A_s : BoxL ((w6.setCell ⟨(w.heap.size + 1 + 1), 0, none⟩ (.string (str qc.1))).setCell ⟨(w.heap.size + 1 + 1), 1, none⟩ (.string (str qc.2))) w.heap.size qa := other2 (by omega) A_6 _ _
  have B_s : BoxL ((w6.setCell ⟨(w.heap.size + 1 + 1), 0, none⟩ (.string (str qc.1))).setCell ⟨(w.heap.size + 1 + 1), 1, none⟩ (.string (str qc.2))) (w.heap.size + 1) qb := other2 (by omega) B_6 _ _
  have hs := (hB6.setCell (p := ⟨(w.heap.size + 1 + 1), 0, none⟩) (show w.heap.size ≤ (w.heap.size + 1 + 1) by omega) (.string (str qc.1))).setCell (p := ⟨(w.heap.size + 1 + 1), 1, none⟩) (show w.heap.size ≤ (w.heap.size + 1 + 1) by omega) (.string (str qc.2))
  clear qA0 qA1 qB0 qB1 qC0 qC1 f0 f1 hB6 A_6 B_6 C_6
  generalize ((w6.setCell ⟨(w.heap.size + 1 + 1), 0, none⟩ (.string (str qc.1))).setCell ⟨(w.heap.size + 1 + 1), 1, none⟩ (.string (str qc.2))) = w7 at hs A_s B_s C_s ⊢
  have A_7 := A_s
  have B_7 := B_s
  have C_7 := C_s
  have hB7 := hs
  clear hs A_s B_s C_s
  have qA0 := A_7.cell0
  have qA1 := A_7.cell1
  have qB0 := B_7.cell0
  have qB1 := B_7.cell1
  have qC0 := C_7.cell0
  have qC1 := C_7.cell1
  go_wp2_with fail
  refine (jnE _ qa qb j oka okb H1.out).mono ?_
  rintro e w8 ⟨rfl, hb8⟩
  clear qA0 qA1 qB0 qB1 qC0 qC1
  have A_8 := A_7.below hb8 A_7.lt
  have B_8 := B_7.below hb8 B_7.lt
  have C_8 := C_7.below hb8 C_7.lt
  have hB8 := hB7.trans (hb8.mono hB7.size)
  clear hb8 hB7 A_7 B_7 C_7
  have qA0 := A_8.cell0
  have qA1 := A_8.cell1
  have qB0 := B_8.cell0
  have qB1 := B_8.cell1
  have qC0 := C_8.cell0
  have qC1 := C_8.cell1
  clear qA0 qA1 qB0 qB1 qC0 qC1
  have A_8_a := A_8.alloc (.cells #[.string (str j.1), .string (str j.2)] 24)
  have B_8_a := B_8.alloc (.cells #[.string (str j.1), .string (str j.2)] 24)
  have C_8_a := C_8.alloc (.cells #[.string (str j.1), .string (str j.2)] 24)
  have J_a : BoxL (w8.alloc (.cells #[.string (str j.1), .string (str j.2)] 24)) w8.heap.size j := Box2.new w8 _ _ _
  have hB8a := hB8.alloc hB8.size (.cells #[.string (str j.1), .string (str j.2)] 24)
  clear hB8 A_8 B_8 C_8
  have qA0 := A_8_a.cell0
  have qA1 := A_8_a.cell1
  have qB0 := B_8_a.cell0
  have qB1 := B_8_a.cell1
  have qC0 := C_8_a.cell0
  have qC1 := C_8_a.cell1
  have qJ0 := J_a.cell0
  have qJ1 := J_a.cell1
  go_wp2_with fail
  refine (mtE _ qa qb m oka okb H2.out).mono ?_
  rintro e w9 ⟨rfl, hb9⟩
  clear qA0 qA1 qB0 qB1 qC0 qC1 qJ0 qJ1
  have A_9 := A_8_a.below hb9 A_8_a.lt
  have B_9 := B_8_a.below hb9 B_8_a.lt
  have C_9 := C_8_a.below hb9 C_8_a.lt
  have J_9 := J_a.below hb9 J_a.lt
  have hB9 := hB8a.trans (hb9.mono hB8a.size)
  clear hb9 hB8a A_8_a B_8_a C_8_a J_a
  have qA0 := A_9.cell0
  have qA1 := A_9.cell1
  have qB0 := B_9.cell0
  have qB1 := B_9.cell1
  have qC0 := C_9.cell0
  have qC1 := C_9.cell1
  have qJ0 := J_9.cell0
  have qJ1 := J_9.cell1
  clear qA0 qA1 qB0 qB1 qC0 qC1 qJ0 qJ1
  have A_9_a := A_9.alloc (.cells #[.string (str m.1), .string (str m.2)] 24)
  have B_9_a := B_9.alloc (.cells #[.string (str m.1), .string (str m.2)] 24)
  have C_9_a := C_9.alloc (.cells #[.string (str m.1), .string (str m.2)] 24)
  have J_9_a := J_9.alloc (.cells #[.string (str m.1), .string (str m.2)] 24)
  have M_a : BoxL (w9.alloc (.cells #[.string (str m.1), .string (str m.2)] 24)) w9.heap.size m := Box2.new w9 _ _ _
  have hB9a := hB9.alloc hB9.size (.cells #[.string (str m.1), .string (str m.2)] 24)
  clear hB9 A_9 B_9 C_9 J_9
  have qA0 := A_9_a.cell0
  have qA1 := A_9_a.cell1
  have qB0 := B_9_a.cell0
  have qB1 := B_9_a.cell1
  have qC0 := C_9_a.cell0
  have qC1 := C_9_a.cell1
  have qJ0 := J_9_a.cell0
  have qJ1 := J_9_a.cell1
  have qM0 := M_a.cell0
  have qM1 := M_a.cell1
  cases o1 with
  | true =>
    cases o2 with
    | true =>
      go_wp2_with fail
      refine (flE _ qa qc true oka okc O1.out).mono ?_
      rintro e w10 ⟨rfl, hb10⟩
      clear qA0 qA1 qB0 qB1 qC0 qC1 qJ0 qJ1 qM0 qM1
      have A_10 := A_9_a.below hb10 A_9_a.lt
      have B_10 := B_9_a.below hb10 B_9_a.lt
      have C_10 := C_9_a.below hb10 C_9_a.lt
      have J_10 := J_9_a.below hb10 J_9_a.lt
      have M_10 := M_a.below hb10 M_a.lt
      have hB10 := hB9a.trans (hb10.mono hB9a.size)
      clear hb10 hB9a A_9_a B_9_a C_9_a J_9_a M_a
      have qA0 := A_10.cell0
      have qA1 := A_10.cell1
      have qB0 := B_10.cell0
      have qB1 := B_10.cell1
      have qC0 := C_10.cell0
      have qC1 := C_10.cell1
      have qJ0 := J_10.cell0
      have qJ1 := J_10.cell1
      have qM0 := M_10.cell0
      have qM1 := M_10.cell1
      go_wp2_with fail
      refine (flE _ qb qc true okb okc O2.out).mono ?_
      rintro e w11 ⟨rfl, hb11⟩
      clear qA0 qA1 qB0 qB1 qC0 qC1 qJ0 qJ1 qM0 qM1
      have A_11 := A_10.below hb11 A_10.lt
      have B_11 := B_10.below hb11 B_10.lt
      have C_11 := C_10.below hb11 C_10.lt
      have J_11 := J_10.below hb11 J_10.lt
      have M_11 := M_10.below hb11 M_10.lt
      have hB11 := hB10.trans (hb11.mono hB10.size)
      clear hb11 hB10 A_10 B_10 C_10 J_10 M_10
      have qA0 := A_11.cell0
      have qA1 := A_11.cell1
      have qB0 := B_11.cell0
      have qB1 := B_11.cell1
      have qC0 := C_11.cell0
      have qC1 := C_11.cell1
      have qJ0 := J_11.cell0
      have qJ1 := J_11.cell1
      have qM0 := M_11.cell0
      have qM1 := M_11.cell1
      cases u1 with
      | true =>
        cases u2 with
        | true =>
          go_wp2_with fail
          refine (flE _ qc qa true okc oka U1.out).mono ?_
          rintro e w12 ⟨rfl, hb12⟩
          clear qA0 qA1 qB0 qB1 qC0 qC1 qJ0 qJ1 qM0 qM1
          have A_12 := A_11.below hb12 A_11.lt
          have B_12 := B_11.below hb12 B_11.lt
          have C_12 := C_11.below hb12 C_11.lt
          have J_12 := J_11.below hb12 J_11.lt
          have M_12 := M_11.below hb12 M_11.lt
          have hB12 := hB11.trans (hb12.mono hB11.size)
          clear hb12 hB11 A_11 B_11 C_11 J_11 M_11
          have qA0 := A_12.cell0
          have qA1 := A_12.cell1
          have qB0 := B_12.cell0
          have qB1 := B_12.cell1
          have qC0 := C_12.cell0
          have qC1 := C_12.cell1
          have qJ0 := J_12.cell0
          have qJ1 := J_12.cell1
          have qM0 := M_12.cell0
          have qM1 := M_12.cell1
          go_wp2_with fail
          refine (flE _ qc qb true okc okb U2.out).mono ?_
          rintro e w13 ⟨rfl, hb13⟩
          clear qA0 qA1 qB0 qB1 qC0 qC1 qJ0 qJ1 qM0 qM1
          have A_13 := A_12.below hb13 A_12.lt
          have B_13 := B_12.below hb13 B_12.lt
          have C_13 := C_12.below hb13 C_12.lt
          have J_13 := J_12.below hb13 J_12.lt
          have M_13 := M_12.below hb13 M_12.lt
          have hB13 := hB12.trans (hb13.mono hB12.size)
          clear hb13 hB12 A_12 B_12 C_12 J_12 M_12
          have qA0 := A_13.cell0
          have qA1 := A_13.cell1
          have qB0 := B_13.cell0
          have qB1 := B_13.cell1
          have qC0 := C_13.cell0
          have qC1 := C_13.cell1
          have qJ0 := J_13.cell0
          have qJ1 := J_13.cell1
          have qM0 := M_13.cell0
          have qM1 := M_13.cell1
          go_wp2_with fail
          refine (right_p j true okj R1.out _).mono ?_
          rintro e w14 ⟨rfl, hb14⟩
          clear qA0 qA1 qB0 qB1 qC0 qC1 qJ0 qJ1 qM0 qM1
          have A_14 := A_13.below hb14 A_13.lt
          have B_14 := B_13.below hb14 B_13.lt
          have C_14 := C_13.below hb14 C_13.lt
          have J_14 := J_13.below hb14 J_13.lt
          have M_14 := M_13.below hb14 M_13.lt
          have hB14 := hB13.trans (hb14.mono hB13.size)
          clear hb14 hB13 A_13 B_13 C_13 J_13 M_13
          have qA0 := A_14.cell0
          have qA1 := A_14.cell1
          have qB0 := B_14.cell0
          have qB1 := B_14.cell1
          have qC0 := C_14.cell0
          have qC1 := C_14.cell1
          have qJ0 := J_14.cell0
          have qJ1 := J_14.cell1
          have qM0 := M_14.cell0
          have qM1 := M_14.cell1
          go_wp2_with fail
          refine (right_p m true okm R2.out _).mono ?_
          rintro e w15 ⟨rfl, hb15⟩
          clear qA0 qA1 qB0 qB1 qC0 qC1 qJ0 qJ1 qM0 qM1
          have A_15 := A_14.below hb15 A_14.lt
          have B_15 := B_14.below hb15 B_14.lt
          have C_15 := C_14.below hb15 C_14.lt
          have J_15 := J_14.below hb15 J_14.lt
          have M_15 := M_14.below hb15 M_14.lt
          have hB15 := hB14.trans (hb15.mono hB14.size)
          clear hb15 hB14 A_14 B_14 C_14 J_14 M_14
          have qA0 := A_15.cell0
          have qA1 := A_15.cell1
          have qB0 := B_15.cell0
          have qB1 := B_15.cell1
          have qC0 := C_15.cell0
          have qC1 := C_15.cell1
          have qJ0 := J_15.cell0
          have qJ1 := J_15.cell1
          have qM0 := M_15.cell0
          have qM1 := M_15.cell1
          go_wp2_with fail
          refine (flE _ j qc true okj okc OJ.out).mono ?_
          rintro e w16 ⟨rfl, hb16⟩
          clear qA0 qA1 qB0 qB1 qC0 qC1 qJ0 qJ1 qM0 qM1
          have A_16 := A_15.below hb16 A_15.lt
          have B_16 := B_15.below hb16 B_15.lt
          have C_16 := C_15.below hb16 C_15.lt
          have J_16 := J_15.below hb16 J_15.lt
          have M_16 := M_15.below hb16 M_15.lt
          have hB16 := hB15.trans (hb16.mono hB15.size)
          clear hb16 hB15 A_15 B_15 C_15 J_15 M_15
          have qA0 := A_16.cell0
          have qA1 := A_16.cell1
          have qB0 := B_16.cell0
          have qB1 := B_16.cell1
          have qC0 := C_16.cell0
          have qC1 := C_16.cell1
          have qJ0 := J_16.cell0
          have qJ1 := J_16.cell1
          have qM0 := M_16.cell0
          have qM1 := M_16.cell1
          go_wp2_with fail
          refine (flE _ qc m true okc okm UM.out).mono ?_
          rintro e w17 ⟨rfl, hb17⟩
          clear qA0 qA1 qB0 qB1 qC0 qC1 qJ0 qJ1 qM0 qM1
          have A_17 := A_16.below hb17 A_16.lt
          have B_17 := B_16.below hb17 B_16.lt
          have C_17 := C_16.below hb17 C_16.lt
          have J_17 := J_16.below hb17 J_16.lt
          have M_17 := M_16.below hb17 M_16.lt
          have hB17 := hB16.trans (hb17.mono hB16.size)
          clear hb17 hB16 A_16 B_16 C_16 J_16 M_16
          have qA0 := A_17.cell0
          have qA1 := A_17.cell1
          have qB0 := B_17.cell0
          have qB1 := B_17.cell1
          have qC0 := C_17.cell0
          have qC1 := C_17.cell1
          have qJ0 := J_17.cell0
          have qJ1 := J_17.cell1
          have qM0 := M_17.cell0
          have qM1 := M_17.cell1
          clear qA0 qA1 qB0 qB1 qC0 qC1 qJ0 qJ1 qM0 qM1
          go_wp2
          go_ret
          exact ⟨rfl, hB17⟩
        | false =>
          go_wp2_with fail
          refine (flE _ qc qa true okc oka U1.out).mono ?_
          rintro e w12 ⟨rfl, hb12⟩
          clear qA0 qA1 qB0 qB1 qC0 qC1 qJ0 qJ1 qM0 qM1
          have A_12 := A_11.below hb12 A_11.lt
          have B_12 := B_11.below hb12 B_11.lt
          have C_12 := C_11.below hb12 C_11.lt
          have J_12 := J_11.below hb12 J_11.lt
          have M_12 := M_11.below hb12 M_11.lt
          have hB12 := hB11.trans (hb12.mono hB11.size)
          clear hb12 hB11 A_11 B_11 C_11 J_11 M_11
          have qA0 := A_12.cell0
          have qA1 := A_12.cell1
          have qB0 := B_12.cell0
          have qB1 := B_12.cell1
          have qC0 := C_12.cell0
          have qC1 := C_12.cell1
          have qJ0 := J_12.cell0
          have qJ1 := J_12.cell1
          have qM0 := M_12.cell0
          have qM1 := M_12.cell1
          go_wp2_with fail
          refine (flE _ qc qb false okc okb U2.out).mono ?_
          rintro e w13 ⟨rfl, hb13⟩
          clear qA0 qA1 qB0 qB1 qC0 qC1 qJ0 qJ1 qM0 qM1
          have A_13 := A_12.below hb13 A_12.lt
          have B_13 := B_12.below hb13 B_12.lt
          have C_13 := C_12.below hb13 C_12.lt
          have J_13 := J_12.below hb13 J_12.lt
          have M_13 := M_12.below hb13 M_12.lt
          have hB13 := hB12.trans (hb13.mono hB12.size)
          clear hb13 hB12 A_12 B_12 C_12 J_12 M_12
          have qA0 := A_13.cell0
          have qA1 := A_13.cell1
          have qB0 := B_13.cell0
          have qB1 := B_13.cell1
          have qC0 := C_13.cell0
          have qC1 := C_13.cell1
          have qJ0 := J_13.cell0
          have qJ1 := J_13.cell1
          have qM0 := M_13.cell0
          have qM1 := M_13.cell1
          go_wp2_with fail
          refine (right_p j true okj R1.out _).mono ?_
          rintro e w14 ⟨rfl, hb14⟩
          clear qA0 qA1 qB0 qB1 qC0 qC1 qJ0 qJ1 qM0 qM1
          have A_14 := A_13.below hb14 A_13.lt
          have B_14 := B_13.below hb14 B_13.lt
          have C_14 := C_13.below hb14 C_13.lt
          have J_14 := J_13.below hb14 J_13.lt
          have M_14 := M_13.below hb14 M_13.lt
          have hB14 := hB13.trans (hb14.mono hB13.size)
          clear hb14 hB13 A_13 B_13 C_13 J_13 M_13
          have qA0 := A_14.cell0
          have qA1 := A_14.cell1
          have qB0 := B_14.cell0
          have qB1 := B_14.cell1
          have qC0 := C_14.cell0
          have qC1 := C_14.cell1
          have qJ0 := J_14.cell0
          have qJ1 := J_14.cell1
          have qM0 := M_14.cell0
          have qM1 := M_14.cell1
          go_wp2_with fail
          refine (right_p m true okm R2.out _).mono ?_
          rintro e w15 ⟨rfl, hb15⟩
          clear qA0 qA1 qB0 qB1 qC0 qC1 qJ0 qJ1 qM0 qM1
          have A_15 := A_14.below hb15 A_14.lt
          have B_15 := B_14.below hb15 B_14.lt
          have C_15 := C_14.below hb15 C_14.lt
          have J_15 := J_14.below hb15 J_14.lt
          have M_15 := M_14.below hb15 M_14.lt
          have hB15 := hB14.trans (hb15.mono hB14.size)
          clear hb15 hB14 A_14 B_14 C_14 J_14 M_14
          have qA0 := A_15.cell0
          have qA1 := A_15.cell1
          have qB0 := B_15.cell0
          have qB1 := B_15.cell1
          have qC0 := C_15.cell0
          have qC1 := C_15.cell1
          have qJ0 := J_15.cell0
          have qJ1 := J_15.cell1
          have qM0 := M_15.cell0
          have qM1 := M_15.cell1
          go_wp2_with fail
          refine (flE _ j qc true okj okc OJ.out).mono ?_
          rintro e w16 ⟨rfl, hb16⟩
          clear qA0 qA1 qB0 qB1 qC0 qC1 qJ0 qJ1 qM0 qM1
          have A_16 := A_15.below hb16 A_15.lt
          have B_16 := B_15.below hb16 B_15.lt
          have C_16 := C_15.below hb16 C_15.lt
          have J_16 := J_15.below hb16 J_15.lt
          have M_16 := M_15.below hb16 M_15.lt
          have hB16 := hB15.trans (hb16.mono hB15.size)
          clear hb16 hB15 A_15 B_15 C_15 J_15 M_15
          have qA0 := A_16.cell0
          have qA1 := A_16.cell1
          have qB0 := B_16.cell0
          have qB1 := B_16.cell1
          have qC0 := C_16.cell0
          have qC1 := C_16.cell1
          have qJ0 := J_16.cell0
          have qJ1 := J_16.cell1
          have qM0 := M_16.cell0
          have qM1 := M_16.cell1
          go_wp2_with fail
          refine (flE _ qc m false okc okm UM.out).mono ?_
          rintro e w17 ⟨rfl, hb17⟩
          clear qA0 qA1 qB0 qB1 qC0 qC1 qJ0 qJ1 qM0 qM1
          have A_17 := A_16.below hb17 A_16.lt
          have B_17 := B_16.below hb17 B_16.lt
          have C_17 := C_16.below hb17 C_16.lt
          have J_17 := J_16.below hb17 J_16.lt
          have M_17 := M_16.below hb17 M_16.lt
          have hB17 := hB16.trans (hb17.mono hB16.size)
          clear hb17 hB16 A_16 B_16 C_16 J_16 M_16
          have qA0 := A_17.cell0
          have qA1 := A_17.cell1
          have qB0 := B_17.cell0
          have qB1 := B_17.cell1
          have qC0 := C_17.cell0
          have qC1 := C_17.cell1
          have qJ0 := J_17.cell0
          have qJ1 := J_17.cell1
          have qM0 := M_17.cell0
          have qM1 := M_17.cell1
          clear qA0 qA1 qB0 qB1 qC0 qC1 qJ0 qJ1 qM0 qM1
          go_wp2
          go_ret
          exact ⟨rfl, hB17⟩
      | false =>
        go_wp2_with fail
        refine (flE _ qc qa false okc oka U1.out).mono ?_
        rintro e w12 ⟨rfl, hb12⟩
        clear qA0 qA1 qB0 qB1 qC0 qC1 qJ0 qJ1 qM0 qM1
        have A_12 := A_11.below hb12 A_11.lt
        have B_12 := B_11.below hb12 B_11.lt
        have C_12 := C_11.below hb12 C_11.lt
        have J_12 := J_11.below hb12 J_11.lt
        have M_12 := M_11.below hb12 M_11.lt
        have hB12 := hB11.trans (hb12.mono hB11.size)
        clear hb12 hB11 A_11 B_11 C_11 J_11 M_11
        have qA0 := A_12.cell0
        have qA1 := A_12.cell1
        have qB0 := B_12.cell0
        have qB1 := B_12.cell1
        have qC0 := C_12.cell0
        have qC1 := C_12.cell1
        have qJ0 := J_12.cell0
        have qJ1 := J_12.cell1
        have qM0 := M_12.cell0
        have qM1 := M_12.cell1
        go_wp2_with fail
        refine (right_p j true okj R1.out _).mono ?_
        rintro e w13 ⟨rfl, hb13⟩
        clear qA0 qA1 qB0 qB1 qC0 qC1 qJ0 qJ1 qM0 qM1
        have A_13 := A_12.below hb13 A_12.lt
        have B_13 := B_12.below hb13 B_12.lt
        have C_13 := C_12.below hb13 C_12.lt
        have J_13 := J_12.below hb13 J_12.lt
        have M_13 := M_12.below hb13 M_12.lt
        have hB13 := hB12.trans (hb13.mono hB12.size)
        clear hb13 hB12 A_12 B_12 C_12 J_12 M_12
        have qA0 := A_13.cell0
        have qA1 := A_13.cell1
        have qB0 := B_13.cell0
        have qB1 := B_13.cell1
        have qC0 := C_13.cell0
        have qC1 := C_13.cell1
        have qJ0 := J_13.cell0
        have qJ1 := J_13.cell1
        have qM0 := M_13.cell0
        have qM1 := M_13.cell1
        go_wp2_with fail
        refine (right_p m true okm R2.out _).mono ?_
        rintro e w14 ⟨rfl, hb14⟩
        clear qA0 qA1 qB0 qB1 qC0 qC1 qJ0 qJ1 qM0 qM1
        have A_14 := A_13.below hb14 A_13.lt
        have B_14 := B_13.below hb14 B_13.lt
        have C_14 := C_13.below hb14 C_13.lt
        have J_14 := J_13.below hb14 J_13.lt
        have M_14 := M_13.below hb14 M_13.lt
        have hB14 := hB13.trans (hb14.mono hB13.size)
        clear hb14 hB13 A_13 B_13 C_13 J_13 M_13
        have qA0 := A_14.cell0
        have qA1 := A_14.cell1
        have qB0 := B_14.cell0
        have qB1 := B_14.cell1
        have qC0 := C_14.cell0
        have qC1 := C_14.cell1
        have qJ0 := J_14.cell0
        have qJ1 := J_14.cell1
        have qM0 := M_14.cell0
        have qM1 := M_14.cell1
        go_wp2_with fail
        refine (flE _ j qc true okj okc OJ.out).mono ?_
        rintro e w15 ⟨rfl, hb15⟩
        clear qA0 qA1 qB0 qB1 qC0 qC1 qJ0 qJ1 qM0 qM1
        have A_15 := A_14.below hb15 A_14.lt
        have B_15 := B_14.below hb15 B_14.lt
        have C_15 := C_14.below hb15 C_14.lt
        have J_15 := J_14.below hb15 J_14.lt
        have M_15 := M_14.below hb15 M_14.lt
        have hB15 := hB14.trans (hb15.mono hB14.size)
        clear hb15 hB14 A_14 B_14 C_14 J_14 M_14
        have qA0 := A_15.cell0
        have qA1 := A_15.cell1
        have qB0 := B_15.cell0
        have qB1 := B_15.cell1
        have qC0 := C_15.cell0
        have qC1 := C_15.cell1
        have qJ0 := J_15.cell0
        have qJ1 := J_15.cell1
        have qM0 := M_15.cell0
        have qM1 := M_15.cell1
        go_wp2_with fail
        refine (flE _ qc m false okc okm UM.out).mono ?_
        rintro e w16 ⟨rfl, hb16⟩
        clear qA0 qA1 qB0 qB1 qC0 qC1 qJ0 qJ1 qM0 qM1
        have A_16 := A_15.below hb16 A_15.lt
        have B_16 := B_15.below hb16 B_15.lt
        have C_16 := C_15.below hb16 C_15.lt
        have J_16 := J_15.below hb16 J_15.lt
        have M_16 := M_15.below hb16 M_15.lt
        have hB16 := hB15.trans (hb16.mono hB15.size)
        clear hb16 hB15 A_15 B_15 C_15 J_15 M_15
        have qA0 := A_16.cell0
        have qA1 := A_16.cell1
        have qB0 := B_16.cell0
        have qB1 := B_16.cell1
        have qC0 := C_16.cell0
        have qC1 := C_16.cell1
        have qJ0 := J_16.cell0
        have qJ1 := J_16.cell1
        have qM0 := M_16.cell0
        have qM1 := M_16.cell1
        clear qA0 qA1 qB0 qB1 qC0 qC1 qJ0 qJ1 qM0 qM1
        go_wp2
        go_ret
        exact ⟨rfl, hB16⟩
    | false =>
      go_wp2_with fail
      refine (flE _ qa qc true oka okc O1.out).mono ?_
      rintro e w10 ⟨rfl, hb10⟩
      clear qA0 qA1 qB0 qB1 qC0 qC1 qJ0 qJ1 qM0 qM1
      have A_10 := A_9_a.below hb10 A_9_a.lt
      have B_10 := B_9_a.below hb10 B_9_a.lt
      have C_10 := C_9_a.below hb10 C_9_a.lt
      have J_10 := J_9_a.below hb10 J_9_a.lt
      have M_10 := M_a.below hb10 M_a.lt
      have hB10 := hB9a.trans (hb10.mono hB9a.size)
      clear hb10 hB9a A_9_a B_9_a C_9_a J_9_a M_a
      have qA0 := A_10.cell0
      have qA1 := A_10.cell1
      have qB0 := B_10.cell0
      have qB1 := B_10.cell1
      have qC0 := C_10.cell0
      have qC1 := C_10.cell1
      have qJ0 := J_10.cell0
      have qJ1 := J_10.cell1
      have qM0 := M_10.cell0
      have qM1 := M_10.cell1
      go_wp2_with fail
      refine (flE _ qb qc false okb okc O2.out).mono ?_
      rintro e w11 ⟨rfl, hb11⟩
      clear qA0 qA1 qB0 qB1 qC0 qC1 qJ0 qJ1 qM0 qM1
      have A_11 := A_10.below hb11 A_10.lt
      have B_11 := B_10.below hb11 B_10.lt
      have C_11 := C_10.below hb11 C_10.lt
      have J_11 := J_10.below hb11 J_10.lt
      have M_11 := M_10.below hb11 M_10.lt
      have hB11 := hB10.trans (hb11.mono hB10.size)
      clear hb11 hB10 A_10 B_10 C_10 J_10 M_10
      have qA0 := A_11.cell0
      have qA1 := A_11.cell1
      have qB0 := B_11.cell0
      have qB1 := B_11.cell1
      have qC0 := C_11.cell0
      have qC1 := C_11.cell1
      have qJ0 := J_11.cell0
      have qJ1 := J_11.cell1
      have qM0 := M_11.cell0
      have qM1 := M_11.cell1
      cases u1 with
      | true =>
        cases u2 with
        | true =>
          go_wp2_with fail
          refine (flE _ qc qa true okc oka U1.out).mono ?_
          rintro e w12 ⟨rfl, hb12⟩
          clear qA0 qA1 qB0 qB1 qC0 qC1 qJ0 qJ1 qM0 qM1
          have A_12 := A_11.below hb12 A_11.lt
          have B_12 := B_11.below hb12 B_11.lt
          have C_12 := C_11.below hb12 C_11.lt
          have J_12 := J_11.below hb12 J_11.lt
          have M_12 := M_11.below hb12 M_11.lt
          have hB12 := hB11.trans (hb12.mono hB11.size)
          clear hb12 hB11 A_11 B_11 C_11 J_11 M_11
          have qA0 := A_12.cell0
          have qA1 := A_12.cell1
          have qB0 := B_12.cell0
          have qB1 := B_12.cell1
          have qC0 := C_12.cell0
          have qC1 := C_12.cell1
          have qJ0 := J_12.cell0
          have qJ1 := J_12.cell1
          have qM0 := M_12.cell0
          have qM1 := M_12.cell1
          go_wp2_with fail
          refine (flE _ qc qb true okc okb U2.out).mono ?_
          rintro e w13 ⟨rfl, hb13⟩
          clear qA0 qA1 qB0 qB1 qC0 qC1 qJ0 qJ1 qM0 qM1
          have A_13 := A_12.below hb13 A_12.lt
          have B_13 := B_12.below hb13 B_12.lt
          have C_13 := C_12.below hb13 C_12.lt
          have J_13 := J_12.below hb13 J_12.lt
          have M_13 := M_12.below hb13 M_12.lt
          have hB13 := hB12.trans (hb13.mono hB12.size)
          clear hb13 hB12 A_12 B_12 C_12 J_12 M_12
          have qA0 := A_13.cell0
          have qA1 := A_13.cell1
          have qB0 := B_13.cell0
          have qB1 := B_13.cell1
          have qC0 := C_13.cell0
          have qC1 := C_13.cell1
          have qJ0 := J_13.cell0
          have qJ1 := J_13.cell1
          have qM0 := M_13.cell0
          have qM1 := M_13.cell1
          go_wp2_with fail
          refine (right_p j true okj R1.out _).mono ?_
          rintro e w14 ⟨rfl, hb14⟩
          clear qA0 qA1 qB0 qB1 qC0 qC1 qJ0 qJ1 qM0 qM1
          have A_14 := A_13.below hb14 A_13.lt
          have B_14 := B_13.below hb14 B_13.lt
          have C_14 := C_13.below hb14 C_13.lt
          have J_14 := J_13.below hb14 J_13.lt
          have M_14 := M_13.below hb14 M_13.lt
          have hB14 := hB13.trans (hb14.mono hB13.size)
          clear hb14 hB13 A_13 B_13 C_13 J_13 M_13
          have qA0 := A_14.cell0
          have qA1 := A_14.cell1
          have qB0 := B_14.cell0
          have qB1 := B_14.cell1
          have qC0 := C_14.cell0
          have qC1 := C_14.cell1
          have qJ0 := J_14.cell0
          have qJ1 := J_14.cell1
          have qM0 := M_14.cell0
          have qM1 := M_14.cell1
          go_wp2_with fail
          refine (right_p m true okm R2.out _).mono ?_
          rintro e w15 ⟨rfl, hb15⟩
          clear qA0 qA1 qB0 qB1 qC0 qC1 qJ0 qJ1 qM0 qM1
          have A_15 := A_14.below hb15 A_14.lt
          have B_15 := B_14.below hb15 B_14.lt
          have C_15 := C_14.below hb15 C_14.lt
          have J_15 := J_14.below hb15 J_14.lt
          have M_15 := M_14.below hb15 M_14.lt
          have hB15 := hB14.trans (hb15.mono hB14.size)
          clear hb15 hB14 A_14 B_14 C_14 J_14 M_14
          have qA0 := A_15.cell0
          have qA1 := A_15.cell1
          have qB0 := B_15.cell0
          have qB1 := B_15.cell1
          have qC0 := C_15.cell0
          have qC1 := C_15.cell1
          have qJ0 := J_15.cell0
          have qJ1 := J_15.cell1
          have qM0 := M_15.cell0
          have qM1 := M_15.cell1
          go_wp2_with fail
          refine (flE _ j qc false okj okc OJ.out).mono ?_
          rintro e w16 ⟨rfl, hb16⟩
          clear qA0 qA1 qB0 qB1 qC0 qC1 qJ0 qJ1 qM0 qM1
          have A_16 := A_15.below hb16 A_15.lt
          have B_16 := B_15.below hb16 B_15.lt
          have C_16 := C_15.below hb16 C_15.lt
          have J_16 := J_15.below hb16 J_15.lt
          have M_16 := M_15.below hb16 M_15.lt
          have hB16 := hB15.trans (hb16.mono hB15.size)
          clear hb16 hB15 A_15 B_15 C_15 J_15 M_15
          have qA0 := A_16.cell0
          have qA1 := A_16.cell1
          have qB0 := B_16.cell0
          have qB1 := B_16.cell1
          have qC0 := C_16.cell0
          have qC1 := C_16.cell1
          have qJ0 := J_16.cell0
          have qJ1 := J_16.cell1
          have qM0 := M_16.cell0
          have qM1 := M_16.cell1
          go_wp2_with fail
          refine (flE _ qc m true okc okm UM.out).mono ?_
          rintro e w17 ⟨rfl, hb17⟩
          clear qA0 qA1 qB0 qB1 qC0 qC1 qJ0 qJ1 qM0 qM1
          have A_17 := A_16.below hb17 A_16.lt
          have B_17 := B_16.below hb17 B_16.lt
          have C_17 := C_16.below hb17 C_16.lt
          have J_17 := J_16.below hb17 J_16.lt
          have M_17 := M_16.below hb17 M_16.lt
          have hB17 := hB16.trans (hb17.mono hB16.size)
          clear hb17 hB16 A_16 B_16 C_16 J_16 M_16
          have qA0 := A_17.cell0
          have qA1 := A_17.cell1
          have qB0 := B_17.cell0
          have qB1 := B_17.cell1
          have qC0 := C_17.cell0
          have qC1 := C_17.cell1
          have qJ0 := J_17.cell0
          have qJ1 := J_17.cell1
          have qM0 := M_17.cell0
          have qM1 := M_17.cell1
          clear qA0 qA1 qB0 qB1 qC0 qC1 qJ0 qJ1 qM0 qM1
          go_wp2
          go_ret
          exact ⟨rfl, hB17⟩
        | false =>
          go_wp2_with fail
          refine (flE _ qc qa true okc oka U1.out).mono ?_
          rintro e w12 ⟨rfl, hb12⟩
          clear qA0 qA1 qB0 qB1 qC0 qC1 qJ0 qJ1 qM0 qM1
          have A_12 := A_11.below hb12 A_11.lt
          have B_12 := B_11.below hb12 B_11.lt
          have C_12 := C_11.below hb12 C_11.lt
          have J_12 := J_11.below hb12 J_11.lt
          have M_12 := M_11.below hb12 M_11.lt
          have hB12 := hB11.trans (hb12.mono hB11.size)
          clear hb12 hB11 A_11 B_11 C_11 J_11 M_11
          have qA0 := A_12.cell0
          have qA1 := A_12.cell1
          have qB0 := B_12.cell0
          have qB1 := B_12.cell1
          have qC0 := C_12.cell0
          have qC1 := C_12.cell1
          have qJ0 := J_12.cell0
          have qJ1 := J_12.cell1
          have qM0 := M_12.cell0
          have qM1 := M_12.cell1
          go_wp2_with fail
          refine (flE _ qc qb false okc okb U2.out).mono ?_
          rintro e w13 ⟨rfl, hb13⟩
          clear qA0 qA1 qB0 qB1 qC0 qC1 qJ0 qJ1 qM0 qM1
          have A_13 := A_12.below hb13 A_12.lt
          have B_13 := B_12.below hb13 B_12.lt
          have C_13 := C_12.below hb13 C_12.lt
          have J_13 := J_12.below hb13 J_12.lt
          have M_13 := M_12.below hb13 M_12.lt
          have hB13 := hB12.trans (hb13.mono hB12.size)
          clear hb13 hB12 A_12 B_12 C_12 J_12 M_12
          have qA0 := A_13.cell0
          have qA1 := A_13.cell1
          have qB0 := B_13.cell0
          have qB1 := B_13.cell1
          have qC0 := C_13.cell0
          have qC1 := C_13.cell1
          have qJ0 := J_13.cell0
          have qJ1 := J_13.cell1
          have qM0 := M_13.cell0
          have qM1 := M_13.cell1
          go_wp2_with fail
          refine (right_p j true okj R1.out _).mono ?_
          rintro e w14 ⟨rfl, hb14⟩
          clear qA0 qA1 qB0 qB1 qC0 qC1 qJ0 qJ1 qM0 qM1
          have A_14 := A_13.below hb14 A_13.lt
          have B_14 := B_13.below hb14 B_13.lt
          have C_14 := C_13.below hb14 C_13.lt
          have J_14 := J_13.below hb14 J_13.lt
          have M_14 := M_13.below hb14 M_13.lt
          have hB14 := hB13.trans (hb14.mono hB13.size)
          clear hb14 hB13 A_13 B_13 C_13 J_13 M_13
          have qA0 := A_14.cell0
          have qA1 := A_14.cell1
          have qB0 := B_14.cell0
          have qB1 := B_14.cell1
          have qC0 := C_14.cell0
          have qC1 := C_14.cell1
          have qJ0 := J_14.cell0
          have qJ1 := J_14.cell1
          have qM0 := M_14.cell0
          have qM1 := M_14.cell1
          go_wp2_with fail
          refine (right_p m true okm R2.out _).mono ?_
          rintro e w15 ⟨rfl, hb15⟩
          clear qA0 qA1 qB0 qB1 qC0 qC1 qJ0 qJ1 qM0 qM1
          have A_15 := A_14.below hb15 A_14.lt
          have B_15 := B_14.below hb15 B_14.lt
          have C_15 := C_14.below hb15 C_14.lt
          have J_15 := J_14.below hb15 J_14.lt
          have M_15 := M_14.below hb15 M_14.lt
          have hB15 := hB14.trans (hb15.mono hB14.size)
          clear hb15 hB14 A_14 B_14 C_14 J_14 M_14
          have qA0 := A_15.cell0
          have qA1 := A_15.cell1
          have qB0 := B_15.cell0
          have qB1 := B_15.cell1
          have qC0 := C_15.cell0
          have qC1 := C_15.cell1
          have qJ0 := J_15.cell0
          have qJ1 := J_15.cell1
          have qM0 := M_15.cell0
          have qM1 := M_15.cell1
          go_wp2_with fail
          refine (flE _ j qc false okj okc OJ.out).mono ?_
          rintro e w16 ⟨rfl, hb16⟩
          clear qA0 qA1 qB0 qB1 qC0 qC1 qJ0 qJ1 qM0 qM1
          have A_16 := A_15.below hb16 A_15.lt
          have B_16 := B_15.below hb16 B_15.lt
          have C_16 := C_15.below hb16 C_15.lt
          have J_16 := J_15.below hb16 J_15.lt
          have M_16 := M_15.below hb16 M_15.lt
          have hB16 := hB15.trans (hb16.mono hB15.size)
          clear hb16 hB15 A_15 B_15 C_15 J_15 M_15
          have qA0 := A_16.cell0
          have qA1 := A_16.cell1
          have qB0 := B_16.cell0
          have qB1 := B_16.cell1
          have qC0 := C_16.cell0
          have qC1 := C_16.cell1
          have qJ0 := J_16.cell0
          have qJ1 := J_16.cell1
          have qM0 := M_16.cell0
          have qM1 := M_16.cell1
          go_wp2_with fail
          refine (flE _ qc m false okc okm UM.out).mono ?_
          rintro e w17 ⟨rfl, hb17⟩
          clear qA0 qA1 qB0 qB1 qC0 qC1 qJ0 qJ1 qM0 qM1
          have A_17 := A_16.below hb17 A_16.lt
          have B_17 := B_16.below hb17 B_16.lt
          have C_17 := C_16.below hb17 C_16.lt
          have J_17 := J_16.below hb17 J_16.lt
          have M_17 := M_16.below hb17 M_16.lt
          have hB17 := hB16.trans (hb17.mono hB16.size)
          clear hb17 hB16 A_16 B_16 C_16 J_16 M_16
          have qA0 := A_17.cell0
          have qA1 := A_17.cell1
          have qB0 := B_17.cell0
          have qB1 := B_17.cell1
          have qC0 := C_17.cell0
          have qC1 := C_17.cell1
          have qJ0 := J_17.cell0
          have qJ1 := J_17.cell1
          have qM0 := M_17.cell0
          have qM1 := M_17.cell1
          clear qA0 qA1 qB0 qB1 qC0 qC1 qJ0 qJ1 qM0 qM1
          go_wp2
          go_ret
          exact ⟨rfl, hB17⟩
      | false =>
        go_wp2_with fail
        refine (flE _ qc qa false okc oka U1.out).mono ?_
        rintro e w12 ⟨rfl, hb12⟩
        clear qA0 qA1 qB0 qB1 qC0 qC1 qJ0 qJ1 qM0 qM1
        have A_12 := A_11.below hb12 A_11.lt
        have B_12 := B_11.below hb12 B_11.lt
        have C_12 := C_11.below hb12 C_11.lt
        have J_12 := J_11.below hb12 J_11.lt
        have M_12 := M_11.below hb12 M_11.lt
        have hB12 := hB11.trans (hb12.mono hB11.size)
        clear hb12 hB11 A_11 B_11 C_11 J_11 M_11
        have qA0 := A_12.cell0
        have qA1 := A_12.cell1
        have qB0 := B_12.cell0
        have qB1 := B_12.cell1
        have qC0 := C_12.cell0
        have qC1 := C_12.cell1
        have qJ0 := J_12.cell0
        have qJ1 := J_12.cell1
        have qM0 := M_12.cell0
        have qM1 := M_12.cell1
        go_wp2_with fail
        refine (right_p j true okj R1.out _).mono ?_
        rintro e w13 ⟨rfl, hb13⟩
        clear qA0 qA1 qB0 qB1 qC0 qC1 qJ0 qJ1 qM0 qM1
        have A_13 := A_12.below hb13 A_12.lt
        have B_13 := B_12.below hb13 B_12.lt
        have C_13 := C_12.below hb13 C_12.lt
        have J_13 := J_12.below hb13 J_12.lt
        have M_13 := M_12.below hb13 M_12.lt
        have hB13 := hB12.trans (hb13.mono hB12.size)
        clear hb13 hB12 A_12 B_12 C_12 J_12 M_12
        have qA0 := A_13.cell0
        have qA1 := A_13.cell1
        have qB0 := B_13.cell0
        have qB1 := B_13.cell1
        have qC0 := C_13.cell0
        have qC1 := C_13.cell1
        have qJ0 := J_13.cell0
        have qJ1 := J_13.cell1
        have qM0 := M_13.cell0
        have qM1 := M_13.cell1
        go_wp2_with fail
        refine (right_p m true okm R2.out _).mono ?_
        rintro e w14 ⟨rfl, hb14⟩
        clear qA0 qA1 qB0 qB1 qC0 qC1 qJ0 qJ1 qM0 qM1
        have A_14 := A_13.below hb14 A_13.lt
        have B_14 := B_13.below hb14 B_13.lt
        have C_14 := C_13.below hb14 C_13.lt
        have J_14 := J_13.below hb14 J_13.lt
        have M_14 := M_13.below hb14 M_13.lt
        have hB14 := hB13.trans (hb14.mono hB13.size)
        clear hb14 hB13 A_13 B_13 C_13 J_13 M_13
        have qA0 := A_14.cell0
        have qA1 := A_14.cell1
        have qB0 := B_14.cell0
        have qB1 := B_14.cell1
        have qC0 := C_14.cell0
        have qC1 := C_14.cell1
        have qJ0 := J_14.cell0
        have qJ1 := J_14.cell1
        have qM0 := M_14.cell0
        have qM1 := M_14.cell1
        go_wp2_with fail
        refine (flE _ j qc false okj okc OJ.out).mono ?_
        rintro e w15 ⟨rfl, hb15⟩
        clear qA0 qA1 qB0 qB1 qC0 qC1 qJ0 qJ1 qM0 qM1
        have A_15 := A_14.below hb15 A_14.lt
        have B_15 := B_14.below hb15 B_14.lt
        have C_15 := C_14.below hb15 C_14.lt
        have J_15 := J_14.below hb15 J_14.lt
        have M_15 := M_14.below hb15 M_14.lt
        have hB15 := hB14.trans (hb15.mono hB14.size)
        clear hb15 hB14 A_14 B_14 C_14 J_14 M_14
        have qA0 := A_15.cell0
        have qA1 := A_15.cell1
        have qB0 := B_15.cell0
        have qB1 := B_15.cell1
        have qC0 := C_15.cell0
        have qC1 := C_15.cell1
        have qJ0 := J_15.cell0
        have qJ1 := J_15.cell1
        have qM0 := M_15.cell0
        have qM1 := M_15.cell1
        go_wp2_with fail
        refine (flE _ qc m false okc okm UM.out).mono ?_
        rintro e w16 ⟨rfl, hb16⟩
        clear qA0 qA1 qB0 qB1 qC0 qC1 qJ0 qJ1 qM0 qM1
        have A_16 := A_15.below hb16 A_15.lt
        have B_16 := B_15.below hb16 B_15.lt
        have C_16 := C_15.below hb16 C_15.lt
        have J_16 := J_15.below hb16 J_15.lt
        have M_16 := M_15.below hb16 M_15.lt
        have hB16 := hB15.trans (hb16.mono hB15.size)
        clear hb16 hB15 A_15 B_15 C_15 J_15 M_15
        have qA0 := A_16.cell0
        have qA1 := A_16.cell1
        have qB0 := B_16.cell0
        have qB1 := B_16.cell1
        have qC0 := C_16.cell0
        have qC1 := C_16.cell1
        have qJ0 := J_16.cell0
        have qJ1 := J_16.cell1
        have qM0 := M_16.cell0
        have qM1 := M_16.cell1
        clear qA0 qA1 qB0 qB1 qC0 qC1 qJ0 qJ1 qM0 qM1
        go_wp2
        go_ret
        exact ⟨rfl, hB16⟩
  | false =>
    go_wp2_with fail
    refine (flE _ qa qc false oka okc O1.out).mono ?_
    rintro e w10 ⟨rfl, hb10⟩
    clear qA0 qA1 qB0 qB1 qC0 qC1 qJ0 qJ1 qM0 qM1
    have A_10 := A_9_a.below hb10 A_9_a.lt
    have B_10 := B_9_a.below hb10 B_9_a.lt
    have C_10 := C_9_a.below hb10 C_9_a.lt
    have J_10 := J_9_a.below hb10 J_9_a.lt
    have M_10 := M_a.below hb10 M_a.lt
    have hB10 := hB9a.trans (hb10.mono hB9a.size)
    clear hb10 hB9a A_9_a B_9_a C_9_a J_9_a M_a
    have qA0 := A_10.cell0
    have qA1 := A_10.cell1
    have qB0 := B_10.cell0
    have qB1 := B_10.cell1
    have qC0 := C_10.cell0
    have qC1 := C_10.cell1
    have qJ0 := J_10.cell0
    have qJ1 := J_10.cell1
    have qM0 := M_10.cell0
    have qM1 := M_10.cell1
    cases u1 with
    | true =>
      cases u2 with
      | true =>
        go_wp2_with fail
        refine (flE _ qc qa true okc oka U1.out).mono ?_
        rintro e w11 ⟨rfl, hb11⟩
        clear qA0 qA1 qB0 qB1 qC0 qC1 qJ0 qJ1 qM0 qM1
        have A_11 := A_10.below hb11 A_10.lt
        have B_11 := B_10.below hb11 B_10.lt
        have C_11 := C_10.below hb11 C_10.lt
        have J_11 := J_10.below hb11 J_10.lt
        have M_11 := M_10.below hb11 M_10.lt
        have hB11 := hB10.trans (hb11.mono hB10.size)
        clear hb11 hB10 A_10 B_10 C_10 J_10 M_10
        have qA0 := A_11.cell0
        have qA1 := A_11.cell1
        have qB0 := B_11.cell0
        have qB1 := B_11.cell1
        have qC0 := C_11.cell0
        have qC1 := C_11.cell1
        have qJ0 := J_11.cell0
        have qJ1 := J_11.cell1
        have qM0 := M_11.cell0
        have qM1 := M_11.cell1
        go_wp2_with fail
        refine (flE _ qc qb true okc okb U2.out).mono ?_
        rintro e w12 ⟨rfl, hb12⟩
        clear qA0 qA1 qB0 qB1 qC0 qC1 qJ0 qJ1 qM0 qM1
        have A_12 := A_11.below hb12 A_11.lt
        have B_12 := B_11.below hb12 B_11.lt
        have C_12 := C_11.below hb12 C_11.lt
        have J_12 := J_11.below hb12 J_11.lt
        have M_12 := M_11.below hb12 M_11.lt
        have hB12 := hB11.trans (hb12.mono hB11.size)
        clear hb12 hB11 A_11 B_11 C_11 J_11 M_11
        have qA0 := A_12.cell0
        have qA1 := A_12.cell1
        have qB0 := B_12.cell0
        have qB1 := B_12.cell1
        have qC0 := C_12.cell0
        have qC1 := C_12.cell1
        have qJ0 := J_12.cell0
        have qJ1 := J_12.cell1
        have qM0 := M_12.cell0
        have qM1 := M_12.cell1
        go_wp2_with fail
        refine (right_p j true okj R1.out _).mono ?_
        rintro e w13 ⟨rfl, hb13⟩
        clear qA0 qA1 qB0 qB1 qC0 qC1 qJ0 qJ1 qM0 qM1
        have A_13 := A_12.below hb13 A_12.lt
        have B_13 := B_12.below hb13 B_12.lt
        have C_13 := C_12.below hb13 C_12.lt
        have J_13 := J_12.below hb13 J_12.lt
        have M_13 := M_12.below hb13 M_12.lt
        have hB13 := hB12.trans (hb13.mono hB12.size)
        clear hb13 hB12 A_12 B_12 C_12 J_12 M_12
        have qA0 := A_13.cell0
        have qA1 := A_13.cell1
        have qB0 := B_13.cell0
        have qB1 := B_13.cell1
        have qC0 := C_13.cell0
        have qC1 := C_13.cell1
        have qJ0 := J_13.cell0
        have qJ1 := J_13.cell1
        have qM0 := M_13.cell0
        have qM1 := M_13.cell1
        go_wp2_with fail
        refine (right_p m true okm R2.out _).mono ?_
        rintro e w14 ⟨rfl, hb14⟩
        clear qA0 qA1 qB0 qB1 qC0 qC1 qJ0 qJ1 qM0 qM1
        have A_14 := A_13.below hb14 A_13.lt
        have B_14 := B_13.below hb14 B_13.lt
        have C_14 := C_13.below hb14 C_13.lt
        have J_14 := J_13.below hb14 J_13.lt
        have M_14 := M_13.below hb14 M_13.lt
        have hB14 := hB13.trans (hb14.mono hB13.size)
        clear hb14 hB13 A_13 B_13 C_13 J_13 M_13
        have qA0 := A_14.cell0
        have qA1 := A_14.cell1
        have qB0 := B_14.cell0
        have qB1 := B_14.cell1
        have qC0 := C_14.cell0
        have qC1 := C_14.cell1
        have qJ0 := J_14.cell0
        have qJ1 := J_14.cell1
        have qM0 := M_14.cell0
        have qM1 := M_14.cell1
        go_wp2_with fail
        refine (flE _ j qc false okj okc OJ.out).mono ?_
        rintro e w15 ⟨rfl, hb15⟩
        clear qA0 qA1 qB0 qB1 qC0 qC1 qJ0 qJ1 qM0 qM1
        have A_15 := A_14.below hb15 A_14.lt
        have B_15 := B_14.below hb15 B_14.lt
        have C_15 := C_14.below hb15 C_14.lt
        have J_15 := J_14.below hb15 J_14.lt
        have M_15 := M_14.below hb15 M_14.lt
        have hB15 := hB14.trans (hb15.mono hB14.size)
        clear hb15 hB14 A_14 B_14 C_14 J_14 M_14
        have qA0 := A_15.cell0
        have qA1 := A_15.cell1
        have qB0 := B_15.cell0
        have qB1 := B_15.cell1
        have qC0 := C_15.cell0
        have qC1 := C_15.cell1
        have qJ0 := J_15.cell0
        have qJ1 := J_15.cell1
        have qM0 := M_15.cell0
        have qM1 := M_15.cell1
        go_wp2_with fail
        refine (flE _ qc m true okc okm UM.out).mono ?_
        rintro e w16 ⟨rfl, hb16⟩
        clear qA0 qA1 qB0 qB1 qC0 qC1 qJ0 qJ1 qM0 qM1
        have A_16 := A_15.below hb16 A_15.lt
        have B_16 := B_15.below hb16 B_15.lt
        have C_16 := C_15.below hb16 C_15.lt
        have J_16 := J_15.below hb16 J_15.lt
        have M_16 := M_15.below hb16 M_15.lt
        have hB16 := hB15.trans (hb16.mono hB15.size)
        clear hb16 hB15 A_15 B_15 C_15 J_15 M_15
        have qA0 := A_16.cell0
        have qA1 := A_16.cell1
        have qB0 := B_16.cell0
        have qB1 := B_16.cell1
        have qC0 := C_16.cell0
        have qC1 := C_16.cell1
        have qJ0 := J_16.cell0
        have qJ1 := J_16.cell1
        have qM0 := M_16.cell0
        have qM1 := M_16.cell1
        clear qA0 qA1 qB0 qB1 qC0 qC1 qJ0 qJ1 qM0 qM1
        go_wp2
        go_ret
        exact ⟨rfl, hB16⟩
      | false =>
        go_wp2_with fail
        refine (flE _ qc qa true okc oka U1.out).mono ?_
        rintro e w11 ⟨rfl, hb11⟩
        clear qA0 qA1 qB0 qB1 qC0 qC1 qJ0 qJ1 qM0 qM1
        have A_11 := A_10.below hb11 A_10.lt
        have B_11 := B_10.below hb11 B_10.lt
        have C_11 := C_10.below hb11 C_10.lt
        have J_11 := J_10.below hb11 J_10.lt
        have M_11 := M_10.below hb11 M_10.lt
        have hB11 := hB10.trans (hb11.mono hB10.size)
        clear hb11 hB10 A_10 B_10 C_10 J_10 M_10
        have qA0 := A_11.cell0
        have qA1 := A_11.cell1
        have qB0 := B_11.cell0
        have qB1 := B_11.cell1
        have qC0 := C_11.cell0
        have qC1 := C_11.cell1
        have qJ0 := J_11.cell0
        have qJ1 := J_11.cell1
        have qM0 := M_11.cell0
        have qM1 := M_11.cell1
        go_wp2_with fail
        refine (flE _ qc qb false okc okb U2.out).mono ?_
        rintro e w12 ⟨rfl, hb12⟩
        clear qA0 qA1 qB0 qB1 qC0 qC1 qJ0 qJ1 qM0 qM1
        have A_12 := A_11.below hb12 A_11.lt
        have B_12 := B_11.below hb12 B_11.lt
        have C_12 := C_11.below hb12 C_11.lt
        have J_12 := J_11.below hb12 J_11.lt
        have M_12 := M_11.below hb12 M_11.lt
        have hB12 := hB11.trans (hb12.mono hB11.size)
        clear hb12 hB11 A_11 B_11 C_11 J_11 M_11
        have qA0 := A_12.cell0
        have qA1 := A_12.cell1
        have qB0 := B_12.cell0
        have qB1 := B_12.cell1
        have qC0 := C_12.cell0
        have qC1 := C_12.cell1
        have qJ0 := J_12.cell0
        have qJ1 := J_12.cell1
        have qM0 := M_12.cell0
        have qM1 := M_12.cell1
        go_wp2_with fail
        refine (right_p j true okj R1.out _).mono ?_
        rintro e w13 ⟨rfl, hb13⟩
        clear qA0 qA1 qB0 qB1 qC0 qC1 qJ0 qJ1 qM0 qM1
        have A_13 := A_12.below hb13 A_12.lt
        have B_13 := B_12.below hb13 B_12.lt
        have C_13 := C_12.below hb13 C_12.lt
        have J_13 := J_12.below hb13 J_12.lt
        have M_13 := M_12.below hb13 M_12.lt
        have hB13 := hB12.trans (hb13.mono hB12.size)
        clear hb13 hB12 A_12 B_12 C_12 J_12 M_12
        have qA0 := A_13.cell0
        have qA1 := A_13.cell1
        have qB0 := B_13.cell0
        have qB1 := B_13.cell1
        have qC0 := C_13.cell0
        have qC1 := C_13.cell1
        have qJ0 := J_13.cell0
        have qJ1 := J_13.cell1
        have qM0 := M_13.cell0
        have qM1 := M_13.cell1
        go_wp2_with fail
        refine (right_p m true okm R2.out _).mono ?_
        rintro e w14 ⟨rfl, hb14⟩
        clear qA0 qA1 qB0 qB1 qC0 qC1 qJ0 qJ1 qM0 qM1
        have A_14 := A_13.below hb14 A_13.lt
        have B_14 := B_13.below hb14 B_13.lt
        have C_14 := C_13.below hb14 C_13.lt
        have J_14 := J_13.below hb14 J_13.lt
        have M_14 := M_13.below hb14 M_13.lt
        have hB14 := hB13.trans (hb14.mono hB13.size)
        clear hb14 hB13 A_13 B_13 C_13 J_13 M_13
        have qA0 := A_14.cell0
        have qA1 := A_14.cell1
        have qB0 := B_14.cell0
        have qB1 := B_14.cell1
        have qC0 := C_14.cell0
        have qC1 := C_14.cell1
        have qJ0 := J_14.cell0
        have qJ1 := J_14.cell1
        have qM0 := M_14.cell0
        have qM1 := M_14.cell1
        go_wp2_with fail
        refine (flE _ j qc false okj okc OJ.out).mono ?_
        rintro e w15 ⟨rfl, hb15⟩
        clear qA0 qA1 qB0 qB1 qC0 qC1 qJ0 qJ1 qM0 qM1
        have A_15 := A_14.below hb15 A_14.lt
        have B_15 := B_14.below hb15 B_14.lt
        have C_15 := C_14.below hb15 C_14.lt
        have J_15 := J_14.below hb15 J_14.lt
        have M_15 := M_14.below hb15 M_14.lt
        have hB15 := hB14.trans (hb15.mono hB14.size)
        clear hb15 hB14 A_14 B_14 C_14 J_14 M_14
        have qA0 := A_15.cell0
        have qA1 := A_15.cell1
        have qB0 := B_15.cell0
        have qB1 := B_15.cell1
        have qC0 := C_15.cell0
        have qC1 := C_15.cell1
        have qJ0 := J_15.cell0
        have qJ1 := J_15.cell1
        have qM0 := M_15.cell0
        have qM1 := M_15.cell1
        go_wp2_with fail
        refine (flE _ qc m false okc okm UM.out).mono ?_
        rintro e w16 ⟨rfl, hb16⟩
        clear qA0 qA1 qB0 qB1 qC0 qC1 qJ0 qJ1 qM0 qM1
        have A_16 := A_15.below hb16 A_15.lt
        have B_16 := B_15.below hb16 B_15.lt
        have C_16 := C_15.below hb16 C_15.lt
        have J_16 := J_15.below hb16 J_15.lt
        have M_16 := M_15.below hb16 M_15.lt
        have hB16 := hB15.trans (hb16.mono hB15.size)
        clear hb16 hB15 A_15 B_15 C_15 J_15 M_15
        have qA0 := A_16.cell0
        have qA1 := A_16.cell1
        have qB0 := B_16.cell0
        have qB1 := B_16.cell1
        have qC0 := C_16.cell0
        have qC1 := C_16.cell1
        have qJ0 := J_16.cell0
        have qJ1 := J_16.cell1
        have qM0 := M_16.cell0
        have qM1 := M_16.cell1
        clear qA0 qA1 qB0 qB1 qC0 qC1 qJ0 qJ1 qM0 qM1
        go_wp2
        go_ret
        exact ⟨rfl, hB16⟩
    | false =>
      go_wp2_with fail
      refine (flE _ qc qa false okc oka U1.out).mono ?_
      rintro e w11 ⟨rfl, hb11⟩
      clear qA0 qA1 qB0 qB1 qC0 qC1 qJ0 qJ1 qM0 qM1
      have A_11 := A_10.below hb11 A_10.lt
      have B_11 := B_10.below hb11 B_10.lt
      have C_11 := C_10.below hb11 C_10.lt
      have J_11 := J_10.below hb11 J_10.lt
      have M_11 := M_10.below hb11 M_10.lt
      have hB11 := hB10.trans (hb11.mono hB10.size)
      clear hb11 hB10 A_10 B_10 C_10 J_10 M_10
      have qA0 := A_11.cell0
      have qA1 := A_11.cell1
      have qB0 := B_11.cell0
      have qB1 := B_11.cell1
      have qC0 := C_11.cell0
      have qC1 := C_11.cell1
      have qJ0 := J_11.cell0
      have qJ1 := J_11.cell1
      have qM0 := M_11.cell0
      have qM1 := M_11.cell1
      go_wp2_with fail
      refine (right_p j true okj R1.out _).mono ?_
      rintro e w12 ⟨rfl, hb12⟩
      clear qA0 qA1 qB0 qB1 qC0 qC1 qJ0 qJ1 qM0 qM1
      have A_12 := A_11.below hb12 A_11.lt
      have B_12 := B_11.below hb12 B_11.lt
      have C_12 := C_11.below hb12 C_11.lt
      have J_12 := J_11.below hb12 J_11.lt
      have M_12 := M_11.below hb12 M_11.lt
      have hB12 := hB11.trans (hb12.mono hB11.size)
      clear hb12 hB11 A_11 B_11 C_11 J_11 M_11
      have qA0 := A_12.cell0
      have qA1 := A_12.cell1
      have qB0 := B_12.cell0
      have qB1 := B_12.cell1
      have qC0 := C_12.cell0
      have qC1 := C_12.cell1
      have qJ0 := J_12.cell0
      have qJ1 := J_12.cell1
      have qM0 := M_12.cell0
      have qM1 := M_12.cell1
      go_wp2_with fail
      refine (right_p m true okm R2.out _).mono ?_
      rintro e w13 ⟨rfl, hb13⟩
      clear qA0 qA1 qB0 qB1 qC0 qC1 qJ0 qJ1 qM0 qM1
      have A_13 := A_12.below hb13 A_12.lt
      have B_13 := B_12.below hb13 B_12.lt
      have C_13 := C_12.below hb13 C_12.lt
      have J_13 := J_12.below hb13 J_12.lt
      have M_13 := M_12.below hb13 M_12.lt
      have hB13 := hB12.trans (hb13.mono hB12.size)
      clear hb13 hB12 A_12 B_12 C_12 J_12 M_12
      have qA0 := A_13.cell0
      have qA1 := A_13.cell1
      have qB0 := B_13.cell0
      have qB1 := B_13.cell1
      have qC0 := C_13.cell0
      have qC1 := C_13.cell1
      have qJ0 := J_13.cell0
      have qJ1 := J_13.cell1
      have qM0 := M_13.cell0
      have qM1 := M_13.cell1
      go_wp2_with fail
      refine (flE _ j qc false okj okc OJ.out).mono ?_
      rintro e w14 ⟨rfl, hb14⟩
      clear qA0 qA1 qB0 qB1 qC0 qC1 qJ0 qJ1 qM0 qM1
      have A_14 := A_13.below hb14 A_13.lt
      have B_14 := B_13.below hb14 B_13.lt
      have C_14 := C_13.below hb14 C_13.lt
      have J_14 := J_13.below hb14 J_13.lt
      have M_14 := M_13.below hb14 M_13.lt
      have hB14 := hB13.trans (hb14.mono hB13.size)
      clear hb14 hB13 A_13 B_13 C_13 J_13 M_13
      have qA0 := A_14.cell0
      have qA1 := A_14.cell1
      have qB0 := B_14.cell0
      have qB1 := B_14.cell1
      have qC0 := C_14.cell0
      have qC1 := C_14.cell1
      have qJ0 := J_14.cell0
      have qJ1 := J_14.cell1
      have qM0 := M_14.cell0
      have qM1 := M_14.cell1
      go_wp2_with fail
      refine (flE _ qc m false okc okm UM.out).mono ?_
      rintro e w15 ⟨rfl, hb15⟩
      clear qA0 qA1 qB0 qB1 qC0 qC1 qJ0 qJ1 qM0 qM1
      have A_15 := A_14.below hb15 A_14.lt
      have B_15 := B_14.below hb15 B_14.lt
      have C_15 := C_14.below hb15 C_14.lt
      have J_15 := J_14.below hb15 J_14.lt
      have M_15 := M_14.below hb15 M_14.lt
      have hB15 := hB14.trans (hb15.mono hB14.size)
      clear hb15 hB14 A_14 B_14 C_14 J_14 M_14
      have qA0 := A_15.cell0
      have qA1 := A_15.cell1
      have qB0 := B_15.cell0
      have qB1 := B_15.cell1
      have qC0 := C_15.cell0
      have qC1 := C_15.cell1
      have qJ0 := J_15.cell0
      have qJ1 := J_15.cell1
      have qM0 := M_15.cell0
      have qM1 := M_15.cell1
      clear qA0 qA1 qB0 qB1 qC0 qC1 qJ0 qJ1 qM0 qM1
      go_wp2
      go_ret
      exact ⟨rfl, hB15⟩
theorem walkLabelJoins (a ia : ByteArray) (ha : a.size ≤ maxLen) (ka : ia.size ≤ maxLen) (b ib : ByteArray) (hb : b.size ≤ maxLen) (kb : ib.size ≤ maxLen) (c ic : ByteArray) (hc : c.size ≤ maxLen) (kc : ic.size ≤ maxLen) (w : World) (hL : Letters w) :
    Calls Tryd.prog 4 #[.agg #[.string a, .string ia], .agg #[.string b, .string ib], .agg #[.string c, .string ic]] w fun e w' => e = .returned (.bool true) ∧ Below w.heap.size w w' := by
  exact walkPLabelJoins (a.data.toList, ia.data.toList) ha ka (b.data.toList, ib.data.toList) hb kb (c.data.toList, ic.data.toList) hc kc w hL
end Go.Proofs.YtiagoiannccdmaaDoor
