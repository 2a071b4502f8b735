/- The walk of LabelTells. Conditions: the sizes of what came in; the table of letters holds its text. -/
import Derived.Test.YtiagoiannccdmaaDoorLabPre3
import Derived.Test.YtiagoiannccdmaaDoorEx3
import Derived.Test.YtiagoiannccdmaaDoorLabelGet
import Derived.Test.YtiagoiannccdmaaDoorRefMb
import Derived.BigQuiet
namespace Go.Proofs.YtiagoiannccdmaaDoor
open Go.RowKit Go.Shelf
attribute [local go_sem] str_list str_size
attribute [local go_sem high] eql_label neq_label
theorem okR_sm (a : Lz.Lab) : okR (sm a) := by
  unfold okR sm
  simp only [List.length_take]
  omega
set_option maxRecDepth 100000 in
set_option maxHeartbeats 8000000 in
theorem walkPLabelTells (a : Lz.Lab) (ha1 : a.1.length ≤ maxLen) (ha2 : a.2.length ≤ maxLen) (b : Lz.Lab) (hb1 : b.1.length ≤ maxLen) (hb2 : b.2.length ≤ maxLen) (s : ByteArray) (hsz : s.size ≤ maxLen) (at' : Int) (l : ByteArray) (hl : l.size ≤ maxLen) (w : World) (hL : Letters w) :
    Calls Tryd.prog 7 #[pv a, pv b, .string s, .int .i64 at', .string l] w fun e w' => e = .returned (.bool true) ∧ Below w.heap.size w w' := by
  have mixed := mixedOrders
  have HL := Lib.hid hL
  clear hL
  have HSa := Lib.hid (small_p a ha1 ha2)
  have oka := okL_sm a
  have ora := okR_sm a
  generalize hsa : sm a = qa at HSa oka ora
  clear hsa
  have HSb := Lib.hid (small_p b hb1 hb2)
  have okb := okL_sm b
  have orb := okR_sm b
  generalize hsb : sm b = qb at HSb okb orb
  clear hsb
  have G1 := Lib.hid fun W => labelGet_p s.data.toList hsz at' W
  have G2 := Lib.hid fun W => ref3Get_p s.data.toList hsz at' W
  rw [str_toList] at G1 G2
  generalize getLb s.data.toList at' = g at G1 G2
  obtain ⟨gl, gn, gk⟩ := g
  simp only at G1 G2
  have C1 := Lib.hid fun W => norm_p qa oka W
  have C2 := Lib.hid fun W => ref3Norm_p qa ora W
  have C3 := Lib.hid fun W => right_p qa (Lz.nrm qa == qa) oka rfl W
  have C4 := Lib.hid fun W => ref3Right_p qa ora W
  generalize (Lz.nrm qa == qa) = r at C3 C4
  generalize Lz.nrm qa = n at C1 C2
  have C5 := Lib.hid fun W => flows_p qa qb oka okb W
  have C6 := Lib.hid fun W => ref3Flows_p qa qb ora orb W
  generalize Lz.fl qa qb = f at C5 C6
  have C7 := Lib.hid fun W => join_p qa qb oka okb W
  have C8 := Lib.hid fun W => ref3Join_p qa qb ora orb W
  generalize Lz.jn qa qb = j at C7 C8
  have C9 := Lib.hid fun W => meet_p qa qb oka okb W
  have C10 := Lib.hid fun W => ref3Meet_p qa qb ora orb W
  generalize Lz.mt qa qb = m at C9 C10
  have C11 := Lib.hid fun W => labelPut_p qa oka W
  have C12 := Lib.hid fun W => ref3Put_p qa ora W
  generalize putLb qa = u at C11 C12
  have C13 := Lib.hid fun W hL => labelText_p qa oka W hL
  have C14 := Lib.hid fun W => ref3Text_p qa ora W
  generalize textLb qa = v at C13 C14
  have C15 := Lib.hid fun W => low_p W
  have C16 := Lib.hid fun W => ref3Low_p W
  have C17 := Lib.hid fun W => high_p W
  have C18 := Lib.hid fun W => ref3High_p W
  generalize Lz.low = lo at C15 C16
  generalize Lz.high = hi at C17 C18
  unfold maxLen at hl
  obtain ⟨k, hk, hk1, hk2⟩ := cut_at l.size 100 100 rfl
  obtain ⟨A_0, B_0, hB0⟩ := alloc2P w a b
  have qA0 := A_0.cell0
  have qA1 := A_0.cell1
  have qB0 := B_0.cell0
  have qB1 := B_0.cell1
  go_enter Tryd.func7, Tryd.ntmps7
  go_wp2_with fail
  generalize ((w.alloc (.cells #[.string (str a.1), .string (str a.2)] 24)).alloc (.cells #[.string (str b.1), .string (str b.2)] 24)) = w0 at A_0 B_0 hB0 qA0 qA1 qB0 qB1 ⊢
  have HEX := Lib.hid (fun W hL => examples3_any W hL)
  refine (HEX.out _ (HL.out.behind hB0)).mono ?_
  rintro e w1 ⟨rfl, hb1⟩
  clear qA0 qA1 qB0 qB1
  have A_1 := A_0.below hb1 A_0.lt
  have B_1 := B_0.below hb1 B_0.lt
  have hB1 := hB0.trans (hb1.mono hB0.size)
  clear hb1 hB0 A_0 B_0
  have qA0 := A_1.cell0
  have qA1 := A_1.cell1
  have qB0 := B_1.cell0
  have qB1 := B_1.cell1
  go_wp2_with fail
  refine (HSa.out _).mono ?_
  rintro e w2 ⟨rfl, hb2⟩
  clear qA0 qA1 qB0 qB1
  have A_2 := A_1.below hb2 A_1.lt
  have B_2 := B_1.below hb2 B_1.lt
  have hB2 := hB1.trans (hb2.mono hB1.size)
  clear hb2 hB1 A_1 B_1
  have qA0 := A_2.cell0
  have qA1 := A_2.cell1
  have qB0 := B_2.cell0
  have qB1 := B_2.cell1
  have f0 := A_2.frozen 0
  have f1 := A_2.frozen 1
  go_wp2_with fail
  have A_s : BoxL ((w2.setCell ⟨w.heap.size, 0, none⟩ (.string (str qa.1))).setCell ⟨w.heap.size, 1, none⟩ (.string (str qa.2))) w.heap.size qa := box2_set1 (box2_set0 A_2)
  have B_s : BoxL ((w2.setCell ⟨w.heap.size, 0, none⟩ (.string (str qa.1))).setCell ⟨w.heap.size, 1, none⟩ (.string (str qa.2))) (w.heap.size + 1) b := other2 (by omega) B_2 _ _
  have hs := (hB2.setCell (p := ⟨w.heap.size, 0, none⟩) (show w.heap.size ≤ w.heap.size by omega) (.string (str qa.1))).setCell (p := ⟨w.heap.size, 1, none⟩) (show w.heap.size ≤ w.heap.size by omega) (.string (str qa.2))
  clear qA0 qA1 qB0 qB1 f0 f1 hB2 A_2 B_2
  generalize ((w2.setCell ⟨w.heap.size, 0, none⟩ (.string (str qa.1))).setCell ⟨w.heap.size, 1, none⟩ (.string (str qa.2))) = w3 at hs A_s B_s ⊢
  have A_3 := A_s
  have B_3 := B_s
  have hB3 := hs
  clear hs A_s B_s
  have qA0 := A_3.cell0
  have qA1 := A_3.cell1
  have qB0 := B_3.cell0
  have qB1 := B_3.cell1
  go_wp2_with fail
  refine (HSb.out _).mono ?_
  rintro e w4 ⟨rfl, hb4⟩
  clear qA0 qA1 qB0 qB1
  have A_4 := A_3.below hb4 A_3.lt
  have B_4 := B_3.below hb4 B_3.lt
  have hB4 := hB3.trans (hb4.mono hB3.size)
  clear hb4 hB3 A_3 B_3
  have qA0 := A_4.cell0
  have qA1 := A_4.cell1
  have qB0 := B_4.cell0
  have qB1 := B_4.cell1
  have f0 := B_4.frozen 0
  have f1 := B_4.frozen 1
  go_wp2_with fail
  have B_s : BoxL ((w4.setCell ⟨(w.heap.size + 1), 0, none⟩ (.string (str qb.1))).setCell ⟨(w.heap.size + 1), 1, none⟩ (.string (str qb.2))) (w.heap.size + 1) qb := box2_set1 (box2_set0 B_4)
  have A_s : BoxL ((w4.setCell ⟨(w.heap.size + 1), 0, none⟩ (.string (str qb.1))).setCell ⟨(w.heap.size + 1), 1, none⟩ (.string (str qb.2))) w.heap.size qa := other2 (by omega) A_4 _ _
  have hs := (hB4.setCell (p := ⟨(w.heap.size + 1), 0, none⟩) (show w.heap.size ≤ (w.heap.size + 1) by omega) (.string (str qb.1))).setCell (p := ⟨(w.heap.size + 1), 1, none⟩) (show w.heap.size ≤ (w.heap.size + 1) by omega) (.string (str qb.2))
  clear qA0 qA1 qB0 qB1 f0 f1 hB4 A_4 B_4
  generalize ((w4.setCell ⟨(w.heap.size + 1), 0, none⟩ (.string (str qb.1))).setCell ⟨(w.heap.size + 1), 1, none⟩ (.string (str qb.2))) = w5 at hs A_s B_s ⊢
  have A_5 := A_s
  have B_5 := B_s
  have hB5 := hs
  clear hs A_s B_s
  have qA0 := A_5.cell0
  have qA1 := A_5.cell1
  have qB0 := B_5.cell0
  have qB1 := B_5.cell1
  go_wp2_with fail
  have hy : (l.extract 0 k).size ≤ 100 := by simp; omega
  generalize l.extract 0 k = y at hy ⊢
  clear hk hk1 hk2 hl
  have P1 := Lib.hid fun W hL => labelParse_p y.data.toList (by simp; omega) W hL
  have P2 := Lib.hid fun W => ref3Parse_p y (by omega) W
  rw [str_toList] at P1
  generalize parseLb y.data.toList = g at P1 P2
  obtain ⟨pl, pk⟩ := g
  simp only at P1 P2
  refine (G1.out _).mono ?_
  rintro e w6 ⟨rfl, hb6⟩
  clear qA0 qA1 qB0 qB1
  have A_6 := A_5.below hb6 A_5.lt
  have B_6 := B_5.below hb6 B_5.lt
  have hB6 := hB5.trans (hb6.mono hB5.size)
  clear hb6 hB5 A_5 B_5
  have qA0 := A_6.cell0
  have qA1 := A_6.cell1
  have qB0 := B_6.cell0
  have qB1 := B_6.cell1
  go_wp2_with fail
  have C_7 : BoxL (w6.alloc (.cells #[.string (str gl.1), .string (str gl.2)] 24)) w6.heap.size gl := Box2.new _ _ _ _
  have A_7 := A_6.alloc (.cells #[.string (str gl.1), .string (str gl.2)] 24)
  have B_7 := B_6.alloc (.cells #[.string (str gl.1), .string (str gl.2)] 24)
  have hB7 := hB6.alloc hB6.size (.cells #[.string (str gl.1), .string (str gl.2)] 24)
  clear qA0 qA1 qB0 qB1
  clear hB6 A_6 B_6
  generalize (w6.alloc (.cells #[.string (str gl.1), .string (str gl.2)] 24)) = w7 at A_7 B_7 C_7 hB7 ⊢
  have qA0 := A_7.cell0
  have qA1 := A_7.cell1
  have qB0 := B_7.cell0
  have qB1 := B_7.cell1
  have qC0 := C_7.cell0
  have qC1 := C_7.cell1
  refine (G2.out _).mono ?_
  rintro e w8 ⟨rfl, hb8⟩
  clear qA0 qA1 qB0 qB1 qC0 qC1
  have A_8 := A_7.below hb8 A_7.lt
  have B_8 := B_7.below hb8 B_7.lt
  have C_8 := C_7.below hb8 C_7.lt
  have hB8 := hB7.trans (hb8.mono hB7.size)
  clear hb8 hB7 A_7 B_7 C_7
  have qA0 := A_8.cell0
  have qA1 := A_8.cell1
  have qB0 := B_8.cell0
  have qB1 := B_8.cell1
  have qC0 := C_8.cell0
  have qC1 := C_8.cell1
  go_wp2_with fail
  have D_9 : BoxR (w8.alloc (.cells #[.string (str gl.1), .string (str gl.2)] 36)) w8.heap.size gl := Box2.new _ _ _ _
  have A_9 := A_8.alloc (.cells #[.string (str gl.1), .string (str gl.2)] 36)
  have B_9 := B_8.alloc (.cells #[.string (str gl.1), .string (str gl.2)] 36)
  have C_9 := C_8.alloc (.cells #[.string (str gl.1), .string (str gl.2)] 36)
  have hB9 := hB8.alloc hB8.size (.cells #[.string (str gl.1), .string (str gl.2)] 36)
  clear qA0 qA1 qB0 qB1 qC0 qC1
  clear hB8 A_8 B_8 C_8
  generalize (w8.alloc (.cells #[.string (str gl.1), .string (str gl.2)] 36)) = w9 at A_9 B_9 C_9 D_9 hB9 ⊢
  have qA0 := A_9.cell0
  have qA1 := A_9.cell1
  have qB0 := B_9.cell0
  have qB1 := B_9.cell1
  have qC0 := C_9.cell0
  have qC1 := C_9.cell1
  have qD0 := D_9.cell0
  have qD1 := D_9.cell1
  refine (P1.out _ (HL.out.behind hB9)).mono ?_
  rintro e w10 ⟨rfl, hb10⟩
  clear qA0 qA1 qB0 qB1 qC0 qC1 qD0 qD1
  have A_10 := A_9.below hb10 A_9.lt
  have B_10 := B_9.below hb10 B_9.lt
  have C_10 := C_9.below hb10 C_9.lt
  have D_10 := D_9.below hb10 D_9.lt
  have hB10 := hB9.trans (hb10.mono hB9.size)
  clear hb10 hB9 A_9 B_9 C_9 D_9
  have qA0 := A_10.cell0
  have qA1 := A_10.cell1
  have qB0 := B_10.cell0
  have qB1 := B_10.cell1
  have qC0 := C_10.cell0
  have qC1 := C_10.cell1
  have qD0 := D_10.cell0
  have qD1 := D_10.cell1
  go_wp2_with fail
  have E_11 : BoxL (w10.alloc (.cells #[.string (str pl.1), .string (str pl.2)] 24)) w10.heap.size pl := Box2.new _ _ _ _
  have A_11 := A_10.alloc (.cells #[.string (str pl.1), .string (str pl.2)] 24)
  have B_11 := B_10.alloc (.cells #[.string (str pl.1), .string (str pl.2)] 24)
  have C_11 := C_10.alloc (.cells #[.string (str pl.1), .string (str pl.2)] 24)
  have D_11 := D_10.alloc (.cells #[.string (str pl.1), .string (str pl.2)] 24)
  have hB11 := hB10.alloc hB10.size (.cells #[.string (str pl.1), .string (str pl.2)] 24)
  clear qA0 qA1 qB0 qB1 qC0 qC1 qD0 qD1
  clear hB10 A_10 B_10 C_10 D_10
  generalize (w10.alloc (.cells #[.string (str pl.1), .string (str pl.2)] 24)) = w11 at A_11 B_11 C_11 D_11 E_11 hB11 ⊢
  have qA0 := A_11.cell0
  have qA1 := A_11.cell1
  have qB0 := B_11.cell0
  have qB1 := B_11.cell1
  have qC0 := C_11.cell0
  have qC1 := C_11.cell1
  have qD0 := D_11.cell0
  have qD1 := D_11.cell1
  have qE0 := E_11.cell0
  have qE1 := E_11.cell1
  refine (P2.out _).mono ?_
  rintro e w12 ⟨rfl, hb12⟩
  clear qA0 qA1 qB0 qB1 qC0 qC1 qD0 qD1 qE0 qE1
  have A_12 := A_11.below hb12 A_11.lt
  have B_12 := B_11.below hb12 B_11.lt
  have C_12 := C_11.below hb12 C_11.lt
  have D_12 := D_11.below hb12 D_11.lt
  have E_12 := E_11.below hb12 E_11.lt
  have hB12 := hB11.trans (hb12.mono hB11.size)
  clear hb12 hB11 A_11 B_11 C_11 D_11 E_11
  have qA0 := A_12.cell0
  have qA1 := A_12.cell1
  have qB0 := B_12.cell0
  have qB1 := B_12.cell1
  have qC0 := C_12.cell0
  have qC1 := C_12.cell1
  have qD0 := D_12.cell0
  have qD1 := D_12.cell1
  have qE0 := E_12.cell0
  have qE1 := E_12.cell1
  have F_13 : BoxR (w12.alloc (.cells #[.string (str pl.1), .string (str pl.2)] 36)) w12.heap.size pl := Box2.new _ _ _ _
  have A_13 := A_12.alloc (.cells #[.string (str pl.1), .string (str pl.2)] 36)
  have B_13 := B_12.alloc (.cells #[.string (str pl.1), .string (str pl.2)] 36)
  have C_13 := C_12.alloc (.cells #[.string (str pl.1), .string (str pl.2)] 36)
  have D_13 := D_12.alloc (.cells #[.string (str pl.1), .string (str pl.2)] 36)
  have E_13 := E_12.alloc (.cells #[.string (str pl.1), .string (str pl.2)] 36)
  have hB13 := hB12.alloc hB12.size (.cells #[.string (str pl.1), .string (str pl.2)] 36)
  clear qA0 qA1 qB0 qB1 qC0 qC1 qD0 qD1 qE0 qE1
  clear hB12 A_12 B_12 C_12 D_12 E_12
  have qA0 := A_13.cell0
  have qA1 := A_13.cell1
  have qB0 := B_13.cell0
  have qB1 := B_13.cell1
  have qC0 := C_13.cell0
  have qC1 := C_13.cell1
  have qD0 := D_13.cell0
  have qD1 := D_13.cell1
  have qE0 := E_13.cell0
  have qE1 := E_13.cell1
  have qF0 := F_13.cell0
  have qF1 := F_13.cell1
  go_wp2_with fail
  generalize (w12.alloc (.cells #[.string (str pl.1), .string (str pl.2)] 36)) = w13 at A_13 B_13 C_13 D_13 E_13 F_13 hB13 qA0 qA1 qB0 qB1 qC0 qC1 qD0 qD1 qE0 qE1 qF0 qF1 ⊢
  have L1 := Lib.hid fun W => alike_p gl W
  have L2 := Lib.hid fun W => alike_p pl W
  refine (L1.out _).mono ?_
  rintro e w14 ⟨rfl, hb14⟩
  clear qA0 qA1 qB0 qB1 qC0 qC1 qD0 qD1 qE0 qE1 qF0 qF1
  have A_14 := A_13.below hb14 A_13.lt
  have B_14 := B_13.below hb14 B_13.lt
  have C_14 := C_13.below hb14 C_13.lt
  have D_14 := D_13.below hb14 D_13.lt
  have E_14 := E_13.below hb14 E_13.lt
  have F_14 := F_13.below hb14 F_13.lt
  have hB14 := hB13.trans (hb14.mono hB13.size)
  clear hb14 hB13 A_13 B_13 C_13 D_13 E_13 F_13
  have qA0 := A_14.cell0
  have qA1 := A_14.cell1
  have qB0 := B_14.cell0
  have qB1 := B_14.cell1
  have qC0 := C_14.cell0
  have qC1 := C_14.cell1
  have qD0 := D_14.cell0
  have qD1 := D_14.cell1
  have qE0 := E_14.cell0
  have qE1 := E_14.cell1
  have qF0 := F_14.cell0
  have qF1 := F_14.cell1
  go_wp2_with fail
  refine (L2.out _).mono ?_
  rintro e w15 ⟨rfl, hb15⟩
  clear qA0 qA1 qB0 qB1 qC0 qC1 qD0 qD1 qE0 qE1 qF0 qF1
  have A_15 := A_14.below hb15 A_14.lt
  have B_15 := B_14.below hb15 B_14.lt
  have C_15 := C_14.below hb15 C_14.lt
  have D_15 := D_14.below hb15 D_14.lt
  have E_15 := E_14.below hb15 E_14.lt
  have F_15 := F_14.below hb15 F_14.lt
  have hB15 := hB14.trans (hb15.mono hB14.size)
  clear hb15 hB14 A_14 B_14 C_14 D_14 E_14 F_14
  have qA0 := A_15.cell0
  have qA1 := A_15.cell1
  have qB0 := B_15.cell0
  have qB1 := B_15.cell1
  have qC0 := C_15.cell0
  have qC1 := C_15.cell1
  have qD0 := D_15.cell0
  have qD1 := D_15.cell1
  have qE0 := E_15.cell0
  have qE1 := E_15.cell1
  have qF0 := F_15.cell0
  have qF1 := F_15.cell1
  go_wp2_with fail
  clear qA0 qA1 qB0 qB1 qC0 qC1 qD0 qD1 qE0 qE1 qF0 qF1
  have kA0 := cell_regrown A_15.cell0
  have kA1 := cell_regrown A_15.cell1
  have kB0 := cell_regrown B_15.cell0
  have kB1 := cell_regrown B_15.cell1
  have xC1 := quiet_call (w := w15) (fun W _ => C1.out W)
  have xra := quiet_call (w := w15) (fun W _ => ref_p qa W)
  have xC2 := quiet_call (w := w15) (fun W _ => C2.out W)
  have xln := quiet_call (w := w15) (fun W _ => alike_p n W)
  have xC3 := quiet_call (w := w15) (fun W _ => C3.out W)
  have xC4 := quiet_call (w := w15) (fun W _ => C4.out W)
  have xC5 := quiet_call (w := w15) (fun W _ => C5.out W)
  have xrb := quiet_call (w := w15) (fun W _ => ref_p qb W)
  have xC6 := quiet_call (w := w15) (fun W _ => C6.out W)
  refine wp_region_quiet_below mixed (by kernel_rfl) ?_
  repeat (go_big_quiet_step (fail))
  go_big_quiet_step (exact xC1 _ _)
  repeat (go_big_quiet_step (fail))
  go_big_quiet_step (exact xra _ _)
  repeat (go_big_quiet_step (fail))
  go_big_quiet_step (exact xC2 _ _)
  repeat (go_big_quiet_step (fail))
  go_big_quiet_step (exact xln _ _)
  repeat (go_big_quiet_step (fail))
  go_big_quiet_step (exact xC3 _ _)
  repeat (go_big_quiet_step (fail))
  go_big_quiet_step (exact xra _ _)
  repeat (go_big_quiet_step (fail))
  go_big_quiet_step (exact xC4 _ _)
  repeat (go_big_quiet_step (fail))
  go_big_quiet_step (exact xC5 _ _)
  repeat (go_big_quiet_step (fail))
  go_big_quiet_step (exact xra _ _)
  repeat (go_big_quiet_step (fail))
  go_big_quiet_step (exact xrb _ _)
  repeat (go_big_quiet_step (fail))
  go_big_quiet_step (exact xC6 _ _)
  repeat (go_big_quiet_step (fail))
  refine wpQuiet_nil ?_
  intro w16 hw'
  have hb16 := below_of_regrown hw'
  clear hw' kA0 kA1 kB0 kB1 xC1 xra xC2 xln xC3 xC4 xC5 xrb xC6
  have A_16 := A_15.below hb16 A_15.lt
  have B_16 := B_15.below hb16 B_15.lt
  have hB16 := hB15.trans (hb16.mono hB15.size)
  go_wp2_with fail
  have kA0 := cell_regrown A_16.cell0
  have kA1 := cell_regrown A_16.cell1
  have kB0 := cell_regrown B_16.cell0
  have kB1 := cell_regrown B_16.cell1
  have xC7 := quiet_call (w := w16) (fun W _ => C7.out W)
  have xra := quiet_call (w := w16) (fun W _ => ref_p qa W)
  have xrb := quiet_call (w := w16) (fun W _ => ref_p qb W)
  have xC8 := quiet_call (w := w16) (fun W _ => C8.out W)
  have xlj := quiet_call (w := w16) (fun W _ => alike_p j W)
  have xC9 := quiet_call (w := w16) (fun W _ => C9.out W)
  have xC10 := quiet_call (w := w16) (fun W _ => C10.out W)
  have xlm := quiet_call (w := w16) (fun W _ => alike_p m W)
  have xC11 := quiet_call (w := w16) (fun W _ => C11.out W)
  have xC12 := quiet_call (w := w16) (fun W _ => C12.out W)
  have HLk := Lib.hid (HL.out.behind hB16)
  have xC13 := quiet_call (w := w16) (fun W hb => C13.out W (HLk.out.behind hb))
  have xC14 := quiet_call (w := w16) (fun W _ => C14.out W)
  have xC15 := quiet_call (w := w16) (fun W _ => C15.out W)
  have xC16 := quiet_call (w := w16) (fun W _ => C16.out W)
  have xllo := quiet_call (w := w16) (fun W _ => alike_p lo W)
  have xC17 := quiet_call (w := w16) (fun W _ => C17.out W)
  have xC18 := quiet_call (w := w16) (fun W _ => C18.out W)
  have xlhi := quiet_call (w := w16) (fun W _ => alike_p hi W)
  refine wp_region_quiet_below mixed (by kernel_rfl) ?_
  repeat (go_big_quiet_step (fail))
  go_big_quiet_step (exact xC7 _ _)
  repeat (go_big_quiet_step (fail))
  go_big_quiet_step (exact xra _ _)
  repeat (go_big_quiet_step (fail))
  go_big_quiet_step (exact xrb _ _)
  repeat (go_big_quiet_step (fail))
  go_big_quiet_step (exact xC8 _ _)
  repeat (go_big_quiet_step (fail))
  go_big_quiet_step (exact xlj _ _)
  repeat (go_big_quiet_step (fail))
  go_big_quiet_step (exact xC9 _ _)
  repeat (go_big_quiet_step (fail))
  go_big_quiet_step (exact xra _ _)
  repeat (go_big_quiet_step (fail))
  go_big_quiet_step (exact xrb _ _)
  repeat (go_big_quiet_step (fail))
  go_big_quiet_step (exact xC10 _ _)
  repeat (go_big_quiet_step (fail))
  go_big_quiet_step (exact xlm _ _)
  repeat (go_big_quiet_step (fail))
  go_big_quiet_step (exact xC11 _ _)
  repeat (go_big_quiet_step (fail))
  go_big_quiet_step (exact xra _ _)
  repeat (go_big_quiet_step (fail))
  go_big_quiet_step (exact xC12 _ _)
  repeat (go_big_quiet_step (fail))
  go_big_quiet_step (exact xC13 _ _)
  repeat (go_big_quiet_step (fail))
  go_big_quiet_step (exact xra _ _)
  repeat (go_big_quiet_step (fail))
  go_big_quiet_step (exact xC14 _ _)
  repeat (go_big_quiet_step (fail))
  go_big_quiet_step (exact xC15 _ _)
  repeat (go_big_quiet_step (fail))
  go_big_quiet_step (exact xC16 _ _)
  repeat (go_big_quiet_step (fail))
  go_big_quiet_step (exact xllo _ _)
  repeat (go_big_quiet_step (fail))
  go_big_quiet_step (exact xC17 _ _)
  repeat (go_big_quiet_step (fail))
  go_big_quiet_step (exact xC18 _ _)
  repeat (go_big_quiet_step (fail))
  go_big_quiet_step (exact xlhi _ _)
  repeat (go_big_quiet_step (fail))
  refine wpQuiet_nil ?_
  intro w17 hw'
  have hb17 := below_of_regrown hw'
  clear hw' kA0 kA1 kB0 kB1 xC7 xra xrb xC8 xlj xC9 xC10 xlm xC11 xC12 xC13 xC14 xC15 xC16 xllo xC17 xC18 xlhi
  have A_17 := A_16.below hb17 A_16.lt
  have B_17 := B_16.below hb17 B_16.lt
  have hB17 := hB16.trans (hb17.mono hB16.size)
  go_wp2
  go_ret
  exact ⟨rfl, hB17⟩
theorem walkLabelTells (a ia : ByteArray) (ha : a.size ≤ maxLen) (ka : ia.size ≤ maxLen) (b ib : ByteArray) (hb : b.size ≤ maxLen) (kb : ib.size ≤ maxLen) (s : ByteArray) (hs : s.size ≤ maxLen) (at' : Int) (_hat : (Lit.int .i64 at').wf = true) (l : ByteArray) (hl : l.size ≤ maxLen) (w : World) (hL : Letters w) :
    Calls Tryd.prog 7 #[.agg #[.string a, .string ia], .agg #[.string b, .string ib], .string s, .int .i64 at', .string l] w fun e w' => e = .returned (.bool true) ∧ Below w.heap.size w w' :=
  walkPLabelTells (a.data.toList, ia.data.toList) ha ka (b.data.toList, ib.data.toList) hb kb s hs at' l hl w hL
end Go.Proofs.YtiagoiannccdmaaDoor
