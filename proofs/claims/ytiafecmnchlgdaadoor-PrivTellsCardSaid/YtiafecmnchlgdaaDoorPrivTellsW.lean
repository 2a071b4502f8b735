/- The walk of PrivTells. Conditions: the sizes of what came in; the table of letters holds its text. -/
import Derived.Test.YtiafecmnchlgdaaDoorLabPre4
import Derived.Test.YtiafecmnchlgdaaDoorEx4
import Derived.Test.YtiafecmnchlgdaaDoorRef4c
import Derived.BigQuiet
namespace Go.Proofs.YtiafecmnchlgdaaDoor
open Go.RowKit Go.Shelf
attribute [local go_sem] str_list str_size
attribute [local go_sem high] eql_label neq_label
theorem okR_sm (a : Lz.Lab) : okR (sm a) := by
  unfold okR sm
  simp only [List.length_take]
  omega
set_option maxRecDepth 100000 in
set_option maxHeartbeats 8000000 in
theorem walkPPrivTells (a : Lz.Lab) (ha1 : a.1.length ≤ maxLen) (ha2 : a.2.length ≤ maxLen) (b : Lz.Lab) (hb1 : b.1.length ≤ maxLen) (hb2 : b.2.length ≤ maxLen) (p : UInt8) (w : World) (hL : Letters w) :
    Calls Tryd.prog 3 #[pv a, pv b, .int .u8 (p.toNat : Int)] w fun e w' => e = .returned (.bool true) ∧ Below w.heap.size w w' := by
  have mixed := mixedOrders
  have HL := Lib.hid hL
  clear hL
  have HSa := Lib.hid (small_p a ha1 ha2)
  have oka := okL_sm a
  have ora := okR_sm a
  generalize hsa : sm a = qa at HSa oka ora
  clear hsa
  have HSb := Lib.hid (small_p b hb1 hb2)
  have okb := okL_sm b
  have orb := okR_sm b
  generalize hsb : sm b = qb at HSb okb orb
  clear hsb
  have C1 := Lib.hid fun W => of_any (p.toNat : Int) p rfl W
  have C2 := Lib.hid fun W => ref4Of_any (p.toNat : Int) p rfl W
  generalize Lz.ofP p = o at C1 C2
  have C3 := Lib.hid fun W => fb_p qa qb oka okb (p.toNat : Int) p rfl W
  have C4 := Lib.hid fun W => ref4Flows_p qa qb ora orb (p.toNat : Int) p rfl W
  generalize Lz.fb qa qb p = f at C3 C4
  have C5 := Lib.hid fun W => dr_p qa oka (p.toNat : Int) p rfl W
  have C6 := Lib.hid fun W => ref4Drop_p qa ora (p.toNat : Int) p rfl W
  generalize Lz.dr qa p = d at C5 C6
  have C7 := Lib.hid fun W => re_p qa oka (p.toNat : Int) p rfl W
  have C8 := Lib.hid fun W => ref4Reach_p qa ora (p.toNat : Int) p rfl W
  generalize Lz.re qa p = r at C7 C8
  have C9 := Lib.hid fun W => needs_p qa qb oka okb W
  have C10 := Lib.hid fun W => ref4Needs_p qa qb ora orb W
  generalize Lz.needs qa qb = n at C9 C10
  obtain ⟨A_0, B_0, hB0⟩ := alloc2P w a b
  have qA0 := A_0.cell0
  have qA1 := A_0.cell1
  have qB0 := B_0.cell0
  have qB1 := B_0.cell1
  go_enter Tryd.func3, Tryd.ntmps3
  go_wp2_with fail
  generalize ((w.alloc (.cells #[.string (str a.1), .string (str a.2)] 24)).alloc (.cells #[.string (str b.1), .string (str b.2)] 24)) = w0 at *
  have HEX := Lib.hid (fun W hL => examples4_any W hL)
  refine (HEX.out _ (HL.out.behind hB0)).mono ?_
  rintro e w1 ⟨rfl, hb1⟩
  clear qA0 qA1 qB0 qB1
  have A_1 := A_0.below hb1 A_0.lt
  have B_1 := B_0.below hb1 B_0.lt
  have hB1 := hB0.trans (hb1.mono hB0.size)
  clear hb1 hB0 A_0 B_0
  have qA0 := A_1.cell0
  have qA1 := A_1.cell1
  have qB0 := B_1.cell0
  have qB1 := B_1.cell1
  go_wp2_with fail
  refine (HSa.out _).mono ?_
  rintro e w2 ⟨rfl, hb2⟩
  clear qA0 qA1 qB0 qB1
  have A_2 := A_1.below hb2 A_1.lt
  have B_2 := B_1.below hb2 B_1.lt
  have hB2 := hB1.trans (hb2.mono hB1.size)
  clear hb2 hB1 A_1 B_1
  have qA0 := A_2.cell0
  have qA1 := A_2.cell1
  have qB0 := B_2.cell0
  have qB1 := B_2.cell1
  have f0 := A_2.frozen 0
  have f1 := A_2.frozen 1
  go_wp2_with fail
  have A_s : BoxL ((w2.setCell ⟨w.heap.size, 0, none⟩ (.string (str qa.1))).setCell ⟨w.heap.size, 1, none⟩ (.string (str qa.2))) w.heap.size qa := box2_set1 (box2_set0 A_2)
  have B_s : BoxL ((w2.setCell ⟨w.heap.size, 0, none⟩ (.string (str qa.1))).setCell ⟨w.heap.size, 1, none⟩ (.string (str qa.2))) (w.heap.size + 1) b := other2 (by omega) B_2 _ _
  have hs := (hB2.setCell (p := ⟨w.heap.size, 0, none⟩) (show w.heap.size ≤ w.heap.size by omega) (.string (str qa.1))).setCell (p := ⟨w.heap.size, 1, none⟩) (show w.heap.size ≤ w.heap.size by omega) (.string (str qa.2))
  clear qA0 qA1 qB0 qB1 f0 f1 hB2 A_2 B_2
  generalize ((w2.setCell ⟨w.heap.size, 0, none⟩ (.string (str qa.1))).setCell ⟨w.heap.size, 1, none⟩ (.string (str qa.2))) = w3 at hs A_s B_s ⊢
  have A_3 := A_s
  have B_3 := B_s
  have hB3 := hs
  clear hs A_s B_s
  have qA0 := A_3.cell0
  have qA1 := A_3.cell1
  have qB0 := B_3.cell0
  have qB1 := B_3.cell1
  go_wp2_with fail
  refine (HSb.out _).mono ?_
  rintro e w4 ⟨rfl, hb4⟩
  clear qA0 qA1 qB0 qB1
  have A_4 := A_3.below hb4 A_3.lt
  have B_4 := B_3.below hb4 B_3.lt
  have hB4 := hB3.trans (hb4.mono hB3.size)
  clear hb4 hB3 A_3 B_3
  have qA0 := A_4.cell0
  have qA1 := A_4.cell1
  have qB0 := B_4.cell0
  have qB1 := B_4.cell1
  have f0 := B_4.frozen 0
  have f1 := B_4.frozen 1
  go_wp2_with fail
  have B_s : BoxL ((w4.setCell ⟨(w.heap.size + 1), 0, none⟩ (.string (str qb.1))).setCell ⟨(w.heap.size + 1), 1, none⟩ (.string (str qb.2))) (w.heap.size + 1) qb := box2_set1 (box2_set0 B_4)
  have A_s : BoxL ((w4.setCell ⟨(w.heap.size + 1), 0, none⟩ (.string (str qb.1))).setCell ⟨(w.heap.size + 1), 1, none⟩ (.string (str qb.2))) w.heap.size qa := other2 (by omega) A_4 _ _
  have hs := (hB4.setCell (p := ⟨(w.heap.size + 1), 0, none⟩) (show w.heap.size ≤ (w.heap.size + 1) by omega) (.string (str qb.1))).setCell (p := ⟨(w.heap.size + 1), 1, none⟩) (show w.heap.size ≤ (w.heap.size + 1) by omega) (.string (str qb.2))
  clear qA0 qA1 qB0 qB1 f0 f1 hB4 A_4 B_4
  generalize ((w4.setCell ⟨(w.heap.size + 1), 0, none⟩ (.string (str qb.1))).setCell ⟨(w.heap.size + 1), 1, none⟩ (.string (str qb.2))) = w5 at hs A_s B_s ⊢
  have kA0 := cell_regrown A_s.cell0
  have kA1 := cell_regrown A_s.cell1
  have kB0 := cell_regrown B_s.cell0
  have kB1 := cell_regrown B_s.cell1
  have c1 := quiet_call (w := w5) (fun W _ => C1.out W)
  have c2 := quiet_call (w := w5) (fun W _ => C2.out W)
  have c3 := quiet_call (w := w5) (fun W _ => C3.out W)
  have c4 := quiet_call (w := w5) (fun W _ => C4.out W)
  have c5 := quiet_call (w := w5) (fun W _ => C5.out W)
  have c6 := quiet_call (w := w5) (fun W _ => C6.out W)
  have c7 := quiet_call (w := w5) (fun W _ => C7.out W)
  have c8 := quiet_call (w := w5) (fun W _ => C8.out W)
  have c9 := quiet_call (w := w5) (fun W _ => C9.out W)
  have c10 := quiet_call (w := w5) (fun W _ => C10.out W)
  have ra := quiet_call (w := w5) (fun W _ => ref_p qa W)
  have rb := quiet_call (w := w5) (fun W _ => ref_p qb W)
  have ld := quiet_call (w := w5) (fun W _ => alike_p d W)
  have lr := quiet_call (w := w5) (fun W _ => alike_p r W)
  refine wp_region_quiet_below mixed (by kernel_rfl) ?_
  repeat (go_big_quiet_step (fail))
  go_big_quiet_step (exact c1 _ _)
  repeat (go_big_quiet_step (fail))
  go_big_quiet_step (exact c2 _ _)
  repeat (go_big_quiet_step (fail))
  go_big_quiet_step (exact c3 _ _)
  repeat (go_big_quiet_step (fail))
  go_big_quiet_step (exact ra _ _)
  repeat (go_big_quiet_step (fail))
  go_big_quiet_step (exact rb _ _)
  repeat (go_big_quiet_step (fail))
  go_big_quiet_step (exact c4 _ _)
  repeat (go_big_quiet_step (fail))
  go_big_quiet_step (exact c5 _ _)
  repeat (go_big_quiet_step (fail))
  go_big_quiet_step (exact ra _ _)
  repeat (go_big_quiet_step (fail))
  go_big_quiet_step (exact c6 _ _)
  repeat (go_big_quiet_step (fail))
  go_big_quiet_step (exact ld _ _)
  repeat (go_big_quiet_step (fail))
  go_big_quiet_step (exact c7 _ _)
  repeat (go_big_quiet_step (fail))
  go_big_quiet_step (exact ra _ _)
  repeat (go_big_quiet_step (fail))
  go_big_quiet_step (exact c8 _ _)
  repeat (go_big_quiet_step (fail))
  go_big_quiet_step (exact lr _ _)
  repeat (go_big_quiet_step (fail))
  go_big_quiet_step (exact c9 _ _)
  repeat (go_big_quiet_step (fail))
  go_big_quiet_step (exact ra _ _)
  repeat (go_big_quiet_step (fail))
  go_big_quiet_step (exact rb _ _)
  repeat (go_big_quiet_step (fail))
  go_big_quiet_step (exact c10 _ _)
  repeat (go_big_quiet_step (fail))
  refine wpQuiet_nil ?_
  intro w6 hw'
  have hb6 := below_of_regrown hw'
  clear hw' kA0 kA1 kB0 kB1 c1 c2 c3 c4 c5 c6 c7 c8 c9 c10 ra rb ld lr
  go_wp2
  go_ret
  exact ⟨rfl, hs.trans (hb6.mono hs.size)⟩
theorem walkPrivTells (a ia : ByteArray) (ha : a.size ≤ maxLen) (ka : ia.size ≤ maxLen) (b ib : ByteArray) (hb : b.size ≤ maxLen) (kb : ib.size ≤ maxLen) (p : Int) (hp : (Lit.int .u8 p).wf = true) (w : World) (hL : Letters w) :
    Calls Tryd.prog 3 #[.agg #[.string a, .string ia], .agg #[.string b, .string ib], .int .u8 p] w fun e w' => e = .returned (.bool true) ∧ Below w.heap.size w w' := by
  obtain ⟨p, rfl⟩ := u8_of hp
  exact walkPPrivTells (a.data.toList, ia.data.toList) ha ka (b.data.toList, ib.data.toList) hb kb p w hL
end Go.Proofs.YtiafecmnchlgdaaDoor
