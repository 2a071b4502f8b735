/- The contracts of label.Text, Parse. Conditions: the lengths; the table of letters holds its text. -/
import Derived.Test.YtiagoiannccdmaaDoorLabel4
import Derived.Test.YtiagoiannccdmaaDoorLabelD
import Derived.BigQuiet
namespace Go.Proofs.YtiagoiannccdmaaDoor
open Go.RowKit Go.Shelf
theorem str_cat (x y : List UInt8) : str x ++ str y = str (x ++ y) := by apply ByteArray.ext; simp [str]
theorem textF_len (f : List UInt8) : (textF f).length ≤ 1000 := by
  unfold textF
  split
  · simp
  · split
    · simp
    · have h1 := textC_length (Lz.norm f)
      have h2 := Lz.norm_len64 f
      omega
attribute [local go_sem] str_list str_size str_cat
set_option maxRecDepth 100000 in
set_option maxHeartbeats 1000000 in
theorem labelText_p (a : Lz.Lab) (ha : okL a) (w : World) (hL : Letters w) : Calls Tryd.prog 31 #[pv a] w fun e w' => e = .returned (.string (str (textLb a))) ∧ Below w.heap.size w w' := by
  have bL : BoxL (w.alloc (.cells #[.string (str a.1), .string (str a.2)] 24)) w.heap.size a := Box2.new w _ _ _
  have hA : Below w.heap.size w (w.alloc (.cells #[.string (str a.1), .string (str a.2)] 24)) := (Below.refl _ w).alloc (Nat.le_refl _) _
  have HLA := Lib.hid (hL.behind hA)
  have k0 := cell_regrown bL.cell0
  have k1 := cell_regrown bL.cell1
  have r0 := quiet_call (w := w.alloc (.cells #[.string (str a.1), .string (str a.2)] 24)) (fun W hb => cnfText_any (str a.1) ha.l W (HLA.out.behind hb))
  have r1 := quiet_call (w := w.alloc (.cells #[.string (str a.1), .string (str a.2)] 24)) (fun W hb => cnfText_any (str a.2) ha.r W (HLA.out.behind hb))
  have l0 := textF_len a.1
  have l1 := textF_len a.2
  have hcat : str (textF a.1) ++ ⟨#[47]⟩ = str (textF a.1 ++ [47]) := str_cat _ [47]
  have hcl : (textF a.1 ++ [47]).length ≤ 1001 := by rw [List.length_append]; simp; omega
  rw [lst_str] at r0 r1
  have mixed := mixedOrders
  clear hL
  go_enter Tryd.func31, Tryd.ntmps31
  go_wp2_with fail
  refine wp_region_quiet_below mixed (by kernel_rfl) ?_
  repeat (go_big_quiet_step (fail))
  go_big_quiet_step (exact r0 _ _)
  repeat (go_big_quiet_step (fail))
  go_big_quiet_step (exact r1 _ _)
  repeat (go_big_quiet_step (fail))
  refine wpQuiet_nil ?_
  intro W1 hw'
  have hb1 := below_of_regrown hw'
  clear hw' k0 k1 r0 r1
  go_wp2
  go_ret
  refine ⟨?_, hA.trans (hb1.mono hA.size)⟩
  unfold textLb
  simp
set_option maxRecDepth 100000 in
set_option maxHeartbeats 2000000 in
theorem labelParse_p (t : List UInt8) (ht : t.length ≤ 1000000) (w : World) (hL : Letters w) : Calls Tryd.prog 20 #[.string (str t)] w fun e w' => e = .returned (.tuple #[pv (parseLb t).1, .bool (parseLb t).2]) ∧ Below w.heap.size w w' := by
  have bR := Box2.new w 24 (.string ⟨#[]⟩) (.string ⟨#[]⟩)
  have hA : Below w.heap.size w (w.alloc (.cells #[.string ⟨#[]⟩, .string ⟨#[]⟩] 24)) := (Below.refl _ w).alloc (Nat.le_refl _) _
  have HL := Lib.hid hL
  have HC := Lib.hid (fun W => cut_any t (by unfold maxLen; omega) W)
  have HP := Lib.hid (show parseLb t = if (cut47 t).2.2 = true then if (parseF (cut47 t).1).2 = true then if (parseF (cut47 t).2.1).2 = true then (((parseF (cut47 t).1).1, (parseF (cut47 t).2.1).1), true) else (([], []), false) else (([], []), false) else (([], []), false) from rfl)
  have hx : (cut47 t).1.length ≤ 1000000 := by
    unfold cut47; split
    · rw [List.length_take]; omega
    · exact ht
  have hy : (cut47 t).2.1.length ≤ 1000000 := by
    unfold cut47; split
    · rw [List.length_drop]; omega
    · simp
  revert HP
  generalize parseLb t = res
  generalize cut47 t = c at HC hx hy
  obtain ⟨x, y, b⟩ := c
  simp only at hx hy
  have HX := Lib.hid (fun W hL => cnfParse_any x hx W hL)
  have HY := Lib.hid (fun W hL => cnfParse_any y hy W hL)
  simp only
  generalize parseF x = px at HX
  generalize parseF y = py at HY
  obtain ⟨fx, ox⟩ := px
  obtain ⟨fy, oy⟩ := py
  intro HP
  simp only at HX HY HP
  clear hL ht hx hy
  cases b with
  | false =>
    rw [if_neg (by decide)] at HP
    rw [HP.out]
    go_enter Tryd.func20, Tryd.ntmps20
    go_wp2_with fail
    refine (HC.out _).mono ?_
    rintro e w1 ⟨rfl, hb1⟩
    have b1 := bR.below hb1 bR.lt
    have hB1 := hA.trans (hb1.mono hA.size)
    clear bR hA hb1
    have c0 := b1.cell0
    have c1 := b1.cell1
    have f0 := b1.frozen 0
    have f1 := b1.frozen 1
    go_wp2
    have b3 := box2_set1 (q := .string ⟨#[]⟩) (box2_set0 (q := .string ⟨#[]⟩) b1)
    have d0 := b3.cell0
    have d1 := b3.cell1
    refine bodyPost_ret (v := .tuple #[.agg #[.string ⟨#[]⟩, .string ⟨#[]⟩], .bool false]) ?_ rfl ⟨rfl, (hB1.setCell (p := ⟨w.heap.size, 0, none⟩) (Nat.le_refl _) _).setCell (p := ⟨w.heap.size, 1, none⟩) (Nat.le_refl _) _⟩
    simp [results, Tryd.f20, go_sem, d0, d1]
  | true =>
    rw [if_pos rfl] at HP
    cases ox with
    | false =>
      rw [if_neg (by decide)] at HP
      rw [HP.out]
      go_enter Tryd.func20, Tryd.ntmps20
      go_wp2_with fail
      refine (HC.out _).mono ?_
      rintro e w1 ⟨rfl, hb1⟩
      have b1 := bR.below hb1 bR.lt
      have hB1 := hA.trans (hb1.mono hA.size)
      clear bR hA hb1
      go_wp2_with fail
      refine (HX.out _ (HL.out.behind hB1)).mono ?_
      rintro e w2 ⟨rfl, hb2⟩
      have b2 := b1.below hb2 b1.lt
      have hB2 := hB1.trans (hb2.mono hB1.size)
      clear b1 hB1 hb2
      have c0 := b2.cell0
      have c1 := b2.cell1
      have f0 := b2.frozen 0
      have f1 := b2.frozen 1
      go_wp2
      have b3 := box2_set1 (q := .string ⟨#[]⟩) (box2_set0 (q := .string ⟨#[]⟩) b2)
      have d0 := b3.cell0
      have d1 := b3.cell1
      refine bodyPost_ret (v := .tuple #[.agg #[.string ⟨#[]⟩, .string ⟨#[]⟩], .bool false]) ?_ rfl ⟨rfl, (hB2.setCell (p := ⟨w.heap.size, 0, none⟩) (Nat.le_refl _) _).setCell (p := ⟨w.heap.size, 1, none⟩) (Nat.le_refl _) _⟩
      simp [results, Tryd.f20, go_sem, d0, d1]
    | true =>
      rw [if_pos rfl] at HP
      cases oy with
      | false =>
        rw [if_neg (by decide)] at HP
        rw [HP.out]
        go_enter Tryd.func20, Tryd.ntmps20
        go_wp2_with fail
        refine (HC.out _).mono ?_
        rintro e w1 ⟨rfl, hb1⟩
        have b1 := bR.below hb1 bR.lt
        have hB1 := hA.trans (hb1.mono hA.size)
        clear bR hA hb1
        go_wp2_with fail
        refine (HX.out _ (HL.out.behind hB1)).mono ?_
        rintro e w2 ⟨rfl, hb2⟩
        have b2 := b1.below hb2 b1.lt
        have hB2 := hB1.trans (hb2.mono hB1.size)
        clear b1 hB1 hb2
        go_wp2_with fail
        refine (HY.out _ (HL.out.behind hB2)).mono ?_
        rintro e w3 ⟨rfl, hb3⟩
        have b4 := b2.below hb3 b2.lt
        have hB3 := hB2.trans (hb3.mono hB2.size)
        clear b2 hB2 hb3
        have c0 := b4.cell0
        have c1 := b4.cell1
        have f0 := b4.frozen 0
        have f1 := b4.frozen 1
        go_wp2
        have b3 := box2_set1 (q := .string ⟨#[]⟩) (box2_set0 (q := .string ⟨#[]⟩) b4)
        have d0 := b3.cell0
        have d1 := b3.cell1
        refine bodyPost_ret (v := .tuple #[.agg #[.string ⟨#[]⟩, .string ⟨#[]⟩], .bool false]) ?_ rfl ⟨rfl, (hB3.setCell (p := ⟨w.heap.size, 0, none⟩) (Nat.le_refl _) _).setCell (p := ⟨w.heap.size, 1, none⟩) (Nat.le_refl _) _⟩
        simp [results, Tryd.f20, go_sem, d0, d1]
      | true =>
        rw [if_pos rfl] at HP
        rw [HP.out]
        go_enter Tryd.func20, Tryd.ntmps20
        go_wp2_with fail
        refine (HC.out _).mono ?_
        rintro e w1 ⟨rfl, hb1⟩
        have b1 := bR.below hb1 bR.lt
        have hB1 := hA.trans (hb1.mono hA.size)
        clear bR hA hb1
        go_wp2_with fail
        refine (HX.out _ (HL.out.behind hB1)).mono ?_
        rintro e w2 ⟨rfl, hb2⟩
        have b2 := b1.below hb2 b1.lt
        have hB2 := hB1.trans (hb2.mono hB1.size)
        clear b1 hB1 hb2
        go_wp2_with fail
        refine (HY.out _ (HL.out.behind hB2)).mono ?_
        rintro e w3 ⟨rfl, hb3⟩
        have b4 := b2.below hb3 b2.lt
        have hB3 := hB2.trans (hb3.mono hB2.size)
        clear b2 hB2 hb3
        have c0 := b4.cell0
        have c1 := b4.cell1
        have f0 := b4.frozen 0
        have f1 := b4.frozen 1
        go_wp2
        have b3 := box2_set1 (q := .string (str fy)) (box2_set0 (q := .string (str fx)) b4)
        have d0 := b3.cell0
        have d1 := b3.cell1
        refine bodyPost_ret (v := .tuple #[.agg #[.string (str fx), .string (str fy)], .bool true]) ?_ rfl ⟨rfl, (hB3.setCell (p := ⟨w.heap.size, 0, none⟩) (Nat.le_refl _) _).setCell (p := ⟨w.heap.size, 1, none⟩) (Nat.le_refl _) _⟩
        simp [results, Tryd.f20, go_sem, d0, d1]
end Go.Proofs.YtiagoiannccdmaaDoor
