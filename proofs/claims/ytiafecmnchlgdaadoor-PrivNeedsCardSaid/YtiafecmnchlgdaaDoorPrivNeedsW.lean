/- The walk of PrivNeeds. Conditions: the sizes of what came in; the table of letters holds its text. -/
import Derived.Test.YtiafecmnchlgdaaDoorLabPre4
import Derived.Test.YtiafecmnchlgdaaDoorEx4
import Derived.BigQuiet
namespace Go.Proofs.YtiafecmnchlgdaaDoor
open Go.RowKit Go.Shelf
attribute [local go_sem] str_list str_size
attribute [local go_sem high] eql_label neq_label
theorem clip_mod (p : UInt8) : ((p.toNat : Int) % 64) = ((Lz.clip p).toNat : Int) := by
  unfold Lz.clip
  rw [UInt8.toNat_and, show (63 : UInt8).toNat = 2 ^ 6 - 1 from rfl, Nat.and_two_pow_sub_one_eq_mod]
  omega
theorem needsE (W : World) (a b : Lz.Lab) (n : ByteArray) (ha : okL a) (hb : okL b) (h : str (Lz.needs a b) = n) : Calls Tryd.prog 21 #[pv a, pv b] W fun e w' => e = .returned (.string n) ∧ Below W.heap.size W w' := by
  subst h; exact needs_p a b ha hb W
theorem leastB (W : World) (x n : ByteArray) (hx : x.size ≤ 1000000) (h : str (Lz.least x.data.toList) = n) : Calls Tryd.prog 25 #[.string x] W fun e w' => e = .returned (.string n) ∧ Below W.heap.size W w' := by
  subst h; exact least_any x W (by unfold maxLen; omega)
theorem covers_bytes (b : ByteArray) (k : Nat) (h : k < b.size) (s : UInt8) : Lz.covers (b.data.toList.take (k + 1)) s = (Lz.covers (b.data.toList.take k) s || Lz.sub b[k] s) := covers_take_succ b.data.toList k (by simpa using h) s
theorem mem_bytes (b : ByteArray) (k : Nat) (h : k < b.size) : b[k] ∈ b.data.toList := List.getElem_mem (l := b.data.toList) (by simpa using h)
set_option maxRecDepth 100000 in
set_option maxHeartbeats 8000000 in
theorem walkPPrivNeeds (a : Lz.Lab) (ha1 : a.1.length ≤ maxLen) (ha2 : a.2.length ≤ maxLen) (b : Lz.Lab) (hb1 : b.1.length ≤ maxLen) (hb2 : b.2.length ≤ maxLen) (p : UInt8) (w : World) (hL : Letters w) :
    Calls Tryd.prog 6 #[pv a, pv b, .int .u8 (p.toNat : Int)] w fun e w' => e = .returned (.bool true) ∧ Below w.heap.size w w' := by
  have mixed := mixedOrders
  have HL := Lib.hid hL
  clear hL
  have HSa := Lib.hid (small_p a ha1 ha2)
  have oka := okL_sm a
  generalize hsa : sm a = qa at HSa oka
  clear hsa
  have HSb := Lib.hid (small_p b hb1 hb2)
  have okb := okL_sm b
  generalize hsb : sm b = qb at HSb okb
  clear hsb
  obtain ⟨nB, hnB⟩ : ∃ nB, str (Lz.needs qa qb) = nB := ⟨_, rfl⟩
  have hn : nB.data.toList = Lz.needs qa qb := by rw [← hnB]; rfl
  obtain ⟨f, hf⟩ : ∃ f, Lz.fb qa qb p = f := ⟨_, rfl⟩
  obtain ⟨l, hl⟩ : ∃ l, Lz.fl qa qb = l := ⟨_, rfl⟩
  have HN := Lib.hid (show str (Lz.needs qa qb) = nB from hnB)
  have HC := Lib.hid (show Lz.covers nB.data.toList (Lz.clip p) = f from by rw [hn, ← hf]; exact Lz.needs_covers _ _ _)
  have HF := Lib.hid (show Lz.fb qa qb p = f from hf)
  have HL1 := Lib.hid (show Lz.fl qa qb = l from hl)
  have HZ := Lib.hid (show (nB.toList == [0]) = l from by rw [ByteArray.toList_eq, hn, ← hl]; exact Lz.needs_zero _ _)
  have HLE := Lib.hid (show str (Lz.least nB.data.toList) = nB from by rw [hn, Lz.needs_least]; exact hnB)
  have HM := Lib.hid (show ∀ c, c ∈ nB.data.toList → c.toNat < 64 ∧ Lz.fb qa qb c = true from fun c hc => by rw [hn] at hc; exact Lz.mem_needs hc)
  have lln : nB.size ≤ 256 := by rw [← hnB, str_size]; exact leastTo_length _ 256
  have HP := Lib.hid (show ((p.toNat : Int) % 64) = ((Lz.clip p).toNat : Int) from clip_mod p)
  clear hn hf hl hnB
  obtain ⟨A_0, B_0, hB0⟩ := alloc2P w a b
  have qA0 := A_0.cell0
  have qA1 := A_0.cell1
  have qB0 := B_0.cell0
  have qB1 := B_0.cell1
  go_enter Tryd.func6, Tryd.ntmps6
  go_wp2_with fail
  generalize ((w.alloc (.cells #[.string (str a.1), .string (str a.2)] 24)).alloc (.cells #[.string (str b.1), .string (str b.2)] 24)) = w0 at *
  have HEX := Lib.hid (fun W hL => examples4_any W hL)
  refine (HEX.out _ (HL.out.behind hB0)).mono ?_
  rintro e w1 ⟨rfl, hb1⟩
  clear qA0 qA1 qB0 qB1
  have A_1 := A_0.below hb1 A_0.lt
  have B_1 := B_0.below hb1 B_0.lt
  have hB1 := hB0.trans (hb1.mono hB0.size)
  clear hb1 hB0 A_0 B_0
  have qA0 := A_1.cell0
  have qA1 := A_1.cell1
  have qB0 := B_1.cell0
  have qB1 := B_1.cell1
  go_wp2_with fail
  refine (HSa.out _).mono ?_
  rintro e w2 ⟨rfl, hb2⟩
  clear qA0 qA1 qB0 qB1
  have A_2 := A_1.below hb2 A_1.lt
  have B_2 := B_1.below hb2 B_1.lt
  have hB2 := hB1.trans (hb2.mono hB1.size)
  clear hb2 hB1 A_1 B_1
  have qA0 := A_2.cell0
  have qA1 := A_2.cell1
  have qB0 := B_2.cell0
  have qB1 := B_2.cell1
  have f0 := A_2.frozen 0
  have f1 := A_2.frozen 1
  go_wp2_with fail
  have A_s : BoxL ((w2.setCell ⟨w.heap.size, 0, none⟩ (.string (str qa.1))).setCell ⟨w.heap.size, 1, none⟩ (.string (str qa.2))) w.heap.size qa := box2_set1 (box2_set0 A_2)
  have B_s : BoxL ((w2.setCell ⟨w.heap.size, 0, none⟩ (.string (str qa.1))).setCell ⟨w.heap.size, 1, none⟩ (.string (str qa.2))) (w.heap.size + 1) b := other2 (by omega) B_2 _ _
  have hs := (hB2.setCell (p := ⟨w.heap.size, 0, none⟩) (show w.heap.size ≤ w.heap.size by omega) (.string (str qa.1))).setCell (p := ⟨w.heap.size, 1, none⟩) (show w.heap.size ≤ w.heap.size by omega) (.string (str qa.2))
  clear qA0 qA1 qB0 qB1 f0 f1 hB2 A_2 B_2
  generalize ((w2.setCell ⟨w.heap.size, 0, none⟩ (.string (str qa.1))).setCell ⟨w.heap.size, 1, none⟩ (.string (str qa.2))) = w3 at hs A_s B_s ⊢
  have A_3 := A_s
  have B_3 := B_s
  have hB3 := hs
  clear hs A_s B_s
  have qA0 := A_3.cell0
  have qA1 := A_3.cell1
  have qB0 := B_3.cell0
  have qB1 := B_3.cell1
  go_wp2_with fail
  refine (HSb.out _).mono ?_
  rintro e w4 ⟨rfl, hb4⟩
  clear qA0 qA1 qB0 qB1
  have A_4 := A_3.below hb4 A_3.lt
  have B_4 := B_3.below hb4 B_3.lt
  have hB4 := hB3.trans (hb4.mono hB3.size)
  clear hb4 hB3 A_3 B_3
  have qA0 := A_4.cell0
  have qA1 := A_4.cell1
  have qB0 := B_4.cell0
  have qB1 := B_4.cell1
  have f0 := B_4.frozen 0
  have f1 := B_4.frozen 1
  go_wp2_with fail
  have B_s : BoxL ((w4.setCell ⟨(w.heap.size + 1), 0, none⟩ (.string (str qb.1))).setCell ⟨(w.heap.size + 1), 1, none⟩ (.string (str qb.2))) (w.heap.size + 1) qb := box2_set1 (box2_set0 B_4)
  have A_s : BoxL ((w4.setCell ⟨(w.heap.size + 1), 0, none⟩ (.string (str qb.1))).setCell ⟨(w.heap.size + 1), 1, none⟩ (.string (str qb.2))) w.heap.size qa := other2 (by omega) A_4 _ _
  have hs := (hB4.setCell (p := ⟨(w.heap.size + 1), 0, none⟩) (show w.heap.size ≤ (w.heap.size + 1) by omega) (.string (str qb.1))).setCell (p := ⟨(w.heap.size + 1), 1, none⟩) (show w.heap.size ≤ (w.heap.size + 1) by omega) (.string (str qb.2))
  clear qA0 qA1 qB0 qB1 f0 f1 hB4 A_4 B_4
  generalize ((w4.setCell ⟨(w.heap.size + 1), 0, none⟩ (.string (str qb.1))).setCell ⟨(w.heap.size + 1), 1, none⟩ (.string (str qb.2))) = w5 at hs A_s B_s ⊢
  have A_5 := A_s
  have B_5 := B_s
  have hB5 := hs
  clear hs A_s B_s
  have qA0 := A_5.cell0
  have qA1 := A_5.cell1
  have qB0 := B_5.cell0
  have qB1 := B_5.cell1
  go_wp2_with fail
  refine (needsE _ qa qb nB oka okb HN.out).mono ?_
  rintro e w6 ⟨rfl, hb6⟩
  clear qA0 qA1 qB0 qB1
  have A_6 := A_5.below hb6 A_5.lt
  have B_6 := B_5.below hb6 B_5.lt
  have hB6 := hB5.trans (hb6.mono hB5.size)
  clear hb6 hB5 A_5 B_5
  have qA0 := A_6.cell0
  have qA1 := A_6.cell1
  have qB0 := B_6.cell0
  have qB1 := B_6.cell1
  clear qA0 qA1 qB0 qB1
  go_wp2_with fail
  go_loopw [9, 10] (fun en i wr => ∃ k : Nat, k ≤ nB.size ∧ i = .int .i64 k ∧ en = .bool (Lz.covers (nB.data.toList.take k) (Lz.clip p)) ∧ BoxL wr w.heap.size qa ∧ BoxL wr (w.heap.size + 1) qb ∧ Below w.heap.size w wr) (fun _ i _ => nB.size - (intOf i).toNat)
  case atStart => exact ⟨0, Nat.zero_le _, rfl, rfl, A_6, B_6, hB6⟩
  case round =>
    clear A_6 B_6 hB6
    obtain ⟨k, hk, rfl, rfl, A_r, B_r, hBr⟩ := hrel
    by_cases hlt : k < nB.size
    · have hmem := HM.out nB[k] (mem_bytes nB k hlt)
      have hct := covers_bytes nB k hlt (Lz.clip p)
      obtain ⟨hm64, hmf⟩ := hmem
      have hgt : ¬ (63 < ((nB[k]'hlt).toNat : Int)) := by omega
      have h0k : (0 : Int) ≤ (k : Int) := by omega
      have h1k : (k : Int) < (nB.size : Int) := by omega
      have HCT := Lib.hid hct
      have HI := Lib.hid (fun W => in_any _ _ (nB[k]'hlt) (Lz.clip p) rfl HP.out W)
      have HFB := Lib.hid (fun W => fbE W qa qb true _ (nB[k]'hlt) rfl oka okb hmf)
      have HGT := Lib.hid hgt
      clear hct hmf hgt
      generalize Lz.covers (nB.data.toList.take k) (Lz.clip p) = en at HCT ⊢
      generalize Lz.sub (nB[k]'hlt) (Lz.clip p) = u at HCT HI
      have kA0 := cell_regrown A_r.cell0
      have kA1 := cell_regrown A_r.cell1
      have kB0 := cell_regrown B_r.cell0
      have kB1 := cell_regrown B_r.cell1
      have r0 := quiet_call (w := wr) (fun W hb => HFB.out W)
      cases en <;> cases u
      all_goals
        go_wp2_with (go_at_call 24; refine (HI.out _).mono ?_; rintro e w' ⟨rfl, rfl⟩)
        refine wp_region_quiet_below mixed (by kernel_rfl) ?_
        repeat (go_big_quiet_step (fail))
        have hgt2 : ¬ (63 < ((nB[k]'hlt).toNat : Int)) := by have := HGT.out; omega
        simp only [hgt2, decide_false]
        clear hgt2
        repeat (go_big_quiet_step (fail))
        go_big_quiet_step (exact r0 _ _)
        repeat (go_big_quiet_step (fail))
        refine wpQuiet_nil ?_
        intro w2 hw'
        have hb2 := below_of_regrown hw'
        clear hw' r0 kA0 kA1 kB0 kB1
        go_wp2
        go_roundw
        case rel => exact ⟨k + 1, by omega, by go_num, by rw [HCT.out]; rfl, A_r.below hb2 A_r.lt, B_r.below hb2 B_r.lt, hBr.trans (hb2.mono hBr.size)⟩
        case measure => simp [intOf]; omega
    · obtain rfl : k = nB.size := by omega
      have hall : nB.data.toList.take nB.size = nB.data.toList := List.take_of_length_le (by simp)
      rw [hall, HC.out]
      clear hall
      cases f <;> cases l
      all_goals
        have qA0 := A_r.cell0
        have qA1 := A_r.cell1
        have qB0 := B_r.cell0
        have qB1 := B_r.cell1
        go_wp2_with fail
        refine (fbE _ qa qb _ _ p rfl oka okb HF.out).mono ?_
        rintro e w21 ⟨rfl, hb21⟩
        clear qA0 qA1 qB0 qB1
        have A_21 := A_r.below hb21 A_r.lt
        have B_21 := B_r.below hb21 B_r.lt
        have hB21 := hBr.trans (hb21.mono hBr.size)
        clear hb21 hBr A_r B_r
        have qA0 := A_21.cell0
        have qA1 := A_21.cell1
        have qB0 := B_21.cell0
        have qB1 := B_21.cell1
        go_wp2_with fail
        refine (leastB _ nB nB (by omega) HLE.out).mono ?_
        rintro e w22 ⟨rfl, hb22⟩
        clear qA0 qA1 qB0 qB1
        have A_22 := A_21.below hb22 A_21.lt
        have B_22 := B_21.below hb22 B_21.lt
        have hB22 := hB21.trans (hb22.mono hB21.size)
        clear hb22 hB21 A_21 B_21
        have qA0 := A_22.cell0
        have qA1 := A_22.cell1
        have qB0 := B_22.cell0
        have qB1 := B_22.cell1
        have hz := HZ.out
        go_wp2_with fail
        refine (flE _ qa qb _ oka okb HL1.out).mono ?_
        rintro e w23 ⟨rfl, hb23⟩
        clear qA0 qA1 qB0 qB1
        have A_23 := A_22.below hb23 A_22.lt
        have B_23 := B_22.below hb23 B_22.lt
        have hB23 := hB22.trans (hb23.mono hB22.size)
        clear hb23 hB22 A_22 B_22
        have qA0 := A_23.cell0
        have qA1 := A_23.cell1
        have qB0 := B_23.cell0
        have qB1 := B_23.cell1
        clear qA0 qA1 qB0 qB1
        go_wp2
        go_ret
        exact ⟨rfl, hB23⟩
theorem walkPrivNeeds (a ia : ByteArray) (ha : a.size ≤ maxLen) (ka : ia.size ≤ maxLen) (b ib : ByteArray) (hb : b.size ≤ maxLen) (kb : ib.size ≤ maxLen) (p : Int) (hp : (Lit.int .u8 p).wf = true) (w : World) (hL : Letters w) :
    Calls Tryd.prog 6 #[.agg #[.string a, .string ia], .agg #[.string b, .string ib], .int .u8 p] w fun e w' => e = .returned (.bool true) ∧ Below w.heap.size w w' := by
  obtain ⟨p, rfl⟩ := u8_of hp
  exact walkPPrivNeeds (a.data.toList, ia.data.toList) ha ka (b.data.toList, ib.data.toList) hb kb p w hL
end Go.Proofs.YtiafecmnchlgdaaDoor
