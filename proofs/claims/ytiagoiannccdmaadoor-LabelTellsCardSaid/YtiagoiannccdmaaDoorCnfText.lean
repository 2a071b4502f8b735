/- The contract of cnf.Text. Conditions: the formula's length; the table of letters holds its text. -/
import Derived.Test.YtiagoiannccdmaaDoorCnfR
import Derived.Test.YtiagoiannccdmaaDoorBuilder2
import Derived.Test.YtiagoiannccdmaaDoorParse
namespace Go.Proofs.YtiagoiannccdmaaDoor
open Go.RowKit Go.Shelf

attribute [local go_sem] Oper.semAt_some str_size str_list

theorem row_below {W W' : World} {B size n : Nat} {e : TypeId} {v : Value} {xs : List Value} (h : W.ownsRow B e size v n xs) (hb : Below W.heap.size W W') : W'.ownsRow B e size v n xs :=
  h.kept (row := none) ⟨hb.os, hb.tape, hb.output, hb.size, fun i hi _ => hb.block i hi⟩ (by by_cases h : v.ownBlock = none; exact .inl h; exact .inr h)
theorem keeps_below {W W' : World} (hb : Below W.heap.size W W') : KeepsOthers W W' :=
  ⟨hb.size, fun k _ hk _ => (hb.block k (Array.getElem?_eq_some_iff.1 hk).1).trans hk⟩
theorem Bld.lt {B b : Nat} {l : List UInt8} {w : World} (h : Bld B b l w) : b < w.heap.size := by
  obtain ⟨_, p, v, _, hb, _⟩ := h
  exact (Array.getElem?_eq_some_iff.1 hb).1
theorem Bld.below {B b : Nat} {l : List UInt8} {w w' : World} (h : Bld B b l w) (hb : Below w.heap.size w w') : Bld B b l w' := by
  have hlt := h.lt
  obtain ⟨h1, p, v, hp, hbk, hr⟩ := h
  exact ⟨h1, p, v, hp, (hb.block b hlt).trans hbk, row_below hr hb⟩
/-- The text of clauses, '&' between. -/
def joinC (acc : List UInt8) (c : UInt8) : List UInt8 := (if acc = [] then [] else acc ++ [38]) ++ textP c
def textC (l : List UInt8) : List UInt8 := l.foldl joinC []
theorem textC_snoc (l : List UInt8) (c : UInt8) : textC (l ++ [c]) = joinC (textC l) c := by simp [textC]
theorem textP_len (s : UInt8) : (textP s).length ≤ 12 := by
  unfold textP
  split
  · split
    · simp
    · have h1 := lettersOf_length (placesTo s 6)
      have h2 := placesTo_length s 6 (by omega)
      omega
  · simp
theorem textP_ne (s : UInt8) : textP s ≠ [] := by
  unfold textP
  split
  · rename_i h
    split
    · simp
    · rename_i h0
      exact lettersOf_ne s (by simpa using h) h0
  · simp
theorem textC_length (l : List UInt8) : (textC l).length ≤ 13 * l.length := by
  have h : ∀ (l acc : List UInt8), (l.foldl joinC acc).length ≤ acc.length + 13 * l.length := by
    intro l
    induction l with
    | nil => simp
    | cons c l ih =>
      intro acc
      have h1 := ih (joinC acc c)
      have h2 : (joinC acc c).length ≤ acc.length + 13 := by
        have := textP_len c
        unfold joinC
        split <;> simp <;> omega
      simp only [List.foldl_cons, List.length_cons]
      omega
  have := h l []
  simpa [textC] using this
theorem textC_ne {l : List UInt8} (h : l ≠ []) : textC l ≠ [] := by
  obtain ⟨r, c, rfl⟩ : ∃ r c, l = r ++ [c] := ⟨_, _, (List.dropLast_concat_getLast h).symm⟩
  rw [textC_snoc]
  unfold joinC
  simp [textP_ne]
/-- What cnf.Text tells. -/
def textF (f : List UInt8) : List UInt8 := if Lz.norm f = [] then [84] else if Lz.norm f = [0] then [70] else textC (Lz.norm f)

set_option maxRecDepth 100000 in
set_option maxHeartbeats 2000000 in
theorem textC_in (s : ByteArray) (hs : s.size ≤ 1000000) (n : List UInt8) (hn : Lz.norm s.data.toList = n) (h1 : n.isEmpty = false) (h1' : ¬ n = []) (h2 : (n == [0]) = false) (w : World) (hL : Letters w) :
    CallsIn Fence.wide 6 Tryd.prog 55 #[.string s] w fun e w' => e = .returned (.string (str (textC n))) ∧ Below w.heap.size w w' := by
  have HN := Lib.hid hn
  have HL := Lib.hid hL
  have hnl : n.length ≤ 256 := by rw [← hn]; exact norm_length _
  clear hn hL
  refine callsIn_of_wp_marks Tryd.func55 rfl trivial ?_ rfl
  simp only [Tryd.ntmps55, List.size_toArray, List.length_cons, List.length_nil, Nat.reduceAdd, Nat.reduceSub, Array.replicate_succ, Array.replicate_zero, List.push_toArray, List.append_toArray, List.nil_append, List.cons_append]
  gi_wp2_with fail
  refine ⟨trivial, (toIn (norm_any s hs _)).mono ?_⟩
  rintro e w1 ⟨rfl, hb1⟩
  rw [HN.out]
  gi_wp2_with (refine ⟨trivial, ?_⟩; gi_at_call 58; refine (each_in Fence.wide _ trivial rfl _ _).mono ?_; rintro e w' ⟨rfl, rfl⟩)
  have bB := bld_new (B := w1.heap.size + 2) w1 (by omega)
  have bS := Boxed.new (w1.alloc (.cells #[.pointer none, .slice none 0 0] 91)) 22 (.string (str n))
  rw [World.size_alloc] at bS
  have hB0 : Below w1.heap.size w1 ((w1.alloc (.cells #[.pointer none, .slice none 0 0] 91)).alloc (.cells #[.string (str n)] 22)) := ((Below.refl _ w1).alloc (Nat.le_refl _) _).alloc (by simp) _
  have HL1 := Lib.hid (HL.out.behind hb1)
  refine wpIn_rangeFunc_ownG rfl (by omega) (gf := 75) (lb := #[.pointer (some ⟨w1.heap.size + 1, 0, none⟩)]) rfl trivial (enters_of Tryd.func75 (by kernel_rfl) rfl)
    (each_stops Fence.wide (6 - 1) trivial rfl (by omega) (w1.heap.size + 1) (str n) (by rw [str_size]; omega) _ (by simp) bS.cell) (fun h k => k.trans h) (keepsAt_b (by simp)) (Below.refl _ _) (fun _ => rfl)
    (fun (pre : List UInt8) W => Bld (w1.heap.size + 2) w1.heap.size (textC pre) W ∧ But (w1.heap.size + 2) w1.heap.size ((w1.alloc (.cells #[.pointer none, .slice none 0 0] 91)).alloc (.cells #[.string (str n)] 22)) W)
    (fun _ _ _ => False)
    (OwnFrom.and (Own.from (bld_own (w1.heap.size + 2) w1.heap.size textC) _) (but_own (by simp)))
    (fun _ _ _ _ _ hs _ _ => hs)
    ⟨bB.kept _, But.refl _ _ _⟩
    (fun x => { tmps := #[.string (str n), undef, .string { data := #[] }, .pointer (some ⟨w1.heap.size, 0, none⟩), .int .u8 (x.toNat : Int), .string s, .string (str n), .string (str n), .bool false, .bool false, .bool false, .bool false, .string (str n), .func (.func 75) #[] #[.pointer (some ⟨w1.heap.size + 1, 0, none⟩)], .int .u8 (x.toNat : Int), undef, undef, undef, undef, undef, undef, undef], defers := [] }) ?assign ?body ?done ?stop
  case assign =>
    intro l x W K hK
    gi_wp2
    exact hK
  case body =>
    rintro l pre x W ⟨hbld, hB⟩ hlt
    rw [str_size] at hlt
    have hlen := textC_length pre
    have htl := textP_len x
    have hsz := hB.size
    rw [World.size_alloc, World.size_alloc] at hsz
    have HLW := Lib.hid (HL1.out.behind (hB0.trans (hB.below (by omega) (Nat.le_refl _))))
    have hsn := textC_snoc pre x
    have HS := Lib.hid hsn
    have hts : (str (textP x)).data.toList = textP x := lst_str _
    have HTS := Lib.hid hts
    clear hsn hts
    by_cases h0 : textC pre = []
    · have hl0 : ((textC pre).length : Int) = 0 := by rw [h0]; rfl
      have hj : joinC (textC pre) x = textC pre ++ textP x := by unfold joinC; rw [if_pos h0, h0]
      have HJ := Lib.hid hj
      have H0 := Lib.hid h0
      clear h0 hj
      gi_wp2_with fail
      refine ⟨trivial, (CallsIn.inRound l (toIn (builderLen_any _ _ _ _ hbld))).mono ?_⟩
      rintro e w' ⟨rfl, rfl⟩
      gi_wp2_with fail
      refine ⟨trivial, (CallsIn.inRound l (toIn (text_any _ x rfl _ HLW.out))).mono ?_⟩
      rintro e w2 ⟨rfl, hb2⟩
      have hs2 := hb2.size
      gi_wp2_with fail
      refine ⟨trivial, (CallsIn.inRound l (toIn (writeString_any _ _ _ _ _ (hbld.below hb2) (by rw [str_size]; omega) (by omega)))).mono ?_⟩
      rintro e w3 ⟨rfl, hb3, hbw3, hk3⟩
      rw [HTS.out] at hb3
      have hbw2 := But.of_below (b := w1.heap.size) (hb2.mono hsz)
      gi_wp2
      exact ⟨((keeps_below hb2).trans hk3).from _, (hbw2.trans hbw3).block _ (by omega) (by omega), by rw [HS.out, HJ.out]; exact hb3, (hB.trans hbw2).trans hbw3⟩
    · have hl0 : (0 : Int) < ((textC pre).length : Int) := by have : (textC pre).length ≠ 0 := by simpa using h0
                                                              omega
      have hj : joinC (textC pre) x = textC pre ++ [38] ++ textP x := by unfold joinC; rw [if_neg h0]
      have HJ := Lib.hid hj
      have H0 := Lib.hid h0
      clear h0 hj
      gi_wp2_with fail
      refine ⟨trivial, (CallsIn.inRound l (toIn (builderLen_any _ _ _ _ hbld))).mono ?_⟩
      rintro e w' ⟨rfl, rfl⟩
      gi_wp2_with fail
      refine ⟨trivial, (CallsIn.inRound l (toIn (writeByte_any _ _ _ _ 38 rfl _ hbld (by omega) (by omega)))).mono ?_⟩
      rintro e wb ⟨rfl, hb1, hbw1, hk1⟩
      have hs1 := hbw1.size
      have HLB := Lib.hid ((HL1.out.behind (hB0.trans ((hB.trans hbw1).below (by omega) (Nat.le_refl _)))))
      gi_wp2_with fail
      refine ⟨trivial, (CallsIn.inRound l (toIn (text_any _ x rfl _ HLB.out))).mono ?_⟩
      rintro e w2 ⟨rfl, hb2⟩
      have hs2 := hb2.size
      gi_wp2_with fail
      refine ⟨trivial, (CallsIn.inRound l (toIn (writeString_any _ _ _ _ _ (hb1.below hb2) (by rw [str_size, List.length_append]; simp; omega) (by omega)))).mono ?_⟩
      rintro e w3 ⟨rfl, hb3, hbw3, hk3⟩
      rw [HTS.out] at hb3
      have hbw2 := But.of_below (b := w1.heap.size) (hb2.mono (Nat.le_trans hsz hs1))
      gi_wp2
      exact ⟨((hk1.trans (keeps_below hb2)).trans hk3).from _, ((hbw1.trans hbw2).trans hbw3).block _ (by omega) (by omega), by rw [HS.out, HJ.out]; exact hb3, ((hB.trans hbw1).trans hbw2).trans hbw3⟩
  case done =>
    rintro D ys W hD hys ⟨hbld, hB⟩ hK
    have hne' := textC_ne h1'
    have hls : ys = n := hys.trans (lst_str n)
    rw [hls] at hbld
    clear hls hys
    gi_wp2_with (refine ⟨trivial, ?_⟩; gi_at_call 72; refine (toIn (builderString_any _ _ _ hne' _ hbld)).mono ?_; rintro e w' ⟨rfl, hb2, hk2⟩)
    refine ⟨by simp, .inl ⟨_, _, rfl, run_takeDeferred (hk2.same _ _ hK rfl), ?_⟩⟩
    refine ⟨_, results_tmp rfl _ _ _, rfl, ?_⟩
    rw [World.size_alloc, World.size_alloc] at hD
    have hall : Below w1.heap.size w1 _ := (hB0.trans (hB.below (by omega) (Nat.le_refl _))).trans (hb2.mono (by omega))
    exact (hb1.trans (hall.mono hb1.size)).trans (belowK_b (w := w) (Nat.le_refl _) _ D _ _ (by have := hb1.size; omega) (hk2.same _ _ hK rfl) rfl rfl)
  case stop =>
    rintro D c pre W _ _ h _
    exact h.elim
set_option maxRecDepth 100000 in
set_option maxHeartbeats 1000000 in
theorem cnfText_any (s : ByteArray) (hs : s.size ≤ 1000000) (w : World) (hL : Letters w) :
    Calls Tryd.prog 55 #[.string s] w fun e w' => e = .returned (.string (str (textF s.data.toList))) ∧ Below w.heap.size w w' := by
  have HF := Lib.hid (show textF s.data.toList = if Lz.norm s.data.toList = [] then [84] else if Lz.norm s.data.toList = [0] then [70] else textC (Lz.norm s.data.toList) from rfl)
  have HX := Lib.hid (norm_any s hs w)
  have HY := Lib.hid fun n hn h1 h1' h2 => callsIn_wide.1 (textC_in s hs n hn h1 h1' h2 w hL)
  have HR := Lib.hid (show Lz.norm s.data.toList = Lz.norm s.data.toList from rfl)
  revert HF HX HY HR
  generalize textF s.data.toList = q
  generalize hm : Lz.norm s.data.toList = m
  intro HF HX HY HR
  clear hm
  by_cases h1 : m = []
  · subst h1
    rw [HF.out, if_pos rfl]
    go_enter Tryd.func55, Tryd.ntmps55
    go_wp2_with fail
    refine HX.out.mono ?_
    rintro e w1 ⟨rfl, hb1⟩
    go_wp2
    go_ret
    exact ⟨rfl, hb1⟩
  · by_cases h2 : m = [0]
    · subst h2
      rw [HF.out, if_neg (by simp), if_pos rfl]
      go_enter Tryd.func55, Tryd.ntmps55
      go_wp2_with fail
      refine HX.out.mono ?_
      rintro e w1 ⟨rfl, hb1⟩
      go_wp2
      go_ret
      exact ⟨rfl, hb1⟩
    · rw [HF.out, if_neg h1, if_neg h2]
      exact HY.out m rfl (by simpa using h1) h1 (by simpa using h2)
end Go.Proofs.YtiagoiannccdmaaDoor
