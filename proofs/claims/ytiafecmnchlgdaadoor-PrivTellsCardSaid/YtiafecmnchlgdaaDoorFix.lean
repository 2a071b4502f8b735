/- The contract of cnf.Fix. Condition: the formula's length. -/
import Derived.Test.YtiafecmnchlgdaaDoorHolds
namespace Go.Proofs.YtiafecmnchlgdaaDoor
open Go.RowKit Go.Shelf

attribute [local go_sem] Oper.semAt_some

def keepN (p : UInt8) (l : List UInt8) : List UInt8 := l.filter fun c => !Lz.meets c p
theorem keepN_snoc (p : UInt8) (l : List UInt8) (c : UInt8) : keepN p (l ++ [c]) = if Lz.meets c p then keepN p l else keepN p l ++ [c] := by
  unfold keepN
  rw [List.filter_append]
  cases h : Lz.meets c p <;> simp [h]
theorem keepN_length (p : UInt8) (l : List UInt8) : (keepN p l).length ≤ l.length := List.length_filter_le _ _
theorem fix_keep (l : List UInt8) (p : UInt8) : keepN p (Lz.norm l) = Lz.fix l p := rfl

set_option maxRecDepth 100000 in
set_option maxHeartbeats 2000000 in
theorem fix_in (s : ByteArray) (hs : s.size ≤ 1000000) (z : UInt8) (w : World) :
    CallsIn Fence.wide 6 Tryd.prog 36 #[.string s, .int .u8 (z.toNat : Int)] w fun e w' => e = .returned (.string (str (Lz.fix s.data.toList z))) ∧ Below w.heap.size w w' := by
  obtain ⟨i0, hi, hz0, hz1, hz2⟩ := info_parts info_u8
  have HF := Lib.hid (fix_keep s.data.toList z)
  have hln := norm_length s.data.toList
  refine callsIn_of_wp_marks Tryd.func36 rfl trivial ?_ rfl
  simp only [Tryd.ntmps36, List.size_toArray, List.length_cons, List.length_nil, Nat.reduceAdd, Nat.reduceSub, Array.replicate_succ, Array.replicate_zero, List.push_toArray, List.append_toArray, List.nil_append, List.cons_append]
  gi_wp2_with (refine ⟨trivial, ?_⟩; gi_at_call 49; refine (toIn (norm_any s hs _)).mono ?_; rintro e w1 ⟨rfl, hb1⟩; generalize hn : Lz.norm s.data.toList = n at HF hln ⊢; clear hn)
  have bX := (Boxed.new w 5 (.int .u8 (z.toNat : Int))).alloc (.cells #[.slice none 0 0] 49)
  have bL := Boxed.new (w.alloc (.cells #[.int .u8 (z.toNat : Int)] 5)) 49 (.slice none 0 0)
  rw [World.size_alloc] at bL
  have hA : Below w.heap.size w ((w.alloc (.cells #[.int .u8 (z.toNat : Int)] 5)).alloc (.cells #[.slice none 0 0] 49)) := ((Below.refl _ w).alloc (Nat.le_refl _) _).alloc (by simp) _
  have hAs : ((w.alloc (.cells #[.int .u8 (z.toNat : Int)] 5)).alloc (.cells #[.slice none 0 0] 49)).heap.size = w.heap.size + 2 := by simp
  generalize ((w.alloc (.cells #[.int .u8 (z.toNat : Int)] 5)).alloc (.cells #[.slice none 0 0] 49)) = wA at bX bL hA hAs hb1
  have hs1 := hb1.size
  have bX1 := boxed_below bX hb1 (by omega)
  have bL1 := boxed_below bL hb1 (by omega)
  gi_wp2_with (refine ⟨trivial, ?_⟩; gi_at_call 51; refine (each_in Fence.wide _ trivial rfl _ _).mono ?_; rintro e w' ⟨rfl, rfl⟩)
  have bS := Boxed.new w1 22 (.string (str n))
  have hB0 : Below (w.heap.size + 1) wA (w1.alloc (.cells #[.string (str n)] 22)) := (hb1.mono (by omega)).alloc (by omega) _
  refine wpIn_rangeFunc_ownG rfl (by omega) (gf := 65) (lb := #[.pointer (some ⟨w1.heap.size, 0, none⟩)]) rfl trivial (enters_of Tryd.func65 (by kernel_rfl) rfl)
    (each_stops Fence.wide (6 - 1) trivial rfl (by omega) w1.heap.size (str n) (by rw [str_size]; omega) _ (by simp) bS.cell) (fun h k => k.trans h) (keepsAt_b (by simp)) (Below.refl _ _) (fun _ => rfl)
    (fun (pre : List UInt8) W => (∃ v, Boxed W (w.heap.size + 1) 49 v ∧ W.ownsRow (w.heap.size + 1) 5 1 v (keepN z pre).length ((keepN z pre).map bval) ∧ True) ∧ Boxed W w1.heap.size 22 (.string (str n)) ∧ Below (w.heap.size + 1) wA W)
    (fun _ _ _ => False)
    (OwnFrom.and (Own.from (holdsRow_own (w.heap.size + 1) (w.heap.size + 1) 49 5 1 (fun pre : List UInt8 => (keepN z pre).length) (fun pre => (keepN z pre).map bval) (fun _ _ => True)) _) (OwnFrom.and (Own.from (boxed_one_own _ _ _) _) (ownFrom_below (by omega) (by simp; omega))))
    (fun _ _ _ _ _ hs _ _ => hs)
    ⟨⟨_, bL1.alloc _, World.ownsRow_nil _ _ _ _, trivial⟩, bS, hB0⟩
    (fun x => { tmps := #[.string s, .int .u8 (z.toNat : Int), undef, .pointer (some ⟨w.heap.size, 0, none⟩), .string { data := #[] }, .pointer (some ⟨w.heap.size + 1, 0, none⟩), .int .u8 (x.toNat : Int), .string s, .string (str n), .func (.func 65) #[] #[.pointer (some ⟨w1.heap.size, 0, none⟩)], .int .u8 (x.toNat : Int), undef, undef, undef, undef, undef, undef, undef, undef, undef, undef], defers := [] }) ?assign ?body ?done ?stop
  case assign =>
    intro l x W K hK
    gi_wp2
    exact hK
  case body =>
    rintro l pre x W ⟨⟨v, hv, hrow, _⟩, hbs, hB⟩ hlt
    have hc := hv.cell
    have hcx := (boxed_below bX hB (by omega)).cell
    have hsB := hB.size
    have hkl := keepN_length z pre
    rw [str_size] at hlt
    cases hm : Lz.meets x z with
    | true =>
      have hz := meets_zero hm
      have hsn : keepN z (pre ++ [x]) = keepN z pre := by rw [keepN_snoc, if_pos hm]
      have HS := Lib.hid hsn
      clear hm hsn
      gi_wp2
      exact ⟨KeepsFrom.refl _ _, rfl, ⟨v, hv, by rw [HS.out]; exact hrow, trivial⟩, hbs, hB⟩
    | false =>
      have hz := meets_zero hm
      have hsn : keepN z (pre ++ [x]) = keepN z pre ++ [x] := by rw [keepN_snoc, hm]; rfl
      have HS := Lib.hid hsn
      clear hm hsn
      gi_wp2_with (gi_at_builtin; refine wpListIn_append_own _ rfl _ _ 49 rfl (w.heap.size + 1) 5 i0 (.int .u8 0) 1 1 Tryd.underlying49 hi hz0 hz1 hz2 rfl (by decide) _ _ _ rfl (hrow.alloc _) ⟨W.heap.size, 0, none⟩ 1 1 [.int .u8 (x.toNat : Int)] rfl rfl (cell_one_new _ _ _) (by simp [Value.oneCell']) (by unfold maxLen; omega) (by omega) (by simp; omega) ?_; intro v' w2 hown' hgrow' _; obtain ⟨g', cap', rfl⟩ := ownsRow_succ hown'; obtain ⟨hv1, hv2, hr2, hk2, hb2⟩ := hv.appended (by decide) hrow (by omega) (Nat.le_refl _) hown' hgrow'; have hc1 := hv1.cell; have hf1 := hv1.frozen)
      have hbs2 := boxed_appended_other (B := w.heap.size + 1) (v' := .slice (some ⟨g', 0, none⟩) ((keepN z pre).length + 1) cap') hbs (by decide) (by omega) hrow hgrow'
      exact ⟨hk2.from _, hbs2.trans hbs.symm, ⟨_, hv2, by rw [HS.out, List.length_append, List.map_append]; exact hr2, trivial⟩, hbs2, hB.trans hb2⟩
  case done =>
    rintro D ys W hD rfl ⟨⟨v, hv, hrow, _⟩, hbs, hB⟩ hK
    have hc := hv.cell
    have hst := run_string_own (P := Tryd.prog) hrow Tryd.underlying49 Tryd.underlying5 Tryd.underlying22
    rw [World.size_alloc] at hD
    gi_wp2
    refine ⟨by simp, .inl ⟨_, _, rfl, run_takeDeferred hK, ?_⟩⟩
    exact ⟨_, results_tmp rfl _ _ _, by rw [← HF.out]; rfl, (hA.trans (hB.mono (by omega))).trans (belowK_b (w := w) (Nat.le_refl _) W D _ _ (by omega) hK rfl rfl)⟩
  case stop =>
    rintro D c pre W _ _ h _
    exact h.elim
theorem fix_any (s : ByteArray) (hs : s.size ≤ 1000000) (x : Int) (z : UInt8) (hx : x = z.toNat) (w : World) :
    Calls Tryd.prog 36 #[.string s, .int .u8 x] w fun e w' => e = .returned (.string (str (Lz.fix s.data.toList z))) ∧ Below w.heap.size w w' := by
  subst hx
  exact callsIn_wide.1 (fix_in s hs z w)
end Go.Proofs.YtiafecmnchlgdaaDoor
