/- The contracts of cnf.Norm, Right, And. Condition: the formulas' lengths. -/
import Derived.Test.YtiagoiannccdmaaDoorEach
namespace Go.Proofs.YtiagoiannccdmaaDoor
open Go.RowKit Go.Shelf

attribute [local go_sem] Oper.semAt_some

/-- The clauses as the model's and of 63. -/
theorem and63 (x : UInt8) : bits .and .u8 (x.toNat : Int) 63 = ((Lz.clip x).toNat : Int) := by
  have h := bits_and_u8 x 63
  rw [show ((63 : UInt8).toNat : Int) = 63 from rfl] at h
  exact h
theorem norm_length (l : List UInt8) : (Lz.norm l).length ≤ 256 := leastTo_length _ 256

set_option maxRecDepth 100000 in
set_option maxHeartbeats 2000000 in
theorem norm_in (s : ByteArray) (hs : s.size ≤ 1000000) (w : World) :
    CallsIn Fence.wide 6 Tryd.prog 38 #[.string s] w fun e w' => e = .returned (.string (str (Lz.norm s.data.toList))) ∧ Below w.heap.size w w' := by
  obtain ⟨i0, hi, hz0, hz1, hz2⟩ := info_parts info_u8
  refine callsIn_of_wp_marks Tryd.func38 rfl trivial ?_ rfl
  simp only [Tryd.ntmps38, List.size_toArray, List.length_cons, List.length_nil, Nat.reduceAdd, Nat.reduceSub, Array.replicate_succ, Array.replicate_zero, List.push_toArray, List.append_toArray, List.nil_append, List.cons_append]
  gi_wp2_with (gi_at_make; refine wpListIn_make_own _ rfl _ _ 77 rfl w.heap.size 5 i0 (.int .u8 0) 1 Tryd.underlying77 hi hz0 hz1 .i64 .i64 _ s.size rfl rfl rfl (by rw [hz2]; omega) (by unfold maxLen; omega) (Nat.le_refl _) ?_; intro w1 hown hgrow)
  have hsz := hgrow.size
  gi_wp2_with (refine ⟨trivial, ?_⟩; gi_at_call 58; refine (each_in Fence.wide _ trivial rfl _ _).mono ?_; rintro e w' ⟨rfl, rfl⟩)
  have bC := Boxed.new w1 77 (.slice (some ⟨w.heap.size, 0, none⟩) 0 s.size)
  have bS := Boxed.new (w1.alloc (.cells #[.slice (some ⟨w.heap.size, 0, none⟩) 0 s.size] 77)) 22 (.string s)
  rw [World.size_alloc] at bS
  have hB0 : Below w.heap.size w ((w1.alloc (.cells #[.slice (some ⟨w.heap.size, 0, none⟩) 0 s.size] 77)).alloc (.cells #[.string s] 22)) :=
    (((Below.refl _ w).grown hgrow (Nat.le_refl _) (fun k e => by cases e)).alloc hsz _).alloc (by simp; omega) _
  refine wpIn_rangeFunc_ownG rfl (by omega) (gf := 75) (lb := #[.pointer (some ⟨w1.heap.size + 1, 0, none⟩)]) rfl trivial (enters_of Tryd.func75 (by kernel_rfl) rfl)
    (each_stops Fence.wide (6 - 1) trivial rfl (by omega) (w1.heap.size + 1) s hs _ (by simp) bS.cell) (fun h k => k.trans h) (keepsAt_b (by simp)) (Below.refl _ _) (fun _ => rfl)
    (fun (pre : List UInt8) W => (∃ v, Boxed W w1.heap.size 77 v ∧ W.ownsRow w.heap.size 5 1 v pre.length ((pre.map Lz.clip).map bval) ∧ True) ∧ Boxed W (w1.heap.size + 1) 22 (.string s) ∧ Below w.heap.size w W)
    (fun _ _ _ => False)
    (OwnFrom.and (Own.from (holdsRow_own w.heap.size w1.heap.size 77 5 1 (fun pre : List UInt8 => pre.length) (fun pre => (pre.map Lz.clip).map bval) (fun _ _ => True)) _) (OwnFrom.and (Own.from (boxed_one_own _ _ _) _) (ownFrom_below (Nat.le_refl _) (by simp; omega))))
    (fun _ _ _ _ _ hs _ _ => hs)
    ⟨⟨_, bC.alloc _, (hown.alloc _).alloc _, trivial⟩, bS, hB0⟩
    (fun x => { tmps := #[.string s, undef, .string { data := #[] }, .pointer (some ⟨w1.heap.size, 0, none⟩), .int .u8 (x.toNat : Int), .string s, .int .i64 s.size, .slice (some ⟨w.heap.size, 0, none⟩) 0 s.size, .string s, .func (.func 75) #[] #[.pointer (some ⟨w1.heap.size + 1, 0, none⟩)], .int .u8 (x.toNat : Int), undef, undef, undef, undef, undef, undef, undef, undef], defers := [] }) ?assign ?body ?done ?stop
  case assign =>
    intro l x W K hK
    gi_wp2
    exact hK
  case body =>
    rintro l pre x W ⟨⟨v, hv, hrow, _⟩, hbs, hB⟩ hlt
    have hc := hv.cell
    have h63 := and63 x
    have hsB := hB.size
    gi_wp2_with (gi_at_builtin; refine wpListIn_append_own _ rfl _ _ 77 rfl w.heap.size 5 i0 (.int .u8 0) 1 1 Tryd.underlying77 hi hz0 hz1 hz2 rfl (by decide) _ _ _ rfl (hrow.alloc _) ⟨W.heap.size, 0, none⟩ 1 1 [.int .u8 ((Lz.clip x).toNat : Int)] rfl rfl (cell_one_new _ _ _) (by simp [Value.oneCell']) (by unfold maxLen; omega) (by omega) (by simp; omega) ?_; intro v' w2 hown' hgrow' _; obtain ⟨g', cap', rfl⟩ := ownsRow_succ hown'; obtain ⟨hv1, hv2, hr2, hk2, hb2⟩ := hv.appended (by decide) hrow hsB hsz hown' hgrow'; have hc1 := hv1.cell; have hf1 := hv1.frozen)
    have hbs2 := boxed_appended_other (B := w1.heap.size) (v' := .slice (some ⟨g', 0, none⟩) (pre.length + 1) cap') hbs (by decide) (by omega) hrow hgrow'
    exact ⟨hk2.from _, hbs2.trans hbs.symm, ⟨_, hv2, by rw [List.length_append, List.map_append, List.map_append]; exact hr2, trivial⟩, hbs2, hB.trans hb2⟩
  case done =>
    rintro D ys W hD rfl ⟨⟨v, hv, hrow, _⟩, hbs, hB⟩ hK
    have hc := hv.cell
    have hst := run_string_own (P := Tryd.prog) hrow Tryd.underlying77 Tryd.underlying5 Tryd.underlying9
    have hl : s.data.toList.length = s.size := by simp
    have HL := Lib.hid hl
    clear hl
    gi_wp2_with (refine ⟨trivial, ?_⟩; gi_at_call 59; refine (toIn (least_any _ _ (by rw [str_size, List.length_map, HL.out]; unfold maxLen; omega))).mono ?_; rintro e w3 ⟨rfl, hb3⟩)
    rw [World.size_alloc, World.size_alloc] at hD
    have hDl := (Array.getElem?_eq_some_iff.1 hK).1
    refine ⟨by simp, .inl ⟨_, _, rfl, run_takeDeferred ((hb3.block D hDl).trans hK), ?_⟩⟩
    exact ⟨_, results_tmp rfl _ _ _, by rw [lst_str]; rfl, (hB.trans (hb3.mono hB.size)).trans (belowK_b (w := w) (Nat.le_refl _) _ D _ _ (by omega) ((hb3.block D hDl).trans hK) rfl rfl)⟩
  case stop =>
    rintro D c pre W _ _ h _
    exact h.elim
theorem norm_any (s : ByteArray) (hs : s.size ≤ 1000000) (w : World) :
    Calls Tryd.prog 38 #[.string s] w fun e w' => e = .returned (.string (str (Lz.norm s.data.toList))) ∧ Below w.heap.size w w' := callsIn_wide.1 (norm_in s hs w)
end Go.Proofs.YtiagoiannccdmaaDoor
