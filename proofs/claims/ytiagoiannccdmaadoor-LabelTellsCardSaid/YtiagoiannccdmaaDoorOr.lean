/- The contract of cnf.Or. Condition: the formulas' lengths. -/
import Derived.Test.YtiagoiannccdmaaDoorHolds
import Derived.Deep.DeepMust
import Derived.IntWalk
namespace Go.Proofs.YtiagoiannccdmaaDoor
open Go.RowKit Go.Shelf

attribute [local go_sem] Oper.semAt_some str_size

theorem row_own {β : Type} (n₀ B : Nat) (t e : TypeId) (f : β → Value) (k : β → Nat) (xs : β → List Value) : Own (fun s W => Boxed W B t (f s) ∧ W.ownsRow n₀ e 1 (f s) (k s) (xs s)) := by
  rintro s X Y row ⟨h1, h2⟩ hg hrow
  refine ⟨(grownBy_keeps_cells hg hrow h1 rfl).trans h1, h2.kept hg ?_⟩
  rcases h2.2 with ⟨hv, _⟩ | ⟨g, cap, cur, hv, _, hgb, _⟩
  · rw [hv]; exact .inl rfl
  · rw [hv]
    refine .inr fun e' => ?_
    obtain ⟨o, ho, hc⟩ := hrow g (by simpa [Value.ownBlock] using e'.symm)
    rw [hgb] at ho; cases ho; cases hc
theorem unions_snoc (l m : List UInt8) (c : UInt8) : Lz.unions (l ++ [c]) m = Lz.unions l m ++ m.map fun d => c ||| d := by simp [Lz.unions]
theorem unions_length (l m : List UInt8) : (Lz.unions l m).length = l.length * m.length := by
  induction l with
  | nil => simp [Lz.unions]
  | cons c l ih =>
    have : Lz.unions (c :: l) m = (m.map fun d => c ||| d) ++ Lz.unions l m := by simp [Lz.unions]
    rw [this, List.length_append, List.length_map, ih, List.length_cons, Nat.succ_mul]; omega
theorem room_left {i j n m : Nat} (h1 : i < n) (h2 : j < m) : i * m + j + 1 ≤ n * m := by
  have : (i + 1) * m ≤ n * m := Nat.mul_le_mul_right _ h1
  rw [Nat.succ_mul] at this
  omega
theorem wrap_mul (x y : Nat) (hx : x ≤ 256) (hy : y ≤ 256) : wrap64 ((x : Int) * (y : Int)) = ((x * y : Nat) : Int) := by
  have h1 : x * y ≤ 256 * 256 := Nat.mul_le_mul hx hy
  have h2 : ((x * y : Nat) : Int) = (x : Int) * (y : Int) := Int.natCast_mul x y
  rw [← h2]
  generalize x * y = q at h1 ⊢
  unfold wrap64; omega
theorem or_eq (a b : List UInt8) : Lz.norm (Lz.unions (Lz.norm a) (Lz.norm b)) = Lz.or a b := rfl
theorem mixedOrders : Tryd.prog.follows .mixedOrders = true := by kernel_rfl
set_option maxRecDepth 100000 in
set_option maxHeartbeats 4000000 in
theorem or_in (a b : ByteArray) (ha : a.size ≤ 1000000) (hb : b.size ≤ 1000000) (w : World) :
    CallsIn Fence.wide 9 Tryd.prog 42 #[.string a, .string b] w fun e w' => e = .returned (.string (str (Lz.or a.data.toList b.data.toList))) ∧ Below w.heap.size w w' := by
  obtain ⟨i0, hi, hz0, hz1, hz2⟩ := info_parts info_u8
  have mixed := mixedOrders
  have bB := Boxed.new w 22 (.string b)
  have hcb := bB.cell
  refine callsIn_of_wp_marks Tryd.func42 rfl trivial ?_ rfl
  simp only [Tryd.ntmps42, List.size_toArray, List.length_cons, List.length_nil, Nat.reduceAdd, Nat.reduceSub, Array.replicate_succ, Array.replicate_zero, List.push_toArray, List.append_toArray, List.nil_append, List.cons_append]
  gi_wp2
  have bB : Boxed (w.alloc (.cells #[.string b] 22)).drew w.heap.size 22 (.string b) := bB
  have hsz : w.heap.size < (w.alloc (.cells #[.string b] 22)).drew.heap.size := by simp
  have hBw : Below w.heap.size w (w.alloc (.cells #[.string b] 22)).drew := ((Below.refl _ w).alloc (Nat.le_refl _) _).drew
  refine wpIn_mono (Q := fun | .normal, a', w' => (Boxed w' w.heap.size 22 (.string (str (Lz.norm b.data.toList))) ∧ Below w.heap.size w w' ∧ w.heap.size < w'.heap.size) ∧ a' = { tmps := #[.string (str (Lz.norm a.data.toList)), .string b, undef, .pointer (some ⟨w.heap.size, 0, none⟩), .string { data := #[] }, undef, undef, undef, .string a, .string (str (Lz.norm a.data.toList)), .string b, .string (str (Lz.norm b.data.toList)), undef, undef, undef, undef, undef, undef, undef, undef, undef, undef, undef, undef, undef, undef, undef, undef, undef, undef, undef, undef, undef], defers := [] } | _, _, _ => False) ?first ?rest
  case first =>
    gi_region_with_o (refine ⟨trivial, ?_⟩; gi_at_call 38; refine (toIn (norm_any _ (by assumption) _)).mono ?_; rintro e w1 ⟨rfl, hb1⟩; have bB := boxed_below bB hb1 hsz; have hsz := Nat.lt_of_lt_of_le hsz hb1.size; have hBw := hBw.trans (hb1.mono hBw.size); have hcb := bB.cell; have hfb := bB.frozen)
    all_goals refine ⟨⟨bB.set _, hBw.setCell (p := ⟨w.heap.size, 0, none⟩) (Nat.le_refl _) _, ?_⟩, rfl⟩
    all_goals simpa [World.setCell] using hsz
  case rest =>
    rintro ex a' w1 hq
    cases ex with
    | normal =>
      obtain ⟨⟨bN, hB1, hs1⟩, rfl⟩ := hq
      have la := norm_length a.data.toList
      have lb := norm_length b.data.toList
      have HOR := Lib.hid (or_eq a.data.toList b.data.toList)
      generalize Lz.norm a.data.toList = na at la HOR ⊢
      generalize Lz.norm b.data.toList = nb at lb bN HOR ⊢
      have hcn := bN.cell
      have hcap := wrap_mul na.length nb.length la lb
      have hcapl : na.length * nb.length ≤ 256 * 256 := Nat.mul_le_mul la lb
      have HCAP := Lib.hid hcap
      clear hcap
      obtain ⟨C, hC⟩ : ∃ C, C = na.length * nb.length := ⟨_, rfl⟩
      rw [← hC] at HCAP hcapl
      have HC := Lib.hid hC
      clear hC
      clear hcb mixed bB hsz hBw
      gi_wp2_with (gi_at_make; refine wpListIn_make_own _ rfl _ _ 77 rfl w1.heap.size 5 i0 (.int .u8 0) 1 Tryd.underlying77 hi hz0 hz1 .i64 .i64 _ C rfl rfl HCAP.out (by rw [hz2]; omega) (by unfold maxLen; omega) (Nat.le_refl _) ?_; intro w2 hown hgrow)
      have hsz2 := hgrow.size
      have bN2 := bN.kept hgrow (by simp)
      have hB2 : Below w.heap.size w w2 := hB1.grown hgrow (Nat.le_of_lt hs1) (fun k e => by cases e)
      gi_wp2_with (refine ⟨trivial, ?_⟩; gi_at_call 58; refine (each_in Fence.wide _ trivial rfl _ _).mono ?_; rintro e w' ⟨rfl, rfl⟩)
      have bU := (Boxed.new w2 77 (.slice (some ⟨w1.heap.size, 0, none⟩) 0 C)).alloc (.cells #[.string (str na)] 22)
      have bA := Boxed.new (w2.alloc (.cells #[.slice (some ⟨w1.heap.size, 0, none⟩) 0 C] 77)) 22 (.string (str na))
      have bN3 := (bN2.alloc (.cells #[.slice (some ⟨w1.heap.size, 0, none⟩) 0 C] 77)).alloc (.cells #[.string (str na)] 22)
      have hown3 := (hown.alloc (.cells #[.slice (some ⟨w1.heap.size, 0, none⟩) 0 C] 77)).alloc (.cells #[.string (str na)] 22)
      have hlt3 := (hown.lt w1.heap.size rfl).2
      have hB3 := (hB2.alloc hB2.size (.cells #[.slice (some ⟨w1.heap.size, 0, none⟩) 0 C] 77)).alloc (by have := hB2.size; simp; omega) (.cells #[.string (str na)] 22)
      simp only [World.size_alloc] at bA
      have hsz3 : ((w2.alloc (.cells #[.slice (some ⟨w1.heap.size, 0, none⟩) 0 C] 77)).alloc (.cells #[.string (str na)] 22)).heap.size = w2.heap.size + 2 := by simp
      obtain ⟨W0, hW0⟩ : ∃ W0, (w2.alloc (.cells #[.slice (some ⟨w1.heap.size, 0, none⟩) 0 C] 77)).alloc (.cells #[.string (str na)] 22) = W0 := ⟨_, rfl⟩
      rw [hW0] at bU bA bN3 hown3 hB3 hsz3 ⊢
      have hs3a : w2.heap.size + 2 ≤ W0.heap.size := by omega
      clear hW0 hown bN2 bN hcn hsz3
      refine wpIn_rangeFunc_ownH rfl (by omega) (gf := 75) (lb := #[.pointer (some ⟨w2.heap.size + 1, 0, none⟩)]) rfl trivial (enters_of Tryd.func75 (by kernel_rfl) rfl)
        (each_stops Fence.wide (9 - 1) trivial rfl (by omega) (w2.heap.size + 1) (str na) (by rw [str_size]; omega) W0 (by omega) bA.cell) (fun h k => k.trans h) (keepsAt_b (by omega)) (Below.refl _ _) (fun _ => rfl)
        (fun (pre : List UInt8) W => (Boxed W w2.heap.size 77 (.slice (some ⟨w1.heap.size, 0, none⟩) (Lz.unions pre nb).length C) ∧ W.ownsRow w1.heap.size 5 1 (.slice (some ⟨w1.heap.size, 0, none⟩) (Lz.unions pre nb).length C) (Lz.unions pre nb).length ((Lz.unions pre nb).map bval)) ∧ ((Boxed W (w2.heap.size + 1) 22 (.string (str na)) ∧ Boxed W w.heap.size 22 (.string (str nb))) ∧ Below w.heap.size w W))
        (fun _ _ _ => False)
        (OwnFrom.and (Own.from (row_own _ _ _ _ (fun pre : List UInt8 => .slice (some ⟨w1.heap.size, 0, none⟩) (Lz.unions pre nb).length C) (fun pre => (Lz.unions pre nb).length) (fun pre => (Lz.unions pre nb).map bval)) _) (OwnFrom.and (Own.from (boxes_own _ _ _ _ (fun _ => .string (str na)) (fun _ => .string (str nb))) _) (ownFrom_below (Nat.le_refl _) (by omega))))
        (fun _ _ _ _ _ hs _ _ => hs)
        ⟨⟨bU, hown3⟩, ⟨bA, bN3⟩, hB3⟩
        (fun x a' W => ∃ Bx, w2.heap.size + 1 < Bx ∧ Boxed W Bx 5 (.int .u8 (x.toNat : Int)) ∧ a' = { tmps := #[.string (str na), .string b, undef, .pointer (some ⟨w.heap.size, 0, none⟩), .string { data := #[] }, .pointer (some ⟨w2.heap.size, 0, none⟩), .pointer (some ⟨Bx, 0, none⟩), undef, .string a, .string (str na), .string b, .string (str nb), .string (str na), .int .i64 na.length, .string (str nb), .int .i64 nb.length, .int .i64 (wrap64 ((na.length : Int) * (nb.length : Int))), .slice (some ⟨w1.heap.size, 0, none⟩) 0 C, .string (str na), .func (.func 75) #[] #[.pointer (some ⟨w2.heap.size + 1, 0, none⟩)], .int .u8 (x.toNat : Int), undef, undef, undef, undef, undef, undef, undef, undef, undef, undef, undef, undef], defers := [] })
        (fun x a' _ X Y row hs hg hr => by obtain ⟨Bx, h1, h2, h3⟩ := hs; exact ⟨Bx, h1, boxed_one_own Bx 5 (.int .u8 (x.toNat : Int)) () X Y row h2 hg (fun r e => (hr r e).2), h3⟩)
        ?assign ?body ?done ?stop
      case assign =>
        rintro l pre x W K ⟨⟨bU1, ho1⟩, ⟨bA1, bN1⟩, hBW⟩ hK
        gi_wp2
        have hsW := hBW.size
        exact hK _ _ ((KeepsOthers.alloc _ _).from _) (Below.heap_alloc W _ _ bA1.lt) ⟨⟨bU1.alloc _, ho1.alloc _⟩, ⟨bA1.alloc _, bN1.alloc _⟩, hBW.alloc hsW _⟩ ⟨W.heap.size, bA1.lt, Boxed.new W 5 _, rfl⟩
      case body =>
        rintro l pre x a' W hl ⟨r, hr⟩ ⟨⟨bU1, ho1⟩, ⟨bA1, bN1⟩, hBW⟩ ⟨Bx, hBx, bX, rfl⟩ hlt
        have cN := bN1.cell
        gi_wp2_with (refine ⟨trivial, ?_⟩; gi_at_call 58; refine (CallsIn.inRound l (each_in Fence.wide _ trivial rfl _ _)).mono ?_; rintro e w' ⟨rfl, rfl⟩)
        have hsW := hBW.size
        have bM := Boxed.new W 22 (.string (str nb))
        have hr' : (W.alloc (.cells #[.string (str nb)] 22)).heap[l]? = some (.loop r) := (Below.heap_alloc W _ l (Array.getElem?_eq_some_iff.1 hr).1).trans hr
        have hXlt := bX.lt
        have hAlt := bA1.lt
        refine wpIn_rangeFunc_ownN (l₀ := l) (r₀ := r) rfl hr' (by omega) (gf := 75) (lb := #[.pointer (some ⟨W.heap.size, 0, none⟩)]) rfl trivial (enters_of Tryd.func75 (by kernel_rfl) rfl)
          ((each_stops Fence.wide (9 - 1 - 1 - 1) trivial rfl (by omega) W.heap.size (str nb) (by rw [str_size]; omega) _ (by simp) bM.cell).inRound l) (fun h k => k.trans h) (keepsAt_b (by simp)) (Below.refl _ _) (fun _ => rfl)
          (fun (pre' : List UInt8) W' => (Boxed W' w2.heap.size 77 (.slice (some ⟨w1.heap.size, 0, none⟩) (Lz.unions pre nb ++ pre'.map (x ||| ·)).length C) ∧ W'.ownsRow w1.heap.size 5 1 (.slice (some ⟨w1.heap.size, 0, none⟩) (Lz.unions pre nb ++ pre'.map (x ||| ·)).length C) (Lz.unions pre nb ++ pre'.map (x ||| ·)).length ((Lz.unions pre nb ++ pre'.map (x ||| ·)).map bval)) ∧ ((Boxed W' (w2.heap.size + 1) 22 (.string (str na)) ∧ Boxed W' w.heap.size 22 (.string (str nb))) ∧ ((Boxed W' Bx 5 (.int .u8 (x.toNat : Int)) ∧ Boxed W' W.heap.size 22 (.string (str nb))) ∧ (Below w.heap.size W W' ∧ KeepsFrom W0.heap.size W W'))))
          (fun _ _ _ => False)
          (OwnFrom.and (Own.from (row_own _ _ _ _ (fun pre' : List UInt8 => .slice (some ⟨w1.heap.size, 0, none⟩) (Lz.unions pre nb ++ pre'.map (x ||| ·)).length C) (fun pre' => (Lz.unions pre nb ++ pre'.map (x ||| ·)).length) (fun pre' => (Lz.unions pre nb ++ pre'.map (x ||| ·)).map bval)) _) (OwnFrom.and (Own.from (boxes_own _ _ _ _ (fun _ => .string (str na)) (fun _ => .string (str nb))) _) (OwnFrom.and (Own.from (boxes_own _ _ _ _ (fun _ => .int .u8 (x.toNat : Int)) (fun _ => .string (str nb))) _) (OwnFrom.and (ownFrom_below hsW (by simp; omega)) (ownFrom_keepsFrom (by simp))))))
          (fun _ _ _ _ _ hs _ _ => hs)
          ⟨⟨by rw [List.map_nil, List.append_nil]; exact bU1.alloc _, by rw [List.map_nil, List.append_nil]; exact ho1.alloc _⟩, ⟨bA1.alloc _, bN1.alloc _⟩, ⟨bX.alloc _, bM⟩, (Below.refl _ W).alloc hsW _, (KeepsOthers.alloc _ _).from _⟩
          (fun y a'' _ => a'' = { tmps := #[.string (str na), .string b, undef, .pointer (some ⟨w.heap.size, 0, none⟩), .string { data := #[] }, .pointer (some ⟨w2.heap.size, 0, none⟩), .pointer (some ⟨Bx, 0, none⟩), .int .u8 (y.toNat : Int), .string a, .string (str na), .string b, .string (str nb), .string (str na), .int .i64 na.length, .string (str nb), .int .i64 nb.length, .int .i64 (wrap64 ((na.length : Int) * (nb.length : Int))), .slice (some ⟨w1.heap.size, 0, none⟩) 0 C, .string (str na), .func (.func 75) #[] #[.pointer (some ⟨w2.heap.size + 1, 0, none⟩)], .int .u8 (x.toNat : Int), .string (str nb), .func (.func 75) #[] #[.pointer (some ⟨W.heap.size, 0, none⟩)], .int .u8 (y.toNat : Int), undef, undef, undef, undef, undef, undef, undef, undef, undef], defers := [] })
          (fun _ _ _ _ _ _ hs _ _ => hs)
          ?assign2 ?body2 ?done2 ?stop2
        case assign2 =>
          rintro l2 pre' y W' K hi' hK
          gi_wp2
          exact hK _ _ (KeepsFrom.refl _ _) rfl hi' rfl
        case body2 =>
          rintro l2 pre' y a'' W' _ _ ⟨⟨bU2, ho2⟩, ⟨bA2, bN2⟩, ⟨bX2, bM2⟩, hBW2, hKF⟩ rfl hlt2
          have cU := bU2.cell
          have cX := bX2.cell
          rw [str_size] at hlt hlt2
          have hroom := room_left hlt hlt2
          have hul := unions_length pre nb
          have hor := bits_or_u8 x y
          have hLl : (Lz.unions pre nb ++ pre'.map (x ||| ·)).length + 1 ≤ C := by rw [List.length_append, List.length_map, hul, HC.out]; exact hroom
          have hsn : Lz.unions pre nb ++ (pre' ++ [y]).map (x ||| ·) = (Lz.unions pre nb ++ pre'.map (x ||| ·)) ++ [x ||| y] := by rw [List.map_append, List.append_assoc]; rfl
          have HSN := Lib.hid hsn
          clear hsn hroom hul
          generalize Lz.unions pre nb ++ pre'.map (x ||| ·) = L at bU2 ho2 cU hLl HSN ⊢
          have hglt := (ho2.lt w1.heap.size rfl).2
          have hsW' := hBW2.size
          gi_wp2_with (gi_at_builtin; refine wpListIn_append_fits _ rfl _ _ 77 rfl w1.heap.size 5 i0 1 Tryd.underlying77 hi hz1 w1.heap.size L.length C (L.map bval) rfl (ho2.alloc _) ⟨W'.heap.size, 0, none⟩ 1 1 [.int .u8 ((x ||| y).toNat : Int)] rfl rfl (cell_one_new _ _ _) (by simp [Value.oneCell']) hLl ?_; intro w5 hown5 hgrow5; have bU5 := (bU2.alloc (.cells #[.int .u8 ((x ||| y).toNat : Int)] 5)).kept hgrow5 (by simp; omega); have cU5 := bU5.cell; have fU5 := bU5.frozen)
          have hk5 : KeepsOthers W' w5 := own_not_cells ho2 hgrow5
          have hb5 : Below w.heap.size W' w5 := ((Below.refl _ W').alloc (by have := hBW2.size; omega) _).grown hgrow5 (by simp; omega) (fun k e => by cases e; omega)
          have ho6 : (w5.setCell ⟨w2.heap.size, 0, none⟩ (.slice (some ⟨w1.heap.size, 0, none⟩) (L.length + 1) C)).ownsRow w1.heap.size 5 1 (.slice (some ⟨w1.heap.size, 0, none⟩) (L.length + 1) C) (L.length + 1) (L.map bval ++ [.int .u8 ((x ||| y).toNat : Int)]) := ownsRow_setCell_other hown5 (a := ⟨w2.heap.size, 0, none⟩) (by simp [Value.ownBlock]; omega) _
          refine ⟨(hk5.trans (KeepsOthers.setCell _ _ _)).from _, (boxed_kept_both bM2 hgrow5 (by omega) (by omega)).trans bM2.symm, ⟨?_, ?_⟩, ⟨boxed_kept_both bA2 hgrow5 (by omega) (by omega), boxed_kept_both bN2 hgrow5 (by omega) (by omega)⟩, ⟨boxed_kept_both bX2 hgrow5 (by omega) (by omega), boxed_kept_both bM2 hgrow5 (by omega) (by omega)⟩, (hBW2.trans hb5).setCell (p := ⟨w2.heap.size, 0, none⟩) (show w.heap.size ≤ w2.heap.size by omega) _, hKF.trans ((hk5.trans (KeepsOthers.setCell _ _ _)).from _)⟩
          · rw [HSN.out, List.length_append]; exact bU5.set _
          · rw [HSN.out, List.length_append, List.map_append]; exact ho6
        case done2 =>
          rintro ys' W' rfl ⟨⟨bU2, ho2⟩, ⟨bA2, bN2⟩, ⟨bX2, bM2⟩, hBW2, hKF⟩
          gi_wp2
          exact ⟨hKF, bA2.trans bA1.symm, ⟨⟨by rw [unions_snoc]; exact bU2, by rw [unions_snoc]; exact ho2⟩, ⟨bA2, bN2⟩, hBW.trans hBW2⟩⟩
        case stop2 =>
          rintro c pre' W' _ h
          exact h.elim
      case done =>
        rintro D ys W hD rfl ⟨⟨bU1, ho1⟩, ⟨bA1, bN1⟩, hBW⟩ hK
        have cU := bU1.cell
        have hst := run_string_own (P := Tryd.prog) ho1 Tryd.underlying77 Tryd.underlying5 Tryd.underlying22
        have hul := unions_length ys nb
        have HUL := Lib.hid hul
        clear hul
        gi_wp2_with (refine ⟨trivial, ?_⟩; gi_at_call 38; refine (toIn (norm_any _ (by rw [str_size, HUL.out, ← HC.out]; omega) _)).mono ?_; rintro e w3 ⟨rfl, hb3⟩)
        have hDl := (Array.getElem?_eq_some_iff.1 hK).1
        refine ⟨by simp, .inl ⟨_, _, rfl, run_takeDeferred ((hb3.block D hDl).trans hK), ?_⟩⟩
        refine ⟨_, results_tmp rfl _ _ _, ?_, (hBW.trans (hb3.mono hBW.size)).trans (belowK_b (w := w) (Nat.le_refl _) _ D _ _ (by have := hB3.size; omega) ((hb3.block D hDl).trans hK) rfl rfl)⟩
        rw [lst_str, HOR.out]; rfl
      case stop =>
        rintro D c pre W _ _ h _
        exact h.elim
    | _ => exact hq.elim
theorem or_any (a b : ByteArray) (ha : a.size ≤ 1000000) (hb : b.size ≤ 1000000) (w : World) :
    Calls Tryd.prog 42 #[.string a, .string b] w fun e w' => e = .returned (.string (str (Lz.or a.data.toList b.data.toList))) ∧ Below w.heap.size w w' := callsIn_wide.1 (or_in a b ha hb w)
end Go.Proofs.YtiagoiannccdmaaDoor
