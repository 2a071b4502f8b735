/- The contract of cnf.Parse. Conditions: the text's length; the table of letters holds its text. -/
import Derived.Test.YtiagoiannccdmaaDoorCnfText
import Derived.Test.YtiagoiannccdmaaDoorSplit
namespace Go.Proofs.YtiagoiannccdmaaDoor
open Go.RowKit Go.Shelf

attribute [local go_sem] Oper.semAt_some str_size str_list

/-- The clauses of words, none if one of them is no clause or one is too many. -/
def colStep (o : Option (List UInt8)) (x : List UInt8) : Option (List UInt8) :=
  match o with
  | none => none
  | some acc => if (parseP x).2 = true ∧ (parseP x).1 ≠ 0 ∧ acc.length ≠ 64 then some (acc ++ [(parseP x).1]) else none
def col (l : List (List UInt8)) : Option (List UInt8) := l.foldl colStep (some [])
theorem col_snoc (l : List (List UInt8)) (x : List UInt8) : col (l ++ [x]) = colStep (col l) x := by simp [col]
theorem col_more (l : List (List UInt8)) (h : col l = none) : ∀ r, col (l ++ r) = none := by
  intro r
  induction r generalizing l with
  | nil => simpa using h
  | cons x r ih =>
    have := ih (l ++ [x]) (by rw [col_snoc, h]; rfl)
    simpa using this
theorem col_prefix {l m : List (List UInt8)} (h : l <+: m) (hl : col l = none) : col m = none := by
  obtain ⟨r, rfl⟩ := h
  exact col_more l hl r
theorem col_length : ∀ {l : List (List UInt8)} {acc : List UInt8}, col l = some acc → acc.length ≤ 64 := by
  have h : ∀ (l : List (List UInt8)) (o : Option (List UInt8)), (∀ a, o = some a → a.length ≤ 64) → ∀ a, l.foldl colStep o = some a → a.length ≤ 64 := by
    intro l
    induction l with
    | nil => intro o ho a ha; exact ho a ha
    | cons x l ih =>
      intro o ho a ha
      refine ih (colStep o x) (fun b hb => ?_) a ha
      cases o with
      | none => simp [colStep] at hb
      | some acc =>
        have h1 := ho acc rfl
        unfold colStep at hb
        split at hb
        · cases hb
        · rename_i heq
          cases heq
          split at hb
          · rename_i h2
            obtain rfl := Option.some.inj hb
            rw [List.length_append]; simp; have := h2.2.2; omega
          · cases hb
  intro l acc ha
  exact h l (some []) (fun a e => by cases e; simp) acc ha
def colL (l : List (List UInt8)) : List UInt8 := (col l).getD []
/-- What cnf.Parse tells. -/
def parseF (t : List UInt8) : List UInt8 × Bool :=
  if t = [84] then ([], true) else if t = [70] then ([0], true) else
    match col (Lz.pieces 38 t) with
    | none => ([], false)
    | some f => if Lz.norm f = f then (f, true) else ([], false)
theorem parseF_none {t : List UInt8} (h1 : (t == [84]) = false) (h2 : (t == [70]) = false) (h : col (Lz.pieces 38 t) = none) : parseF t = ([], false) := by
  unfold parseF; rw [if_neg (by simpa using h1), if_neg (by simpa using h2), h]
theorem parseF_some {t f : List UInt8} (h1 : (t == [84]) = false) (h2 : (t == [70]) = false) (h : col (Lz.pieces 38 t) = some f) : parseF t = if Lz.norm f = f then (f, true) else ([], false) := by
  unfold parseF; rw [if_neg (by simpa using h1), if_neg (by simpa using h2), h]
theorem size_own {β : Type} (B m : Nat) : OwnFrom B (fun (_ : β) (W : World) => m ≤ W.heap.size) := fun _ _ _ _ h hg _ => Nat.le_trans h hg.size
theorem set_size (W : World) (a : Addr) (v : Value) : (W.setCell a v).heap.size = W.heap.size := by simp [World.setCell]

set_option maxRecDepth 100000 in
set_option maxHeartbeats 4000000 in
theorem cnfParse_in (t : List UInt8) (ht : t.length ≤ 1000000) (h1 : (t == [84]) = false) (h2 : (t == [70]) = false) (w : World) (hL : Letters w) :
    CallsIn Fence.wide 6 Tryd.prog 47 #[.string (str t)] w fun e w' => e = .returned (.tuple #[.string (str (parseF t).1), .bool (parseF t).2]) ∧ Below w.heap.size w w' := by
  obtain ⟨i0, hi, hz0, hz1, hz2⟩ := info_parts info_u8
  have HL := Lib.hid hL
  clear hL
  have HN := Lib.hid fun h => parseF_none h1 h2 h
  have HS := Lib.hid fun f h => parseF_some (f := f) h1 h2 h
  refine callsIn_of_wp_marks Tryd.func47 rfl trivial ?_ rfl
  simp only [Tryd.ntmps47, List.size_toArray, List.length_cons, List.length_nil, Nat.reduceAdd, Nat.reduceSub, Array.replicate_succ, Array.replicate_zero, List.push_toArray, List.append_toArray, List.nil_append, List.cons_append]
  gi_wp2_with (refine ⟨trivial, ?_⟩; gi_at_call 63; refine (toIn (splitSeq_any _ _)).mono ?_; rintro e w' ⟨rfl, rfl⟩)
  have r0 := Boxed.new w 22 (.string ⟨#[]⟩)
  have r1 := Boxed.new (w.alloc (.cells #[.string ⟨#[]⟩] 22)) 4 (.bool false)
  have bC := Boxed.new ((w.alloc (.cells #[.string ⟨#[]⟩] 22)).alloc (.cells #[.bool false] 4)) 77 (.slice none 0 0)
  have hB0 : Below w.heap.size w (((w.alloc (.cells #[.string ⟨#[]⟩] 22)).alloc (.cells #[.bool false] 4)).alloc (.cells #[.slice none 0 0] 77)) := (((Below.refl _ w).alloc (Nat.le_refl _) _).alloc (by simp) _).alloc (by simp; omega) _
  have hs0 : (((w.alloc (.cells #[.string ⟨#[]⟩] 22)).alloc (.cells #[.bool false] 4)).alloc (.cells #[.slice none 0 0] 77)).heap.size = w.heap.size + 3 := by simp
  rw [World.size_alloc] at r1
  rw [World.size_alloc, World.size_alloc] at bC
  replace r0 := (r0.alloc (.cells #[.bool false] 4)).alloc (.cells #[.slice none 0 0] 77)
  replace r1 := r1.alloc (.cells #[.slice none 0 0] 77)
  generalize (((w.alloc (.cells #[.string ⟨#[]⟩] 22)).alloc (.cells #[.bool false] 4)).alloc (.cells #[.slice none 0 0] 77)) = w0 at r0 r1 bC hB0 hs0 ⊢
  have s0 := Boxed.new w0 9 (.string (str t))
  have s1 := Boxed.new (w0.alloc (.cells #[.string (str t)] 9)) 9 (.string ⟨#[38]⟩)
  have s2 := Boxed.new ((w0.alloc (.cells #[.string (str t)] 9)).alloc (.cells #[.string ⟨#[38]⟩] 9)) 3 (.int .i64 0)
  have hB1 : Below w.heap.size w (((w0.alloc (.cells #[.string (str t)] 9)).alloc (.cells #[.string ⟨#[38]⟩] 9)).alloc (.cells #[.int .i64 0] 3)) := ((hB0.alloc (by omega) _).alloc (by simp; omega) _).alloc (by simp; omega) _
  have hs1 : (((w0.alloc (.cells #[.string (str t)] 9)).alloc (.cells #[.string ⟨#[38]⟩] 9)).alloc (.cells #[.int .i64 0] 3)).heap.size = w.heap.size + 6 := by simp; omega
  rw [World.size_alloc] at s1
  rw [World.size_alloc, World.size_alloc] at s2
  replace s0 := (s0.alloc (.cells #[.string ⟨#[38]⟩] 9)).alloc (.cells #[.int .i64 0] 3)
  replace s1 := s1.alloc (.cells #[.int .i64 0] 3)
  replace r0 := ((r0.alloc (.cells #[.string (str t)] 9)).alloc (.cells #[.string ⟨#[38]⟩] 9)).alloc (.cells #[.int .i64 0] 3)
  replace r1 := ((r1.alloc (.cells #[.string (str t)] 9)).alloc (.cells #[.string ⟨#[38]⟩] 9)).alloc (.cells #[.int .i64 0] 3)
  replace bC := ((bC.alloc (.cells #[.string (str t)] 9)).alloc (.cells #[.string ⟨#[38]⟩] 9)).alloc (.cells #[.int .i64 0] 3)
  generalize (((w0.alloc (.cells #[.string (str t)] 9)).alloc (.cells #[.string ⟨#[38]⟩] 9)).alloc (.cells #[.int .i64 0] 3)) = w1 at r0 r1 bC s0 s1 s2 hB1 hs1 ⊢
  rw [hs0] at s0 s1 s2
  refine rangeW rfl (by omega) (gf := 90) (lb := #[.pointer (some ⟨w.heap.size + 1 + 1 + 1 + 1, 0, none⟩), .pointer (some ⟨w.heap.size + 1 + 1 + 1, 0, none⟩), .pointer (some ⟨w.heap.size + 1 + 1 + 1 + 2, 0, none⟩)]) rfl trivial (enters_of Tryd.func90 (by kernel_rfl) rfl)
    (split_stops (6 - 1) (by omega) (w.heap.size + 3) t ht w1 (by omega) s0 s1 s2) (by omega) (fun h k => ⟨k.1.trans h.1, k.2.1.trans h.2.1, k.2.2.trans h.2.2⟩)
    (fun W l o o' hl h1 h2 h3 => ⟨keepsAt_b (by omega) W l o o' hl h1 h2 h3, keepsAt_b (by omega) W l o o' hl h1 h2 h3, keepsAt_b (by omega) W l o o' hl h1 h2 h3⟩) (fun _ => rfl)
    (fun pre W => (∃ v, Boxed W (w.heap.size + 2) 77 v ∧ W.ownsRow (w.heap.size + 6) 5 1 v (colL pre).length ((colL pre).map bval) ∧ True) ∧ (Boxed W w.heap.size 22 (.string ⟨#[]⟩) ∧ Boxed W (w.heap.size + 1) 4 (.bool false)) ∧ (col pre ≠ none) ∧ (Below w.heap.size w W) ∧ w.heap.size + 6 ≤ W.heap.size)
    (fun pre W => (Boxed W w.heap.size 22 (.string ⟨#[]⟩) ∧ Boxed W (w.heap.size + 1) 4 (.bool false)) ∧ (col pre = none) ∧ (Below w.heap.size w W))
    (OwnFrom.and (Own.from (holdsRow_own (w.heap.size + 6) (w.heap.size + 2) 77 5 1 (fun pre => (colL pre).length) (fun pre => (colL pre).map bval) (fun _ _ => True)) _) (OwnFrom.and (Own.from (boxes_own _ _ _ _ (fun _ => .string ⟨#[]⟩) (fun _ => .bool false)) _) (OwnFrom.and (ownFrom_pure _ _) (OwnFrom.and (ownFrom_below (Nat.le_refl _) (by omega)) (size_own _ _)))))
    (OwnFrom.and (Own.from (boxes_own _ _ _ _ (fun _ => .string ⟨#[]⟩) (fun _ => .bool false)) _) (OwnFrom.and (ownFrom_pure _ _) (ownFrom_below (Nat.le_refl _) (by omega))))
    (fun pre X v ⟨⟨u, hu, hrow, _⟩, ⟨h0, h1⟩, hc, hb, hz⟩ => ⟨⟨u, hu.other (by omega) _, ownsRow_setCell_below hrow (a := ⟨w.heap.size + 3, 0, none⟩) (by show w.heap.size + 3 < _; omega) _, trivial⟩, ⟨h0.other (by omega) _, h1.other (by omega) _⟩, hc, hb.setCell (p := ⟨w.heap.size + 3, 0, none⟩) (by show _ ≤ w.heap.size + 3; omega) _, by rw [set_size]; exact hz⟩)
    ⟨⟨_, bC, World.ownsRow_nil _ _ _ _, trivial⟩, ⟨r0, r1⟩, by simp [col], hB1, by omega⟩
    (fun x => { tmps := #[.string (str t), undef, .pointer (some ⟨w.heap.size, 0, none⟩), .pointer (some ⟨w.heap.size + 1, 0, none⟩), .pointer (some ⟨w.heap.size + 1 + 1, 0, none⟩), .string (str x), undef, undef, undef, .string (str t), .bool false, .bool false, .bool false, .bool false, .string (str t), .func (.func 90) #[] #[.pointer (some ⟨w.heap.size + 1 + 1 + 1 + 1, 0, none⟩), .pointer (some ⟨w.heap.size + 1 + 1 + 1, 0, none⟩), .pointer (some ⟨w.heap.size + 1 + 1 + 1 + 2, 0, none⟩)], .string (str x), undef, undef, undef, undef, undef, undef, undef, undef, undef, undef, undef, undef, undef, undef, undef, undef, undef, undef, undef, undef, undef, undef, undef, undef, undef, undef], defers := [] }) ?assign ?body ?done ?stop
  case assign =>
    intro l x W K hK
    gi_wp2
    exact hK
  case body =>
    rintro l pre x W ⟨⟨v, hv, hrow, _⟩, ⟨hr0, hr1⟩, hsome, hB, hsz⟩ hlt
    obtain ⟨acc, hacc⟩ : ∃ acc, col pre = some acc := by
      cases hc : col pre with
      | none => exact absurd hc hsome
      | some acc => exact ⟨acc, rfl⟩
    have hcl : colL pre = acc := by unfold colL; rw [hacc]; rfl
    have hal := col_length hacc
    rw [hcl] at hrow
    have hst : col (pre ++ [x]) = if (parseP x).2 = true ∧ (parseP x).1 ≠ 0 ∧ acc.length ≠ 64 then some (acc ++ [(parseP x).1]) else none := by rw [col_snoc, hacc]; rfl
    have HST := Lib.hid hst
    have HLW := Lib.hid (HL.out.behind hB)
    have HPP := Lib.hid (parse_any (str x) W HLW.out)
    rw [lst_str] at HPP
    clear hst hcl hacc hsome
    generalize parseP x = q at HST HPP
    obtain ⟨c, ok⟩ := q
    simp only at HST HPP
    obtain ⟨ao, cap, rfl⟩ : ∃ ao cap, v = .slice ao acc.length cap := by
      rcases Go.Joins.ownsRow_forms hrow with ⟨h1, h2⟩ | ⟨g, cap, h⟩
      · exact ⟨none, 0, by rw [h1, h2]⟩
      · exact ⟨_, _, h⟩
    gi_wp2_with fail
    refine ⟨trivial, (CallsIn.inRound l (toIn HPP.out)).mono ?_⟩
    rintro e W1 ⟨rfl, hb1⟩
    have hv := boxed_below hv hb1 hv.lt
    have hr0 := boxed_below hr0 hb1 hr0.lt
    have hr1 := boxed_below hr1 hb1 hr1.lt
    have hrow := row_below hrow hb1
    have hB1 := hB.trans (hb1.mono hB.size)
    have hsz1 := Nat.le_trans hsz hb1.size
    have hk1 := keeps_below hb1
    have e3 := hb1.block (w.heap.size + 3) (by omega)
    have e4 := hb1.block (w.heap.size + 3 + 1) (by omega)
    have e5 := hb1.block (w.heap.size + 3 + 2) (by omega)
    have E := Lib.hid (And.intro e3 (And.intro e4 e5))
    clear e3 e4 e5
    have q0 := hr0.cell
    have q1 := hr1.cell
    have qv := hv.cell
    have f0 := hr0.frozen
    have f1 := hr1.frozen
    cases ok with
    | false =>
      have hn : col (pre ++ [x]) = none := by rw [HST.out, if_neg (by simp)]
      have HN' := Lib.hid hn
      clear hn
      gi_wp2
      exact ⟨(hk1.trans ((KeepsOthers.setCell _ _ _).trans (KeepsOthers.setCell _ _ _))).from _, rfl, ⟨(hr0.set _).other (by omega) _, ((hr1.other (by omega) _).set _)⟩, HN'.out, (hB1.setCell (p := ⟨w.heap.size, 0, none⟩) (Nat.le_refl _) _).setCell (p := ⟨w.heap.size + 1, 0, none⟩) (Nat.le_succ _) _⟩
    | true =>
      by_cases hc0 : c = 0
      · have hn : col (pre ++ [x]) = none := by rw [HST.out, if_neg (by simp [hc0])]
        have HN' := Lib.hid hn
        have hz : ((c.toNat : Int) == 0) = true := by rw [toNat_zero_iff]; simpa using hc0
        clear hn hc0
        gi_wp2
        exact ⟨(hk1.trans ((KeepsOthers.setCell _ _ _).trans (KeepsOthers.setCell _ _ _))).from _, rfl, ⟨(hr0.set _).other (by omega) _, ((hr1.other (by omega) _).set _)⟩, HN'.out, (hB1.setCell (p := ⟨w.heap.size, 0, none⟩) (Nat.le_refl _) _).setCell (p := ⟨w.heap.size + 1, 0, none⟩) (Nat.le_succ _) _⟩
      · have hz : ((c.toNat : Int) == 0) = false := by rw [toNat_zero_iff]; simpa using hc0
        by_cases h64 : acc.length = 64
        · have hn : col (pre ++ [x]) = none := by rw [HST.out, if_neg (by simp [h64])]
          have HN' := Lib.hid hn
          have hz6 : ((acc.length : Int) == 64) = true := by rw [h64]; rfl
          clear hn hc0 h64
          gi_wp2
          exact ⟨(hk1.trans ((KeepsOthers.setCell _ _ _).trans (KeepsOthers.setCell _ _ _))).from _, rfl, ⟨(hr0.set _).other (by omega) _, ((hr1.other (by omega) _).set _)⟩, HN'.out, (hB1.setCell (p := ⟨w.heap.size, 0, none⟩) (Nat.le_refl _) _).setCell (p := ⟨w.heap.size + 1, 0, none⟩) (Nat.le_succ _) _⟩
        · have hn : col (pre ++ [x]) = some (acc ++ [c]) := by rw [HST.out, if_pos ⟨rfl, hc0, h64⟩]
          have HN' := Lib.hid hn
          have hz6 : ((acc.length : Int) == 64) = false := by rw [beq_eq_false_iff_ne]; omega
          clear hn hc0 h64
          have hr6 := Go.Joins.ownsRow_le hrow (show w.heap.size + 2 ≤ w.heap.size + 6 by omega)
          gi_wp2_with (gi_at_builtin; refine wpListIn_append_own _ rfl _ _ 77 rfl (w.heap.size + 6) 5 i0 (.int .u8 0) 1 1 Tryd.underlying77 hi hz0 hz1 hz2 rfl (by decide) _ _ _ rfl (hrow.alloc _) ⟨W1.heap.size, 0, none⟩ 1 1 [.int .u8 (c.toNat : Int)] rfl rfl (cell_one_new _ _ _) (by simp [Value.oneCell']) (by unfold maxLen; omega) (by omega) (by simp; omega) ?_; intro v' w2 hown' hgrow' _; obtain ⟨g', cap', rfl⟩ := ownsRow_succ hown'; obtain ⟨hv1, hv2, hr2, hk2, hb2⟩ := hv.appended (by decide) hr6 (by omega) (Nat.le_refl _) (Go.Joins.ownsRow_le hown' (show w.heap.size + 2 ≤ w.heap.size + 6 by omega)) hgrow'; have hc1 := hv1.cell; have hf1 := hv1.frozen)
          have hne : ∀ k, (Value.slice ao acc.length cap).ownBlock = some k → w.heap.size + 6 ≤ k := fun k hk => (hrow.lt k hk).1
          have hbut : But (w.heap.size + 6) (w.heap.size + 2) W1 (w2.setCell ⟨w.heap.size + 2, 0, none⟩ (.slice (some ⟨g', 0, none⟩) (acc.length + 1) cap')) := (But.of_below (((Below.refl _ W1).alloc hsz1 _).grown hgrow' (by simp; omega) hne)).trans (But.setCell _ _ _)
          refine ⟨(hk1.trans hk2).from _, ⟨(hbut.block _ (by omega) (by omega)).trans E.out.1, (hbut.block _ (by omega) (by omega)).trans E.out.2.1, (hbut.block _ (by omega) (by omega)).trans E.out.2.2⟩, ⟨_, hv2, ?_, trivial⟩, ⟨(hbut.block _ (by omega) (by omega)).trans hr0, (hbut.block _ (by omega) (by omega)).trans hr1⟩, by rw [HN'.out]; simp, hB1.trans (hbut.below (by omega) (by omega)), Nat.le_trans hsz1 hbut.size⟩
          have hcl : colL (pre ++ [x]) = acc ++ [c] := by unfold colL; rw [HN'.out]; rfl
          rw [hcl, List.length_append, List.map_append]
          exact ownsRow_setCell_below hown' (a := ⟨w.heap.size + 2, 0, none⟩) (by show w.heap.size + 2 < _; omega) _
  case done =>
    rintro D ys W hD hys ⟨⟨v, hv, hrow, _⟩, ⟨hr0, hr1⟩, hsome, hB, hsz⟩ hK
    obtain ⟨acc, hacc⟩ : ∃ acc, col ys = some acc := by
      cases hc : col ys with
      | none => exact absurd hc hsome
      | some acc => exact ⟨acc, rfl⟩
    have hcl : colL ys = acc := by unfold colL; rw [hacc]; rfl
    have hal := col_length hacc
    rw [hcl] at hrow
    have hp := HS.out acc (by rw [← hys]; exact hacc)
    have HP := Lib.hid hp
    clear hp hcl hsome hacc hys
    have qv := hv.cell
    have hst := run_string_own (P := Tryd.prog) hrow Tryd.underlying77 Tryd.underlying5 Tryd.underlying22
    have HR := Lib.hid (cnfRight_any (str acc) (by rw [str_size]; omega) W)
    rw [lst_str] at HR
    gi_wp2_with fail
    refine ⟨trivial, (toIn HR.out).mono ?_⟩
    rintro e W1 ⟨rfl, hb1⟩
    have hr0 := boxed_below hr0 hb1 hr0.lt
    have hr1 := boxed_below hr1 hb1 hr1.lt
    have hB1 := hB.trans (hb1.mono hB.size)
    have hK1 := (keeps_below hb1).same D _ hK rfl
    have q0 := hr0.cell
    have q1 := hr1.cell
    have f0 := hr0.frozen
    have f1 := hr1.frozen
    clear qv hst
    by_cases hnn : Lz.norm acc = acc
    · have hb : (Lz.norm acc == acc) = true := by simpa using hnn
      rw [if_pos hnn] at HP
      clear hnn
      gi_wp2
      have hK' := ((KeepsOthers.setCell W1 ⟨w.heap.size, 0, none⟩ (.string (str acc))).trans (KeepsOthers.setCell _ ⟨w.heap.size + 1, 0, none⟩ (.bool true))).same D _ hK1 rfl
      refine ⟨by simp, .inl ⟨_, _, rfl, run_takeDeferred hK', ?_⟩⟩
      have hc5 := cell_kept (((hr0.set (.string (str acc))).other (show w.heap.size ≠ w.heap.size + 1 by omega) (.bool true)).cell) (grownBy_putObj' _ D (.deferred none)) (fun r e => by cases e; exact ⟨_, hK', rfl⟩)
      have hc6 := cell_kept (((hr1.other (show w.heap.size + 1 ≠ w.heap.size by omega) (.string (str acc))).set (.bool true)).cell) (grownBy_putObj' _ D (.deferred none)) (fun r e => by cases e; exact ⟨_, hK', rfl⟩)
      have hBs := (hB1.setCell (p := ⟨w.heap.size, 0, none⟩) (Nat.le_refl _) (.string (str acc))).setCell (p := ⟨w.heap.size + 1, 0, none⟩) (Nat.le_succ _) (.bool true)
      refine ⟨.tuple #[.string (str acc), .bool true], ?_, by rw [HP.out], hBs.trans (belowK_b (w := w) (Nat.le_refl _) _ D _ _ (by omega) hK' rfl rfl)⟩
      simp [results, Tryd.f47, go_sem, hc5, hc6]
    · have hb : (Lz.norm acc == acc) = false := by simpa using hnn
      rw [if_neg hnn] at HP
      clear hnn
      gi_wp2
      have hK' := ((KeepsOthers.setCell W1 ⟨w.heap.size, 0, none⟩ (.string ⟨#[]⟩)).trans (KeepsOthers.setCell _ ⟨w.heap.size + 1, 0, none⟩ (.bool false))).same D _ hK1 rfl
      refine ⟨by simp, .inl ⟨_, _, rfl, run_takeDeferred hK', ?_⟩⟩
      have hc5 := cell_kept (((hr0.set (.string ⟨#[]⟩)).other (show w.heap.size ≠ w.heap.size + 1 by omega) (.bool false)).cell) (grownBy_putObj' _ D (.deferred none)) (fun r e => by cases e; exact ⟨_, hK', rfl⟩)
      have hc6 := cell_kept (((hr1.other (show w.heap.size + 1 ≠ w.heap.size by omega) (.string ⟨#[]⟩)).set (.bool false)).cell) (grownBy_putObj' _ D (.deferred none)) (fun r e => by cases e; exact ⟨_, hK', rfl⟩)
      have hBs := (hB1.setCell (p := ⟨w.heap.size, 0, none⟩) (Nat.le_refl _) (.string ⟨#[]⟩)).setCell (p := ⟨w.heap.size + 1, 0, none⟩) (Nat.le_succ _) (.bool false)
      refine ⟨.tuple #[.string ⟨#[]⟩, .bool false], ?_, by rw [HP.out]; rfl, hBs.trans (belowK_b (w := w) (Nat.le_refl _) _ D _ _ (by omega) hK' rfl rfl)⟩
      simp [results, Tryd.f47, go_sem, hc5, hc6]
  case stop =>
    rintro D pre W hD hpre ⟨⟨hr0, hr1⟩, hcn, hB⟩ hK
    have hp := HN.out (col_prefix hpre hcn)
    have HP := Lib.hid hp
    clear hp
    gi_wp2
    refine ⟨by simp, .inl ⟨_, _, rfl, run_takeDeferred hK, ?_⟩⟩
    have hc5 := cell_kept hr0.cell (grownBy_putObj' _ D (.deferred none)) (fun r e => by cases e; exact ⟨_, hK, rfl⟩)
    have hc6 := cell_kept hr1.cell (grownBy_putObj' _ D (.deferred none)) (fun r e => by cases e; exact ⟨_, hK, rfl⟩)
    refine ⟨.tuple #[.string ⟨#[]⟩, .bool false], ?_, by rw [HP.out]; rfl, hB.trans (belowK_b (w := w) (Nat.le_refl _) W D _ _ (by omega) hK rfl rfl)⟩
    simp [results, Tryd.f47, go_sem, hc5, hc6]
set_option maxRecDepth 100000 in
set_option maxHeartbeats 1000000 in
theorem cnfParse_any (t : List UInt8) (ht : t.length ≤ 1000000) (w : World) (hL : Letters w) :
    Calls Tryd.prog 47 #[.string (str t)] w fun e w' => e = .returned (.tuple #[.string (str (parseF t).1), .bool (parseF t).2]) ∧ Below w.heap.size w w' := by
  by_cases h1 : t = [84]
  · subst h1
    clear hL ht
    go_enter Tryd.func47, Tryd.ntmps47
    go_wp2
    refine bodyPost_ret (v := .tuple #[.string ⟨#[]⟩, .bool true]) ?_ rfl ⟨rfl, (((Below.refl _ w).alloc (Nat.le_refl _) _).alloc (by simp) _)⟩
    simp [results, Tryd.f47, go_sem]
  · by_cases h2 : t = [70]
    · subst h2
      clear hL ht h1
      go_enter Tryd.func47, Tryd.ntmps47
      go_wp2
      refine bodyPost_ret (v := .tuple #[.string ⟨#[0]⟩, .bool true]) ?_ rfl ⟨rfl, (((Below.refl _ w).alloc (Nat.le_refl _) _).alloc (by simp) _)⟩
      simp [results, Tryd.f47, go_sem]
    · exact callsIn_wide.1 (cnfParse_in t ht (by simpa using h1) (by simpa using h2) w hL)
end Go.Proofs.YtiagoiannccdmaaDoor
