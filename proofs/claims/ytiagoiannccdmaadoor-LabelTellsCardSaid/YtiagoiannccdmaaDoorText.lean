/- The contract of prin.Text: the letters of a set. Condition: the table of letters holds its text. -/
import Derived.Test.YtiagoiannccdmaaDoorPlaces
import Derived.Test.YtiagoiannccdmaaDoorBuilder
namespace Go.Proofs.YtiagoiannccdmaaDoor
open Go.RowKit Go.Shelf

attribute [local go_sem] Oper.semAt_some

/-- The table of letters holds what the program's text says. -/
def Letters (w : World) : Prop := ∀ i, i < 6 → w.cell? ⟨0, i, none⟩ = some (.int .u8 (97 + (i : Int)))
theorem Letters.lt {w : World} (h : Letters w) : 0 < w.heap.size := by
  have := h 0 (by decide)
  rcases Nat.lt_or_ge 0 w.heap.size with h' | h'
  · exact h'
  · simp [World.cell?, Array.getElem?_eq_none h'] at this
theorem Letters.below {w w' : World} {B : Nat} (h : Letters w) (hb : Below B w w') (hB : 0 < B) : Letters w' := fun i hi => (hb.cell (p := ⟨0, i, none⟩) hB).trans (h i hi)
theorem Letters.behind {w w' : World} (h : Letters w) (hb : Below w.heap.size w w') : Letters w' := h.below hb h.lt

theorem bld_own {β : Type} (B b : Nat) (f : β → List UInt8) : Own (fun s W => Bld B b (f s) W) := by
  rintro s X Y row ⟨hB, p, v, hp, hbk, hown⟩ hg hrow
  refine ⟨hB, p, v, hp, (grownBy_keeps_cells hg hrow hbk rfl).trans hbk, hown.kept hg ?_⟩
  rcases hown.2 with ⟨rfl, _⟩ | ⟨g, cap, cur, rfl, _, hgb, _⟩
  · exact .inl rfl
  · refine .inr fun e' => ?_
    obtain ⟨o, ho, hc⟩ := hrow g (by simpa [Value.ownBlock] using e'.symm)
    rw [hgb] at ho; cases ho; cases hc
theorem Bld.kept {B b : Nat} {l : List UInt8} {X : World} (h : Bld B b l X) (o : Obj) : Bld B b l (X.alloc o) :=
  Own.alloc (bld_own (β := Unit) B b fun _ => l) (s := ()) o h
theorem Bld.put {B b : Nat} {l : List UInt8} {X : World} (h : Bld B b l X) {i : Nat} {o : Obj} (o' : Obj) (hl : X.heap[i]? = some o) (ho : o.isCells = false) : Bld B b l (X.putObj i o') :=
  Own.putObj (bld_own (β := Unit) B b fun _ => l) (s := ()) o' h hl ho
theorem bld_new {B : Nat} (w : World) (h : w.heap.size < B) : Bld B w.heap.size [] (w.alloc (.cells #[.pointer none, .slice none 0 0] 91)) :=
  ⟨h, _, _, .inl rfl, World.alloc_heap_new w _, World.ownsRow_nil _ _ _ _⟩

/-- The letter of a place. -/
def letter (n : Nat) : UInt8 := UInt8.ofNat (97 + n)
theorem letter_toNat (n : Nat) (h : n < 6) : (letter n).toNat = 97 + n := Lz.toNat_ofNat_lt (by omega)
/-- The text of places, '|' between. -/
def joinTo (acc : List UInt8) (x : Fin 6) : List UInt8 := (if acc = [] then [] else acc ++ [124]) ++ [letter x.val]
def lettersOf (l : List (Fin 6)) : List UInt8 := l.foldl joinTo []
theorem lettersOf_snoc (l : List (Fin 6)) (x : Fin 6) : lettersOf (l ++ [x]) = joinTo (lettersOf l) x := by simp [lettersOf]
theorem joinTo_length (acc : List UInt8) (x : Fin 6) : (joinTo acc x).length ≤ acc.length + 2 := by
  unfold joinTo
  split
  · simp
  · simp
theorem lettersOf_length (l : List (Fin 6)) : (lettersOf l).length ≤ 2 * l.length := by
  have h : ∀ (l : List (Fin 6)) (acc : List UInt8), (l.foldl joinTo acc).length ≤ acc.length + 2 * l.length := by
    intro l
    induction l with
    | nil => simp
    | cons x l ih =>
      intro acc
      have h1 := ih (joinTo acc x)
      have h2 := joinTo_length acc x
      simp only [List.foldl_cons, List.length_cons]
      omega
  have := h l []
  simpa [lettersOf] using this
/-- What Text tells of a set. -/
def textP (s : UInt8) : List UInt8 := if s.toNat < 64 then if s = 0 then [45] else lettersOf (placesTo s 6) else [63]

theorem of_all64 (p : UInt8 → Bool) (h : (List.range 64).all (fun n => p (UInt8.ofNat n)) = true) (s : UInt8) (hs : s.toNat < 64) : p s = true := by
  have := List.all_eq_true.1 h s.toNat (List.mem_range.2 hs)
  rwa [UInt8.ofNat_toNat] at this
theorem lettersOf_ne (s : UInt8) (h : decide (s.toNat < 64) = true) (hne : s ≠ 0) : lettersOf (placesTo s 6) ≠ [] := by
  have := of_all64 (fun s => s == 0 || !(lettersOf (placesTo s 6)).isEmpty) (by decide +kernel) s (by simpa using h)
  intro e
  simp [e, hne] at this
set_option maxRecDepth 100000 in
set_option maxHeartbeats 2000000 in
theorem text_in (s : UInt8) (h64 : s.toNat < 64) (hne : s ≠ 0) (w : World) (hL : Letters w) :
    CallsIn Fence.wide 6 Tryd.prog 71 #[.int .u8 (s.toNat : Int)] w fun e w' => e = .returned (.string (str (lettersOf (placesTo s 6)))) ∧ Below w.heap.size w w' := by
  have hz : ((s.toNat : Int) == 0) = false := by rw [toNat_zero_iff]; simpa using hne
  have hd : decide (s.toNat < 64) = true := by simpa using h64
  have HD := Lib.hid hd
  have HL := Lib.hid hL
  clear hd h64 hL
  refine callsIn_of_wp_marks Tryd.func71 rfl trivial ?_ rfl
  simp only [Tryd.ntmps71, List.size_toArray, List.length_cons, List.length_nil, Nat.reduceAdd, Nat.reduceSub, Array.replicate_succ, Array.replicate_zero, List.push_toArray, List.append_toArray, List.nil_append, List.cons_append]
  gi_wp2_with (first | (refine ⟨trivial, ?_⟩; gi_at_call 83; refine (toIn (right_any _ s rfl _)).mono ?_; rintro e w' ⟨rfl, rfl⟩; rw [HD.out]) | (refine ⟨trivial, ?_⟩; gi_at_call 79; refine (places_in Fence.wide _ trivial rfl _ _).mono ?_; rintro e w' ⟨rfl, rfl⟩))
  have bB := bld_new (B := w.heap.size + 2) w (by omega)
  have bS := Boxed.new (w.alloc (.cells #[.pointer none, .slice none 0 0] 91)) 5 (.int .u8 (s.toNat : Int))
  rw [World.size_alloc] at bS
  have hB0 : Below w.heap.size w ((w.alloc (.cells #[.pointer none, .slice none 0 0] 91)).alloc (.cells #[.int .u8 (s.toNat : Int)] 5)) := ((Below.refl _ w).alloc (Nat.le_refl _) _).alloc (by simp) _
  refine wpIn_rangeFunc_ownG rfl (by omega) (gf := 93) (lb := #[.pointer (some ⟨w.heap.size + 1, 0, none⟩)]) rfl trivial (enters_of Tryd.func93 (by kernel_rfl) rfl)
    (places_stops Fence.wide (6 - 1) trivial rfl (by omega) (w.heap.size + 1) s _ (by simp) bS.cell) (fun h k => k.trans h) (keepsAt_b (by simp)) (Below.refl _ _) (fun _ => rfl)
    (fun pre W => Bld (w.heap.size + 2) w.heap.size (lettersOf pre) W ∧ But (w.heap.size + 2) w.heap.size ((w.alloc (.cells #[.pointer none, .slice none 0 0] 91)).alloc (.cells #[.int .u8 (s.toNat : Int)] 5)) W)
    (fun _ _ _ => False)
    (OwnFrom.and (Own.from (bld_own (w.heap.size + 2) w.heap.size lettersOf) _) (but_own (by simp)))
    (fun _ _ _ _ _ hs _ _ => hs)
    ⟨bB.kept _, But.refl _ _ _⟩
    (fun x => { tmps := #[.int .u8 (s.toNat : Int), undef, .string { data := #[] }, .pointer (some ⟨w.heap.size, 0, none⟩), .int .i64 (x.val : Int), .int .u8 (s.toNat : Int), .bool true, .bool false, .int .u8 (s.toNat : Int), .bool false, .int .u8 (s.toNat : Int), .func (.func 93) #[] #[.pointer (some ⟨w.heap.size + 1, 0, none⟩)], .int .i64 (x.val : Int), undef, undef, undef, undef, undef, undef, undef, undef], defers := [] }) ?assign ?body ?done ?stop
  case assign =>
    intro l x W K hK
    gi_wp2
    exact hK
  case body =>
    rintro l pre x W ⟨hbld, hB⟩ hlt
    have hlen := lettersOf_length pre
    have hsz := hB.size
    rw [World.size_alloc, World.size_alloc] at hsz
    have hLW := HL.out.behind (hB0.trans (hB.below (by omega) (Nat.le_refl _)))
    have hlw := HL.out.lt
    have hcell : ∀ W', But (w.heap.size + 2) w.heap.size W W' → W'.cell? ⟨0, x.val, none⟩ = some (.int .u8 (97 + (x.val : Int))) := fun W' h => (hLW.below (h.below (B' := w.heap.size) (by omega) (Nat.le_refl _)) hlw) x.val x.isLt
    have hx := x.isLt
    have hsn := lettersOf_snoc pre x
    have HS := Lib.hid hsn
    clear hsn hLW
    by_cases h0 : lettersOf pre = []
    · have hl0 : ((lettersOf pre).length : Int) = 0 := by rw [h0]; rfl
      have hj : joinTo (lettersOf pre) x = lettersOf pre ++ [letter x.val] := by unfold joinTo; rw [if_pos h0, h0]
      have HJ := Lib.hid hj
      have H0 := Lib.hid h0
      have hcl := hcell W (But.refl _ _ _)
      clear h0 hj hcell
      gi_wp2_with (first | (refine ⟨trivial, ?_⟩; gi_at_call 68; refine (CallsIn.inRound l (toIn (builderLen_any _ _ _ _ hbld))).mono ?_; rintro e w' ⟨rfl, rfl⟩) | (refine ⟨trivial, ?_⟩; gi_at_call 69; refine (CallsIn.inRound l (toIn (writeByte_any _ _ _ _ (letter x.val) (by rw [letter_toNat _ hx]; omega) _ hbld (by omega) (by omega)))).mono ?_; rintro e w' ⟨rfl, hb2, hbw2, hk2⟩))
      exact ⟨hk2.from _, hbw2.block _ (by omega) (by omega), by rw [HS.out, HJ.out]; exact hb2, hB.trans hbw2⟩
    · have hl0 : (0 : Int) < ((lettersOf pre).length : Int) := by have : (lettersOf pre).length ≠ 0 := by simpa using h0
                                                                  omega
      have hj : joinTo (lettersOf pre) x = lettersOf pre ++ [124] ++ [letter x.val] := by unfold joinTo; rw [if_neg h0]
      have HJ := Lib.hid hj
      have H0 := Lib.hid h0
      clear h0 hj
      gi_wp2_with fail
      refine ⟨trivial, (CallsIn.inRound l (toIn (builderLen_any _ _ _ _ hbld))).mono ?_⟩
      rintro e w' ⟨rfl, rfl⟩
      gi_wp2_with fail
      refine ⟨trivial, (CallsIn.inRound l (toIn (writeByte_any _ _ _ _ 124 rfl _ hbld (by omega) (by omega)))).mono ?_⟩
      rintro e w' ⟨rfl, hb1, hbw1, hk1⟩
      have hcl := hcell _ hbw1
      have hs1 := hbw1.size
      clear hcell
      gi_wp2_with fail
      refine ⟨trivial, (CallsIn.inRound l (toIn (writeByte_any _ _ _ _ (letter x.val) (by rw [letter_toNat _ hx]; omega) _ hb1 (by simp; omega) (by omega)))).mono ?_⟩
      rintro e w' ⟨rfl, hb2, hbw2, hk2⟩
      gi_wp2
      exact ⟨(hk1.trans hk2).from _, (hbw1.trans hbw2).block _ (by omega) (by omega), by rw [HS.out, HJ.out]; exact hb2, (hB.trans hbw1).trans hbw2⟩
  case done =>
    rintro D ys W hD rfl ⟨hbld, hB⟩ hK
    have hne' := lettersOf_ne s HD.out hne
    gi_wp2_with (refine ⟨trivial, ?_⟩; gi_at_call 72; refine (toIn (builderString_any _ _ _ hne' _ hbld)).mono ?_; rintro e w' ⟨rfl, hb2, hk2⟩)
    refine ⟨by simp, .inl ⟨_, _, rfl, run_takeDeferred (hk2.same _ _ hK rfl), ?_⟩⟩
    refine ⟨_, results_tmp rfl _ _ _, rfl, ?_⟩
    rw [World.size_alloc, World.size_alloc] at hD
    exact ((hB0.trans (hB.below (by omega) (Nat.le_refl _))).trans (hb2.mono (by omega))).trans (belowK_b (w := w) (Nat.le_refl _) _ D _ _ (by omega) (hk2.same _ _ hK rfl) rfl rfl)
  case stop =>
    rintro D c pre W _ _ h _
    exact h.elim

theorem textP_of (s : UInt8) (h : s.toNat < 64) (hne : s ≠ 0) : textP s = lettersOf (placesTo s 6) := by unfold textP; rw [if_pos h, if_neg hne]
set_option maxRecDepth 100000 in
set_option maxHeartbeats 1000000 in
theorem text_any (x : Int) (s : UInt8) (hx : x = s.toNat) (w : World) (hL : Letters w) :
    Calls Tryd.prog 71 #[.int .u8 x] w fun e w' => e = .returned (.string (str (textP s))) ∧ Below w.heap.size w w' := by
  subst hx
  by_cases h : s.toNat < 64
  · by_cases h0 : s = 0
    · subst h0
      have e : textP 0 = [45] := by decide
      rw [e]
      have hz : (((0 : UInt8).toNat : Int) == 0) = true := rfl
      go_enter Tryd.func71, Tryd.ntmps71
      go_wp2_with (go_at_call 83; refine (right_any _ 0 rfl _).mono ?_; rintro e w' ⟨rfl, rfl⟩)
      go_ret
      exact ⟨rfl, Below.refl _ _⟩
    · rw [textP_of s h h0]
      exact callsIn_wide.1 (text_in s h h0 w hL)
  · have e : textP s = [63] := by unfold textP; rw [if_neg h]
    rw [e]
    have hd : decide (s.toNat < 64) = false := by simpa using h
    have HD := Lib.hid hd
    clear hd h e
    go_enter Tryd.func71, Tryd.ntmps71
    go_wp2_with (go_at_call 83; refine (right_any _ s rfl _).mono ?_; rintro e w' ⟨rfl, rfl⟩; rw [HD.out])
    go_ret
    exact ⟨rfl, Below.refl _ _⟩
end Go.Proofs.YtiagoiannccdmaaDoor
