/- The contract of prin.Parse. Condition: the table of letters holds its text. -/
import Derived.Test.YtiagoiannccdmaaDoorText
import Derived.Lib.Bytealg
import Derived.Lib.QuietBelowIn
import Derived.Deep.QuietTactic
import Derived.BigQuiet
namespace Go.Proofs.YtiagoiannccdmaaDoor
open Go.RowKit Go.Shelf

attribute [local go_sem] Oper.semAt_some

set_option maxRecDepth 100000 in
set_option maxHeartbeats 1000000 in
theorem indexByte_lite (s : ByteArray) (c : Int) (w : World) : Calls Tryd.prog 86 #[.string s, .int .u8 c] w fun e w' => e = .returned (.int .i64 (Lib.indexByte s.data.toList c.toNat.toUInt8)) ∧ w = w' := by
  go_enter Tryd.func86, Tryd.ntmps86
  go_wp2
  rw [run_callFunc_extern Tryd.func95 (by kernel_rfl) (by kernel_rfl) (by kernel_rfl) (e := Extern.BytealgIndexByte.indexByte) (by kernel_rfl)]
  rw [Lib.run_indexByteString]
  simp only [Result.andThen]
  rw [Oper.upon_value]
  go_wp2
  go_ret
  exact ⟨rfl, rfl⟩
set_option maxRecDepth 100000 in
set_option maxHeartbeats 1000000 in
theorem indexByte_any (s : ByteArray) (c : Int) (w : World) : Calls Tryd.prog 80 #[.string s, .int .u8 c] w fun e w' => e = .returned (.int .i64 (Lib.indexByte s.data.toList c.toNat.toUInt8)) ∧ w = w' := by
  go_enter Tryd.func80, Tryd.ntmps80
  go_wp2_with (go_at_call 86; refine (indexByte_lite _ _ _).mono ?_; rintro e w' ⟨rfl, rfl⟩)
  go_ret
  exact ⟨rfl, rfl⟩
/-- The set of the letters of places that stand in t. -/
def scanTo (t : List UInt8) (l : List (Fin 6)) : UInt8 := l.foldl (fun s x => if t.contains (letter x.val) then s ||| UInt8.ofNat (2 ^ x.val) else s) 0
theorem scanTo_snoc (t : List UInt8) (l : List (Fin 6)) (x : Fin 6) : scanTo t (l ++ [x]) = if t.contains (letter x.val) then scanTo t l ||| UInt8.ofNat (2 ^ x.val) else scanTo t l := by simp [scanTo]
def scan (t : List UInt8) : UInt8 := scanTo t (placesTo 63 6)
/-- What Parse tells of a text. -/
def parseP (t : List UInt8) : UInt8 × Bool :=
  if t = [45] then (0, true) else if t = [] then (0, false) else if 11 < t.length then (0, false) else if scan t = 0 then (0, false) else if textP (scan t) = t then (scan t, true) else (0, false)

theorem indexByte_in {l : List UInt8} {c : UInt8} (h : l.contains c = true) : 0 ≤ Lib.indexByte l c := by
  induction l with
  | nil => simp at h
  | cons b l ih =>
    unfold Lib.indexByte
    split
    · omega
    · rename_i hb
      have : l.contains c = true := by
        rw [List.contains_cons, Bool.or_eq_true] at h
        rcases h with h | h
        · rw [beq_iff_eq] at h; subst h; simp at hb
        · exact h
      have := ih this
      split
      · rename_i h'; rw [beq_iff_eq] at h'; omega
      · omega
theorem indexByte_out {l : List UInt8} {c : UInt8} (h : l.contains c = false) : Lib.indexByte l c < 0 := by
  induction l with
  | nil => simp [Lib.indexByte]
  | cons b l ih =>
    rw [List.contains_cons, Bool.or_eq_false_iff] at h
    have := ih h.2
    have hge := Lib.indexByte_ge l c
    unfold Lib.indexByte
    split
    · rename_i hb; rw [beq_iff_eq] at hb; subst hb; simp at h
    · rw [if_pos (by rw [beq_iff_eq]; omega)]; omega
theorem or_bit (a : UInt8) (k : Nat) (h : k < 6) : bits .or .u8 (a.toNat : Int) (IntKind.u8.wrap (2 ^ k)) = ((a ||| UInt8.ofNat (2 ^ k)).toNat : Int) := by
  have e : IntKind.u8.wrap (2 ^ k) = ((UInt8.ofNat (2 ^ k)).toNat : Int) := by
    match k, h with
    | 0, _ => rfl
    | 1, _ => rfl
    | 2, _ => rfl
    | 3, _ => rfl
    | 4, _ => rfl
    | 5, _ => rfl
  rw [e, bits_or_u8]
theorem letter_byte (n : Nat) : ((97 : Int) + (n : Int)).toNat.toUInt8 = letter n := by
  rw [show ((97 : Int) + (n : Int)).toNat = 97 + n from by omega]; rfl
theorem parseP_scan (t : List UInt8) (h1 : (t == [45]) = false) (h2 : t.isEmpty = false) (h3 : (t.length : Int) ≤ 11) : parseP t = if scan t = 0 then (0, false) else if textP (scan t) = t then (scan t, true) else (0, false) := by
  unfold parseP
  rw [if_neg (by simpa using h1), if_neg (by simpa using h2), if_neg (by omega)]
set_option maxRecDepth 100000 in
set_option maxHeartbeats 2000000 in
theorem parse_in (s : ByteArray) (h1 : (s.toList == [45]) = false) (h2 : s.toList.isEmpty = false) (_h2' : ¬ s.toList = []) (h3 : (s.size : Int) ≤ 11) (w : World) (hL : Letters w) :
    CallsIn Fence.wide 6 Tryd.prog 64 #[.string s] w fun e w' => e = .returned (.tuple #[.int .u8 ((parseP s.data.toList).1.toNat : Int), .bool (parseP s.data.toList).2]) ∧ Below w.heap.size w w' := by
  have HL := Lib.hid hL
  have hlt := hL.lt
  clear hL
  refine callsIn_of_wp_marks Tryd.func64 rfl trivial ?_ rfl
  simp only [Tryd.ntmps64, List.size_toArray, List.length_cons, List.length_nil, Nat.reduceAdd, Nat.reduceSub, Array.replicate_succ, Array.replicate_zero, List.push_toArray, List.append_toArray, List.nil_append, List.cons_append]
  gi_wp2_with (refine ⟨trivial, ?_⟩; gi_at_call 79; refine (places_in Fence.wide _ trivial rfl _ _).mono ?_; rintro e w' ⟨rfl, rfl⟩)
  have bT := Boxed.new w 9 (.string s)
  have bS := Boxed.new (w.alloc (.cells #[.string s] 9)) 5 (.int .u8 0)
  have bP := Boxed.new ((w.alloc (.cells #[.string s] 9)).alloc (.cells #[.int .u8 0] 5)) 5 (.int .u8 63)
  rw [World.size_alloc] at bS
  rw [World.size_alloc, World.size_alloc] at bP
  refine wpIn_rangeFunc_ownG rfl (by omega) (gf := 93) (lb := #[.pointer (some ⟨w.heap.size + 2, 0, none⟩)]) rfl trivial (enters_of Tryd.func93 (by kernel_rfl) rfl)
    (places_stops Fence.wide (6 - 1) trivial rfl (by omega) (w.heap.size + 2) 63 _ (by simp) bP.cell) (fun h k => k.trans h) (keepsAt_b (by simp)) (Below.refl _ _) (fun _ => rfl)
    (fun pre W => (Boxed W (w.heap.size + 1) 5 (.int .u8 ((scanTo s.data.toList pre).toNat : Int)) ∧ Boxed W w.heap.size 9 (.string s)) ∧ But (w.heap.size + 3) (w.heap.size + 1) (((w.alloc (.cells #[.string s] 9)).alloc (.cells #[.int .u8 0] 5)).alloc (.cells #[.int .u8 63] 5)) W)
    (fun _ _ _ => False)
    (OwnFrom.and (Own.from (boxes_own _ _ _ _ _ _) _) (but_own (by simp)))
    (fun _ _ _ _ _ hs _ _ => hs)
    ⟨⟨bS.alloc _, (bT.alloc _).alloc _⟩, But.refl _ _ _⟩
    (fun x => { tmps := #[.string s, .pointer (some ⟨w.heap.size, 0, none⟩), .int .u8 0, .bool false, .pointer (some ⟨w.heap.size + 1, 0, none⟩), .int .i64 (x.val : Int), .string s, .bool false, .string s, .bool false, .bool false, .string s, .int .i64 s.size, .bool (decide (11 < (s.size : Int))), .bool (decide (11 < (s.size : Int))), .func (.func 93) #[] #[.pointer (some ⟨w.heap.size + 1 + 1, 0, none⟩)], .int .i64 (x.val : Int), undef, undef, undef, undef, undef, undef, undef, undef, undef, undef, undef, undef, undef, undef, undef, undef, undef, undef, undef], defers := [] }) ?assign ?body ?done ?stop
  case assign =>
    intro l x W K hK
    gi_wp2
    exact hK
  case body =>
    rintro l pre x W ⟨⟨hS, hT⟩, hB⟩ hlen
    have hcS := hS.cell
    have hcT := hT.cell
    have hfS := hS.frozen
    have hcL := ((HL.out.behind (((Below.refl _ w).alloc (Nat.le_refl _) _).alloc (by simp) _ |>.alloc (by simp; omega) _)).below (hB.below (B' := w.heap.size) (by omega) (by omega)) hlt) x.val x.isLt
    have hx := x.isLt
    have hch := letter_byte x.val
    have hsn := scanTo_snoc s.data.toList pre x
    have HSN := Lib.hid hsn
    clear hsn
    cases hin : s.data.toList.contains (letter x.val) with
    | true =>
      have hix := indexByte_in hin
      have HI := Lib.hid hin
      clear hin
      have mixed : Tryd.prog.follows .mixedOrders = true := by kernel_rfl
      gi_wp2
      gi_region_with_o (refine ⟨trivial, ?_⟩; gi_at_call 80; refine (CallsIn.inRound l (toIn (indexByte_any _ _ _))).mono ?_; rintro e w' ⟨rfl, rfl⟩; rw [hch])
      all_goals gi_wp2
      all_goals gi_region_with_o (fail)
      all_goals gi_wp2
      all_goals
        rw [or_bit _ _ hx]
        refine ⟨((KeepsOthers.setCell _ _ _).trans ((KeepsOthers.drew _).trans (KeepsOthers.drew _))).from _, Below.heap_setCell _ _ _ _ (by simp), ⟨?_, (Below.heap_setCell _ _ _ _ (by simp)).trans hT⟩, (hB.trans (But.setCell _ _ _)).trans (But.of_below (((Below.refl _ _).drew).drew))⟩
        rw [HSN.out, HI.out]
        exact hS.set _
    | false =>
      have hix := indexByte_out hin
      have HI := Lib.hid hin
      clear hin
      have mixed : Tryd.prog.follows .mixedOrders = true := by kernel_rfl
      gi_wp2
      gi_region_with_o (refine ⟨trivial, ?_⟩; gi_at_call 80; refine (CallsIn.inRound l (toIn (indexByte_any _ _ _))).mono ?_; rintro e w' ⟨rfl, rfl⟩; rw [hch])
      all_goals gi_wp2
      all_goals exact ⟨(KeepsOthers.drew _).from _, rfl, ⟨⟨by rw [HSN.out, HI.out]; exact hS, hT⟩, hB.trans (But.of_below (Below.refl _ _).drew)⟩⟩
  case done =>
    rintro D ys W hD rfl ⟨⟨hS, hT⟩, hB⟩ hK
    have hcS := hS.cell
    have hcT := hT.cell
    have mixed : Tryd.prog.follows .mixedOrders = true := by kernel_rfl
    have hDl := (Array.getElem?_eq_some_iff.1 hK).1
    rw [World.size_alloc, World.size_alloc, World.size_alloc] at hD
    have hBW : Below w.heap.size w W := ((((Below.refl _ w).alloc (Nat.le_refl _) _).alloc (by simp) _).alloc (by simp; omega) _).trans (hB.below (by omega) (by omega))
    have hend : ∀ W1, Below W.heap.size W W1 → Below w.heap.size w (W1.putObj D (.deferred none)) := fun W1 hb1 =>
      (hBW.trans (hb1.mono hBW.size)).trans (belowK_b (w := w) (Nat.le_refl _) W1 D _ _ (by omega) ((hb1.block D hDl).trans hK) rfl rfl)
    have hP := parseP_scan s.data.toList (by rw [← ByteArray.toList_eq]; exact h1) (by rw [← ByteArray.toList_eq]; exact h2) (by simpa using h3)
    have HP := Lib.hid hP
    clear hP
    by_cases h0 : scan s.data.toList = 0
    · have hz : ((scanTo s.data.toList (placesTo 63 6)).toNat : Int) = 0 := by
        show ((scan s.data.toList).toNat : Int) = 0
        rw [h0]; rfl
      have kS := cell_regrown hcS
      have kT := cell_regrown hcT
      gi_wp2
      refine wpIn_region_quiet_below rfl mixed (by kernel_rfl) ?_
      repeat (refine wpQuietIn_step (fun _ _ _ _ => trivial) (fun K hK => ?_); go_simp; refine hK _ ?_; clear hK K)
      refine wpQuietIn_nil ?_
      intro W1 hw'
      have hb1 := below_of_regrown hw'
      clear hw' kS kT
      gi_wp2
      refine ⟨by simp, .inl ⟨_, _, rfl, run_takeDeferred ((hb1.block D (Array.getElem?_eq_some_iff.1 hK).1).trans hK), ?_⟩⟩
      exact ⟨_, results_tmp2 rfl _ _ _, by rw [HP.out, if_pos h0]; rfl, hend W1 hb1⟩
    · have hz : (((scanTo s.data.toList (placesTo 63 6)).toNat : Int) == 0) = false := by
        rw [toNat_zero_iff]; simpa [scan] using h0
      have kS := cell_regrown hcS
      have kT := cell_regrown hcT
      have hLW := (HL.out.behind ((((Below.refl _ w).alloc (Nat.le_refl _) _).alloc (by simp) _).alloc (by simp; omega) _)).below (hB.below (B' := w.heap.size) (by omega) (by omega)) hlt
      have cT := quiet_call_in (n := 6 - 1) (fun W' hb => text_any _ (scanTo s.data.toList (placesTo 63 6)) rfl W' (hLW.behind hb))
      clear hLW
      cases hq : ((str (textP (scanTo s.data.toList (placesTo 63 6)))).toList == s.toList) with
      | true =>
        have hq' : textP (scan s.data.toList) = s.data.toList := by
          rw [beq_iff_eq, str, ByteArray.toList_mk, ByteArray.toList_eq] at hq; exact hq
        have HQ := Lib.hid hq'
        clear hq'
        gi_wp2
        refine wpIn_region_quiet_below rfl mixed (by kernel_rfl) ?_
        repeat (refine wpQuietIn_step (fun _ _ _ _ => trivial) (fun K hK => ?_); go_simp; first | (refine hK _ ?_; clear hK K) | (apply Exists.intro; refine ⟨fun _ => ?_, hK _ ?_⟩; exact cT _ _; clear hK K))
        refine wpQuietIn_nil ?_
        intro W1 hw'
        have hb1 := below_of_regrown hw'
        have hcS1 := (hb1.cell (p := ⟨w.heap.size + 1, 0, none⟩) hS.lt).trans hcS
        clear hw' kS kT cT
        gi_wp2
        refine ⟨by simp, .inl ⟨_, _, rfl, run_takeDeferred ((hb1.block D hDl).trans hK), ?_⟩⟩
        exact ⟨_, results_tmp2 rfl _ _ _, by rw [HP.out, if_neg h0, if_pos HQ.out]; rfl, hend W1 hb1⟩
      | false =>
        have hq' : ¬ textP (scan s.data.toList) = s.data.toList := by
          rw [beq_eq_false_iff_ne, str, ByteArray.toList_mk, ByteArray.toList_eq] at hq; exact hq
        have HQ := Lib.hid hq'
        clear hq'
        gi_wp2
        refine wpIn_region_quiet_below rfl mixed (by kernel_rfl) ?_
        repeat (refine wpQuietIn_step (fun _ _ _ _ => trivial) (fun K hK => ?_); go_simp; first | (refine hK _ ?_; clear hK K) | (apply Exists.intro; refine ⟨fun _ => ?_, hK _ ?_⟩; exact cT _ _; clear hK K))
        refine wpQuietIn_nil ?_
        intro W1 hw'
        have hb1 := below_of_regrown hw'
        clear hw' kS kT cT
        gi_wp2
        refine ⟨by simp, .inl ⟨_, _, rfl, run_takeDeferred ((hb1.block D hDl).trans hK), ?_⟩⟩
        exact ⟨_, results_tmp2 rfl _ _ _, by rw [HP.out, if_neg h0, if_neg HQ.out]; rfl, hend W1 hb1⟩
  case stop =>
    rintro D c pre W _ _ h _
    exact h.elim

set_option maxRecDepth 100000 in
set_option maxHeartbeats 1000000 in
theorem parse_any (s : ByteArray) (w : World) (hL : Letters w) :
    Calls Tryd.prog 64 #[.string s] w fun e w' => e = .returned (.tuple #[.int .u8 ((parseP s.data.toList).1.toNat : Int), .bool (parseP s.data.toList).2]) ∧ Below w.heap.size w w' := by
  have he := ByteArray.toList_eq s
  have HE := Lib.hid he
  clear he
  cases h1 : (s.toList == [45]) with
  | true =>
    have e : parseP s.data.toList = (0, true) := by
      rw [HE.out, beq_iff_eq] at h1; rw [h1]; rfl
    rw [e]
    clear e
    go_enter Tryd.func64, Tryd.ntmps64
    go_wp2
    go_ret2
    exact ⟨rfl, (Below.refl _ _).alloc (Nat.le_refl _) _⟩
  | false =>
    cases h2 : s.toList.isEmpty with
    | true =>
      have e : parseP s.data.toList = (0, false) := by
        rw [HE.out, List.isEmpty_iff] at h2; rw [h2]; rfl
      rw [e]
      have h2' : s.toList = [] := by simpa using h2
      clear e
      go_enter Tryd.func64, Tryd.ntmps64
      go_wp2
      go_ret2
      exact ⟨rfl, (Below.refl _ _).alloc (Nat.le_refl _) _⟩
    | false =>
      have h2' : ¬ s.toList = [] := by simpa using h2
      by_cases h3 : (s.size : Int) ≤ 11
      · exact callsIn_wide.1 (parse_in s h1 h2 h2' h3 w hL)
      · have e : parseP s.data.toList = (0, false) := by
          unfold parseP
          rw [if_neg (by rw [← HE.out]; simpa using h1), if_neg (by rw [← HE.out]; exact h2'), if_pos (by have : s.data.toList.length = s.size := by simp
                                                                                                          omega)]
        rw [e]
        clear e
        have h3' : 11 < (s.size : Int) := by omega
        go_enter Tryd.func64, Tryd.ntmps64
        go_wp2
        go_ret2
        exact ⟨rfl, (Below.refl _ _).alloc (Nat.le_refl _) _⟩
end Go.Proofs.YtiagoiannccdmaaDoor
