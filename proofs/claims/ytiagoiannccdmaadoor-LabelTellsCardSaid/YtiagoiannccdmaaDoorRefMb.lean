/- Several texts in one: XRef2g, XRef2M, XRef2d, XRef2e, XRefL3, XRef3a, XRef3b, XRef3c. -/
import Derived.Test.YtiagoiannccdmaaDoorRefMa
import Derived.Test.YtiagoiannccdmaaDoorCnfGet
import Derived.Test.YtiagoiannccdmaaDoorCnfBackM
import Derived.Test.YtiagoiannccdmaaDoorPairs
import Derived.Test.YtiagoiannccdmaaDoorLabelGet
import Derived.BigQuiet
import Derived.Deep.RegionHeld3
/-! The contract of the document's answer to chapter 2: Get. Condition: the length. -/
namespace Go.Proofs.YtiagoiannccdmaaDoor
open Go.RowKit Go.Shelf
attribute [local go_sem] str_list str_size str_app
set_option maxRecDepth 100000 in
set_option maxHeartbeats 2000000 in
theorem refGet_any (b : ByteArray) (hs : b.size ≤ maxLen) (at' : Int) (w : World) :
    Calls Tryd.prog 45 #[.string b, .int .i64 at'] w fun e w' => e = .returned (.tuple #[.string (str (getF b.data.toList at').1), .int .i64 (getF b.data.toList at').2.1, .bool (getF b.data.toList at').2.2]) ∧ Below w.heap.size w w' := by
  unfold maxLen at hs
  have hlb : b.data.toList.length = b.size := by simp
  by_cases h1 : 0 ≤ at' ∧ at' < b.size
  · obtain ⟨k, rfl⟩ : ∃ k : Nat, at' = k := ⟨at'.toNat, by omega⟩
    have hk : k < b.size := by omega
    have hG : getF b.data.toList (k : Int) = if (b[k]).toNat ≤ b.size - (k + 1) then if Lz.norm ((b.data.toList.drop (k + 1)).take (b[k]).toNat) = (b.data.toList.drop (k + 1)).take (b[k]).toNat then ((b.data.toList.drop (k + 1)).take (b[k]).toNat, (k : Int) + 1 + (b[k]).toNat, true) else ([], 0, false) else ([], 0, false) := by
      unfold getF
      rw [hlb, if_pos h1, Int.toNat_natCast]
      have hg : b.data.toList.getD k 0 = b[k] := by
        rw [List.getD_eq_getElem?_getD, List.getElem?_eq_getElem (by omega)]; rfl
      rw [hg]
    have HG := Lib.hid hG
    clear hG h1 hlb
    have hx := b[k].toNat_lt
    have h0 : (0 : Int) ≤ (k : Int) := by omega
    have h2 : (k : Int) < b.size := by omega
    by_cases hc : (b[k]).toNat ≤ b.size - (k + 1)
    · rw [if_pos hc] at HG
      have hm := extract_mid b (k + 1) (b[k]).toNat
      have HM := Lib.hid hm
      have hln : ((b.data.toList.drop (k + 1)).take (b[k]).toNat).length ≤ 256 := by rw [List.length_take]; omega
      clear hm
      have HR := Lib.hid fun W => ref2Right_any (str ((b.data.toList.drop (k + 1)).take (b[k]).toNat)) (by rw [str_size]; omega) W
      rw [lst_str] at HR
      generalize (b.data.toList.drop (k + 1)).take (b[k]).toNat = f at HG HM HR
      have hc2 : ¬ ((b[k].toNat : Int) > (b.size : Int) - (k : Int) - 1) := by omega
      by_cases hf : Lz.norm f = f
      · rw [if_pos hf] at HG
        have hfb : (Lz.norm f == f) = true := by simpa using hf
        rw [hfb] at HR
        rw [HG.out]
        clear hf hfb
        go_enter Tryd.func45, Tryd.ntmps45
        go_wp2_with fail
        rw [HM.out]
        refine (HR.out _).mono ?_
        rintro e w1 ⟨rfl, hb1⟩
        go_wp2
        refine bodyPost_ret (v := .tuple #[.string (str f), .int .i64 ((k : Int) + 1 + (b[k]).toNat), .bool true]) ?_ rfl ⟨rfl, hb1⟩
        simp [results, Tryd.f45, go_sem]
      · rw [if_neg hf] at HG
        have hfb : (Lz.norm f == f) = false := by simpa using hf
        rw [hfb] at HR
        rw [HG.out]
        clear hf hfb
        go_enter Tryd.func45, Tryd.ntmps45
        go_wp2_with fail
        rw [HM.out]
        refine (HR.out _).mono ?_
        rintro e w1 ⟨rfl, hb1⟩
        go_wp2
        refine bodyPost_ret (v := .tuple #[.string ⟨#[]⟩, .int .i64 0, .bool false]) ?_ rfl ⟨rfl, hb1⟩
        simp [results, Tryd.f45, go_sem]
    · rw [if_neg hc] at HG
      rw [HG.out]
      have hc2 : (b.size : Int) - (k : Int) - 1 < (b[k].toNat : Int) := by omega
      go_enter Tryd.func45, Tryd.ntmps45
      go_wp2_with fail
      refine bodyPost_ret (v := .tuple #[.string ⟨#[]⟩, .int .i64 0, .bool false]) ?_ rfl ⟨rfl, Below.refl _ _⟩
      simp [results, Tryd.f45, go_sem]
  · have hG : getF b.data.toList at' = ([], 0, false) := by
      unfold getF; rw [hlb, if_neg h1]
    rw [hG]
    clear hG hlb
    by_cases hneg : at' < 0
    · go_enter Tryd.func45, Tryd.ntmps45
      go_wp2
      refine bodyPost_ret (v := .tuple #[.string ⟨#[]⟩, .int .i64 0, .bool false]) ?_ rfl ⟨rfl, Below.refl _ _⟩
      simp [results, Tryd.f45, go_sem]
    · have hge : (b.size : Int) ≤ at' := by omega
      go_enter Tryd.func45, Tryd.ntmps45
      go_wp2
      refine bodyPost_ret (v := .tuple #[.string ⟨#[]⟩, .int .i64 0, .bool false]) ?_ rfl ⟨rfl, Below.refl _ _⟩
      simp [results, Tryd.f45, go_sem]
end Go.Proofs.YtiagoiannccdmaaDoor
/-! Plain mathematics: what the document's Parse of chapter 2 tells is what parseF tells. No program in sight; no conditions. -/
namespace Go.Proofs.YtiagoiannccdmaaDoor
open Lz
/-- The clauses of words. -/
def clauseOf (ps : List (List UInt8)) : List UInt8 := ps.map fun p => (parseP p).1
theorem clauseOf_snoc (ps : List (List UInt8)) (p : List UInt8) : clauseOf (ps ++ [p]) = clauseOf ps ++ [(parseP p).1] := by simp [clauseOf]
theorem clauseOf_length (ps : List (List UInt8)) : (clauseOf ps).length = ps.length := by simp [clauseOf]
/-- Where the document's loop stands: the words ahead of `from` are read and are clauses; behind it comes no bar up to `i`. -/
def ReadTo (t : List UInt8) (ps : List (List UInt8)) (fr i : Nat) : Prop :=
  (∀ p, p ∈ ps → (parseP p).2 = true) ∧ ((i ≤ t.length ∧ fr ≤ i ∧ pieces 38 t = ps ++ pieces 38 (t.drop fr) ∧ 38 ∉ (t.drop fr).take (i - fr)) ∨ (i = t.length + 1 ∧ pieces 38 t = ps))
theorem readTo_start (t : List UInt8) : ReadTo t [] 0 0 := ⟨(fun p h => by cases h), .inl ⟨by omega, by omega, rfl, by simp⟩⟩
/-- The word that ends at i. -/
def wordAt (t : List UInt8) (fr i : Nat) : List UInt8 := (t.drop fr).take (i - fr)
theorem drop_split {t : List UInt8} {fr i : Nat} (h1 : fr ≤ i) (h2 : i < t.length) : t.drop fr = wordAt t fr i ++ t[i] :: t.drop (i + 1) := by
  unfold wordAt
  have : t.drop fr = (t.drop fr).take (i - fr) ++ (t.drop fr).drop (i - fr) := (List.take_append_drop _ _).symm
  rw [List.drop_drop] at this
  rw [show fr + (i - fr) = i from by omega] at this
  rw [← List.drop_eq_getElem_cons h2]
  exact this
theorem readTo_on {t : List UInt8} {ps : List (List UInt8)} {fr i : Nat} (h : ReadTo t ps fr i) (hi : i < t.length) (hne : t[i] ≠ 38) : ReadTo t ps fr (i + 1) := by
  obtain ⟨h0, h | h⟩ := h
  · obtain ⟨h1, h2, h3, h4⟩ := h
    refine ⟨h0, .inl ⟨by omega, by omega, h3, ?_⟩⟩
    have hl : i - fr < (t.drop fr).length := by rw [List.length_drop]; omega
    rw [show i + 1 - fr = (i - fr) + 1 from by omega, List.take_succ_eq_append_getElem hl]
    intro hm
    rcases List.mem_append.1 hm with hm | hm
    · exact h4 hm
    · rw [List.mem_singleton, List.getElem_drop] at hm
      have : t[fr + (i - fr)]'(by omega) = t[i] := by congr 1; omega
      rw [this] at hm
      exact hne hm.symm
  · omega
theorem readTo_le {t : List UInt8} {ps : List (List UInt8)} {fr i : Nat} (h : ReadTo t ps fr i) (hi : i ≤ t.length) : fr ≤ i ∧ pieces 38 t = ps ++ pieces 38 (t.drop fr) ∧ 38 ∉ wordAt t fr i := by
  obtain ⟨_, h | h⟩ := h
  · exact ⟨h.2.1, h.2.2.1, h.2.2.2⟩
  · omega
theorem readTo_bar {t : List UInt8} {ps : List (List UInt8)} {fr i : Nat} (h : ReadTo t ps fr i) (hi : i < t.length) (he : t[i] = 38) : pieces 38 t = (ps ++ [wordAt t fr i]) ++ pieces 38 (t.drop (i + 1)) := by
  obtain ⟨h1, h2, h3⟩ := readTo_le h (by omega)
  rw [h2, drop_split h1 hi, he, pieces_word 38 _ _ h3, List.append_assoc]
  rfl
theorem readTo_last {t : List UInt8} {ps : List (List UInt8)} {fr : Nat} (h : ReadTo t ps fr t.length) : pieces 38 t = ps ++ [wordAt t fr t.length] := by
  obtain ⟨h1, h2, h3⟩ := readTo_le h (Nat.le_refl _)
  have e : t.drop fr = wordAt t fr t.length := by
    unfold wordAt
    rw [List.take_of_length_le (by rw [List.length_drop]; omega)]
  rw [h2]
  congr 1
  rw [e]
  exact pieces_last 38 _ h3
theorem readTo_word {t : List UInt8} {ps : List (List UInt8)} {fr i : Nat} (h : ReadTo t ps fr i) (hi : i < t.length) (he : t[i] = 38) (hp : (parseP (wordAt t fr i)).2 = true) : ReadTo t (ps ++ [wordAt t fr i]) (i + 1) (i + 1) := by
  refine ⟨fun p hm => ?_, .inl ⟨by omega, by omega, readTo_bar h hi he, by simp⟩⟩
  rcases List.mem_append.1 hm with hm | hm
  · exact h.1 p hm
  · rw [List.mem_singleton] at hm; subst hm; exact hp
theorem readTo_end {t : List UInt8} {ps : List (List UInt8)} {fr : Nat} (h : ReadTo t ps fr t.length) (hp : (parseP (wordAt t fr t.length)).2 = true) : ReadTo t (ps ++ [wordAt t fr t.length]) (t.length + 1) (t.length + 1) := by
  refine ⟨fun p hm => ?_, .inr ⟨rfl, readTo_last h⟩⟩
  rcases List.mem_append.1 hm with hm | hm
  · exact h.1 p hm
  · rw [List.mem_singleton] at hm; subst hm; exact hp
theorem readTo_prefix {t : List UInt8} {ps : List (List UInt8)} {fr i : Nat} (h : ReadTo t ps fr i) (hi : i < t.length → ∀ h : i < t.length, t[i] = 38) (hl : i ≤ t.length) : ps ++ [wordAt t fr i] <+: pieces 38 t := by
  by_cases hlt : i < t.length
  · exact ⟨_, (readTo_bar h hlt (hi hlt hlt)).symm⟩
  · obtain rfl : i = t.length := by omega
    exact ⟨[], by rw [List.append_nil]; exact (readTo_last h).symm⟩
theorem colStep_acc (acc x : List UInt8) : colStep (some acc) x = if (parseP x).2 = true ∧ (parseP x).1 ≠ 0 ∧ acc.length ≠ 64 then some (acc ++ [(parseP x).1]) else none := rfl
theorem colStep_bad {o : Option (List UInt8)} {x : List UInt8} (h : (parseP x).2 = false) : colStep o x = none := by
  cases o with
  | none => rfl
  | some acc => rw [colStep_acc, if_neg]; rw [h]; exact fun e => by cases e.1
theorem col_bad {t : List UInt8} {ps : List (List UInt8)} {x : List UInt8} (h : ps ++ [x] <+: pieces 38 t) (hp : (parseP x).2 = false) : col (pieces 38 t) = none :=
  col_prefix h (by rw [col_snoc]; exact colStep_bad hp)
theorem col_some : ∀ (r : List (List UInt8)) (o : Option (List UInt8)) (f : List UInt8), r.foldl colStep o = some f → ∃ a, o = some a ∧ f = a ++ clauseOf r ∧ ∀ x, x ∈ r → (parseP x).2 = true ∧ (parseP x).1 ≠ 0
  | [], o, f, h => ⟨f, h, by simp [clauseOf], fun x hx => by cases hx⟩
  | x :: r, o, f, h => by
    obtain ⟨a, h1, h2, h3⟩ := col_some r (colStep o x) f h
    cases o with
    | none => cases h1
    | some acc =>
      rw [colStep_acc] at h1
      by_cases hc : (parseP x).2 = true ∧ (parseP x).1 ≠ 0 ∧ acc.length ≠ 64
      · rw [if_pos hc] at h1
        cases h1
        refine ⟨acc, rfl, by rw [h2]; simp [clauseOf], fun y hy => ?_⟩
        rcases List.mem_cons.1 hy with rfl | hy
        · exact ⟨hc.1, hc.2.1⟩
        · exact h3 y hy
      · rw [if_neg hc] at h1; cases h1
theorem pieces_inj (c : UInt8) : ∀ (u v : List UInt8), pieces c u = pieces c v → u = v
  | [], [], _ => rfl
  | [], b :: v, h => by
    unfold pieces at h
    split at h
    · have := congrArg List.length h
      have h2 := pieces_ne c v
      simp at this; exact absurd this h2
    · have := congrArg List.head? h; simp at this
  | b :: u, [], h => by
    unfold pieces at h
    split at h
    · have := congrArg List.length h
      have h2 := pieces_ne c u
      simp at this; exact absurd this h2
    · have := congrArg List.head? h; simp at this
  | b :: u, d :: v, h => by
    unfold pieces at h
    by_cases hb : (b == c) = true
    · rw [if_pos hb] at h
      by_cases hd : (d == c) = true
      · rw [if_pos hd] at h
        rw [eq_of_beq hb, eq_of_beq hd, pieces_inj c u v (List.cons.inj h).2]
      · rw [if_neg hd] at h
        have := (List.cons.inj h).1; cases this
    · rw [if_neg hb] at h
      by_cases hd : (d == c) = true
      · rw [if_pos hd] at h
        have := (List.cons.inj h).1; cases this
      · rw [if_neg hd] at h
        obtain ⟨h1, h2⟩ := List.cons.inj h
        obtain ⟨h3, h4⟩ := List.cons.inj h1
        have e : pieces c u = pieces c v := by rw [← pieces_eta c u, ← pieces_eta c v, h4, h2]
        rw [h3, pieces_inj c u v e]
theorem readTo_len {t : List UInt8} {ps : List (List UInt8)} {fr i : Nat} (h : ReadTo t ps fr i) : ps.length ≤ t.length + 1 := by
  have hl := pieces_length 38 t
  obtain ⟨_, h | h⟩ := h
  · rw [h.2.2.1, List.length_append] at hl; omega
  · rw [h.2] at hl; exact hl
theorem wordAt_extract (b : ByteArray) (fr i : Nat) (h : fr ≤ i) : b.extract fr i = str (wordAt b.data.toList fr i) := by
  apply ByteArray.ext
  rw [← Array.toList_inj]
  simp [str, wordAt, List.extract]
/-- What the document's Parse tells of the clauses of all words. -/
theorem refParse_all {t : List UInt8} {ps : List (List UInt8)} {fr : Nat} (h : ReadTo t ps fr (t.length + 1)) (h1 : (t == [84]) = false) (h2 : (t == [70]) = false) :
    parseF t = if textF (clauseOf ps) = t ∧ norm (clauseOf ps) = clauseOf ps then (clauseOf ps, true) else ([], false) := by
  have hps : pieces 38 t = ps := by
    obtain ⟨_, h | h⟩ := h
    · omega
    · exact h.2
  by_cases hc : textF (clauseOf ps) = t ∧ norm (clauseOf ps) = clauseOf ps
  · rw [if_pos hc]
    have := parseF_textF (clauseOf ps)
    rw [hc.1, hc.2] at this
    exact this
  · rw [if_neg hc]
    cases hcol : col (pieces 38 t) with
    | none => exact parseF_none h1 h2 hcol
    | some f =>
      rw [parseF_some h1 h2 hcol]
      obtain ⟨a, ha, hf, hall⟩ := col_some (pieces 38 t) (some []) f hcol
      cases ha
      rw [List.nil_append, hps] at hf
      subst hf
      by_cases hn : norm (clauseOf ps) = clauseOf ps
      · refine absurd ⟨?_, hn⟩ hc
        have hmem : ∀ c, c ∈ clauseOf ps → c.toNat < 64 ∧ c ≠ 0 := by
          intro c hm
          obtain ⟨x, hx, rfl⟩ := List.mem_map.1 hm
          rw [← hps] at hx
          exact ⟨(parseP_yes (hall x hx).1).1, (hall x hx).2⟩
        have hne : clauseOf ps ≠ [] := by
          intro e
          have hl := clauseOf_length ps
          rw [e] at hl
          have : ps = [] := List.eq_nil_of_length_eq_zero hl.symm
          rw [this] at hps
          exact pieces_ne 38 t hps
        have hn0 : clauseOf ps ≠ [0] := fun e => (hmem 0 (by rw [e]; simp)).2 rfl
        have ht : textF (clauseOf ps) = textC (clauseOf ps) := by
          unfold textF; rw [hn, if_neg hne, if_neg hn0]
        rw [ht]
        apply pieces_inj 38
        rw [pieces_textC _ hne (fun c hm => (hmem c hm).1), hps]
        unfold clauseOf
        rw [List.map_map]
        conv => rhs; rw [← List.map_id ps]
        apply List.map_congr_left
        intro x hx
        rw [← hps] at hx
        exact (parseP_yes (hall x hx).1).2
      · rw [if_neg hn]
end Go.Proofs.YtiagoiannccdmaaDoor
/-! The contract of the document's answer to chapter 2: Text. Condition: the length. -/
namespace Go.Proofs.YtiagoiannccdmaaDoor
open Go.RowKit Go.Shelf
attribute [local go_sem] str_list str_size str_app
theorem refNormE (b : ByteArray) (hb : b.size ≤ 100000) (n : List UInt8) (hn : Lz.norm b.data.toList = n) (w : World) : Calls Tryd.prog 49 #[.string b] w fun e w' => e = .returned (.string (str n)) ∧ Below w.heap.size w w' := by
  subst hn; exact refNorm_any b hb w
theorem joinC_first (c : UInt8) : joinC [] c = textP c := rfl
theorem joinC_more {acc : List UInt8} (h : acc ≠ []) (c : UInt8) : joinC acc c = (acc ++ [38]) ++ textP c := by unfold joinC; rw [if_neg h]
set_option maxRecDepth 100000 in
set_option maxHeartbeats 2000000 in
theorem ref2Text_any (b : ByteArray) (hb : b.size ≤ 100000) (w : World) : Calls Tryd.prog 56 #[.string b] w fun e w' => e = .returned (.string (str (textF b.data.toList))) ∧ Below w.heap.size w w' := by
  have hl := Lz.norm_len64 b.data.toList
  obtain ⟨n, hn⟩ : ∃ n, Lz.norm b.data.toList = n := ⟨_, rfl⟩
  have hT : textF b.data.toList = if n = [] then [84] else if n = [0] then [70] else textC n := by unfold textF; rw [hn]
  rw [hn] at hl
  have HN := Lib.hid fun W => refNormE b hb n hn W
  clear hn
  by_cases h1 : n = []
  · rw [if_pos h1] at hT
    have HT := Lib.hid hT
    clear hT
    subst h1
    go_enter Tryd.func56, Tryd.ntmps56
    go_wp2_with fail
    refine (HN.out _).mono ?_
    rintro e w1 ⟨rfl, hb1⟩
    go_wp2
    go_ret
    exact ⟨by rw [HT.out]; rfl, hb1⟩
  · rw [if_neg h1] at hT
    by_cases h2 : n = [0]
    · rw [if_pos h2] at hT
      have HT := Lib.hid hT
      clear hT h1
      subst h2
      go_enter Tryd.func56, Tryd.ntmps56
      go_wp2_with fail
      refine (HN.out _).mono ?_
      rintro e w1 ⟨rfl, hb1⟩
      go_wp2
      go_ret
      exact ⟨by rw [HT.out]; rfl, hb1⟩
    · rw [if_neg h2] at hT
      have h3 : n.isEmpty = false := by simpa using h1
      have h4 : (n == [0]) = false := by simpa using h2
      rw [← lst_str n] at hT
      have HT := Lib.hid hT
      clear hT h2
      go_enter Tryd.func56, Tryd.ntmps56
      go_wp2_with fail
      refine (HN.out _).mono ?_
      rintro e w1 ⟨rfl, hb1⟩
      go_wp2_with fail
      have hN2 : (str n).size ≤ 64 := hl
      clear h1 h3 h4 hl HN
      generalize str n = N at HT hN2 ⊢
      go_loopw [4, 5] (fun s i wr => ∃ k : Nat, k ≤ N.size ∧ i = .int .i64 k ∧ s = .string (str (textC (N.data.toList.take k))) ∧ Below w.heap.size w wr) (fun _ i _ => N.size - (intOf i).toNat)
      case atStart => exact ⟨0, Nat.zero_le _, rfl, rfl, hb1⟩
      case round =>
        obtain ⟨k, hk, rfl, rfl, hB⟩ := hrel
        by_cases hlt : k < N.size
        · have hst : textC (N.data.toList.take (k + 1)) = joinC (textC (N.data.toList.take k)) N[k] := by rw [btake_succ N k hlt, textC_snoc]
          have hll : (textC (N.data.toList.take k)).length ≤ 1000 := by
            have := textC_length (N.data.toList.take k)
            rw [List.length_take] at this; omega
          have hpl := textP_len N[k]
          have HX := Lib.hid fun W => refText_any (N[k].toNat : Int) N[k] rfl W
          by_cases h0 : k = 0
          · subst h0
            have hst2 : textC (N.data.toList.take (0 + 1)) = textP N[0] := by rw [hst]; rfl
            have HST := Lib.hid hst2
            clear hst hst2 hll
            generalize textP N[0] = P at HST HX hpl
            have he : textC (N.data.toList.take 0) = [] := rfl
            rw [he]
            clear he
            go_wp2_with fail
            refine (HX.out _).mono ?_
            rintro e w2 ⟨rfl, hb2⟩
            go_wp2
            go_roundw
            case rel => exact ⟨0 + 1, by omega, by go_num, by rw [HST.out], hB.trans (hb2.mono hB.size)⟩
            case measure => simp [intOf]; omega
          · have hne : textC (N.data.toList.take k) ≠ [] := textC_ne (by
              intro e
              have h5 : (N.data.toList.take k).length = 0 := by rw [e]; rfl
              have h6 : N.data.toList.length = N.size := by simp
              rw [List.length_take] at h5
              omega)
            rw [joinC_more hne] at hst
            have HST := Lib.hid hst
            have hk0 : 0 < (k : Int) := by omega
            clear hst hne h0
            generalize textP N[k] = P at HST HX hpl
            generalize textC (N.data.toList.take k) = L at HST hll ⊢
            go_wp2_with fail
            refine (HX.out _).mono ?_
            rintro e w2 ⟨rfl, hb2⟩
            go_wp2
            go_roundw
            case rel => exact ⟨k + 1, by omega, by go_num, by rw [HST.out, ← str_app, ← str_app]; rfl, hB.trans (hb2.mono hB.size)⟩
            case measure => simp [intOf]; omega
        · obtain rfl : k = N.size := by omega
          have hall : N.data.toList.take N.size = N.data.toList := List.take_of_length_le (by simp)
          rw [hall, ← HT.out]
          clear hall
          go_wp2
          go_ret
          exact ⟨rfl, hB⟩
end Go.Proofs.YtiagoiannccdmaaDoor
/-! The contract of the document's answer to chapter 2: Parse. Condition: the length. -/
namespace Go.Proofs.YtiagoiannccdmaaDoor
open Go.RowKit Go.Shelf
attribute [local go_sem] str_list str_size str_app
set_option maxRecDepth 100000 in
set_option maxHeartbeats 4000000 in
theorem ref2Parse_any (b : ByteArray) (hb : b.size ≤ 1000) (w : World) : Calls Tryd.prog 48 #[.string b] w fun e w' => e = .returned (.tuple #[.string (str (parseF b.data.toList).1), .bool (parseF b.data.toList).2]) ∧ Below w.heap.size w w' := by
  have hlb : b.data.toList.length = b.size := by simp
  by_cases hT : b.data.toList = [84]
  · have hb2 : b = ⟨#[84]⟩ := by apply ByteArray.ext; rw [← Array.toList_inj]; exact hT
    subst hb2
    go_enter Tryd.func48, Tryd.ntmps48
    go_wp2
    refine bodyPost_ret (v := .tuple #[.string ⟨#[]⟩, .bool true]) ?_ rfl ⟨rfl, Below.refl _ _⟩
    simp [results, Tryd.f48, go_sem]
  · by_cases hF : b.data.toList = [70]
    · have hb2 : b = ⟨#[70]⟩ := by apply ByteArray.ext; rw [← Array.toList_inj]; exact hF
      subst hb2
      go_enter Tryd.func48, Tryd.ntmps48
      go_wp2
      refine bodyPost_ret (v := .tuple #[.string ⟨#[0]⟩, .bool true]) ?_ rfl ⟨rfl, Below.refl _ _⟩
      simp [results, Tryd.f48, go_sem]
    · have h1 : (b.data.toList == [84]) = false := by simpa using hT
      have h2 : (b.data.toList == [70]) = false := by simpa using hF
      have h1t : (b.toList == [84]) = false := by rw [ByteArray.toList_eq]; exact h1
      have h2t : (b.toList == [70]) = false := by rw [ByteArray.toList_eq]; exact h2
      have HE := Lib.hid fun (ps : List (List UInt8)) (fr : Nat) (h : ReadTo b.data.toList ps fr (b.size + 1)) => refParse_all (t := b.data.toList) (by rw [hlb]; exact h) h1 h2
      have HBAD := Lib.hid fun (h : Lz.pieces 38 b.data.toList = Lz.pieces 38 b.data.toList ∧ col (Lz.pieces 38 b.data.toList) = none) => parseF_none h1 h2 h.2
      have HLB := Lib.hid hlb
      clear hT hF h1 h2 hlb
      generalize hr : parseF b.data.toList = r at HE HBAD ⊢
      clear hr
      go_enter Tryd.func48, Tryd.ntmps48
      go_wp2_with fail
      go_loopw [4, 5, 6, 7, 8] (fun f fr i _ _ wr => ∃ (k q : Nat) (ps : List (List UInt8)), k ≤ b.size + 1 ∧ q ≤ k ∧ i = .int .i64 k ∧ fr = .int .i64 q ∧ f = .string (str (clauseOf ps)) ∧ ReadTo b.data.toList ps q k ∧ Below w.heap.size w wr) (fun _ _ i _ _ _ => b.size + 1 - (intOf i).toNat)
      case atStart => exact ⟨0, 0, [], Nat.zero_le _, Nat.le_refl _, rfl, rfl, rfl, readTo_start _, Below.refl _ _⟩
      case round =>
        obtain ⟨k, q, ps, hk, hqk, rfl, rfl, rfl, hrd, hB⟩ := hrel
        have hpl : (clauseOf ps).length ≤ 1001 := by
          have := readTo_len hrd
          rw [HLB.out] at this
          rw [clauseOf_length]; omega
        have HRD := Lib.hid hrd
        clear hrd
        by_cases hlt : k < b.size + 1
        · have hkl : (k : Int) ≤ b.size := by omega
          by_cases hon : ∃ h : k < b.size, b[k] ≠ 38
          · obtain ⟨hlt2, hne⟩ := hon
            have hne2 : ¬ ((b[k].toNat : Int) = 38) := by
              intro e
              apply hne
              apply UInt8.toNat_inj.1
              show b[k].toNat = 38
              omega
            have HO := Lib.hid (readTo_on HRD.out (by rw [HLB.out]; exact hlt2) hne)
            clear hne
            go_wp2
            go_roundw
            case rel => exact ⟨k + 1, q, ps, by omega, by omega, by go_num, rfl, rfl, HO.out, hB⟩
            case measure => simp [intOf]; omega
          · have hbar : ∀ h : k < b.size, b[k] = 38 := fun h => by
              by_cases e : b[k] = 38
              · exact e
              · exact absurd ⟨h, e⟩ hon
            have HPRE := Lib.hid (readTo_prefix HRD.out (fun _ h => hbar (by rw [HLB.out] at h; exact h)) (by rw [HLB.out]; omega))
            have HX := Lib.hid (wordAt_extract b q k hqk)
            have HP := Lib.hid fun W => refParse_any (wordAt b.data.toList q k) W
            have HSN := Lib.hid (clauseOf_snoc ps (wordAt b.data.toList q k))
            have HGO := Lib.hid (show (parseP (wordAt b.data.toList q k)).2 = true → ReadTo b.data.toList (ps ++ [wordAt b.data.toList q k]) (k + 1) (k + 1) from fun h => by
              by_cases hlt2 : k < b.size
              · exact readTo_word HRD.out (by rw [HLB.out]; exact hlt2) (hbar hlt2) h
              · obtain rfl : k = b.size := by omega
                have := readTo_end (t := b.data.toList) (ps := ps) (fr := q) (by rw [HLB.out]; exact HRD.out) (by rw [HLB.out]; exact h)
                rw [HLB.out] at this
                exact this)
            have HB2 := Lib.hid (show (parseP (wordAt b.data.toList q k)).2 = false → r = ([], false) from fun h => HBAD.out ⟨by trivial, col_bad HPRE.out h⟩)
            have h8 := (parseP (wordAt b.data.toList q k)).1.toNat_lt
            generalize hps : ps ++ [wordAt b.data.toList q k] = ps2 at HSN HGO
            generalize hpr : parseP (wordAt b.data.toList q k) = pr at HP HSN HGO HB2 h8
            obtain ⟨c, ok⟩ := pr
            have hcv := fun W => one_byte W (c.toNat : Int) c rfl
            clear hps hpr
            have hq0 : (0 : Int) ≤ (q : Int) := by omega
            have hqk2 : (q : Int) ≤ (k : Int) := by omega
            generalize clauseOf ps = L at HSN hpl ⊢
            by_cases hlt2 : k < b.size
            · have he : (b[k].toNat : Int) = 38 := by rw [hbar hlt2]; rfl
              clear hbar hon
              cases ok with
              | false =>
                have HR := Lib.hid (HB2.out (by trivial))
                go_wp2_with fail
                rw [HX.out]
                refine (HP.out _).mono ?_
                rintro e w2 ⟨rfl, hb2⟩
                go_wp2
                refine bodyPost_ret (v := .tuple #[.string ⟨#[]⟩, .bool false]) ?_ rfl ⟨by rw [HR.out]; rfl, hB.trans (hb2.mono hB.size)⟩
                simp [results, Tryd.f48, go_sem]
              | true =>
                have HG := Lib.hid (HGO.out (by trivial))
                go_wp2_with fail
                rw [HX.out]
                refine (HP.out _).mono ?_
                rintro e w2 ⟨rfl, hb2⟩
                go_wp2
                go_roundw
                case rel => exact ⟨k + 1, k + 1, ps2, by omega, by omega, by go_num, by go_num, by rw [HSN.out], HG.out, (hB.trans (hb2.mono hB.size)).alloc (hB.trans (hb2.mono hB.size)).size _⟩
                case measure => simp [intOf]; omega
            · have he : (b.size : Int) ≤ (k : Int) := by omega
              have he2 : ¬ ((k : Int) < b.size) := by omega
              clear hbar hon
              cases ok with
              | false =>
                have HR := Lib.hid (HB2.out (by trivial))
                go_wp2_with fail
                rw [HX.out]
                refine (HP.out _).mono ?_
                rintro e w2 ⟨rfl, hb2⟩
                go_wp2
                refine bodyPost_ret (v := .tuple #[.string ⟨#[]⟩, .bool false]) ?_ rfl ⟨by rw [HR.out]; rfl, hB.trans (hb2.mono hB.size)⟩
                simp [results, Tryd.f48, go_sem]
              | true =>
                have HG := Lib.hid (HGO.out (by trivial))
                go_wp2_with fail
                rw [HX.out]
                refine (HP.out _).mono ?_
                rintro e w2 ⟨rfl, hb2⟩
                go_wp2
                go_roundw
                case rel => exact ⟨k + 1, k + 1, ps2, by omega, by omega, by go_num, by go_num, by rw [HSN.out], HG.out, (hB.trans (hb2.mono hB.size)).alloc (hB.trans (hb2.mono hB.size)).size _⟩
                case measure => simp [intOf]; omega
        · obtain rfl : k = b.size + 1 := by omega
          have he2 : (b.size : Int) < ((b.size + 1 : Nat) : Int) := by omega
          have HR := Lib.hid (HE.out ps q HRD.out)
          have HX := Lib.hid fun W => ref2Text_any (str (clauseOf ps)) (by rw [str_size]; omega) W
          have HY := Lib.hid fun W => ref2Right_any (str (clauseOf ps)) (by rw [str_size]; omega) W
          rw [lst_str] at HX HY
          have HBL := Lib.hid (ByteArray.toList_eq b)
          generalize clauseOf ps = F at HR HX HY hpl ⊢
          generalize textF F = X at HR HX
          cases hq : (X == b.toList) with
          | false =>
            have hqn : ¬ X = b.data.toList := by rw [← ByteArray.toList_eq]; simpa using hq
            have HR2 := Lib.hid (show r = ([], false) from by rw [HR.out, if_neg (fun h => hqn h.1)])
            clear hqn
            go_wp2_with fail
            refine (HX.out _).mono ?_
            rintro e w2 ⟨rfl, hb2⟩
            go_wp2
            refine bodyPost_ret (v := .tuple #[.string ⟨#[]⟩, .bool false]) ?_ rfl ⟨by rw [HR2.out]; rfl, hB.trans (hb2.mono hB.size)⟩
            simp [results, Tryd.f48, go_sem]
          | true =>
            have hqy : X = b.data.toList := by rw [← ByteArray.toList_eq]; exact eq_of_beq hq
            by_cases hn : Lz.norm F = F
            · have hnb : (Lz.norm F == F) = true := by simpa using hn
              rw [hnb] at HY
              have HR2 := Lib.hid (show r = (F, true) from by rw [HR.out, if_pos ⟨hqy, hn⟩])
              clear hqy hn hnb
              go_wp2_with fail
              refine (HX.out _).mono ?_
              rintro e w2 ⟨rfl, hb2⟩
              have hB2 := hB.trans (hb2.mono hB.size)
              go_wp2_with fail
              refine (HY.out _).mono ?_
              rintro e w3 ⟨rfl, hb3⟩
              go_wp2
              refine bodyPost_ret (v := .tuple #[.string (str F), .bool true]) ?_ rfl ⟨by rw [HR2.out], hB2.trans (hb3.mono hB2.size)⟩
              simp [results, Tryd.f48, go_sem]
            · have hnb : (Lz.norm F == F) = false := by simpa using hn
              rw [hnb] at HY
              have HR2 := Lib.hid (show r = ([], false) from by rw [HR.out, if_neg (fun h => hn h.2)])
              clear hqy hn hnb
              go_wp2_with fail
              refine (HX.out _).mono ?_
              rintro e w2 ⟨rfl, hb2⟩
              have hB2 := hB.trans (hb2.mono hB.size)
              go_wp2_with fail
              refine (HY.out _).mono ?_
              rintro e w3 ⟨rfl, hb3⟩
              go_wp2
              refine bodyPost_ret (v := .tuple #[.string ⟨#[]⟩, .bool false]) ?_ rfl ⟨by rw [HR2.out]; rfl, hB2.trans (hb3.mono hB2.size)⟩
              simp [results, Tryd.f48, go_sem]
end Go.Proofs.YtiagoiannccdmaaDoor
/-! The contracts of the law's ref, alike of labels. No conditions. -/
namespace Go.Proofs.YtiagoiannccdmaaDoor
open Go.RowKit Go.Shelf
attribute [local go_sem] str_list str_size
abbrev BoxR (W : World) (B : Nat) (a : Lz.Lab) : Prop := Box2 W B 36 (.string (str a.1)) (.string (str a.2))
set_option maxRecDepth 100000 in
set_option maxHeartbeats 1000000 in
theorem ref_p (a : Lz.Lab) (w : World) : Calls Tryd.prog 24 #[pv a] w fun e w' => e = .returned (pv a) ∧ Below w.heap.size w w' := by
  go_enter Tryd.func24, Tryd.ntmps24
  go_wp2
  refine bodyPost_ret (v := pv a) ?_ rfl ⟨rfl, ((Below.refl _ w).alloc (Nat.le_refl _) _).alloc (by simp) _⟩
  simp [results, Tryd.f24, go_sem]
set_option maxRecDepth 100000 in
set_option maxHeartbeats 1000000 in
theorem alike_p (a : Lz.Lab) (w : World) : Calls Tryd.prog 22 #[pv a, pv a] w fun e w' => e = .returned (.bool true) ∧ Below w.heap.size w w' := by
  go_enter Tryd.func22, Tryd.ntmps22
  go_wp2
  go_ret
  exact ⟨rfl, ((Below.refl _ w).alloc (Nat.le_refl _) _).alloc (by simp) _⟩
end Go.Proofs.YtiagoiannccdmaaDoor
/-! The contracts of the document's answer to chapter 3: Put, Text, Get, Low, High, Flows. Condition: the lengths. -/
namespace Go.Proofs.YtiagoiannccdmaaDoor
open Go.RowKit Go.Shelf
/-- Labels of a few clauses. -/
def okR (a : Lz.Lab) : Prop := a.1.length ≤ 1000 ∧ a.2.length ≤ 1000
theorem strR {l : List UInt8} (h : l.length ≤ 1000) : (str l).size ≤ 100000 := Nat.le_trans h (by decide)
theorem strR2 {l : List UInt8} (h : l.length ≤ 1000) : (str l).size ≤ 50000 := Nat.le_trans h (by decide)
attribute [local go_sem] str_list str_size str_cat
set_option maxRecDepth 100000 in
set_option maxHeartbeats 1000000 in
theorem ref3Put_p (a : Lz.Lab) (ha : okR a) (w : World) : Calls Tryd.prog 30 #[pv a] w fun e w' => e = .returned (.string (str (putLb a))) ∧ Below w.heap.size w w' := by
  have bL : BoxR (w.alloc (.cells #[.string (str a.1), .string (str a.2)] 36)) w.heap.size a := Box2.new w _ _ _
  have hA : Below w.heap.size w (w.alloc (.cells #[.string (str a.1), .string (str a.2)] 36)) := (Below.refl _ w).alloc (Nat.le_refl _) _
  have k0 := cell_regrown bL.cell0
  have k1 := cell_regrown bL.cell1
  have r0 := quiet_call (w := w.alloc (.cells #[.string (str a.1), .string (str a.2)] 36)) (fun W _ => refPut_any (str a.1) (strR ha.1) W)
  have r1 := quiet_call (w := w.alloc (.cells #[.string (str a.1), .string (str a.2)] 36)) (fun W _ => refPut_any (str a.2) (strR ha.2) W)
  have l0 := putL_len65 a.1
  have l1 := putL_len65 a.2
  rw [lst_str] at r0 r1
  have mixed := mixedOrders
  go_enter Tryd.func30, Tryd.ntmps30
  go_wp2_with fail
  refine wp_region_quiet_below mixed (by kernel_rfl) ?_
  repeat (go_big_quiet_step (fail))
  go_big_quiet_step (exact r0 _ _)
  repeat (go_big_quiet_step (fail))
  go_big_quiet_step (exact r1 _ _)
  repeat (go_big_quiet_step (fail))
  refine wpQuiet_nil ?_
  intro W1 hw'
  have hb1 := below_of_regrown hw'
  clear hw' k0 k1 r0 r1
  go_wp2
  go_ret
  exact ⟨rfl, hA.trans (hb1.mono hA.size)⟩
set_option maxRecDepth 100000 in
set_option maxHeartbeats 1000000 in
theorem ref3Text_p (a : Lz.Lab) (ha : okR a) (w : World) : Calls Tryd.prog 32 #[pv a] w fun e w' => e = .returned (.string (str (textLb a))) ∧ Below w.heap.size w w' := by
  have bL : BoxR (w.alloc (.cells #[.string (str a.1), .string (str a.2)] 36)) w.heap.size a := Box2.new w _ _ _
  have hA : Below w.heap.size w (w.alloc (.cells #[.string (str a.1), .string (str a.2)] 36)) := (Below.refl _ w).alloc (Nat.le_refl _) _
  have k0 := cell_regrown bL.cell0
  have k1 := cell_regrown bL.cell1
  have r0 := quiet_call (w := w.alloc (.cells #[.string (str a.1), .string (str a.2)] 36)) (fun W _ => ref2Text_any (str a.1) (strR ha.1) W)
  have r1 := quiet_call (w := w.alloc (.cells #[.string (str a.1), .string (str a.2)] 36)) (fun W _ => ref2Text_any (str a.2) (strR ha.2) W)
  have l0 := textF_len a.1
  have l1 := textF_len a.2
  have hcat : str (textF a.1) ++ ⟨#[47]⟩ = str (textF a.1 ++ [47]) := str_cat _ [47]
  have hcl : (textF a.1 ++ [47]).length ≤ 1001 := by rw [List.length_append]; simp; omega
  rw [lst_str] at r0 r1
  have mixed := mixedOrders
  go_enter Tryd.func32, Tryd.ntmps32
  go_wp2_with fail
  refine wp_region_quiet_below mixed (by kernel_rfl) ?_
  repeat (go_big_quiet_step (fail))
  go_big_quiet_step (exact r0 _ _)
  repeat (go_big_quiet_step (fail))
  go_big_quiet_step (exact r1 _ _)
  repeat (go_big_quiet_step (fail))
  refine wpQuiet_nil ?_
  intro W1 hw'
  have hb1 := below_of_regrown hw'
  clear hw' k0 k1 r0 r1
  go_wp2
  go_ret
  refine ⟨?_, hA.trans (hb1.mono hA.size)⟩
  unfold textLb
  simp
set_option maxRecDepth 100000 in
set_option maxHeartbeats 2000000 in
theorem ref3Get_p (s : List UInt8) (hs : s.length ≤ maxLen) (at' : Int) (w : World) : Calls Tryd.prog 19 #[.string (str s), .int .i64 at'] w fun e w' => e = .returned (.tuple #[pv (getLb s at').1, .int .i64 (getLb s at').2.1, .bool (getLb s at').2.2]) ∧ Below w.heap.size w w' := by
  have bR := Box2.new w 36 (.string ⟨#[]⟩) (.string ⟨#[]⟩)
  have hA : Below w.heap.size w (w.alloc (.cells #[.string ⟨#[]⟩, .string ⟨#[]⟩] 36)) := (Below.refl _ w).alloc (Nat.le_refl _) _
  have HP := Lib.hid (show getLb s at' = if (getF s at').2.2 = true then if (getF s (getF s at').2.1).2.2 = true then (((getF s at').1, (getF s (getF s at').2.1).1), (getF s (getF s at').2.1).2.1, true) else (([], []), 0, false) else (([], []), 0, false) from rfl)
  have HX := Lib.hid (fun W => refGet_any (str s) hs at' W)
  have HY := Lib.hid (fun W => refGet_any (str s) hs (getF s at').2.1 W)
  rw [lst_str] at HX HY
  generalize getLb s at' = res at HP ⊢
  generalize hg : getF s at' = g at HX HY HP
  clear hg
  obtain ⟨f, m, o⟩ := g
  simp only at HX HY HP
  generalize getF s m = g at HY HP
  obtain ⟨f2, m2, o2⟩ := g
  simp only at HY HP
  unfold maxLen at hs
  cases o with
  | false =>
    rw [if_neg (by decide)] at HP
    rw [HP.out]
    go_enter Tryd.func19, Tryd.ntmps19
    go_wp2_with fail
    refine (HX.out _).mono ?_
    rintro e w1 ⟨rfl, hb1⟩
    have b1 := bR.below hb1 bR.lt
    have hB1 := hA.trans (hb1.mono hA.size)
    clear bR hA hb1
    have c0 := b1.cell0
    have c1 := b1.cell1
    have f0 := b1.frozen 0
    have f1 := b1.frozen 1
    go_wp2
    have b3 := box2_set1 (q := .string ⟨#[]⟩) (box2_set0 (q := .string ⟨#[]⟩) b1)
    have d0 := b3.cell0
    have d1 := b3.cell1
    refine bodyPost_ret (v := .tuple #[.agg #[.string ⟨#[]⟩, .string ⟨#[]⟩], .int .i64 0, .bool false]) ?_ rfl ⟨rfl, (hB1.setCell (p := ⟨w.heap.size, 0, none⟩) (Nat.le_refl _) _).setCell (p := ⟨w.heap.size, 1, none⟩) (Nat.le_refl _) _⟩
    simp [results, Tryd.f19, go_sem, d0, d1]
  | true =>
    rw [if_pos rfl] at HP
    cases o2 with
    | false =>
      rw [if_neg (by decide)] at HP
      rw [HP.out]
      go_enter Tryd.func19, Tryd.ntmps19
      go_wp2_with fail
      refine (HX.out _).mono ?_
      rintro e w1 ⟨rfl, hb1⟩
      have b1 := bR.below hb1 bR.lt
      have hB1 := hA.trans (hb1.mono hA.size)
      clear bR hA hb1
      go_wp2_with fail
      refine (HY.out _).mono ?_
      rintro e w2 ⟨rfl, hb2⟩
      have b2 := b1.below hb2 b1.lt
      have hB2 := hB1.trans (hb2.mono hB1.size)
      clear b1 hB1 hb2
      have c0 := b2.cell0
      have c1 := b2.cell1
      have f0 := b2.frozen 0
      have f1 := b2.frozen 1
      go_wp2
      have b3 := box2_set1 (q := .string ⟨#[]⟩) (box2_set0 (q := .string ⟨#[]⟩) b2)
      have d0 := b3.cell0
      have d1 := b3.cell1
      refine bodyPost_ret (v := .tuple #[.agg #[.string ⟨#[]⟩, .string ⟨#[]⟩], .int .i64 0, .bool false]) ?_ rfl ⟨rfl, (hB2.setCell (p := ⟨w.heap.size, 0, none⟩) (Nat.le_refl _) _).setCell (p := ⟨w.heap.size, 1, none⟩) (Nat.le_refl _) _⟩
      simp [results, Tryd.f19, go_sem, d0, d1]
    | true =>
      rw [if_pos rfl] at HP
      rw [HP.out]
      go_enter Tryd.func19, Tryd.ntmps19
      go_wp2_with fail
      refine (HX.out _).mono ?_
      rintro e w1 ⟨rfl, hb1⟩
      have b1 := bR.below hb1 bR.lt
      have hB1 := hA.trans (hb1.mono hA.size)
      clear bR hA hb1
      go_wp2_with fail
      refine (HY.out _).mono ?_
      rintro e w2 ⟨rfl, hb2⟩
      have b2 := b1.below hb2 b1.lt
      have hB2 := hB1.trans (hb2.mono hB1.size)
      clear b1 hB1 hb2
      have c0 := b2.cell0
      have c1 := b2.cell1
      have f0 := b2.frozen 0
      have f1 := b2.frozen 1
      go_wp2
      have b3 := box2_set1 (q := .string (str f2)) (box2_set0 (q := .string (str f)) b2)
      have d0 := b3.cell0
      have d1 := b3.cell1
      refine bodyPost_ret (v := .tuple #[.agg #[.string (str f), .string (str f2)], .int .i64 m2, .bool true]) ?_ rfl ⟨rfl, (hB2.setCell (p := ⟨w.heap.size, 0, none⟩) (Nat.le_refl _) _).setCell (p := ⟨w.heap.size, 1, none⟩) (Nat.le_refl _) _⟩
      simp [results, Tryd.f19, go_sem, d0, d1]
set_option maxRecDepth 100000 in
set_option maxHeartbeats 1000000 in
theorem ref3Low_p (w : World) : Calls Tryd.prog 33 #[] w fun e w' => e = .returned (pv Lz.low) ∧ Below w.heap.size w w' := by
  go_enter Tryd.func33, Tryd.ntmps33
  go_wp2
  refine bodyPost_ret (v := .agg #[.string ⟨#[]⟩, .string ⟨#[0]⟩]) ?_ rfl ⟨rfl, (Below.refl _ w).alloc (Nat.le_refl _) _⟩
  simp [results, Tryd.f33, go_sem]
set_option maxRecDepth 100000 in
set_option maxHeartbeats 1000000 in
theorem ref3High_p (w : World) : Calls Tryd.prog 34 #[] w fun e w' => e = .returned (pv Lz.high) ∧ Below w.heap.size w w' := by
  go_enter Tryd.func34, Tryd.ntmps34
  go_wp2
  refine bodyPost_ret (v := .agg #[.string ⟨#[0]⟩, .string ⟨#[]⟩]) ?_ rfl ⟨rfl, (Below.refl _ w).alloc (Nat.le_refl _) _⟩
  simp [results, Tryd.f34, go_sem]
set_option maxRecDepth 100000 in
set_option maxHeartbeats 1000000 in
theorem ref3Flows_p (a b : Lz.Lab) (ha : okR a) (hb : okR b) (w : World) : Calls Tryd.prog 26 #[pv a, pv b] w fun e w' => e = .returned (.bool (Lz.fl a b)) ∧ Below w.heap.size w w' := by
  have bA : BoxR ((w.alloc (.cells #[.string (str a.1), .string (str a.2)] 36)).alloc (.cells #[.string (str b.1), .string (str b.2)] 36)) w.heap.size a := (Box2.new w _ _ _).alloc _
  have bB := Box2.new (w.alloc (.cells #[.string (str a.1), .string (str a.2)] 36)) 36 (.string (str b.1)) (.string (str b.2))
  rw [World.size_alloc] at bB
  have hA : Below w.heap.size w ((w.alloc (.cells #[.string (str a.1), .string (str a.2)] 36)).alloc (.cells #[.string (str b.1), .string (str b.2)] 36)) := ((Below.refl _ w).alloc (Nat.le_refl _) _).alloc (by simp) _
  have HF := Lib.hid (show Lz.fl a b = (Lz.implies b.1 a.1 && Lz.implies a.2 b.2) from rfl)
  have C1 := Lib.hid fun W => refImplies_any (str b.1) (str a.1) (strR hb.1) (strR ha.1) W
  have C2 := Lib.hid fun W => refImplies_any (str a.2) (str b.2) (strR ha.2) (strR hb.2) W
  simp only [lst_str] at C1 C2
  generalize Lz.implies b.1 a.1 = u at HF C1
  generalize Lz.implies a.2 b.2 = v at HF C2
  go_enter Tryd.func26, Tryd.ntmps26
  go_wp2_with fail
  generalize ((w.alloc (.cells #[.string (str a.1), .string (str a.2)] 36)).alloc (.cells #[.string (str b.1), .string (str b.2)] 36)) = wA at bA bB hA ⊢
  refine (C1.out _).mono ?_
  rintro e w1 ⟨rfl, hb1⟩
  have A1 := bA.below hb1 bA.lt
  have B1 := bB.below hb1 bB.lt
  have hB1 := hA.trans (hb1.mono hA.size)
  have g0 := A1.cell0
  have g1 := A1.cell1
  have g2 := B1.cell0
  have g3 := B1.cell1
  cases u with
  | false =>
    go_wp2
    go_ret
    exact ⟨by rw [HF.out]; rfl, hB1⟩
  | true =>
    go_wp2_with fail
    refine (C2.out _).mono ?_
    rintro e w2 ⟨rfl, hb2⟩
    go_wp2
    go_ret
    exact ⟨by rw [HF.out]; rfl, hB1.trans (hb2.mono hB1.size)⟩
end Go.Proofs.YtiagoiannccdmaaDoor
/-! The contracts of the document's answer to chapter 3: Norm, Join, Meet. Condition: the lengths. -/
namespace Go.Proofs.YtiagoiannccdmaaDoor
open Go.RowKit Go.Shelf
theorem set2 {W : World} {b j k : Nat} {v a1 a2 : Value} (hne : b ≠ k) (h : W.cell? ⟨b, j, none⟩ = some v) : ((W.setCell ⟨k, 0, none⟩ a1).setCell ⟨k, 1, none⟩ a2).cell? ⟨b, j, none⟩ = some v := by
  have e : ((W.setCell ⟨k, 0, none⟩ a1).setCell ⟨k, 1, none⟩ a2).heap[b]? = W.heap[b]? := (Below.heap_setCell _ _ _ _ hne).trans (Below.heap_setCell _ _ _ _ hne)
  unfold World.cell? at h ⊢
  simp only [e]
  exact h
set_option maxRecDepth 100000 in
set_option maxHeartbeats 2000000 in
theorem ref3Norm_p (a : Lz.Lab) (ha : okR a) (w : World) : Calls Tryd.prog 23 #[pv a] w fun e w' => e = .returned (pv (Lz.nrm a)) ∧ Below w.heap.size w w' := by
  have bL : BoxR ((w.alloc (.cells #[.string (str a.1), .string (str a.2)] 36)).alloc (.cells #[.string ⟨#[]⟩, .string ⟨#[]⟩] 36)) w.heap.size a := (Box2.new w _ _ _).alloc _
  have bR := Box2.new (w.alloc (.cells #[.string (str a.1), .string (str a.2)] 36)) 36 (.string ⟨#[]⟩) (.string ⟨#[]⟩)
  rw [World.size_alloc] at bR
  have hA : Below w.heap.size w ((w.alloc (.cells #[.string (str a.1), .string (str a.2)] 36)).alloc (.cells #[.string ⟨#[]⟩, .string ⟨#[]⟩] 36)) := ((Below.refl _ w).alloc (Nat.le_refl _) _).alloc (by simp) _
  have mixed := mixedOrders
  have C1 := Lib.hid fun W => refNorm_any (str a.1) (strR ha.1) W
  have C2 := Lib.hid fun W => refNorm_any (str a.2) (strR ha.2) W
  simp only [lst_str] at C1 C2
  have HV := Lib.hid (show pv (Lz.nrm a) = .agg #[.string (str (Lz.norm a.1)), .string (str (Lz.norm a.2))] from rfl)
  generalize Lz.norm a.1 = x at C1 HV
  generalize Lz.norm a.2 = y at C2 HV
  go_enter Tryd.func23, Tryd.ntmps23
  go_wp2_with fail
  generalize ((w.alloc (.cells #[.string (str a.1), .string (str a.2)] 36)).alloc (.cells #[.string ⟨#[]⟩, .string ⟨#[]⟩] 36)) = wA at bL bR hA ⊢
  have c0 := bL.cell0
  have c1 := bL.cell1
  have bLd : BoxR wA.drew w.heap.size a := bL
  have bRd : Box2 wA.drew (w.heap.size + 1) 36 (.string ⟨#[]⟩) (.string ⟨#[]⟩) := bR
  have hAd : Below w.heap.size w wA.drew := ⟨hA.os, hA.tape, hA.output, hA.size, hA.block⟩
  clear bL bR hA
  have mark := True.intro
  go_region_held3 (fun w' => w'.cell? ⟨w.heap.size, 0, none⟩ = some (.string (str a.1)) ∧ w'.cell? ⟨w.heap.size, 1, none⟩ = some (.string (str a.2))) (first | exact ⟨c0, c1⟩ | go_keep)
    (first
      | (go_at_call 49; clear mark; refine (C1.out _).mono ?_; rintro e w1 ⟨rfl, hb1⟩; have bL1 := bLd.below hb1 bLd.lt; have bR1 := bRd.below hb1 bRd.lt; have hB1 := hAd.trans (hb1.mono hAd.size); have c0 := bL1.cell0; have c1 := bL1.cell1)
      | (go_at_call 49; refine (C2.out _).mono ?_; rintro e w2 ⟨rfl, hb2⟩; have bL2 := bL1.below hb2 bL1.lt; have bR2 := bR1.below hb2 bR1.lt; have hB2 := hB1.trans (hb2.mono hB1.size); have c0 := bL2.cell0; have c1 := bL2.cell1; have d0 := bR2.cell0; have d1 := bR2.cell1; have f0 := bR2.frozen 0; have f1 := bR2.frozen 1))
  go_wp2
  have bR4 := box2_set1 (q := .string (str y)) (box2_set0 (q := .string (str x)) bR2)
  have e0 := bR4.cell0
  have e1 := bR4.cell1
  refine bodyPost_ret (v := .agg #[.string (str x), .string (str y)]) ?_ rfl ⟨by rw [HV.out], (hB2.setCell (p := ⟨w.heap.size + 1, 0, none⟩) (show w.heap.size ≤ w.heap.size + 1 by omega) _).setCell (p := ⟨w.heap.size + 1, 1, none⟩) (show w.heap.size ≤ w.heap.size + 1 by omega) _⟩
  simp [results, Tryd.f23, go_sem, e0, e1]
set_option maxRecDepth 100000 in
set_option maxHeartbeats 2000000 in
theorem ref3Join_p (a b : Lz.Lab) (ha : okR a) (hb : okR b) (w : World) : Calls Tryd.prog 27 #[pv a, pv b] w fun e w' => e = .returned (pv (Lz.jn a b)) ∧ Below w.heap.size w w' := by
  have bL : BoxR (((w.alloc (.cells #[.string (str a.1), .string (str a.2)] 36)).alloc (.cells #[.string (str b.1), .string (str b.2)] 36)).alloc (.cells #[.string ⟨#[]⟩, .string ⟨#[]⟩] 36)) w.heap.size a := ((Box2.new w _ _ _).alloc _).alloc _
  have bM0 := Box2.new (w.alloc (.cells #[.string (str a.1), .string (str a.2)] 36)) 36 (.string (str b.1)) (.string (str b.2))
  rw [World.size_alloc] at bM0
  have bM : BoxR (((w.alloc (.cells #[.string (str a.1), .string (str a.2)] 36)).alloc (.cells #[.string (str b.1), .string (str b.2)] 36)).alloc (.cells #[.string ⟨#[]⟩, .string ⟨#[]⟩] 36)) (w.heap.size + 1) b := bM0.alloc _
  clear bM0
  have bR := Box2.new ((w.alloc (.cells #[.string (str a.1), .string (str a.2)] 36)).alloc (.cells #[.string (str b.1), .string (str b.2)] 36)) 36 (.string ⟨#[]⟩) (.string ⟨#[]⟩)
  rw [World.size_alloc, World.size_alloc] at bR
  have hA : Below w.heap.size w (((w.alloc (.cells #[.string (str a.1), .string (str a.2)] 36)).alloc (.cells #[.string (str b.1), .string (str b.2)] 36)).alloc (.cells #[.string ⟨#[]⟩, .string ⟨#[]⟩] 36)) := (((Below.refl _ w).alloc (Nat.le_refl _) _).alloc (by simp) _).alloc (by simp; omega) _
  have mixed := mixedOrders
  have C1 := Lib.hid fun W => refAnd_any (str a.1) (str b.1) (strR2 ha.1) (strR2 hb.1) W
  have C2 := Lib.hid fun W => refOr_any (str a.2) (str b.2) (strR ha.2) (strR hb.2) W
  simp only [lst_str] at C1 C2
  have HV := Lib.hid (show pv (Lz.jn a b) = .agg #[.string (str (Lz.and a.1 b.1)), .string (str (Lz.or a.2 b.2))] from rfl)
  generalize Lz.and a.1 b.1 = x at C1 HV
  generalize Lz.or a.2 b.2 = y at C2 HV
  go_enter Tryd.func27, Tryd.ntmps27
  go_wp2_with fail
  generalize (((w.alloc (.cells #[.string (str a.1), .string (str a.2)] 36)).alloc (.cells #[.string (str b.1), .string (str b.2)] 36)).alloc (.cells #[.string ⟨#[]⟩, .string ⟨#[]⟩] 36)) = wA at bL bM bR hA ⊢
  have c0 := bL.cell0
  have c1 := bL.cell1
  have c2 := bM.cell0
  have c3 := bM.cell1
  have bLd : BoxR wA.drew w.heap.size a := bL
  have bMd : BoxR wA.drew (w.heap.size + 1) b := bM
  have bRd : Box2 wA.drew (w.heap.size + 1 + 1) 36 (.string ⟨#[]⟩) (.string ⟨#[]⟩) := bR
  have hAd : Below w.heap.size w wA.drew := ⟨hA.os, hA.tape, hA.output, hA.size, hA.block⟩
  clear bL bM bR hA
  have mark := True.intro
  go_region_held3 (fun w' => w'.cell? ⟨w.heap.size, 0, none⟩ = some (.string (str a.1)) ∧ w'.cell? ⟨w.heap.size, 1, none⟩ = some (.string (str a.2)) ∧ w'.cell? ⟨w.heap.size + 1, 0, none⟩ = some (.string (str b.1)) ∧ w'.cell? ⟨w.heap.size + 1, 1, none⟩ = some (.string (str b.2))) (first | with_reducible exact ⟨c0, c1, c2, c3⟩ | with_reducible exact ⟨set2 (by omega) c0, set2 (by omega) c1, set2 (by omega) c2, set2 (by omega) c3⟩ | go_keep)
    (first
      | (go_at_call 51; clear mark; refine (C1.out _).mono ?_; rintro e w1 ⟨rfl, hb1⟩; have bL1 := bLd.below hb1 bLd.lt; have bM1 := bMd.below hb1 bMd.lt; have bR1 := bRd.below hb1 bRd.lt; have hB1 := hAd.trans (hb1.mono hAd.size); have c0 := bL1.cell0; have c1 := bL1.cell1; have c2 := bM1.cell0; have c3 := bM1.cell1)
      | (go_at_call 52; refine (C2.out _).mono ?_; rintro e w2 ⟨rfl, hb2⟩; have bL2 := bL1.below hb2 bL1.lt; have bM2 := bM1.below hb2 bM1.lt; have bR2 := bR1.below hb2 bR1.lt; have hB2 := hB1.trans (hb2.mono hB1.size); have c0 := bL2.cell0; have c1 := bL2.cell1; have c2 := bM2.cell0; have c3 := bM2.cell1; have d0 := bR2.cell0; have d1 := bR2.cell1; have f0 := bR2.frozen 0; have f1 := bR2.frozen 1))
  go_wp2
  have bR4 := box2_set1 (q := .string (str y)) (box2_set0 (q := .string (str x)) bR2)
  have e0 := bR4.cell0
  have e1 := bR4.cell1
  refine bodyPost_ret (v := .agg #[.string (str x), .string (str y)]) ?_ rfl ⟨by rw [HV.out], (hB2.setCell (p := ⟨w.heap.size + 1 + 1, 0, none⟩) (show w.heap.size ≤ w.heap.size + 1 + 1 by omega) _).setCell (p := ⟨w.heap.size + 1 + 1, 1, none⟩) (show w.heap.size ≤ w.heap.size + 1 + 1 by omega) _⟩
  simp [results, Tryd.f27, go_sem, e0, e1]
set_option maxRecDepth 100000 in
set_option maxHeartbeats 2000000 in
theorem ref3Meet_p (a b : Lz.Lab) (ha : okR a) (hb : okR b) (w : World) : Calls Tryd.prog 28 #[pv a, pv b] w fun e w' => e = .returned (pv (Lz.mt a b)) ∧ Below w.heap.size w w' := by
  have bL : BoxR (((w.alloc (.cells #[.string (str a.1), .string (str a.2)] 36)).alloc (.cells #[.string (str b.1), .string (str b.2)] 36)).alloc (.cells #[.string ⟨#[]⟩, .string ⟨#[]⟩] 36)) w.heap.size a := ((Box2.new w _ _ _).alloc _).alloc _
  have bM0 := Box2.new (w.alloc (.cells #[.string (str a.1), .string (str a.2)] 36)) 36 (.string (str b.1)) (.string (str b.2))
  rw [World.size_alloc] at bM0
  have bM : BoxR (((w.alloc (.cells #[.string (str a.1), .string (str a.2)] 36)).alloc (.cells #[.string (str b.1), .string (str b.2)] 36)).alloc (.cells #[.string ⟨#[]⟩, .string ⟨#[]⟩] 36)) (w.heap.size + 1) b := bM0.alloc _
  clear bM0
  have bR := Box2.new ((w.alloc (.cells #[.string (str a.1), .string (str a.2)] 36)).alloc (.cells #[.string (str b.1), .string (str b.2)] 36)) 36 (.string ⟨#[]⟩) (.string ⟨#[]⟩)
  rw [World.size_alloc, World.size_alloc] at bR
  have hA : Below w.heap.size w (((w.alloc (.cells #[.string (str a.1), .string (str a.2)] 36)).alloc (.cells #[.string (str b.1), .string (str b.2)] 36)).alloc (.cells #[.string ⟨#[]⟩, .string ⟨#[]⟩] 36)) := (((Below.refl _ w).alloc (Nat.le_refl _) _).alloc (by simp) _).alloc (by simp; omega) _
  have mixed := mixedOrders
  have C1 := Lib.hid fun W => refOr_any (str a.1) (str b.1) (strR ha.1) (strR hb.1) W
  have C2 := Lib.hid fun W => refAnd_any (str a.2) (str b.2) (strR2 ha.2) (strR2 hb.2) W
  simp only [lst_str] at C1 C2
  have HV := Lib.hid (show pv (Lz.mt a b) = .agg #[.string (str (Lz.or a.1 b.1)), .string (str (Lz.and a.2 b.2))] from rfl)
  generalize Lz.or a.1 b.1 = x at C1 HV
  generalize Lz.and a.2 b.2 = y at C2 HV
  go_enter Tryd.func28, Tryd.ntmps28
  go_wp2_with fail
  generalize (((w.alloc (.cells #[.string (str a.1), .string (str a.2)] 36)).alloc (.cells #[.string (str b.1), .string (str b.2)] 36)).alloc (.cells #[.string ⟨#[]⟩, .string ⟨#[]⟩] 36)) = wA at bL bM bR hA ⊢
  have c0 := bL.cell0
  have c1 := bL.cell1
  have c2 := bM.cell0
  have c3 := bM.cell1
  have bLd : BoxR wA.drew w.heap.size a := bL
  have bMd : BoxR wA.drew (w.heap.size + 1) b := bM
  have bRd : Box2 wA.drew (w.heap.size + 1 + 1) 36 (.string ⟨#[]⟩) (.string ⟨#[]⟩) := bR
  have hAd : Below w.heap.size w wA.drew := ⟨hA.os, hA.tape, hA.output, hA.size, hA.block⟩
  clear bL bM bR hA
  have mark := True.intro
  go_region_held3 (fun w' => w'.cell? ⟨w.heap.size, 0, none⟩ = some (.string (str a.1)) ∧ w'.cell? ⟨w.heap.size, 1, none⟩ = some (.string (str a.2)) ∧ w'.cell? ⟨w.heap.size + 1, 0, none⟩ = some (.string (str b.1)) ∧ w'.cell? ⟨w.heap.size + 1, 1, none⟩ = some (.string (str b.2))) (first | with_reducible exact ⟨c0, c1, c2, c3⟩ | with_reducible exact ⟨set2 (by omega) c0, set2 (by omega) c1, set2 (by omega) c2, set2 (by omega) c3⟩ | go_keep)
    (first
      | (go_at_call 52; clear mark; refine (C1.out _).mono ?_; rintro e w1 ⟨rfl, hb1⟩; have bL1 := bLd.below hb1 bLd.lt; have bM1 := bMd.below hb1 bMd.lt; have bR1 := bRd.below hb1 bRd.lt; have hB1 := hAd.trans (hb1.mono hAd.size); have c0 := bL1.cell0; have c1 := bL1.cell1; have c2 := bM1.cell0; have c3 := bM1.cell1)
      | (go_at_call 51; refine (C2.out _).mono ?_; rintro e w2 ⟨rfl, hb2⟩; have bL2 := bL1.below hb2 bL1.lt; have bM2 := bM1.below hb2 bM1.lt; have bR2 := bR1.below hb2 bR1.lt; have hB2 := hB1.trans (hb2.mono hB1.size); have c0 := bL2.cell0; have c1 := bL2.cell1; have c2 := bM2.cell0; have c3 := bM2.cell1; have d0 := bR2.cell0; have d1 := bR2.cell1; have f0 := bR2.frozen 0; have f1 := bR2.frozen 1))
  go_wp2
  have bR4 := box2_set1 (q := .string (str y)) (box2_set0 (q := .string (str x)) bR2)
  have e0 := bR4.cell0
  have e1 := bR4.cell1
  refine bodyPost_ret (v := .agg #[.string (str x), .string (str y)]) ?_ rfl ⟨by rw [HV.out], (hB2.setCell (p := ⟨w.heap.size + 1 + 1, 0, none⟩) (show w.heap.size ≤ w.heap.size + 1 + 1 by omega) _).setCell (p := ⟨w.heap.size + 1 + 1, 1, none⟩) (show w.heap.size ≤ w.heap.size + 1 + 1 by omega) _⟩
  simp [results, Tryd.f28, go_sem, e0, e1]
end Go.Proofs.YtiagoiannccdmaaDoor
/-! The contracts of the document's answer to chapter 3: Right, Parse. Condition: the lengths. -/
namespace Go.Proofs.YtiagoiannccdmaaDoor
open Go.RowKit Go.Shelf
theorem refLabelStruct : Tryd.prog.underlying 36 = some (.struct (Tryd.prog.fieldsOf 36)) := by kernel_rfl
theorem refLabelStood : Tryd.prog.stoodInHeld 36 = false := by kernel_rfl
theorem refLabelGuard : Tryd.prog.eqGuardType Tryd.prog.depth 36 = false := by kernel_rfl
attribute [local go_sem] refLabelGuard
theorem equal_refLabel (n : Nat) (a b c d : ByteArray) (w : World) : (Op.equalIn (n + 3) 36 (.agg #[.string a, .string b]) (.agg #[.string c, .string d])).run Tryd.prog w = .ok (a.toList == c.toList && b.toList == d.toList) w := by
  rw [run_equalIn_agg w (n + 2) 36 _ _ refLabelStruct refLabelStood]
  simp only [Program.fieldsOf, Tryd.underlying36]
  go_simp
  cases h1 : (a.toList == c.toList) <;> cases h2 : (b.toList == d.toList) <;> simp_all
theorem eql_refLabel (a b c d : ByteArray) (w : World) : (binOp .eql 36 (.agg #[.string a, .string b]) (.agg #[.string c, .string d])).run Tryd.prog w = .ok (.bool (a.toList == c.toList && b.toList == d.toList)) w := by
  rw [run_eql_struct, show (10000 : Nat) = 9997 + 3 from rfl, equal_refLabel]; rfl
attribute [local go_sem high] eql_refLabel
attribute [local go_sem] str_list
set_option maxRecDepth 100000 in
set_option maxHeartbeats 1000000 in
theorem ref3Right_p (a : Lz.Lab) (ha : okR a) (w : World) : Calls Tryd.prog 25 #[pv a] w fun e w' => e = .returned (.bool (Lz.nrm a == a)) ∧ Below w.heap.size w w' := by
  have bL : BoxR (w.alloc (.cells #[.string (str a.1), .string (str a.2)] 36)) w.heap.size a := Box2.new w _ _ _
  have k0 := cell_regrown bL.cell0
  have k1 := cell_regrown bL.cell1
  have hA : Below w.heap.size w (w.alloc (.cells #[.string (str a.1), .string (str a.2)] 36)) := (Below.refl _ w).alloc (Nat.le_refl _) _
  have cN := quiet_call (w := w.alloc (.cells #[.string (str a.1), .string (str a.2)] 36)) (fun W _ => ref3Norm_p a ha W)
  have mixed := mixedOrders
  go_enter Tryd.func25, Tryd.ntmps25
  go_wp2_with fail
  refine wp_region_quiet_below mixed (by kernel_rfl) ?_
  repeat (quiet_step (exact cN _ _))
  refine wpQuiet_nil ?_
  intro W1 hw'
  have hb1 := below_of_regrown hw'
  clear hw' k0 k1 cN
  go_wp2
  go_ret
  exact ⟨rfl, hA.trans (hb1.mono hA.size)⟩
/-- Where the document's loop stands: there is no bar up to i. -/
theorem index47_at (t : List UInt8) (k : Nat) (hk : k < t.length) (hn : (47 : UInt8) ∉ t.take k) (he : t[k] = 47) : Lib.indexByte t 47 = (k : Int) := by
  have e : t = t.take k ++ 47 :: t.drop (k + 1) := by
    conv => lhs; rw [← List.take_append_drop k t, List.drop_eq_getElem_cons hk, he]
  have h := indexByte_word (t.take k) (t.drop (k + 1)) 47 hn
  rw [← e, List.length_take, Nat.min_eq_left (by omega)] at h
  exact h
theorem cut47_at (t : List UInt8) (k : Nat) (hk : k < t.length) (hn : (47 : UInt8) ∉ t.take k) (he : t[k] = 47) : cut47 t = (t.take k, t.drop (k + 1), true) := by
  unfold cut47
  rw [index47_at t k hk hn he, if_pos (by omega), Int.toNat_natCast]
theorem index47_no : ∀ (t : List UInt8), (47 : UInt8) ∉ t → Lib.indexByte t 47 < 0
  | [], _ => by decide
  | b :: l, h => by
    have hb : ¬ (b == 47) = true := fun e => h (by rw [eq_of_beq e]; simp)
    have ih := index47_no l (fun e => h (by simp [e]))
    have hge := Lib.indexByte_ge l 47
    have h1 : Lib.indexByte l 47 = -1 := by omega
    unfold Lib.indexByte
    rw [if_neg hb, h1]
    decide
theorem parseLb_no (t : List UInt8) (h : (47 : UInt8) ∉ t) : parseLb t = (([], []), false) := by
  have h1 := index47_no t h
  have h2 : cut47 t = (t, [], false) := by unfold cut47; rw [if_neg (by omega)]
  unfold parseLb
  rw [h2]
  rfl
theorem parseLb_at (t : List UInt8) (k : Nat) (hk : k < t.length) (hn : (47 : UInt8) ∉ t.take k) (he : t[k] = 47) : parseLb t = if (parseF (t.take k)).2 = true ∧ (parseF (t.drop (k + 1))).2 = true then (((parseF (t.take k)).1, (parseF (t.drop (k + 1))).1), true) else (([], []), false) := by
  unfold parseLb
  rw [cut47_at t k hk hn he, if_pos rfl]
  by_cases h1 : (parseF (t.take k)).2 = true
  · rw [if_pos h1]
    by_cases h2 : (parseF (t.drop (k + 1))).2 = true
    · rw [if_pos h2, if_pos ⟨h1, h2⟩]
    · rw [if_neg h2, if_neg (fun h => h2 h.2)]
  · rw [if_neg h1, if_neg (fun h => h1 h.1)]
theorem no47_succ (b : ByteArray) (k : Nat) (h : k < b.size) (hn : (47 : UInt8) ∉ b.data.toList.take k) (he : b[k] ≠ 47) : (47 : UInt8) ∉ b.data.toList.take (k + 1) := by
  rw [btake_succ b k h, List.mem_append, List.mem_singleton]
  rintro (e | e)
  · exact hn e
  · exact he e.symm
theorem extract_ahead (b : ByteArray) (k : Nat) : b.extract 0 k = str (b.data.toList.take k) := by
  apply ByteArray.ext
  rw [← Array.toList_inj]
  simp [str, List.extract]
theorem extract_behind (b : ByteArray) (k : Nat) : b.extract k b.size = str (b.data.toList.drop k) := by
  apply ByteArray.ext
  rw [← Array.toList_inj]
  simp [str, List.extract]
  exact List.take_of_length_le (by simp)
set_option maxRecDepth 100000 in
set_option maxHeartbeats 4000000 in
theorem ref3Parse_p (b : ByteArray) (hb : b.size ≤ 1000) (w : World) : Calls Tryd.prog 21 #[.string b] w fun e w' => e = .returned (.tuple #[pv (parseLb b.data.toList).1, .bool (parseLb b.data.toList).2]) ∧ Below w.heap.size w w' := by
  have bR := Box2.new w 36 (.string ⟨#[]⟩) (.string ⟨#[]⟩)
  have hA : Below w.heap.size w (w.alloc (.cells #[.string ⟨#[]⟩, .string ⟨#[]⟩] 36)) := (Below.refl _ w).alloc (Nat.le_refl _) _
  have hlb : b.data.toList.length = b.size := by simp
  have HLB := Lib.hid hlb
  have HNO := Lib.hid fun h => parseLb_no b.data.toList h
  have HAT := Lib.hid fun k hk hn he => parseLb_at b.data.toList k hk hn he
  clear hlb
  generalize parseLb b.data.toList = res at HNO HAT ⊢
  go_enter Tryd.func21, Tryd.ntmps21
  go_wp2_with fail
  generalize (w.alloc (.cells #[.string ⟨#[]⟩, .string ⟨#[]⟩] 36)) = wA at bR hA ⊢
  go_loop [4] (fun i => ∃ k : Nat, k ≤ b.size ∧ i = .int .i64 k ∧ (47 : UInt8) ∉ b.data.toList.take k) (fun i => b.size - (intOf i).toNat)
  case atStart => exact ⟨0, Nat.zero_le _, rfl, by simp⟩
  case round =>
    obtain ⟨k, hk, rfl, hn⟩ := hrel
    have HN := Lib.hid hn
    clear hn
    by_cases hlt : k < b.size
    · by_cases hbar : b[k] = 47
      · have he : (b[k].toNat : Int) = 47 := by rw [hbar]; rfl
        have hP := HAT.out k (by rw [HLB.out]; exact hlt) HN.out hbar
        have HP := Lib.hid hP
        have HX1 := Lib.hid (extract_ahead b k)
        have HX2 := Lib.hid (extract_behind b (k + 1))
        have l1 : (b.data.toList.take k).length ≤ 1000 := by rw [List.length_take, HLB.out]; omega
        have l2 : (b.data.toList.drop (k + 1)).length ≤ 1000 := by rw [List.length_drop, HLB.out]; omega
        have HC1 := Lib.hid fun W => ref2Parse_any (str (b.data.toList.take k)) l1 W
        have HC2 := Lib.hid fun W => ref2Parse_any (str (b.data.toList.drop (k + 1))) l2 W
        rw [lst_str] at HC1 HC2
        generalize parseF (b.data.toList.take k) = p1 at HP HC1
        generalize parseF (b.data.toList.drop (k + 1)) = p2 at HP HC2
        obtain ⟨f1, o1⟩ := p1
        obtain ⟨f2, o2⟩ := p2
        clear hP hbar HNO HAT
        go_wp2_with fail
        rw [HX1.out]
        refine (HC1.out _).mono ?_
        rintro e w1 ⟨rfl, hb1⟩
        go_wp2_with fail
        rw [HX2.out]
        refine (HC2.out _).mono ?_
        rintro e w2 ⟨rfl, hb2⟩
        have b1 := bR.below hb1 bR.lt
        have b2 := b1.below hb2 b1.lt
        have hB1 := hA.trans (hb1.mono hA.size)
        have hB2 := hB1.trans (hb2.mono hB1.size)
        have c0 := b2.cell0
        have c1 := b2.cell1
        have g0 := b2.frozen 0
        have g1 := b2.frozen 1
        cases o1 with
        | false =>
          have HR := Lib.hid (show res = (([], []), false) from by rw [HP.out, if_neg (fun h => by cases h.1)])
          go_wp2
          have b3 := box2_set1 (q := .string ⟨#[]⟩) (box2_set0 (q := .string ⟨#[]⟩) b2)
          have d0 := b3.cell0
          have d1 := b3.cell1
          refine bodyPost_ret (v := .tuple #[.agg #[.string ⟨#[]⟩, .string ⟨#[]⟩], .bool false]) ?_ rfl ⟨by rw [HR.out]; rfl, (hB2.setCell (p := ⟨w.heap.size, 0, none⟩) (Nat.le_refl _) _).setCell (p := ⟨w.heap.size, 1, none⟩) (Nat.le_refl _) _⟩
          simp [results, Tryd.f21, go_sem, d0, d1]
        | true =>
          cases o2 with
          | false =>
            have HR := Lib.hid (show res = (([], []), false) from by rw [HP.out, if_neg (fun h => by cases h.2)])
            go_wp2
            have b3 := box2_set1 (q := .string ⟨#[]⟩) (box2_set0 (q := .string ⟨#[]⟩) b2)
            have d0 := b3.cell0
            have d1 := b3.cell1
            refine bodyPost_ret (v := .tuple #[.agg #[.string ⟨#[]⟩, .string ⟨#[]⟩], .bool false]) ?_ rfl ⟨by rw [HR.out]; rfl, (hB2.setCell (p := ⟨w.heap.size, 0, none⟩) (Nat.le_refl _) _).setCell (p := ⟨w.heap.size, 1, none⟩) (Nat.le_refl _) _⟩
            simp [results, Tryd.f21, go_sem, d0, d1]
          | true =>
            have HR := Lib.hid (show res = ((f1, f2), true) from by rw [HP.out, if_pos ⟨by trivial, by trivial⟩])
            go_wp2
            have b3 := box2_set1 (q := .string (str f2)) (box2_set0 (q := .string (str f1)) b2)
            have d0 := b3.cell0
            have d1 := b3.cell1
            refine bodyPost_ret (v := .tuple #[.agg #[.string (str f1), .string (str f2)], .bool true]) ?_ rfl ⟨by rw [HR.out], (hB2.setCell (p := ⟨w.heap.size, 0, none⟩) (Nat.le_refl _) _).setCell (p := ⟨w.heap.size, 1, none⟩) (Nat.le_refl _) _⟩
            simp [results, Tryd.f21, go_sem, d0, d1]
      · have hne : ¬ ((b[k].toNat : Int) = 47) := by
          intro e
          apply hbar
          apply UInt8.toNat_inj.1
          show b[k].toNat = 47
          omega
        have HO := Lib.hid (no47_succ b k hlt HN.out hbar)
        clear hbar
        go_wp2
        go_round
        case rel => exact ⟨k + 1, by omega, by go_num, HO.out⟩
        case measure => simp [intOf]; omega
    · obtain rfl : k = b.size := by omega
      have hall : b.data.toList.take b.size = b.data.toList := List.take_of_length_le (by simp)
      rw [hall] at HN
      have HR := Lib.hid (HNO.out HN.out)
      have c0 := bR.cell0
      have c1 := bR.cell1
      have g0 := bR.frozen 0
      have g1 := bR.frozen 1
      go_wp2
      have b3 := box2_set1 (q := .string ⟨#[]⟩) (box2_set0 (q := .string ⟨#[]⟩) bR)
      have d0 := b3.cell0
      have d1 := b3.cell1
      refine bodyPost_ret (v := .tuple #[.agg #[.string ⟨#[]⟩, .string ⟨#[]⟩], .bool false]) ?_ rfl ⟨by rw [HR.out]; rfl, (hA.setCell (p := ⟨w.heap.size, 0, none⟩) (Nat.le_refl _) _).setCell (p := ⟨w.heap.size, 1, none⟩) (Nat.le_refl _) _⟩
      simp [results, Tryd.f21, go_sem, d0, d1]
end Go.Proofs.YtiagoiannccdmaaDoor
