/- Several texts in one: XRef1M, XRef1i, XRef1l, XRef1, XRef1b, XRef2n, XRef2r, XRef2i, XRef2o. -/
import Derived.Test.YtiagoiannccdmaaDoorMath
import Derived.Test.YtiagoiannccdmaaDoorParse
import Derived.Test.YtiagoiannccdmaaDoorCnfR
import Derived.Test.YtiagoiannccdmaaDoorHolds
import Derived.Test.YtiagoiannccdmaaDoorOrd2
import Derived.Test.YtiagoiannccdmaaDoorCnfPut
import Derived.Test.YtiagoiannccdmaaDoorImplies
import Derived.Test.YtiagoiannccdmaaDoorOr
import Derived.RegionTactic
import Derived.ChangeAlike
/-! Plain mathematics of the document's chapter 1: its Least is Least. No program in sight; no conditions. -/
namespace Lz
/-- Is s among l, and has no other one of l all of its bits in s? -/
def minB (l : List UInt8) (s : UInt8) : Bool := (l.any fun c => c == s) && l.all fun c => c == s || !sub c s
def minTo (l : List UInt8) : Nat → List UInt8
  | 0 => []
  | k + 1 => if minB l (UInt8.ofNat k) then minTo l k ++ [UInt8.ofNat k] else minTo l k
theorem minB_iff {l : List UInt8} {s : UInt8} : minB l s = true ↔ Min l s := by
  unfold minB Min
  rw [Bool.and_eq_true, List.any_eq_true, List.all_eq_true]
  constructor
  · rintro ⟨⟨x, h1, h3⟩, h2⟩
    obtain rfl := eq_of_beq h3
    refine ⟨h1, fun d hd hs => ?_⟩
    have := h2 d hd
    rw [hs] at this
    simpa using this
  · rintro ⟨h1, h2⟩
    refine ⟨⟨s, h1, by simp⟩, fun d hd => ?_⟩
    cases hs : sub d s with
    | false => simp
    | true => rw [h2 d hd hs]; simp
theorem minTo_eq (l : List UInt8) : ∀ k, k ≤ 256 → minTo l k = leastTo l k := by
  intro k
  induction k with
  | zero => intro _; rfl
  | succ k ih =>
    intro hk
    have ih := ih (by omega)
    have hn : (UInt8.ofNat k).toNat = k := toNat_ofNat_lt (by omega)
    obtain ⟨h1, -⟩ := leastTo_spec l k (by omega)
    obtain ⟨h2, -⟩ := leastTo_spec l (k + 1) hk
    have hno : UInt8.ofNat k ∉ leastTo l k := fun h => by have := ((h1 _).1 h).2; omega
    have hm : UInt8.ofNat k ∈ leastTo l (k + 1) ↔ Min l (UInt8.ofNat k) := by rw [h2]; exact ⟨fun h => h.1, fun h => ⟨h, by omega⟩⟩
    rw [minTo, ih]
    rw [leastTo] at hm ⊢
    split at hm
    · rename_i hc
      rw [if_pos hc, if_pos (minB_iff.2 (hm.1 (by simp)))]
    · rename_i hc
      rw [if_neg hc, if_neg (fun h => hno (hm.2 (minB_iff.1 h)))]
theorem minTo_least (l : List UInt8) : minTo l 256 = least l := minTo_eq l 256 (Nat.le_refl _)
theorem minTo_length (l : List UInt8) (k : Nat) : (minTo l k).length ≤ k := by
  induction k with
  | zero => simp [minTo]
  | succ k ih =>
    unfold minTo
    split
    · rw [List.length_append]; simp; exact ih
    · omega
end Lz
/-! The contract of the document's In; one byte as a string, one bit as a number. No conditions. -/
namespace Go.Proofs.YtiagoiannccdmaaDoor
open Go.RowKit Go.Shelf
theorem str_app (x y : List UInt8) : str x ++ str y = str (x ++ y) := by apply ByteArray.ext; simp [str]
attribute [local go_sem] str_list str_size str_app
attribute [local go_sem] str_list str_size str_app
theorem and_self_sub (a b : UInt8) : (bits .and .u8 (a.toNat : Int) (b.toNat : Int) == (a.toNat : Int)) = Lz.sub a b := by rw [bits_and_u8, toNat_beq]; rfl
theorem refIn_any (x y : Int) (a b : UInt8) (hx : x = a.toNat) (hy : y = b.toNat) (w : World) : Calls Tryd.prog 81 #[.int .u8 x, .int .u8 y] w fun e w' => e = .returned (.bool (Lz.sub a b)) ∧ w = w' := by
  subst hx hy
  go_enter Tryd.func81, Tryd.ntmps81
  go_wp2
  go_ret
  exact ⟨ret_bool (and_self_sub a b), rfl⟩
/-- 'string([]byte{x})'. -/
theorem one_byte (W : World) (x : Int) (c : UInt8) (hx : x = c.toNat) : (convert 77 9 (.slice (some ⟨W.heap.size, 0, none⟩) 1 1)).run Tryd.prog (W.alloc (.cells #[.int .u8 x] 5)) = .ok (.string (str [c])) (W.alloc (.cells #[.int .u8 x] 5)) := by
  subst hx
  exact run_convert_bytes_back (P := Tryd.prog) (W.alloc (.cells #[.int .u8 c.toNat] 5)) 77 9 5 ⟨W.heap.size, 0, none⟩ 1 [c] Tryd.underlying77 Tryd.underlying5 Tryd.underlying9 (fun j hj => by
    have h0 : j = 0 := by simpa using hj
    subst h0
    exact (Boxed.new W 5 (.int .u8 c.toNat)).cell)
theorem half_bit (s : UInt8) (k : Nat) : (s.toNat : Int) / 2 ^ k % 2 = if Lz.bit s k then 1 else 0 := by
  have e : (s.toNat : Int) / 2 ^ k = ((s.toNat / 2 ^ k : Nat) : Int) := by rw [Int.natCast_ediv, Int.natCast_pow]; rfl
  unfold Lz.bit
  rw [e, Nat.testBit_eq_decide_div_mod_eq]
  generalize s.toNat / 2 ^ k = q
  have h2 : q % 2 = 0 ∨ q % 2 = 1 := by omega
  rcases h2 with h2 | h2
  · rw [h2, if_neg (by decide)]; omega
  · rw [h2, if_pos (by decide)]; omega
theorem half_nonneg (s : UInt8) (k : Nat) : (0 : Int) ≤ (s.toNat : Int) / 2 ^ k := by
  have e : (s.toNat : Int) / 2 ^ k = ((s.toNat / 2 ^ k : Nat) : Int) := by rw [Int.natCast_ediv, Int.natCast_pow]; rfl
  rw [e]; exact Int.natCast_nonneg _
end Go.Proofs.YtiagoiannccdmaaDoor
/-! The contract of the document's Least. Condition: the length. -/
namespace Go.Proofs.YtiagoiannccdmaaDoor
open Go.RowKit Go.Shelf
attribute [local go_sem] str_list str_size str_app
theorem any_snoc (l : List UInt8) (c s : UInt8) : ((l ++ [c]).any fun x => x == s) = ((l.any fun x => x == s) || c == s) := by simp
theorem all_snoc (l : List UInt8) (c s : UInt8) : ((l ++ [c]).all fun x => x == s || !Lz.sub x s) = ((l.all fun x => x == s || !Lz.sub x s) && (c == s || !Lz.sub c s)) := by simp
theorem btake_succ (b : ByteArray) (j : Nat) (h : j < b.size) : b.data.toList.take (j + 1) = b.data.toList.take j ++ [b[j]] := by
  rw [List.take_succ_eq_append_getElem (by simpa using h)]; rfl
set_option maxRecDepth 100000 in
set_option maxHeartbeats 4000000 in
theorem refLeast_any (b : ByteArray) (hb : b.size ≤ 1000000) (w : World) : Calls Tryd.prog 66 #[.string b] w fun e w' => e = .returned (.string (str (Lz.least b.data.toList))) ∧ Below w.heap.size w w' := by
  have HM := Lib.hid (Lz.minTo_least b.data.toList)
  go_enter Tryd.func66, Tryd.ntmps66
  go_wp2
  go_loopw [3, 4, 5, 6, 7, 8] (fun o v _ _ _ _ wr => ∃ k : Nat, k ≤ 256 ∧ v = .int .i64 k ∧ o = .string (str (Lz.minTo b.data.toList k)) ∧ Below w.heap.size w wr) (fun _ v _ _ _ _ _ => 256 - (intOf v).toNat)
  case atStart => exact ⟨0, by omega, rfl, rfl, Below.refl _ _⟩
  case round =>
    obtain ⟨k, hk, rfl, rfl, hB⟩ := hrel
    obtain ⟨wo, rfl⟩ : ∃ wo : World, wo = wr := ⟨_, rfl⟩
    by_cases hlt : k < 256
    · have hw : IntKind.u8.wrap (k : Int) = (k : Int) := by rw [IntKind.wrap_u8]; omega
      have hdk : decide ((k : Int) < 256) = true := by rw [decide_eq_true_iff]; omega
      have hkn : (k : Int) = ((UInt8.ofNat k).toNat : Int) := by rw [Lz.toNat_ofNat_lt hlt]
      have HKN := Lib.hid hkn
      have hst : Lz.minTo b.data.toList (k + 1) = if ((b.data.toList.any fun c => c == UInt8.ofNat k) && b.data.toList.all fun c => c == UInt8.ofNat k || !Lz.sub c (UInt8.ofNat k)) then Lz.minTo b.data.toList k ++ [UInt8.ofNat k] else Lz.minTo b.data.toList k := rfl
      have HST := Lib.hid hst
      have hml := Lz.minTo_length b.data.toList k
      clear hst hkn
      generalize Lz.minTo b.data.toList k = out at HST hml ⊢
      generalize hs : UInt8.ofNat k = s at HKN HST
      clear hs
      go_wp2_with fail
      go_loop [6, 7, 8] (fun th le i => ∃ j : Nat, j ≤ b.size ∧ i = .int .i64 j ∧ th = .bool ((b.data.toList.take j).any fun c => c == s) ∧ le = .bool ((b.data.toList.take j).all fun c => c == s || !Lz.sub c s)) (fun _ _ i => b.size - (intOf i).toNat)
      case atStart => exact ⟨0, Nat.zero_le _, rfl, rfl, rfl⟩
      case round =>
        obtain ⟨j, hj, rfl, rfl, rfl⟩ := hrel
        by_cases hjt : j < b.size
        · have hts := btake_succ b j hjt
          have h1 := any_snoc (b.data.toList.take j) b[j] s
          have h2 := all_snoc (b.data.toList.take j) b[j] s
          rw [← hts] at h1 h2
          have H1 := Lib.hid h1
          have H2 := Lib.hid h2
          have HI := Lib.hid (fun W => refIn_any _ (k : Int) b[j] s rfl HKN.out W)
          have he : ((b[j].toNat : Int) == (k : Int)) = (b[j] == s) := by rw [HKN.out, toNat_beq]
          clear hts h1 h2
          generalize ((b.data.toList.take j).any fun c => c == s) = th at H1 ⊢
          generalize ((b.data.toList.take j).all fun c => c == s || !Lz.sub c s) = le at H2 ⊢
          generalize (b[j] == s) = q at H1 H2 he
          generalize Lz.sub b[j] s = u at H2 HI
          cases th <;> cases le <;> cases q <;> cases u
          all_goals
            go_wp2_with (go_at_call 81; refine (HI.out _).mono ?_; rintro e w' ⟨rfl, rfl⟩)
            go_round
            case rel => exact ⟨j + 1, by omega, by go_num, by rw [H1.out]; rfl, by rw [H2.out]; rfl⟩
            case measure => simp [intOf]; omega
        · obtain rfl : j = b.size := by omega
          have hall : b.data.toList.take b.size = b.data.toList := List.take_of_length_le (by simp)
          rw [hall]
          clear hall
          have hcv := fun W => one_byte W (k : Int) s HKN.out
          generalize (b.data.toList.any fun c => c == s) = th at HST ⊢
          generalize (b.data.toList.all fun c => c == s || !Lz.sub c s) = le at HST ⊢
          cases th <;> cases le
          all_goals
            go_wp2
            go_roundw
            case rel => exact ⟨k + 1, by omega, by go_num, by rw [HST.out]; rfl, by first | exact hB | exact hB.alloc hB.size _⟩
            case measure => simp [intOf]; omega
    · obtain rfl : k = 256 := by omega
      rw [HM.out]
      go_wp2
      go_ret
      exact ⟨rfl, hB⟩
end Go.Proofs.YtiagoiannccdmaaDoor
/-! The contracts of the document's Right, Text of sets. No conditions. -/
namespace Go.Proofs.YtiagoiannccdmaaDoor
open Go.RowKit Go.Shelf
attribute [local go_sem] str_list str_size str_app
theorem refRight_any (x : Int) (s : UInt8) (hx : x = s.toNat) (w : World) : Calls Tryd.prog 84 #[.int .u8 x] w fun e w' => e = .returned (.bool (decide (s.toNat < 64))) ∧ w = w' := by
  subst hx
  go_enter Tryd.func84, Tryd.ntmps84
  go_wp2
  go_ret
  exact ⟨ret_bool (by rw [decide_eq_decide]; omega), rfl⟩
theorem letters_zero : lettersOf (placesTo 0 6) = [] := by decide +kernel
set_option maxRecDepth 100000 in
set_option maxHeartbeats 2000000 in
theorem refText_any (x : Int) (s : UInt8) (hx : x = s.toNat) (w : World) : Calls Tryd.prog 73 #[.int .u8 x] w fun e w' => e = .returned (.string (str (textP s))) ∧ Below w.heap.size w w' := by
  subst hx
  have hs8 := s.toNat_lt
  by_cases h : s.toNat < 64
  · have hd : decide (s.toNat < 64) = true := by simpa using h
    have HD := Lib.hid hd
    have HT := Lib.hid (show textP s = if s = 0 then [45] else lettersOf (placesTo s 6) from by unfold textP; rw [if_pos h])
    have HZ := Lib.hid (show s ≠ 0 → lettersOf (placesTo s 6) ≠ [] from fun e => lettersOf_ne s hd e)
    clear hd h
    go_enter Tryd.func73, Tryd.ntmps73
    go_wp2_with (go_at_call 84; refine (refRight_any _ s rfl _).mono ?_; rintro e w' ⟨rfl, rfl⟩; rw [HD.out])
    go_loopw [3, 4] (fun o i wr => ∃ k : Nat, k ≤ 6 ∧ i = .int .i64 k ∧ o = .string (str (lettersOf (placesTo s k))) ∧ Below w.heap.size w wr) (fun _ i _ => 6 - (intOf i).toNat)
    case atStart => exact ⟨0, by omega, rfl, rfl, Below.refl _ _⟩
    case round =>
      obtain ⟨k, hk, rfl, rfl, hB⟩ := hrel
      by_cases hlt : k < 6
      · have e1 := half_bit s k
        have e0 := half_nonneg s k
        have hpl : placesTo s (k + 1) = if Lz.bit s k then placesTo s k ++ [⟨k, hlt⟩] else placesTo s k := by rw [placesTo, dif_pos hlt]
        have hsn := lettersOf_snoc (placesTo s k) ⟨k, hlt⟩
        have hll := lettersOf_length (placesTo s k)
        have hpp := placesTo_length s k (by omega)
        cases hb : Lz.bit s k with
        | false =>
          rw [hb, if_neg (by decide)] at e1 hpl
          have HP := Lib.hid hpl
          clear hpl hsn hb
          go_wp2
          go_roundw
          case rel => exact ⟨k + 1, by omega, by go_num, by rw [HP.out], hB⟩
          case measure => simp [intOf]; omega
        | true =>
          rw [hb, if_pos rfl] at e1 hpl
          rw [← hpl] at hsn
          have HS := Lib.hid hsn
          have hw : IntKind.u8.wrap (97 + (k : Int)) = 97 + (k : Int) := by rw [IntKind.wrap_u8]; omega
          have hcv := fun W => one_byte W (97 + (k : Int)) (letter k) (by rw [letter_toNat _ hlt]; omega)
          clear hpl hb hsn
          generalize lettersOf (placesTo s k) = L at HS hll ⊢
          by_cases h0 : L = []
          · subst h0
            go_wp2
            go_roundw
            case rel => exact ⟨k + 1, by omega, by go_num, by rw [HS.out]; rfl, hB.alloc hB.size _⟩
            case measure => simp [intOf]; omega
          · have h0' : L.isEmpty = false := by simpa using h0
            have hj : joinTo L ⟨k, hlt⟩ = L ++ [124] ++ [letter k] := by unfold joinTo; rw [if_neg h0]
            have HJ := Lib.hid hj
            clear hj
            go_wp2
            go_roundw
            case rel => exact ⟨k + 1, by omega, by go_num, by rw [HS.out, HJ.out]; show Value.string (str L ++ str [124] ++ str [letter k]) = _; rw [str_app, str_app], hB.alloc hB.size _⟩
            case measure => simp [intOf]; omega
      · obtain rfl : k = 6 := by omega
        by_cases hs0 : s = 0
        · subst hs0
          rw [letters_zero]
          rw [if_pos rfl] at HT
          go_wp2
          go_ret
          exact ⟨by rw [HT.out]; rfl, hB⟩
        · have hne := HZ.out hs0
          rw [if_neg hs0] at HT
          generalize lettersOf (placesTo s 6) = L at HT hne ⊢
          have h0' : L.isEmpty = false := by simpa using hne
          go_wp2
          go_ret
          exact ⟨by rw [HT.out]; rfl, hB⟩
  · have hd : decide (s.toNat < 64) = false := by simpa using h
    have HD := Lib.hid hd
    have HT := Lib.hid (show textP s = [63] from by unfold textP; rw [if_neg h])
    clear hd h
    go_enter Tryd.func73, Tryd.ntmps73
    go_wp2_with (go_at_call 84; refine (refRight_any _ s rfl _).mono ?_; rintro e w' ⟨rfl, rfl⟩; rw [HD.out])
    go_ret
    exact ⟨by rw [HT.out]; rfl, Below.refl _ _⟩
end Go.Proofs.YtiagoiannccdmaaDoor
/-! The contract of the document's Parse of sets. No conditions. -/
namespace Go.Proofs.YtiagoiannccdmaaDoor
open Go.RowKit Go.Shelf
attribute [local go_sem] str_list str_size str_app
theorem parseP_yes {t : List UInt8} (h : (parseP t).2 = true) : (parseP t).1.toNat < 64 ∧ textP (parseP t).1 = t := by
  unfold parseP at h ⊢
  by_cases h1 : t = [45]
  · subst h1; exact ⟨by decide, by decide +kernel⟩
  · rw [if_neg h1] at h ⊢
    by_cases h2 : t = []
    · rw [if_pos h2] at h; cases h
    · rw [if_neg h2] at h ⊢
      by_cases h3 : 11 < t.length
      · rw [if_pos h3] at h; cases h
      · rw [if_neg h3] at h ⊢
        by_cases h4 : scan t = 0
        · rw [if_pos h4] at h; cases h
        · rw [if_neg h4] at h ⊢
          by_cases h5 : textP (scan t) = t
          · rw [if_pos h5]
            refine ⟨?_, h5⟩
            by_cases h6 : (scan t).toNat < 64
            · exact h6
            · have : textP (scan t) = [63] := by unfold textP; rw [if_neg h6]
              rw [this] at h5
              subst h5
              exact absurd (by decide +kernel) h4
          · rw [if_neg h5] at h; cases h
theorem parseP_text (c : UInt8) (h : c.toNat < 64) : parseP (textP c) = (c, true) := by
  have := of_all64 (fun s => parseP (textP s) == (s, true)) (by decide +kernel) c h
  simpa using this
theorem parseP_no {t : List UInt8} (h : ∀ v, v < 64 → textP (UInt8.ofNat v) ≠ t) : parseP t = (0, false) := by
  cases hp : (parseP t).2 with
  | true =>
    obtain ⟨h1, h2⟩ := parseP_yes hp
    exact absurd (by rw [UInt8.ofNat_toNat]; exact h2) (h _ h1)
  | false =>
    have h1 : (parseP t).1 = 0 := by
      unfold parseP at hp ⊢
      split
      · rfl
      · split
        · rfl
        · split
          · rfl
          · split
            · rfl
            · split
              · simp_all
              · rfl
    rw [← h1, ← hp]
set_option maxRecDepth 100000 in
set_option maxHeartbeats 2000000 in
theorem refParse_any (t : List UInt8) (w : World) : Calls Tryd.prog 65 #[.string (str t)] w fun e w' => e = .returned (.tuple #[.int .u8 ((parseP t).1.toNat : Int), .bool (parseP t).2]) ∧ Below w.heap.size w w' := by
  have HN := Lib.hid fun h => parseP_no (t := t) h
  have HY := Lib.hid fun (v : Nat) (hv : v < 64) (e : textP (UInt8.ofNat v) = t) => show parseP t = (UInt8.ofNat v, true) from by rw [← e]; exact parseP_text _ (by rw [Lz.toNat_ofNat_lt (by omega)]; exact hv)
  generalize parseP t = r at HN HY ⊢
  go_enter Tryd.func65, Tryd.ntmps65
  go_wp2
  go_loopw [4] (fun v wr => ∃ k : Nat, k ≤ 64 ∧ v = .int .i64 k ∧ (∀ v, v < k → textP (UInt8.ofNat v) ≠ t) ∧ Below w.heap.size w wr) (fun v _ => 64 - (intOf v).toNat)
  case atStart => exact ⟨0, by omega, rfl, fun v h => by omega, Below.refl _ _⟩
  case round =>
    obtain ⟨k, hk, rfl, hno, hB⟩ := hrel
    have HNO := Lib.hid hno
    clear hno
    by_cases hlt : k < 64
    · have hw : IntKind.u8.wrap (k : Int) = (k : Int) := by rw [IntKind.wrap_u8]; omega
      have hkn : (k : Int) = ((UInt8.ofNat k).toNat : Int) := by rw [Lz.toNat_ofNat_lt (by omega)]
      have HT := Lib.hid (fun W => refText_any (k : Int) (UInt8.ofNat k) hkn W)
      clear hkn
      cases hq : (textP (UInt8.ofNat k) == t) with
      | true =>
        have HR := Lib.hid (HY.out k hlt (eq_of_beq hq))
        go_wp2_with fail
        refine (HT.out _).mono ?_
        rintro e w1 ⟨rfl, hb1⟩
        go_wp2
        have hkn : (k : Int) = ((UInt8.ofNat k).toNat : Int) := by rw [Lz.toNat_ofNat_lt (by omega)]
        refine bodyPost_ret (v := .tuple #[.int .u8 (k : Int), .bool true]) ?_ rfl ⟨by rw [HR.out, hkn], hB.trans (hb1.mono hB.size)⟩
        simp [results, Tryd.f65, go_sem]
      | false =>
        have hne : textP (UInt8.ofNat k) ≠ t := by simpa using hq
        have HNE := Lib.hid hne
        clear hne
        go_wp2_with fail
        refine (HT.out _).mono ?_
        rintro e w1 ⟨rfl, hb1⟩
        go_wp2
        go_roundw
        case rel => exact ⟨k + 1, by omega, by go_num, fun v hv => by
          by_cases e : v = k
          · subst e; exact HNE.out
          · exact HNO.out v (by omega), hB.trans (hb1.mono hB.size)⟩
        case measure => simp [intOf]; omega
    · obtain rfl : k = 64 := by omega
      have HR := Lib.hid (HN.out HNO.out)
      go_wp2
      refine bodyPost_ret (v := .tuple #[.int .u8 0, .bool false]) ?_ rfl ⟨by rw [HR.out]; rfl, hB⟩
      simp [results, Tryd.f65, go_sem]
end Go.Proofs.YtiagoiannccdmaaDoor
/-! The contracts of the document's answer to chapter 2: Norm, holds, And. Condition: the lengths. -/
namespace Go.Proofs.YtiagoiannccdmaaDoor
open Go.RowKit Go.Shelf
attribute [local go_sem] str_list str_size str_app
set_option maxRecDepth 100000 in
set_option maxHeartbeats 2000000 in
theorem refNorm_any (b : ByteArray) (hb : b.size ≤ 100000) (w : World) : Calls Tryd.prog 49 #[.string b] w fun e w' => e = .returned (.string (str (Lz.norm b.data.toList))) ∧ Below w.heap.size w w' := by
  go_enter Tryd.func49, Tryd.ntmps49
  go_wp2
  go_loopw [3, 4] (fun s i wr => ∃ k : Nat, k ≤ b.size ∧ i = .int .i64 k ∧ s = .string (str ((b.data.toList.take k).map Lz.clip)) ∧ Below w.heap.size w wr) (fun _ i _ => b.size - (intOf i).toNat)
  case atStart => exact ⟨0, Nat.zero_le _, rfl, rfl, Below.refl _ _⟩
  case round =>
    obtain ⟨k, hk, rfl, rfl, hB⟩ := hrel
    by_cases hlt : k < b.size
    · have hst : (b.data.toList.take (k + 1)).map Lz.clip = (b.data.toList.take k).map Lz.clip ++ [Lz.clip b[k]] := by rw [btake_succ b k hlt, List.map_append]; rfl
      have HST := Lib.hid hst
      have hll : ((b.data.toList.take k).map Lz.clip).length ≤ 100000 := by rw [List.length_map, List.length_take]; omega
      have h63 := and63 b[k]
      have hcv := fun W => one_byte W ((Lz.clip b[k]).toNat : Int) (Lz.clip b[k]) rfl
      clear hst
      generalize (b.data.toList.take k).map Lz.clip = L at HST hll ⊢
      generalize Lz.clip b[k] = c at HST h63 hcv
      go_wp2
      go_roundw
      case rel => exact ⟨k + 1, by omega, by go_num, by rw [HST.out], hB.alloc hB.size _⟩
      case measure => simp [intOf]; omega
    · obtain rfl : k = b.size := by omega
      have hall : b.data.toList.take b.size = b.data.toList := List.take_of_length_le (by simp)
      rw [hall]
      clear hall
      have HL := Lib.hid (refLeast_any (str (b.data.toList.map Lz.clip)) (by rw [str_size, List.length_map]; simp; omega) wr)
      go_wp2_with fail
      refine HL.out.mono ?_
      rintro e w1 ⟨rfl, hb1⟩
      rw [lst_str]
      go_wp2
      go_ret
      exact ⟨rfl, hB.trans (hb1.mono hB.size)⟩
set_option maxRecDepth 100000 in
set_option maxHeartbeats 1000000 in
theorem refholds_any (b : ByteArray) (hb : b.size ≤ 1000000) (x : Int) (z : UInt8) (hx : x = z.toNat) (w : World) : Calls Tryd.prog 67 #[.string b, .int .u8 x] w fun e w' => e = .returned (.bool (Lz.holds b.data.toList z)) ∧ w = w' := by
  subst hx
  have HP := Lib.hid fun (k : Nat) (h : Lz.holds (b.data.toList.take k) z = false) => holds_prefix (List.take_prefix k b.data.toList) h
  go_enter Tryd.func67, Tryd.ntmps67
  go_wp2
  go_loop [5] (fun i => ∃ k : Nat, k ≤ b.size ∧ i = .int .i64 k ∧ Lz.holds (b.data.toList.take k) z = true) (fun i => b.size - (intOf i).toNat)
  case atStart => exact ⟨0, Nat.zero_le _, rfl, rfl⟩
  case round =>
    obtain ⟨k, hk, rfl, hh⟩ := hrel
    by_cases hlt : k < b.size
    · have hsn : Lz.holds (b.data.toList.take (k + 1)) z = Lz.meets b[k] z := by rw [btake_succ b k hlt, holds_snoc, hh]; rfl
      cases hm : Lz.meets b[k] z with
      | true =>
        have hz := meets_zero hm
        rw [hm] at hsn
        have HS := Lib.hid hsn
        clear hm hsn hh
        go_wp2
        go_round
        case rel => exact ⟨k + 1, by omega, by go_num, HS.out⟩
        case measure => simp [intOf]; omega
      | false =>
        have hz := meets_zero hm
        rw [hm] at hsn
        have HS := Lib.hid (HP.out (k + 1) hsn)
        clear hm hsn hh
        go_wp2
        go_ret
        exact ⟨ret_bool HS.out.symm, rfl⟩
    · obtain rfl : k = b.size := by omega
      have hall : b.data.toList.take b.size = b.data.toList := List.take_of_length_le (by simp)
      rw [hall] at hh
      have HH := Lib.hid hh
      clear hall hh
      go_wp2
      go_ret
      exact ⟨ret_bool HH.out.symm, rfl⟩
theorem and_norm (f g : List UInt8) : Lz.norm (f ++ g) = Lz.and f g :=
  Lz.right_ext (Lz.right_norm _) (Lz.right_and f g) fun x => by rw [Lz.sat_norm, Lz.sat_append, Lz.sat_and]
set_option maxRecDepth 100000 in
set_option maxHeartbeats 1000000 in
theorem refAnd_any (a b : ByteArray) (ha : a.size ≤ 50000) (hb : b.size ≤ 50000) (w : World) : Calls Tryd.prog 51 #[.string a, .string b] w fun e w' => e = .returned (.string (str (Lz.and a.data.toList b.data.toList))) ∧ Below w.heap.size w w' := by
  go_enter Tryd.func51, Tryd.ntmps51
  go_wp2_with fail
  refine (refNorm_any _ (by simp only [ByteArray.size_append]; omega) _).mono ?_
  rintro e w1 ⟨rfl, hb1⟩
  rw [lst_append, and_norm]
  go_wp2
  go_ret
  exact ⟨rfl, hb1⟩
end Go.Proofs.YtiagoiannccdmaaDoor
/-! The contracts of the document's answer to chapter 2: Right, Put. Condition: the lengths. -/
namespace Go.Proofs.YtiagoiannccdmaaDoor
open Go.RowKit Go.Shelf
attribute [local go_sem] str_list str_size str_app
set_option maxRecDepth 100000 in
set_option maxHeartbeats 1000000 in
theorem ref2Right_any (b : ByteArray) (hb : b.size ≤ 100000) (w : World) : Calls Tryd.prog 61 #[.string b] w fun e w' => e = .returned (.bool (Lz.norm b.data.toList == b.data.toList)) ∧ Below w.heap.size w w' := by
  go_enter Tryd.func61, Tryd.ntmps61
  go_wp2_with fail
  refine (refNorm_any b hb _).mono ?_
  rintro e w1 ⟨rfl, hb1⟩
  go_wp2
  go_ret
  exact ⟨by rw [← ByteArray.toList_eq]; rfl, hb1⟩
set_option maxRecDepth 100000 in
set_option maxHeartbeats 1000000 in
theorem refPut_any (b : ByteArray) (hb : b.size ≤ 100000) (w : World) : Calls Tryd.prog 54 #[.string b] w fun e w' => e = .returned (.string (str (putL b.data.toList))) ∧ Below w.heap.size w w' := by
  have HP := Lib.hid (show putL b.data.toList = UInt8.ofNat (Lz.norm b.data.toList).length :: Lz.norm b.data.toList from rfl)
  have la := Lz.norm_len64 b.data.toList
  go_enter Tryd.func54, Tryd.ntmps54
  go_wp2_with fail
  refine (refNorm_any b hb _).mono ?_
  rintro e w1 ⟨rfl, hb1⟩
  generalize Lz.norm b.data.toList = n at la HP ⊢
  have hwr : IntKind.u8.wrap (n.length : Int) = (n.length : Int) := by rw [IntKind.wrap_u8]; omega
  have hcv := fun W => one_byte W (n.length : Int) (UInt8.ofNat n.length) (by rw [Lz.toNat_ofNat_lt (by omega)])
  go_wp2
  go_ret
  exact ⟨by rw [HP.out]; rfl, hb1.alloc hb1.size _⟩
end Go.Proofs.YtiagoiannccdmaaDoor
/-! The contract of the document's answer to chapter 2: Implies. Condition: the lengths. -/
namespace Go.Proofs.YtiagoiannccdmaaDoor
open Go.RowKit Go.Shelf
attribute [local go_sem] str_list str_size str_app
theorem implies_yes {f g : List UInt8} (h : ∀ x, x < 64 → (Lz.holds (Lz.norm f) (UInt8.ofNat x) = true → Lz.holds (Lz.norm g) (UInt8.ofNat x) = true)) : Lz.implies f g = true := by
  unfold Lz.implies
  rw [List.all_eq_true]
  intro x hx
  have h1 := h x (List.mem_range.1 hx)
  show (!Lz.holds (Lz.norm f) (UInt8.ofNat x) || Lz.holds (Lz.norm g) (UInt8.ofNat x)) = true
  cases hq : Lz.holds (Lz.norm f) (UInt8.ofNat x)
  · rfl
  · rw [h1 hq]; rfl
theorem implies_no {f g : List UInt8} {x : Nat} (hx : x < 64) (h1 : Lz.holds (Lz.norm f) (UInt8.ofNat x) = true) (h2 : Lz.holds (Lz.norm g) (UInt8.ofNat x) = false) : Lz.implies f g = false := by
  cases h : Lz.implies f g with
  | false => rfl
  | true =>
    have := Lz.implies_iff.1 h (UInt8.ofNat x) h1
    unfold Lz.sat at this
    rw [h2] at this
    cases this
set_option maxRecDepth 100000 in
set_option maxHeartbeats 2000000 in
theorem refImplies_any (a b : ByteArray) (ha : a.size ≤ 100000) (hb : b.size ≤ 100000) (w : World) : Calls Tryd.prog 50 #[.string a, .string b] w fun e w' => e = .returned (.bool (Lz.implies a.data.toList b.data.toList)) ∧ Below w.heap.size w w' := by
  have HY := Lib.hid (implies_yes (f := a.data.toList) (g := b.data.toList))
  have HN := Lib.hid fun (x : Nat) (hx : x < 64) => implies_no (f := a.data.toList) (g := b.data.toList) hx
  have la := Lz.norm_len64 a.data.toList
  have lb := Lz.norm_len64 b.data.toList
  go_enter Tryd.func50, Tryd.ntmps50
  go_wp2_with fail
  refine (refNorm_any a ha _).mono ?_
  rintro e w1 ⟨rfl, hb1⟩
  go_wp2_with fail
  refine (refNorm_any b hb _).mono ?_
  rintro e w2 ⟨rfl, hb2⟩
  have hB := hb1.trans (hb2.mono hb1.size)
  generalize Lz.norm a.data.toList = p at HY HN la ⊢
  generalize Lz.norm b.data.toList = q at HY HN lb ⊢
  go_wp2_with fail
  go_loop [5] (fun i => ∃ k : Nat, k ≤ 64 ∧ i = .int .i64 k ∧ ∀ x, x < k → (Lz.holds p (UInt8.ofNat x) = true → Lz.holds q (UInt8.ofNat x) = true)) (fun i => 64 - (intOf i).toNat)
  case atStart => exact ⟨0, by omega, rfl, fun x h => by omega⟩
  case round =>
    obtain ⟨k, hk, rfl, hall⟩ := hrel
    have HA := Lib.hid hall
    clear hall
    by_cases hlt : k < 64
    · have hw : IntKind.u8.wrap (k : Int) = (k : Int) := by rw [IntKind.wrap_u8]; omega
      have H1 := Lib.hid fun W => refholds_any (str p) (by rw [str_size]; omega) (k : Int) (UInt8.ofNat k) (by rw [Lz.toNat_ofNat_lt (by omega)]) W
      have H2 := Lib.hid fun W => refholds_any (str q) (by rw [str_size]; omega) (k : Int) (UInt8.ofNat k) (by rw [Lz.toNat_ofNat_lt (by omega)]) W
      rw [lst_str] at H1 H2
      have HNk := Lib.hid (HN.out k hlt)
      have HSk := Lib.hid (show (Lz.holds p (UInt8.ofNat k) = true → Lz.holds q (UInt8.ofNat k) = true) → ∀ x, x < k + 1 → (Lz.holds p (UInt8.ofNat x) = true → Lz.holds q (UInt8.ofNat x) = true) from fun h x hx => by
        by_cases e : x = k
        · subst e; exact h
        · exact HA.out x (by omega))
      generalize Lz.holds p (UInt8.ofNat k) = u at H1 HNk HSk
      generalize Lz.holds q (UInt8.ofNat k) = v at H2 HNk HSk
      go_wp2_with fail
      refine (H1.out _).mono ?_
      rintro e w' ⟨rfl, rfl⟩
      cases u with
      | false =>
        go_wp2
        go_round
        case rel => exact ⟨k + 1, by omega, by go_num, HSk.out (fun h => by cases h)⟩
        case measure => simp [intOf]; omega
      | true =>
        go_wp2_with fail
        refine (H2.out _).mono ?_
        rintro e w' ⟨rfl, rfl⟩
        cases v with
        | true =>
          go_wp2
          go_round
          case rel => exact ⟨k + 1, by omega, by go_num, HSk.out (fun _ => by trivial)⟩
          case measure => simp [intOf]; omega
        | false =>
          have HR := Lib.hid (HNk.out (by trivial) (by trivial))
          go_wp2
          go_ret
          exact ⟨ret_bool HR.out.symm, hB⟩
    · obtain rfl : k = 64 := by omega
      have HR := Lib.hid (HY.out HA.out)
      go_wp2
      go_ret
      exact ⟨ret_bool HR.out.symm, hB⟩
end Go.Proofs.YtiagoiannccdmaaDoor
/-! The contract of the document's answer to chapter 2: Or. Condition: the lengths. -/
namespace Go.Proofs.YtiagoiannccdmaaDoor
open Go.RowKit Go.Shelf
attribute [local go_sem] str_list str_size str_app
/-- 'string([]byte{x})' behind a draw. -/
theorem one_byte_drew (W : World) (x : Int) (c : UInt8) (hx : x = c.toNat) : (convert 77 9 (.slice (some ⟨W.heap.size, 0, none⟩) 1 1)).run Tryd.prog (W.alloc (.cells #[.int .u8 x] 5)).drew = .ok (.string (str [c])) (W.alloc (.cells #[.int .u8 x] 5)).drew := by
  subst hx
  exact run_convert_bytes_back (P := Tryd.prog) (W.alloc (.cells #[.int .u8 c.toNat] 5)).drew 77 9 5 ⟨W.heap.size, 0, none⟩ 1 [c] Tryd.underlying77 Tryd.underlying5 Tryd.underlying9 (fun j hj => by
    have h0 : j = 0 := by simpa using hj
    subst h0
    exact (Boxed.new W 5 (.int .u8 c.toNat)).cell)
theorem unions_len_le (x y : List UInt8) (hx : x.length ≤ 64) (hy : y.length ≤ 64) : (Lz.unions x y).length ≤ 4096 := by
  rw [unions_length]; exact Nat.mul_le_mul hx hy
set_option maxRecDepth 100000 in
set_option maxHeartbeats 4000000 in
theorem refOr_any (a b : ByteArray) (ha : a.size ≤ 100000) (hb : b.size ≤ 100000) (w : World) : Calls Tryd.prog 52 #[.string a, .string b] w fun e w' => e = .returned (.string (str (Lz.or a.data.toList b.data.toList))) ∧ Below w.heap.size w w' := by
  have hO := or_eq a.data.toList b.data.toList
  have hA2 : (str (Lz.norm a.data.toList)).size ≤ 64 := Lz.norm_len64 _
  have hB2 : (str (Lz.norm b.data.toList)).size ≤ 64 := Lz.norm_len64 _
  rw [← lst_str (Lz.norm a.data.toList), ← lst_str (Lz.norm b.data.toList)] at hO
  have HO := Lib.hid hO
  clear hO
  go_enter Tryd.func52, Tryd.ntmps52
  go_wp2_with fail
  refine (refNorm_any a ha _).mono ?_
  rintro e w1 ⟨rfl, hb1⟩
  generalize str (Lz.norm a.data.toList) = A at HO hA2 ⊢
  go_wp2_with fail
  refine (refNorm_any b hb _).mono ?_
  rintro e w2 ⟨rfl, hb2⟩
  generalize str (Lz.norm b.data.toList) = B at HO hB2 ⊢
  go_wp2_with fail
  go_loopw [5, 6, 7] (fun s i _ wr => ∃ k : Nat, k ≤ A.size ∧ i = .int .i64 k ∧ s = .string (str (Lz.unions (A.data.toList.take k) B.data.toList)) ∧ Below w.heap.size w wr) (fun _ i _ _ => A.size - (intOf i).toNat)
  case atStart => exact ⟨0, Nat.zero_le _, rfl, rfl, hb1.trans (hb2.mono hb1.size)⟩
  case round =>
    obtain ⟨k, hk, rfl, rfl, hB⟩ := hrel
    obtain ⟨wo, rfl⟩ : ∃ wo : World, wo = wr := ⟨_, rfl⟩
    by_cases hlt : k < A.size
    · have hdk : decide ((k : Int) < A.size) = true := by rw [decide_eq_true_iff]; omega
      have hst : Lz.unions (A.data.toList.take (k + 1)) B.data.toList = Lz.unions (A.data.toList.take k) B.data.toList ++ (B.data.toList.take B.size).map fun d => A[k] ||| d := by rw [btake_succ A k hlt, unions_snoc, List.take_of_length_le (by simp : B.data.toList.length ≤ B.size)]
      have HST := Lib.hid hst
      have hul : (Lz.unions (A.data.toList.take k) B.data.toList).length ≤ 4096 := unions_len_le _ _ (by rw [List.length_take]; omega) (by simp; omega)
      clear hst
      generalize Lz.unions (A.data.toList.take k) B.data.toList = U at HST hul ⊢
      go_wp2_with fail
      go_loopw [5, 7] (fun s i wr => ∃ j : Nat, j ≤ B.size ∧ i = .int .i64 j ∧ s = .string (str (U ++ (B.data.toList.take j).map fun d => A[k] ||| d)) ∧ Below w.heap.size w wr) (fun _ i _ => B.size - (intOf i).toNat)
      case atStart => exact ⟨0, Nat.zero_le _, rfl, by simp, hB⟩
      case round =>
        obtain ⟨j, hj, rfl, rfl, hBi⟩ := hrel
        by_cases hjt : j < B.size
        · have hs2 : (U ++ (B.data.toList.take (j + 1)).map fun d => A[k] ||| d) = (U ++ (B.data.toList.take j).map fun d => A[k] ||| d) ++ [A[k] ||| B[j]] := by rw [btake_succ B j hjt, List.map_append, List.append_assoc]; rfl
          have HS2 := Lib.hid hs2
          have hl2 : (U ++ (B.data.toList.take j).map fun d => A[k] ||| d).length ≤ 5000 := by rw [List.length_append, List.length_map, List.length_take]; omega
          have hor := bits_or_u8 A[k] B[j]
          have hcv := fun W => one_byte_drew W ((A[k] ||| B[j]).toNat : Int) (A[k] ||| B[j]) rfl
          clear hs2
          generalize (U ++ (B.data.toList.take j).map fun d => A[k] ||| d) = L at HS2 hl2 ⊢
          generalize (A[k] ||| B[j]) = c at HS2 hor hcv
          go_wp2
          go_region
          go_wp2
          go_roundw
          case rel => exact ⟨j + 1, by omega, by go_num, by rw [HS2.out], (hBi.alloc hBi.size _).drew⟩
          case measure => simp [intOf]; omega
        · obtain rfl : j = B.size := by omega
          rw [← HST.out]
          go_wp2
          go_roundw
          case rel => exact ⟨k + 1, by omega, by go_num, rfl, hBi⟩
          case measure => simp [intOf]; omega
    · obtain rfl : k = A.size := by omega
      have hall : A.data.toList.take A.size = A.data.toList := List.take_of_length_le (by simp)
      rw [hall]
      clear hall
      have HL := Lib.hid (refNorm_any (str (Lz.unions A.data.toList B.data.toList)) (by rw [str_size]; have := unions_len_le A.data.toList B.data.toList (by simp; omega) (by simp; omega); omega) wo)
      rw [lst_str, HO.out] at HL
      go_wp2_with fail
      refine HL.out.mono ?_
      rintro e w3 ⟨rfl, hb3⟩
      go_wp2
      go_ret
      exact ⟨rfl, hB.trans (hb3.mono hB.size)⟩
end Go.Proofs.YtiagoiannccdmaaDoor
