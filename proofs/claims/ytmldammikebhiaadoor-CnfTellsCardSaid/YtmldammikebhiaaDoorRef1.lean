/- The contracts of the document's answer to chapter 1: Right, In, Least, Text, Parse. Conditions: the lengths. -/
import Derived.Test.YtmldammikebhiaaDoorParse
import Derived.Test.YtmldammikebhiaaDoorRef1M
namespace Go.Proofs.YtmldammikebhiaaDoor
open Go.RowKit Go.Shelf
theorem str_app (x y : List UInt8) : str x ++ str y = str (x ++ y) := by apply ByteArray.ext; simp [str]
attribute [local go_sem] str_list str_size str_app
theorem and_self_sub (a b : UInt8) : (bits .and .u8 (a.toNat : Int) (b.toNat : Int) == (a.toNat : Int)) = Lz.sub a b := by rw [bits_and_u8, toNat_beq]; rfl
theorem refIn_any (x y : Int) (a b : UInt8) (hx : x = a.toNat) (hy : y = b.toNat) (w : World) : Calls Tryd.prog 58 #[.int .u8 x, .int .u8 y] w fun e w' => e = .returned (.bool (Lz.sub a b)) ∧ w = w' := by
  subst hx hy
  go_enter Tryd.func58, Tryd.ntmps58
  go_wp2
  go_ret
  exact ⟨ret_bool (and_self_sub a b), rfl⟩
theorem refRight_any (x : Int) (s : UInt8) (hx : x = s.toNat) (w : World) : Calls Tryd.prog 61 #[.int .u8 x] w fun e w' => e = .returned (.bool (decide (s.toNat < 64))) ∧ w = w' := by
  subst hx
  go_enter Tryd.func61, Tryd.ntmps61
  go_wp2
  go_ret
  exact ⟨ret_bool (by rw [decide_eq_decide]; omega), rfl⟩
/-- 'string([]byte{x})'. -/
theorem one_byte (W : World) (x : Int) (c : UInt8) (hx : x = c.toNat) : (convert 58 9 (.slice (some ⟨W.heap.size, 0, none⟩) 1 1)).run Tryd.prog (W.alloc (.cells #[.int .u8 x] 5)) = .ok (.string (str [c])) (W.alloc (.cells #[.int .u8 x] 5)) := by
  subst hx
  exact run_convert_bytes_back (P := Tryd.prog) (W.alloc (.cells #[.int .u8 c.toNat] 5)) 58 9 5 ⟨W.heap.size, 0, none⟩ 1 [c] Tryd.underlying58 Tryd.underlying5 Tryd.underlying9 (fun j hj => by
    have h0 : j = 0 := by simpa using hj
    subst h0
    exact (Boxed.new W 5 (.int .u8 c.toNat)).cell)
theorem half_bit (s : UInt8) (k : Nat) : (s.toNat : Int) / 2 ^ k % 2 = if Lz.bit s k then 1 else 0 := by
  have e : (s.toNat : Int) / 2 ^ k = ((s.toNat / 2 ^ k : Nat) : Int) := by rw [Int.natCast_ediv, Int.natCast_pow]; rfl
  unfold Lz.bit
  rw [e, Nat.testBit_eq_decide_div_mod_eq]
  generalize s.toNat / 2 ^ k = q
  have h2 : q % 2 = 0 ∨ q % 2 = 1 := by omega
  rcases h2 with h2 | h2
  · rw [h2, if_neg (by decide)]; omega
  · rw [h2, if_pos (by decide)]; omega
theorem half_nonneg (s : UInt8) (k : Nat) : (0 : Int) ≤ (s.toNat : Int) / 2 ^ k := by
  have e : (s.toNat : Int) / 2 ^ k = ((s.toNat / 2 ^ k : Nat) : Int) := by rw [Int.natCast_ediv, Int.natCast_pow]; rfl
  rw [e]; exact Int.natCast_nonneg _
theorem letters_zero : lettersOf (placesTo 0 6) = [] := by decide +kernel
set_option maxRecDepth 100000 in
set_option maxHeartbeats 2000000 in
theorem refText_any (x : Int) (s : UInt8) (hx : x = s.toNat) (w : World) : Calls Tryd.prog 52 #[.int .u8 x] w fun e w' => e = .returned (.string (str (textP s))) ∧ Below w.heap.size w w' := by
  subst hx
  have hs8 := s.toNat_lt
  by_cases h : s.toNat < 64
  · have hd : decide (s.toNat < 64) = true := by simpa using h
    have HD := Lib.hid hd
    have HT := Lib.hid (show textP s = if s = 0 then [45] else lettersOf (placesTo s 6) from by unfold textP; rw [if_pos h])
    have HZ := Lib.hid (show s ≠ 0 → lettersOf (placesTo s 6) ≠ [] from fun e => lettersOf_ne s hd e)
    clear hd h
    go_enter Tryd.func52, Tryd.ntmps52
    go_wp2_with (go_at_call 61; refine (refRight_any _ s rfl _).mono ?_; rintro e w' ⟨rfl, rfl⟩; rw [HD.out])
    go_loopw [3, 4] (fun o i wr => ∃ k : Nat, k ≤ 6 ∧ i = .int .i64 k ∧ o = .string (str (lettersOf (placesTo s k))) ∧ Below w.heap.size w wr) (fun _ i _ => 6 - (intOf i).toNat)
    case atStart => exact ⟨0, by omega, rfl, rfl, Below.refl _ _⟩
    case round =>
      obtain ⟨k, hk, rfl, rfl, hB⟩ := hrel
      by_cases hlt : k < 6
      · have e1 := half_bit s k
        have e0 := half_nonneg s k
        have hpl : placesTo s (k + 1) = if Lz.bit s k then placesTo s k ++ [⟨k, hlt⟩] else placesTo s k := by rw [placesTo, dif_pos hlt]
        have hsn := lettersOf_snoc (placesTo s k) ⟨k, hlt⟩
        have hll := lettersOf_length (placesTo s k)
        have hpp := placesTo_length s k (by omega)
        cases hb : Lz.bit s k with
        | false =>
          rw [hb, if_neg (by decide)] at e1 hpl
          have HP := Lib.hid hpl
          clear hpl hsn hb
          go_wp2
          go_roundw
          case rel => exact ⟨k + 1, by omega, by go_num, by rw [HP.out], hB⟩
          case measure => simp [intOf]; omega
        | true =>
          rw [hb, if_pos rfl] at e1 hpl
          rw [← hpl] at hsn
          have HS := Lib.hid hsn
          have hw : IntKind.u8.wrap (97 + (k : Int)) = 97 + (k : Int) := by rw [IntKind.wrap_u8]; omega
          have hcv := fun W => one_byte W (97 + (k : Int)) (letter k) (by rw [letter_toNat _ hlt]; omega)
          clear hpl hb hsn
          generalize lettersOf (placesTo s k) = L at HS hll ⊢
          by_cases h0 : L = []
          · subst h0
            go_wp2
            go_roundw
            case rel => exact ⟨k + 1, by omega, by go_num, by rw [HS.out]; rfl, hB.alloc hB.size _⟩
            case measure => simp [intOf]; omega
          · have h0' : L.isEmpty = false := by simpa using h0
            have hj : joinTo L ⟨k, hlt⟩ = L ++ [124] ++ [letter k] := by unfold joinTo; rw [if_neg h0]
            have HJ := Lib.hid hj
            clear hj
            go_wp2
            go_roundw
            case rel => exact ⟨k + 1, by omega, by go_num, by rw [HS.out, HJ.out]; show Value.string (str L ++ str [124] ++ str [letter k]) = _; rw [str_app, str_app], hB.alloc hB.size _⟩
            case measure => simp [intOf]; omega
      · obtain rfl : k = 6 := by omega
        by_cases hs0 : s = 0
        · subst hs0
          rw [letters_zero]
          rw [if_pos rfl] at HT
          go_wp2
          go_ret
          exact ⟨by rw [HT.out]; rfl, hB⟩
        · have hne := HZ.out hs0
          rw [if_neg hs0] at HT
          generalize lettersOf (placesTo s 6) = L at HT hne ⊢
          have h0' : L.isEmpty = false := by simpa using hne
          go_wp2
          go_ret
          exact ⟨by rw [HT.out]; rfl, hB⟩
  · have hd : decide (s.toNat < 64) = false := by simpa using h
    have HD := Lib.hid hd
    have HT := Lib.hid (show textP s = [63] from by unfold textP; rw [if_neg h])
    clear hd h
    go_enter Tryd.func52, Tryd.ntmps52
    go_wp2_with (go_at_call 61; refine (refRight_any _ s rfl _).mono ?_; rintro e w' ⟨rfl, rfl⟩; rw [HD.out])
    go_ret
    exact ⟨by rw [HT.out]; rfl, Below.refl _ _⟩
end Go.Proofs.YtmldammikebhiaaDoor
