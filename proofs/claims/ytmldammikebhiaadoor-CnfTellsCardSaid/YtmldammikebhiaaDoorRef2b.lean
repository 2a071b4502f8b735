/- The contracts of the document's answer to chapter 2: Fix, Or, Implies, Of. Condition: the formulas' lengths. -/
import Derived.Test.YtmldammikebhiaaDoorRef2a
import Derived.Test.YtmldammikebhiaaDoorFix
import Derived.Test.YtmldammikebhiaaDoorCnf2
import Derived.RegionTactic
import Derived.ChangeAlike
namespace Go.Proofs.YtmldammikebhiaaDoor
open Go.RowKit Go.Shelf
attribute [local go_sem] str_list str_size str_app
set_option maxRecDepth 100000 in
set_option maxHeartbeats 2000000 in
theorem refFix_any (b : ByteArray) (hb : b.size ≤ 100000) (x : Int) (z : UInt8) (hx : x = z.toNat) (w : World) : Calls Tryd.prog 31 #[.string b, .int .u8 x] w fun e w' => e = .returned (.string (str (Lz.fix b.data.toList z))) ∧ Below w.heap.size w w' := by
  subst hx
  have hF := fix_keep b.data.toList z
  have hN1 := lst_str (Lz.norm b.data.toList)
  have hN2 : (str (Lz.norm b.data.toList)).size ≤ 64 := Lz.norm_len64 _
  rw [← hN1] at hF
  have HF := Lib.hid hF
  clear hF hN1
  go_enter Tryd.func31, Tryd.ntmps31
  go_wp2_with fail
  refine (refNorm_any b hb _).mono ?_
  rintro e w1 ⟨rfl, hb1⟩
  generalize str (Lz.norm b.data.toList) = N at HF hN2 ⊢
  go_wp2_with fail
  go_loopw [6, 7] (fun s i wr => ∃ k : Nat, k ≤ N.size ∧ i = .int .i64 k ∧ s = .string (str (keepN z (N.data.toList.take k))) ∧ Below w.heap.size w wr) (fun _ i _ => N.size - (intOf i).toNat)
  case atStart => exact ⟨0, Nat.zero_le _, rfl, rfl, hb1⟩
  case round =>
    obtain ⟨k, hk, rfl, rfl, hB⟩ := hrel
    by_cases hlt : k < N.size
    · have hst : keepN z (N.data.toList.take (k + 1)) = if Lz.meets N[k] z then keepN z (N.data.toList.take k) else keepN z (N.data.toList.take k) ++ [N[k]] := by rw [btake_succ N k hlt, keepN_snoc]
      have hll : (keepN z (N.data.toList.take k)).length ≤ 64 := by
        have := keepN_length z (N.data.toList.take k)
        rw [List.length_take] at this; omega
      have hcv := fun W => one_byte W (N[k].toNat : Int) N[k] rfl
      cases hm : Lz.meets N[k] z with
      | true =>
        have hz := meets_zero hm
        rw [hm, if_pos rfl] at hst
        have HST := Lib.hid hst
        clear hst hm
        go_wp2
        go_roundw
        case rel => exact ⟨k + 1, by omega, by go_num, by rw [HST.out], hB⟩
        case measure => simp [intOf]; omega
      | false =>
        have hz := meets_zero hm
        rw [hm, if_neg (by decide)] at hst
        have HST := Lib.hid hst
        clear hst hm
        generalize keepN z (N.data.toList.take k) = L at HST hll ⊢
        go_wp2
        go_roundw
        case rel => exact ⟨k + 1, by omega, by go_num, by rw [HST.out], hB.alloc hB.size _⟩
        case measure => simp [intOf]; omega
    · obtain rfl : k = N.size := by omega
      have hall : N.data.toList.take N.size = N.data.toList := List.take_of_length_le (by simp)
      rw [hall, HF.out]
      clear hall
      go_wp2
      go_ret
      exact ⟨rfl, hB⟩
/-- 'string([]byte{x})' behind a draw. -/
theorem one_byte_drew (W : World) (x : Int) (c : UInt8) (hx : x = c.toNat) : (convert 58 9 (.slice (some ⟨W.heap.size, 0, none⟩) 1 1)).run Tryd.prog (W.alloc (.cells #[.int .u8 x] 5)).drew = .ok (.string (str [c])) (W.alloc (.cells #[.int .u8 x] 5)).drew := by
  subst hx
  exact run_convert_bytes_back (P := Tryd.prog) (W.alloc (.cells #[.int .u8 c.toNat] 5)).drew 58 9 5 ⟨W.heap.size, 0, none⟩ 1 [c] Tryd.underlying58 Tryd.underlying5 Tryd.underlying9 (fun j hj => by
    have h0 : j = 0 := by simpa using hj
    subst h0
    exact (Boxed.new W 5 (.int .u8 c.toNat)).cell)
theorem unions_len_le (x y : List UInt8) (hx : x.length ≤ 64) (hy : y.length ≤ 64) : (Lz.unions x y).length ≤ 4096 := by
  rw [unions_length]; exact Nat.mul_le_mul hx hy
set_option maxRecDepth 100000 in
set_option maxHeartbeats 4000000 in
theorem refOr_any (a b : ByteArray) (ha : a.size ≤ 100000) (hb : b.size ≤ 100000) (w : World) : Calls Tryd.prog 30 #[.string a, .string b] w fun e w' => e = .returned (.string (str (Lz.or a.data.toList b.data.toList))) ∧ Below w.heap.size w w' := by
  have hO := or_eq a.data.toList b.data.toList
  have hA2 : (str (Lz.norm a.data.toList)).size ≤ 64 := Lz.norm_len64 _
  have hB2 : (str (Lz.norm b.data.toList)).size ≤ 64 := Lz.norm_len64 _
  rw [← lst_str (Lz.norm a.data.toList), ← lst_str (Lz.norm b.data.toList)] at hO
  have HO := Lib.hid hO
  clear hO
  go_enter Tryd.func30, Tryd.ntmps30
  go_wp2_with fail
  refine (refNorm_any a ha _).mono ?_
  rintro e w1 ⟨rfl, hb1⟩
  generalize str (Lz.norm a.data.toList) = A at HO hA2 ⊢
  go_wp2_with fail
  refine (refNorm_any b hb _).mono ?_
  rintro e w2 ⟨rfl, hb2⟩
  generalize str (Lz.norm b.data.toList) = B at HO hB2 ⊢
  go_wp2_with fail
  go_loopw [5, 6, 7] (fun s i _ wr => ∃ k : Nat, k ≤ A.size ∧ i = .int .i64 k ∧ s = .string (str (Lz.unions (A.data.toList.take k) B.data.toList)) ∧ Below w.heap.size w wr) (fun _ i _ _ => A.size - (intOf i).toNat)
  case atStart => exact ⟨0, Nat.zero_le _, rfl, rfl, hb1.trans (hb2.mono hb1.size)⟩
  case round =>
    obtain ⟨k, hk, rfl, rfl, hB⟩ := hrel
    obtain ⟨wo, rfl⟩ : ∃ wo : World, wo = wr := ⟨_, rfl⟩
    by_cases hlt : k < A.size
    · have hdk : decide ((k : Int) < A.size) = true := by rw [decide_eq_true_iff]; omega
      have hst : Lz.unions (A.data.toList.take (k + 1)) B.data.toList = Lz.unions (A.data.toList.take k) B.data.toList ++ (B.data.toList.take B.size).map fun d => A[k] ||| d := by rw [btake_succ A k hlt, unions_snoc, List.take_of_length_le (by simp : B.data.toList.length ≤ B.size)]
      have HST := Lib.hid hst
      have hul : (Lz.unions (A.data.toList.take k) B.data.toList).length ≤ 4096 := unions_len_le _ _ (by rw [List.length_take]; omega) (by simp; omega)
      clear hst
      generalize Lz.unions (A.data.toList.take k) B.data.toList = U at HST hul ⊢
      go_wp2_with fail
      go_loopw [5, 7] (fun s i wr => ∃ j : Nat, j ≤ B.size ∧ i = .int .i64 j ∧ s = .string (str (U ++ (B.data.toList.take j).map fun d => A[k] ||| d)) ∧ Below w.heap.size w wr) (fun _ i _ => B.size - (intOf i).toNat)
      case atStart => exact ⟨0, Nat.zero_le _, rfl, by simp, hB⟩
      case round =>
        obtain ⟨j, hj, rfl, rfl, hBi⟩ := hrel
        by_cases hjt : j < B.size
        · have hs2 : (U ++ (B.data.toList.take (j + 1)).map fun d => A[k] ||| d) = (U ++ (B.data.toList.take j).map fun d => A[k] ||| d) ++ [A[k] ||| B[j]] := by rw [btake_succ B j hjt, List.map_append, List.append_assoc]; rfl
          have HS2 := Lib.hid hs2
          have hl2 : (U ++ (B.data.toList.take j).map fun d => A[k] ||| d).length ≤ 5000 := by rw [List.length_append, List.length_map, List.length_take]; omega
          have hor := bits_or_u8 A[k] B[j]
          have hcv := fun W => one_byte_drew W ((A[k] ||| B[j]).toNat : Int) (A[k] ||| B[j]) rfl
          clear hs2
          generalize (U ++ (B.data.toList.take j).map fun d => A[k] ||| d) = L at HS2 hl2 ⊢
          generalize (A[k] ||| B[j]) = c at HS2 hor hcv
          go_wp2
          go_region
          go_wp2
          go_roundw
          case rel => exact ⟨j + 1, by omega, by go_num, by rw [HS2.out], (hBi.alloc hBi.size _).drew⟩
          case measure => simp [intOf]; omega
        · obtain rfl : j = B.size := by omega
          rw [← HST.out]
          go_wp2
          go_roundw
          case rel => exact ⟨k + 1, by omega, by go_num, rfl, hBi⟩
          case measure => simp [intOf]; omega
    · obtain rfl : k = A.size := by omega
      have hall : A.data.toList.take A.size = A.data.toList := List.take_of_length_le (by simp)
      rw [hall]
      clear hall
      have HL := Lib.hid (refNorm_any (str (Lz.unions A.data.toList B.data.toList)) (by rw [str_size]; have := unions_len_le A.data.toList B.data.toList (by simp; omega) (by simp; omega); omega) wo)
      rw [lst_str, HO.out] at HL
      go_wp2_with fail
      refine HL.out.mono ?_
      rintro e w3 ⟨rfl, hb3⟩
      go_wp2
      go_ret
      exact ⟨rfl, hB.trans (hb3.mono hB.size)⟩
theorem implies_yes {f g : List UInt8} (h : ∀ x, x < 64 → (Lz.holds (Lz.norm f) (UInt8.ofNat x) = true → Lz.holds (Lz.norm g) (UInt8.ofNat x) = true)) : Lz.implies f g = true := by
  unfold Lz.implies
  rw [List.all_eq_true]
  intro x hx
  have h1 := h x (List.mem_range.1 hx)
  show (!Lz.holds (Lz.norm f) (UInt8.ofNat x) || Lz.holds (Lz.norm g) (UInt8.ofNat x)) = true
  cases hq : Lz.holds (Lz.norm f) (UInt8.ofNat x)
  · rfl
  · rw [h1 hq]; rfl
theorem implies_no {f g : List UInt8} {x : Nat} (hx : x < 64) (h1 : Lz.holds (Lz.norm f) (UInt8.ofNat x) = true) (h2 : Lz.holds (Lz.norm g) (UInt8.ofNat x) = false) : Lz.implies f g = false := by
  cases h : Lz.implies f g with
  | false => rfl
  | true =>
    have := Lz.implies_iff.1 h (UInt8.ofNat x) h1
    unfold Lz.sat at this
    rw [h2] at this
    cases this
set_option maxRecDepth 100000 in
set_option maxHeartbeats 2000000 in
theorem refImplies_any (a b : ByteArray) (ha : a.size ≤ 100000) (hb : b.size ≤ 100000) (w : World) : Calls Tryd.prog 32 #[.string a, .string b] w fun e w' => e = .returned (.bool (Lz.implies a.data.toList b.data.toList)) ∧ Below w.heap.size w w' := by
  have HY := Lib.hid (implies_yes (f := a.data.toList) (g := b.data.toList))
  have HN := Lib.hid fun (x : Nat) (hx : x < 64) => implies_no (f := a.data.toList) (g := b.data.toList) hx
  have la := Lz.norm_len64 a.data.toList
  have lb := Lz.norm_len64 b.data.toList
  go_enter Tryd.func32, Tryd.ntmps32
  go_wp2_with fail
  refine (refNorm_any a ha _).mono ?_
  rintro e w1 ⟨rfl, hb1⟩
  go_wp2_with fail
  refine (refNorm_any b hb _).mono ?_
  rintro e w2 ⟨rfl, hb2⟩
  have hB := hb1.trans (hb2.mono hb1.size)
  generalize Lz.norm a.data.toList = p at HY HN la ⊢
  generalize Lz.norm b.data.toList = q at HY HN lb ⊢
  go_wp2_with fail
  go_loop [5] (fun i => ∃ k : Nat, k ≤ 64 ∧ i = .int .i64 k ∧ ∀ x, x < k → (Lz.holds p (UInt8.ofNat x) = true → Lz.holds q (UInt8.ofNat x) = true)) (fun i => 64 - (intOf i).toNat)
  case atStart => exact ⟨0, by omega, rfl, fun x h => by omega⟩
  case round =>
    obtain ⟨k, hk, rfl, hall⟩ := hrel
    have HA := Lib.hid hall
    clear hall
    by_cases hlt : k < 64
    · have hw : IntKind.u8.wrap (k : Int) = (k : Int) := by rw [IntKind.wrap_u8]; omega
      have H1 := Lib.hid fun W => refholds_any (str p) (by rw [str_size]; omega) (k : Int) (UInt8.ofNat k) (by rw [Lz.toNat_ofNat_lt (by omega)]) W
      have H2 := Lib.hid fun W => refholds_any (str q) (by rw [str_size]; omega) (k : Int) (UInt8.ofNat k) (by rw [Lz.toNat_ofNat_lt (by omega)]) W
      rw [lst_str] at H1 H2
      have HNk := Lib.hid (HN.out k hlt)
      have HSk := Lib.hid (show (Lz.holds p (UInt8.ofNat k) = true → Lz.holds q (UInt8.ofNat k) = true) → ∀ x, x < k + 1 → (Lz.holds p (UInt8.ofNat x) = true → Lz.holds q (UInt8.ofNat x) = true) from fun h x hx => by
        by_cases e : x = k
        · subst e; exact h
        · exact HA.out x (by omega))
      generalize Lz.holds p (UInt8.ofNat k) = u at H1 HNk HSk
      generalize Lz.holds q (UInt8.ofNat k) = v at H2 HNk HSk
      go_wp2_with fail
      refine (H1.out _).mono ?_
      rintro e w' ⟨rfl, rfl⟩
      cases u with
      | false =>
        go_wp2
        go_round
        case rel => exact ⟨k + 1, by omega, by go_num, HSk.out (fun h => by cases h)⟩
        case measure => simp [intOf]; omega
      | true =>
        go_wp2_with fail
        refine (H2.out _).mono ?_
        rintro e w' ⟨rfl, rfl⟩
        cases v with
        | true =>
          go_wp2
          go_round
          case rel => exact ⟨k + 1, by omega, by go_num, HSk.out (fun _ => by trivial)⟩
          case measure => simp [intOf]; omega
        | false =>
          have HR := Lib.hid (HNk.out (by trivial) (by trivial))
          go_wp2
          go_ret
          exact ⟨ret_bool HR.out.symm, hB⟩
    · obtain rfl : k = 64 := by omega
      have HR := Lib.hid (HY.out HA.out)
      go_wp2
      go_ret
      exact ⟨ret_bool HR.out.symm, hB⟩
end Go.Proofs.YtmldammikebhiaaDoor
