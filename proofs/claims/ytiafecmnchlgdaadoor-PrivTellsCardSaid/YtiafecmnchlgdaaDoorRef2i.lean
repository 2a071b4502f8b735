/- The contract of the document's answer to chapter 2: Implies. Condition: the lengths. -/
import Derived.Test.YtiafecmnchlgdaaDoorRef2n
import Derived.Test.YtiafecmnchlgdaaDoorImplies
namespace Go.Proofs.YtiafecmnchlgdaaDoor
open Go.RowKit Go.Shelf
attribute [local go_sem] str_list str_size str_app
theorem implies_yes {f g : List UInt8} (h : ∀ x, x < 64 → (Lz.holds (Lz.norm f) (UInt8.ofNat x) = true → Lz.holds (Lz.norm g) (UInt8.ofNat x) = true)) : Lz.implies f g = true := by
  unfold Lz.implies
  rw [List.all_eq_true]
  intro x hx
  have h1 := h x (List.mem_range.1 hx)
  show (!Lz.holds (Lz.norm f) (UInt8.ofNat x) || Lz.holds (Lz.norm g) (UInt8.ofNat x)) = true
  cases hq : Lz.holds (Lz.norm f) (UInt8.ofNat x)
  · rfl
  · rw [h1 hq]; rfl
theorem implies_no {f g : List UInt8} {x : Nat} (hx : x < 64) (h1 : Lz.holds (Lz.norm f) (UInt8.ofNat x) = true) (h2 : Lz.holds (Lz.norm g) (UInt8.ofNat x) = false) : Lz.implies f g = false := by
  cases h : Lz.implies f g with
  | false => rfl
  | true =>
    have := Lz.implies_iff.1 h (UInt8.ofNat x) h1
    unfold Lz.sat at this
    rw [h2] at this
    cases this
set_option maxRecDepth 100000 in
set_option maxHeartbeats 2000000 in
theorem refImplies_any (a b : ByteArray) (ha : a.size ≤ 100000) (hb : b.size ≤ 100000) (w : World) : Calls Tryd.prog 34 #[.string a, .string b] w fun e w' => e = .returned (.bool (Lz.implies a.data.toList b.data.toList)) ∧ Below w.heap.size w w' := by
  have HY := Lib.hid (implies_yes (f := a.data.toList) (g := b.data.toList))
  have HN := Lib.hid fun (x : Nat) (hx : x < 64) => implies_no (f := a.data.toList) (g := b.data.toList) hx
  have la := Lz.norm_len64 a.data.toList
  have lb := Lz.norm_len64 b.data.toList
  go_enter Tryd.func34, Tryd.ntmps34
  go_wp2_with fail
  refine (refNorm_any a ha _).mono ?_
  rintro e w1 ⟨rfl, hb1⟩
  go_wp2_with fail
  refine (refNorm_any b hb _).mono ?_
  rintro e w2 ⟨rfl, hb2⟩
  have hB := hb1.trans (hb2.mono hb1.size)
  generalize Lz.norm a.data.toList = p at HY HN la ⊢
  generalize Lz.norm b.data.toList = q at HY HN lb ⊢
  go_wp2_with fail
  go_loop [5] (fun i => ∃ k : Nat, k ≤ 64 ∧ i = .int .i64 k ∧ ∀ x, x < k → (Lz.holds p (UInt8.ofNat x) = true → Lz.holds q (UInt8.ofNat x) = true)) (fun i => 64 - (intOf i).toNat)
  case atStart => exact ⟨0, by omega, rfl, fun x h => by omega⟩
  case round =>
    obtain ⟨k, hk, rfl, hall⟩ := hrel
    have HA := Lib.hid hall
    clear hall
    by_cases hlt : k < 64
    · have hw : IntKind.u8.wrap (k : Int) = (k : Int) := by rw [IntKind.wrap_u8]; omega
      have H1 := Lib.hid fun W => refholds_any (str p) (by rw [str_size]; omega) (k : Int) (UInt8.ofNat k) (by rw [Lz.toNat_ofNat_lt (by omega)]) W
      have H2 := Lib.hid fun W => refholds_any (str q) (by rw [str_size]; omega) (k : Int) (UInt8.ofNat k) (by rw [Lz.toNat_ofNat_lt (by omega)]) W
      rw [lst_str] at H1 H2
      have HNk := Lib.hid (HN.out k hlt)
      have HSk := Lib.hid (show (Lz.holds p (UInt8.ofNat k) = true → Lz.holds q (UInt8.ofNat k) = true) → ∀ x, x < k + 1 → (Lz.holds p (UInt8.ofNat x) = true → Lz.holds q (UInt8.ofNat x) = true) from fun h x hx => by
        by_cases e : x = k
        · subst e; exact h
        · exact HA.out x (by omega))
      generalize Lz.holds p (UInt8.ofNat k) = u at H1 HNk HSk
      generalize Lz.holds q (UInt8.ofNat k) = v at H2 HNk HSk
      go_wp2_with fail
      refine (H1.out _).mono ?_
      rintro e w' ⟨rfl, rfl⟩
      cases u with
      | false =>
        go_wp2
        go_round
        case rel => exact ⟨k + 1, by omega, by go_num, HSk.out (fun h => by cases h)⟩
        case measure => simp [intOf]; omega
      | true =>
        go_wp2_with fail
        refine (H2.out _).mono ?_
        rintro e w' ⟨rfl, rfl⟩
        cases v with
        | true =>
          go_wp2
          go_round
          case rel => exact ⟨k + 1, by omega, by go_num, HSk.out (fun _ => by trivial)⟩
          case measure => simp [intOf]; omega
        | false =>
          have HR := Lib.hid (HNk.out (by trivial) (by trivial))
          go_wp2
          go_ret
          exact ⟨ret_bool HR.out.symm, hB⟩
    · obtain rfl : k = 64 := by omega
      have HR := Lib.hid (HY.out HA.out)
      go_wp2
      go_ret
      exact ⟨ret_bool HR.out.symm, hB⟩
end Go.Proofs.YtiafecmnchlgdaaDoor
