/- The contract of the document's answer to chapter 4: Needs. Condition: the formulas' lengths. -/
import Derived.Test.YtiafecmnchlgdaaDoorRef4b
namespace Go.Proofs.YtiafecmnchlgdaaDoor
open Go.RowKit Go.Shelf
attribute [local go_sem] str_list str_size str_app
theorem enough_nrm (a b : Lz.Lab) (k : Nat) : Lz.enough (Lz.nrm a) (Lz.nrm b) k = Lz.enough a b k := by
  induction k with
  | zero => rfl
  | succ k ih => unfold Lz.enough; rw [ih, Lz.fb_nrm]
set_option maxRecDepth 100000 in
set_option maxHeartbeats 2000000 in
theorem ref4Needs_p (a b : Lz.Lab) (ha : okR a) (hb : okR b) (w : World) : Calls Tryd.prog 22 #[pv a, pv b] w fun e w' => e = .returned (.string (str (Lz.needs a b))) ∧ Below w.heap.size w w' := by
  have HND := Lib.hid (show Lz.least (Lz.enough a b 64) = Lz.needs a b from by rw [← enough_nrm]; rfl)
  have bA : BoxR ((w.alloc (.cells #[.string (str a.1), .string (str a.2)] 32)).alloc (.cells #[.string (str b.1), .string (str b.2)] 32)) w.heap.size a := (Box2.new w _ _ _).alloc _
  have bB := Box2.new (w.alloc (.cells #[.string (str a.1), .string (str a.2)] 32)) 32 (.string (str b.1)) (.string (str b.2))
  rw [World.size_alloc] at bB
  have hA : Below w.heap.size w ((w.alloc (.cells #[.string (str a.1), .string (str a.2)] 32)).alloc (.cells #[.string (str b.1), .string (str b.2)] 32)) := ((Below.refl _ w).alloc (Nat.le_refl _) _).alloc (by simp) _
  go_enter Tryd.func22, Tryd.ntmps22
  go_wp2_with fail
  generalize ((w.alloc (.cells #[.string (str a.1), .string (str a.2)] 32)).alloc (.cells #[.string (str b.1), .string (str b.2)] 32)) = wA at bA bB hA ⊢
  go_loopw [5, 6] (fun s i wr => ∃ k : Nat, k ≤ 64 ∧ i = .int .i64 k ∧ s = .string (str (Lz.enough a b k)) ∧ BoxR wr w.heap.size a ∧ BoxR wr (w.heap.size + 1) b ∧ Below w.heap.size w wr) (fun _ i _ => 64 - (intOf i).toNat)
  case atStart => exact ⟨0, by omega, rfl, rfl, bA, bB, hA⟩
  case round =>
    obtain ⟨k, hk, rfl, rfl, A1, B1, hB1⟩ := hrel
    have hel := Lz.enough_length a b k
    by_cases hlt : k < 64
    · have hw : IntKind.u8.wrap (k : Int) = (k : Int) := by rw [IntKind.wrap_u8]; omega
      have hkn : (k : Int) = ((UInt8.ofNat k).toNat : Int) := by rw [Lz.toNat_ofNat_lt (by omega)]
      have HKN := Lib.hid hkn
      have HF := Lib.hid (ref4Flows_p a b ha hb (k : Int) (UInt8.ofNat k) hkn wr)
      have hst : Lz.enough a b (k + 1) = if Lz.fb a b (UInt8.ofNat k) then Lz.enough a b k ++ [UInt8.ofNat k] else Lz.enough a b k := rfl
      have HST := Lib.hid hst
      clear hkn hst
      have g0 := A1.cell0
      have g1 := A1.cell1
      have g2 := B1.cell0
      have g3 := B1.cell1
      generalize hu : UInt8.ofNat k = u at HKN HF HST
      clear hu
      have hcv := fun W => one_byte W (k : Int) u HKN.out
      cases hb : Lz.fb a b u with
      | false =>
        rw [hb] at HF HST
        clear hb
        rw [if_neg (by decide)] at HST
        go_wp2_with fail
        refine HF.out.mono ?_
        rintro e w1 ⟨rfl, hb1⟩
        go_wp2
        go_roundw
        case rel => exact ⟨k + 1, by omega, by go_num, by rw [HST.out], A1.below hb1 A1.lt, B1.below hb1 B1.lt, hB1.trans (hb1.mono hB1.size)⟩
        case measure => simp [intOf]; omega
      | true =>
        rw [hb] at HF HST
        clear hb
        rw [if_pos rfl] at HST
        generalize Lz.enough a b k = L at HST hel ⊢
        go_wp2_with fail
        refine HF.out.mono ?_
        rintro e w1 ⟨rfl, hb1⟩
        have A2 := A1.below hb1 A1.lt
        have B2 := B1.below hb1 B1.lt
        have hB2 := hB1.trans (hb1.mono hB1.size)
        go_wp2
        go_roundw
        case rel => exact ⟨k + 1, by omega, by go_num, by rw [HST.out], A2.alloc _, B2.alloc _, hB2.alloc hB2.size _⟩
        case measure => simp [intOf]; omega
    · obtain rfl : k = 64 := by omega
      have HL := Lib.hid (refLeast_any (str (Lz.enough a b 64)) (by rw [str_size]; omega) wr)
      rw [lst_str, HND.out] at HL
      go_wp2_with fail
      refine HL.out.mono ?_
      rintro e w1 ⟨rfl, hb1⟩
      go_wp2
      go_ret
      exact ⟨rfl, hB1.trans (hb1.mono hB1.size)⟩
end Go.Proofs.YtiafecmnchlgdaaDoor
