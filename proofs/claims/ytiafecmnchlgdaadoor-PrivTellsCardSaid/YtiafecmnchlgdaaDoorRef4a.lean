/- The contracts of the document's answer to chapter 4: Of, Flows. Condition: the formulas' lengths. -/
import Derived.Test.YtiafecmnchlgdaaDoorRefL4
import Derived.Test.YtiafecmnchlgdaaDoorRef2f
import Derived.Test.YtiafecmnchlgdaaDoorRef2i
import Derived.Test.YtiafecmnchlgdaaDoorPriv
import Derived.BigQuiet
namespace Go.Proofs.YtiafecmnchlgdaaDoor
open Go.RowKit Go.Shelf
open Lz (ofTo ofP ofTo_length ofP_length)
attribute [local go_sem] str_list str_size str_app
theorem norm_ofP (p : UInt8) : Lz.norm (ofP p) = ofP p := by
  have hall : (List.range 256).all (fun n => Lz.norm (ofP (UInt8.ofNat n)) == ofP (UInt8.ofNat n)) = true := by decide +kernel
  have := List.all_eq_true.1 hall p.toNat (List.mem_range.2 p.toNat_lt)
  rw [UInt8.ofNat_toNat] at this
  exact eq_of_beq this
theorem pow_mod256 (k : Nat) (h : k < 6) : (2 : Int) ^ k % 256 = ((UInt8.ofNat (2 ^ k)).toNat : Int) := by
  match k, h with
  | 0, _ => rfl
  | 1, _ => rfl
  | 2, _ => rfl
  | 3, _ => rfl
  | 4, _ => rfl
  | 5, _ => rfl
set_option maxRecDepth 100000 in
set_option maxHeartbeats 2000000 in
theorem ref4Of_any (x : Int) (p : UInt8) (hx : x = p.toNat) (w : World) : Calls Tryd.prog 12 #[.int .u8 x] w fun e w' => e = .returned (.string (str (ofP p))) ∧ Below w.heap.size w w' := by
  subst hx
  have hp8 := p.toNat_lt
  have HN := Lib.hid (norm_ofP p)
  go_enter Tryd.func12, Tryd.ntmps12
  go_wp2_with fail
  go_loopw [3, 4] (fun s i wr => ∃ k : Nat, k ≤ 6 ∧ i = .int .i64 k ∧ s = .string (str (ofTo p k)) ∧ Below w.heap.size w wr) (fun _ i _ => 6 - (intOf i).toNat)
  case atStart => exact ⟨0, by omega, rfl, rfl, Below.refl _ _⟩
  case round =>
    obtain ⟨k, hk, rfl, rfl, hB⟩ := hrel
    by_cases hlt : k < 6
    · have hsh := shl_u8 k hlt
      have hll := ofTo_length p k
      have e1 := half_bit p k
      have e0 := half_nonneg p k
      have hst : ofTo p (k + 1) = if Lz.bit p k then ofTo p k ++ [UInt8.ofNat (2 ^ k)] else ofTo p k := by rw [ofTo, Lz.sub_two hlt]
      cases hb : Lz.bit p k with
      | false =>
        rw [hb, if_neg (by decide)] at e1 hst
        have HST := Lib.hid hst
        clear hst hb
        go_wp2
        go_roundw
        case rel => exact ⟨k + 1, by omega, by go_num, by rw [HST.out], hB⟩
        case measure => simp [intOf]; omega
      | true =>
        rw [hb, if_pos rfl] at e1 hst
        have HST := Lib.hid hst
        have hcv := fun W => one_byte W ((2 : Int) ^ k % 256) (UInt8.ofNat (2 ^ k)) (pow_mod256 k hlt)
        clear hst hb
        generalize ofTo p k = L at HST hll ⊢
        go_wp2
        go_roundw
        case rel => exact ⟨k + 1, by omega, by go_num, by rw [HST.out], hB.alloc hB.size _⟩
        case measure => simp [intOf]; omega
    · obtain rfl : k = 6 := by omega
      have hll := ofTo_length p 6
      have HR := Lib.hid (refNorm_any (str (ofTo p 6)) (by rw [str_size]; omega) wr)
      rw [lst_str, show Lz.norm (ofTo p 6) = ofTo p 6 from HN.out] at HR
      go_wp2_with fail
      refine HR.out.mono ?_
      rintro e w1 ⟨rfl, hb1⟩
      go_wp2
      go_ret
      exact ⟨rfl, hB.trans (hb1.mono hB.size)⟩
/-- Labels of a few clauses. -/
def okR (a : Lz.Lab) : Prop := a.1.length ≤ 1000 ∧ a.2.length ≤ 1000
set_option maxRecDepth 100000 in
set_option maxHeartbeats 2000000 in
theorem ref4Flows_p (a b : Lz.Lab) (ha : okR a) (hb : okR b) (x : Int) (p : UInt8) (hx : x = p.toNat) (w : World) :
    Calls Tryd.prog 14 #[pv a, pv b, .int .u8 x] w fun e w' => e = .returned (.bool (Lz.fb a b p)) ∧ Below w.heap.size w w' := by
  subst hx
  obtain ⟨ha1, ha2⟩ := ha
  obtain ⟨hb1, hb2⟩ := hb
  have bL : BoxR ((w.alloc (.cells #[.string (str a.1), .string (str a.2)] 32)).alloc (.cells #[.string (str b.1), .string (str b.2)] 32)) w.heap.size a := (Box2.new w _ _ _).alloc _
  have bM := Box2.new (w.alloc (.cells #[.string (str a.1), .string (str a.2)] 32)) 32 (.string (str b.1)) (.string (str b.2))
  rw [World.size_alloc] at bM
  have hA : Below w.heap.size w ((w.alloc (.cells #[.string (str a.1), .string (str a.2)] 32)).alloc (.cells #[.string (str b.1), .string (str b.2)] 32)) := ((Below.refl _ w).alloc (Nat.le_refl _) _).alloc (by simp) _
  have hof := ofP_length p
  have mixed := mixedOrders
  have hs1 : (Lz.and b.1 (ofP p)).length ≤ 64 := Lz.norm_len64 _
  have hs2 : (Lz.and a.2 (ofP p)).length ≤ 64 := Lz.norm_len64 _
  have HF := Lib.hid (show Lz.fb a b p = (Lz.implies (Lz.and b.1 (ofP p)) a.1 && Lz.implies (Lz.and a.2 (ofP p)) b.2) from rfl)
  have C0 := Lib.hid fun W => ref4Of_any (p.toNat : Int) p rfl W
  have C1 := Lib.hid fun W => refAnd_any (str b.1) (str (ofP p)) (by rw [str_size]; omega) (by rw [str_size]; omega) W
  have C2 := Lib.hid fun W => refImplies_any (str (Lz.and b.1 (ofP p))) (str a.1) (by rw [str_size]; omega) (by rw [str_size]; omega) W
  have C3 := Lib.hid fun W => refAnd_any (str a.2) (str (ofP p)) (by rw [str_size]; omega) (by rw [str_size]; omega) W
  have C4 := Lib.hid fun W => refImplies_any (str (Lz.and a.2 (ofP p))) (str b.2) (by rw [str_size]; omega) (by rw [str_size]; omega) W
  simp only [lst_str] at C1 C2 C3 C4
  generalize Lz.implies (Lz.and b.1 (ofP p)) a.1 = u at HF C2
  generalize Lz.implies (Lz.and a.2 (ofP p)) b.2 = v at HF C4
  generalize Lz.and b.1 (ofP p) = y at C1 C2
  generalize Lz.and a.2 (ofP p) = z at C3 C4
  generalize ofP p = o at C0 C1 C3
  go_enter Tryd.func14, Tryd.ntmps14
  go_wp2_with fail
  generalize ((w.alloc (.cells #[.string (str a.1), .string (str a.2)] 32)).alloc (.cells #[.string (str b.1), .string (str b.2)] 32)) = w1 at bL bM hA ⊢
  have k0 := cell_regrown bL.cell0
  have k1 := cell_regrown bL.cell1
  have k2 := cell_regrown bM.cell0
  have k3 := cell_regrown bM.cell1
  have c0 := quiet_call (w := w1) (fun W _ => C0.out W)
  have c1 := quiet_call (w := w1) (fun W _ => C1.out W)
  have c2 := quiet_call (w := w1) (fun W _ => C2.out W)
  have c3 := quiet_call (w := w1) (fun W _ => C3.out W)
  have c4 := quiet_call (w := w1) (fun W _ => C4.out W)
  cases u with
  | false =>
    refine wp_region_quiet_below mixed (by kernel_rfl) ?_
    repeat (go_big_quiet_step (fail))
    go_big_quiet_step (exact c0 _ _)
    repeat (go_big_quiet_step (fail))
    go_big_quiet_step (exact c1 _ _)
    repeat (go_big_quiet_step (fail))
    go_big_quiet_step (exact c2 _ _)
    repeat (go_big_quiet_step (fail))
    refine wpQuiet_nil ?_
    intro W1 hw'
    have hb2 := below_of_regrown hw'
    clear hw' k0 k1 k2 k3 c0 c1 c2 c3 c4
    go_wp2
    go_ret
    exact ⟨by rw [HF.out]; rfl, hA.trans (hb2.mono hA.size)⟩
  | true =>
    refine wp_region_quiet_below mixed (by kernel_rfl) ?_
    repeat (go_big_quiet_step (fail))
    go_big_quiet_step (exact c0 _ _)
    repeat (go_big_quiet_step (fail))
    go_big_quiet_step (exact c1 _ _)
    repeat (go_big_quiet_step (fail))
    go_big_quiet_step (exact c2 _ _)
    repeat (go_big_quiet_step (fail))
    go_big_quiet_step (exact c0 _ _)
    repeat (go_big_quiet_step (fail))
    go_big_quiet_step (exact c3 _ _)
    repeat (go_big_quiet_step (fail))
    go_big_quiet_step (exact c4 _ _)
    repeat (go_big_quiet_step (fail))
    refine wpQuiet_nil ?_
    intro W1 hw'
    have hb2 := below_of_regrown hw'
    clear hw' k0 k1 k2 k3 c0 c1 c2 c3 c4
    go_wp2
    go_ret
    exact ⟨by rw [HF.out]; rfl, hA.trans (hb2.mono hA.size)⟩
end Go.Proofs.YtiafecmnchlgdaaDoor
