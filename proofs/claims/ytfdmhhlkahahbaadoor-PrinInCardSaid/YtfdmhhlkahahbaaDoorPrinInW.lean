/- The walk of PrinIn. Condition: the table of letters holds its text. -/
import Derived.Test.YtfdmhhlkahahbaaDoorPrinEx
namespace Go.Proofs.YtfdmhhlkahahbaaDoor
open Go.RowKit Go.Shelf

theorem sub_self_or (a b : UInt8) : Lz.sub a (a ||| b) = true := Lz.sub_or_left a b
theorem and_sub_self (a b : UInt8) : Lz.sub (a &&& b) a = true := Lz.sub_iff.2 fun i _ h => by rw [Lz.bit_and] at h; simp at h; exact h.1
theorem count_or_and (a b : UInt8) : countB a + countB b = countB (a ||| b) + countB (a &&& b) := by
  have : ∀ l : List Nat, l.countP (fun i => Lz.bit a i) + l.countP (fun i => Lz.bit b i) = l.countP (fun i => Lz.bit (a ||| b) i) + l.countP (fun i => Lz.bit (a &&& b) i) := by
    intro l
    induction l with
    | nil => rfl
    | cons i l ih =>
      rw [List.countP_cons, List.countP_cons, List.countP_cons, List.countP_cons, Lz.bit_or, Lz.bit_and]
      cases Lz.bit a i <;> cases Lz.bit b i <;> simp only [Bool.or_self, Bool.and_self, Bool.or_true, Bool.true_or, Bool.and_false, Bool.false_and, if_true, if_false, Bool.false_eq_true] <;> omega
  exact this _
theorem count_le_of_sub {a b : UInt8} (h : Lz.sub a b = true) : countB a ≤ countB b := by
  unfold countB
  refine List.countP_mono_left fun i hi => ?_
  exact Lz.sub_iff.1 h i (by simpa using hi)
theorem right_of_sub {a b : UInt8} (h : Lz.sub a b = true) (hb : b.toNat < 64) : a.toNat < 64 := by have := Lz.sub_le h; omega
theorem and_comm_sub (a b : UInt8) (h : Lz.sub a b = true) (k : Lz.sub b a = true) : (((a.toNat : Int)) == (b.toNat : Int)) = true := by rw [Lz.sub_antisymm h k]; simp

theorem ne_of_not_sub {a b : UInt8} (h : Lz.sub b a = false) : (((a.toNat : Int)) == (b.toNat : Int)) = false := by
  rw [toNat_beq, beq_eq_false_iff_ne]
  rintro rfl
  rw [Lz.sub_refl] at h
  cases h
theorem right_dec {a b : UInt8} (h : Lz.sub a b = true) (hb : decide (b.toNat < 64) = true) : decide (a.toNat < 64) = true := by
  have := right_of_sub h (by simpa using hb)
  simpa using this
set_option maxRecDepth 100000 in
set_option maxHeartbeats 2000000 in
theorem walkPrinIn111 (a b c : UInt8) (w : World) (hL : Letters w) (hab : Lz.sub a b = true) (hba : Lz.sub b a = true) (hbc : Lz.sub b c = true) (hr : decide (b.toNat < 64) = true) :
    Calls Tryd.prog 6 #[.int .u8 (a.toNat : Int), .int .u8 (b.toNat : Int), .int .u8 (c.toNat : Int)] w fun e w' => e = .returned (.bool true) ∧ Below w.heap.size w w' := by
    have HEX := Lib.hid (examples_any w hL)
    have hcnt : (countB a : Int) + (countB b : Int) = (countB (a ||| b) : Int) + (countB (a &&& b) : Int) := by have := count_or_and a b; omega
    have la := countB_le a
    have lb := countB_le b
    have lo := countB_le (a ||| b)
    have lc := countB_le (a &&& b)
    have HC := Lib.hid hcnt
    have hle := count_le_of_sub hab
    have hle' : ¬ ((countB b : Int) < (countB a : Int)) := by omega
    have HRB := Lib.hid hr
    have heq := and_comm_sub a b hab hba
    have HAC := Lib.hid (Lz.sub_trans hab hbc)
    have HRA := Lib.hid (right_dec hab hr)
    have HAB := Lib.hid hab
    have HBA := Lib.hid hba
    have HBC := Lib.hid hbc
    clear hab hba hbc hr hcnt hL
    go_enter Tryd.func6, Tryd.ntmps6
    go_wp2_with fail
    refine HEX.out.mono ?_
    rintro e w1 ⟨rfl, hb1⟩
    go_wp2_with fail
    refine (in_any _ _ a a rfl rfl _).mono ?_
    rintro e w' ⟨rfl, rfl⟩
    rw [Lz.sub_refl a]
    go_wp2_with fail
    refine (in_any _ _ a b rfl rfl _).mono ?_
    rintro e w' ⟨rfl, rfl⟩
    rw [HAB.out]
    go_wp2_with fail
    refine (in_any _ _ b a rfl rfl _).mono ?_
    rintro e w' ⟨rfl, rfl⟩
    rw [HBA.out]
    go_wp2_with fail
    refine (in_any _ _ a b rfl rfl _).mono ?_
    rintro e w' ⟨rfl, rfl⟩
    rw [HAB.out]
    go_wp2_with fail
    refine (in_any _ _ b c rfl rfl _).mono ?_
    rintro e w' ⟨rfl, rfl⟩
    rw [HBC.out]
    go_wp2_with fail
    refine (in_any _ _ a c rfl rfl _).mono ?_
    rintro e w' ⟨rfl, rfl⟩
    rw [HAC.out]
    go_wp2_with fail
    refine (in_any _ _ a b rfl rfl _).mono ?_
    rintro e w' ⟨rfl, rfl⟩
    rw [HAB.out]
    go_wp2_with fail
    refine (count_any _ a rfl _).mono ?_
    rintro e w' ⟨rfl, rfl⟩
    go_wp2_with fail
    refine (count_any _ b rfl _).mono ?_
    rintro e w' ⟨rfl, rfl⟩
    go_wp2_with fail
    refine (right_any _ b rfl _).mono ?_
    rintro e w' ⟨rfl, rfl⟩
    rw [HRB.out]
    go_wp2_with fail
    refine (right_any _ a rfl _).mono ?_
    rintro e w' ⟨rfl, rfl⟩
    rw [HRA.out]
    go_wp2_with fail
    refine (in_any _ _ a (a ||| b) rfl (bits_or_u8 a b) _).mono ?_
    rintro e w' ⟨rfl, rfl⟩
    rw [sub_self_or a b]
    go_wp2_with fail
    refine (in_any _ _ (a &&& b) a (bits_and_u8 a b) rfl _).mono ?_
    rintro e w' ⟨rfl, rfl⟩
    rw [and_sub_self a b]
    go_wp2_with fail
    refine (count_any _ a rfl _).mono ?_
    rintro e w' ⟨rfl, rfl⟩
    go_wp2_with fail
    refine (count_any _ b rfl _).mono ?_
    rintro e w' ⟨rfl, rfl⟩
    go_wp2_with fail
    refine (count_any _ (a ||| b) (bits_or_u8 a b) _).mono ?_
    rintro e w' ⟨rfl, rfl⟩
    go_wp2_with fail
    refine (count_any _ (a &&& b) (bits_and_u8 a b) _).mono ?_
    rintro e w' ⟨rfl, rfl⟩
    go_wp2
    go_ret
    exact ⟨ret_bool (beq_iff_eq.2 HC.out), hb1⟩

set_option maxRecDepth 100000 in
set_option maxHeartbeats 2000000 in
theorem walkPrinIn110 (a b c : UInt8) (w : World) (hL : Letters w) (hab : Lz.sub a b = true) (hba : Lz.sub b a = true) (hbc : Lz.sub b c = true) (hr : decide (b.toNat < 64) = false) :
    Calls Tryd.prog 6 #[.int .u8 (a.toNat : Int), .int .u8 (b.toNat : Int), .int .u8 (c.toNat : Int)] w fun e w' => e = .returned (.bool true) ∧ Below w.heap.size w w' := by
    have HEX := Lib.hid (examples_any w hL)
    have hcnt : (countB a : Int) + (countB b : Int) = (countB (a ||| b) : Int) + (countB (a &&& b) : Int) := by have := count_or_and a b; omega
    have la := countB_le a
    have lb := countB_le b
    have lo := countB_le (a ||| b)
    have lc := countB_le (a &&& b)
    have HC := Lib.hid hcnt
    have hle := count_le_of_sub hab
    have hle' : ¬ ((countB b : Int) < (countB a : Int)) := by omega
    have HRB := Lib.hid hr
    have heq := and_comm_sub a b hab hba
    have HAC := Lib.hid (Lz.sub_trans hab hbc)
    have HAB := Lib.hid hab
    have HBA := Lib.hid hba
    have HBC := Lib.hid hbc
    clear hab hba hbc hr hcnt hL
    go_enter Tryd.func6, Tryd.ntmps6
    go_wp2_with fail
    refine HEX.out.mono ?_
    rintro e w1 ⟨rfl, hb1⟩
    go_wp2_with fail
    refine (in_any _ _ a a rfl rfl _).mono ?_
    rintro e w' ⟨rfl, rfl⟩
    rw [Lz.sub_refl a]
    go_wp2_with fail
    refine (in_any _ _ a b rfl rfl _).mono ?_
    rintro e w' ⟨rfl, rfl⟩
    rw [HAB.out]
    go_wp2_with fail
    refine (in_any _ _ b a rfl rfl _).mono ?_
    rintro e w' ⟨rfl, rfl⟩
    rw [HBA.out]
    go_wp2_with fail
    refine (in_any _ _ a b rfl rfl _).mono ?_
    rintro e w' ⟨rfl, rfl⟩
    rw [HAB.out]
    go_wp2_with fail
    refine (in_any _ _ b c rfl rfl _).mono ?_
    rintro e w' ⟨rfl, rfl⟩
    rw [HBC.out]
    go_wp2_with fail
    refine (in_any _ _ a c rfl rfl _).mono ?_
    rintro e w' ⟨rfl, rfl⟩
    rw [HAC.out]
    go_wp2_with fail
    refine (in_any _ _ a b rfl rfl _).mono ?_
    rintro e w' ⟨rfl, rfl⟩
    rw [HAB.out]
    go_wp2_with fail
    refine (count_any _ a rfl _).mono ?_
    rintro e w' ⟨rfl, rfl⟩
    go_wp2_with fail
    refine (count_any _ b rfl _).mono ?_
    rintro e w' ⟨rfl, rfl⟩
    go_wp2_with fail
    refine (right_any _ b rfl _).mono ?_
    rintro e w' ⟨rfl, rfl⟩
    rw [HRB.out]
    go_wp2_with fail
    refine (in_any _ _ a (a ||| b) rfl (bits_or_u8 a b) _).mono ?_
    rintro e w' ⟨rfl, rfl⟩
    rw [sub_self_or a b]
    go_wp2_with fail
    refine (in_any _ _ (a &&& b) a (bits_and_u8 a b) rfl _).mono ?_
    rintro e w' ⟨rfl, rfl⟩
    rw [and_sub_self a b]
    go_wp2_with fail
    refine (count_any _ a rfl _).mono ?_
    rintro e w' ⟨rfl, rfl⟩
    go_wp2_with fail
    refine (count_any _ b rfl _).mono ?_
    rintro e w' ⟨rfl, rfl⟩
    go_wp2_with fail
    refine (count_any _ (a ||| b) (bits_or_u8 a b) _).mono ?_
    rintro e w' ⟨rfl, rfl⟩
    go_wp2_with fail
    refine (count_any _ (a &&& b) (bits_and_u8 a b) _).mono ?_
    rintro e w' ⟨rfl, rfl⟩
    go_wp2
    go_ret
    exact ⟨ret_bool (beq_iff_eq.2 HC.out), hb1⟩

set_option maxRecDepth 100000 in
set_option maxHeartbeats 2000000 in
theorem walkPrinIn101 (a b c : UInt8) (w : World) (hL : Letters w) (hab : Lz.sub a b = true) (hba : Lz.sub b a = true) (hbc : Lz.sub b c = false) (hr : decide (b.toNat < 64) = true) :
    Calls Tryd.prog 6 #[.int .u8 (a.toNat : Int), .int .u8 (b.toNat : Int), .int .u8 (c.toNat : Int)] w fun e w' => e = .returned (.bool true) ∧ Below w.heap.size w w' := by
    have HEX := Lib.hid (examples_any w hL)
    have hcnt : (countB a : Int) + (countB b : Int) = (countB (a ||| b) : Int) + (countB (a &&& b) : Int) := by have := count_or_and a b; omega
    have la := countB_le a
    have lb := countB_le b
    have lo := countB_le (a ||| b)
    have lc := countB_le (a &&& b)
    have HC := Lib.hid hcnt
    have hle := count_le_of_sub hab
    have hle' : ¬ ((countB b : Int) < (countB a : Int)) := by omega
    have HRB := Lib.hid hr
    have heq := and_comm_sub a b hab hba
    have HRA := Lib.hid (right_dec hab hr)
    have HAB := Lib.hid hab
    have HBA := Lib.hid hba
    have HBC := Lib.hid hbc
    clear hab hba hbc hr hcnt hL
    go_enter Tryd.func6, Tryd.ntmps6
    go_wp2_with fail
    refine HEX.out.mono ?_
    rintro e w1 ⟨rfl, hb1⟩
    go_wp2_with fail
    refine (in_any _ _ a a rfl rfl _).mono ?_
    rintro e w' ⟨rfl, rfl⟩
    rw [Lz.sub_refl a]
    go_wp2_with fail
    refine (in_any _ _ a b rfl rfl _).mono ?_
    rintro e w' ⟨rfl, rfl⟩
    rw [HAB.out]
    go_wp2_with fail
    refine (in_any _ _ b a rfl rfl _).mono ?_
    rintro e w' ⟨rfl, rfl⟩
    rw [HBA.out]
    go_wp2_with fail
    refine (in_any _ _ a b rfl rfl _).mono ?_
    rintro e w' ⟨rfl, rfl⟩
    rw [HAB.out]
    go_wp2_with fail
    refine (in_any _ _ b c rfl rfl _).mono ?_
    rintro e w' ⟨rfl, rfl⟩
    rw [HBC.out]
    go_wp2_with fail
    refine (in_any _ _ a b rfl rfl _).mono ?_
    rintro e w' ⟨rfl, rfl⟩
    rw [HAB.out]
    go_wp2_with fail
    refine (count_any _ a rfl _).mono ?_
    rintro e w' ⟨rfl, rfl⟩
    go_wp2_with fail
    refine (count_any _ b rfl _).mono ?_
    rintro e w' ⟨rfl, rfl⟩
    go_wp2_with fail
    refine (right_any _ b rfl _).mono ?_
    rintro e w' ⟨rfl, rfl⟩
    rw [HRB.out]
    go_wp2_with fail
    refine (right_any _ a rfl _).mono ?_
    rintro e w' ⟨rfl, rfl⟩
    rw [HRA.out]
    go_wp2_with fail
    refine (in_any _ _ a (a ||| b) rfl (bits_or_u8 a b) _).mono ?_
    rintro e w' ⟨rfl, rfl⟩
    rw [sub_self_or a b]
    go_wp2_with fail
    refine (in_any _ _ (a &&& b) a (bits_and_u8 a b) rfl _).mono ?_
    rintro e w' ⟨rfl, rfl⟩
    rw [and_sub_self a b]
    go_wp2_with fail
    refine (count_any _ a rfl _).mono ?_
    rintro e w' ⟨rfl, rfl⟩
    go_wp2_with fail
    refine (count_any _ b rfl _).mono ?_
    rintro e w' ⟨rfl, rfl⟩
    go_wp2_with fail
    refine (count_any _ (a ||| b) (bits_or_u8 a b) _).mono ?_
    rintro e w' ⟨rfl, rfl⟩
    go_wp2_with fail
    refine (count_any _ (a &&& b) (bits_and_u8 a b) _).mono ?_
    rintro e w' ⟨rfl, rfl⟩
    go_wp2
    go_ret
    exact ⟨ret_bool (beq_iff_eq.2 HC.out), hb1⟩

set_option maxRecDepth 100000 in
set_option maxHeartbeats 2000000 in
theorem walkPrinIn100 (a b c : UInt8) (w : World) (hL : Letters w) (hab : Lz.sub a b = true) (hba : Lz.sub b a = true) (hbc : Lz.sub b c = false) (hr : decide (b.toNat < 64) = false) :
    Calls Tryd.prog 6 #[.int .u8 (a.toNat : Int), .int .u8 (b.toNat : Int), .int .u8 (c.toNat : Int)] w fun e w' => e = .returned (.bool true) ∧ Below w.heap.size w w' := by
    have HEX := Lib.hid (examples_any w hL)
    have hcnt : (countB a : Int) + (countB b : Int) = (countB (a ||| b) : Int) + (countB (a &&& b) : Int) := by have := count_or_and a b; omega
    have la := countB_le a
    have lb := countB_le b
    have lo := countB_le (a ||| b)
    have lc := countB_le (a &&& b)
    have HC := Lib.hid hcnt
    have hle := count_le_of_sub hab
    have hle' : ¬ ((countB b : Int) < (countB a : Int)) := by omega
    have HRB := Lib.hid hr
    have heq := and_comm_sub a b hab hba
    have HAB := Lib.hid hab
    have HBA := Lib.hid hba
    have HBC := Lib.hid hbc
    clear hab hba hbc hr hcnt hL
    go_enter Tryd.func6, Tryd.ntmps6
    go_wp2_with fail
    refine HEX.out.mono ?_
    rintro e w1 ⟨rfl, hb1⟩
    go_wp2_with fail
    refine (in_any _ _ a a rfl rfl _).mono ?_
    rintro e w' ⟨rfl, rfl⟩
    rw [Lz.sub_refl a]
    go_wp2_with fail
    refine (in_any _ _ a b rfl rfl _).mono ?_
    rintro e w' ⟨rfl, rfl⟩
    rw [HAB.out]
    go_wp2_with fail
    refine (in_any _ _ b a rfl rfl _).mono ?_
    rintro e w' ⟨rfl, rfl⟩
    rw [HBA.out]
    go_wp2_with fail
    refine (in_any _ _ a b rfl rfl _).mono ?_
    rintro e w' ⟨rfl, rfl⟩
    rw [HAB.out]
    go_wp2_with fail
    refine (in_any _ _ b c rfl rfl _).mono ?_
    rintro e w' ⟨rfl, rfl⟩
    rw [HBC.out]
    go_wp2_with fail
    refine (in_any _ _ a b rfl rfl _).mono ?_
    rintro e w' ⟨rfl, rfl⟩
    rw [HAB.out]
    go_wp2_with fail
    refine (count_any _ a rfl _).mono ?_
    rintro e w' ⟨rfl, rfl⟩
    go_wp2_with fail
    refine (count_any _ b rfl _).mono ?_
    rintro e w' ⟨rfl, rfl⟩
    go_wp2_with fail
    refine (right_any _ b rfl _).mono ?_
    rintro e w' ⟨rfl, rfl⟩
    rw [HRB.out]
    go_wp2_with fail
    refine (in_any _ _ a (a ||| b) rfl (bits_or_u8 a b) _).mono ?_
    rintro e w' ⟨rfl, rfl⟩
    rw [sub_self_or a b]
    go_wp2_with fail
    refine (in_any _ _ (a &&& b) a (bits_and_u8 a b) rfl _).mono ?_
    rintro e w' ⟨rfl, rfl⟩
    rw [and_sub_self a b]
    go_wp2_with fail
    refine (count_any _ a rfl _).mono ?_
    rintro e w' ⟨rfl, rfl⟩
    go_wp2_with fail
    refine (count_any _ b rfl _).mono ?_
    rintro e w' ⟨rfl, rfl⟩
    go_wp2_with fail
    refine (count_any _ (a ||| b) (bits_or_u8 a b) _).mono ?_
    rintro e w' ⟨rfl, rfl⟩
    go_wp2_with fail
    refine (count_any _ (a &&& b) (bits_and_u8 a b) _).mono ?_
    rintro e w' ⟨rfl, rfl⟩
    go_wp2
    go_ret
    exact ⟨ret_bool (beq_iff_eq.2 HC.out), hb1⟩

set_option maxRecDepth 100000 in
set_option maxHeartbeats 2000000 in
theorem walkPrinIn011 (a b c : UInt8) (w : World) (hL : Letters w) (hab : Lz.sub a b = true) (hba : Lz.sub b a = false) (hbc : Lz.sub b c = true) (hr : decide (b.toNat < 64) = true) :
    Calls Tryd.prog 6 #[.int .u8 (a.toNat : Int), .int .u8 (b.toNat : Int), .int .u8 (c.toNat : Int)] w fun e w' => e = .returned (.bool true) ∧ Below w.heap.size w w' := by
    have HEX := Lib.hid (examples_any w hL)
    have hcnt : (countB a : Int) + (countB b : Int) = (countB (a ||| b) : Int) + (countB (a &&& b) : Int) := by have := count_or_and a b; omega
    have la := countB_le a
    have lb := countB_le b
    have lo := countB_le (a ||| b)
    have lc := countB_le (a &&& b)
    have HC := Lib.hid hcnt
    have hle := count_le_of_sub hab
    have hle' : ¬ ((countB b : Int) < (countB a : Int)) := by omega
    have HRB := Lib.hid hr
    have heq := ne_of_not_sub hba
    have HAC := Lib.hid (Lz.sub_trans hab hbc)
    have HRA := Lib.hid (right_dec hab hr)
    have HAB := Lib.hid hab
    have HBA := Lib.hid hba
    have HBC := Lib.hid hbc
    clear hab hba hbc hr hcnt hL
    go_enter Tryd.func6, Tryd.ntmps6
    go_wp2_with fail
    refine HEX.out.mono ?_
    rintro e w1 ⟨rfl, hb1⟩
    go_wp2_with fail
    refine (in_any _ _ a a rfl rfl _).mono ?_
    rintro e w' ⟨rfl, rfl⟩
    rw [Lz.sub_refl a]
    go_wp2_with fail
    refine (in_any _ _ a b rfl rfl _).mono ?_
    rintro e w' ⟨rfl, rfl⟩
    rw [HAB.out]
    go_wp2_with fail
    refine (in_any _ _ b a rfl rfl _).mono ?_
    rintro e w' ⟨rfl, rfl⟩
    rw [HBA.out]
    go_wp2_with fail
    refine (in_any _ _ a b rfl rfl _).mono ?_
    rintro e w' ⟨rfl, rfl⟩
    rw [HAB.out]
    go_wp2_with fail
    refine (in_any _ _ b c rfl rfl _).mono ?_
    rintro e w' ⟨rfl, rfl⟩
    rw [HBC.out]
    go_wp2_with fail
    refine (in_any _ _ a c rfl rfl _).mono ?_
    rintro e w' ⟨rfl, rfl⟩
    rw [HAC.out]
    go_wp2_with fail
    refine (in_any _ _ a b rfl rfl _).mono ?_
    rintro e w' ⟨rfl, rfl⟩
    rw [HAB.out]
    go_wp2_with fail
    refine (count_any _ a rfl _).mono ?_
    rintro e w' ⟨rfl, rfl⟩
    go_wp2_with fail
    refine (count_any _ b rfl _).mono ?_
    rintro e w' ⟨rfl, rfl⟩
    go_wp2_with fail
    refine (right_any _ b rfl _).mono ?_
    rintro e w' ⟨rfl, rfl⟩
    rw [HRB.out]
    go_wp2_with fail
    refine (right_any _ a rfl _).mono ?_
    rintro e w' ⟨rfl, rfl⟩
    rw [HRA.out]
    go_wp2_with fail
    refine (in_any _ _ a (a ||| b) rfl (bits_or_u8 a b) _).mono ?_
    rintro e w' ⟨rfl, rfl⟩
    rw [sub_self_or a b]
    go_wp2_with fail
    refine (in_any _ _ (a &&& b) a (bits_and_u8 a b) rfl _).mono ?_
    rintro e w' ⟨rfl, rfl⟩
    rw [and_sub_self a b]
    go_wp2_with fail
    refine (count_any _ a rfl _).mono ?_
    rintro e w' ⟨rfl, rfl⟩
    go_wp2_with fail
    refine (count_any _ b rfl _).mono ?_
    rintro e w' ⟨rfl, rfl⟩
    go_wp2_with fail
    refine (count_any _ (a ||| b) (bits_or_u8 a b) _).mono ?_
    rintro e w' ⟨rfl, rfl⟩
    go_wp2_with fail
    refine (count_any _ (a &&& b) (bits_and_u8 a b) _).mono ?_
    rintro e w' ⟨rfl, rfl⟩
    go_wp2
    go_ret
    exact ⟨ret_bool (beq_iff_eq.2 HC.out), hb1⟩

set_option maxRecDepth 100000 in
set_option maxHeartbeats 2000000 in
theorem walkPrinIn010 (a b c : UInt8) (w : World) (hL : Letters w) (hab : Lz.sub a b = true) (hba : Lz.sub b a = false) (hbc : Lz.sub b c = true) (hr : decide (b.toNat < 64) = false) :
    Calls Tryd.prog 6 #[.int .u8 (a.toNat : Int), .int .u8 (b.toNat : Int), .int .u8 (c.toNat : Int)] w fun e w' => e = .returned (.bool true) ∧ Below w.heap.size w w' := by
    have HEX := Lib.hid (examples_any w hL)
    have hcnt : (countB a : Int) + (countB b : Int) = (countB (a ||| b) : Int) + (countB (a &&& b) : Int) := by have := count_or_and a b; omega
    have la := countB_le a
    have lb := countB_le b
    have lo := countB_le (a ||| b)
    have lc := countB_le (a &&& b)
    have HC := Lib.hid hcnt
    have hle := count_le_of_sub hab
    have hle' : ¬ ((countB b : Int) < (countB a : Int)) := by omega
    have HRB := Lib.hid hr
    have heq := ne_of_not_sub hba
    have HAC := Lib.hid (Lz.sub_trans hab hbc)
    have HAB := Lib.hid hab
    have HBA := Lib.hid hba
    have HBC := Lib.hid hbc
    clear hab hba hbc hr hcnt hL
    go_enter Tryd.func6, Tryd.ntmps6
    go_wp2_with fail
    refine HEX.out.mono ?_
    rintro e w1 ⟨rfl, hb1⟩
    go_wp2_with fail
    refine (in_any _ _ a a rfl rfl _).mono ?_
    rintro e w' ⟨rfl, rfl⟩
    rw [Lz.sub_refl a]
    go_wp2_with fail
    refine (in_any _ _ a b rfl rfl _).mono ?_
    rintro e w' ⟨rfl, rfl⟩
    rw [HAB.out]
    go_wp2_with fail
    refine (in_any _ _ b a rfl rfl _).mono ?_
    rintro e w' ⟨rfl, rfl⟩
    rw [HBA.out]
    go_wp2_with fail
    refine (in_any _ _ a b rfl rfl _).mono ?_
    rintro e w' ⟨rfl, rfl⟩
    rw [HAB.out]
    go_wp2_with fail
    refine (in_any _ _ b c rfl rfl _).mono ?_
    rintro e w' ⟨rfl, rfl⟩
    rw [HBC.out]
    go_wp2_with fail
    refine (in_any _ _ a c rfl rfl _).mono ?_
    rintro e w' ⟨rfl, rfl⟩
    rw [HAC.out]
    go_wp2_with fail
    refine (in_any _ _ a b rfl rfl _).mono ?_
    rintro e w' ⟨rfl, rfl⟩
    rw [HAB.out]
    go_wp2_with fail
    refine (count_any _ a rfl _).mono ?_
    rintro e w' ⟨rfl, rfl⟩
    go_wp2_with fail
    refine (count_any _ b rfl _).mono ?_
    rintro e w' ⟨rfl, rfl⟩
    go_wp2_with fail
    refine (right_any _ b rfl _).mono ?_
    rintro e w' ⟨rfl, rfl⟩
    rw [HRB.out]
    go_wp2_with fail
    refine (in_any _ _ a (a ||| b) rfl (bits_or_u8 a b) _).mono ?_
    rintro e w' ⟨rfl, rfl⟩
    rw [sub_self_or a b]
    go_wp2_with fail
    refine (in_any _ _ (a &&& b) a (bits_and_u8 a b) rfl _).mono ?_
    rintro e w' ⟨rfl, rfl⟩
    rw [and_sub_self a b]
    go_wp2_with fail
    refine (count_any _ a rfl _).mono ?_
    rintro e w' ⟨rfl, rfl⟩
    go_wp2_with fail
    refine (count_any _ b rfl _).mono ?_
    rintro e w' ⟨rfl, rfl⟩
    go_wp2_with fail
    refine (count_any _ (a ||| b) (bits_or_u8 a b) _).mono ?_
    rintro e w' ⟨rfl, rfl⟩
    go_wp2_with fail
    refine (count_any _ (a &&& b) (bits_and_u8 a b) _).mono ?_
    rintro e w' ⟨rfl, rfl⟩
    go_wp2
    go_ret
    exact ⟨ret_bool (beq_iff_eq.2 HC.out), hb1⟩

set_option maxRecDepth 100000 in
set_option maxHeartbeats 2000000 in
theorem walkPrinIn001 (a b c : UInt8) (w : World) (hL : Letters w) (hab : Lz.sub a b = true) (hba : Lz.sub b a = false) (hbc : Lz.sub b c = false) (hr : decide (b.toNat < 64) = true) :
    Calls Tryd.prog 6 #[.int .u8 (a.toNat : Int), .int .u8 (b.toNat : Int), .int .u8 (c.toNat : Int)] w fun e w' => e = .returned (.bool true) ∧ Below w.heap.size w w' := by
    have HEX := Lib.hid (examples_any w hL)
    have hcnt : (countB a : Int) + (countB b : Int) = (countB (a ||| b) : Int) + (countB (a &&& b) : Int) := by have := count_or_and a b; omega
    have la := countB_le a
    have lb := countB_le b
    have lo := countB_le (a ||| b)
    have lc := countB_le (a &&& b)
    have HC := Lib.hid hcnt
    have hle := count_le_of_sub hab
    have hle' : ¬ ((countB b : Int) < (countB a : Int)) := by omega
    have HRB := Lib.hid hr
    have heq := ne_of_not_sub hba
    have HRA := Lib.hid (right_dec hab hr)
    have HAB := Lib.hid hab
    have HBA := Lib.hid hba
    have HBC := Lib.hid hbc
    clear hab hba hbc hr hcnt hL
    go_enter Tryd.func6, Tryd.ntmps6
    go_wp2_with fail
    refine HEX.out.mono ?_
    rintro e w1 ⟨rfl, hb1⟩
    go_wp2_with fail
    refine (in_any _ _ a a rfl rfl _).mono ?_
    rintro e w' ⟨rfl, rfl⟩
    rw [Lz.sub_refl a]
    go_wp2_with fail
    refine (in_any _ _ a b rfl rfl _).mono ?_
    rintro e w' ⟨rfl, rfl⟩
    rw [HAB.out]
    go_wp2_with fail
    refine (in_any _ _ b a rfl rfl _).mono ?_
    rintro e w' ⟨rfl, rfl⟩
    rw [HBA.out]
    go_wp2_with fail
    refine (in_any _ _ a b rfl rfl _).mono ?_
    rintro e w' ⟨rfl, rfl⟩
    rw [HAB.out]
    go_wp2_with fail
    refine (in_any _ _ b c rfl rfl _).mono ?_
    rintro e w' ⟨rfl, rfl⟩
    rw [HBC.out]
    go_wp2_with fail
    refine (in_any _ _ a b rfl rfl _).mono ?_
    rintro e w' ⟨rfl, rfl⟩
    rw [HAB.out]
    go_wp2_with fail
    refine (count_any _ a rfl _).mono ?_
    rintro e w' ⟨rfl, rfl⟩
    go_wp2_with fail
    refine (count_any _ b rfl _).mono ?_
    rintro e w' ⟨rfl, rfl⟩
    go_wp2_with fail
    refine (right_any _ b rfl _).mono ?_
    rintro e w' ⟨rfl, rfl⟩
    rw [HRB.out]
    go_wp2_with fail
    refine (right_any _ a rfl _).mono ?_
    rintro e w' ⟨rfl, rfl⟩
    rw [HRA.out]
    go_wp2_with fail
    refine (in_any _ _ a (a ||| b) rfl (bits_or_u8 a b) _).mono ?_
    rintro e w' ⟨rfl, rfl⟩
    rw [sub_self_or a b]
    go_wp2_with fail
    refine (in_any _ _ (a &&& b) a (bits_and_u8 a b) rfl _).mono ?_
    rintro e w' ⟨rfl, rfl⟩
    rw [and_sub_self a b]
    go_wp2_with fail
    refine (count_any _ a rfl _).mono ?_
    rintro e w' ⟨rfl, rfl⟩
    go_wp2_with fail
    refine (count_any _ b rfl _).mono ?_
    rintro e w' ⟨rfl, rfl⟩
    go_wp2_with fail
    refine (count_any _ (a ||| b) (bits_or_u8 a b) _).mono ?_
    rintro e w' ⟨rfl, rfl⟩
    go_wp2_with fail
    refine (count_any _ (a &&& b) (bits_and_u8 a b) _).mono ?_
    rintro e w' ⟨rfl, rfl⟩
    go_wp2
    go_ret
    exact ⟨ret_bool (beq_iff_eq.2 HC.out), hb1⟩

set_option maxRecDepth 100000 in
set_option maxHeartbeats 2000000 in
theorem walkPrinIn000 (a b c : UInt8) (w : World) (hL : Letters w) (hab : Lz.sub a b = true) (hba : Lz.sub b a = false) (hbc : Lz.sub b c = false) (hr : decide (b.toNat < 64) = false) :
    Calls Tryd.prog 6 #[.int .u8 (a.toNat : Int), .int .u8 (b.toNat : Int), .int .u8 (c.toNat : Int)] w fun e w' => e = .returned (.bool true) ∧ Below w.heap.size w w' := by
    have HEX := Lib.hid (examples_any w hL)
    have hcnt : (countB a : Int) + (countB b : Int) = (countB (a ||| b) : Int) + (countB (a &&& b) : Int) := by have := count_or_and a b; omega
    have la := countB_le a
    have lb := countB_le b
    have lo := countB_le (a ||| b)
    have lc := countB_le (a &&& b)
    have HC := Lib.hid hcnt
    have hle := count_le_of_sub hab
    have hle' : ¬ ((countB b : Int) < (countB a : Int)) := by omega
    have HRB := Lib.hid hr
    have heq := ne_of_not_sub hba
    have HAB := Lib.hid hab
    have HBA := Lib.hid hba
    have HBC := Lib.hid hbc
    clear hab hba hbc hr hcnt hL
    go_enter Tryd.func6, Tryd.ntmps6
    go_wp2_with fail
    refine HEX.out.mono ?_
    rintro e w1 ⟨rfl, hb1⟩
    go_wp2_with fail
    refine (in_any _ _ a a rfl rfl _).mono ?_
    rintro e w' ⟨rfl, rfl⟩
    rw [Lz.sub_refl a]
    go_wp2_with fail
    refine (in_any _ _ a b rfl rfl _).mono ?_
    rintro e w' ⟨rfl, rfl⟩
    rw [HAB.out]
    go_wp2_with fail
    refine (in_any _ _ b a rfl rfl _).mono ?_
    rintro e w' ⟨rfl, rfl⟩
    rw [HBA.out]
    go_wp2_with fail
    refine (in_any _ _ a b rfl rfl _).mono ?_
    rintro e w' ⟨rfl, rfl⟩
    rw [HAB.out]
    go_wp2_with fail
    refine (in_any _ _ b c rfl rfl _).mono ?_
    rintro e w' ⟨rfl, rfl⟩
    rw [HBC.out]
    go_wp2_with fail
    refine (in_any _ _ a b rfl rfl _).mono ?_
    rintro e w' ⟨rfl, rfl⟩
    rw [HAB.out]
    go_wp2_with fail
    refine (count_any _ a rfl _).mono ?_
    rintro e w' ⟨rfl, rfl⟩
    go_wp2_with fail
    refine (count_any _ b rfl _).mono ?_
    rintro e w' ⟨rfl, rfl⟩
    go_wp2_with fail
    refine (right_any _ b rfl _).mono ?_
    rintro e w' ⟨rfl, rfl⟩
    rw [HRB.out]
    go_wp2_with fail
    refine (in_any _ _ a (a ||| b) rfl (bits_or_u8 a b) _).mono ?_
    rintro e w' ⟨rfl, rfl⟩
    rw [sub_self_or a b]
    go_wp2_with fail
    refine (in_any _ _ (a &&& b) a (bits_and_u8 a b) rfl _).mono ?_
    rintro e w' ⟨rfl, rfl⟩
    rw [and_sub_self a b]
    go_wp2_with fail
    refine (count_any _ a rfl _).mono ?_
    rintro e w' ⟨rfl, rfl⟩
    go_wp2_with fail
    refine (count_any _ b rfl _).mono ?_
    rintro e w' ⟨rfl, rfl⟩
    go_wp2_with fail
    refine (count_any _ (a ||| b) (bits_or_u8 a b) _).mono ?_
    rintro e w' ⟨rfl, rfl⟩
    go_wp2_with fail
    refine (count_any _ (a &&& b) (bits_and_u8 a b) _).mono ?_
    rintro e w' ⟨rfl, rfl⟩
    go_wp2
    go_ret
    exact ⟨ret_bool (beq_iff_eq.2 HC.out), hb1⟩

set_option maxRecDepth 100000 in
set_option maxHeartbeats 2000000 in
theorem walkPrinIn0 (a b c : UInt8) (w : World) (hL : Letters w) (hab : Lz.sub a b = false) :
    Calls Tryd.prog 6 #[.int .u8 (a.toNat : Int), .int .u8 (b.toNat : Int), .int .u8 (c.toNat : Int)] w fun e w' => e = .returned (.bool true) ∧ Below w.heap.size w w' := by
    have HEX := Lib.hid (examples_any w hL)
    have hcnt : (countB a : Int) + (countB b : Int) = (countB (a ||| b) : Int) + (countB (a &&& b) : Int) := by have := count_or_and a b; omega
    have la := countB_le a
    have lb := countB_le b
    have lo := countB_le (a ||| b)
    have lc := countB_le (a &&& b)
    have HC := Lib.hid hcnt
    have HAB := Lib.hid hab
    clear hab hcnt hL
    go_enter Tryd.func6, Tryd.ntmps6
    go_wp2_with fail
    refine HEX.out.mono ?_
    rintro e w1 ⟨rfl, hb1⟩
    go_wp2_with fail
    refine (in_any _ _ a a rfl rfl _).mono ?_
    rintro e w' ⟨rfl, rfl⟩
    rw [Lz.sub_refl a]
    go_wp2_with fail
    refine (in_any _ _ a b rfl rfl _).mono ?_
    rintro e w' ⟨rfl, rfl⟩
    rw [HAB.out]
    go_wp2_with fail
    refine (in_any _ _ a b rfl rfl _).mono ?_
    rintro e w' ⟨rfl, rfl⟩
    rw [HAB.out]
    go_wp2_with fail
    refine (in_any _ _ a b rfl rfl _).mono ?_
    rintro e w' ⟨rfl, rfl⟩
    rw [HAB.out]
    go_wp2_with fail
    refine (in_any _ _ a (a ||| b) rfl (bits_or_u8 a b) _).mono ?_
    rintro e w' ⟨rfl, rfl⟩
    rw [sub_self_or a b]
    go_wp2_with fail
    refine (in_any _ _ (a &&& b) a (bits_and_u8 a b) rfl _).mono ?_
    rintro e w' ⟨rfl, rfl⟩
    rw [and_sub_self a b]
    go_wp2_with fail
    refine (count_any _ a rfl _).mono ?_
    rintro e w' ⟨rfl, rfl⟩
    go_wp2_with fail
    refine (count_any _ b rfl _).mono ?_
    rintro e w' ⟨rfl, rfl⟩
    go_wp2_with fail
    refine (count_any _ (a ||| b) (bits_or_u8 a b) _).mono ?_
    rintro e w' ⟨rfl, rfl⟩
    go_wp2_with fail
    refine (count_any _ (a &&& b) (bits_and_u8 a b) _).mono ?_
    rintro e w' ⟨rfl, rfl⟩
    go_wp2
    go_ret
    exact ⟨ret_bool (beq_iff_eq.2 HC.out), hb1⟩

theorem walkPrinIn (x : Int) (hx : (Lit.int .u8 x).wf = true) (y : Int) (hy : (Lit.int .u8 y).wf = true) (z : Int) (hz : (Lit.int .u8 z).wf = true) (w : World) (hL : Letters w) :
    Calls Tryd.prog 6 #[.int .u8 x, .int .u8 y, .int .u8 z] w fun e w' => e = .returned (.bool true) ∧ Below w.heap.size w w' := by
  obtain ⟨a, rfl⟩ := u8_of hx
  obtain ⟨b, rfl⟩ := u8_of hy
  obtain ⟨c, rfl⟩ := u8_of hz
  cases hab : Lz.sub a b with
  | false => exact walkPrinIn0 a b c w hL hab
  | true =>
    cases hba : Lz.sub b a <;> cases hbc : Lz.sub b c <;> cases hr : decide (b.toNat < 64)
    · exact walkPrinIn000 a b c w hL hab hba hbc hr
    · exact walkPrinIn001 a b c w hL hab hba hbc hr
    · exact walkPrinIn010 a b c w hL hab hba hbc hr
    · exact walkPrinIn011 a b c w hL hab hba hbc hr
    · exact walkPrinIn100 a b c w hL hab hba hbc hr
    · exact walkPrinIn101 a b c w hL hab hba hbc hr
    · exact walkPrinIn110 a b c w hL hab hba hbc hr
    · exact walkPrinIn111 a b c w hL hab hba hbc hr
end Go.Proofs.YtfdmhhlkahahbaaDoor
