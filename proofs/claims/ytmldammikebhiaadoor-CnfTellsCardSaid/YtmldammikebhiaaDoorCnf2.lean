/- The contract of cnf.Of. Condition: the formula's length. -/
import Derived.Test.YtmldammikebhiaaDoorCnf
namespace Go.Proofs.YtmldammikebhiaaDoor
open Go.RowKit Go.Shelf
attribute [local go_sem] str_list str_size
/-- The clauses that a table asks for, of numbers below k. -/
def askTo (t : Nat) : Nat → List UInt8
  | 0 => []
  | k + 1 => if t.testBit (63 - k) then askTo t k else askTo t k ++ [UInt8.ofNat k]
theorem askTo_length (t k : Nat) : (askTo t k).length ≤ k := by
  induction k with
  | zero => simp [askTo]
  | succ k ih =>
    unfold askTo
    split
    · omega
    · rw [List.length_append]; simp; omega
/-- The formula of a table. -/
def ofT (t : Nat) : List UInt8 := Lz.norm (askTo t 64)
theorem rest_num (k : Nat) (h : k < 64) : bits .andNot .u8 63 (k : Int) = ((63 - k : Nat) : Int) := by
  have h1 := bits_andNot_u8 63 (UInt8.ofNat k)
  rw [Lz.toNat_ofNat_lt (by omega)] at h1
  have h2 : ((63 : UInt8) &&& ~~~UInt8.ofNat k).toNat = 63 - k := by
    have hall : (List.range 64).all (fun k => ((63 : UInt8) &&& ~~~UInt8.ofNat k).toNat == 63 - k) = true := by decide +kernel
    simpa using List.all_eq_true.1 hall k (List.mem_range.2 h)
  rw [h2] at h1
  exact h1
theorem and_one (t m : Nat) (ht : t < big) : (bits .and .u64 ((t : Int) / 2 ^ m) 1 == 0) = !t.testBit m := by
  have e : (t : Int) / 2 ^ m = ((t / 2 ^ m : Nat) : Int) := by rw [two_pow_cast]; rfl
  have ha : t / 2 ^ m < big := Nat.lt_of_le_of_lt (Nat.div_le_self _ _) ht
  have h1 : bits .and .u64 ((t / 2 ^ m : Nat) : Int) 1 = ((t / 2 ^ m &&& 1 : Nat) : Int) := by
    show IntKind.u64.wrap ((BitVec.ofInt 64 ((t / 2 ^ m : Nat) : Int) &&& BitVec.ofInt 64 ((1 : Nat) : Int)).toNat : Int) = _
    rw [BitVec.toNat_and, ofInt_u64 _ ha, ofInt_u64 1 (by decide), wrap_u64_nat _ (Nat.lt_of_le_of_lt Nat.and_le_left ha)]
  rw [e, h1, Nat.and_one_is_mod, Nat.testBit_eq_decide_div_mod_eq]
  have h2 : t / 2 ^ m % 2 = 0 ∨ t / 2 ^ m % 2 = 1 := by omega
  rcases h2 with h2 | h2 <;> rw [h2] <;> rfl
set_option maxRecDepth 100000 in
set_option maxHeartbeats 2000000 in
theorem ofT_any (t : Nat) (ht : t < big) (w : World) :
    Calls Tryd.prog 16 #[.int .u64 (t : Int)] w fun e w' => e = .returned (.tuple #[.string (str (if Lz.table (ofT t) = t then ofT t else [])), .bool (decide (Lz.table (ofT t) = t))]) ∧ Below w.heap.size w w' := by
  obtain ⟨i0, hi, hz0, hz1, hz2⟩ := info_parts info_u8
  go_enter Tryd.func16, Tryd.ntmps16
  go_wp2_with fail
  go_loopw [4, 7] (fun v i wr => ∃ k : Nat, k ≤ 64 ∧ i = .int .u8 k ∧ wr.ownsRow w.heap.size 5 1 v (askTo t k).length ((askTo t k).map bval) ∧ Below w.heap.size w wr) (fun _ i _ => 64 - (intOf i).toNat)
  case atStart => exact ⟨0, by omega, rfl, World.ownsRow_nil _ _ _ _, Below.refl _ _⟩
  case round =>
    obtain ⟨k, hk, rfl, hrow, hB⟩ := hrel
    have hal := askTo_length t k
    by_cases hlt : k < 64
    · have hr := rest_num k hlt
      have hone := and_one t (63 - k) ht
      cases hb : t.testBit (63 - k) with
      | true =>
        rw [hb, Bool.not_true] at hone
        have hst : askTo t (k + 1) = askTo t k := by rw [askTo, if_pos hb]
        have HST := Lib.hid hst
        clear hst hb
        go_wp2
        go_roundw
        case rel => exact ⟨k + 1, by omega, by go_num, by rw [HST.out]; exact hrow, hB⟩
        case measure => simp [intOf]; omega
      | false =>
        rw [hb, Bool.not_false] at hone
        have hst : askTo t (k + 1) = askTo t k ++ [UInt8.ofNat k] := by rw [askTo, hb]; rfl
        have hkn : (k : Int) = ((UInt8.ofNat k).toNat : Int) := by rw [Lz.toNat_ofNat_lt (by omega)]
        have HST := Lib.hid hst
        have HKN := Lib.hid hkn
        clear hst hb hkn
        have hsB := hB.size
        go_wp2_with (at_builtin; refine wpList_append_own _ rfl _ _ 58 rfl w.heap.size 5 i0 (.int .u8 0) 1 1 Tryd.underlying58 hi hz0 hz1 hz2 rfl (by decide) _ _ _ rfl (hrow.alloc _) ⟨wr.heap.size, 0, none⟩ 1 1 [.int .u8 (k : Int)] rfl rfl (cell_one_new _ _ _) (by simp [Value.oneCell']) (by unfold maxLen; omega) (by omega) (by simp; omega) ?_; intro v' w1 hown' hgrow _)
        go_roundw
        case rel => exact ⟨k + 1, by omega, by go_num, by rw [HST.out, List.length_append, List.map_append]; rw [HKN.out] at hown'; exact hown', (hB.alloc hsB _).grown hgrow (by simp; omega) (fun j e => (hrow.lt j e).1)⟩
        case measure => simp [intOf]; omega
    · obtain rfl : k = 64 := by omega
      have hst := run_string_own (P := Tryd.prog) hrow Tryd.underlying58 Tryd.underlying5 Tryd.underlying22
      have HO := Lib.hid (show Lz.norm (askTo t 64) = ofT t from rfl)
      have hol : (ofT t).length ≤ 64 := Lz.norm_len64 _
      go_wp2_with fail
      refine (norm_any _ (by rw [str_size]; omega) _).mono ?_
      rintro e w1 ⟨rfl, hb1⟩
      rw [lst_str, HO.out]
      go_wp2_with fail
      refine (table_any _ (by rw [str_size]; omega) _).mono ?_
      rintro e w2 ⟨rfl, hb2⟩
      rw [lst_str]
      have hB1 := hB.trans (hb1.mono hB.size)
      have hB2 := hB1.trans (hb2.mono hB1.size)
      by_cases hq : Lz.table (ofT t) = t
      · rw [hq]
        go_wp2
        refine bodyPost_ret (v := .tuple #[.string (str (ofT t)), .bool true]) ?_ rfl ⟨by simp, hB2⟩
        simp [results, Tryd.f16, go_sem]
      · have hq' : ¬ ((Lz.table (ofT t) : Nat) : Int) = (t : Int) := fun e => hq (by omega)
        go_wp2
        refine bodyPost_ret (v := .tuple #[.string ⟨#[]⟩, .bool false]) ?_ rfl ⟨by simp; rfl, hB2⟩
        simp [results, Tryd.f16, go_sem]
end Go.Proofs.YtmldammikebhiaaDoor
