/- The contracts of the document's answer to chapter 2: Of, Get. Condition: the lengths. -/
import Derived.Test.YtmldammikebhiaaDoorRef2a
import Derived.Test.YtmldammikebhiaaDoorCnfGet
import Derived.Test.YtmldammikebhiaaDoorTabM
namespace Go.Proofs.YtmldammikebhiaaDoor
open Go.RowKit Go.Shelf
attribute [local go_sem] str_list str_size str_app
def refAsk (t : Nat) : Nat → List UInt8
  | 0 => []
  | k + 1 => if t.testBit k then refAsk t k else refAsk t k ++ [UInt8.ofNat (63 - k)]
theorem refAsk_length (t k : Nat) : (refAsk t k).length ≤ k := by
  induction k with
  | zero => simp [refAsk]
  | succ k ih =>
    unfold refAsk
    split
    · omega
    · rw [List.length_append]; simp; omega
theorem mem_refAsk {t k : Nat} {c : UInt8} (hk : k ≤ 64) : c ∈ refAsk t k ↔ ∃ x, x < k ∧ c = UInt8.ofNat (63 - x) ∧ t.testBit x = false := by
  induction k with
  | zero => simp [refAsk]
  | succ k ih =>
    have ih := ih (by omega)
    unfold refAsk
    cases hb : t.testBit k with
    | true =>
      rw [if_pos rfl, ih]
      constructor
      · rintro ⟨x, h1, h2, h3⟩; exact ⟨x, by omega, h2, h3⟩
      · rintro ⟨x, h1, h2, h3⟩
        refine ⟨x, ?_, h2, h3⟩
        by_cases e : x = k
        · subst e; rw [hb] at h3; cases h3
        · omega
    | false =>
      rw [if_neg (by decide), List.mem_append, List.mem_singleton, ih]
      constructor
      · rintro (⟨x, h1, h2, h3⟩ | h)
        · exact ⟨x, by omega, h2, h3⟩
        · exact ⟨k, by omega, h, hb⟩
      · rintro ⟨x, h1, h2, h3⟩
        by_cases e : x = k
        · subst e; exact .inr h2
        · exact .inl ⟨x, by omega, h2, h3⟩
theorem mem_refAsk64 {t : Nat} {c : UInt8} : c ∈ refAsk t 64 ↔ c ∈ askTo t 64 := by
  rw [mem_refAsk (Nat.le_refl _), Lz.mem_ask (Nat.le_refl _)]
  constructor
  · rintro ⟨x, h1, rfl, h3⟩
    rw [Lz.toNat_ofNat_lt (by omega)]
    exact ⟨by omega, by rw [show 63 - (63 - x) = x from by omega]; exact h3⟩
  · rintro ⟨h1, h2⟩
    exact ⟨63 - c.toNat, by omega, by rw [show 63 - (63 - c.toNat) = c.toNat from by omega, UInt8.ofNat_toNat], h2⟩
theorem norm_refAsk (t : Nat) : Lz.norm (refAsk t 64) = ofT t := by
  unfold ofT
  rw [Lz.norm_eq_iff]
  intro x
  rw [Bool.eq_iff_iff, Lz.sat_iff, Lz.sat_iff]
  constructor
  · intro h c hc; exact h c (mem_refAsk64.2 hc)
  · intro h c hc; exact h c (mem_refAsk64.1 hc)
theorem mod_two_u64 (t m : Nat) : (t : Int) / 2 ^ m % 2 = if t.testBit m then 1 else 0 := by
  rw [two_pow_cast, Nat.testBit_eq_decide_div_mod_eq, ← Int.natCast_ediv]
  have h2 : t / 2 ^ m % 2 = 0 ∨ t / 2 ^ m % 2 = 1 := by omega
  generalize t / 2 ^ m = q at h2
  rcases h2 with h2 | h2
  · rw [h2, if_neg (by decide)]; omega
  · rw [h2, if_pos (by decide)]; omega
theorem shr_nonneg_u64 (t m : Nat) : (0 : Int) ≤ (t : Int) / 2 ^ m := by
  rw [two_pow_cast, ← Int.natCast_ediv]; exact Int.natCast_nonneg _
set_option maxRecDepth 100000 in
set_option maxHeartbeats 2000000 in
theorem refOf_any (t : Nat) (ht : t < big) (w : World) :
    Calls Tryd.prog 22 #[.int .u64 (t : Int)] w fun e w' => e = .returned (.tuple #[.string (str (if Lz.table (ofT t) = t then ofT t else [])), .bool (decide (Lz.table (ofT t) = t))]) ∧ Below w.heap.size w w' := by
  have HO := Lib.hid (norm_refAsk t)
  have HT := Lib.hid ht
  have hol : (ofT t).length ≤ 64 := Lz.norm_len64 _
  clear ht
  go_enter Tryd.func22, Tryd.ntmps22
  go_wp2_with fail
  go_loopw [4, 5] (fun s i wr => ∃ k : Nat, k ≤ 64 ∧ i = .int .i64 k ∧ s = .string (str (refAsk t k)) ∧ Below w.heap.size w wr) (fun _ i _ => 64 - (intOf i).toNat)
  case atStart => exact ⟨0, by omega, rfl, rfl, Below.refl _ _⟩
  case round =>
    obtain ⟨k, hk, rfl, rfl, hB⟩ := hrel
    by_cases hlt : k < 64
    · have hll := refAsk_length t k
      have s1 := shr_nonneg_u64 t k
      have e1 := mod_two_u64 t k
      have hst : refAsk t (k + 1) = if t.testBit k then refAsk t k else refAsk t k ++ [UInt8.ofNat (63 - k)] := rfl
      cases hb : t.testBit k with
      | true =>
        rw [hb, if_pos rfl] at e1 hst
        have HST := Lib.hid hst
        clear hst hb
        go_wp2
        go_roundw
        case rel => exact ⟨k + 1, by omega, by go_num, by rw [HST.out], hB⟩
        case measure => simp [intOf]; omega
      | false =>
        rw [hb, if_neg (by decide)] at e1 hst
        have HST := Lib.hid hst
        have hw : IntKind.u8.wrap (63 - (k : Int)) = 63 - (k : Int) := by rw [IntKind.wrap_u8]; omega
        have hcv := fun W => one_byte W (63 - (k : Int)) (UInt8.ofNat (63 - k)) (by rw [Lz.toNat_ofNat_lt (by omega)]; omega)
        clear hst hb
        generalize refAsk t k = L at HST hll ⊢
        go_wp2
        go_roundw
        case rel => exact ⟨k + 1, by omega, by go_num, by rw [HST.out], hB.alloc hB.size _⟩
        case measure => simp [intOf]; omega
    · obtain rfl : k = 64 := by omega
      have hrl := refAsk_length t 64
      have HN := Lib.hid (refNorm_any (str (refAsk t 64)) (by rw [str_size]; omega) wr)
      rw [lst_str, HO.out] at HN
      go_wp2_with fail
      refine HN.out.mono ?_
      rintro e w1 ⟨rfl, hb1⟩
      go_wp2_with fail
      refine (refTable_any _ (by rw [str_size]; omega) _).mono ?_
      rintro e w2 ⟨rfl, hb2⟩
      rw [lst_str]
      have hB1 := hB.trans (hb1.mono hB.size)
      have hB2 := hB1.trans (hb2.mono hB1.size)
      by_cases hq : Lz.table (ofT t) = t
      · rw [hq]
        go_wp2
        refine bodyPost_ret (v := .tuple #[.string (str (ofT t)), .bool true]) ?_ rfl ⟨by simp, hB2⟩
        simp [results, Tryd.f22, go_sem]
      · have hq' : ¬ ((Lz.table (ofT t) : Nat) : Int) = (t : Int) := fun e => hq (by omega)
        go_wp2
        refine bodyPost_ret (v := .tuple #[.string ⟨#[]⟩, .bool false]) ?_ rfl ⟨by simp; rfl, hB2⟩
        simp [results, Tryd.f22, go_sem]
set_option maxRecDepth 100000 in
set_option maxHeartbeats 2000000 in
theorem refGet_any (b : ByteArray) (hs : b.size ≤ maxLen) (at' : Int) (w : World) :
    Calls Tryd.prog 24 #[.string b, .int .i64 at'] w fun e w' => e = .returned (.tuple #[.string (str (getF b.data.toList at').1), .int .i64 (getF b.data.toList at').2.1, .bool (getF b.data.toList at').2.2]) ∧ Below w.heap.size w w' := by
  unfold maxLen at hs
  have hlb : b.data.toList.length = b.size := by simp
  by_cases h1 : 0 ≤ at' ∧ at' < b.size
  · obtain ⟨k, rfl⟩ : ∃ k : Nat, at' = k := ⟨at'.toNat, by omega⟩
    have hk : k < b.size := by omega
    have hG : getF b.data.toList (k : Int) = if (b[k]).toNat ≤ b.size - (k + 1) then if Lz.norm ((b.data.toList.drop (k + 1)).take (b[k]).toNat) = (b.data.toList.drop (k + 1)).take (b[k]).toNat then ((b.data.toList.drop (k + 1)).take (b[k]).toNat, (k : Int) + 1 + (b[k]).toNat, true) else ([], 0, false) else ([], 0, false) := by
      unfold getF
      rw [hlb, if_pos h1, Int.toNat_natCast]
      have hg : b.data.toList.getD k 0 = b[k] := by
        rw [List.getD_eq_getElem?_getD, List.getElem?_eq_getElem (by omega)]; rfl
      rw [hg]
    have HG := Lib.hid hG
    clear hG h1 hlb
    have hx := b[k].toNat_lt
    have h0 : (0 : Int) ≤ (k : Int) := by omega
    have h2 : (k : Int) < b.size := by omega
    by_cases hc : (b[k]).toNat ≤ b.size - (k + 1)
    · rw [if_pos hc] at HG
      have hm := extract_mid b (k + 1) (b[k]).toNat
      have HM := Lib.hid hm
      have hln : ((b.data.toList.drop (k + 1)).take (b[k]).toNat).length ≤ 256 := by rw [List.length_take]; omega
      clear hm
      have HR := Lib.hid fun W => ref2Right_any (str ((b.data.toList.drop (k + 1)).take (b[k]).toNat)) (by rw [str_size]; omega) W
      rw [lst_str] at HR
      generalize (b.data.toList.drop (k + 1)).take (b[k]).toNat = f at HG HM HR
      have hc2 : ¬ ((b[k].toNat : Int) > (b.size : Int) - (k : Int) - 1) := by omega
      by_cases hf : Lz.norm f = f
      · rw [if_pos hf] at HG
        have hfb : (Lz.norm f == f) = true := by simpa using hf
        rw [hfb] at HR
        rw [HG.out]
        clear hf hfb
        go_enter Tryd.func24, Tryd.ntmps24
        go_wp2_with fail
        rw [HM.out]
        refine (HR.out _).mono ?_
        rintro e w1 ⟨rfl, hb1⟩
        go_wp2
        refine bodyPost_ret (v := .tuple #[.string (str f), .int .i64 ((k : Int) + 1 + (b[k]).toNat), .bool true]) ?_ rfl ⟨rfl, hb1⟩
        simp [results, Tryd.f24, go_sem]
      · rw [if_neg hf] at HG
        have hfb : (Lz.norm f == f) = false := by simpa using hf
        rw [hfb] at HR
        rw [HG.out]
        clear hf hfb
        go_enter Tryd.func24, Tryd.ntmps24
        go_wp2_with fail
        rw [HM.out]
        refine (HR.out _).mono ?_
        rintro e w1 ⟨rfl, hb1⟩
        go_wp2
        refine bodyPost_ret (v := .tuple #[.string ⟨#[]⟩, .int .i64 0, .bool false]) ?_ rfl ⟨rfl, hb1⟩
        simp [results, Tryd.f24, go_sem]
    · rw [if_neg hc] at HG
      rw [HG.out]
      have hc2 : (b.size : Int) - (k : Int) - 1 < (b[k].toNat : Int) := by omega
      go_enter Tryd.func24, Tryd.ntmps24
      go_wp2_with fail
      refine bodyPost_ret (v := .tuple #[.string ⟨#[]⟩, .int .i64 0, .bool false]) ?_ rfl ⟨rfl, Below.refl _ _⟩
      simp [results, Tryd.f24, go_sem]
  · have hG : getF b.data.toList at' = ([], 0, false) := by
      unfold getF; rw [hlb, if_neg h1]
    rw [hG]
    clear hG hlb
    by_cases hneg : at' < 0
    · go_enter Tryd.func24, Tryd.ntmps24
      go_wp2
      refine bodyPost_ret (v := .tuple #[.string ⟨#[]⟩, .int .i64 0, .bool false]) ?_ rfl ⟨rfl, Below.refl _ _⟩
      simp [results, Tryd.f24, go_sem]
    · have hge : (b.size : Int) ≤ at' := by omega
      go_enter Tryd.func24, Tryd.ntmps24
      go_wp2
      refine bodyPost_ret (v := .tuple #[.string ⟨#[]⟩, .int .i64 0, .bool false]) ?_ rfl ⟨rfl, Below.refl _ _⟩
      simp [results, Tryd.f24, go_sem]
end Go.Proofs.YtmldammikebhiaaDoor
