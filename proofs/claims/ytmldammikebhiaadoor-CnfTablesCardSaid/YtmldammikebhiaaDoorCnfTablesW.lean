/- The walk of CnfTables. Conditions: the sizes of what came in; the table of letters holds its text. -/
import Derived.Test.YtmldammikebhiaaDoorEx2
import Derived.Test.YtmldammikebhiaaDoorCnfE
import Derived.Test.YtmldammikebhiaaDoorTabM
namespace Go.Proofs.YtmldammikebhiaaDoor
open Go.RowKit Go.Shelf
attribute [local go_sem] str_list
theorem ofE (W : World) (t : Nat) (ht : t < big) (f : List UInt8) (r : Bool) (hf : (if Lz.table (ofT t) = t then ofT t else []) = f) (hr : decide (Lz.table (ofT t) = t) = r) : Calls Tryd.prog 16 #[.int .u64 (t : Int)] W fun e w' => e = .returned (.tuple #[.string (str f), .bool r]) ∧ Below W.heap.size W w' := by
  subst hf hr; exact ofT_any t ht W
theorem xor_u64 (x y : Int) : ∃ n : Nat, bits .xor .u64 x y = (n : Int) ∧ n < big :=
  ⟨(BitVec.ofInt 64 x ^^^ BitVec.ofInt 64 y).toNat, wrap_u64_nat _ (BitVec.isLt _), BitVec.isLt _⟩
theorem or_pow (k j : Nat) (hk : k < 64) (hj : j < 6) : bits .or .u64 (k : Int) (IntKind.u64.wrap (2 ^ j)) = ((k ||| 2 ^ j : Nat) : Int) := by
  have hp : 2 ^ j < 64 := by
    have : 2 ^ j ≤ 2 ^ 5 := Nat.pow_le_pow_right (by omega) (by omega)
    omega
  have h1 : IntKind.u64.wrap (2 ^ j) = ((2 ^ j : Nat) : Int) := by
    rw [show ((2 : Int) ^ j) = ((2 ^ j : Nat) : Int) from by rw [Int.natCast_pow]; rfl]
    exact wrap_u64_nat _ (by unfold big; omega)
  rw [h1]
  have hlt := Lz.or_lt64 hk hp
  show IntKind.u64.wrap ((BitVec.ofInt 64 (k : Int) ||| BitVec.ofInt 64 ((2 ^ j : Nat) : Int)).toNat : Int) = _
  rw [BitVec.toNat_or, ofInt_u64 _ (by unfold big; omega), ofInt_u64 _ (by unfold big; omega), wrap_u64_nat _ (by unfold big; omega)]
theorem mod_two (t m : Nat) : (t : Int) / 2 ^ m % 2 = if t.testBit m then 1 else 0 := by
  rw [two_pow_cast, Nat.testBit_eq_decide_div_mod_eq, ← Int.natCast_ediv]
  have h2 : t / 2 ^ m % 2 = 0 ∨ t / 2 ^ m % 2 = 1 := by omega
  generalize t / 2 ^ m = q at h2
  rcases h2 with h2 | h2
  · rw [h2, if_neg (by decide)]; omega
  · rw [h2, if_pos (by decide)]; omega
theorem shr_nonneg (t m : Nat) : (0 : Int) ≤ (t : Int) / 2 ^ m := by
  rw [two_pow_cast, ← Int.natCast_ediv]; exact Int.natCast_nonneg _
set_option maxRecDepth 100000 in
set_option maxHeartbeats 16000000 in
theorem walkPCnfTables (t : Nat) (ht : t < big) (a : List UInt8) (ha : a.length ≤ maxLen) (k : UInt8) (w : World) (hL : Letters w) :
    Calls Tryd.prog 4 #[.int .u64 (t : Int), .string (str a), .int .u8 (k.toNat : Int)] w fun e w' => e = .returned (.bool true) ∧ Below w.heap.size w w' := by
  have HEX := Lib.hid (examples2_any w hL)
  clear hL
  have HFa := Lib.hid fun W => few_any a ha 12 12 rfl W
  have hqa : (a.take 12).length ≤ 12 := by rw [List.length_take]; omega
  generalize hta : a.take 12 = qa at HFa hqa
  clear hta
  have hk := k.toNat_lt
  by_cases h4 : k.toNat % 4 = 0
  · have h4' : ¬ (0 < (k.toNat : Int) % 4) := by omega
    clear h4
    have HT := Lib.hid ht
    clear ht
    have HI := Lib.hid (Lz.ofT_iff t HT.out)
    cases hr : decide (Lz.table (ofT t) = t) with
    | true =>
      have H1 := Lib.hid hr
      have hq := of_decide_eq_true hr
      have H2 := Lib.hid (show (if Lz.table (ofT t) = t then ofT t else []) = ofT t from if_pos hq)
      have H3 := Lib.hid (HI.out.1 hq)
      have H4 := Lib.hid hq
      have H5 := Lib.hid (show (Lz.norm (ofT t) == ofT t) = true from by rw [beq_iff_eq]; exact Lz.ofT_right _)
      have hol : (ofT t).length ≤ 64 := Lz.norm_len64 _
      clear hr hq HI
      go_enter Tryd.func4, Tryd.ntmps4
      go_wp2_with fail
      refine HEX.out.mono ?_
      rintro e w1 ⟨rfl, hB1⟩
      clear HEX
      go_wp2_with fail
      refine (ofE _ t HT.out (ofT t) true H2.out H1.out).mono ?_
      rintro e w2 ⟨rfl, hb2⟩
      have hB2 := hB1.trans (hb2.mono hB1.size)
      clear hB1 hb2
      go_wp2_with fail
      go_loop [10, 11, 12] (fun ris x _ => ∃ m : Nat, m ≤ 64 ∧ x = .int .u64 m ∧ ris = .bool (Lz.risesTo t m)) (fun _ x _ => 64 - (intOf x).toNat)
      case atStart => exact ⟨0, by omega, rfl, rfl⟩
      case round =>
        obtain ⟨m, hm, rfl, rfl⟩ := hrel
        by_cases hlt : m < 64
        · go_wp2_with fail
          go_loop [10, 12] (fun ris p => ∃ j : Nat, j ≤ 6 ∧ p = .int .u64 j ∧ ris = .bool (Lz.risesTo t m && Lz.rowTo t m j)) (fun _ p => 6 - (intOf p).toNat)
          case atStart => exact ⟨0, by omega, rfl, by rw [Lz.rowTo, Bool.and_true]⟩
          case round =>
            obtain ⟨j, hj, rfl, rfl⟩ := hrel
            by_cases hjt : j < 6
            · have hst : (Lz.risesTo t m && Lz.rowTo t m (j + 1)) = ((Lz.risesTo t m && Lz.rowTo t m j) && (!t.testBit m || t.testBit (m ||| 2 ^ j))) := by rw [Lz.rowTo, Bool.and_assoc]
              have HS := Lib.hid hst
              clear hst
              generalize (Lz.risesTo t m && Lz.rowTo t m j) = b at HS ⊢
              have hop := or_pow m j hlt hjt
              have hl2 : m ||| 2 ^ j < 64 := Lz.or_lt64 hlt (by have : 2 ^ j ≤ 2 ^ 5 := Nat.pow_le_pow_right (by omega) (by omega); omega)
              have s1 := shr_nonneg t m
              have s2 := shr_nonneg t (m ||| 2 ^ j)
              have e1 := mod_two t m
              have e2 := mod_two t (m ||| 2 ^ j)
              cases b with
              | false =>
                clear e1 e2
                go_wp2
                go_round
                case rel => exact ⟨j + 1, by omega, by go_num, by rw [HS.out]; rfl⟩
                case measure => simp [intOf]; omega
              | true =>
                cases hb1 : t.testBit m with
                | false =>
                  rw [hb1, if_neg (by decide)] at e1
                  have HB1 := Lib.hid hb1
                  clear hb1 e2
                  go_wp2
                  go_round
                  case rel => exact ⟨j + 1, by omega, by go_num, by rw [HS.out, HB1.out]; rfl⟩
                  case measure => simp [intOf]; omega
                | true =>
                  rw [hb1, if_pos rfl] at e1
                  have HB1 := Lib.hid hb1
                  clear hb1
                  cases hb2 : t.testBit (m ||| 2 ^ j) with
                  | true =>
                    rw [hb2, if_pos rfl] at e2
                    have HB2 := Lib.hid hb2
                    clear hb2
                    go_wp2
                    go_round
                    case rel => exact ⟨j + 1, by omega, by go_num, by rw [HS.out, HB1.out, HB2.out]; rfl⟩
                    case measure => simp [intOf]; omega
                  | false =>
                    rw [hb2, if_neg (by decide)] at e2
                    have HB2 := Lib.hid hb2
                    clear hb2
                    go_wp2
                    go_round
                    case rel => exact ⟨j + 1, by omega, by go_num, by rw [HS.out, HB1.out, HB2.out]; rfl⟩
                    case measure => simp [intOf]; omega
            · obtain rfl : j = 6 := by omega
              go_wp2
              go_round
              case rel => exact ⟨m + 1, by omega, by go_num, rfl⟩
              case measure => simp [intOf]; omega
        · obtain rfl : m = 64 := by omega
          rw [H3.out]
          go_wp2_with fail
          refine (rightE _ (ofT t) true (by omega) H5.out).mono ?_
          rintro e w3 ⟨rfl, hb3⟩
          have hB3 := hB2.trans (hb3.mono hB2.size)
          go_wp2_with fail
          refine (tableE _ (ofT t) t (by omega) H4.out).mono ?_
          rintro e w4 ⟨rfl, hb4⟩
          have hB4 := hB3.trans (hb4.mono hB3.size)
          go_wp2_with fail
          go_ret
          exact ⟨rfl, hB4⟩
    | false =>
      have H1 := Lib.hid hr
      have hq := of_decide_eq_false hr
      have H2 := Lib.hid (show (if Lz.table (ofT t) = t then ofT t else []) = [] from if_neg hq)
      have H3 := Lib.hid (show Lz.risesTo t 64 = false from by rw [Bool.eq_false_iff]; exact fun e => hq (HI.out.2 e))
      clear hr hq HI
      go_enter Tryd.func4, Tryd.ntmps4
      go_wp2_with fail
      refine HEX.out.mono ?_
      rintro e w1 ⟨rfl, hB1⟩
      clear HEX
      go_wp2_with fail
      refine (ofE _ t HT.out [] false H2.out H1.out).mono ?_
      rintro e w2 ⟨rfl, hb2⟩
      have hB2 := hB1.trans (hb2.mono hB1.size)
      clear hB1 hb2
      go_wp2_with fail
      go_loop [10, 11, 12] (fun ris x _ => ∃ m : Nat, m ≤ 64 ∧ x = .int .u64 m ∧ ris = .bool (Lz.risesTo t m)) (fun _ x _ => 64 - (intOf x).toNat)
      case atStart => exact ⟨0, by omega, rfl, rfl⟩
      case round =>
        obtain ⟨m, hm, rfl, rfl⟩ := hrel
        by_cases hlt : m < 64
        · go_wp2_with fail
          go_loop [10, 12] (fun ris p => ∃ j : Nat, j ≤ 6 ∧ p = .int .u64 j ∧ ris = .bool (Lz.risesTo t m && Lz.rowTo t m j)) (fun _ p => 6 - (intOf p).toNat)
          case atStart => exact ⟨0, by omega, rfl, by rw [Lz.rowTo, Bool.and_true]⟩
          case round =>
            obtain ⟨j, hj, rfl, rfl⟩ := hrel
            by_cases hjt : j < 6
            · have hst : (Lz.risesTo t m && Lz.rowTo t m (j + 1)) = ((Lz.risesTo t m && Lz.rowTo t m j) && (!t.testBit m || t.testBit (m ||| 2 ^ j))) := by rw [Lz.rowTo, Bool.and_assoc]
              have HS := Lib.hid hst
              clear hst
              generalize (Lz.risesTo t m && Lz.rowTo t m j) = b at HS ⊢
              have hop := or_pow m j hlt hjt
              have hl2 : m ||| 2 ^ j < 64 := Lz.or_lt64 hlt (by have : 2 ^ j ≤ 2 ^ 5 := Nat.pow_le_pow_right (by omega) (by omega); omega)
              have s1 := shr_nonneg t m
              have s2 := shr_nonneg t (m ||| 2 ^ j)
              have e1 := mod_two t m
              have e2 := mod_two t (m ||| 2 ^ j)
              cases b with
              | false =>
                clear e1 e2
                go_wp2
                go_round
                case rel => exact ⟨j + 1, by omega, by go_num, by rw [HS.out]; rfl⟩
                case measure => simp [intOf]; omega
              | true =>
                cases hb1 : t.testBit m with
                | false =>
                  rw [hb1, if_neg (by decide)] at e1
                  have HB1 := Lib.hid hb1
                  clear hb1 e2
                  go_wp2
                  go_round
                  case rel => exact ⟨j + 1, by omega, by go_num, by rw [HS.out, HB1.out]; rfl⟩
                  case measure => simp [intOf]; omega
                | true =>
                  rw [hb1, if_pos rfl] at e1
                  have HB1 := Lib.hid hb1
                  clear hb1
                  cases hb2 : t.testBit (m ||| 2 ^ j) with
                  | true =>
                    rw [hb2, if_pos rfl] at e2
                    have HB2 := Lib.hid hb2
                    clear hb2
                    go_wp2
                    go_round
                    case rel => exact ⟨j + 1, by omega, by go_num, by rw [HS.out, HB1.out, HB2.out]; rfl⟩
                    case measure => simp [intOf]; omega
                  | false =>
                    rw [hb2, if_neg (by decide)] at e2
                    have HB2 := Lib.hid hb2
                    clear hb2
                    go_wp2
                    go_round
                    case rel => exact ⟨j + 1, by omega, by go_num, by rw [HS.out, HB1.out, HB2.out]; rfl⟩
                    case measure => simp [intOf]; omega
            · obtain rfl : j = 6 := by omega
              go_wp2
              go_round
              case rel => exact ⟨m + 1, by omega, by go_num, rfl⟩
              case measure => simp [intOf]; omega
        · obtain rfl : m = 64 := by omega
          rw [H3.out]
          go_wp2_with fail
          go_ret
          exact ⟨rfl, hB2⟩
  · have h4' : 0 < (k.toNat : Int) % 4 := by omega
    clear h4 ht
    obtain ⟨u, hu, hub⟩ := xor_u64 (Lz.table qa : Int) (IntKind.u64.wrap (2 ^ (k.toNat / 4)))
    have HU := Lib.hid hu
    have HT := Lib.hid hub
    clear hu hub
    have HI := Lib.hid (Lz.ofT_iff u HT.out)
    cases hr : decide (Lz.table (ofT u) = u) with
    | true =>
      have H1 := Lib.hid hr
      have hq := of_decide_eq_true hr
      have H2 := Lib.hid (show (if Lz.table (ofT u) = u then ofT u else []) = ofT u from if_pos hq)
      have H3 := Lib.hid (HI.out.1 hq)
      have H4 := Lib.hid hq
      have H5 := Lib.hid (show (Lz.norm (ofT u) == ofT u) = true from by rw [beq_iff_eq]; exact Lz.ofT_right _)
      have hol : (ofT u).length ≤ 64 := Lz.norm_len64 _
      clear hr hq HI
      go_enter Tryd.func4, Tryd.ntmps4
      go_wp2_with fail
      refine HEX.out.mono ?_
      rintro e w1 ⟨rfl, hB1⟩
      clear HEX
      go_wp2_with fail
      refine (HFa.out _).mono ?_
      rintro e w' ⟨rfl, rfl⟩
      go_wp2_with fail
      refine (tableE _ qa _ (by omega) rfl).mono ?_
      rintro e w2 ⟨rfl, hb2⟩
      have hB2 := hB1.trans (hb2.mono hB1.size)
      clear hB1 hb2
      go_wp2_with fail
      rw [HU.out]
      refine (ofE _ u HT.out (ofT u) true H2.out H1.out).mono ?_
      rintro e w3 ⟨rfl, hb3⟩
      have hB3 := hB2.trans (hb3.mono hB2.size)
      clear hB2 hb3
      go_wp2_with fail
      go_loop [10, 11, 12] (fun ris x _ => ∃ m : Nat, m ≤ 64 ∧ x = .int .u64 m ∧ ris = .bool (Lz.risesTo u m)) (fun _ x _ => 64 - (intOf x).toNat)
      case atStart => exact ⟨0, by omega, rfl, rfl⟩
      case round =>
        obtain ⟨m, hm, rfl, rfl⟩ := hrel
        by_cases hlt : m < 64
        · go_wp2_with fail
          go_loop [10, 12] (fun ris p => ∃ j : Nat, j ≤ 6 ∧ p = .int .u64 j ∧ ris = .bool (Lz.risesTo u m && Lz.rowTo u m j)) (fun _ p => 6 - (intOf p).toNat)
          case atStart => exact ⟨0, by omega, rfl, by rw [Lz.rowTo, Bool.and_true]⟩
          case round =>
            obtain ⟨j, hj, rfl, rfl⟩ := hrel
            by_cases hjt : j < 6
            · have hst : (Lz.risesTo u m && Lz.rowTo u m (j + 1)) = ((Lz.risesTo u m && Lz.rowTo u m j) && (!u.testBit m || u.testBit (m ||| 2 ^ j))) := by rw [Lz.rowTo, Bool.and_assoc]
              have HS := Lib.hid hst
              clear hst
              generalize (Lz.risesTo u m && Lz.rowTo u m j) = b at HS ⊢
              have hop := or_pow m j hlt hjt
              have hl2 : m ||| 2 ^ j < 64 := Lz.or_lt64 hlt (by have : 2 ^ j ≤ 2 ^ 5 := Nat.pow_le_pow_right (by omega) (by omega); omega)
              have s1 := shr_nonneg u m
              have s2 := shr_nonneg u (m ||| 2 ^ j)
              have e1 := mod_two u m
              have e2 := mod_two u (m ||| 2 ^ j)
              cases b with
              | false =>
                clear e1 e2
                go_wp2
                go_round
                case rel => exact ⟨j + 1, by omega, by go_num, by rw [HS.out]; rfl⟩
                case measure => simp [intOf]; omega
              | true =>
                cases hb1 : u.testBit m with
                | false =>
                  rw [hb1, if_neg (by decide)] at e1
                  have HB1 := Lib.hid hb1
                  clear hb1 e2
                  go_wp2
                  go_round
                  case rel => exact ⟨j + 1, by omega, by go_num, by rw [HS.out, HB1.out]; rfl⟩
                  case measure => simp [intOf]; omega
                | true =>
                  rw [hb1, if_pos rfl] at e1
                  have HB1 := Lib.hid hb1
                  clear hb1
                  cases hb2 : u.testBit (m ||| 2 ^ j) with
                  | true =>
                    rw [hb2, if_pos rfl] at e2
                    have HB2 := Lib.hid hb2
                    clear hb2
                    go_wp2
                    go_round
                    case rel => exact ⟨j + 1, by omega, by go_num, by rw [HS.out, HB1.out, HB2.out]; rfl⟩
                    case measure => simp [intOf]; omega
                  | false =>
                    rw [hb2, if_neg (by decide)] at e2
                    have HB2 := Lib.hid hb2
                    clear hb2
                    go_wp2
                    go_round
                    case rel => exact ⟨j + 1, by omega, by go_num, by rw [HS.out, HB1.out, HB2.out]; rfl⟩
                    case measure => simp [intOf]; omega
            · obtain rfl : j = 6 := by omega
              go_wp2
              go_round
              case rel => exact ⟨m + 1, by omega, by go_num, rfl⟩
              case measure => simp [intOf]; omega
        · obtain rfl : m = 64 := by omega
          rw [H3.out]
          go_wp2_with fail
          refine (rightE _ (ofT u) true (by omega) H5.out).mono ?_
          rintro e w4 ⟨rfl, hb4⟩
          have hB4 := hB3.trans (hb4.mono hB3.size)
          go_wp2_with fail
          refine (tableE _ (ofT u) u (by omega) H4.out).mono ?_
          rintro e w5 ⟨rfl, hb5⟩
          have hB5 := hB4.trans (hb5.mono hB4.size)
          go_wp2_with fail
          go_ret
          exact ⟨rfl, hB5⟩
    | false =>
      have H1 := Lib.hid hr
      have hq := of_decide_eq_false hr
      have H2 := Lib.hid (show (if Lz.table (ofT u) = u then ofT u else []) = [] from if_neg hq)
      have H3 := Lib.hid (show Lz.risesTo u 64 = false from by rw [Bool.eq_false_iff]; exact fun e => hq (HI.out.2 e))
      clear hr hq HI
      go_enter Tryd.func4, Tryd.ntmps4
      go_wp2_with fail
      refine HEX.out.mono ?_
      rintro e w1 ⟨rfl, hB1⟩
      clear HEX
      go_wp2_with fail
      refine (HFa.out _).mono ?_
      rintro e w' ⟨rfl, rfl⟩
      go_wp2_with fail
      refine (tableE _ qa _ (by omega) rfl).mono ?_
      rintro e w2 ⟨rfl, hb2⟩
      have hB2 := hB1.trans (hb2.mono hB1.size)
      clear hB1 hb2
      go_wp2_with fail
      rw [HU.out]
      refine (ofE _ u HT.out [] false H2.out H1.out).mono ?_
      rintro e w3 ⟨rfl, hb3⟩
      have hB3 := hB2.trans (hb3.mono hB2.size)
      clear hB2 hb3
      go_wp2_with fail
      go_loop [10, 11, 12] (fun ris x _ => ∃ m : Nat, m ≤ 64 ∧ x = .int .u64 m ∧ ris = .bool (Lz.risesTo u m)) (fun _ x _ => 64 - (intOf x).toNat)
      case atStart => exact ⟨0, by omega, rfl, rfl⟩
      case round =>
        obtain ⟨m, hm, rfl, rfl⟩ := hrel
        by_cases hlt : m < 64
        · go_wp2_with fail
          go_loop [10, 12] (fun ris p => ∃ j : Nat, j ≤ 6 ∧ p = .int .u64 j ∧ ris = .bool (Lz.risesTo u m && Lz.rowTo u m j)) (fun _ p => 6 - (intOf p).toNat)
          case atStart => exact ⟨0, by omega, rfl, by rw [Lz.rowTo, Bool.and_true]⟩
          case round =>
            obtain ⟨j, hj, rfl, rfl⟩ := hrel
            by_cases hjt : j < 6
            · have hst : (Lz.risesTo u m && Lz.rowTo u m (j + 1)) = ((Lz.risesTo u m && Lz.rowTo u m j) && (!u.testBit m || u.testBit (m ||| 2 ^ j))) := by rw [Lz.rowTo, Bool.and_assoc]
              have HS := Lib.hid hst
              clear hst
              generalize (Lz.risesTo u m && Lz.rowTo u m j) = b at HS ⊢
              have hop := or_pow m j hlt hjt
              have hl2 : m ||| 2 ^ j < 64 := Lz.or_lt64 hlt (by have : 2 ^ j ≤ 2 ^ 5 := Nat.pow_le_pow_right (by omega) (by omega); omega)
              have s1 := shr_nonneg u m
              have s2 := shr_nonneg u (m ||| 2 ^ j)
              have e1 := mod_two u m
              have e2 := mod_two u (m ||| 2 ^ j)
              cases b with
              | false =>
                clear e1 e2
                go_wp2
                go_round
                case rel => exact ⟨j + 1, by omega, by go_num, by rw [HS.out]; rfl⟩
                case measure => simp [intOf]; omega
              | true =>
                cases hb1 : u.testBit m with
                | false =>
                  rw [hb1, if_neg (by decide)] at e1
                  have HB1 := Lib.hid hb1
                  clear hb1 e2
                  go_wp2
                  go_round
                  case rel => exact ⟨j + 1, by omega, by go_num, by rw [HS.out, HB1.out]; rfl⟩
                  case measure => simp [intOf]; omega
                | true =>
                  rw [hb1, if_pos rfl] at e1
                  have HB1 := Lib.hid hb1
                  clear hb1
                  cases hb2 : u.testBit (m ||| 2 ^ j) with
                  | true =>
                    rw [hb2, if_pos rfl] at e2
                    have HB2 := Lib.hid hb2
                    clear hb2
                    go_wp2
                    go_round
                    case rel => exact ⟨j + 1, by omega, by go_num, by rw [HS.out, HB1.out, HB2.out]; rfl⟩
                    case measure => simp [intOf]; omega
                  | false =>
                    rw [hb2, if_neg (by decide)] at e2
                    have HB2 := Lib.hid hb2
                    clear hb2
                    go_wp2
                    go_round
                    case rel => exact ⟨j + 1, by omega, by go_num, by rw [HS.out, HB1.out, HB2.out]; rfl⟩
                    case measure => simp [intOf]; omega
            · obtain rfl : j = 6 := by omega
              go_wp2
              go_round
              case rel => exact ⟨m + 1, by omega, by go_num, rfl⟩
              case measure => simp [intOf]; omega
        · obtain rfl : m = 64 := by omega
          rw [H3.out]
          go_wp2_with fail
          go_ret
          exact ⟨rfl, hB3⟩
theorem walkCnfTables (x : Int) (hx : (Lit.int .u64 x).wf = true) (a : ByteArray) (ha : a.size ≤ maxLen) (k : Int) (hk : (Lit.int .u8 k).wf = true) (w : World) (hL : Letters w) :
    Calls Tryd.prog 4 #[.int .u64 x, .string a, .int .u8 k] w fun e w' => e = .returned (.bool true) ∧ Below w.heap.size w w' := by
  obtain ⟨k, rfl⟩ := u8_of hk
  have hb := bounds_u64 hx
  obtain ⟨t, rfl⟩ : ∃ t : Nat, x = t := ⟨x.toNat, by omega⟩
  exact walkPCnfTables t (by unfold big; omega) a.data.toList ha k w hL
end Go.Proofs.YtmldammikebhiaaDoor
