/- The walk of PrinLeast. Conditions: the length; the table of letters holds its text. -/
import Derived.Test.YtfdmhhlkahahbaaDoorPrinEx
import Derived.Deep.QuietTactic
import Derived.BigQuiet
import Derived.IntWalk
import Derived.Outline
namespace Go.Proofs.YtfdmhhlkahahbaaDoor
open Go.RowKit Go.Shelf
attribute [local go_sem] str_list str_size
theorem mixedOrders : Tryd.prog.follows .mixedOrders = true := by kernel_rfl
set_option maxRecDepth 100000 in
set_option maxHeartbeats 1000000 in
theorem has_any (b : ByteArray) (hb : b.size ≤ 1000000) (x : Int) (s : UInt8) (hx : x = s.toNat) (hm : s ∈ b.data.toList) (w : World) : Calls Tryd.prog 22 #[.string b, .int .u8 x] w fun e w' => e = .returned (.bool true) ∧ w = w' := by
  subst hx
  have HM := Lib.hid hm
  clear hm
  go_enter Tryd.func22, Tryd.ntmps22
  go_wp2
  go_loop [5] (fun i => ∃ k : Nat, k ≤ b.size ∧ i = .int .i64 k ∧ s ∉ b.data.toList.take k) (fun i => b.size - (intOf i).toNat)
  case atStart => exact ⟨0, Nat.zero_le _, rfl, by simp⟩
  case round =>
    obtain ⟨k, hk, rfl, hn⟩ := hrel
    have HN := Lib.hid hn
    clear hn
    by_cases hlt : k < b.size
    · have he := toNat_beq b[k] s
      have hst : b.data.toList.take (k + 1) = b.data.toList.take k ++ [b[k]] := by
        rw [List.take_succ_eq_append_getElem (by simpa using hlt)]; rfl
      have HST := Lib.hid hst
      clear hst
      cases hq : (b[k] == s) with
      | true =>
        rw [hq] at he
        clear hq
        go_wp2
        go_ret
        exact ⟨rfl, rfl⟩
      | false =>
        rw [hq] at he
        have HQ := Lib.hid hq
        clear hq
        go_wp2
        go_round
        case rel => exact ⟨k + 1, by omega, by go_num, by
          rw [HST.out, List.mem_append, List.mem_singleton]
          rintro (h | h)
          · exact HN.out h
          · have := HQ.out; rw [h] at this; simp at this⟩
        case measure => simp [intOf]; omega
    · obtain rfl : k = b.size := by omega
      have hall : b.data.toList.take b.size = b.data.toList := List.take_of_length_le (by simp)
      rw [hall] at HN
      exact absurd HM.out HN.out
theorem mem_at (b : ByteArray) (k : Nat) (h : k < b.size) : b[k] ∈ b.data.toList := List.getElem_mem (l := b.data.toList) (by simpa using h)
theorem least_mem {y m : ByteArray} (hm : m.data.toList = Lz.least y.data.toList) (k : Nat) (h : k < m.size) : m[k] ∈ y.data.toList :=
  Lz.least_sub (by rw [← hm]; exact mem_at m k h)
theorem least_lt {y m : ByteArray} (hm : m.data.toList = Lz.least y.data.toList) (k : Nat) (h : k < m.size) (i : Nat) (hi : i < k) : (m[i]'(by omega)).toNat < m[k].toNat := by
  have hr := Lz.least_rises y.data.toList
  rw [← hm] at hr
  exact List.pairwise_iff_getElem.1 hr i k (by simp; omega) (by simpa using h) hi
theorem least_alone {y m : ByteArray} (hm : m.data.toList = Lz.least y.data.toList) (k i : Nat) (h : k < m.size) (h2 : i < m.size) (hne : k ≠ i) : Lz.sub m[k] m[i] = false := by
  cases hs : Lz.sub m[k] m[i] with
  | false => rfl
  | true =>
    have h1 : m[i] ∈ Lz.least y.data.toList := by rw [← hm]; exact mem_at m i h2
    have he := (Lz.mem_least.1 h1).2 m[k] (least_mem hm k h) hs
    rcases Nat.lt_or_gt_of_ne hne with hlt | hlt
    · have := least_lt hm i h2 k hlt; rw [he] at this; omega
    · have := least_lt hm k h i hlt; rw [he] at this; omega
theorem least_in {y m : ByteArray} (hm : m.data.toList = Lz.least y.data.toList) (i : Nat) (h : i < y.size) : Lz.covers m.data.toList y[i] = true := by
  obtain ⟨d, h1, h2⟩ := Lz.least_below (mem_at y i h)
  exact Lz.covers_iff.2 ⟨d, by rw [hm]; exact h1, h2⟩
theorem covers_at (b : ByteArray) (k : Nat) (h : k < b.size) (s : UInt8) : Lz.covers (b.data.toList.take (k + 1)) s = (Lz.covers (b.data.toList.take k) s || Lz.sub b[k] s) := by
  have hst : b.data.toList.take (k + 1) = b.data.toList.take k ++ [b[k]] := by
    rw [List.take_succ_eq_append_getElem (by simpa using h)]; rfl
  rw [hst, Lz.covers_append]
  simp [Lz.covers]
theorem least_len (l : List UInt8) : (Lz.least l).length ≤ 256 := leastTo_length l 256
set_option maxRecDepth 100000 in
set_option maxHeartbeats 8000000 in
theorem walkPrinLeast (l : ByteArray) (hl : l.size ≤ maxLen) (w : World) (hL : Letters w) :
    Calls Tryd.prog 4 #[.string l] w fun e w' => e = .returned (.bool true) ∧ Below w.heap.size w w' := by
  have mixed := mixedOrders
  have HEX := Lib.hid (examples_any w hL)
  clear hL
  unfold maxLen at hl
  obtain ⟨c, hc, hc1, hc2⟩ := cut_at l.size 100 100 rfl
  go_enter Tryd.func4, Tryd.ntmps4
  go_wp2_with fail
  refine HEX.out.mono ?_
  rintro e w1 ⟨rfl, hB1⟩
  clear HEX
  go_wp2_with fail
  have hy : (l.extract 0 c).size ≤ 100 := by simp; omega
  generalize l.extract 0 c = y at hy ⊢
  clear hc hc1 hc2
  refine (least_any y _ (by unfold maxLen; omega)).mono ?_
  rintro e w2 ⟨rfl, hb2⟩
  have hB2 := hB1.trans (hb2.mono hB1.size)
  clear hB1 hb2
  have hm := lst_str (Lz.least y.data.toList)
  have hml : (str (Lz.least y.data.toList)).size ≤ 256 := least_len _
  generalize str (Lz.least y.data.toList) = m at hm hml ⊢
  have HM1 := Lib.hid fun k h => least_mem hm k h
  have HM2 := Lib.hid fun k h => least_lt hm k h
  have HM3 := Lib.hid fun k i => least_alone hm k i
  have HM4 := Lib.hid fun i h => least_in hm i h
  clear hm
  go_wp2_with fail
  go_loopw [5, 6] (fun i _ wr => ∃ k : Nat, k ≤ m.size ∧ i = .int .i64 k ∧ Below w.heap.size w wr) (fun i _ _ => m.size - (intOf i).toNat)
  case atStart => exact ⟨0, Nat.zero_le _, rfl, hB2⟩
  case round =>
    obtain ⟨k, hk, rfl, hB⟩ := hrel
    obtain ⟨wo, rfl⟩ : ∃ wo : World, wo = wr := ⟨_, rfl⟩
    by_cases hlt : k < m.size
    · have hdk : decide ((k : Int) < m.size) = true := by rw [decide_eq_true_iff]; omega
      have HH := Lib.hid fun W => has_any y (by omega) ((m[k]'hlt).toNat : Int) m[k] rfl (HM1.out k hlt) W
      have r0 := quiet_call (w := wo) (fun W _ => (HH.out W).mono fun e w' h => (show e = .returned (.bool true) ∧ Below W.heap.size W w' from ⟨h.1, h.2 ▸ Below.refl _ _⟩))
      by_cases h0 : k = 0
      · have hk0 : decide (0 < k) = false := by rw [decide_eq_false_iff_not]; omega
        clear h0
        go_wp2_with fail
        refine wp_region_quiet_below mixed (by kernel_rfl) ?_
        repeat (go_big_quiet_step (fail))
        go_big_quiet_step (exact r0 _ _)
        repeat (go_big_quiet_step (fail))
        refine wpQuiet_nil ?_
        intro w3 hw'
        have hb3 := below_of_regrown hw'
        have hB3 := hB.trans (hb3.mono hB.size)
        clear hw' r0 hb3 hB
        go_wp2_with fail
        go_loopw [6] (fun i wr => ∃ j : Nat, j ≤ m.size ∧ i = .int .i64 j ∧ Below w.heap.size w wr) (fun i _ => m.size - (intOf i).toNat)
        case atStart => exact ⟨0, Nat.zero_le _, rfl, hB3⟩
        case round =>
          obtain ⟨j, hj, rfl, hBi⟩ := hrel
          by_cases hjt : j < m.size
          · by_cases hjk : j = k
            · subst hjk
              go_wp2_with fail
              refine wp_region_quiet_below mixed (by kernel_rfl) ?_
              repeat (go_big_quiet_step (fail))
              refine wpQuiet_nil ?_
              intro w4 hw'
              have hb4 := below_of_regrown hw'
              clear hw'
              go_wp2
              go_roundw
              case rel => exact ⟨j + 1, by omega, by go_num, hBi.trans (hb4.mono hBi.size)⟩
              case measure => simp [intOf]; omega
            · have hne : ((j : Int) != (k : Int)) = true := by rw [bne_iff_ne]; omega
              have HI := Lib.hid fun W => in_any ((m[j]'hjt).toNat : Int) ((m[k]'hlt).toNat : Int) m[j] m[k] rfl rfl W
              rw [HM3.out j k hjt hlt hjk] at HI
              have r1 := quiet_call (w := wr) (fun W _ => (HI.out W).mono fun e w' h => (show e = .returned (.bool false) ∧ Below W.heap.size W w' from ⟨h.1, h.2 ▸ Below.refl _ _⟩))
              go_wp2_with fail
              refine wp_region_quiet_below mixed (by kernel_rfl) ?_
              repeat (go_big_quiet_step (fail))
              go_big_quiet_step (exact r1 _ _)
              repeat (go_big_quiet_step (fail))
              refine wpQuiet_nil ?_
              intro w4 hw'
              have hb4 := below_of_regrown hw'
              clear hw' r1
              go_wp2
              go_roundw
              case rel => exact ⟨j + 1, by omega, by go_num, hBi.trans (hb4.mono hBi.size)⟩
              case measure => simp [intOf]; omega
          · obtain rfl : j = m.size := by omega
            go_wp2
            go_roundw
            case rel => exact ⟨k + 1, by omega, by go_num, hBi⟩
            case measure => simp [intOf]; omega
      · have hk0 : 0 < k := by omega
        obtain ⟨q, hq⟩ : ∃ q, k = q + 1 := ⟨k - 1, by omega⟩
        have hw : IntKind.i64.wrap ((k : Int) - 1) = (q : Int) := by rw [IntWalk.i64_in _ (by omega)]; omega
        have hqm : q < m.size := by omega
        have hle : decide ((m[k]'hlt).toNat ≤ (m[q]'hqm).toNat) = false := by have := HM2.out k hlt q (by omega); rw [decide_eq_false_iff_not]; omega
        have hq2 : (q : Int) < m.size := by omega
        clear hq h0
        go_wp2_with fail
        refine wp_region_quiet_below mixed (by kernel_rfl) ?_
        repeat (go_big_quiet_step (fail))
        go_big_quiet_step (exact r0 _ _)
        repeat (go_big_quiet_step (fail))
        clear hw
        refine wpQuiet_nil ?_
        intro w3 hw'
        have hb3 := below_of_regrown hw'
        have hB3 := hB.trans (hb3.mono hB.size)
        clear hw' r0 hb3 hB
        go_wp2_with fail
        go_loopw [6] (fun i wr => ∃ j : Nat, j ≤ m.size ∧ i = .int .i64 j ∧ Below w.heap.size w wr) (fun i _ => m.size - (intOf i).toNat)
        case atStart => exact ⟨0, Nat.zero_le _, rfl, hB3⟩
        case round =>
          obtain ⟨j, hj, rfl, hBi⟩ := hrel
          by_cases hjt : j < m.size
          · by_cases hjk : j = k
            · subst hjk
              go_wp2_with fail
              refine wp_region_quiet_below mixed (by kernel_rfl) ?_
              repeat (go_big_quiet_step (fail))
              refine wpQuiet_nil ?_
              intro w4 hw'
              have hb4 := below_of_regrown hw'
              clear hw'
              go_wp2
              go_roundw
              case rel => exact ⟨j + 1, by omega, by go_num, hBi.trans (hb4.mono hBi.size)⟩
              case measure => simp [intOf]; omega
            · have hne : ((j : Int) != (k : Int)) = true := by rw [bne_iff_ne]; omega
              have HI := Lib.hid fun W => in_any ((m[j]'hjt).toNat : Int) ((m[k]'hlt).toNat : Int) m[j] m[k] rfl rfl W
              rw [HM3.out j k hjt hlt hjk] at HI
              have r1 := quiet_call (w := wr) (fun W _ => (HI.out W).mono fun e w' h => (show e = .returned (.bool false) ∧ Below W.heap.size W w' from ⟨h.1, h.2 ▸ Below.refl _ _⟩))
              go_wp2_with fail
              refine wp_region_quiet_below mixed (by kernel_rfl) ?_
              repeat (go_big_quiet_step (fail))
              go_big_quiet_step (exact r1 _ _)
              repeat (go_big_quiet_step (fail))
              refine wpQuiet_nil ?_
              intro w4 hw'
              have hb4 := below_of_regrown hw'
              clear hw' r1
              go_wp2
              go_roundw
              case rel => exact ⟨j + 1, by omega, by go_num, hBi.trans (hb4.mono hBi.size)⟩
              case measure => simp [intOf]; omega
          · obtain rfl : j = m.size := by omega
            go_wp2
            go_roundw
            case rel => exact ⟨k + 1, by omega, by go_num, hBi⟩
            case measure => simp [intOf]; omega
    · obtain rfl : k = m.size := by omega
      clear HM1 HM2 HM3
      go_wp2_with fail
      go_loopw [7, 8, 9] (fun i _ _ wr => ∃ k : Nat, k ≤ y.size ∧ i = .int .i64 k ∧ Below w.heap.size w wr) (fun i _ _ _ => y.size - (intOf i).toNat)
      case atStart => exact ⟨0, Nat.zero_le _, rfl, hB⟩
      case round =>
        obtain ⟨k, hk, rfl, hB⟩ := hrel
        obtain ⟨wo, rfl⟩ : ∃ wo : World, wo = wr := ⟨_, rfl⟩
        by_cases hlt : k < y.size
        · have hdk : decide ((k : Int) < y.size) = true := by rw [decide_eq_true_iff]; omega
          go_wp2_with fail
          go_loopw [8, 9] (fun t i wr => ∃ j : Nat, j ≤ m.size ∧ i = .int .i64 j ∧ t = .bool (Lz.covers (m.data.toList.take j) y[k]) ∧ Below w.heap.size w wr) (fun _ i _ => m.size - (intOf i).toNat)
          case atStart => exact ⟨0, Nat.zero_le _, rfl, rfl, hB⟩
          case round =>
            obtain ⟨j, hj, rfl, rfl, hBi⟩ := hrel
            by_cases hjt : j < m.size
            · have hst := covers_at m j hjt y[k]
              have HST := Lib.hid hst
              clear hst
              have HI := Lib.hid fun W => in_any ((m[j]'hjt).toNat : Int) ((y[k]'hlt).toNat : Int) m[j] y[k] rfl rfl W
              generalize Lz.covers (m.data.toList.take j) y[k] = t at HST ⊢
              generalize Lz.sub m[j] y[k] = u at HST HI
              have r1 := quiet_call (w := wr) (fun W _ => (HI.out W).mono fun e w' h => (show e = .returned (.bool u) ∧ Below W.heap.size W w' from ⟨h.1, h.2 ▸ Below.refl _ _⟩))
              cases t with
              | true =>
                clear r1
                go_wp2_with fail
                refine wp_region_quiet_below mixed (by kernel_rfl) ?_
                repeat (go_big_quiet_step (fail))
                refine wpQuiet_nil ?_
                intro w4 hw'
                have hb4 := below_of_regrown hw'
                clear hw'
                go_wp2
                go_roundw
                case rel => exact ⟨j + 1, by omega, by go_num, by rw [HST.out]; rfl, hBi.trans (hb4.mono hBi.size)⟩
                case measure => simp [intOf]; omega
              | false =>
                go_wp2_with fail
                refine wp_region_quiet_below mixed (by kernel_rfl) ?_
                repeat (go_big_quiet_step (fail))
                go_big_quiet_step (exact r1 _ _)
                repeat (go_big_quiet_step (fail))
                refine wpQuiet_nil ?_
                intro w4 hw'
                have hb4 := below_of_regrown hw'
                clear hw' r1
                go_wp2
                go_roundw
                case rel => exact ⟨j + 1, by omega, by go_num, by rw [HST.out]; rfl, hBi.trans (hb4.mono hBi.size)⟩
                case measure => simp [intOf]; omega
            · obtain rfl : j = m.size := by omega
              have hall : m.data.toList.take m.size = m.data.toList := List.take_of_length_le (by simp)
              rw [hall, HM4.out k hlt]
              clear hall
              go_wp2
              go_roundw
              case rel => exact ⟨k + 1, by omega, by go_num, hBi⟩
              case measure => simp [intOf]; omega
        · obtain rfl : k = y.size := by omega
          go_wp2
          go_ret
          exact ⟨rfl, hB⟩
end Go.Proofs.YtfdmhhlkahahbaaDoor
