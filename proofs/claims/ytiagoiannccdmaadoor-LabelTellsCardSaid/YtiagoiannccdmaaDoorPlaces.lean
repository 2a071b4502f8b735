/- The contracts of package prin's iterator over the places of a set, and of Right, Count. -/
import Derived.Test.YtiagoiannccdmaaDoorBut
namespace Go.Proofs.YtiagoiannccdmaaDoor
open Go.RowKit Go.Shelf

attribute [local go_sem] Oper.semAt_some

theorem right_bool (s : UInt8) : (bits .andNot .u8 (s.toNat : Int) 63 == 0) = decide (s.toNat < 64) := by
  have h := in_bool s 63
  rw [show ((63 : UInt8).toNat : Int) = 63 from rfl] at h
  rw [h, Bool.eq_iff_iff, decide_eq_true_iff, ← Lz.clip_lt, Lz.sub, beq_iff_eq]
  rfl
theorem right_any (x : Int) (s : UInt8) (hx : x = s.toNat) (w : World) : Calls Tryd.prog 83 #[.int .u8 x] w fun e w' => e = .returned (.bool (decide (s.toNat < 64))) ∧ w = w' := by
  subst hx
  go_enter Tryd.func83, Tryd.ntmps83
  go_wp2
  go_ret
  exact ⟨ret_bool (right_bool s), rfl⟩

theorem bit_and_one (s : UInt8) (k : Nat) : bits .and .u8 ((s.toNat : Int) / 2 ^ k) 1 = if Lz.bit s k then 1 else 0 := by
  have e : (s.toNat : Int) / 2 ^ k = ((s.toNat / 2 ^ k : Nat) : Int) := by
    rw [Int.natCast_ediv, Int.natCast_pow]; rfl
  have h1 := s.toNat_lt
  have hle : s.toNat / 2 ^ k ≤ s.toNat := Nat.div_le_self _ _
  rw [e, show (1 : Int) = ((1 : Nat) : Int) from rfl, u8_and_nat _ _ (by omega) (by omega), Nat.and_one_is_mod]
  unfold Lz.bit
  rw [Nat.testBit_eq_decide_div_mod_eq]
  by_cases h : s.toNat / 2 ^ k % 2 = 1
  · simp [h]
  · simp [h]; omega
/-- The places of s below k, rising. -/
def placesTo (s : UInt8) : Nat → List (Fin 6)
  | 0 => []
  | k + 1 => if h : k < 6 then if Lz.bit s k then placesTo s k ++ [⟨k, h⟩] else placesTo s k else placesTo s k
theorem placesTo_length (s : UInt8) (k : Nat) (h : k ≤ 6) : (placesTo s k).length ≤ k := by
  induction k with
  | zero => simp [placesTo]
  | succ k ih =>
    have := ih (by omega)
    unfold placesTo
    split
    · split
      · simp; exact this
      · omega
    · omega

set_option maxRecDepth 100000 in
set_option maxHeartbeats 1000000 in
theorem places1_in (F : Fence) (n : Nat) (hf : F.fn 93) (hro : F.round = none) (hn : 1 ≤ n) (l Bs : Nat) (s : UInt8) (J Jx : List (Fin 6) → World → Prop)
    (hY : ∀ pre x W, J pre W → pre.length < 6 → YieldAt F (n - 1) Tryd.prog l #[.int .i64 (x.val : Int)] W fun e W' =>
      (e = .returned (.bool true) ∧ J (pre ++ [x]) W' ∧ W'.heap[Bs]? = W.heap[Bs]?) ∨ (e = .returned (.bool false) ∧ Jx (pre ++ [x]) W'))
    (W : World) (hBs : W.cell? ⟨Bs, 0, none⟩ = some (.int .u8 (s.toNat : Int))) (h0 : J [] W) :
    CallsIn F n Tryd.prog 93 #[.func (.yield l) #[] #[], .pointer (some ⟨Bs, 0, none⟩)] W fun e W' => (∃ v, e = .returned v) ∧
      ((∃ ys, ys = placesTo s 6 ∧ J ys W') ∨ (∃ pre, (∃ k, k ≤ 6 ∧ pre = placesTo s k) ∧ Jx pre W')) := by
  refine callsIn_of_wp Tryd.func93 rfl hf ?_ hro
  simp only [Tryd.ntmps93, List.size_toArray, List.length_cons, List.length_nil, Nat.reduceAdd, Nat.reduceSub, Array.replicate_succ, Array.replicate_zero, List.push_toArray, List.append_toArray, List.nil_append, List.cons_append]
  gi_wp2
  gi_loopw [3, 4] (fun _ i wr => ∃ k : Nat, k ≤ 6 ∧ i = .int .i64 k ∧ J (placesTo s k) wr ∧ wr.heap[Bs]? = W.heap[Bs]?)
    (fun _ i _ => 6 - (intOf i).toNat)
  case atStart => exact ⟨0, Nat.zero_le _, rfl, h0, rfl⟩
  case round =>
    obtain ⟨k, hk, rfl, hJs, hnx⟩ := hrel
    have hcx : wr.cell? ⟨Bs, 0, none⟩ = some (.int .u8 (s.toNat : Int)) := (World.cell?_of_block (w := W) (a := ⟨Bs, 0, none⟩) hnx).trans hBs
    by_cases hlt : k < 6
    · cases hbit : Lz.bit s k with
      | true =>
        have hb1 := bit_and_one s k
        have hpl : placesTo s (k + 1) = placesTo s k ++ [⟨k, hlt⟩] := by rw [placesTo, dif_pos hlt, if_pos hbit]
        rw [if_pos hbit] at hb1
        have HP := Lib.hid hpl
        clear hpl hbit
        obtain ⟨fn, tmps, assign, body, hy, hR⟩ := hY _ ⟨k, hlt⟩ wr hJs (by have := placesTo_length s k (by omega); omega)
        dsimp only at hy
        gi_wp2
        refine hR.mono ?_
        rintro e W3 (⟨rfl, hJ3, hk3⟩ | ⟨rfl, hJx3⟩)
        · gi_wp2
          go_roundw
          case rel => exact ⟨k + 1, by omega, by go_num, by rw [HP.out]; exact hJ3, hk3.trans hnx⟩
          case measure => simp [intOf]; omega
        · gi_wp2
          refine bodyPost_ret (results_none rfl _ _ _) rfl ?_
          exact ⟨⟨_, rfl⟩, .inr ⟨_, ⟨k + 1, by omega, HP.out.symm⟩, hJx3⟩⟩
      | false =>
        have hb1 := bit_and_one s k
        have hpl : placesTo s (k + 1) = placesTo s k := by rw [placesTo, dif_pos hlt, hbit]; rfl
        rw [hbit, if_neg (by simp)] at hb1
        have HP := Lib.hid hpl
        clear hpl hbit
        gi_wp2
        refine ⟨fun _ h => (by cases h), ?_⟩
        gi_wp2
        go_roundw
        case rel => exact ⟨k + 1, by omega, by go_num, by rw [HP.out]; exact hJs, hnx⟩
        case measure => simp [intOf]; omega
    · obtain rfl : k = 6 := by omega
      gi_wp2
      go_end0
      exact ⟨⟨_, rfl⟩, .inl ⟨_, rfl, hJs⟩⟩

set_option maxHeartbeats 1000000 in
theorem places_in (F : Fence) (n : Nat) (hf : F.fn 79) (hro : F.round = none) (x : Int) (w : World) :
    CallsIn F n Tryd.prog 79 #[.int .u8 x] w fun e w' => e = .returned (.func (.func 93) #[] #[.pointer (some ⟨w.heap.size, 0, none⟩)]) ∧ w' = w.alloc (.cells #[.int .u8 x] 5) := by
  refine callsIn_of_wp Tryd.func79 rfl hf ?_ hro
  simp only [Tryd.ntmps79, List.size_toArray, List.length_cons, List.length_nil, Nat.reduceAdd, Nat.reduceSub, Array.replicate_succ, Array.replicate_zero, List.push_toArray, List.append_toArray, List.nil_append, List.cons_append]
  gi_wp2
  go_ret
  exact ⟨rfl, rfl⟩

theorem places_stops (F : Fence) (n : Nat) (hf : F.fn 93) (hro : F.round = none) (hn : 1 ≤ n) (Bs : Nat) (s : UInt8) (w : World) (hBs : Bs < w.heap.size)
    (hc : w.cell? ⟨Bs, 0, none⟩ = some (.int .u8 (s.toNat : Int))) :
    SeqStopsK F n Tryd.prog 93 #[.pointer (some ⟨Bs, 0, none⟩)] (fun x : Fin 6 => #[Value.int .i64 (x.val : Int)]) (fun A B => B.heap[Bs]? = A.heap[Bs]?) (fun ys => ys = placesTo s 6) (fun pre => ∃ k, k ≤ 6 ∧ pre = placesTo s k) 6 w := fun l J Jx W hW _ _ hY h0 => by
  have hc' := (hW.cell (p := ⟨Bs, 0, none⟩) hBs).trans hc
  exact places1_in F n hf hro hn l Bs s J Jx hY W hc' h0
end Go.Proofs.YtiagoiannccdmaaDoor
