/- The contract of guard.first at one question, and at two. Condition: what the questions come to. -/
import Derived.Test.YtnnnnlnnohdidaaGuard
namespace Go.Proofs.Ytnnnnlnnohdidaa
open Go.RowKit Go.Shelf

set_option maxRecDepth 100000 in
set_option maxHeartbeats 2000000 in
theorem first1_any (g : Nat) (v : Value) (ex : Int) (c : Bool) (w : World) (hb : Box2 w g 49 v (.int .i64 ex)) (hm : Must w c v) :
    Calls Try.prog 28 #[.slice (some ⟨g, 0, none⟩) 1 1] w fun e w' => e = .returned (.int .i64 (if c then 0 else ex)) ∧ Below w.heap.size w w' := by
  obtain ⟨K, caps, rfl, hK, hC⟩ := hm
  have HC := Lib.hid hC
  have bG := Lib.hid hb
  clear hC
  have hlt := hb.lt
  clear hb
  go_enter Try.func28, Try.ntmps28
  go_wp2
  go_loopw [7] (fun i wr => ∃ k : Nat, (k = 0 ∨ (k = 1 ∧ c = true)) ∧ i = .int .i64 k ∧ Below w.heap.size w wr) (fun i _ => 1 - (intOf i).toNat)
  case atStart => exact ⟨0, .inl rfl, rfl, Below.refl _ _⟩
  case round =>
    obtain ⟨k, hk, rfl, hB⟩ := hrel
    rcases hk with rfl | ⟨rfl, hc⟩
    · have bR := bG.out.below hB hlt
      have c0 := bR.cell0
      have c1 := bR.cell1
      have bM := Box2.new wr 49 (.func (.func K) #[] caps) (.int .i64 ex)
      have hB0 := hB.alloc hB.size (.cells #[.func (.func K) #[] caps, .int .i64 ex] 49)
      go_wp2_with fail
      refine (HC.out _ hB0).mono ?_
      rintro e w1 ⟨rfl, hb1⟩
      have bM1 := bM.below hb1 bM.lt
      have d1 := bM1.cell1
      have hB1 := hB0.trans (hb1.mono hB0.size)
      clear hB0 hb1 bM
      cases c with
      | false =>
        go_wp2
        go_ret
        exact ⟨rfl, hB1⟩
      | true =>
        go_wp2
        go_roundw
        case rel => exact ⟨1, by simp, by go_num, hB1⟩
        case measure => simp [intOf]
    · subst hc
      go_wp2
      go_ret
      exact ⟨rfl, hB⟩
set_option maxRecDepth 100000 in
set_option maxHeartbeats 2000000 in
theorem first2_any (g : Nat) (v v' : Value) (ex ex' : Int) (c c' : Bool) (w : World) (hb : Box4 w g 49 v (.int .i64 ex) v' (.int .i64 ex')) (hm : Must w c v) (hm' : Must w c' v') :
    Calls Try.prog 28 #[.slice (some ⟨g, 0, none⟩) 2 2] w fun e w' => e = .returned (.int .i64 (if c then (if c' then 0 else ex') else ex)) ∧ Below w.heap.size w w' := by
  obtain ⟨K, caps, rfl, hK, hC⟩ := hm
  obtain ⟨K', caps', rfl, hK', hC'⟩ := hm'
  have HC := Lib.hid hC
  have HC' := Lib.hid hC'
  have bG := Lib.hid hb
  clear hC hC'
  have hlt := hb.lt
  clear hb
  go_enter Try.func28, Try.ntmps28
  go_wp2
  go_loopw [7] (fun i wr => ∃ k : Nat, (k = 0 ∨ (k = 1 ∧ c = true) ∨ (k = 2 ∧ c = true ∧ c' = true)) ∧ i = .int .i64 k ∧ Below w.heap.size w wr) (fun i _ => 2 - (intOf i).toNat)
  case atStart => exact ⟨0, .inl rfl, rfl, Below.refl _ _⟩
  case round =>
    obtain ⟨k, hk, rfl, hB⟩ := hrel
    rcases hk with rfl | ⟨rfl, hc⟩ | ⟨rfl, hc, hc'⟩
    · have bR := bG.out.below hB hlt
      have c0 := bR.cell0
      have c1 := bR.cell1
      have bM := Box2.new wr 49 (.func (.func K) #[] caps) (.int .i64 ex)
      have hB0 := hB.alloc hB.size (.cells #[.func (.func K) #[] caps, .int .i64 ex] 49)
      go_wp2_with fail
      refine (HC.out _ hB0).mono ?_
      rintro e w1 ⟨rfl, hb1⟩
      have bM1 := bM.below hb1 bM.lt
      have d1 := bM1.cell1
      have hB1 := hB0.trans (hb1.mono hB0.size)
      clear hB0 hb1 bM
      cases c with
      | false =>
        go_wp2
        go_ret
        exact ⟨rfl, hB1⟩
      | true =>
        go_wp2
        go_roundw
        case rel => exact ⟨1, by simp, by go_num, hB1⟩
        case measure => simp [intOf]
    · subst hc
      have bR := bG.out.below hB hlt
      have c0 := bR.cell2
      have c1 := bR.cell3
      have bM := Box2.new wr 49 (.func (.func K') #[] caps') (.int .i64 ex')
      have hB0 := hB.alloc hB.size (.cells #[.func (.func K') #[] caps', .int .i64 ex'] 49)
      go_wp2_with fail
      refine (HC'.out _ hB0).mono ?_
      rintro e w1 ⟨rfl, hb1⟩
      have bM1 := bM.below hb1 bM.lt
      have d1 := bM1.cell1
      have hB1 := hB0.trans (hb1.mono hB0.size)
      clear hB0 hb1 bM
      cases c' with
      | false =>
        go_wp2
        go_ret
        exact ⟨rfl, hB1⟩
      | true =>
        go_wp2
        go_roundw
        case rel => exact ⟨2, by simp, by go_num, hB1⟩
        case measure => simp [intOf]
    · subst hc hc'
      go_wp2
      go_ret
      exact ⟨rfl, hB⟩
theorem first1_eq (g : Nat) (v : Value) (ex : Int) (c : Bool) (r : Int) (hr : (if c then 0 else ex) = r) (w : World) (hb : Box2 w g 49 v (.int .i64 ex)) (hm : Must w c v) :
    Calls Try.prog 28 #[.slice (some ⟨g, 0, none⟩) 1 1] w fun e w' => e = .returned (.int .i64 r) ∧ Below w.heap.size w w' := by
  subst hr; exact first1_any g v ex c w hb hm
theorem first2_eq (g : Nat) (v v' : Value) (ex ex' : Int) (c c' : Bool) (r : Int) (hr : (if c then (if c' then 0 else ex') else ex) = r) (w : World) (hb : Box4 w g 49 v (.int .i64 ex) v' (.int .i64 ex')) (hm : Must w c v) (hm' : Must w c' v') :
    Calls Try.prog 28 #[.slice (some ⟨g, 0, none⟩) 2 2] w fun e w' => e = .returned (.int .i64 r) ∧ Below w.heap.size w w' := by
  subst hr; exact first2_any g v v' ex ex' c c' w hb hm hm'
end Go.Proofs.Ytnnnnlnnohdidaa
