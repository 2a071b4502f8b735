/- The contracts of the document's answer to chapter 2: Text, Parse. Condition: the lengths. -/
import Derived.Test.YtmldammikebhiaaDoorRef2a
import Derived.Test.YtmldammikebhiaaDoorRef2M
import Derived.Test.YtmldammikebhiaaDoorCnfGet
namespace Go.Proofs.YtmldammikebhiaaDoor
open Go.RowKit Go.Shelf
attribute [local go_sem] str_list str_size str_app
theorem refNormE (b : ByteArray) (hb : b.size ≤ 100000) (n : List UInt8) (hn : Lz.norm b.data.toList = n) (w : World) : Calls Tryd.prog 27 #[.string b] w fun e w' => e = .returned (.string (str n)) ∧ Below w.heap.size w w' := by
  subst hn; exact refNorm_any b hb w
theorem joinC_first (c : UInt8) : joinC [] c = textP c := rfl
theorem joinC_more {acc : List UInt8} (h : acc ≠ []) (c : UInt8) : joinC acc c = (acc ++ [38]) ++ textP c := by unfold joinC; rw [if_neg h]
set_option maxRecDepth 100000 in
set_option maxHeartbeats 2000000 in
theorem ref2Text_any (b : ByteArray) (hb : b.size ≤ 100000) (w : World) : Calls Tryd.prog 38 #[.string b] w fun e w' => e = .returned (.string (str (textF b.data.toList))) ∧ Below w.heap.size w w' := by
  have hl := Lz.norm_len64 b.data.toList
  obtain ⟨n, hn⟩ : ∃ n, Lz.norm b.data.toList = n := ⟨_, rfl⟩
  have hT : textF b.data.toList = if n = [] then [84] else if n = [0] then [70] else textC n := by unfold textF; rw [hn]
  rw [hn] at hl
  have HN := Lib.hid fun W => refNormE b hb n hn W
  clear hn
  by_cases h1 : n = []
  · rw [if_pos h1] at hT
    have HT := Lib.hid hT
    clear hT
    subst h1
    go_enter Tryd.func38, Tryd.ntmps38
    go_wp2_with fail
    refine (HN.out _).mono ?_
    rintro e w1 ⟨rfl, hb1⟩
    go_wp2
    go_ret
    exact ⟨by rw [HT.out]; rfl, hb1⟩
  · rw [if_neg h1] at hT
    by_cases h2 : n = [0]
    · rw [if_pos h2] at hT
      have HT := Lib.hid hT
      clear hT h1
      subst h2
      go_enter Tryd.func38, Tryd.ntmps38
      go_wp2_with fail
      refine (HN.out _).mono ?_
      rintro e w1 ⟨rfl, hb1⟩
      go_wp2
      go_ret
      exact ⟨by rw [HT.out]; rfl, hb1⟩
    · rw [if_neg h2] at hT
      have h3 : n.isEmpty = false := by simpa using h1
      have h4 : (n == [0]) = false := by simpa using h2
      rw [← lst_str n] at hT
      have HT := Lib.hid hT
      clear hT h2
      go_enter Tryd.func38, Tryd.ntmps38
      go_wp2_with fail
      refine (HN.out _).mono ?_
      rintro e w1 ⟨rfl, hb1⟩
      go_wp2_with fail
      have hN2 : (str n).size ≤ 64 := hl
      clear h1 h3 h4 hl HN
      generalize str n = N at HT hN2 ⊢
      go_loopw [4, 5] (fun s i wr => ∃ k : Nat, k ≤ N.size ∧ i = .int .i64 k ∧ s = .string (str (textC (N.data.toList.take k))) ∧ Below w.heap.size w wr) (fun _ i _ => N.size - (intOf i).toNat)
      case atStart => exact ⟨0, Nat.zero_le _, rfl, rfl, hb1⟩
      case round =>
        obtain ⟨k, hk, rfl, rfl, hB⟩ := hrel
        by_cases hlt : k < N.size
        · have hst : textC (N.data.toList.take (k + 1)) = joinC (textC (N.data.toList.take k)) N[k] := by rw [btake_succ N k hlt, textC_snoc]
          have hll : (textC (N.data.toList.take k)).length ≤ 1000 := by
            have := textC_length (N.data.toList.take k)
            rw [List.length_take] at this; omega
          have hpl := textP_len N[k]
          have HX := Lib.hid fun W => refText_any (N[k].toNat : Int) N[k] rfl W
          by_cases h0 : k = 0
          · subst h0
            have hst2 : textC (N.data.toList.take (0 + 1)) = textP N[0] := by rw [hst]; rfl
            have HST := Lib.hid hst2
            clear hst hst2 hll
            generalize textP N[0] = P at HST HX hpl
            have he : textC (N.data.toList.take 0) = [] := rfl
            rw [he]
            clear he
            go_wp2_with fail
            refine (HX.out _).mono ?_
            rintro e w2 ⟨rfl, hb2⟩
            go_wp2
            go_roundw
            case rel => exact ⟨0 + 1, by omega, by go_num, by rw [HST.out], hB.trans (hb2.mono hB.size)⟩
            case measure => simp [intOf]; omega
          · have hne : textC (N.data.toList.take k) ≠ [] := textC_ne (by
              intro e
              have h5 : (N.data.toList.take k).length = 0 := by rw [e]; rfl
              have h6 : N.data.toList.length = N.size := by simp
              rw [List.length_take] at h5
              omega)
            rw [joinC_more hne] at hst
            have HST := Lib.hid hst
            have hk0 : 0 < (k : Int) := by omega
            clear hst hne h0
            generalize textP N[k] = P at HST HX hpl
            generalize textC (N.data.toList.take k) = L at HST hll ⊢
            go_wp2_with fail
            refine (HX.out _).mono ?_
            rintro e w2 ⟨rfl, hb2⟩
            go_wp2
            go_roundw
            case rel => exact ⟨k + 1, by omega, by go_num, by rw [HST.out, ← str_app, ← str_app]; rfl, hB.trans (hb2.mono hB.size)⟩
            case measure => simp [intOf]; omega
        · obtain rfl : k = N.size := by omega
          have hall : N.data.toList.take N.size = N.data.toList := List.take_of_length_le (by simp)
          rw [hall, ← HT.out]
          clear hall
          go_wp2
          go_ret
          exact ⟨rfl, hB⟩
end Go.Proofs.YtmldammikebhiaaDoor
