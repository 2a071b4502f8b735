/- The walk of PrinOnce. Condition: the table of letters holds its text. -/
import Derived.Test.YtfdmhhlkahahbaaDoorPrinBackW
namespace Go.Proofs.YtfdmhhlkahahbaaDoor
open Go.RowKit Go.Shelf
attribute [local go_sem] str_list str_size

theorem parse_no {t : List UInt8} (h : (parseP t).2 = false) : (parseP t).1 = 0 := by
  unfold parseP at h ⊢
  (repeat' split) <;> simp_all
theorem parse_yes {t : List UInt8} (h : (parseP t).2 = true) : (parseP t).1.toNat < 64 ∧ textP (parseP t).1 = t := by
  unfold parseP at h ⊢
  by_cases h1 : t = [45]
  · rw [if_pos h1]; subst h1; decide
  · rw [if_neg h1] at h ⊢
    by_cases h2 : t = []
    · rw [if_pos h2] at h; cases h
    · rw [if_neg h2] at h ⊢
      by_cases h3 : 11 < t.length
      · rw [if_pos h3] at h; cases h
      · rw [if_neg h3] at h ⊢
        by_cases h4 : scan t = 0
        · rw [if_pos h4] at h; cases h
        · rw [if_neg h4] at h ⊢
          by_cases h5 : textP (scan t) = t
          · rw [if_pos h5]
            refine ⟨?_, h5⟩
            apply Classical.byContradiction
            intro hn
            have hq := text_no (scan t) hn
            rw [h5] at hq
            rw [hq] at h4
            exact h4 (by decide +kernel)
          · rw [if_neg h5] at h; cases h
/-- The texts that are none, of a text that is one. -/
def bad (x : ByteArray) : Nat → ByteArray
  | 0 => ⟨#[124]⟩ ++ x
  | 1 => x ++ ⟨#[124]⟩
  | 2 => x ++ ⟨#[32]⟩
  | 3 => ⟨#[103, 124]⟩ ++ x
  | 4 => x ++ ⟨#[124, 45]⟩
  | _ => x ++ ⟨#[124]⟩ ++ x
def badL (x : List UInt8) : Nat → List UInt8
  | 0 => [124] ++ x
  | 1 => x ++ [124]
  | 2 => x ++ [32]
  | 3 => [103, 124] ++ x
  | 4 => x ++ [124, 45]
  | _ => x ++ [124] ++ x
theorem bad_list (x : ByteArray) (k : Nat) : (bad x k).data.toList = badL x.data.toList k := by
  unfold bad badL
  split <;> simp
theorem bad_none (s : UInt8) (h : s.toNat < 64) (k : Nat) (hk : k < 6) : (parseP (badL (textP s) k)).2 = false := by
  have := of_all64 (fun s => (List.range 6).all fun k => !(parseP (badL (textP s) k)).2) (by decide +kernel) s h
  have := List.all_eq_true.1 this k (List.mem_range.2 hk)
  simpa using this
theorem bad_no (x : ByteArray) (h : (parseP x.data.toList).2 = true) (k : Nat) (hk : k < 6) : (parseP (bad x k).data.toList).2 = false := by
  obtain ⟨h1, h2⟩ := parse_yes h
  rw [bad_list, ← h2]
  exact bad_none _ h1 k hk

set_option maxRecDepth 100000 in
set_option maxHeartbeats 4000000 in
theorem walkPrinOnce (t : ByteArray) (ht : t.size ≤ maxLen) (w : World) (hL : Letters w) :
    Calls Tryd.prog 8 #[.string t] w fun e w' => e = .returned (.bool true) ∧ Below w.heap.size w w' := by
  have HEX := Lib.hid (examples_any w hL)
  have HL := Lib.hid hL
  clear hL
  unfold maxLen at ht
  obtain ⟨k, hk, hk1, hk2⟩ := cut_at t.size 100 100 rfl
  go_enter Tryd.func8, Tryd.ntmps8
  go_wp2_with fail
  refine HEX.out.mono ?_
  rintro e w1 ⟨rfl, hb1⟩
  go_wp2_with fail
  have hx : (t.extract 0 k).size ≤ 100 := by simp; omega
  generalize t.extract 0 k = x at hx ⊢
  refine (parse_any _ _ (HL.out.behind hb1)).mono ?_
  rintro e w2 ⟨rfl, hb2⟩
  have hB2 := hb1.trans (hb2.mono hb1.size)
  clear hb1 hb2 hk hk1 hk2 ht
  cases hp : (parseP x.data.toList).2 with
  | false =>
    have h0 := parse_no hp
    rw [h0]
    clear h0 hp
    go_wp2
    go_ret
    exact ⟨rfl, hB2⟩
  | true =>
    obtain ⟨h64, htx⟩ := parse_yes hp
    have HBAD := Lib.hid (bad_no x hp)
    generalize hs : (parseP x.data.toList).1 = s at h64 htx ⊢
    have hd : decide (s.toNat < 64) = true := by simpa using h64
    have HD := Lib.hid hd
    have hxl : (str (textP s)).toList = x.toList := by rw [str_list, htx, ByteArray.toList_eq]
    have HX := Lib.hid hxl
    clear hs hp h64 htx hd hxl
    go_wp2_with fail
    have hcells : ∀ k, k < 6 → (w2.alloc (.cells #[.string (⟨#[124]⟩ ++ x), .string (x ++ ⟨#[124]⟩), .string (x ++ ⟨#[32]⟩), .string (⟨#[103, 124]⟩ ++ x), .string (x ++ ⟨#[124, 45]⟩), .string (x ++ ⟨#[124]⟩ ++ x)] 9)).cell? ⟨w2.heap.size, k, none⟩ = some (.string (bad x k)) := by
      intro k hk
      match k, hk with
      | 0, _ => simp [bad]
      | 1, _ => simp [bad]
      | 2, _ => simp [bad]
      | 3, _ => simp [bad]
      | 4, _ => simp [bad]
      | 5, _ => simp [bad]
    have hb3 : Below w2.heap.size w2 (w2.alloc (.cells #[.string (⟨#[124]⟩ ++ x), .string (x ++ ⟨#[124]⟩), .string (x ++ ⟨#[32]⟩), .string (⟨#[103, 124]⟩ ++ x), .string (x ++ ⟨#[124, 45]⟩), .string (x ++ ⟨#[124]⟩ ++ x)] 9)) := (Below.refl _ _).alloc (Nat.le_refl _) _
    have hs3 : w2.heap.size < (w2.alloc (.cells #[.string (⟨#[124]⟩ ++ x), .string (x ++ ⟨#[124]⟩), .string (x ++ ⟨#[32]⟩), .string (⟨#[103, 124]⟩ ++ x), .string (x ++ ⟨#[124, 45]⟩), .string (x ++ ⟨#[124]⟩ ++ x)] 9)).heap.size := by simp
    generalize w2.alloc (.cells #[.string (⟨#[124]⟩ ++ x), .string (x ++ ⟨#[124]⟩), .string (x ++ ⟨#[32]⟩), .string (⟨#[103, 124]⟩ ++ x), .string (x ++ ⟨#[124, 45]⟩), .string (x ++ ⟨#[124]⟩ ++ x)] 9) = W1 at hcells hb3 hs3 ⊢
    have HC := Lib.hid hcells
    have hB3 := hB2.trans (hb3.mono hB2.size)
    clear hcells hB2
    go_loopw [7, 8, 9, 46] (fun _ _ _ i wr => ∃ k : Nat, k ≤ 6 ∧ i = .int .i64 k ∧ Below W1.heap.size W1 wr) (fun _ _ _ i _ => 6 - (intOf i).toNat)
    case atStart => exact ⟨0, by omega, rfl, Below.refl _ _⟩
    case round =>
      obtain ⟨k, hk, rfl, hBr⟩ := hrel
      have hBw := hB3.trans (hBr.mono hB3.size)
      by_cases hlt : k < 6
      · have hc := (hBr.cell (p := ⟨w2.heap.size, k, none⟩) hs3).trans (HC.out k hlt)
        have hno := HBAD.out k hlt
        have h0 := parse_no hno
        go_wp2_with fail
        refine (parse_any _ _ (HL.out.behind hBw)).mono ?_
        rintro e w4 ⟨rfl, hb4⟩
        rw [hno, h0]
        clear hno h0
        go_wp2
        go_roundw
        case rel => exact ⟨k + 1, by omega, by go_num, hBr.trans (hb4.mono hBr.size)⟩
        case measure => simp [intOf]; omega
      · obtain rfl : k = 6 := by omega
        go_wp2_with fail
        refine (right_any _ s rfl _).mono ?_
        rintro e w' ⟨rfl, rfl⟩
        rw [HD.out]
        go_wp2_with fail
        refine (text_any _ s rfl _ (HL.out.behind hBw)).mono ?_
        rintro e w5 ⟨rfl, hb5⟩
        have hq := HX.out
        rw [str_list] at hq
        go_wp2
        go_ret
        exact ⟨rfl, hBw.trans (hb5.mono hBw.size)⟩
end Go.Proofs.YtfdmhhlkahahbaaDoor
