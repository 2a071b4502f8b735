/- The walk of PrinAgain. Condition: the table of letters holds its text. -/
import Derived.Test.YtfdmhhlkahahbaaDoorPrinEx
namespace Go.Proofs.YtfdmhhlkahahbaaDoor
open Go.RowKit Go.Shelf
attribute [local go_sem] str_list str_size

theorem least_two (a b : List UInt8) : Lz.least (a ++ b) = Lz.least (Lz.least a ++ Lz.least b) :=
  Lz.least_of_covers fun c => by rw [Lz.covers_append, Lz.covers_append, Lz.covers_least, Lz.covers_least]
theorem least_comm (a b : List UInt8) : Lz.least (a ++ b) = Lz.least (b ++ a) :=
  Lz.least_of_covers fun c => by rw [Lz.covers_append, Lz.covers_append, Bool.or_comm]
theorem least_twice (a : List UInt8) : Lz.least (a ++ a) = Lz.least a :=
  Lz.least_of_covers fun c => by rw [Lz.covers_append, Bool.or_self]

theorem least_length (l : List UInt8) : (Lz.least l).length ≤ 256 := leastTo_length l 256
set_option maxRecDepth 100000 in
set_option maxHeartbeats 2000000 in
theorem walkPrinAgain (a : ByteArray) (ha : a.size ≤ maxLen) (b : ByteArray) (hb : b.size ≤ maxLen) (w : World) (hL : Letters w) :
    Calls Tryd.prog 5 #[.string a, .string b] w fun e w' => e = .returned (.bool true) ∧ Below w.heap.size w w' := by
  have HEX := Lib.hid (examples_any w hL)
  clear hL
  unfold maxLen at ha hb
  obtain ⟨k, hk, hk1, hk2⟩ := cut_at a.size 50 50 rfl
  obtain ⟨j, hj, hj1, hj2⟩ := cut_at b.size 50 50 rfl
  go_enter Tryd.func5, Tryd.ntmps5
  go_wp2_with fail
  refine HEX.out.mono ?_
  rintro e w1 ⟨rfl, hb1⟩
  go_wp2_with fail
  have hx : (a.extract 0 k).size ≤ 50 := by simp; omega
  have hy : (b.extract 0 j).size ≤ 50 := by simp; omega
  generalize a.extract 0 k = x at hx ⊢
  generalize b.extract 0 j = y at hy ⊢
  have st := least_length x.data.toList
  have sty := least_length y.data.toList
  refine (least_any _ _ (by unfold maxLen; omega)).mono ?_
  rintro e w2 ⟨rfl, hb2⟩
  have hB2 := hb1.trans (hb2.mono hb1.size)
  clear hb1 hb2
  go_wp2_with fail
  refine (least_any _ _ (by rw [str_size]; unfold maxLen; omega)).mono ?_
  rintro e w3 ⟨rfl, hb3⟩
  rw [lst_str, Lz.least_least]
  have hB3 := hB2.trans (hb3.mono hB2.size)
  clear hB2 hb3
  go_wp2_with fail
  refine (least_any _ _ (by simp; unfold maxLen; omega)).mono ?_
  rintro e w4 ⟨rfl, hb4⟩
  rw [lst_append, least_two]
  have hB4 := hB3.trans (hb4.mono hB3.size)
  clear hB3 hb4
  go_wp2_with fail
  refine (least_any _ _ (by unfold maxLen; omega)).mono ?_
  rintro e w5 ⟨rfl, hb5⟩
  have hB5 := hB4.trans (hb5.mono hB4.size)
  clear hB4 hb5
  go_wp2_with fail
  refine (least_any _ _ (by simp only [ByteArray.size_append, str_size]; unfold maxLen; omega)).mono ?_
  rintro e w6 ⟨rfl, hb6⟩
  rw [lst_append, lst_str, lst_str]
  have hB6 := hB5.trans (hb6.mono hB5.size)
  clear hB5 hb6
  go_wp2_with fail
  refine (least_any _ _ (by simp; unfold maxLen; omega)).mono ?_
  rintro e w7 ⟨rfl, hb7⟩
  rw [lst_append]
  have hB7 := hB6.trans (hb7.mono hB6.size)
  clear hB6 hb7
  go_wp2_with fail
  refine (least_any _ _ (by simp; unfold maxLen; omega)).mono ?_
  rintro e w8 ⟨rfl, hb8⟩
  rw [lst_append, least_comm y.data.toList]
  have hB8 := hB7.trans (hb8.mono hB7.size)
  clear hB7 hb8
  go_wp2_with fail
  refine (least_any _ _ (by simp; unfold maxLen; omega)).mono ?_
  rintro e w9 ⟨rfl, hb9⟩
  rw [lst_append, least_twice]
  go_wp2
  go_ret
  exact ⟨rfl, hB8.trans (hb9.mono hB8.size)⟩
end Go.Proofs.YtfdmhhlkahahbaaDoor
