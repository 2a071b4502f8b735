/- The contract of the statements' few (chapter 2). Conditions: the text's length; how many clauses. -/
import Derived.Test.YtmldammikebhiaaDoorCnf2
namespace Go.Proofs.YtmldammikebhiaaDoor
open Go.RowKit Go.Shelf
attribute [local go_sem] str_list str_size
theorem extract_take' (l : List UInt8) (k : Nat) : (str l).extract 0 k = str (l.take k) := by
  apply ByteArray.ext
  simp [str]
theorem cut_str' (l : List UInt8) (m k : Nat) (h : (if (m : Int) < (l.length : Int) then (m : Int) else (l.length : Int)) = (k : Int)) : (str l).extract 0 k = str (l.take m) := by
  rw [extract_take']
  congr 1
  split at h
  · have : k = m := by omega
    rw [this]
  · have : k = l.length := by omega
    rw [this, List.take_of_length_le (by omega), List.take_of_length_le (by omega)]
set_option maxRecDepth 100000 in
set_option maxHeartbeats 1000000 in
theorem few_any (l : List UInt8) (_hl : l.length ≤ maxLen) (M : Int) (m : Nat) (hM : M = m) (w : World) :
    Calls Tryd.prog 11 #[.string (str l), .int .i64 M] w fun e w' => e = .returned (.string (str (l.take m))) ∧ w = w' := by
  subst hM
  unfold maxLen at _hl
  have H1 := Lib.hid (extract_take' l m)
  have H2 : l.length ≤ m → str (l.take l.length) = str (l.take m) := fun h => by rw [List.take_of_length_le (Nat.le_refl _), List.take_of_length_le h]
  have H2 := Lib.hid H2
  have H3 := Lib.hid (extract_take' l l.length)
  go_enter Tryd.func11, Tryd.ntmps11
  go_wp2
  · rw [H1.out]
    go_ret
    exact ⟨rfl, rfl⟩
  · rw [H3.out, H2.out (by omega)]
    go_ret
    exact ⟨rfl, rfl⟩
end Go.Proofs.YtmldammikebhiaaDoor
