/- The words of a text between bytes of one kind. Plain lists; no program in sight; no conditions. -/
import Derived.Test.YtiagoiannccdmaaDoorMath
import Derived.Lib.Bytealg
namespace Lz
def pieces (c : UInt8) : List UInt8 → List (List UInt8)
  | [] => [[]]
  | b :: l => if b == c then [] :: pieces c l else (b :: (pieces c l).headD []) :: (pieces c l).tail
theorem pieces_ne (c : UInt8) (l : List UInt8) : pieces c l ≠ [] := by
  cases l with
  | nil => simp [pieces]
  | cons b l => unfold pieces; split <;> simp
theorem pieces_eta (c : UInt8) (l : List UInt8) : (pieces c l).headD [] :: (pieces c l).tail = pieces c l := by
  cases h : pieces c l with
  | nil => exact absurd h (pieces_ne c l)
  | cons a t => rfl
theorem pieces_at (c : UInt8) : ∀ (l : List UInt8) (k : Nat), Go.Lib.indexByte l c = (k : Int) → k < l.length ∧ pieces c l = l.take k :: pieces c (l.drop (k + 1))
  | [], k, h => by simp [Go.Lib.indexByte] at h
  | b :: l, k, h => by
    unfold Go.Lib.indexByte at h
    have hge := Go.Lib.indexByte_ge l c
    by_cases hb : (b == c) = true
    · rw [if_pos hb] at h
      obtain rfl : k = 0 := by omega
      refine ⟨by simp, ?_⟩
      rw [pieces, if_pos hb]; rfl
    · rw [if_neg hb] at h
      split at h
      · omega
      · rename_i hn
        have hne : Go.Lib.indexByte l c ≠ -1 := by simpa using hn
        obtain ⟨m, rfl⟩ : ∃ m, k = m + 1 := ⟨k - 1, by omega⟩
        obtain ⟨h1, h2⟩ := pieces_at c l m (by omega)
        refine ⟨by simp; omega, ?_⟩
        rw [pieces, if_neg hb, h2]; rfl
theorem pieces_none (c : UInt8) : ∀ (l : List UInt8), Go.Lib.indexByte l c < 0 → pieces c l = [l]
  | [], _ => rfl
  | b :: l, h => by
    unfold Go.Lib.indexByte at h
    have hge := Go.Lib.indexByte_ge l c
    by_cases hb : (b == c) = true
    · rw [if_pos hb] at h; omega
    · rw [if_neg hb] at h
      split at h
      · rename_i hn
        have h1 := pieces_none c l (by have := eq_of_beq hn; omega)
        rw [pieces, if_neg hb, h1]; rfl
      · rename_i hn
        have hne : Go.Lib.indexByte l c ≠ -1 := by simpa using hn
        omega
theorem pieces_length (c : UInt8) (l : List UInt8) : (pieces c l).length ≤ l.length + 1 := by
  induction l with
  | nil => simp [pieces]
  | cons b l ih =>
    unfold pieces
    split
    · simp; omega
    · simp; omega
/-- A word without the byte, the byte, the rest. -/
theorem pieces_word (c : UInt8) : ∀ (u l : List UInt8), c ∉ u → pieces c (u ++ c :: l) = u :: pieces c l
  | [], l, _ => by simp [pieces]
  | b :: u, l, h => by
    have hb : ¬ (b == c) = true := fun e => h (by rw [eq_of_beq e]; simp)
    have ih := pieces_word c u l (fun e => h (by simp [e]))
    rw [List.cons_append, pieces, if_neg hb, ih]; rfl
theorem pieces_last (c : UInt8) : ∀ (u : List UInt8), c ∉ u → pieces c u = [u]
  | [], _ => rfl
  | b :: u, h => by
    have hb : ¬ (b == c) = true := fun e => h (by rw [eq_of_beq e]; simp)
    have ih := pieces_last c u (fun e => h (by simp [e]))
    rw [pieces, if_neg hb, ih]; rfl
end Lz
