/- The contracts of cnf.Right. Condition: the formula's length. -/
import Derived.Test.YtiagoiannccdmaaDoorOr
namespace Lz
theorem rises_len : ∀ (l : List UInt8) (n : Nat), Rises l → (∀ c, c ∈ l → n ≤ c.toNat ∧ c.toNat < 64) → l.length ≤ 64 - n
  | [], _, _, _ => by simp
  | a :: l, n, h, hb => by
    unfold Rises at h
    rw [List.pairwise_cons] at h
    have ha := hb a (by simp)
    have := rises_len l (a.toNat + 1) h.2 fun c hc => ⟨h.1 c hc, (hb c (by simp [hc])).2⟩
    rw [List.length_cons]
    omega
theorem norm_lt {f : List UInt8} {c : UInt8} (h : c ∈ norm f) : c.toNat < 64 := clip_lt.1 (clipped_norm f c h)
theorem norm_len64 (f : List UInt8) : (norm f).length ≤ 64 := rises_len _ 0 (least_rises _) fun _ hc => ⟨Nat.zero_le _, norm_lt hc⟩
end Lz
namespace Go.Proofs.YtiagoiannccdmaaDoor
open Go.RowKit Go.Shelf
attribute [local go_sem] str_list str_size
set_option maxRecDepth 100000 in
set_option maxHeartbeats 1000000 in
theorem cnfRight_any (s : ByteArray) (hs : s.size ≤ 1000000) (w : World) :
    Calls Tryd.prog 60 #[.string s] w fun e w' => e = .returned (.bool (Lz.norm s.data.toList == s.data.toList)) ∧ Below w.heap.size w w' := by
  have he := ByteArray.toList_eq s
  have HE := Lib.hid he
  clear he
  go_enter Tryd.func60, Tryd.ntmps60
  go_wp2_with fail
  refine (norm_any s hs _).mono ?_
  rintro e w1 ⟨rfl, hb1⟩
  go_wp2
  go_ret
  exact ⟨ret_bool (by rw [← HE.out]), hb1⟩
end Go.Proofs.YtiagoiannccdmaaDoor
