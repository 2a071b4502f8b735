/- Words for the walks of chapter 14's statements. No conditions. -/
import Derived.Test.YtnnnnlnnohdidaaGuard8
import Derived.Test.YtnnnnlnnohdidaaGuardEx
namespace Go.Proofs.Ytnnnnlnnohdidaa
open Go.RowKit Go.Shelf
theorem sixS {W : World} {B C : Nat} {t u : TypeId} {a b c d e f : Value} (h : Box4 W B t a b c d) (k : Box2 W C u e f) : (W.cell? ⟨B, 0, none⟩ = some a ∧ W.cell? ⟨B, 1, none⟩ = some b ∧ W.cell? ⟨B, 2, none⟩ = some c ∧ W.cell? ⟨B, 3, none⟩ = some d) ∧ W.cell? ⟨C, 0, none⟩ = some e ∧ W.cell? ⟨C, 1, none⟩ = some f := ⟨fourS h, k.cell0, k.cell1⟩
theorem keep6S {W V : World} {B C : Nat} {a b c d e f : Value} (h : (W.cell? ⟨B, 0, none⟩ = some a ∧ W.cell? ⟨B, 1, none⟩ = some b ∧ W.cell? ⟨B, 2, none⟩ = some c ∧ W.cell? ⟨B, 3, none⟩ = some d) ∧ W.cell? ⟨C, 0, none⟩ = some e ∧ W.cell? ⟨C, 1, none⟩ = some f) (hb : Below W.heap.size W V) : (V.cell? ⟨B, 0, none⟩ = some a ∧ V.cell? ⟨B, 1, none⟩ = some b ∧ V.cell? ⟨B, 2, none⟩ = some c ∧ V.cell? ⟨B, 3, none⟩ = some d) ∧ V.cell? ⟨C, 0, none⟩ = some e ∧ V.cell? ⟨C, 1, none⟩ = some f := by
  have x := hb.block B (block_lt_of_cell h.1.1)
  have y := hb.block C (block_lt_of_cell h.2.1)
  unfold World.cell? at h ⊢
  simp only [x, y]
  exact h
theorem keep6A {W : World} {B C : Nat} {a b c d e f : Value} (h : (W.cell? ⟨B, 0, none⟩ = some a ∧ W.cell? ⟨B, 1, none⟩ = some b ∧ W.cell? ⟨B, 2, none⟩ = some c ∧ W.cell? ⟨B, 3, none⟩ = some d) ∧ W.cell? ⟨C, 0, none⟩ = some e ∧ W.cell? ⟨C, 1, none⟩ = some f) (o : Obj) : ((W.alloc o).cell? ⟨B, 0, none⟩ = some a ∧ (W.alloc o).cell? ⟨B, 1, none⟩ = some b ∧ (W.alloc o).cell? ⟨B, 2, none⟩ = some c ∧ (W.alloc o).cell? ⟨B, 3, none⟩ = some d) ∧ (W.alloc o).cell? ⟨C, 0, none⟩ = some e ∧ (W.alloc o).cell? ⟨C, 1, none⟩ = some f := keep6S h ((Below.refl _ W).alloc (Nat.le_refl _) o)
theorem c7D {W : World} {B C : Nat} {a b c d e f : Value} {o : Obj} (h : ((W.drew.alloc o).cell? ⟨B, 0, none⟩ = some a ∧ (W.drew.alloc o).cell? ⟨B, 1, none⟩ = some b ∧ (W.drew.alloc o).cell? ⟨B, 2, none⟩ = some c ∧ (W.drew.alloc o).cell? ⟨B, 3, none⟩ = some d) ∧ (W.drew.alloc o).cell? ⟨C, 0, none⟩ = some e ∧ (W.drew.alloc o).cell? ⟨C, 1, none⟩ = some f) : ((W.alloc o).drew.cell? ⟨B, 0, none⟩ = some a ∧ (W.alloc o).drew.cell? ⟨B, 1, none⟩ = some b ∧ (W.alloc o).drew.cell? ⟨B, 2, none⟩ = some c ∧ (W.alloc o).drew.cell? ⟨B, 3, none⟩ = some d) ∧ (W.alloc o).drew.cell? ⟨C, 0, none⟩ = some e ∧ (W.alloc o).drew.cell? ⟨C, 1, none⟩ = some f := h
theorem keep6Z {W : World} {B C k : Nat} {a b c d e f q0 q1 q2 q3 : Value} (h1 : B ≠ k) (h2 : C ≠ k) (h : (W.cell? ⟨B, 0, none⟩ = some a ∧ W.cell? ⟨B, 1, none⟩ = some b ∧ W.cell? ⟨B, 2, none⟩ = some c ∧ W.cell? ⟨B, 3, none⟩ = some d) ∧ W.cell? ⟨C, 0, none⟩ = some e ∧ W.cell? ⟨C, 1, none⟩ = some f) : (((((W.setCell ⟨k, 0, none⟩ q0).setCell ⟨k, 1, none⟩ q1).setCell ⟨k, 2, none⟩ q2).setCell ⟨k, 3, none⟩ q3).cell? ⟨B, 0, none⟩ = some a ∧ ((((W.setCell ⟨k, 0, none⟩ q0).setCell ⟨k, 1, none⟩ q1).setCell ⟨k, 2, none⟩ q2).setCell ⟨k, 3, none⟩ q3).cell? ⟨B, 1, none⟩ = some b ∧ ((((W.setCell ⟨k, 0, none⟩ q0).setCell ⟨k, 1, none⟩ q1).setCell ⟨k, 2, none⟩ q2).setCell ⟨k, 3, none⟩ q3).cell? ⟨B, 2, none⟩ = some c ∧ ((((W.setCell ⟨k, 0, none⟩ q0).setCell ⟨k, 1, none⟩ q1).setCell ⟨k, 2, none⟩ q2).setCell ⟨k, 3, none⟩ q3).cell? ⟨B, 3, none⟩ = some d) ∧ ((((W.setCell ⟨k, 0, none⟩ q0).setCell ⟨k, 1, none⟩ q1).setCell ⟨k, 2, none⟩ q2).setCell ⟨k, 3, none⟩ q3).cell? ⟨C, 0, none⟩ = some e ∧ ((((W.setCell ⟨k, 0, none⟩ q0).setCell ⟨k, 1, none⟩ q1).setCell ⟨k, 2, none⟩ q2).setCell ⟨k, 3, none⟩ q3).cell? ⟨C, 1, none⟩ = some f := ⟨keepZ h1 h.1, set4 h2 h.2.1, set4 h2 h.2.2⟩
theorem okS_stS (s : Lz.St) (k : Nat) (l : Lz.Lab) (p : UInt8) (h : okS s) : okS (Lz.stS s k l p).1 := by
  unfold Lz.stS
  split
  · unfold Lz.upS; split
    · exact ⟨okL_jn _ _, h.2⟩
    · exact h
  · exact h
  · unfold Lz.boS; split
    · exact ⟨okL_nrm _, h.2⟩
    · exact h
  · unfold Lz.loS; split
    · split
      · exact ⟨h.1, okL_nrm _⟩
      · exact h
    · exact h
  · unfold Lz.drS; split
    · split
      · exact ⟨okL_nrm _, h.2⟩
      · exact h
    · exact h
  · unfold Lz.liS; split
    · split
      · exact ⟨h.1, okL_nrm _⟩
      · exact h
    · exact h
end Go.Proofs.Ytnnnnlnnohdidaa
