/- Small words for loops over iterators: what a body may write; the wide fence. No conditions. -/
import Derived.Test.YtiagoiannccdmaaDoorPrin
namespace Go.Proofs.YtiagoiannccdmaaDoor
open Go.RowKit Go.Shelf
/-- Below block number B all but block b lies as it lay. -/
structure But (B b : Nat) (w w' : World) : Prop where
  os : w'.os = w.os
  tape : w'.tape = w.tape
  output : w'.output = w.output
  size : w.heap.size ≤ w'.heap.size
  block : ∀ k, k < B → k ≠ b → w'.heap[k]? = w.heap[k]?
theorem But.refl (B b : Nat) (w : World) : But B b w w := ⟨rfl, rfl, rfl, Nat.le_refl _, fun _ _ _ => rfl⟩
theorem But.trans {B b : Nat} {x y z : World} (h : But B b x y) (k : But B b y z) : But B b x z :=
  ⟨k.os.trans h.os, k.tape.trans h.tape, k.output.trans h.output, Nat.le_trans h.size k.size, fun i hi hn => (k.block i hi hn).trans (h.block i hi hn)⟩
theorem But.of_below {B b : Nat} {w w' : World} (h : Below B w w') : But B b w w' := ⟨h.os, h.tape, h.output, h.size, fun k hk _ => h.block k hk⟩
theorem But.below {B b B' : Nat} {w w' : World} (h : But B b w w') (h1 : B' ≤ B) (h2 : B' ≤ b) : Below B' w w' := ⟨h.os, h.tape, h.output, h.size, fun k hk => h.block k (by omega) (by omega)⟩
theorem But.setCell {B b : Nat} (w : World) (j : Nat) (v : Value) : But B b w (w.setCell ⟨b, j, none⟩ v) := ⟨rfl, rfl, rfl, by simp [World.setCell], fun k _ hn => Below.heap_setCell _ _ _ _ hn⟩
theorem but_own {β : Type} {B b : Nat} {w : World} (h : B ≤ w.heap.size) : OwnFrom w.heap.size (fun (_ : β) W => But B b w W) := by
  intro s X Y row hs hg hr
  refine hs.trans ⟨hg.os, hg.tape, hg.output, hg.size, fun k hk _ => hg.block k (by have := hs.size; omega) fun e => ?_⟩
  have := (hr k e.symm).1
  omega
/-- The loop's own steps keep a block that was there. -/
theorem keepsAt_b {w : World} {Bs : Nat} (h : Bs < w.heap.size) (W : World) (l : Nat) (o o' : Obj) (hl : w.heap.size ≤ l) (_ : W.heap[l]? = some o) (_ : o.isCells = false) (_ : o.isWalk = false) : (W.putObj l o').heap[Bs]? = W.heap[Bs]? :=
  World.putObj_heap_other (by omega)
theorem toIn {n : Nat} {P : Program} {f : FuncId} {args : Array Value} {w : World} {R : Ending → World → Prop} (h : Calls P f args w R) : CallsIn Fence.wide n P f args w R := callsIn_wide.2 h

/-- Behind an append into one box another box holds what it held. -/
theorem boxed_appended_other {W w1 : World} {n₀ B Bs : Nat} {tb e : TypeId} {size : Nat} {v v' sb : Value} {k : Nat} {xs : List Value} {tmp : Obj} (hbs : Boxed W Bs tb sb) (htb : tb ≠ e) (hne : Bs ≠ B) (hrow : W.ownsRow n₀ e size v k xs)
    (hgrow : (W.alloc tmp).grownBy w1 v.ownBlock) : Boxed (w1.setCell ⟨B, 0, none⟩ v') Bs tb sb :=
  (Below.heap_setCell _ _ _ _ hne).trans ((hbs.alloc tmp).kept hgrow (hbs.not_row htb hrow))
theorem boxes_own {β : Type} (A B : Nat) (t u : TypeId) (f : β → Value) (g : β → Value) : Own (fun s W => Boxed W A t (f s) ∧ Boxed W B u (g s)) := by
  rintro s X Y row ⟨h1, h2⟩ hg hrow
  exact ⟨(grownBy_keeps_cells hg hrow h1 rfl).trans h1, (grownBy_keeps_cells hg hrow h2 rfl).trans h2⟩
theorem own_not_cells {W W1 : World} {B n : Nat} {e : TypeId} {v : Value} {xs : List Value} {tmp : Obj} (hown : W.ownsRow B e 1 v n xs) (hgrow : (W.alloc tmp).grownBy W1 v.ownBlock) : KeepsOthers W W1 := by
  refine (KeepsOthers.alloc W tmp).trans (KeepsOthers.of_grownBy hgrow fun j o ej hj => ?_)
  rcases (hown.alloc tmp).2 with ⟨rfl, _⟩ | ⟨g, cap, cur, rfl, _, hgb, _⟩
  · simp [Value.ownBlock] at ej
  · obtain rfl : g = j := by simpa [Value.ownBlock] using ej
    rw [hgb] at hj; cases hj; rfl
/-- Behind an append into a row with room, and the store into its box, another box holds what it held. -/
theorem boxed_kept_both {W W1 : World} {b g U : Nat} {t : TypeId} {v u : Value} {tmp : Obj} (h : Boxed W b t v) (hgrow : (W.alloc tmp).grownBy W1 (some g)) (h1 : b ≠ g) (h2 : b ≠ U) : Boxed (W1.setCell ⟨U, 0, none⟩ u) b t v :=
  (Below.heap_setCell _ _ _ _ h2).trans ((h.alloc tmp).kept hgrow (by simpa using h1))
theorem boxed_below {n₀ b : Nat} {W W' : World} {t : TypeId} {v : Value} (h : Boxed W b t v) (hb : Below n₀ W W') (hlt : b < n₀) : Boxed W' b t v := (hb.block b hlt).trans h
theorem boxed_one_own {β : Type} (A : Nat) (t : TypeId) (v : Value) : Own (fun (_ : β) W => Boxed W A t v) := fun _ _ _ _ h hg hrow => (grownBy_keeps_cells hg hrow h rfl).trans h
end Go.Proofs.YtiagoiannccdmaaDoor
