/- A range over an iterator that keeps its state in a variable of its own that it has captured (a box that it stores into between two rounds): the contract SeqW and the statement's law. No program in sight. Condition: the caller's invariant abides stores into that box; a body goes on or returns. -/
import Derived.Test.YtiagoiannccdmaaDoorBut
namespace Go.Proofs.YtiagoiannccdmaaDoor
open Go.RowKit Go.Shelf

/-- An iterator that stores into block Bs, its own box, between two rounds: the caller's J must abide that. -/
def SeqW {α : Type} (F : Fence) (n : Nat) (P : Program) (g : Nat) (lb : Array Value) (encs : α → Array Value) (Bs : Nat) (Kp : World → World → Prop) (S Sp : List α → Prop) (N : Nat) (w : World) : Prop :=
  ∀ (l : Nat) (J Jx : List α → World → Prop) (W : World), Below w.heap.size w W → AbidesFrom W.heap.size J → (∀ pre X v, J pre X → J pre (X.setCell ⟨Bs, 0, none⟩ v)) →
    (∀ pre x W1, J pre W1 → pre.length < N → YieldAt F (n - 1) P l (encs x) W1 fun e W' =>
      (e = .returned (.bool true) ∧ J (pre ++ [x]) W' ∧ Kp W1 W') ∨ (e = .returned (.bool false) ∧ Jx (pre ++ [x]) W')) →
    J [] W →
    CallsIn F n P g (#[.func (.yield l) #[] #[]] ++ lb) W fun e W' => (∃ v, e = .returned v) ∧ ((∃ xs, S xs ∧ J xs W') ∨ (∃ pre, Sp pre ∧ Jx pre W'))

theorem not_cells_row {A : World} {B : Nat} {row : Option Nat} (hr : ∀ r, row = some r → B ≤ r ∧ ∃ o : Obj, A.heap[r]? = some o ∧ o.isWalk = true) {C : Nat} (hC : C ≤ B) :
    ∀ r, row = some r → C ≤ r ∧ ∃ o : Obj, A.heap[r]? = some o ∧ o.isCells = false := fun r e => by
  obtain ⟨h, o, ho, hw⟩ := hr r e
  exact ⟨Nat.le_trans hC h, o, ho, Obj.not_cells_of_walk hw⟩

theorem rangeW {F : Fence} {n : Nat} {P : Program} {α : Type} {g : Operand} {ps : Array Tmp} {assign body : Code} {Q : Exit → Act → World → Prop} {a : Act} {w : World}
    (hro : F.round = none) (h1 : 1 ≤ n) {gf : Nat} {lb : Array Value} (hg : a.eval g = .func (.func gf) #[] lb) (hFg : F.fn gf) (eg : ∀ args w, (callFunc gf args).run P w = .ok (.enter gf args) w)
    {encs : α → Array Value} {Bs : Nat} {Kp : World → World → Prop} {S Sp : List α → Prop} {N : Nat} (hseq : SeqW F (n - 1) P gf lb encs Bs Kp S Sp N w) (hBs : Bs < w.heap.size)
    (hKt : ∀ {A B C : World}, Kp A B → Kp B C → Kp A C) (hKb : ∀ (W : World) (l : Nat) (o o' : Obj), w.heap.size ≤ l → W.heap[l]? = some o → o.isCells = false → o.isWalk = false → Kp W (W.putObj l o')) (hps : ∀ x, (encs x).size = ps.size)
    (I Ix : List α → World → Prop) (hI : OwnFrom w.heap.size I) (hIx : OwnFrom w.heap.size Ix) (hIs : ∀ pre X v, I pre X → I pre (X.setCell ⟨Bs, 0, none⟩ v)) (h0 : I [] w) (a₁ : α → Act)
    (hassign : ∀ (l : Nat) (x : α) (W : World) (K : Act → World → Prop), K (a₁ x) W →
      assign.wpIn (F.inRound l) (n - 1 - 1) P (Exit.then K (fun _ _ _ => False)) { tmps := (ps.zip (encs x)).foldl (fun t (p, v) => t.setIfInBounds p v) a.tmps, defers := [] } W)
    (hbody : ∀ (l : Nat) (pre : List α) (x : α) (W : World), I pre W → pre.length < N → body.wpIn (F.inRound l) (n - 1 - 1) P (ownPostG w.heap.size Kp I (fun c pre W => c = .ret ∧ Ix pre W) (pre ++ [x]) W) (a₁ x) W)
    (hdone : ∀ (D : Nat) (xs : List α) (W : World), w.heap.size ≤ D → S xs → I xs W → W.heap[D]? = some (.deferred (some [])) → Q .normal { a with defers := { target := .collected D, args := #[] } :: a.defers } W)
    (hstop : ∀ (D : Nat) (pre : List α) (W : World), w.heap.size ≤ D → Sp pre → Ix pre W → W.heap[D]? = some (.deferred (some [])) → Code.ret.wpIn F n P Q { a with defers := { target := .collected D, args := #[] } :: a.defers } W) :
    (Code.rangeFunc g ps assign body).wpIn F n P Q a w := by
  refine wpIn_rangeFunc fun fn hfn => ?_
  rw [hro]
  obtain ⟨r, hr⟩ : ∃ r : LoopState → Option Code → Loop, r = fun st pe => { state := st, pending := pe, fn, tmps := a.tmps, params := ps, assign, body, defers := w.heap.size } := ⟨_, rfl⟩
  obtain ⟨V, hV⟩ : ∃ V, (w.alloc (.deferred (some []))).alloc (.loop (r .ready none)) = V := ⟨_, rfl⟩
  have hVs : V.heap.size = w.heap.size + 2 := by rw [← hV]; simp
  have hVl : V.heap[w.heap.size + 1]? = some (.loop (r .ready none)) := by
    have := World.alloc_heap_new (w.alloc (.deferred (some []))) (.loop (r .ready none))
    rw [World.size_alloc] at this
    rw [← hV]; exact this
  have hVd : V.heap[w.heap.size]? = some (.deferred (some [])) := by
    rw [← hV]; exact (Below.heap_alloc _ _ _ (by simp)).trans (World.alloc_heap_new w _)
  have hVi : I [] V := by rw [← hV]; exact hI.alloc _ (hI.alloc _ h0)
  have hVb : Below w.heap.size w V := by rw [← hV]; exact ((Below.refl _ w).alloc (Nat.le_refl _) _).alloc (by simp) _
  refine ⟨w.heap.size + 1, [{ target := .collected w.heap.size, args := #[] }], V, { target := .fn (.func gf) lb, args := #[.func (.yield (w.heap.size + 1)) #[] #[]] }, V, gf,
    #[.func (.yield (w.heap.size + 1)) #[] #[]] ++ lb, V, ?_, ?_, ?_, ?_, fun _ => h1, ?_⟩
  · rw [← hV, hr]; exact run_enterLoop_outer _ _ _ _ _
  · simp only [resolve, hg]
    simp [go_sem]
  · intro f' hf'; simp [Target.leads] at hf'; subst hf'; exact hFg
  · simp [invoke, go_sem, eg]
  have stay : ∀ (X : World) (v : Value) (k : Nat) (o : Obj), k ≠ Bs → X.heap[k]? = some o → (X.setCell ⟨Bs, 0, none⟩ v).heap[k]? = some o := fun X v k o hk h => (Below.heap_setCell _ _ _ _ hk).trans h
  refine (hseq (w.heap.size + 1)
    (fun pre X => I pre X ∧ X.heap[w.heap.size + 1]? = some (.loop (r .ready none)) ∧ X.heap[w.heap.size]? = some (.deferred (some [])))
    (fun pre X => Ix pre X ∧ X.heap[w.heap.size + 1]? = some (.loop (r .done (some .ret))) ∧ X.heap[w.heap.size]? = some (.deferred (some [])))
    V hVb
    (fun s A B row hs hgr hrow => ⟨hI s A B row hs.1 hgr (not_cells_row hrow (by omega)), (grownBy_keeps hgr (fun k e => (hrow k e).2) hs.2.1 rfl).trans hs.2.1, (grownBy_keeps hgr (fun k e => (hrow k e).2) hs.2.2 rfl).trans hs.2.2⟩)
    (fun pre X v hs => ⟨hIs pre X v hs.1, stay X v _ _ (by omega) hs.2.1, stay X v _ _ (by omega) hs.2.2⟩)
    ?_ ⟨hVi, hVl, hVd⟩).mono ?_
  · rintro pre x X ⟨hi, hl, hd⟩ hlen
    have hlt : w.heap.size + 1 < X.heap.size := (Array.getElem?_eq_some_iff.1 hl).1
    have hy := run_yield (P := P) (args := encs x) hl (by rw [hr]; exact hps x)
    rw [hr] at hy
    refine ⟨fn, _, assign, body, hy, roundIn_of_wpIn hfn (hassign _ x X _ ⟨_, run_beginRound hl (by rw [hr]), ?_⟩)⟩
    obtain ⟨Y, hY⟩ : ∃ Y, X.putObj (w.heap.size + 1) (.loop { r .ready none with state := .busy }) = Y := ⟨_, rfl⟩
    have hYl : Y.heap[w.heap.size + 1]? = some (.loop { r .ready none with state := .busy }) := by rw [← hY]; exact World.putObj_heap_same hlt
    have hYd : Y.heap[w.heap.size]? = some (.deferred (some [])) := by rw [← hY]; exact (World.putObj_heap_other (by omega)).trans hd
    have hYk : Kp X Y := by rw [← hY]; exact hKb _ _ _ _ (by omega) hl rfl rfl
    have hYi : I pre Y := by rw [← hY]; exact hI.putObj _ hi (by omega) hl rfl
    rw [hY]
    refine wpIn_mono (hbody _ pre x _ hYi hlen) ?_
    have fin : ∀ (jump : Option Code) (Z : World), KeepsFrom w.heap.size Y Z →
        (Instr.endRound (w.heap.size + 1) jump).run P Z = .ok (.bool jump.isNone) (Z.putObj (w.heap.size + 1) (.loop (r (if jump.isNone then .ready else .done) jump))) ∧
        Z.heap[w.heap.size + 1]? = some (.loop { r .ready none with state := .busy }) ∧
        (Z.putObj (w.heap.size + 1) (.loop (r (if jump.isNone then .ready else .done) jump))).heap[w.heap.size + 1]? = some (.loop (r (if jump.isNone then .ready else .done) jump)) ∧
        (Z.putObj (w.heap.size + 1) (.loop (r (if jump.isNone then .ready else .done) jump))).heap[w.heap.size]? = some (.deferred (some [])) := fun jump Z hk => by
      have hl3 := hk.same _ _ (by omega) hYl rfl
      have := run_endRound (P := P) jump hl3
      rw [hr] at this ⊢
      exact ⟨this, by rw [hr] at hl3; exact hl3, World.putObj_heap_same (Array.getElem?_eq_some_iff.1 hl3).1, (World.putObj_heap_other (by omega)).trans (hk.same _ _ (Nat.le_refl _) hYd rfl)⟩
    rintro e a3 Z hp
    cases e with
    | normal =>
      obtain ⟨hk, hkp, hi3⟩ := hp
      obtain ⟨he, hl3, hl4, hd4⟩ := fin none Z hk
      exact ⟨_, _, he, .inl ⟨rfl, ⟨hI.putObj _ hi3 (by omega) hl3 rfl, hl4, hd4⟩, hKt (hKt hYk hkp) (hKb _ _ _ _ (by omega) hl3 rfl rfl)⟩⟩
    | ret =>
      obtain ⟨hk, _, hi3⟩ := hp
      obtain ⟨he, hl3, hl4, hd4⟩ := fin (some .ret) Z hk
      exact ⟨_, _, he, .inr ⟨rfl, hIx.putObj _ hi3 (by omega) hl3 rfl, hl4, hd4⟩⟩
    | exit id => obtain ⟨_, h, _⟩ := hp; cases h
    | goto t => obtain ⟨_, h, _⟩ := hp; cases h
    | panic ch => exact hp.elim
    | outgrown => exact hp.elim
  · rintro e Z ⟨⟨v, rfl⟩, (⟨xs, hS, hi, hl, hd⟩ | ⟨pre, hSp, hi, hl, hd⟩)⟩
    · exact ⟨none, _, by have := run_endLoop (P := P) hl (by rw [hr]; simp); rw [hr] at this; exact this, hdone _ xs _ (Nat.le_refl _) hS (hI.putObj _ hi (by omega) hl rfl) ((World.putObj_heap_other (by omega)).trans hd)⟩
    · exact ⟨some .ret, _, by have := run_endLoop (P := P) hl (by rw [hr]; simp); rw [hr] at this; exact this, hstop _ pre _ (Nat.le_refl _) hSp (hIx.putObj _ hi (by omega) hl rfl) ((World.putObj_heap_other (by omega)).trans hd)⟩
end Go.Proofs.YtiagoiannccdmaaDoor
