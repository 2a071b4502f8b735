/- The contracts of guard.above, cleared, first. Condition: the formulas' lengths. -/
import Derived.Test.YtnnnnlnnohdidaaPairs
import Derived.Laws.EntriesVeiled
namespace Go.Proofs.Ytnnnnlnnohdidaa
open Go.RowKit Go.Shelf

/-- A block of four cells of one type. -/
def Box4 (W : World) (B : Nat) (t : TypeId) (a b c d : Value) : Prop := W.heap[B]? = some (.cells #[a, b, c, d] t (0, 0))
theorem Box4.lt {W : World} {B : Nat} {t : TypeId} {a b c d : Value} (h : Box4 W B t a b c d) : B < W.heap.size := (Array.getElem?_eq_some_iff.1 h).1
theorem Box4.cell0 {W : World} {B : Nat} {t : TypeId} {a b c d : Value} (h : Box4 W B t a b c d) : W.cell? ⟨B, 0, none⟩ = some a := by simp [World.cell?, show W.heap[B]? = _ from h]
theorem Box4.cell1 {W : World} {B : Nat} {t : TypeId} {a b c d : Value} (h : Box4 W B t a b c d) : W.cell? ⟨B, 1, none⟩ = some b := by simp [World.cell?, show W.heap[B]? = _ from h]
theorem Box4.cell2 {W : World} {B : Nat} {t : TypeId} {a b c d : Value} (h : Box4 W B t a b c d) : W.cell? ⟨B, 2, none⟩ = some c := by simp [World.cell?, show W.heap[B]? = _ from h]
theorem Box4.cell3 {W : World} {B : Nat} {t : TypeId} {a b c d : Value} (h : Box4 W B t a b c d) : W.cell? ⟨B, 3, none⟩ = some d := by simp [World.cell?, show W.heap[B]? = _ from h]
theorem Box4.frozen {W : World} {B : Nat} {t : TypeId} {a b c d : Value} (h : Box4 W B t a b c d) (j : Nat) : W.frozen? ⟨B, j, none⟩ = false := by simp [World.frozen?, show W.heap[B]? = _ from h]
theorem Box4.new (W : World) (t : TypeId) (a b c d : Value) : Box4 (W.alloc (.cells #[a, b, c, d] t)) W.heap.size t a b c d := World.alloc_heap_new W _
theorem Box4.below {n₀ k : Nat} {W W' : World} {t : TypeId} {a b c d : Value} (h : Box4 W k t a b c d) (hb : Below n₀ W W') (hlt : k < n₀) : Box4 W' k t a b c d := (hb.block k hlt).trans h
theorem Box4.alloc {k : Nat} {W : World} {t : TypeId} {a b c d : Value} (h : Box4 W k t a b c d) (o : Obj) : Box4 (W.alloc o) k t a b c d := (Below.heap_alloc W o k h.lt).trans h
theorem box4_set {W : World} {k : Nat} {t : TypeId} {a b c d a' b' c' d' : Value} (h : Box4 W k t a b c d) :
    Box4 ((((W.setCell ⟨k, 0, none⟩ a').setCell ⟨k, 1, none⟩ b').setCell ⟨k, 2, none⟩ c').setCell ⟨k, 3, none⟩ d') k t a' b' c' d' := by
  have one : ∀ (V : World) (cs : Array Value) (j : Nat) (q : Value), V.heap[k]? = some (.cells cs t (0, 0)) → (V.setCell ⟨k, j, none⟩ q).heap[k]? = some (.cells (cs.setIfInBounds j q) t (0, 0)) := by
    intro V cs j q hv
    obtain ⟨hlt, hk⟩ := Array.getElem?_eq_some_iff.1 hv
    show (V.heap.modify k _)[k]? = _
    rw [Array.getElem?_eq_getElem (by rw [Array.size_modify]; exact hlt), Array.getElem_modify_self, hk]
    rfl
  have h0 := one W _ 0 a' h
  have h1 := one _ _ 1 b' h0
  have h2 := one _ _ 2 c' h1
  have h3 := one _ _ 3 d' h2
  exact h3
abbrev sv (s : Lz.St) : Value := .agg #[.string (str s.cur.1), .string (str s.cur.2), .string (str s.clr.1), .string (str s.clr.2)]
abbrev BoxS (W : World) (B : Nat) (s : Lz.St) : Prop := Box4 W B 26 (.string (str s.cur.1)) (.string (str s.cur.2)) (.string (str s.clr.1)) (.string (str s.clr.2))
set_option maxRecDepth 100000 in
set_option maxHeartbeats 1000000 in
theorem above1_any (b c : Nat) (s : Lz.St) (l : Lz.Lab) (hs : okL s.cur) (hl : okL l) (w : World) (hb : BoxS w b s) (hc : BoxL w c l) :
    Calls Try.prog 44 #[.pointer (some ⟨b, 0, none⟩), .pointer (some ⟨c, 0, none⟩)] w fun e w' => e = .returned (.bool (Lz.fl s.cur l)) ∧ Below w.heap.size w w' := by
  have c0 := hb.cell0
  have c1 := hb.cell1
  have d0 := hc.cell0
  have d1 := hc.cell1
  go_enter Try.func44, Try.ntmps44
  go_wp2_with fail
  refine (flows_p s.cur l hs hl _).mono ?_
  rintro e w1 ⟨rfl, hb1⟩
  go_wp2
  go_ret
  exact ⟨rfl, hb1⟩
set_option maxRecDepth 100000 in
set_option maxHeartbeats 1000000 in
theorem cleared1_any (b c : Nat) (s : Lz.St) (l : Lz.Lab) (hs : okL s.clr) (hl : okL l) (w : World) (hb : BoxS w b s) (hc : BoxL w c l) :
    Calls Try.prog 43 #[.pointer (some ⟨c, 0, none⟩), .pointer (some ⟨b, 0, none⟩)] w fun e w' => e = .returned (.bool (Lz.fl l s.clr)) ∧ Below w.heap.size w w' := by
  have c0 := hb.cell2
  have c1 := hb.cell3
  have d0 := hc.cell0
  have d1 := hc.cell1
  go_enter Try.func43, Try.ntmps43
  go_wp2_with fail
  refine (flows_p l s.clr hl hs _).mono ?_
  rintro e w1 ⟨rfl, hb1⟩
  go_wp2
  go_ret
  exact ⟨rfl, hb1⟩
/-- What a closure asks comes to c, in every world that grew from w. -/
def Must (w : World) (c : Bool) (v : Value) : Prop :=
  ∃ K caps, v = .func (.func K) #[] caps ∧ (∀ args W, (callFunc K args).run Try.prog W = .ok (.enter K args) W) ∧ ∀ W, Below w.heap.size w W → Calls Try.prog K caps W fun e w' => e = .returned (.bool c) ∧ Below W.heap.size W w'
theorem Must.below {w W : World} {c : Bool} {v : Value} (h : Must w c v) (hb : Below w.heap.size w W) : Must W c v := by
  obtain ⟨K, caps, h1, h2, h3⟩ := h
  exact ⟨K, caps, h1, h2, fun V hV => h3 V (hb.trans (hV.mono hb.size))⟩
set_option maxRecDepth 100000 in
set_option maxHeartbeats 1000000 in
theorem above_any (s : Lz.St) (l : Lz.Lab) (hs : okL s.cur) (hl : okL l) (w : World) :
    Calls Try.prog 30 #[sv s, pv l] w fun e w' => ∃ v, e = .returned (.agg #[v, .int .i64 (-3)]) ∧ Must w' (Lz.fl s.cur l) v ∧ Below w.heap.size w w' := by
  have bS : BoxS ((w.alloc (.cells #[.string (str s.cur.1), .string (str s.cur.2), .string (str s.clr.1), .string (str s.clr.2)] 26)).alloc (.cells #[.string (str l.1), .string (str l.2)] 24)) w.heap.size s := (Box4.new w _ _ _ _ _).alloc _
  have bL : BoxL ((w.alloc (.cells #[.string (str s.cur.1), .string (str s.cur.2), .string (str s.clr.1), .string (str s.clr.2)] 26)).alloc (.cells #[.string (str l.1), .string (str l.2)] 24)) (w.heap.size + 1) l := by
    have := Box2.new (w.alloc (.cells #[.string (str s.cur.1), .string (str s.cur.2), .string (str s.clr.1), .string (str s.clr.2)] 26)) 24 (.string (str l.1)) (.string (str l.2))
    rw [World.size_alloc] at this
    exact this
  have bR := Box2.new ((w.alloc (.cells #[.string (str s.cur.1), .string (str s.cur.2), .string (str s.clr.1), .string (str s.clr.2)] 26)).alloc (.cells #[.string (str l.1), .string (str l.2)] 24)) 49 .nilFunc (.int .i64 0)
  have hA : Below w.heap.size w ((w.alloc (.cells #[.string (str s.cur.1), .string (str s.cur.2), .string (str s.clr.1), .string (str s.clr.2)] 26)).alloc (.cells #[.string (str l.1), .string (str l.2)] 24)) := ((Below.refl _ w).alloc (Nat.le_refl _) _).alloc (by simp) _
  have bN := Box2.new ((w.alloc (.cells #[.string (str s.cur.1), .string (str s.cur.2), .string (str s.clr.1), .string (str s.clr.2)] 26)).alloc (.cells #[.string (str l.1), .string (str l.2)] 24)) 49 (.func (.func 44) #[] #[.pointer (some ⟨w.heap.size, 0, none⟩), .pointer (some ⟨w.heap.size + 1, 0, none⟩)]) (.int .i64 (-3))
  simp only [World.size_alloc] at bR bN
  have c0 := bR.cell0
  have c1 := bR.cell1
  have f0 := bR.frozen 0
  have f1 := bR.frozen 1
  go_enter Try.func30, Try.ntmps30
  go_wp2
  have d0 := bN.cell0
  have d1 := bN.cell1
  refine bodyPost_ret (v := .agg #[.func (.func 44) #[] #[.pointer (some ⟨w.heap.size, 0, none⟩), .pointer (some ⟨w.heap.size + 1, 0, none⟩)], .int .i64 (-3)]) ?_ rfl ⟨_, rfl, ⟨44, _, rfl, enters_of Try.func44 (by kernel_rfl) rfl, fun W hW => ?_⟩, hA.alloc hA.size _⟩
  · simp [results, Try.f30, go_sem, d0, d1]
  · exact above1_any _ _ s l hs hl W (Box4.below (bS.alloc _) hW (bS.alloc _).lt) (Box2.below (bL.alloc _) hW (bL.alloc _).lt)
set_option maxRecDepth 100000 in
set_option maxHeartbeats 1000000 in
theorem cleared_any (s : Lz.St) (l : Lz.Lab) (hs : okL s.clr) (hl : okL l) (w : World) :
    Calls Try.prog 29 #[sv s, pv l] w fun e w' => ∃ v, e = .returned (.agg #[v, .int .i64 (-4)]) ∧ Must w' (Lz.fl l s.clr) v ∧ Below w.heap.size w w' := by
  have bS : BoxS ((w.alloc (.cells #[.string (str s.cur.1), .string (str s.cur.2), .string (str s.clr.1), .string (str s.clr.2)] 26)).alloc (.cells #[.string (str l.1), .string (str l.2)] 24)) w.heap.size s := (Box4.new w _ _ _ _ _).alloc _
  have bL : BoxL ((w.alloc (.cells #[.string (str s.cur.1), .string (str s.cur.2), .string (str s.clr.1), .string (str s.clr.2)] 26)).alloc (.cells #[.string (str l.1), .string (str l.2)] 24)) (w.heap.size + 1) l := by
    have := Box2.new (w.alloc (.cells #[.string (str s.cur.1), .string (str s.cur.2), .string (str s.clr.1), .string (str s.clr.2)] 26)) 24 (.string (str l.1)) (.string (str l.2))
    rw [World.size_alloc] at this
    exact this
  have bR := Box2.new ((w.alloc (.cells #[.string (str s.cur.1), .string (str s.cur.2), .string (str s.clr.1), .string (str s.clr.2)] 26)).alloc (.cells #[.string (str l.1), .string (str l.2)] 24)) 49 .nilFunc (.int .i64 0)
  have hA : Below w.heap.size w ((w.alloc (.cells #[.string (str s.cur.1), .string (str s.cur.2), .string (str s.clr.1), .string (str s.clr.2)] 26)).alloc (.cells #[.string (str l.1), .string (str l.2)] 24)) := ((Below.refl _ w).alloc (Nat.le_refl _) _).alloc (by simp) _
  have bN := Box2.new ((w.alloc (.cells #[.string (str s.cur.1), .string (str s.cur.2), .string (str s.clr.1), .string (str s.clr.2)] 26)).alloc (.cells #[.string (str l.1), .string (str l.2)] 24)) 49 (.func (.func 43) #[] #[.pointer (some ⟨w.heap.size + 1, 0, none⟩), .pointer (some ⟨w.heap.size, 0, none⟩)]) (.int .i64 (-4))
  simp only [World.size_alloc] at bR bN
  have c0 := bR.cell0
  have c1 := bR.cell1
  have f0 := bR.frozen 0
  have f1 := bR.frozen 1
  go_enter Try.func29, Try.ntmps29
  go_wp2
  have d0 := bN.cell0
  have d1 := bN.cell1
  refine bodyPost_ret (v := .agg #[.func (.func 43) #[] #[.pointer (some ⟨w.heap.size + 1, 0, none⟩), .pointer (some ⟨w.heap.size, 0, none⟩)], .int .i64 (-4)]) ?_ rfl ⟨_, rfl, ⟨43, _, rfl, enters_of Try.func43 (by kernel_rfl) rfl, fun W hW => ?_⟩, hA.alloc hA.size _⟩
  · simp [results, Try.f29, go_sem, d0, d1]
  · exact cleared1_any _ _ s l hs hl W (Box4.below (bS.alloc _) hW (bS.alloc _).lt) (Box2.below (bL.alloc _) hW (bL.alloc _).lt)
end Go.Proofs.Ytnnnnlnnohdidaa
