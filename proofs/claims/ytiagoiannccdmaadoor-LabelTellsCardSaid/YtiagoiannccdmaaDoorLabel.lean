/- The contracts of package label: Norm, Right, Flows, Join. Condition: the formulas' lengths. -/
import Derived.Test.YtiagoiannccdmaaDoorImplies
import Derived.Test.YtiagoiannccdmaaDoorOr
namespace Go.Proofs.YtiagoiannccdmaaDoor
open Go.RowKit Go.Shelf

/-- A block of two cells of one type. -/
def Box2 (W : World) (B : Nat) (t : TypeId) (u v : Value) : Prop := W.heap[B]? = some (.cells #[u, v] t (0, 0))
theorem Box2.lt {W : World} {B : Nat} {t : TypeId} {u v : Value} (h : Box2 W B t u v) : B < W.heap.size := (Array.getElem?_eq_some_iff.1 h).1
theorem Box2.cell0 {W : World} {B : Nat} {t : TypeId} {u v : Value} (h : Box2 W B t u v) : W.cell? ⟨B, 0, none⟩ = some u := by simp [World.cell?, show W.heap[B]? = _ from h]
theorem Box2.cell1 {W : World} {B : Nat} {t : TypeId} {u v : Value} (h : Box2 W B t u v) : W.cell? ⟨B, 1, none⟩ = some v := by simp [World.cell?, show W.heap[B]? = _ from h]
theorem Box2.frozen {W : World} {B : Nat} {t : TypeId} {u v : Value} (h : Box2 W B t u v) (j : Nat) : W.frozen? ⟨B, j, none⟩ = false := by simp [World.frozen?, show W.heap[B]? = _ from h]
theorem Box2.new (W : World) (t : TypeId) (u v : Value) : Box2 (W.alloc (.cells #[u, v] t)) W.heap.size t u v := World.alloc_heap_new W _
theorem Box2.below {n₀ b : Nat} {W W' : World} {t : TypeId} {u v : Value} (h : Box2 W b t u v) (hb : Below n₀ W W') (hlt : b < n₀) : Box2 W' b t u v := (hb.block b hlt).trans h
theorem Box2.alloc {b : Nat} {W : World} {t : TypeId} {u v : Value} (h : Box2 W b t u v) (o : Obj) : Box2 (W.alloc o) b t u v := (Below.heap_alloc W o b h.lt).trans h
theorem box2_set0 {W : World} {b : Nat} {t : TypeId} {u v q : Value} (h : Box2 W b t u v) : Box2 (W.setCell ⟨b, 0, none⟩ q) b t q v := by
  obtain ⟨hlt, hk⟩ := Array.getElem?_eq_some_iff.1 h
  show (W.heap.modify b _)[b]? = _
  rw [Array.getElem?_eq_getElem (by rw [Array.size_modify]; exact hlt), Array.getElem_modify_self, hk]
  rfl
theorem box2_set1 {W : World} {b : Nat} {t : TypeId} {u v q : Value} (h : Box2 W b t u v) : Box2 (W.setCell ⟨b, 1, none⟩ q) b t u q := by
  obtain ⟨hlt, hk⟩ := Array.getElem?_eq_some_iff.1 h
  show (W.heap.modify b _)[b]? = _
  rw [Array.getElem?_eq_getElem (by rw [Array.size_modify]; exact hlt), Array.getElem_modify_self, hk]
  rfl
/-- A label as a value. -/
def lab (s i : ByteArray) : Value := .agg #[.string s, .string i]

set_option maxRecDepth 100000 in
set_option maxHeartbeats 1000000 in
theorem made_any (K : FuncId) (caps : Array Value) (s i : ByteArray) (w : World) (hK : ∀ args W, (callFunc K args).run Tryd.prog W = .ok (.enter K args) W)
    (hS : ∀ W, Below w.heap.size w W → Calls Tryd.prog K (#[.bool true] ++ caps) W fun e w' => e = .returned (.string s) ∧ Below W.heap.size W w')
    (hI : ∀ W, Below w.heap.size w W → Calls Tryd.prog K (#[.bool false] ++ caps) W fun e w' => e = .returned (.string i) ∧ Below W.heap.size W w') :
    Calls Tryd.prog 36 #[.func (.func K) #[] caps] w fun e w' => e = .returned (.agg #[.string s, .string i]) ∧ Below w.heap.size w w' := by
  have HS := Lib.hid hS
  have HI := Lib.hid hI
  clear hS hI
  go_enter Tryd.func36, Tryd.ntmps36
  have bR := Box2.new w 24 (.string ⟨#[]⟩) (.string ⟨#[]⟩)
  have hA : Below w.heap.size w (w.alloc (.cells #[.string ⟨#[]⟩, .string ⟨#[]⟩] 24)) := (Below.refl _ w).alloc (Nat.le_refl _) _
  go_wp2_with fail
  refine (HS.out _ hA).mono ?_
  rintro e w1 ⟨rfl, hb1⟩
  have hB1 := hA.trans (hb1.mono hA.size)
  have bR1 := bR.below hb1 bR.lt
  clear hA hb1 bR
  go_wp2_with fail
  refine (HI.out _ hB1).mono ?_
  rintro e w2 ⟨rfl, hb2⟩
  have hB2 := hB1.trans (hb2.mono hB1.size)
  have bR2 := bR1.below hb2 bR1.lt
  have c0 := bR2.cell0
  have c1 := bR2.cell1
  have f0 := bR2.frozen 0
  have f1 := bR2.frozen 1
  clear hB1 hb2 bR1
  go_wp2
  have bR3 := box2_set1 (q := .string i) (box2_set0 (q := .string s) bR2)
  have d0 := bR3.cell0
  have d1 := bR3.cell1
  refine bodyPost_ret (v := .agg #[.string s, .string i]) ?_ rfl ⟨rfl, (hB2.setCell (p := ⟨w.heap.size, 0, none⟩) (Nat.le_refl _) _).setCell (p := ⟨w.heap.size, 1, none⟩) (Nat.le_refl _) _⟩
  simp [results, Tryd.f36, go_sem, d0, d1]

set_option maxRecDepth 100000 in
set_option maxHeartbeats 1000000 in
theorem half_any (h : Bool) (s i : ByteArray) (w : World) :
    Calls Tryd.prog 39 #[.bool h, .agg #[.string s, .string i]] w fun e w' => e = .returned (.string (if h then s else i)) ∧ Below w.heap.size w w' := by
  cases h
  · go_enter Tryd.func39, Tryd.ntmps39
    go_wp2
    go_ret
    exact ⟨rfl, (Below.refl _ _).alloc (Nat.le_refl _) _⟩
  · go_enter Tryd.func39, Tryd.ntmps39
    go_wp2
    go_ret
    exact ⟨rfl, (Below.refl _ _).alloc (Nat.le_refl _) _⟩

set_option maxRecDepth 100000 in
set_option maxHeartbeats 1000000 in
theorem norm1_any (h : Bool) (b : Nat) (s i : ByteArray) (hs : s.size ≤ 1000000) (hi : i.size ≤ 1000000) (w : World) (hb : Box2 w b 24 (.string s) (.string i)) :
    Calls Tryd.prog 37 #[.bool h, .pointer (some ⟨b, 0, none⟩)] w fun e w' => e = .returned (.string (str (Lz.norm (if h then s else i).data.toList))) ∧ Below w.heap.size w w' := by
  have c0 := hb.cell0
  have c1 := hb.cell1
  cases h
  · go_enter Tryd.func37, Tryd.ntmps37
    go_wp2_with fail
    refine (half_any false s i _).mono ?_
    rintro e w1 ⟨rfl, hb1⟩
    go_wp2_with fail
    refine (norm_any i hi _).mono ?_
    rintro e w2 ⟨rfl, hb2⟩
    go_wp2
    go_ret
    exact ⟨rfl, hb1.trans (hb2.mono hb1.size)⟩
  · go_enter Tryd.func37, Tryd.ntmps37
    go_wp2_with fail
    refine (half_any true s i _).mono ?_
    rintro e w1 ⟨rfl, hb1⟩
    go_wp2_with fail
    refine (norm_any s hs _).mono ?_
    rintro e w2 ⟨rfl, hb2⟩
    go_wp2
    go_ret
    exact ⟨rfl, hb1.trans (hb2.mono hb1.size)⟩

set_option maxRecDepth 100000 in
set_option maxHeartbeats 1000000 in
theorem labelNorm_any (s i : ByteArray) (hs : s.size ≤ 1000000) (hi : i.size ≤ 1000000) (w : World) :
    Calls Tryd.prog 12 #[.agg #[.string s, .string i]] w fun e w' => e = .returned (.agg #[.string (str (Lz.norm s.data.toList)), .string (str (Lz.norm i.data.toList))]) ∧ Below w.heap.size w w' := by
  have bL := (Box2.new w 24 (.string s) (.string i)).alloc (.cells #[.string ⟨#[]⟩, .string ⟨#[]⟩] 24)
  have bR := Box2.new (w.alloc (.cells #[.string s, .string i] 24)) 24 (.string ⟨#[]⟩) (.string ⟨#[]⟩)
  rw [World.size_alloc] at bR
  have hA : Below w.heap.size w ((w.alloc (.cells #[.string s, .string i] 24)).alloc (.cells #[.string ⟨#[]⟩, .string ⟨#[]⟩] 24)) := ((Below.refl _ w).alloc (Nat.le_refl _) _).alloc (by simp) _
  go_enter Tryd.func12, Tryd.ntmps12
  go_wp2_with fail
  refine (made_any 37 #[.pointer (some ⟨w.heap.size, 0, none⟩)] (str (Lz.norm s.data.toList)) (str (Lz.norm i.data.toList)) _ (enters_of Tryd.func37 (by kernel_rfl) rfl) (fun W hb => norm1_any true w.heap.size s i hs hi W (bL.below hb bL.lt)) (fun W hb => norm1_any false w.heap.size s i hs hi W (bL.below hb bL.lt))).mono ?_
  rintro e w1 ⟨rfl, hb1⟩
  have bR1 := bR.below hb1 bR.lt
  have c0 := bR1.cell0
  have c1 := bR1.cell1
  have f0 := bR1.frozen 0
  have f1 := bR1.frozen 1
  have hB1 := hA.trans (hb1.mono hA.size)
  clear hb1 hA bL bR
  go_wp2
  have bR3 := box2_set1 (q := .string (str (Lz.norm i.data.toList))) (box2_set0 (q := .string (str (Lz.norm s.data.toList))) bR1)
  have d0 := bR3.cell0
  have d1 := bR3.cell1
  refine bodyPost_ret (v := .agg #[.string (str (Lz.norm s.data.toList)), .string (str (Lz.norm i.data.toList))]) ?_ rfl ⟨rfl, (hB1.setCell (p := ⟨w.heap.size + 1, 0, none⟩) (Nat.le_succ _) _).setCell (p := ⟨w.heap.size + 1, 1, none⟩) (Nat.le_succ _) _⟩
  simp [results, Tryd.f12, go_sem, d0, d1]

set_option maxRecDepth 100000 in
set_option maxHeartbeats 1000000 in
theorem join1_any (h : Bool) (b c : Nat) (s i s' i' : ByteArray) (hs : s.size ≤ 1000000) (hi : i.size ≤ 1000000) (hs' : s'.size ≤ 1000000) (hi' : i'.size ≤ 1000000) (w : World) (hb : Box2 w b 24 (.string s) (.string i)) (hc : Box2 w c 24 (.string s') (.string i')) :
    Calls Tryd.prog 40 #[.bool h, .pointer (some ⟨b, 0, none⟩), .pointer (some ⟨c, 0, none⟩)] w fun e w' => e = .returned (.string (str (if h then Lz.and s.data.toList s'.data.toList else Lz.or i.data.toList i'.data.toList))) ∧ Below w.heap.size w w' := by
  have c0 := hb.cell0
  have c1 := hb.cell1
  have d0 := hc.cell0
  have d1 := hc.cell1
  cases h
  · go_enter Tryd.func40, Tryd.ntmps40
    go_wp2_with fail
    refine (or_any i i' hi hi' _).mono ?_
    rintro e w1 ⟨rfl, hb1⟩
    go_wp2
    go_ret
    exact ⟨rfl, hb1⟩
  · go_enter Tryd.func40, Tryd.ntmps40
    go_wp2_with fail
    refine (and_any s s' hs hs' _).mono ?_
    rintro e w1 ⟨rfl, hb1⟩
    go_wp2
    go_ret
    exact ⟨rfl, hb1⟩
end Go.Proofs.YtiagoiannccdmaaDoor
