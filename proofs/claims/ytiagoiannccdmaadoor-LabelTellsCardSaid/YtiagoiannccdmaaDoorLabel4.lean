/- The contracts of label.Meet, Low, High; of labels as pairs. Condition: the formulas' lengths. -/
import Derived.Test.YtiagoiannccdmaaDoorPairs
namespace Go.Proofs.YtiagoiannccdmaaDoor
open Go.RowKit Go.Shelf

set_option maxRecDepth 100000 in
set_option maxHeartbeats 1000000 in
theorem meet1_any (h : Bool) (b c : Nat) (s i s' i' : ByteArray) (hs : s.size ≤ 1000000) (hi : i.size ≤ 1000000) (hs' : s'.size ≤ 1000000) (hi' : i'.size ≤ 1000000) (w : World) (hb : Box2 w b 24 (.string s) (.string i)) (hc : Box2 w c 24 (.string s') (.string i')) :
    Calls Tryd.prog 43 #[.bool h, .pointer (some ⟨b, 0, none⟩), .pointer (some ⟨c, 0, none⟩)] w fun e w' => e = .returned (.string (str (if h then Lz.or s.data.toList s'.data.toList else Lz.and i.data.toList i'.data.toList))) ∧ Below w.heap.size w w' := by
  have c0 := hb.cell0
  have c1 := hb.cell1
  have d0 := hc.cell0
  have d1 := hc.cell1
  cases h
  · go_enter Tryd.func43, Tryd.ntmps43
    go_wp2_with fail
    refine (and_any i i' hi hi' _).mono ?_
    rintro e w1 ⟨rfl, hb1⟩
    go_wp2
    go_ret
    exact ⟨rfl, hb1⟩
  · go_enter Tryd.func43, Tryd.ntmps43
    go_wp2_with fail
    refine (or_any s s' hs hs' _).mono ?_
    rintro e w1 ⟨rfl, hb1⟩
    go_wp2
    go_ret
    exact ⟨rfl, hb1⟩
set_option maxRecDepth 100000 in
set_option maxHeartbeats 1000000 in
theorem meet_any (s i s' i' : ByteArray) (hs : s.size ≤ 1000000) (hi : i.size ≤ 1000000) (hs' : s'.size ≤ 1000000) (hi' : i'.size ≤ 1000000) (w : World) :
    Calls Tryd.prog 17 #[.agg #[.string s, .string i], .agg #[.string s', .string i']] w fun e w' => e = .returned (.agg #[.string (str (Lz.or s.data.toList s'.data.toList)), .string (str (Lz.and i.data.toList i'.data.toList))]) ∧ Below w.heap.size w w' := by
  have bL := ((Box2.new w 24 (.string s) (.string i)).alloc (.cells #[.string s', .string i'] 24)).alloc (.cells #[.string ⟨#[]⟩, .string ⟨#[]⟩] 24)
  have bM := (Box2.new (w.alloc (.cells #[.string s, .string i] 24)) 24 (.string s') (.string i')).alloc (.cells #[.string ⟨#[]⟩, .string ⟨#[]⟩] 24)
  have bR := Box2.new ((w.alloc (.cells #[.string s, .string i] 24)).alloc (.cells #[.string s', .string i'] 24)) 24 (.string ⟨#[]⟩) (.string ⟨#[]⟩)
  simp only [World.size_alloc] at bM bR
  have hA : Below w.heap.size w (((w.alloc (.cells #[.string s, .string i] 24)).alloc (.cells #[.string s', .string i'] 24)).alloc (.cells #[.string ⟨#[]⟩, .string ⟨#[]⟩] 24)) := (((Below.refl _ w).alloc (Nat.le_refl _) _).alloc (by simp) _).alloc (by simp; omega) _
  go_enter Tryd.func17, Tryd.ntmps17
  go_wp2_with fail
  refine (made_any 43 #[.pointer (some ⟨w.heap.size, 0, none⟩), .pointer (some ⟨w.heap.size + 1, 0, none⟩)] (str (Lz.or s.data.toList s'.data.toList)) (str (Lz.and i.data.toList i'.data.toList)) _ (enters_of Tryd.func43 (by kernel_rfl) rfl) (fun W hb => meet1_any true _ _ s i s' i' hs hi hs' hi' W (bL.below hb bL.lt) (bM.below hb bM.lt)) (fun W hb => meet1_any false _ _ s i s' i' hs hi hs' hi' W (bL.below hb bL.lt) (bM.below hb bM.lt))).mono ?_
  rintro e w1 ⟨rfl, hb1⟩
  have bR1 := bR.below hb1 bR.lt
  have c0 := bR1.cell0
  have c1 := bR1.cell1
  have f0 := bR1.frozen 0
  have f1 := bR1.frozen 1
  have hB1 := hA.trans (hb1.mono hA.size)
  clear hb1 hA bL bM bR
  go_wp2
  have bR3 := box2_set1 (q := .string (str (Lz.and i.data.toList i'.data.toList))) (box2_set0 (q := .string (str (Lz.or s.data.toList s'.data.toList))) bR1)
  have d0 := bR3.cell0
  have d1 := bR3.cell1
  refine bodyPost_ret (v := .agg #[.string (str (Lz.or s.data.toList s'.data.toList)), .string (str (Lz.and i.data.toList i'.data.toList))]) ?_ rfl ⟨rfl, (hB1.setCell (p := ⟨w.heap.size + 1 + 1, 0, none⟩) (show w.heap.size ≤ w.heap.size + 1 + 1 by omega) _).setCell (p := ⟨w.heap.size + 1 + 1, 1, none⟩) (show w.heap.size ≤ w.heap.size + 1 + 1 by omega) _⟩
  simp [results, Tryd.f17, go_sem, d0, d1]

theorem meet_p (a b : Lz.Lab) (ha : okL a) (hb : okL b) (w : World) : Calls Tryd.prog 17 #[pv a, pv b] w fun e w' => e = .returned (pv (Lz.mt a b)) ∧ Below w.heap.size w w' := by
  exact meet_any (str a.1) (str a.2) (str b.1) (str b.2) ha.l ha.r hb.l hb.r w
theorem right_p (a : Lz.Lab) (r : Bool) (ha : okL a) (h : (Lz.nrm a == a) = r) (w : World) : Calls Tryd.prog 15 #[pv a] w fun e w' => e = .returned (.bool r) ∧ Below w.heap.size w w' := by
  have h1 := labelRight_any (str a.1) (str a.2) ha.l ha.r w
  rw [lst_str, lst_str] at h1
  have e : (Lz.norm a.1 == a.1 && Lz.norm a.2 == a.2) = r := by
    rw [← h]
    obtain ⟨x, y⟩ := a
    rfl
  rw [e] at h1
  exact h1
end Go.Proofs.YtiagoiannccdmaaDoor
