/- The contracts of label.Join, Flows, Right. Condition: the formulas' lengths. -/
import Derived.Test.YtiagoiannccdmaaDoorLabel
namespace Go.Proofs.YtiagoiannccdmaaDoor
open Go.RowKit Go.Shelf

set_option maxRecDepth 100000 in
set_option maxHeartbeats 1000000 in
theorem join_any (s i s' i' : ByteArray) (hs : s.size ≤ 1000000) (hi : i.size ≤ 1000000) (hs' : s'.size ≤ 1000000) (hi' : i'.size ≤ 1000000) (w : World) :
    Calls Tryd.prog 16 #[.agg #[.string s, .string i], .agg #[.string s', .string i']] w fun e w' => e = .returned (.agg #[.string (str (Lz.and s.data.toList s'.data.toList)), .string (str (Lz.or i.data.toList i'.data.toList))]) ∧ Below w.heap.size w w' := by
  have bL := ((Box2.new w 24 (.string s) (.string i)).alloc (.cells #[.string s', .string i'] 24)).alloc (.cells #[.string ⟨#[]⟩, .string ⟨#[]⟩] 24)
  have bM := (Box2.new (w.alloc (.cells #[.string s, .string i] 24)) 24 (.string s') (.string i')).alloc (.cells #[.string ⟨#[]⟩, .string ⟨#[]⟩] 24)
  have bR := Box2.new ((w.alloc (.cells #[.string s, .string i] 24)).alloc (.cells #[.string s', .string i'] 24)) 24 (.string ⟨#[]⟩) (.string ⟨#[]⟩)
  simp only [World.size_alloc] at bM bR
  have hA : Below w.heap.size w (((w.alloc (.cells #[.string s, .string i] 24)).alloc (.cells #[.string s', .string i'] 24)).alloc (.cells #[.string ⟨#[]⟩, .string ⟨#[]⟩] 24)) := (((Below.refl _ w).alloc (Nat.le_refl _) _).alloc (by simp) _).alloc (by simp; omega) _
  go_enter Tryd.func16, Tryd.ntmps16
  go_wp2_with fail
  refine (made_any 40 #[.pointer (some ⟨w.heap.size, 0, none⟩), .pointer (some ⟨w.heap.size + 1, 0, none⟩)] (str (Lz.and s.data.toList s'.data.toList)) (str (Lz.or i.data.toList i'.data.toList)) _ (enters_of Tryd.func40 (by kernel_rfl) rfl) (fun W hb => join1_any true _ _ s i s' i' hs hi hs' hi' W (bL.below hb bL.lt) (bM.below hb bM.lt)) (fun W hb => join1_any false _ _ s i s' i' hs hi hs' hi' W (bL.below hb bL.lt) (bM.below hb bM.lt))).mono ?_
  rintro e w1 ⟨rfl, hb1⟩
  have bR1 := bR.below hb1 bR.lt
  have c0 := bR1.cell0
  have c1 := bR1.cell1
  have f0 := bR1.frozen 0
  have f1 := bR1.frozen 1
  have hB1 := hA.trans (hb1.mono hA.size)
  clear hb1 hA bL bM bR
  go_wp2
  have bR3 := box2_set1 (q := .string (str (Lz.or i.data.toList i'.data.toList))) (box2_set0 (q := .string (str (Lz.and s.data.toList s'.data.toList))) bR1)
  have d0 := bR3.cell0
  have d1 := bR3.cell1
  refine bodyPost_ret (v := .agg #[.string (str (Lz.and s.data.toList s'.data.toList)), .string (str (Lz.or i.data.toList i'.data.toList))]) ?_ rfl ⟨rfl, (hB1.setCell (p := ⟨w.heap.size + 1 + 1, 0, none⟩) (show w.heap.size ≤ w.heap.size + 1 + 1 by omega) _).setCell (p := ⟨w.heap.size + 1 + 1, 1, none⟩) (show w.heap.size ≤ w.heap.size + 1 + 1 by omega) _⟩
  simp [results, Tryd.f16, go_sem, d0, d1]

/-- Does a label flow to another one? -/
def flowsL (s i s' i' : List UInt8) : Bool := Lz.implies s' s && Lz.implies i i'
set_option maxRecDepth 100000 in
set_option maxHeartbeats 1000000 in
theorem flows_any (s i s' i' : ByteArray) (hs : s.size ≤ 1000000) (hi : i.size ≤ 1000000) (hs' : s'.size ≤ 1000000) (hi' : i'.size ≤ 1000000) (w : World) :
    Calls Tryd.prog 11 #[.agg #[.string s, .string i], .agg #[.string s', .string i']] w fun e w' => e = .returned (.bool (flowsL s.data.toList i.data.toList s'.data.toList i'.data.toList)) ∧ Below w.heap.size w w' := by
  have bL := (Box2.new w 24 (.string s) (.string i)).alloc (.cells #[.string s', .string i'] 24)
  have bM := Box2.new (w.alloc (.cells #[.string s, .string i] 24)) 24 (.string s') (.string i')
  rw [World.size_alloc] at bM
  have hA : Below w.heap.size w ((w.alloc (.cells #[.string s, .string i] 24)).alloc (.cells #[.string s', .string i'] 24)) := ((Below.refl _ w).alloc (Nat.le_refl _) _).alloc (by simp) _
  cases h1 : Lz.implies s'.data.toList s.data.toList with
  | false =>
    have hf : flowsL s.data.toList i.data.toList s'.data.toList i'.data.toList = false := by unfold flowsL; rw [h1]; rfl
    rw [hf]
    have H1 := Lib.hid h1
    clear h1 hf
    go_enter Tryd.func11, Tryd.ntmps11
    go_wp2_with fail
    refine (implies_any _ _ hs' hs _).mono ?_
    rintro e w1 ⟨rfl, hb1⟩
    rw [H1.out]
    go_wp2
    go_ret
    exact ⟨rfl, hA.trans (hb1.mono hA.size)⟩
  | true =>
    have hf : flowsL s.data.toList i.data.toList s'.data.toList i'.data.toList = Lz.implies i.data.toList i'.data.toList := by unfold flowsL; rw [h1]; rfl
    rw [hf]
    have H1 := Lib.hid h1
    clear h1 hf
    go_enter Tryd.func11, Tryd.ntmps11
    go_wp2_with fail
    refine (implies_any _ _ hs' hs _).mono ?_
    rintro e w1 ⟨rfl, hb1⟩
    rw [H1.out]
    have c0 := (bL.below hb1 bL.lt).cell1
    have c1 := (bM.below hb1 bM.lt).cell1
    have hB1 := hA.trans (hb1.mono hA.size)
    clear hA hb1 bL bM
    go_wp2_with fail
    refine (implies_any _ _ hi hi' _).mono ?_
    rintro e w2 ⟨rfl, hb2⟩
    go_wp2
    go_ret
    exact ⟨rfl, hB1.trans (hb2.mono hB1.size)⟩
end Go.Proofs.YtiagoiannccdmaaDoor
