/- The contract of label.Get. Condition: the text's length. -/
import Derived.Test.YtiagoiannccdmaaDoorLabelPut
namespace Go.Proofs.YtiagoiannccdmaaDoor
open Go.RowKit Go.Shelf
attribute [local go_sem] str_list str_size
set_option maxRecDepth 100000 in
set_option maxHeartbeats 2000000 in
theorem labelGet_p (s : List UInt8) (hs : s.length ≤ maxLen) (at' : Int) (w : World) : Calls Tryd.prog 18 #[.string (str s), .int .i64 at'] w fun e w' => e = .returned (.tuple #[pv (getLb s at').1, .int .i64 (getLb s at').2.1, .bool (getLb s at').2.2]) ∧ Below w.heap.size w w' := by
  have bR := Box2.new w 24 (.string ⟨#[]⟩) (.string ⟨#[]⟩)
  have hA : Below w.heap.size w (w.alloc (.cells #[.string ⟨#[]⟩, .string ⟨#[]⟩] 24)) := (Below.refl _ w).alloc (Nat.le_refl _) _
  have HP := Lib.hid (show getLb s at' = if (getF s at').2.2 = true then if (getF s (getF s at').2.1).2.2 = true then (((getF s at').1, (getF s (getF s at').2.1).1), (getF s (getF s at').2.1).2.1, true) else (([], []), 0, false) else (([], []), 0, false) from rfl)
  have HX := Lib.hid (fun W => cnfGet_any (str s) hs at' W)
  have HY := Lib.hid (fun W => cnfGet_any (str s) hs (getF s at').2.1 W)
  rw [lst_str] at HX HY
  generalize getLb s at' = res at HP ⊢
  generalize hg : getF s at' = g at HX HY HP
  clear hg
  obtain ⟨f, m, o⟩ := g
  simp only at HX HY HP
  generalize getF s m = g at HY HP
  obtain ⟨f2, m2, o2⟩ := g
  simp only at HY HP
  unfold maxLen at hs
  cases o with
  | false =>
    rw [if_neg (by decide)] at HP
    rw [HP.out]
    go_enter Tryd.func18, Tryd.ntmps18
    go_wp2_with fail
    refine (HX.out _).mono ?_
    rintro e w1 ⟨rfl, hb1⟩
    have b1 := bR.below hb1 bR.lt
    have hB1 := hA.trans (hb1.mono hA.size)
    clear bR hA hb1
    have c0 := b1.cell0
    have c1 := b1.cell1
    have f0 := b1.frozen 0
    have f1 := b1.frozen 1
    go_wp2
    have b3 := box2_set1 (q := .string ⟨#[]⟩) (box2_set0 (q := .string ⟨#[]⟩) b1)
    have d0 := b3.cell0
    have d1 := b3.cell1
    refine bodyPost_ret (v := .tuple #[.agg #[.string ⟨#[]⟩, .string ⟨#[]⟩], .int .i64 0, .bool false]) ?_ rfl ⟨rfl, (hB1.setCell (p := ⟨w.heap.size, 0, none⟩) (Nat.le_refl _) _).setCell (p := ⟨w.heap.size, 1, none⟩) (Nat.le_refl _) _⟩
    simp [results, Tryd.f18, go_sem, d0, d1]
  | true =>
    rw [if_pos rfl] at HP
    cases o2 with
    | false =>
      rw [if_neg (by decide)] at HP
      rw [HP.out]
      go_enter Tryd.func18, Tryd.ntmps18
      go_wp2_with fail
      refine (HX.out _).mono ?_
      rintro e w1 ⟨rfl, hb1⟩
      have b1 := bR.below hb1 bR.lt
      have hB1 := hA.trans (hb1.mono hA.size)
      clear bR hA hb1
      go_wp2_with fail
      refine (HY.out _).mono ?_
      rintro e w2 ⟨rfl, hb2⟩
      have b2 := b1.below hb2 b1.lt
      have hB2 := hB1.trans (hb2.mono hB1.size)
      clear b1 hB1 hb2
      have c0 := b2.cell0
      have c1 := b2.cell1
      have f0 := b2.frozen 0
      have f1 := b2.frozen 1
      go_wp2
      have b3 := box2_set1 (q := .string ⟨#[]⟩) (box2_set0 (q := .string ⟨#[]⟩) b2)
      have d0 := b3.cell0
      have d1 := b3.cell1
      refine bodyPost_ret (v := .tuple #[.agg #[.string ⟨#[]⟩, .string ⟨#[]⟩], .int .i64 0, .bool false]) ?_ rfl ⟨rfl, (hB2.setCell (p := ⟨w.heap.size, 0, none⟩) (Nat.le_refl _) _).setCell (p := ⟨w.heap.size, 1, none⟩) (Nat.le_refl _) _⟩
      simp [results, Tryd.f18, go_sem, d0, d1]
    | true =>
      rw [if_pos rfl] at HP
      rw [HP.out]
      go_enter Tryd.func18, Tryd.ntmps18
      go_wp2_with fail
      refine (HX.out _).mono ?_
      rintro e w1 ⟨rfl, hb1⟩
      have b1 := bR.below hb1 bR.lt
      have hB1 := hA.trans (hb1.mono hA.size)
      clear bR hA hb1
      go_wp2_with fail
      refine (HY.out _).mono ?_
      rintro e w2 ⟨rfl, hb2⟩
      have b2 := b1.below hb2 b1.lt
      have hB2 := hB1.trans (hb2.mono hB1.size)
      clear b1 hB1 hb2
      have c0 := b2.cell0
      have c1 := b2.cell1
      have f0 := b2.frozen 0
      have f1 := b2.frozen 1
      go_wp2
      have b3 := box2_set1 (q := .string (str f2)) (box2_set0 (q := .string (str f)) b2)
      have d0 := b3.cell0
      have d1 := b3.cell1
      refine bodyPost_ret (v := .tuple #[.agg #[.string (str f), .string (str f2)], .int .i64 m2, .bool true]) ?_ rfl ⟨rfl, (hB2.setCell (p := ⟨w.heap.size, 0, none⟩) (Nat.le_refl _) _).setCell (p := ⟨w.heap.size, 1, none⟩) (Nat.le_refl _) _⟩
      simp [results, Tryd.f18, go_sem, d0, d1]
theorem getLE (W : World) (x : List UInt8) (at' : Int) (f : Lz.Lab) (m : Int) (hx : x.length ≤ maxLen) (h : getLb x at' = (f, m, true)) : Calls Tryd.prog 18 #[.string (str x), .int .i64 at'] W fun e w' => e = .returned (.tuple #[pv f, .int .i64 m, .bool true]) ∧ Below W.heap.size W w' := by
  have h1 := labelGet_p x hx at' W
  rw [h] at h1
  exact h1
theorem putLE (W : World) (a : Lz.Lab) (p : List UInt8) (ha : okL a) (h : putLb a = p) : Calls Tryd.prog 29 #[pv a] W fun e w' => e = .returned (.string (str p)) ∧ Below W.heap.size W w' := by
  subst h; exact labelPut_p a ha W
theorem textLE (W : World) (a : Lz.Lab) (t : List UInt8) (ha : okL a) (h : textLb a = t) (hL : Letters W) : Calls Tryd.prog 31 #[pv a] W fun e w' => e = .returned (.string (str t)) ∧ Below W.heap.size W w' := by
  subst h; exact labelText_p a ha W hL
theorem parseLE (W : World) (t : List UInt8) (a : Lz.Lab) (ht : t.length ≤ 1000000) (h : parseLb t = (a, true)) (hL : Letters W) : Calls Tryd.prog 20 #[.string (str t)] W fun e w' => e = .returned (.tuple #[pv a, .bool true]) ∧ Below W.heap.size W w' := by
  have h1 := labelParse_p t ht W hL
  rw [h] at h1
  exact h1
theorem textLb_len (a : Lz.Lab) : (textLb a).length ≤ 2001 := by
  have h1 := textF_len a.1
  have h2 := textF_len a.2
  unfold textLb
  rw [List.length_append, List.length_cons]
  omega
theorem putLb_len (a : Lz.Lab) : (putLb a).length ≤ 130 := by
  have h1 := putL_len65 a.1
  have h2 := putL_len65 a.2
  unfold putLb
  rw [List.length_append]
  omega
end Go.Proofs.YtiagoiannccdmaaDoor
