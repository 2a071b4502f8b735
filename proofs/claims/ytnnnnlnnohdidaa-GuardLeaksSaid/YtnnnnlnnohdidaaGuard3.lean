/- The contracts of guard.Right, Taint, Write, Both, Lower. Condition: the formulas' lengths. -/
import Derived.Test.YtnnnnlnnohdidaaGuard2
import Derived.Deep.RegionHeld3
import Derived.BigQuiet
namespace Go.Proofs.Ytnnnnlnnohdidaa
open Go.RowKit Go.Shelf

def okS (s : Lz.St) : Prop := okL s.cur ∧ okL s.clr
theorem drewB {n : Nat} {w W : World} (h : Below n w W) : Below n w W.drew := ⟨h.os, h.tape, h.output, h.size, h.block⟩
set_option maxRecDepth 100000 in
set_option maxHeartbeats 2000000 in
theorem wr_p (s : Lz.St) (l : Lz.Lab) (hs : okS s) (hl : okL l) (w : World) : Calls Try.prog 15 #[sv s, pv l] w fun e w' => e = .returned (.int .i64 (Lz.wrS s l)) ∧ Below w.heap.size w w' := by
  have bS : BoxS ((w.alloc (.cells #[.string (str s.cur.1), .string (str s.cur.2), .string (str s.clr.1), .string (str s.clr.2)] 26)).alloc (.cells #[.string (str l.1), .string (str l.2)] 24)) w.heap.size s := (Box4.new w _ _ _ _ _).alloc _
  have bL : BoxL ((w.alloc (.cells #[.string (str s.cur.1), .string (str s.cur.2), .string (str s.clr.1), .string (str s.clr.2)] 26)).alloc (.cells #[.string (str l.1), .string (str l.2)] 24)) (w.heap.size + 1) l := by
    have := Box2.new (w.alloc (.cells #[.string (str s.cur.1), .string (str s.cur.2), .string (str s.clr.1), .string (str s.clr.2)] 26)) 24 (.string (str l.1)) (.string (str l.2))
    rw [World.size_alloc] at this
    exact this
  have hA : Below w.heap.size w ((w.alloc (.cells #[.string (str s.cur.1), .string (str s.cur.2), .string (str s.clr.1), .string (str s.clr.2)] 26)).alloc (.cells #[.string (str l.1), .string (str l.2)] 24)) := ((Below.refl _ w).alloc (Nat.le_refl _) _).alloc (by simp) _
  have mixed := mixedOrders
  go_enter Try.func15, Try.ntmps15
  go_wp2_with fail
  generalize ((w.alloc (.cells #[.string (str s.cur.1), .string (str s.cur.2), .string (str s.clr.1), .string (str s.clr.2)] 26)).alloc (.cells #[.string (str l.1), .string (str l.2)] 24)) = wA at bS bL hA ⊢
  have bSd : BoxS wA.drew w.heap.size s := bS
  have bLd : BoxL wA.drew (w.heap.size + 1) l := bL
  have hAd := drewB hA
  have c0 := bSd.cell0
  have c1 := bSd.cell1
  have c2 := bSd.cell2
  have c3 := bSd.cell3
  have c4 := bLd.cell0
  have c5 := bLd.cell1
  clear bS bL hA
  go_region_held3 (fun w' => w'.cell? ⟨w.heap.size, 0, none⟩ = some (.string (str s.cur.1)) ∧ w'.cell? ⟨w.heap.size, 1, none⟩ = some (.string (str s.cur.2)) ∧ w'.cell? ⟨w.heap.size, 2, none⟩ = some (.string (str s.clr.1)) ∧ w'.cell? ⟨w.heap.size, 3, none⟩ = some (.string (str s.clr.2)) ∧ w'.cell? ⟨w.heap.size + 1, 0, none⟩ = some (.string (str l.1)) ∧ w'.cell? ⟨w.heap.size + 1, 1, none⟩ = some (.string (str l.2))) (first | exact ⟨c0, c1, c2, c3, c4, c5⟩ | go_keep)
    (first
      | (go_at_call 30; refine (above_any s l hs.1 hl _).mono ?_; rintro e w1 ⟨v1, rfl, hm1, hb1⟩; have bS1 := bSd.below hb1 bSd.lt; have bL1 := bLd.below hb1 bLd.lt; have hB1 := hAd.trans (hb1.mono hAd.size); have c0 := bS1.cell0; have c1 := bS1.cell1; have c2 := bS1.cell2; have c3 := bS1.cell3; have c4 := bL1.cell0; have c5 := bL1.cell1)
      | (go_at_call 29; refine (cleared_any s l hs.2 hl _).mono ?_; rintro e w2 ⟨v2, rfl, hm2, hb2⟩; have bS2 := bS1.below hb2 bS1.lt; have bL2 := bL1.below hb2 bL1.lt; have hB2 := hB1.trans (hb2.mono hB1.size); have hm1' := hm1.below hb2; have bG := Box4.new w2 49 v1 (.int .i64 (-3)) v2 (.int .i64 (-4)); have hG := (Below.refl w2.heap.size w2).alloc (Nat.le_refl _) (.cells #[v1, .int .i64 (-3), v2, .int .i64 (-4)] 49); have c0 := (bS2.alloc (.cells #[v1, .int .i64 (-3), v2, .int .i64 (-4)] 49)).cell0; have c0 := bS2.cell0; have c1 := bS2.cell1; have c2 := bS2.cell2; have c3 := bS2.cell3; have c4 := bL2.cell0; have c5 := bL2.cell1)
      | (go_at_call 28; refine (first2_eq _ v1 v2 (-3) (-4) (Lz.fl s.cur l) (Lz.fl l s.clr) (Lz.wrS s l) rfl _ bG (hm1'.below hG) (hm2.below hG)).mono ?_; rintro e w3 ⟨rfl, hb3⟩; have hb3' := hG.trans (hb3.mono (hG.size)); have bS3 := bS2.below hb3' bS2.lt; have bL3 := bL2.below hb3' bL2.lt; have hB3 := hB2.trans (hb3'.mono hB2.size); have c0 := bS3.cell0; have c1 := bS3.cell1; have c2 := bS3.cell2; have c3 := bS3.cell3; have c4 := bL3.cell0; have c5 := bL3.cell1))
  go_wp2
  go_ret
  exact ⟨rfl, hB3⟩
end Go.Proofs.Ytnnnnlnnohdidaa
