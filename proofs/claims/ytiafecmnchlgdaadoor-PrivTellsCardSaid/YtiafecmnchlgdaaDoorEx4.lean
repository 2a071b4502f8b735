/- The statements' examples of chapter 4 hold. Condition: the table of letters holds its text. -/
import Derived.Test.YtiafecmnchlgdaaDoorLabelIO
import Derived.Test.YtiafecmnchlgdaaDoorPriv4
namespace Go.Proofs.YtiafecmnchlgdaaDoor
open Go.RowKit Go.Shelf
attribute [local go_sem] str_list str_size
def lA : Lz.Lab := ([1, 2], [])
def lB : Lz.Lab := ([2], [])
theorem okA : okL lA := ⟨by decide, by decide⟩
theorem okB : okL lB := ⟨by decide, by decide⟩
theorem ex4_p1 (W : World) (hL : Letters W) : Calls Tryd.prog 29 #[.string ⟨#[97, 38, 98, 47, 84]⟩] W fun e w' => e = .returned (.tuple #[pv lA, .bool true]) ∧ Below W.heap.size W w' := by
  have h := labelParse_p [97, 38, 98, 47, 84] (by decide) W hL
  rw [show parseLb [97, 38, 98, 47, 84] = (lA, true) from by decide +kernel] at h
  exact h
theorem ex4_p2 (W : World) (hL : Letters W) : Calls Tryd.prog 29 #[.string ⟨#[98, 47, 84]⟩] W fun e w' => e = .returned (.tuple #[pv lB, .bool true]) ∧ Below W.heap.size W w' := by
  have h := labelParse_p [98, 47, 84] (by decide) W hL
  rw [show parseLb [98, 47, 84] = (lB, true) from by decide +kernel] at h
  exact h
theorem ex4_d (W : World) : Calls Tryd.prog 17 #[pv lA, .int .u8 1] W fun e w' => e = .returned (pv (Lz.dr lA 1)) ∧ Below W.heap.size W w' := dr_p lA okA 1 1 rfl W
theorem ex4_td (W : World) (hL : Letters W) : Calls Tryd.prog 30 #[pv (Lz.dr lA 1)] W fun e w' => e = .returned (.string ⟨#[98, 47, 97]⟩) ∧ Below W.heap.size W w' := by
  have h := labelText_p (Lz.dr lA 1) (okL_dr _ _) W hL
  rw [show textLb (Lz.dr lA 1) = [98, 47, 97] from by decide +kernel] at h
  exact h
theorem ex4_f0 (W : World) : Calls Tryd.prog 13 #[pv lA, pv lB, .int .u8 0] W fun e w' => e = .returned (.bool false) ∧ Below W.heap.size W w' := by
  have h := fb_p lA lB okA okB 0 0 rfl W
  rw [show Lz.fb lA lB 0 = false from by decide +kernel] at h
  exact h
theorem ex4_f1 (W : World) : Calls Tryd.prog 13 #[pv lA, pv lB, .int .u8 1] W fun e w' => e = .returned (.bool true) ∧ Below W.heap.size W w' := by
  have h := fb_p lA lB okA okB 1 1 rfl W
  rw [show Lz.fb lA lB 1 = true from by decide +kernel] at h
  exact h
theorem ex4_r (W : World) : Calls Tryd.prog 19 #[pv lB, .int .u8 1] W fun e w' => e = .returned (pv (Lz.re lB 1)) ∧ Below W.heap.size W w' := re_p lB okB 1 1 rfl W
theorem ex4_tr (W : World) (hL : Letters W) : Calls Tryd.prog 30 #[pv (Lz.re lB 1)] W fun e w' => e = .returned (.string ⟨#[97, 38, 98, 47, 84]⟩) ∧ Below W.heap.size W w' := by
  have h := labelText_p (Lz.re lB 1) (okL_re _ _) W hL
  rw [show textLb (Lz.re lB 1) = [97, 38, 98, 47, 84] from by decide +kernel] at h
  exact h
theorem ex4_n1 (W : World) : Calls Tryd.prog 21 #[pv lA, pv lB] W fun e w' => e = .returned (.string ⟨#[1]⟩) ∧ Below W.heap.size W w' := by
  have h := needs_p lA lB okA okB W
  rw [show Lz.needs lA lB = [1] from by decide +kernel] at h
  exact h
theorem ex4_n2 (W : World) : Calls Tryd.prog 21 #[pv lB, pv lA] W fun e w' => e = .returned (.string ⟨#[0]⟩) ∧ Below W.heap.size W w' := by
  have h := needs_p lB lA okB okA W
  rw [show Lz.needs lB lA = [0] from by decide +kernel] at h
  exact h
theorem ex4_of (W : World) : Calls Tryd.prog 11 #[.int .u8 5] W fun e w' => e = .returned (.string ⟨#[1, 4]⟩) ∧ Below W.heap.size W w' := by
  have h := of_any 5 5 rfl W
  rw [show Lz.ofP 5 = [1, 4] from by decide +kernel] at h
  exact h
set_option maxRecDepth 100000 in
set_option maxHeartbeats 4000000 in
theorem examples4_any (w : World) (hL : Letters w) : Calls Tryd.prog 9 #[] w fun e w' => e = .returned (.bool true) ∧ Below w.heap.size w w' := by
  have HL := Lib.hid hL
  clear hL
  go_enter Tryd.func9, Tryd.ntmps9
  go_wp2_with fail
  refine (ex4_p1 _ HL.out).mono ?_
  rintro e w1 ⟨rfl, hb1⟩
  have hB1 := hb1.alloc hb1.size (.cells #[.string (str lA.1), .string (str lA.2)] 24)
  have A1 : BoxL (w1.alloc (.cells #[.string (str lA.1), .string (str lA.2)] 24)) w1.heap.size lA := Box2.new w1 _ _ _
  clear hb1
  go_wp2_with fail
  refine (ex4_p2 _ (HL.out.behind hB1)).mono ?_
  rintro e w2 ⟨rfl, hb2⟩
  have A2 := (A1.below hb2 A1.lt).alloc (.cells #[.string (str lB.1), .string (str lB.2)] 24)
  have hB2' := hB1.trans (hb2.mono hB1.size)
  have hB2 := hB2'.alloc hB2'.size (.cells #[.string (str lB.1), .string (str lB.2)] 24)
  have B2 : BoxL (w2.alloc (.cells #[.string (str lB.1), .string (str lB.2)] 24)) w2.heap.size lB := Box2.new w2 _ _ _
  clear hB1 A1 hb2 hB2'
  have qA0 := A2.cell0
  have qA1 := A2.cell1
  have qB0 := B2.cell0
  have qB1 := B2.cell1
  go_wp2_with fail
  refine (ex4_d _).mono ?_
  rintro e w3 ⟨rfl, hb3⟩
  have A3 := A2.below hb3 A2.lt
  have B3 := B2.below hb3 B2.lt
  have hB3 := hB2.trans (hb3.mono hB2.size)
  clear qA0 qA1 qB0 qB1 A2 B2 hB2 hb3
  have qA0 := A3.cell0
  have qA1 := A3.cell1
  have qB0 := B3.cell0
  have qB1 := B3.cell1
  go_wp2_with fail
  refine (ex4_td _ (HL.out.behind hB3)).mono ?_
  rintro e w4 ⟨rfl, hb4⟩
  have A4 := A3.below hb4 A3.lt
  have B4 := B3.below hb4 B3.lt
  have hB4 := hB3.trans (hb4.mono hB3.size)
  clear qA0 qA1 qB0 qB1 A3 B3 hB3 hb4
  have qA0 := A4.cell0
  have qA1 := A4.cell1
  have qB0 := B4.cell0
  have qB1 := B4.cell1
  go_wp2_with fail
  refine (ex4_f0 _).mono ?_
  rintro e w5 ⟨rfl, hb5⟩
  have A5 := A4.below hb5 A4.lt
  have B5 := B4.below hb5 B4.lt
  have hB5 := hB4.trans (hb5.mono hB4.size)
  clear qA0 qA1 qB0 qB1 A4 B4 hB4 hb5
  have qA0 := A5.cell0
  have qA1 := A5.cell1
  have qB0 := B5.cell0
  have qB1 := B5.cell1
  go_wp2_with fail
  refine (ex4_f1 _).mono ?_
  rintro e w6 ⟨rfl, hb6⟩
  have A6 := A5.below hb6 A5.lt
  have B6 := B5.below hb6 B5.lt
  have hB6 := hB5.trans (hb6.mono hB5.size)
  clear qA0 qA1 qB0 qB1 A5 B5 hB5 hb6
  have qA0 := A6.cell0
  have qA1 := A6.cell1
  have qB0 := B6.cell0
  have qB1 := B6.cell1
  go_wp2_with fail
  refine (ex4_r _).mono ?_
  rintro e w7 ⟨rfl, hb7⟩
  have A7 := A6.below hb7 A6.lt
  have B7 := B6.below hb7 B6.lt
  have hB7 := hB6.trans (hb7.mono hB6.size)
  clear qA0 qA1 qB0 qB1 A6 B6 hB6 hb7
  have qA0 := A7.cell0
  have qA1 := A7.cell1
  have qB0 := B7.cell0
  have qB1 := B7.cell1
  go_wp2_with fail
  refine (ex4_tr _ (HL.out.behind hB7)).mono ?_
  rintro e w8 ⟨rfl, hb8⟩
  have A8 := A7.below hb8 A7.lt
  have B8 := B7.below hb8 B7.lt
  have hB8 := hB7.trans (hb8.mono hB7.size)
  clear qA0 qA1 qB0 qB1 A7 B7 hB7 hb8
  have qA0 := A8.cell0
  have qA1 := A8.cell1
  have qB0 := B8.cell0
  have qB1 := B8.cell1
  go_wp2_with fail
  refine (ex4_n1 _).mono ?_
  rintro e w9 ⟨rfl, hb9⟩
  have A9 := A8.below hb9 A8.lt
  have B9 := B8.below hb9 B8.lt
  have hB9 := hB8.trans (hb9.mono hB8.size)
  clear qA0 qA1 qB0 qB1 A8 B8 hB8 hb9
  have qA0 := A9.cell0
  have qA1 := A9.cell1
  have qB0 := B9.cell0
  have qB1 := B9.cell1
  go_wp2_with fail
  refine (ex4_n2 _).mono ?_
  rintro e w10 ⟨rfl, hb10⟩
  have A10 := A9.below hb10 A9.lt
  have B10 := B9.below hb10 B9.lt
  have hB10 := hB9.trans (hb10.mono hB9.size)
  clear qA0 qA1 qB0 qB1 A9 B9 hB9 hb10
  have qA0 := A10.cell0
  have qA1 := A10.cell1
  have qB0 := B10.cell0
  have qB1 := B10.cell1
  go_wp2_with fail
  refine (ex4_of _).mono ?_
  rintro e w11 ⟨rfl, hb11⟩
  have A11 := A10.below hb11 A10.lt
  have B11 := B10.below hb11 B10.lt
  have hB11 := hB10.trans (hb11.mono hB10.size)
  clear qA0 qA1 qB0 qB1 A10 B10 hB10 hb11
  go_wp2
  go_ret
  exact ⟨rfl, hB11⟩
end Go.Proofs.YtiafecmnchlgdaaDoor
