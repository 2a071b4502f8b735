/- The walk of PrinBack. Condition: the table of letters holds its text. -/
import Derived.Test.YtfdmhhlkahahbaaDoorPrinEx
namespace Go.Proofs.YtfdmhhlkahahbaaDoor
open Go.RowKit Go.Shelf
attribute [local go_sem] str_list str_size

theorem parse_text (a : UInt8) : parseP (textP a) = if a.toNat < 64 then (a, true) else (0, false) := by
  have := of_all256 (fun a => parseP (textP a) == if a.toNat < 64 then (a, true) else (0, false)) (by decide +kernel) a
  simpa using this
theorem text_eq (a b : UInt8) (h : a.toNat < 64) : (textP a == textP b) = (a == b) := by
  rw [Bool.eq_iff_iff, beq_iff_eq, beq_iff_eq]
  constructor
  · intro e
    have h1 := parse_text a
    have h2 := parse_text b
    rw [e, h2, if_pos h] at h1
    split at h1
    · exact (Prod.mk.inj h1).1.symm
    · simp at h1
  · rintro rfl; rfl
theorem text_no (a : UInt8) (h : ¬ a.toNat < 64) : textP a = [63] := by unfold textP; rw [if_neg h]

set_option maxRecDepth 100000 in
set_option maxHeartbeats 2000000 in
theorem walkPrinBack (x : Int) (hx : (Lit.int .u8 x).wf = true) (y : Int) (hy : (Lit.int .u8 y).wf = true) (w : World) (hL : Letters w) :
    Calls Tryd.prog 7 #[.int .u8 x, .int .u8 y] w fun e w' => e = .returned (.bool true) ∧ Below w.heap.size w w' := by
  obtain ⟨a, rfl⟩ := u8_of hx
  obtain ⟨b, rfl⟩ := u8_of hy
  have HEX := Lib.hid (examples_any w hL)
  have HL := Lib.hid hL
  have HP := Lib.hid (parse_text a)
  clear hL hx hy
  by_cases h : a.toNat < 64
  · have hd : decide (a.toNat < 64) = true := by simpa using h
    have HD := Lib.hid hd
    have he := text_eq a b h
    have HE := Lib.hid he
    have H := Lib.hid h
    clear hd he h
    cases hab : (a == b) with
    | true =>
      have hi : ((a.toNat : Int) == (b.toNat : Int)) = true := by rw [toNat_beq, hab]
      have ht : (textP a == textP b) = true := by rw [HE.out, hab]
      clear hab
      go_enter Tryd.func7, Tryd.ntmps7
      go_wp2_with fail
      refine HEX.out.mono ?_
      rintro e w1 ⟨rfl, hb1⟩
      go_wp2_with fail
      refine (text_any _ a rfl _ (HL.out.behind hb1)).mono ?_
      rintro e w2 ⟨rfl, hb2⟩
      have hB2 := hb1.trans (hb2.mono hb1.size)
      clear hb1 hb2
      go_wp2_with fail
      refine (parse_any _ _ (HL.out.behind hB2)).mono ?_
      rintro e w3 ⟨rfl, hb3⟩
      rw [lst_str, HP.out, if_pos H.out]
      have hB3 := hB2.trans (hb3.mono hB2.size)
      clear hB2 hb3
      go_wp2_with fail
      refine (right_any _ a rfl _).mono ?_
      rintro e w' ⟨rfl, rfl⟩
      rw [HD.out]
      go_wp2_with fail
      refine (text_any _ a rfl _ (HL.out.behind hB3)).mono ?_
      rintro e w4 ⟨rfl, hb4⟩
      have hB4 := hB3.trans (hb4.mono hB3.size)
      clear hB3 hb4
      go_wp2_with fail
      refine (text_any _ b rfl _ (HL.out.behind hB4)).mono ?_
      rintro e w5 ⟨rfl, hb5⟩
      go_wp2
      go_ret
      exact ⟨rfl, hB4.trans (hb5.mono hB4.size)⟩
    | false =>
      have hi : ((a.toNat : Int) == (b.toNat : Int)) = false := by rw [toNat_beq, hab]
      have ht : (textP a == textP b) = false := by rw [HE.out, hab]
      clear hab
      go_enter Tryd.func7, Tryd.ntmps7
      go_wp2_with fail
      refine HEX.out.mono ?_
      rintro e w1 ⟨rfl, hb1⟩
      go_wp2_with fail
      refine (text_any _ a rfl _ (HL.out.behind hb1)).mono ?_
      rintro e w2 ⟨rfl, hb2⟩
      have hB2 := hb1.trans (hb2.mono hb1.size)
      clear hb1 hb2
      go_wp2_with fail
      refine (parse_any _ _ (HL.out.behind hB2)).mono ?_
      rintro e w3 ⟨rfl, hb3⟩
      rw [lst_str, HP.out, if_pos H.out]
      have hB3 := hB2.trans (hb3.mono hB2.size)
      clear hB2 hb3
      go_wp2_with fail
      refine (right_any _ a rfl _).mono ?_
      rintro e w' ⟨rfl, rfl⟩
      rw [HD.out]
      go_wp2_with fail
      refine (text_any _ a rfl _ (HL.out.behind hB3)).mono ?_
      rintro e w4 ⟨rfl, hb4⟩
      have hB4 := hB3.trans (hb4.mono hB3.size)
      clear hB3 hb4
      go_wp2_with fail
      refine (text_any _ b rfl _ (HL.out.behind hB4)).mono ?_
      rintro e w5 ⟨rfl, hb5⟩
      go_wp2
      go_ret
      exact ⟨rfl, hB4.trans (hb5.mono hB4.size)⟩
  · have hd : decide (a.toNat < 64) = false := by simpa using h
    have HD := Lib.hid hd
    have HT := Lib.hid (text_no a h)
    have H := Lib.hid h
    clear hd h
    go_enter Tryd.func7, Tryd.ntmps7
    go_wp2_with fail
    refine HEX.out.mono ?_
    rintro e w1 ⟨rfl, hb1⟩
    go_wp2_with fail
    refine (text_any _ a rfl _ (HL.out.behind hb1)).mono ?_
    rintro e w2 ⟨rfl, hb2⟩
    have hB2 := hb1.trans (hb2.mono hb1.size)
    clear hb1 hb2
    go_wp2_with fail
    refine (parse_any _ _ (HL.out.behind hB2)).mono ?_
    rintro e w3 ⟨rfl, hb3⟩
    rw [lst_str, HP.out, if_neg H.out]
    have hB3 := hB2.trans (hb3.mono hB2.size)
    clear hB2 hb3
    go_wp2_with fail
    refine (right_any _ a rfl _).mono ?_
    rintro e w' ⟨rfl, rfl⟩
    rw [HD.out]
    go_wp2_with fail
    refine (text_any _ a rfl _ (HL.out.behind hB3)).mono ?_
    rintro e w4 ⟨rfl, hb4⟩
    rw [HT.out]
    go_wp2
    go_ret
    exact ⟨rfl, hB3.trans (hb4.mono hB3.size)⟩
end Go.Proofs.YtfdmhhlkahahbaaDoor
