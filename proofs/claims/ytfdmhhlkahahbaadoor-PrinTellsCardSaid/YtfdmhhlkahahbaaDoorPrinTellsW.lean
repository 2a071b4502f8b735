/- The walk of PrinTells. Conditions: the lengths; the table of letters holds its text. -/
import Derived.Test.YtfdmhhlkahahbaaDoorPrinEx
import Derived.Test.YtfdmhhlkahahbaaDoorRef1b
import Derived.Test.YtfdmhhlkahahbaaDoorRef1c
namespace Go.Proofs.YtfdmhhlkahahbaaDoor
open Go.RowKit Go.Shelf
attribute [local go_sem] str_list str_size
set_option maxRecDepth 100000 in
set_option maxHeartbeats 4000000 in
theorem walkPPrinTells (a b : UInt8) (l : ByteArray) (hl : l.size ≤ maxLen) (t : List UInt8) (w : World) (hL : Letters w) :
    Calls Tryd.prog 3 #[.int .u8 (a.toNat : Int), .int .u8 (b.toNat : Int), .string l, .string (str t)] w fun e w' => e = .returned (.bool true) ∧ Below w.heap.size w w' := by
  have HEX := Lib.hid (examples_any w hL)
  have HL := Lib.hid hL
  clear hL
  unfold maxLen at hl
  obtain ⟨k, hk, hk1, hk2⟩ := cut_at l.size 60 60 rfl
  have HP := Lib.hid fun W hb => parse_any (str t) W (HL.out.behind hb)
  rw [lst_str] at HP
  have HQ := Lib.hid fun W => refParse_any t W
  have h8 := (parseP t).1.toNat_lt
  generalize parseP t = r at HP HQ h8
  have h9 := a.toNat_lt
  have hc := countB_le a
  have HG1 := Lib.hid fun W => right_any (a.toNat : Int) a rfl W
  have HG2 := Lib.hid fun W => refRight_any (a.toNat : Int) a rfl W
  have HI1 := Lib.hid fun W => in_any (a.toNat : Int) (b.toNat : Int) a b rfl rfl W
  have HI2 := Lib.hid fun W => refIn_any (a.toNat : Int) (b.toNat : Int) a b rfl rfl W
  generalize Lz.sub a b = q at HI1 HI2
  obtain ⟨tx, htx⟩ : ∃ tx, str (textP a) = tx := ⟨_, rfl⟩
  have HX1 := Lib.hid fun W hb => text_any (a.toNat : Int) a rfl W (HL.out.behind hb)
  have HX2 := Lib.hid fun W => refText_any (a.toNat : Int) a rfl W
  rw [htx] at HX1 HX2
  clear htx
  go_enter Tryd.func3, Tryd.ntmps3
  go_wp2_with fail
  refine HEX.out.mono ?_
  rintro e w1 ⟨rfl, hB1⟩
  go_wp2_with fail
  have hy : (l.extract 0 k).size ≤ 60 := by simp; omega
  generalize l.extract 0 k = y at hy ⊢
  obtain ⟨m, hm⟩ : ∃ m, str (Lz.least y.data.toList) = m := ⟨_, rfl⟩
  have HM1 := Lib.hid fun W => least_any y W (by unfold maxLen; omega)
  have HM2 := Lib.hid fun W => refLeast_any y (by omega) W
  rw [hm] at HM1 HM2
  clear hm
  refine (HP.out _ hB1).mono ?_
  rintro e w2 ⟨rfl, hb2⟩
  have hB2 := hB1.trans (hb2.mono hB1.size)
  clear hB1 hb2
  go_wp2_with fail
  refine (HQ.out _).mono ?_
  rintro e w3 ⟨rfl, hb3⟩
  have hB3 := hB2.trans (hb3.mono hB2.size)
  clear hB2 hb3
  go_wp2_with fail
  refine (HG1.out _).mono ?_
  rintro e w' ⟨rfl, rfl⟩
  go_wp2_with fail
  refine (HG2.out _).mono ?_
  rintro e w' ⟨rfl, rfl⟩
  generalize decide (a.toNat < 64) = g at *
  go_wp2_with fail
  refine (count_any _ a rfl _).mono ?_
  rintro e w' ⟨rfl, rfl⟩
  go_wp2_with fail
  refine (refCount_any _ a rfl _).mono ?_
  rintro e w' ⟨rfl, rfl⟩
  go_wp2_with fail
  refine (HI1.out _).mono ?_
  rintro e w' ⟨rfl, rfl⟩
  go_wp2_with fail
  refine (HI2.out _).mono ?_
  rintro e w' ⟨rfl, rfl⟩
  go_wp2_with fail
  refine (HM1.out _).mono ?_
  rintro e w4 ⟨rfl, hb4⟩
  have hB4 := hB3.trans (hb4.mono hB3.size)
  clear hB3 hb4
  go_wp2_with fail
  refine (HM2.out _).mono ?_
  rintro e w5 ⟨rfl, hb5⟩
  have hB5 := hB4.trans (hb5.mono hB4.size)
  clear hB4 hb5
  go_wp2_with fail
  refine (HX1.out _ hB5).mono ?_
  rintro e w6 ⟨rfl, hb6⟩
  have hB6 := hB5.trans (hb6.mono hB5.size)
  clear hB5 hb6
  go_wp2_with fail
  refine (HX2.out _).mono ?_
  rintro e w7 ⟨rfl, hb7⟩
  have hB7 := hB6.trans (hb7.mono hB6.size)
  clear hB6 hb7
  go_wp2
  go_ret
  exact ⟨by simp, hB7⟩
theorem walkPrinTells (a : Int) (ha : (Lit.int .u8 a).wf = true) (b : Int) (hb : (Lit.int .u8 b).wf = true) (l : ByteArray) (hl : l.size ≤ maxLen) (t : ByteArray) (_ht : t.size ≤ maxLen) (w : World) (hL : Letters w) :
    Calls Tryd.prog 3 #[.int .u8 a, .int .u8 b, .string l, .string t] w fun e w' => e = .returned (.bool true) ∧ Below w.heap.size w w' := by
  obtain ⟨a, rfl⟩ := u8_of ha
  obtain ⟨b, rfl⟩ := u8_of hb
  exact walkPPrinTells a b l hl t.data.toList w hL
end Go.Proofs.YtfdmhhlkahahbaaDoor
