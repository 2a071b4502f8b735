/- The walk of CnfFix. Conditions: the sizes of what came in; the table of letters holds its text. -/
import Derived.Test.YtmldammikebhiaaDoorEx2
import Derived.Test.YtmldammikebhiaaDoorCnfE
namespace Go.Proofs.YtmldammikebhiaaDoor
open Go.RowKit Go.Shelf
attribute [local go_sem] str_list
set_option maxRecDepth 100000 in
set_option maxHeartbeats 8000000 in
theorem walkPCnfFix (a : List UInt8) (ha : a.length ≤ maxLen) (p : UInt8) (q : UInt8) (x : UInt8) (w : World) (hL : Letters w) :
    Calls Tryd.prog 7 #[.string (str a), .int .u8 (p.toNat : Int), .int .u8 (q.toNat : Int), .int .u8 (x.toNat : Int)] w fun e w' => e = .returned (.bool true) ∧ Below w.heap.size w w' := by
  have HEX := Lib.hid (examples2_any w hL)
  clear hL
  have HFa := Lib.hid fun W => few_any a ha 12 12 rfl W
  have hqa : (a.take 12).length ≤ 12 := by rw [List.length_take]; omega
  generalize hta : a.take 12 = qa at HFa hqa
  clear hta
  obtain ⟨f, hf⟩ : ∃ f, Lz.fix qa p = f := ⟨_, rfl⟩
  have lf : f.length ≤ 64 := by rw [← hf]; exact Lz.fix_len _ _
  obtain ⟨g, hg⟩ : ∃ g, Lz.fix qa (p ||| q) = g := ⟨_, rfl⟩
  have lg : g.length ≤ 64 := by rw [← hg]; exact Lz.fix_len _ _
  obtain ⟨n, hn⟩ : ∃ n, Lz.norm qa = n := ⟨_, rfl⟩
  have ln : n.length ≤ 64 := by rw [← hn]; exact Lz.norm_len64 _
  obtain ⟨r, hr⟩ : ∃ r, Lz.sat qa (x ||| p) = r := ⟨_, rfl⟩
  have H1 := Lib.hid (show Lz.fix qa p = f from hf)
  have H2 := Lib.hid (show Lz.sat f x = r from by rw [← hf, ← hr]; exact Lz.sat_fix _ _ _)
  have H3 := Lib.hid (show Lz.sat qa (x ||| p) = r from hr)
  have H4 := Lib.hid (show Lz.fix f p = f from by rw [← hf]; exact Lz.fix_twice _ _)
  have H5 := Lib.hid (show Lz.fix f q = g from by rw [← hf, ← hg]; exact Lz.fix_fix _ _ _)
  have H6 := Lib.hid (show Lz.fix qa (p ||| q) = g from hg)
  have H7 := Lib.hid (show Lz.implies qa f = true from by rw [← hf]; exact Lz.implies_fix _ _)
  have H8 := Lib.hid (show Lz.fix qa 0 = n from (Lz.fix_zero _).trans hn)
  have H9 := Lib.hid (show Lz.norm qa = n from hn)
  have H10 := Lib.hid (show (Lz.norm f == f) = true from by rw [beq_iff_eq, ← hf]; exact Lz.right_fix _ _)
  have HXP := Lib.hid (show bits .or .u8 (x.toNat : Int) (p.toNat : Int) = ((x ||| p).toNat : Int) from bits_or_u8 x p)
  have HPQ := Lib.hid (show bits .or .u8 (p.toNat : Int) (q.toNat : Int) = ((p ||| q).toNat : Int) from bits_or_u8 p q)
  clear hf hg hn hr
  go_enter Tryd.func7, Tryd.ntmps7
  go_wp2_with fail
  refine HEX.out.mono ?_
  rintro e w1 ⟨rfl, hB1⟩
  clear HEX
  go_wp2_with fail
  refine (HFa.out _).mono ?_
  rintro e w' ⟨rfl, rfl⟩
  go_wp2_with fail
  refine (fixE _ qa f _ p rfl (by omega) H1.out).mono ?_
  rintro e w2 ⟨rfl, hb2⟩
  have hB2 := hB1.trans (hb2.mono hB1.size)
  clear hB1 hb2
  go_wp2_with fail
  refine (satE _ f r _ x rfl (by omega) H2.out).mono ?_
  rintro e w3 ⟨rfl, hb3⟩
  have hB3 := hB2.trans (hb3.mono hB2.size)
  clear hB2 hb3
  go_wp2_with fail
  refine (satE _ qa r _ (x ||| p) HXP.out (by omega) H3.out).mono ?_
  rintro e w4 ⟨rfl, hb4⟩
  have hB4 := hB3.trans (hb4.mono hB3.size)
  clear hB3 hb4
  go_wp2_with fail
  refine (fixE _ f f _ p rfl (by omega) H4.out).mono ?_
  rintro e w5 ⟨rfl, hb5⟩
  have hB5 := hB4.trans (hb5.mono hB4.size)
  clear hB4 hb5
  go_wp2_with fail
  refine (fixE _ f g _ q rfl (by omega) H5.out).mono ?_
  rintro e w6 ⟨rfl, hb6⟩
  have hB6 := hB5.trans (hb6.mono hB5.size)
  clear hB5 hb6
  go_wp2_with fail
  refine (fixE _ qa g _ (p ||| q) HPQ.out (by omega) H6.out).mono ?_
  rintro e w7 ⟨rfl, hb7⟩
  have hB7 := hB6.trans (hb7.mono hB6.size)
  clear hB6 hb7
  go_wp2_with fail
  refine (impE _ qa f true (by omega) (by omega) H7.out).mono ?_
  rintro e w8 ⟨rfl, hb8⟩
  have hB8 := hB7.trans (hb8.mono hB7.size)
  clear hB7 hb8
  go_wp2_with fail
  refine (fixE _ qa n _ 0 rfl (by omega) H8.out).mono ?_
  rintro e w9 ⟨rfl, hb9⟩
  have hB9 := hB8.trans (hb9.mono hB8.size)
  clear hB8 hb9
  go_wp2_with fail
  refine (normE _ qa n (by omega) H9.out).mono ?_
  rintro e w10 ⟨rfl, hb10⟩
  have hB10 := hB9.trans (hb10.mono hB9.size)
  clear hB9 hb10
  go_wp2_with fail
  refine (rightE _ f true (by omega) H10.out).mono ?_
  rintro e w11 ⟨rfl, hb11⟩
  have hB11 := hB10.trans (hb11.mono hB10.size)
  clear hB10 hb11
  go_wp2
  go_ret
  exact ⟨rfl, hB11⟩
theorem walkCnfFix (a : ByteArray) (ha : a.size ≤ maxLen) (p : Int) (hp : (Lit.int .u8 p).wf = true) (q : Int) (hq : (Lit.int .u8 q).wf = true) (x : Int) (hx : (Lit.int .u8 x).wf = true) (w : World) (hL : Letters w) :
    Calls Tryd.prog 7 #[.string a, .int .u8 p, .int .u8 q, .int .u8 x] w fun e w' => e = .returned (.bool true) ∧ Below w.heap.size w w' := by
  obtain ⟨p, rfl⟩ := u8_of hp
  obtain ⟨q, rfl⟩ := u8_of hq
  obtain ⟨x, rfl⟩ := u8_of hx
  exact walkPCnfFix a.data.toList ha p q x w hL
end Go.Proofs.YtmldammikebhiaaDoor
