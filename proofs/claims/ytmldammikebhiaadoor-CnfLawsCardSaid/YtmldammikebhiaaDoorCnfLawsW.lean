/- The walk of CnfLaws. Conditions: the sizes of what came in; the table of letters holds its text. -/
import Derived.Test.YtmldammikebhiaaDoorEx2
import Derived.Test.YtmldammikebhiaaDoorCnfE
namespace Go.Proofs.YtmldammikebhiaaDoor
open Go.RowKit Go.Shelf
attribute [local go_sem] str_list
set_option maxRecDepth 100000 in
set_option maxHeartbeats 8000000 in
theorem walkPCnfLaws (a : List UInt8) (ha : a.length ≤ maxLen) (b : List UInt8) (hb : b.length ≤ maxLen) (c : List UInt8) (hc : c.length ≤ maxLen) (w : World) (hL : Letters w) :
    Calls Tryd.prog 6 #[.string (str a), .string (str b), .string (str c)] w fun e w' => e = .returned (.bool true) ∧ Below w.heap.size w w' := by
  have HEX := Lib.hid (examples2_any w hL)
  clear hL
  have HFa := Lib.hid fun W => few_any a ha 6 6 rfl W
  have hqa : (a.take 6).length ≤ 6 := by rw [List.length_take]; omega
  have HFb := Lib.hid fun W => few_any b hb 6 6 rfl W
  have hqb : (b.take 6).length ≤ 6 := by rw [List.length_take]; omega
  have HFc := Lib.hid fun W => few_any c hc 6 6 rfl W
  have hqc : (c.take 6).length ≤ 6 := by rw [List.length_take]; omega
  generalize hta : a.take 6 = qa at HFa hqa
  clear hta
  generalize htb : b.take 6 = qb at HFb hqb
  clear htb
  generalize htc : c.take 6 = qc at HFc hqc
  clear htc
  obtain ⟨n, hn⟩ : ∃ n, Lz.norm qa = n := ⟨_, rfl⟩
  have ln : n.length ≤ 64 := by rw [← hn]; exact Lz.norm_len64 _
  obtain ⟨p, hp⟩ : ∃ p, Lz.and qa qb = p := ⟨_, rfl⟩
  have lp : p.length ≤ 64 := by rw [← hp]; exact Lz.and_len _ _
  obtain ⟨o, ho⟩ : ∃ o, Lz.or qa qb = o := ⟨_, rfl⟩
  have lo : o.length ≤ 64 := by rw [← ho]; exact Lz.or_len _ _
  obtain ⟨r, hr⟩ : ∃ r, Lz.and qb qc = r := ⟨_, rfl⟩
  have lr : r.length ≤ 64 := by rw [← hr]; exact Lz.and_len _ _
  obtain ⟨v, hv⟩ : ∃ v, Lz.or qb qc = v := ⟨_, rfl⟩
  have lv : v.length ≤ 64 := by rw [← hv]; exact Lz.or_len _ _
  obtain ⟨d, hd⟩ : ∃ d, Lz.and qa qc = d := ⟨_, rfl⟩
  have ld : d.length ≤ 64 := by rw [← hd]; exact Lz.and_len _ _
  obtain ⟨s, hs⟩ : ∃ s, Lz.and qa r = s := ⟨_, rfl⟩
  have ls : s.length ≤ 64 := by rw [← hs]; exact Lz.and_len _ _
  obtain ⟨t, ht⟩ : ∃ t, Lz.or qa v = t := ⟨_, rfl⟩
  have lt : t.length ≤ 64 := by rw [← ht]; exact Lz.or_len _ _
  obtain ⟨u, hu⟩ : ∃ u, Lz.and qa v = u := ⟨_, rfl⟩
  have lu : u.length ≤ 64 := by rw [← hu]; exact Lz.and_len _ _
  have H1 := Lib.hid (show Lz.norm qa = n from hn)
  have H2 := Lib.hid (show Lz.and qa qb = p from hp)
  have H3 := Lib.hid (show Lz.and qb qa = p from (Lz.and_comm _ _).trans hp)
  have H4 := Lib.hid (show Lz.or qa qb = o from ho)
  have H5 := Lib.hid (show Lz.or qb qa = o from (Lz.or_comm _ _).trans ho)
  have H6 := Lib.hid (show Lz.and qa qa = n from (Lz.and_self _).trans hn)
  have H7 := Lib.hid (show Lz.or qa qa = n from (Lz.or_self' _).trans hn)
  have H8 := Lib.hid (show Lz.and qa o = n from by rw [← ho, ← hn]; exact Lz.and_or _ _)
  have H9 := Lib.hid (show Lz.or qa p = n from by rw [← hp, ← hn]; exact Lz.or_and _ _)
  have H10 := Lib.hid (show Lz.and qb qc = r from hr)
  have H11 := Lib.hid (show Lz.and qa r = s from hs)
  have H12 := Lib.hid (show Lz.and p qc = s from by rw [← hp, ← hs, ← hr]; exact (Lz.and_assoc _ _ _).symm)
  have H13 := Lib.hid (show Lz.or qb qc = v from hv)
  have H14 := Lib.hid (show Lz.or qa v = t from ht)
  have H15 := Lib.hid (show Lz.or o qc = t from by rw [← ho, ← ht, ← hv]; exact (Lz.or_assoc _ _ _).symm)
  have H16 := Lib.hid (show Lz.and qa v = u from hu)
  have H17 := Lib.hid (show Lz.and qa qc = d from hd)
  have H18 := Lib.hid (show Lz.or p d = u from by rw [← hp, ← hd, ← hu, ← hv]; exact (Lz.and_over_or _ _ _).symm)
  have H19 := Lib.hid (show Lz.and qa [] = n from (Lz.and_true _).trans hn)
  have H20 := Lib.hid (show Lz.or qa [0] = n from (Lz.or_false _).trans hn)
  have H21 := Lib.hid (show Lz.and qa [0] = [0] from Lz.and_false _)
  have H22 := Lib.hid (show Lz.or qa [] = [] from Lz.or_true _)
  clear hn hp ho hr hv hd hs ht hu
  go_enter Tryd.func6, Tryd.ntmps6
  go_wp2_with fail
  refine HEX.out.mono ?_
  rintro e w1 ⟨rfl, hB1⟩
  clear HEX
  go_wp2_with fail
  refine (HFa.out _).mono ?_
  rintro e w' ⟨rfl, rfl⟩
  go_wp2_with fail
  refine (HFb.out _).mono ?_
  rintro e w' ⟨rfl, rfl⟩
  go_wp2_with fail
  refine (HFc.out _).mono ?_
  rintro e w' ⟨rfl, rfl⟩
  go_wp2_with fail
  refine (normE _ qa n (by omega) H1.out).mono ?_
  rintro e w2 ⟨rfl, hb2⟩
  have hB2 := hB1.trans (hb2.mono hB1.size)
  clear hB1 hb2
  go_wp2_with fail
  refine (andE _ qa qb p (by omega) (by omega) H2.out).mono ?_
  rintro e w3 ⟨rfl, hb3⟩
  have hB3 := hB2.trans (hb3.mono hB2.size)
  clear hB2 hb3
  go_wp2_with fail
  refine (andE _ qb qa p (by omega) (by omega) H3.out).mono ?_
  rintro e w4 ⟨rfl, hb4⟩
  have hB4 := hB3.trans (hb4.mono hB3.size)
  clear hB3 hb4
  go_wp2_with fail
  refine (orE _ qa qb o (by omega) (by omega) H4.out).mono ?_
  rintro e w5 ⟨rfl, hb5⟩
  have hB5 := hB4.trans (hb5.mono hB4.size)
  clear hB4 hb5
  go_wp2_with fail
  refine (orE _ qb qa o (by omega) (by omega) H5.out).mono ?_
  rintro e w6 ⟨rfl, hb6⟩
  have hB6 := hB5.trans (hb6.mono hB5.size)
  clear hB5 hb6
  go_wp2_with fail
  refine (andE _ qa qa n (by omega) (by omega) H6.out).mono ?_
  rintro e w7 ⟨rfl, hb7⟩
  have hB7 := hB6.trans (hb7.mono hB6.size)
  clear hB6 hb7
  go_wp2_with fail
  refine (orE _ qa qa n (by omega) (by omega) H7.out).mono ?_
  rintro e w8 ⟨rfl, hb8⟩
  have hB8 := hB7.trans (hb8.mono hB7.size)
  clear hB7 hb8
  go_wp2_with fail
  refine (orE _ qa qb o (by omega) (by omega) H4.out).mono ?_
  rintro e w9 ⟨rfl, hb9⟩
  have hB9 := hB8.trans (hb9.mono hB8.size)
  clear hB8 hb9
  go_wp2_with fail
  refine (andE _ qa o n (by omega) (by omega) H8.out).mono ?_
  rintro e w10 ⟨rfl, hb10⟩
  have hB10 := hB9.trans (hb10.mono hB9.size)
  clear hB9 hb10
  go_wp2_with fail
  refine (andE _ qa qb p (by omega) (by omega) H2.out).mono ?_
  rintro e w11 ⟨rfl, hb11⟩
  have hB11 := hB10.trans (hb11.mono hB10.size)
  clear hB10 hb11
  go_wp2_with fail
  refine (orE _ qa p n (by omega) (by omega) H9.out).mono ?_
  rintro e w12 ⟨rfl, hb12⟩
  have hB12 := hB11.trans (hb12.mono hB11.size)
  clear hB11 hb12
  go_wp2_with fail
  refine (andE _ qb qc r (by omega) (by omega) H10.out).mono ?_
  rintro e w13 ⟨rfl, hb13⟩
  have hB13 := hB12.trans (hb13.mono hB12.size)
  clear hB12 hb13
  go_wp2_with fail
  refine (andE _ qa r s (by omega) (by omega) H11.out).mono ?_
  rintro e w14 ⟨rfl, hb14⟩
  have hB14 := hB13.trans (hb14.mono hB13.size)
  clear hB13 hb14
  go_wp2_with fail
  refine (andE _ qa qb p (by omega) (by omega) H2.out).mono ?_
  rintro e w15 ⟨rfl, hb15⟩
  have hB15 := hB14.trans (hb15.mono hB14.size)
  clear hB14 hb15
  go_wp2_with fail
  refine (andE _ p qc s (by omega) (by omega) H12.out).mono ?_
  rintro e w16 ⟨rfl, hb16⟩
  have hB16 := hB15.trans (hb16.mono hB15.size)
  clear hB15 hb16
  go_wp2_with fail
  refine (orE _ qb qc v (by omega) (by omega) H13.out).mono ?_
  rintro e w17 ⟨rfl, hb17⟩
  have hB17 := hB16.trans (hb17.mono hB16.size)
  clear hB16 hb17
  go_wp2_with fail
  refine (orE _ qa v t (by omega) (by omega) H14.out).mono ?_
  rintro e w18 ⟨rfl, hb18⟩
  have hB18 := hB17.trans (hb18.mono hB17.size)
  clear hB17 hb18
  go_wp2_with fail
  refine (orE _ qa qb o (by omega) (by omega) H4.out).mono ?_
  rintro e w19 ⟨rfl, hb19⟩
  have hB19 := hB18.trans (hb19.mono hB18.size)
  clear hB18 hb19
  go_wp2_with fail
  refine (orE _ o qc t (by omega) (by omega) H15.out).mono ?_
  rintro e w20 ⟨rfl, hb20⟩
  have hB20 := hB19.trans (hb20.mono hB19.size)
  clear hB19 hb20
  go_wp2_with fail
  refine (orE _ qb qc v (by omega) (by omega) H13.out).mono ?_
  rintro e w21 ⟨rfl, hb21⟩
  have hB21 := hB20.trans (hb21.mono hB20.size)
  clear hB20 hb21
  go_wp2_with fail
  refine (andE _ qa v u (by omega) (by omega) H16.out).mono ?_
  rintro e w22 ⟨rfl, hb22⟩
  have hB22 := hB21.trans (hb22.mono hB21.size)
  clear hB21 hb22
  go_wp2_with fail
  refine (andE _ qa qb p (by omega) (by omega) H2.out).mono ?_
  rintro e w23 ⟨rfl, hb23⟩
  have hB23 := hB22.trans (hb23.mono hB22.size)
  clear hB22 hb23
  go_wp2_with fail
  refine (andE _ qa qc d (by omega) (by omega) H17.out).mono ?_
  rintro e w24 ⟨rfl, hb24⟩
  have hB24 := hB23.trans (hb24.mono hB23.size)
  clear hB23 hb24
  go_wp2_with fail
  refine (orE _ p d u (by omega) (by omega) H18.out).mono ?_
  rintro e w25 ⟨rfl, hb25⟩
  have hB25 := hB24.trans (hb25.mono hB24.size)
  clear hB24 hb25
  go_wp2_with fail
  refine (andE _ qa [] n (by omega) (by decide) H19.out).mono ?_
  rintro e w26 ⟨rfl, hb26⟩
  have hB26 := hB25.trans (hb26.mono hB25.size)
  clear hB25 hb26
  go_wp2_with fail
  refine (orE _ qa [0] n (by omega) (by decide) H20.out).mono ?_
  rintro e w27 ⟨rfl, hb27⟩
  have hB27 := hB26.trans (hb27.mono hB26.size)
  clear hB26 hb27
  go_wp2_with fail
  refine (andE _ qa [0] [0] (by omega) (by decide) H21.out).mono ?_
  rintro e w28 ⟨rfl, hb28⟩
  have hB28 := hB27.trans (hb28.mono hB27.size)
  clear hB27 hb28
  go_wp2_with fail
  refine (orE _ qa [] [] (by omega) (by decide) H22.out).mono ?_
  rintro e w29 ⟨rfl, hb29⟩
  have hB29 := hB28.trans (hb29.mono hB28.size)
  clear hB28 hb29
  go_wp2
  go_ret
  exact ⟨rfl, hB29⟩
theorem walkCnfLaws (a : ByteArray) (ha : a.size ≤ maxLen) (b : ByteArray) (hb : b.size ≤ maxLen) (c : ByteArray) (hc : c.size ≤ maxLen) (w : World) (hL : Letters w) :
    Calls Tryd.prog 6 #[.string a, .string b, .string c] w fun e w' => e = .returned (.bool true) ∧ Below w.heap.size w w' := by
  exact walkPCnfLaws a.data.toList ha b.data.toList hb c.data.toList hc w hL
end Go.Proofs.YtmldammikebhiaaDoor
