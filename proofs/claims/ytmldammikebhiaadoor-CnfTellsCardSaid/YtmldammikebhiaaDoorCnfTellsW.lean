/- The walk of CnfTells. Conditions: the sizes of what came in; the table of letters holds its text. -/
import Derived.Test.YtmldammikebhiaaDoorEx2
import Derived.Test.YtmldammikebhiaaDoorCnf3
import Derived.Test.YtmldammikebhiaaDoorRef2b
import Derived.Test.YtmldammikebhiaaDoorRef2c
import Derived.Test.YtmldammikebhiaaDoorRef2e
namespace Go.Proofs.YtmldammikebhiaaDoor
open Go.RowKit Go.Shelf
attribute [local go_sem] str_list str_size
set_option maxRecDepth 100000 in
set_option maxHeartbeats 8000000 in
theorem walkPCnfTells (a : List UInt8) (ha : a.length ≤ maxLen) (b : List UInt8) (hb : b.length ≤ maxLen) (x : UInt8) (t : Nat) (ht : t < big) (s : ByteArray) (hs : s.size ≤ maxLen) (at' : Int) (l : ByteArray) (hl : l.size ≤ maxLen) (w : World) (hL : Letters w) :
    Calls Tryd.prog 8 #[.string (str a), .string (str b), .int .u8 (x.toNat : Int), .int .u64 (t : Int), .string s, .int .i64 at', .string l] w fun e w' => e = .returned (.bool true) ∧ Below w.heap.size w w' := by
  have HEX := Lib.hid (examples2_any w hL)
  have HL := Lib.hid hL
  clear hL
  have HFa := Lib.hid fun W => few_any a ha 12 12 rfl W
  have hqa : (a.take 12).length ≤ 12 := by rw [List.length_take]; omega
  have HFb := Lib.hid fun W => few_any b hb 12 12 rfl W
  have hqb : (b.take 12).length ≤ 12 := by rw [List.length_take]; omega
  generalize hta : a.take 12 = qa at HFa hqa
  clear hta
  generalize htb : b.take 12 = qb at HFb hqb
  clear htb
  have sa : (str qa).size ≤ 12 := by rw [str_size]; exact hqa
  have sb : (str qb).size ≤ 12 := by rw [str_size]; exact hqb
  have H1a := Lib.hid fun W => ofT_any t ht W
  have H1b := Lib.hid fun W => refOf_any t ht W
  generalize (if Lz.table (ofT t) = t then ofT t else []) = f1 at H1a H1b
  generalize decide (Lz.table (ofT t) = t) = k1 at H1a H1b
  have H2a := Lib.hid fun W => cnfGet_any s hs at' W
  have H2b := Lib.hid fun W => refGet_any s hs at' W
  generalize getF s.data.toList at' = g2 at H2a H2b
  have H4a := Lib.hid fun W => norm_any (str qa) (by omega) W
  have H4b := Lib.hid fun W => refNorm_any (str qa) (by omega) W
  rw [lst_str] at H4a H4b
  generalize Lz.norm qa = n4 at H4a H4b
  have H5a := Lib.hid fun W => cnfRight_any (str qa) (by omega) W
  have H5b := Lib.hid fun W => ref2Right_any (str qa) (by omega) W
  rw [lst_str] at H5a H5b
  generalize (Lz.norm qa == qa) = k5 at H5a H5b
  have H6a := Lib.hid fun W => and_any (str qa) (str qb) (by omega) (by omega) W
  have H6b := Lib.hid fun W => refAnd_any (str qa) (str qb) (by omega) (by omega) W
  rw [lst_str, lst_str] at H6a H6b
  generalize Lz.and qa qb = n6 at H6a H6b
  have H7a := Lib.hid fun W => or_any (str qa) (str qb) (by omega) (by omega) W
  have H7b := Lib.hid fun W => refOr_any (str qa) (str qb) (by omega) (by omega) W
  rw [lst_str, lst_str] at H7a H7b
  generalize Lz.or qa qb = n7 at H7a H7b
  have H8a := Lib.hid fun W => fix_any (str qa) (by omega) (x.toNat : Int) x rfl W
  have H8b := Lib.hid fun W => refFix_any (str qa) (by omega) (x.toNat : Int) x rfl W
  rw [lst_str] at H8a H8b
  generalize Lz.fix qa x = n8 at H8a H8b
  have H9a := Lib.hid fun W => implies_any (str qa) (str qb) (by omega) (by omega) W
  have H9b := Lib.hid fun W => refImplies_any (str qa) (str qb) (by omega) (by omega) W
  rw [lst_str, lst_str] at H9a H9b
  generalize Lz.implies qa qb = k9 at H9a H9b
  have H10a := Lib.hid fun W => cnfHolds_any (str qa) (by omega) (x.toNat : Int) x rfl W
  have H10b := Lib.hid fun W => refHolds_any (str qa) (by omega) (x.toNat : Int) x rfl W
  rw [lst_str] at H10a H10b
  generalize Lz.sat qa x = k10 at H10a H10b
  have H11a := Lib.hid fun W => table_any (str qa) (by omega) W
  have H11b := Lib.hid fun W => refTable_any (str qa) (by omega) W
  rw [lst_str] at H11a H11b
  generalize Lz.table qa = t11 at H11a H11b
  have H12a := Lib.hid fun W => put_any (str qa) (by omega) W
  have H12b := Lib.hid fun W => refPut_any (str qa) (by omega) W
  rw [lst_str] at H12a H12b
  generalize putL qa = n12 at H12a H12b
  have H13a := Lib.hid fun W hL => cnfText_any (str qa) (by omega) W hL
  have H13b := Lib.hid fun W => ref2Text_any (str qa) (by omega) W
  rw [lst_str] at H13a H13b
  generalize textF qa = n13 at H13a H13b
  unfold maxLen at hl
  obtain ⟨k, hk, hk1, hk2⟩ := cut_at l.size 100 100 rfl
  clear hs ht ha hb sa sb
  go_enter Tryd.func8, Tryd.ntmps8
  go_wp2_with fail
  refine HEX.out.mono ?_
  rintro e w1 ⟨rfl, hB1⟩
  clear HEX
  go_wp2_with fail
  refine (HFa.out _).mono ?_
  rintro e w' ⟨rfl, rfl⟩
  go_wp2_with fail
  refine (HFb.out _).mono ?_
  rintro e w' ⟨rfl, rfl⟩
  go_wp2_with fail
  have hy : (l.extract 0 k).size ≤ 100 := by simp; omega
  generalize l.extract 0 k = y at hy ⊢
  clear hk hk1 hk2 hl
  have H3a := Lib.hid fun W hL => cnfParse_any y.data.toList (by simp; omega) W hL
  have H3b := Lib.hid fun W => ref2Parse_any y (by omega) W
  rw [str_toList] at H3a
  generalize parseF y.data.toList = r3 at H3a H3b
  refine (H1a.out _).mono ?_
  rintro e w2 ⟨rfl, hb2⟩
  have hB2 := hB1.trans (hb2.mono hB1.size)
  clear hB1 hb2
  go_wp2_with fail
  refine (H1b.out _).mono ?_
  rintro e w3 ⟨rfl, hb3⟩
  have hB3 := hB2.trans (hb3.mono hB2.size)
  clear hB2 hb3
  go_wp2_with fail
  refine (H2a.out _).mono ?_
  rintro e w4 ⟨rfl, hb4⟩
  have hB4 := hB3.trans (hb4.mono hB3.size)
  clear hB3 hb4
  go_wp2_with fail
  refine (H2b.out _).mono ?_
  rintro e w5 ⟨rfl, hb5⟩
  have hB5 := hB4.trans (hb5.mono hB4.size)
  clear hB4 hb5
  go_wp2_with fail
  refine (H3a.out _ (HL.out.behind hB5)).mono ?_
  rintro e w6 ⟨rfl, hb6⟩
  have hB6 := hB5.trans (hb6.mono hB5.size)
  clear hB5 hb6
  go_wp2_with fail
  refine (H3b.out _).mono ?_
  rintro e w7 ⟨rfl, hb7⟩
  have hB7 := hB6.trans (hb7.mono hB6.size)
  clear hB6 hb7
  go_wp2_with fail
  refine (H4a.out _).mono ?_
  rintro e w8 ⟨rfl, hb8⟩
  have hB8 := hB7.trans (hb8.mono hB7.size)
  clear hB7 hb8
  go_wp2_with fail
  refine (H4b.out _).mono ?_
  rintro e w9 ⟨rfl, hb9⟩
  have hB9 := hB8.trans (hb9.mono hB8.size)
  clear hB8 hb9
  go_wp2_with fail
  refine (H5a.out _).mono ?_
  rintro e w10 ⟨rfl, hb10⟩
  have hB10 := hB9.trans (hb10.mono hB9.size)
  clear hB9 hb10
  go_wp2_with fail
  refine (H5b.out _).mono ?_
  rintro e w11 ⟨rfl, hb11⟩
  have hB11 := hB10.trans (hb11.mono hB10.size)
  clear hB10 hb11
  go_wp2_with fail
  refine (H6a.out _).mono ?_
  rintro e w12 ⟨rfl, hb12⟩
  have hB12 := hB11.trans (hb12.mono hB11.size)
  clear hB11 hb12
  go_wp2_with fail
  refine (H6b.out _).mono ?_
  rintro e w13 ⟨rfl, hb13⟩
  have hB13 := hB12.trans (hb13.mono hB12.size)
  clear hB12 hb13
  go_wp2_with fail
  refine (H7a.out _).mono ?_
  rintro e w14 ⟨rfl, hb14⟩
  have hB14 := hB13.trans (hb14.mono hB13.size)
  clear hB13 hb14
  go_wp2_with fail
  refine (H7b.out _).mono ?_
  rintro e w15 ⟨rfl, hb15⟩
  have hB15 := hB14.trans (hb15.mono hB14.size)
  clear hB14 hb15
  go_wp2_with fail
  refine (H8a.out _).mono ?_
  rintro e w16 ⟨rfl, hb16⟩
  have hB16 := hB15.trans (hb16.mono hB15.size)
  clear hB15 hb16
  go_wp2_with fail
  refine (H8b.out _).mono ?_
  rintro e w17 ⟨rfl, hb17⟩
  have hB17 := hB16.trans (hb17.mono hB16.size)
  clear hB16 hb17
  go_wp2_with fail
  refine (H9a.out _).mono ?_
  rintro e w18 ⟨rfl, hb18⟩
  have hB18 := hB17.trans (hb18.mono hB17.size)
  clear hB17 hb18
  go_wp2_with fail
  refine (H9b.out _).mono ?_
  rintro e w19 ⟨rfl, hb19⟩
  have hB19 := hB18.trans (hb19.mono hB18.size)
  clear hB18 hb19
  go_wp2_with fail
  refine (H10a.out _).mono ?_
  rintro e w20 ⟨rfl, hb20⟩
  have hB20 := hB19.trans (hb20.mono hB19.size)
  clear hB19 hb20
  go_wp2_with fail
  refine (H10b.out _).mono ?_
  rintro e w21 ⟨rfl, hb21⟩
  have hB21 := hB20.trans (hb21.mono hB20.size)
  clear hB20 hb21
  go_wp2_with fail
  refine (H11a.out _).mono ?_
  rintro e w22 ⟨rfl, hb22⟩
  have hB22 := hB21.trans (hb22.mono hB21.size)
  clear hB21 hb22
  go_wp2_with fail
  refine (H11b.out _).mono ?_
  rintro e w23 ⟨rfl, hb23⟩
  have hB23 := hB22.trans (hb23.mono hB22.size)
  clear hB22 hb23
  go_wp2_with fail
  refine (H12a.out _).mono ?_
  rintro e w24 ⟨rfl, hb24⟩
  have hB24 := hB23.trans (hb24.mono hB23.size)
  clear hB23 hb24
  go_wp2_with fail
  refine (H12b.out _).mono ?_
  rintro e w25 ⟨rfl, hb25⟩
  have hB25 := hB24.trans (hb25.mono hB24.size)
  clear hB24 hb25
  go_wp2_with fail
  refine (H13a.out _ (HL.out.behind hB25)).mono ?_
  rintro e w26 ⟨rfl, hb26⟩
  have hB26 := hB25.trans (hb26.mono hB25.size)
  clear hB25 hb26
  go_wp2_with fail
  refine (H13b.out _).mono ?_
  rintro e w27 ⟨rfl, hb27⟩
  have hB27 := hB26.trans (hb27.mono hB26.size)
  clear hB26 hb27
  go_wp2
  go_ret
  exact ⟨by simp, hB27⟩
theorem walkCnfTells (a : ByteArray) (ha : a.size ≤ maxLen) (b : ByteArray) (hb : b.size ≤ maxLen) (x : Int) (hx : (Lit.int .u8 x).wf = true) (t : Int) (ht : (Lit.int .u64 t).wf = true) (s : ByteArray) (hs : s.size ≤ maxLen) (at' : Int) (_hat : (Lit.int .i64 at').wf = true) (l : ByteArray) (hl : l.size ≤ maxLen) (w : World) (hL : Letters w) :
    Calls Tryd.prog 8 #[.string a, .string b, .int .u8 x, .int .u64 t, .string s, .int .i64 at', .string l] w fun e w' => e = .returned (.bool true) ∧ Below w.heap.size w w' := by
  obtain ⟨x, rfl⟩ := u8_of hx
  have hb2 := bounds_u64 ht
  obtain ⟨t, rfl⟩ : ∃ n : Nat, t = n := ⟨t.toNat, by omega⟩
  exact walkPCnfTells a.data.toList ha b.data.toList hb x t (by unfold big; omega) s hs at' l hl w hL
end Go.Proofs.YtmldammikebhiaaDoor
