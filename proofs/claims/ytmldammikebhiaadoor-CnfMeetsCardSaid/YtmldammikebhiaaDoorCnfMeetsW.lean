/- The walk of CnfMeets. Conditions: the sizes of what came in; the table of letters holds its text. -/
import Derived.Test.YtmldammikebhiaaDoorEx2
import Derived.Test.YtmldammikebhiaaDoorCnfE
namespace Go.Proofs.YtmldammikebhiaaDoor
open Go.RowKit Go.Shelf
attribute [local go_sem] str_list
set_option maxRecDepth 100000 in
set_option maxHeartbeats 8000000 in
theorem walkPCnfMeets (a : List UInt8) (ha : a.length ≤ maxLen) (b : List UInt8) (hb : b.length ≤ maxLen) (c : List UInt8) (hc : c.length ≤ maxLen) (x : UInt8) (w : World) (hL : Letters w) :
    Calls Tryd.prog 5 #[.string (str a), .string (str b), .string (str c), .int .u8 (x.toNat : Int)] w fun e w' => e = .returned (.bool true) ∧ Below w.heap.size w w' := by
  have HEX := Lib.hid (examples2_any w hL)
  clear hL
  have HFa := Lib.hid fun W => few_any a ha 8 8 rfl W
  have hqa : (a.take 8).length ≤ 8 := by rw [List.length_take]; omega
  have HFb := Lib.hid fun W => few_any b hb 8 8 rfl W
  have hqb : (b.take 8).length ≤ 8 := by rw [List.length_take]; omega
  have HFc := Lib.hid fun W => few_any c hc 8 8 rfl W
  have hqc : (c.take 8).length ≤ 8 := by rw [List.length_take]; omega
  generalize hta : a.take 8 = qa at HFa hqa
  clear hta
  generalize htb : b.take 8 = qb at HFb hqb
  clear htb
  generalize htc : c.take 8 = qc at HFc hqc
  clear htc
  obtain ⟨m, hm⟩ : ∃ m, Lz.and qa qb = m := ⟨_, rfl⟩
  have lm : m.length ≤ 64 := by rw [← hm]; exact Lz.and_len _ _
  obtain ⟨j, hj⟩ : ∃ j, Lz.or qa qb = j := ⟨_, rfl⟩
  have lj : j.length ≤ 64 := by rw [← hj]; exact Lz.or_len _ _
  obtain ⟨sa, hsa⟩ : ∃ sa, Lz.sat qa x = sa := ⟨_, rfl⟩
  obtain ⟨sb, hsb⟩ : ∃ sb, Lz.sat qb x = sb := ⟨_, rfl⟩
  obtain ⟨i1, hi1⟩ : ∃ i1, Lz.implies qc qa = i1 := ⟨_, rfl⟩
  obtain ⟨i2, hi2⟩ : ∃ i2, Lz.implies qc qb = i2 := ⟨_, rfl⟩
  obtain ⟨o1, ho1⟩ : ∃ o1, Lz.implies qa qc = o1 := ⟨_, rfl⟩
  obtain ⟨o2, ho2⟩ : ∃ o2, Lz.implies qb qc = o2 := ⟨_, rfl⟩
  have H1 := Lib.hid (show Lz.and qa qb = m from hm)
  have H2 := Lib.hid (show Lz.or qa qb = j from hj)
  have HA := Lib.hid (show Lz.sat qa x = sa from hsa)
  have HB := Lib.hid (show Lz.sat qb x = sb from hsb)
  have HM := Lib.hid (show Lz.sat m x = (sa && sb) from by rw [← hm, ← hsa, ← hsb]; exact Lz.sat_and _ _ _)
  have HJ := Lib.hid (show Lz.sat j x = (sa || sb) from by rw [← hj, ← hsa, ← hsb]; exact Lz.sat_or _ _ _)
  have I1 := Lib.hid (show Lz.implies qc qa = i1 from hi1)
  have I2 := Lib.hid (show Lz.implies qc qb = i2 from hi2)
  have O1 := Lib.hid (show Lz.implies qa qc = o1 from ho1)
  have O2 := Lib.hid (show Lz.implies qb qc = o2 from ho2)
  have IM := Lib.hid (show Lz.implies qc m = (i1 && i2) from by rw [← hm, ← hi1, ← hi2]; exact Lz.implies_and _ _ _)
  have OJ := Lib.hid (show Lz.implies j qc = (o1 && o2) from by rw [← hj, ← ho1, ← ho2]; exact Lz.or_implies _ _ _)
  have R1 := Lib.hid (show (Lz.norm m == m) = true from by rw [beq_iff_eq, ← hm]; exact Lz.right_and _ _)
  have R2 := Lib.hid (show (Lz.norm j == j) = true from by rw [beq_iff_eq, ← hj]; exact Lz.right_or _ _)
  clear hm hj hsa hsb hi1 hi2 ho1 ho2
  go_enter Tryd.func5, Tryd.ntmps5
  go_wp2_with fail
  refine HEX.out.mono ?_
  rintro e w1 ⟨rfl, hB1⟩
  clear HEX
  go_wp2_with fail
  refine (HFa.out _).mono ?_
  rintro e w' ⟨rfl, rfl⟩
  go_wp2_with fail
  refine (HFb.out _).mono ?_
  rintro e w' ⟨rfl, rfl⟩
  go_wp2_with fail
  refine (HFc.out _).mono ?_
  rintro e w' ⟨rfl, rfl⟩
  go_wp2_with fail
  refine (andE _ qa qb m (by omega) (by omega) H1.out).mono ?_
  rintro e w2 ⟨rfl, hb2⟩
  have hB2 := hB1.trans (hb2.mono hB1.size)
  clear hB1 hb2
  go_wp2_with fail
  refine (orE _ qa qb j (by omega) (by omega) H2.out).mono ?_
  rintro e w3 ⟨rfl, hb3⟩
  have hB3 := hB2.trans (hb3.mono hB2.size)
  clear hB2 hb3
  cases sa with
  | true =>
    cases sb with
    | true =>
      go_wp2_with fail
      refine (satE _ m true _ x rfl (by omega) HM.out).mono ?_
      rintro e w4 ⟨rfl, hb4⟩
      have hB4 := hB3.trans (hb4.mono hB3.size)
      clear hB3 hb4
      go_wp2_with fail
      refine (satE _ qa true _ x rfl (by omega) HA.out).mono ?_
      rintro e w5 ⟨rfl, hb5⟩
      have hB5 := hB4.trans (hb5.mono hB4.size)
      clear hB4 hb5
      go_wp2_with fail
      refine (satE _ qb true _ x rfl (by omega) HB.out).mono ?_
      rintro e w6 ⟨rfl, hb6⟩
      have hB6 := hB5.trans (hb6.mono hB5.size)
      clear hB5 hb6
      go_wp2_with fail
      refine (satE _ j true _ x rfl (by omega) HJ.out).mono ?_
      rintro e w7 ⟨rfl, hb7⟩
      have hB7 := hB6.trans (hb7.mono hB6.size)
      clear hB6 hb7
      go_wp2_with fail
      refine (satE _ qa true _ x rfl (by omega) HA.out).mono ?_
      rintro e w8 ⟨rfl, hb8⟩
      have hB8 := hB7.trans (hb8.mono hB7.size)
      clear hB7 hb8
      cases i1 with
      | true =>
        cases i2 with
        | true =>
          go_wp2_with fail
          refine (impE _ qc qa true (by omega) (by omega) I1.out).mono ?_
          rintro e w9 ⟨rfl, hb9⟩
          have hB9 := hB8.trans (hb9.mono hB8.size)
          clear hB8 hb9
          go_wp2_with fail
          refine (impE _ qc qb true (by omega) (by omega) I2.out).mono ?_
          rintro e w10 ⟨rfl, hb10⟩
          have hB10 := hB9.trans (hb10.mono hB9.size)
          clear hB9 hb10
          cases o1 with
          | true =>
            cases o2 with
            | true =>
              go_wp2_with fail
              refine (impE _ qa qc true (by omega) (by omega) O1.out).mono ?_
              rintro e w11 ⟨rfl, hb11⟩
              have hB11 := hB10.trans (hb11.mono hB10.size)
              clear hB10 hb11
              go_wp2_with fail
              refine (impE _ qb qc true (by omega) (by omega) O2.out).mono ?_
              rintro e w12 ⟨rfl, hb12⟩
              have hB12 := hB11.trans (hb12.mono hB11.size)
              clear hB11 hb12
              go_wp2_with fail
              refine (rightE _ m true (by omega) R1.out).mono ?_
              rintro e w13 ⟨rfl, hb13⟩
              have hB13 := hB12.trans (hb13.mono hB12.size)
              clear hB12 hb13
              go_wp2_with fail
              refine (rightE _ j true (by omega) R2.out).mono ?_
              rintro e w14 ⟨rfl, hb14⟩
              have hB14 := hB13.trans (hb14.mono hB13.size)
              clear hB13 hb14
              go_wp2_with fail
              refine (impE _ qc m true (by omega) (by omega) IM.out).mono ?_
              rintro e w15 ⟨rfl, hb15⟩
              have hB15 := hB14.trans (hb15.mono hB14.size)
              clear hB14 hb15
              go_wp2_with fail
              refine (impE _ j qc true (by omega) (by omega) OJ.out).mono ?_
              rintro e w16 ⟨rfl, hb16⟩
              have hB16 := hB15.trans (hb16.mono hB15.size)
              clear hB15 hb16
              go_wp2
              go_ret
              exact ⟨rfl, hB16⟩
            | false =>
              go_wp2_with fail
              refine (impE _ qa qc true (by omega) (by omega) O1.out).mono ?_
              rintro e w11 ⟨rfl, hb11⟩
              have hB11 := hB10.trans (hb11.mono hB10.size)
              clear hB10 hb11
              go_wp2_with fail
              refine (impE _ qb qc false (by omega) (by omega) O2.out).mono ?_
              rintro e w12 ⟨rfl, hb12⟩
              have hB12 := hB11.trans (hb12.mono hB11.size)
              clear hB11 hb12
              go_wp2_with fail
              refine (rightE _ m true (by omega) R1.out).mono ?_
              rintro e w13 ⟨rfl, hb13⟩
              have hB13 := hB12.trans (hb13.mono hB12.size)
              clear hB12 hb13
              go_wp2_with fail
              refine (rightE _ j true (by omega) R2.out).mono ?_
              rintro e w14 ⟨rfl, hb14⟩
              have hB14 := hB13.trans (hb14.mono hB13.size)
              clear hB13 hb14
              go_wp2_with fail
              refine (impE _ qc m true (by omega) (by omega) IM.out).mono ?_
              rintro e w15 ⟨rfl, hb15⟩
              have hB15 := hB14.trans (hb15.mono hB14.size)
              clear hB14 hb15
              go_wp2_with fail
              refine (impE _ j qc false (by omega) (by omega) OJ.out).mono ?_
              rintro e w16 ⟨rfl, hb16⟩
              have hB16 := hB15.trans (hb16.mono hB15.size)
              clear hB15 hb16
              go_wp2
              go_ret
              exact ⟨rfl, hB16⟩
          | false =>
            go_wp2_with fail
            refine (impE _ qa qc false (by omega) (by omega) O1.out).mono ?_
            rintro e w11 ⟨rfl, hb11⟩
            have hB11 := hB10.trans (hb11.mono hB10.size)
            clear hB10 hb11
            go_wp2_with fail
            refine (rightE _ m true (by omega) R1.out).mono ?_
            rintro e w12 ⟨rfl, hb12⟩
            have hB12 := hB11.trans (hb12.mono hB11.size)
            clear hB11 hb12
            go_wp2_with fail
            refine (rightE _ j true (by omega) R2.out).mono ?_
            rintro e w13 ⟨rfl, hb13⟩
            have hB13 := hB12.trans (hb13.mono hB12.size)
            clear hB12 hb13
            go_wp2_with fail
            refine (impE _ qc m true (by omega) (by omega) IM.out).mono ?_
            rintro e w14 ⟨rfl, hb14⟩
            have hB14 := hB13.trans (hb14.mono hB13.size)
            clear hB13 hb14
            go_wp2_with fail
            refine (impE _ j qc false (by omega) (by omega) OJ.out).mono ?_
            rintro e w15 ⟨rfl, hb15⟩
            have hB15 := hB14.trans (hb15.mono hB14.size)
            clear hB14 hb15
            go_wp2
            go_ret
            exact ⟨rfl, hB15⟩
        | false =>
          go_wp2_with fail
          refine (impE _ qc qa true (by omega) (by omega) I1.out).mono ?_
          rintro e w9 ⟨rfl, hb9⟩
          have hB9 := hB8.trans (hb9.mono hB8.size)
          clear hB8 hb9
          go_wp2_with fail
          refine (impE _ qc qb false (by omega) (by omega) I2.out).mono ?_
          rintro e w10 ⟨rfl, hb10⟩
          have hB10 := hB9.trans (hb10.mono hB9.size)
          clear hB9 hb10
          cases o1 with
          | true =>
            cases o2 with
            | true =>
              go_wp2_with fail
              refine (impE _ qa qc true (by omega) (by omega) O1.out).mono ?_
              rintro e w11 ⟨rfl, hb11⟩
              have hB11 := hB10.trans (hb11.mono hB10.size)
              clear hB10 hb11
              go_wp2_with fail
              refine (impE _ qb qc true (by omega) (by omega) O2.out).mono ?_
              rintro e w12 ⟨rfl, hb12⟩
              have hB12 := hB11.trans (hb12.mono hB11.size)
              clear hB11 hb12
              go_wp2_with fail
              refine (rightE _ m true (by omega) R1.out).mono ?_
              rintro e w13 ⟨rfl, hb13⟩
              have hB13 := hB12.trans (hb13.mono hB12.size)
              clear hB12 hb13
              go_wp2_with fail
              refine (rightE _ j true (by omega) R2.out).mono ?_
              rintro e w14 ⟨rfl, hb14⟩
              have hB14 := hB13.trans (hb14.mono hB13.size)
              clear hB13 hb14
              go_wp2_with fail
              refine (impE _ qc m false (by omega) (by omega) IM.out).mono ?_
              rintro e w15 ⟨rfl, hb15⟩
              have hB15 := hB14.trans (hb15.mono hB14.size)
              clear hB14 hb15
              go_wp2_with fail
              refine (impE _ j qc true (by omega) (by omega) OJ.out).mono ?_
              rintro e w16 ⟨rfl, hb16⟩
              have hB16 := hB15.trans (hb16.mono hB15.size)
              clear hB15 hb16
              go_wp2
              go_ret
              exact ⟨rfl, hB16⟩
            | false =>
              go_wp2_with fail
              refine (impE _ qa qc true (by omega) (by omega) O1.out).mono ?_
              rintro e w11 ⟨rfl, hb11⟩
              have hB11 := hB10.trans (hb11.mono hB10.size)
              clear hB10 hb11
              go_wp2_with fail
              refine (impE _ qb qc false (by omega) (by omega) O2.out).mono ?_
              rintro e w12 ⟨rfl, hb12⟩
              have hB12 := hB11.trans (hb12.mono hB11.size)
              clear hB11 hb12
              go_wp2_with fail
              refine (rightE _ m true (by omega) R1.out).mono ?_
              rintro e w13 ⟨rfl, hb13⟩
              have hB13 := hB12.trans (hb13.mono hB12.size)
              clear hB12 hb13
              go_wp2_with fail
              refine (rightE _ j true (by omega) R2.out).mono ?_
              rintro e w14 ⟨rfl, hb14⟩
              have hB14 := hB13.trans (hb14.mono hB13.size)
              clear hB13 hb14
              go_wp2_with fail
              refine (impE _ qc m false (by omega) (by omega) IM.out).mono ?_
              rintro e w15 ⟨rfl, hb15⟩
              have hB15 := hB14.trans (hb15.mono hB14.size)
              clear hB14 hb15
              go_wp2_with fail
              refine (impE _ j qc false (by omega) (by omega) OJ.out).mono ?_
              rintro e w16 ⟨rfl, hb16⟩
              have hB16 := hB15.trans (hb16.mono hB15.size)
              clear hB15 hb16
              go_wp2
              go_ret
              exact ⟨rfl, hB16⟩
          | false =>
            go_wp2_with fail
            refine (impE _ qa qc false (by omega) (by omega) O1.out).mono ?_
            rintro e w11 ⟨rfl, hb11⟩
            have hB11 := hB10.trans (hb11.mono hB10.size)
            clear hB10 hb11
            go_wp2_with fail
            refine (rightE _ m true (by omega) R1.out).mono ?_
            rintro e w12 ⟨rfl, hb12⟩
            have hB12 := hB11.trans (hb12.mono hB11.size)
            clear hB11 hb12
            go_wp2_with fail
            refine (rightE _ j true (by omega) R2.out).mono ?_
            rintro e w13 ⟨rfl, hb13⟩
            have hB13 := hB12.trans (hb13.mono hB12.size)
            clear hB12 hb13
            go_wp2_with fail
            refine (impE _ qc m false (by omega) (by omega) IM.out).mono ?_
            rintro e w14 ⟨rfl, hb14⟩
            have hB14 := hB13.trans (hb14.mono hB13.size)
            clear hB13 hb14
            go_wp2_with fail
            refine (impE _ j qc false (by omega) (by omega) OJ.out).mono ?_
            rintro e w15 ⟨rfl, hb15⟩
            have hB15 := hB14.trans (hb15.mono hB14.size)
            clear hB14 hb15
            go_wp2
            go_ret
            exact ⟨rfl, hB15⟩
      | false =>
        go_wp2_with fail
        refine (impE _ qc qa false (by omega) (by omega) I1.out).mono ?_
        rintro e w9 ⟨rfl, hb9⟩
        have hB9 := hB8.trans (hb9.mono hB8.size)
        clear hB8 hb9
        cases o1 with
        | true =>
          cases o2 with
          | true =>
            go_wp2_with fail
            refine (impE _ qa qc true (by omega) (by omega) O1.out).mono ?_
            rintro e w10 ⟨rfl, hb10⟩
            have hB10 := hB9.trans (hb10.mono hB9.size)
            clear hB9 hb10
            go_wp2_with fail
            refine (impE _ qb qc true (by omega) (by omega) O2.out).mono ?_
            rintro e w11 ⟨rfl, hb11⟩
            have hB11 := hB10.trans (hb11.mono hB10.size)
            clear hB10 hb11
            go_wp2_with fail
            refine (rightE _ m true (by omega) R1.out).mono ?_
            rintro e w12 ⟨rfl, hb12⟩
            have hB12 := hB11.trans (hb12.mono hB11.size)
            clear hB11 hb12
            go_wp2_with fail
            refine (rightE _ j true (by omega) R2.out).mono ?_
            rintro e w13 ⟨rfl, hb13⟩
            have hB13 := hB12.trans (hb13.mono hB12.size)
            clear hB12 hb13
            go_wp2_with fail
            refine (impE _ qc m false (by omega) (by omega) IM.out).mono ?_
            rintro e w14 ⟨rfl, hb14⟩
            have hB14 := hB13.trans (hb14.mono hB13.size)
            clear hB13 hb14
            go_wp2_with fail
            refine (impE _ j qc true (by omega) (by omega) OJ.out).mono ?_
            rintro e w15 ⟨rfl, hb15⟩
            have hB15 := hB14.trans (hb15.mono hB14.size)
            clear hB14 hb15
            go_wp2
            go_ret
            exact ⟨rfl, hB15⟩
          | false =>
            go_wp2_with fail
            refine (impE _ qa qc true (by omega) (by omega) O1.out).mono ?_
            rintro e w10 ⟨rfl, hb10⟩
            have hB10 := hB9.trans (hb10.mono hB9.size)
            clear hB9 hb10
            go_wp2_with fail
            refine (impE _ qb qc false (by omega) (by omega) O2.out).mono ?_
            rintro e w11 ⟨rfl, hb11⟩
            have hB11 := hB10.trans (hb11.mono hB10.size)
            clear hB10 hb11
            go_wp2_with fail
            refine (rightE _ m true (by omega) R1.out).mono ?_
            rintro e w12 ⟨rfl, hb12⟩
            have hB12 := hB11.trans (hb12.mono hB11.size)
            clear hB11 hb12
            go_wp2_with fail
            refine (rightE _ j true (by omega) R2.out).mono ?_
            rintro e w13 ⟨rfl, hb13⟩
            have hB13 := hB12.trans (hb13.mono hB12.size)
            clear hB12 hb13
            go_wp2_with fail
            refine (impE _ qc m false (by omega) (by omega) IM.out).mono ?_
            rintro e w14 ⟨rfl, hb14⟩
            have hB14 := hB13.trans (hb14.mono hB13.size)
            clear hB13 hb14
            go_wp2_with fail
            refine (impE _ j qc false (by omega) (by omega) OJ.out).mono ?_
            rintro e w15 ⟨rfl, hb15⟩
            have hB15 := hB14.trans (hb15.mono hB14.size)
            clear hB14 hb15
            go_wp2
            go_ret
            exact ⟨rfl, hB15⟩
        | false =>
          go_wp2_with fail
          refine (impE _ qa qc false (by omega) (by omega) O1.out).mono ?_
          rintro e w10 ⟨rfl, hb10⟩
          have hB10 := hB9.trans (hb10.mono hB9.size)
          clear hB9 hb10
          go_wp2_with fail
          refine (rightE _ m true (by omega) R1.out).mono ?_
          rintro e w11 ⟨rfl, hb11⟩
          have hB11 := hB10.trans (hb11.mono hB10.size)
          clear hB10 hb11
          go_wp2_with fail
          refine (rightE _ j true (by omega) R2.out).mono ?_
          rintro e w12 ⟨rfl, hb12⟩
          have hB12 := hB11.trans (hb12.mono hB11.size)
          clear hB11 hb12
          go_wp2_with fail
          refine (impE _ qc m false (by omega) (by omega) IM.out).mono ?_
          rintro e w13 ⟨rfl, hb13⟩
          have hB13 := hB12.trans (hb13.mono hB12.size)
          clear hB12 hb13
          go_wp2_with fail
          refine (impE _ j qc false (by omega) (by omega) OJ.out).mono ?_
          rintro e w14 ⟨rfl, hb14⟩
          have hB14 := hB13.trans (hb14.mono hB13.size)
          clear hB13 hb14
          go_wp2
          go_ret
          exact ⟨rfl, hB14⟩
    | false =>
      go_wp2_with fail
      refine (satE _ m false _ x rfl (by omega) HM.out).mono ?_
      rintro e w4 ⟨rfl, hb4⟩
      have hB4 := hB3.trans (hb4.mono hB3.size)
      clear hB3 hb4
      go_wp2_with fail
      refine (satE _ qa true _ x rfl (by omega) HA.out).mono ?_
      rintro e w5 ⟨rfl, hb5⟩
      have hB5 := hB4.trans (hb5.mono hB4.size)
      clear hB4 hb5
      go_wp2_with fail
      refine (satE _ qb false _ x rfl (by omega) HB.out).mono ?_
      rintro e w6 ⟨rfl, hb6⟩
      have hB6 := hB5.trans (hb6.mono hB5.size)
      clear hB5 hb6
      go_wp2_with fail
      refine (satE _ j true _ x rfl (by omega) HJ.out).mono ?_
      rintro e w7 ⟨rfl, hb7⟩
      have hB7 := hB6.trans (hb7.mono hB6.size)
      clear hB6 hb7
      go_wp2_with fail
      refine (satE _ qa true _ x rfl (by omega) HA.out).mono ?_
      rintro e w8 ⟨rfl, hb8⟩
      have hB8 := hB7.trans (hb8.mono hB7.size)
      clear hB7 hb8
      cases i1 with
      | true =>
        cases i2 with
        | true =>
          go_wp2_with fail
          refine (impE _ qc qa true (by omega) (by omega) I1.out).mono ?_
          rintro e w9 ⟨rfl, hb9⟩
          have hB9 := hB8.trans (hb9.mono hB8.size)
          clear hB8 hb9
          go_wp2_with fail
          refine (impE _ qc qb true (by omega) (by omega) I2.out).mono ?_
          rintro e w10 ⟨rfl, hb10⟩
          have hB10 := hB9.trans (hb10.mono hB9.size)
          clear hB9 hb10
          cases o1 with
          | true =>
            cases o2 with
            | true =>
              go_wp2_with fail
              refine (impE _ qa qc true (by omega) (by omega) O1.out).mono ?_
              rintro e w11 ⟨rfl, hb11⟩
              have hB11 := hB10.trans (hb11.mono hB10.size)
              clear hB10 hb11
              go_wp2_with fail
              refine (impE _ qb qc true (by omega) (by omega) O2.out).mono ?_
              rintro e w12 ⟨rfl, hb12⟩
              have hB12 := hB11.trans (hb12.mono hB11.size)
              clear hB11 hb12
              go_wp2_with fail
              refine (rightE _ m true (by omega) R1.out).mono ?_
              rintro e w13 ⟨rfl, hb13⟩
              have hB13 := hB12.trans (hb13.mono hB12.size)
              clear hB12 hb13
              go_wp2_with fail
              refine (rightE _ j true (by omega) R2.out).mono ?_
              rintro e w14 ⟨rfl, hb14⟩
              have hB14 := hB13.trans (hb14.mono hB13.size)
              clear hB13 hb14
              go_wp2_with fail
              refine (impE _ qc m true (by omega) (by omega) IM.out).mono ?_
              rintro e w15 ⟨rfl, hb15⟩
              have hB15 := hB14.trans (hb15.mono hB14.size)
              clear hB14 hb15
              go_wp2_with fail
              refine (impE _ j qc true (by omega) (by omega) OJ.out).mono ?_
              rintro e w16 ⟨rfl, hb16⟩
              have hB16 := hB15.trans (hb16.mono hB15.size)
              clear hB15 hb16
              go_wp2
              go_ret
              exact ⟨rfl, hB16⟩
            | false =>
              go_wp2_with fail
              refine (impE _ qa qc true (by omega) (by omega) O1.out).mono ?_
              rintro e w11 ⟨rfl, hb11⟩
              have hB11 := hB10.trans (hb11.mono hB10.size)
              clear hB10 hb11
              go_wp2_with fail
              refine (impE _ qb qc false (by omega) (by omega) O2.out).mono ?_
              rintro e w12 ⟨rfl, hb12⟩
              have hB12 := hB11.trans (hb12.mono hB11.size)
              clear hB11 hb12
              go_wp2_with fail
              refine (rightE _ m true (by omega) R1.out).mono ?_
              rintro e w13 ⟨rfl, hb13⟩
              have hB13 := hB12.trans (hb13.mono hB12.size)
              clear hB12 hb13
              go_wp2_with fail
              refine (rightE _ j true (by omega) R2.out).mono ?_
              rintro e w14 ⟨rfl, hb14⟩
              have hB14 := hB13.trans (hb14.mono hB13.size)
              clear hB13 hb14
              go_wp2_with fail
              refine (impE _ qc m true (by omega) (by omega) IM.out).mono ?_
              rintro e w15 ⟨rfl, hb15⟩
              have hB15 := hB14.trans (hb15.mono hB14.size)
              clear hB14 hb15
              go_wp2_with fail
              refine (impE _ j qc false (by omega) (by omega) OJ.out).mono ?_
              rintro e w16 ⟨rfl, hb16⟩
              have hB16 := hB15.trans (hb16.mono hB15.size)
              clear hB15 hb16
              go_wp2
              go_ret
              exact ⟨rfl, hB16⟩
          | false =>
            go_wp2_with fail
            refine (impE _ qa qc false (by omega) (by omega) O1.out).mono ?_
            rintro e w11 ⟨rfl, hb11⟩
            have hB11 := hB10.trans (hb11.mono hB10.size)
            clear hB10 hb11
            go_wp2_with fail
            refine (rightE _ m true (by omega) R1.out).mono ?_
            rintro e w12 ⟨rfl, hb12⟩
            have hB12 := hB11.trans (hb12.mono hB11.size)
            clear hB11 hb12
            go_wp2_with fail
            refine (rightE _ j true (by omega) R2.out).mono ?_
            rintro e w13 ⟨rfl, hb13⟩
            have hB13 := hB12.trans (hb13.mono hB12.size)
            clear hB12 hb13
            go_wp2_with fail
            refine (impE _ qc m true (by omega) (by omega) IM.out).mono ?_
            rintro e w14 ⟨rfl, hb14⟩
            have hB14 := hB13.trans (hb14.mono hB13.size)
            clear hB13 hb14
            go_wp2_with fail
            refine (impE _ j qc false (by omega) (by omega) OJ.out).mono ?_
            rintro e w15 ⟨rfl, hb15⟩
            have hB15 := hB14.trans (hb15.mono hB14.size)
            clear hB14 hb15
            go_wp2
            go_ret
            exact ⟨rfl, hB15⟩
        | false =>
          go_wp2_with fail
          refine (impE _ qc qa true (by omega) (by omega) I1.out).mono ?_
          rintro e w9 ⟨rfl, hb9⟩
          have hB9 := hB8.trans (hb9.mono hB8.size)
          clear hB8 hb9
          go_wp2_with fail
          refine (impE _ qc qb false (by omega) (by omega) I2.out).mono ?_
          rintro e w10 ⟨rfl, hb10⟩
          have hB10 := hB9.trans (hb10.mono hB9.size)
          clear hB9 hb10
          cases o1 with
          | true =>
            cases o2 with
            | true =>
              go_wp2_with fail
              refine (impE _ qa qc true (by omega) (by omega) O1.out).mono ?_
              rintro e w11 ⟨rfl, hb11⟩
              have hB11 := hB10.trans (hb11.mono hB10.size)
              clear hB10 hb11
              go_wp2_with fail
              refine (impE _ qb qc true (by omega) (by omega) O2.out).mono ?_
              rintro e w12 ⟨rfl, hb12⟩
              have hB12 := hB11.trans (hb12.mono hB11.size)
              clear hB11 hb12
              go_wp2_with fail
              refine (rightE _ m true (by omega) R1.out).mono ?_
              rintro e w13 ⟨rfl, hb13⟩
              have hB13 := hB12.trans (hb13.mono hB12.size)
              clear hB12 hb13
              go_wp2_with fail
              refine (rightE _ j true (by omega) R2.out).mono ?_
              rintro e w14 ⟨rfl, hb14⟩
              have hB14 := hB13.trans (hb14.mono hB13.size)
              clear hB13 hb14
              go_wp2_with fail
              refine (impE _ qc m false (by omega) (by omega) IM.out).mono ?_
              rintro e w15 ⟨rfl, hb15⟩
              have hB15 := hB14.trans (hb15.mono hB14.size)
              clear hB14 hb15
              go_wp2_with fail
              refine (impE _ j qc true (by omega) (by omega) OJ.out).mono ?_
              rintro e w16 ⟨rfl, hb16⟩
              have hB16 := hB15.trans (hb16.mono hB15.size)
              clear hB15 hb16
              go_wp2
              go_ret
              exact ⟨rfl, hB16⟩
            | false =>
              go_wp2_with fail
              refine (impE _ qa qc true (by omega) (by omega) O1.out).mono ?_
              rintro e w11 ⟨rfl, hb11⟩
              have hB11 := hB10.trans (hb11.mono hB10.size)
              clear hB10 hb11
              go_wp2_with fail
              refine (impE _ qb qc false (by omega) (by omega) O2.out).mono ?_
              rintro e w12 ⟨rfl, hb12⟩
              have hB12 := hB11.trans (hb12.mono hB11.size)
              clear hB11 hb12
              go_wp2_with fail
              refine (rightE _ m true (by omega) R1.out).mono ?_
              rintro e w13 ⟨rfl, hb13⟩
              have hB13 := hB12.trans (hb13.mono hB12.size)
              clear hB12 hb13
              go_wp2_with fail
              refine (rightE _ j true (by omega) R2.out).mono ?_
              rintro e w14 ⟨rfl, hb14⟩
              have hB14 := hB13.trans (hb14.mono hB13.size)
              clear hB13 hb14
              go_wp2_with fail
              refine (impE _ qc m false (by omega) (by omega) IM.out).mono ?_
              rintro e w15 ⟨rfl, hb15⟩
              have hB15 := hB14.trans (hb15.mono hB14.size)
              clear hB14 hb15
              go_wp2_with fail
              refine (impE _ j qc false (by omega) (by omega) OJ.out).mono ?_
              rintro e w16 ⟨rfl, hb16⟩
              have hB16 := hB15.trans (hb16.mono hB15.size)
              clear hB15 hb16
              go_wp2
              go_ret
              exact ⟨rfl, hB16⟩
          | false =>
            go_wp2_with fail
            refine (impE _ qa qc false (by omega) (by omega) O1.out).mono ?_
            rintro e w11 ⟨rfl, hb11⟩
            have hB11 := hB10.trans (hb11.mono hB10.size)
            clear hB10 hb11
            go_wp2_with fail
            refine (rightE _ m true (by omega) R1.out).mono ?_
            rintro e w12 ⟨rfl, hb12⟩
            have hB12 := hB11.trans (hb12.mono hB11.size)
            clear hB11 hb12
            go_wp2_with fail
            refine (rightE _ j true (by omega) R2.out).mono ?_
            rintro e w13 ⟨rfl, hb13⟩
            have hB13 := hB12.trans (hb13.mono hB12.size)
            clear hB12 hb13
            go_wp2_with fail
            refine (impE _ qc m false (by omega) (by omega) IM.out).mono ?_
            rintro e w14 ⟨rfl, hb14⟩
            have hB14 := hB13.trans (hb14.mono hB13.size)
            clear hB13 hb14
            go_wp2_with fail
            refine (impE _ j qc false (by omega) (by omega) OJ.out).mono ?_
            rintro e w15 ⟨rfl, hb15⟩
            have hB15 := hB14.trans (hb15.mono hB14.size)
            clear hB14 hb15
            go_wp2
            go_ret
            exact ⟨rfl, hB15⟩
      | false =>
        go_wp2_with fail
        refine (impE _ qc qa false (by omega) (by omega) I1.out).mono ?_
        rintro e w9 ⟨rfl, hb9⟩
        have hB9 := hB8.trans (hb9.mono hB8.size)
        clear hB8 hb9
        cases o1 with
        | true =>
          cases o2 with
          | true =>
            go_wp2_with fail
            refine (impE _ qa qc true (by omega) (by omega) O1.out).mono ?_
            rintro e w10 ⟨rfl, hb10⟩
            have hB10 := hB9.trans (hb10.mono hB9.size)
            clear hB9 hb10
            go_wp2_with fail
            refine (impE _ qb qc true (by omega) (by omega) O2.out).mono ?_
            rintro e w11 ⟨rfl, hb11⟩
            have hB11 := hB10.trans (hb11.mono hB10.size)
            clear hB10 hb11
            go_wp2_with fail
            refine (rightE _ m true (by omega) R1.out).mono ?_
            rintro e w12 ⟨rfl, hb12⟩
            have hB12 := hB11.trans (hb12.mono hB11.size)
            clear hB11 hb12
            go_wp2_with fail
            refine (rightE _ j true (by omega) R2.out).mono ?_
            rintro e w13 ⟨rfl, hb13⟩
            have hB13 := hB12.trans (hb13.mono hB12.size)
            clear hB12 hb13
            go_wp2_with fail
            refine (impE _ qc m false (by omega) (by omega) IM.out).mono ?_
            rintro e w14 ⟨rfl, hb14⟩
            have hB14 := hB13.trans (hb14.mono hB13.size)
            clear hB13 hb14
            go_wp2_with fail
            refine (impE _ j qc true (by omega) (by omega) OJ.out).mono ?_
            rintro e w15 ⟨rfl, hb15⟩
            have hB15 := hB14.trans (hb15.mono hB14.size)
            clear hB14 hb15
            go_wp2
            go_ret
            exact ⟨rfl, hB15⟩
          | false =>
            go_wp2_with fail
            refine (impE _ qa qc true (by omega) (by omega) O1.out).mono ?_
            rintro e w10 ⟨rfl, hb10⟩
            have hB10 := hB9.trans (hb10.mono hB9.size)
            clear hB9 hb10
            go_wp2_with fail
            refine (impE _ qb qc false (by omega) (by omega) O2.out).mono ?_
            rintro e w11 ⟨rfl, hb11⟩
            have hB11 := hB10.trans (hb11.mono hB10.size)
            clear hB10 hb11
            go_wp2_with fail
            refine (rightE _ m true (by omega) R1.out).mono ?_
            rintro e w12 ⟨rfl, hb12⟩
            have hB12 := hB11.trans (hb12.mono hB11.size)
            clear hB11 hb12
            go_wp2_with fail
            refine (rightE _ j true (by omega) R2.out).mono ?_
            rintro e w13 ⟨rfl, hb13⟩
            have hB13 := hB12.trans (hb13.mono hB12.size)
            clear hB12 hb13
            go_wp2_with fail
            refine (impE _ qc m false (by omega) (by omega) IM.out).mono ?_
            rintro e w14 ⟨rfl, hb14⟩
            have hB14 := hB13.trans (hb14.mono hB13.size)
            clear hB13 hb14
            go_wp2_with fail
            refine (impE _ j qc false (by omega) (by omega) OJ.out).mono ?_
            rintro e w15 ⟨rfl, hb15⟩
            have hB15 := hB14.trans (hb15.mono hB14.size)
            clear hB14 hb15
            go_wp2
            go_ret
            exact ⟨rfl, hB15⟩
        | false =>
          go_wp2_with fail
          refine (impE _ qa qc false (by omega) (by omega) O1.out).mono ?_
          rintro e w10 ⟨rfl, hb10⟩
          have hB10 := hB9.trans (hb10.mono hB9.size)
          clear hB9 hb10
          go_wp2_with fail
          refine (rightE _ m true (by omega) R1.out).mono ?_
          rintro e w11 ⟨rfl, hb11⟩
          have hB11 := hB10.trans (hb11.mono hB10.size)
          clear hB10 hb11
          go_wp2_with fail
          refine (rightE _ j true (by omega) R2.out).mono ?_
          rintro e w12 ⟨rfl, hb12⟩
          have hB12 := hB11.trans (hb12.mono hB11.size)
          clear hB11 hb12
          go_wp2_with fail
          refine (impE _ qc m false (by omega) (by omega) IM.out).mono ?_
          rintro e w13 ⟨rfl, hb13⟩
          have hB13 := hB12.trans (hb13.mono hB12.size)
          clear hB12 hb13
          go_wp2_with fail
          refine (impE _ j qc false (by omega) (by omega) OJ.out).mono ?_
          rintro e w14 ⟨rfl, hb14⟩
          have hB14 := hB13.trans (hb14.mono hB13.size)
          clear hB13 hb14
          go_wp2
          go_ret
          exact ⟨rfl, hB14⟩
  | false =>
    cases sb with
    | true =>
      go_wp2_with fail
      refine (satE _ m false _ x rfl (by omega) HM.out).mono ?_
      rintro e w4 ⟨rfl, hb4⟩
      have hB4 := hB3.trans (hb4.mono hB3.size)
      clear hB3 hb4
      go_wp2_with fail
      refine (satE _ qa false _ x rfl (by omega) HA.out).mono ?_
      rintro e w5 ⟨rfl, hb5⟩
      have hB5 := hB4.trans (hb5.mono hB4.size)
      clear hB4 hb5
      go_wp2_with fail
      refine (satE _ j true _ x rfl (by omega) HJ.out).mono ?_
      rintro e w6 ⟨rfl, hb6⟩
      have hB6 := hB5.trans (hb6.mono hB5.size)
      clear hB5 hb6
      go_wp2_with fail
      refine (satE _ qa false _ x rfl (by omega) HA.out).mono ?_
      rintro e w7 ⟨rfl, hb7⟩
      have hB7 := hB6.trans (hb7.mono hB6.size)
      clear hB6 hb7
      go_wp2_with fail
      refine (satE _ qb true _ x rfl (by omega) HB.out).mono ?_
      rintro e w8 ⟨rfl, hb8⟩
      have hB8 := hB7.trans (hb8.mono hB7.size)
      clear hB7 hb8
      cases i1 with
      | true =>
        cases i2 with
        | true =>
          go_wp2_with fail
          refine (impE _ qc qa true (by omega) (by omega) I1.out).mono ?_
          rintro e w9 ⟨rfl, hb9⟩
          have hB9 := hB8.trans (hb9.mono hB8.size)
          clear hB8 hb9
          go_wp2_with fail
          refine (impE _ qc qb true (by omega) (by omega) I2.out).mono ?_
          rintro e w10 ⟨rfl, hb10⟩
          have hB10 := hB9.trans (hb10.mono hB9.size)
          clear hB9 hb10
          cases o1 with
          | true =>
            cases o2 with
            | true =>
              go_wp2_with fail
              refine (impE _ qa qc true (by omega) (by omega) O1.out).mono ?_
              rintro e w11 ⟨rfl, hb11⟩
              have hB11 := hB10.trans (hb11.mono hB10.size)
              clear hB10 hb11
              go_wp2_with fail
              refine (impE _ qb qc true (by omega) (by omega) O2.out).mono ?_
              rintro e w12 ⟨rfl, hb12⟩
              have hB12 := hB11.trans (hb12.mono hB11.size)
              clear hB11 hb12
              go_wp2_with fail
              refine (rightE _ m true (by omega) R1.out).mono ?_
              rintro e w13 ⟨rfl, hb13⟩
              have hB13 := hB12.trans (hb13.mono hB12.size)
              clear hB12 hb13
              go_wp2_with fail
              refine (rightE _ j true (by omega) R2.out).mono ?_
              rintro e w14 ⟨rfl, hb14⟩
              have hB14 := hB13.trans (hb14.mono hB13.size)
              clear hB13 hb14
              go_wp2_with fail
              refine (impE _ qc m true (by omega) (by omega) IM.out).mono ?_
              rintro e w15 ⟨rfl, hb15⟩
              have hB15 := hB14.trans (hb15.mono hB14.size)
              clear hB14 hb15
              go_wp2_with fail
              refine (impE _ j qc true (by omega) (by omega) OJ.out).mono ?_
              rintro e w16 ⟨rfl, hb16⟩
              have hB16 := hB15.trans (hb16.mono hB15.size)
              clear hB15 hb16
              go_wp2
              go_ret
              exact ⟨rfl, hB16⟩
            | false =>
              go_wp2_with fail
              refine (impE _ qa qc true (by omega) (by omega) O1.out).mono ?_
              rintro e w11 ⟨rfl, hb11⟩
              have hB11 := hB10.trans (hb11.mono hB10.size)
              clear hB10 hb11
              go_wp2_with fail
              refine (impE _ qb qc false (by omega) (by omega) O2.out).mono ?_
              rintro e w12 ⟨rfl, hb12⟩
              have hB12 := hB11.trans (hb12.mono hB11.size)
              clear hB11 hb12
              go_wp2_with fail
              refine (rightE _ m true (by omega) R1.out).mono ?_
              rintro e w13 ⟨rfl, hb13⟩
              have hB13 := hB12.trans (hb13.mono hB12.size)
              clear hB12 hb13
              go_wp2_with fail
              refine (rightE _ j true (by omega) R2.out).mono ?_
              rintro e w14 ⟨rfl, hb14⟩
              have hB14 := hB13.trans (hb14.mono hB13.size)
              clear hB13 hb14
              go_wp2_with fail
              refine (impE _ qc m true (by omega) (by omega) IM.out).mono ?_
              rintro e w15 ⟨rfl, hb15⟩
              have hB15 := hB14.trans (hb15.mono hB14.size)
              clear hB14 hb15
              go_wp2_with fail
              refine (impE _ j qc false (by omega) (by omega) OJ.out).mono ?_
              rintro e w16 ⟨rfl, hb16⟩
              have hB16 := hB15.trans (hb16.mono hB15.size)
              clear hB15 hb16
              go_wp2
              go_ret
              exact ⟨rfl, hB16⟩
          | false =>
            go_wp2_with fail
            refine (impE _ qa qc false (by omega) (by omega) O1.out).mono ?_
            rintro e w11 ⟨rfl, hb11⟩
            have hB11 := hB10.trans (hb11.mono hB10.size)
            clear hB10 hb11
            go_wp2_with fail
            refine (rightE _ m true (by omega) R1.out).mono ?_
            rintro e w12 ⟨rfl, hb12⟩
            have hB12 := hB11.trans (hb12.mono hB11.size)
            clear hB11 hb12
            go_wp2_with fail
            refine (rightE _ j true (by omega) R2.out).mono ?_
            rintro e w13 ⟨rfl, hb13⟩
            have hB13 := hB12.trans (hb13.mono hB12.size)
            clear hB12 hb13
            go_wp2_with fail
            refine (impE _ qc m true (by omega) (by omega) IM.out).mono ?_
            rintro e w14 ⟨rfl, hb14⟩
            have hB14 := hB13.trans (hb14.mono hB13.size)
            clear hB13 hb14
            go_wp2_with fail
            refine (impE _ j qc false (by omega) (by omega) OJ.out).mono ?_
            rintro e w15 ⟨rfl, hb15⟩
            have hB15 := hB14.trans (hb15.mono hB14.size)
            clear hB14 hb15
            go_wp2
            go_ret
            exact ⟨rfl, hB15⟩
        | false =>
          go_wp2_with fail
          refine (impE _ qc qa true (by omega) (by omega) I1.out).mono ?_
          rintro e w9 ⟨rfl, hb9⟩
          have hB9 := hB8.trans (hb9.mono hB8.size)
          clear hB8 hb9
          go_wp2_with fail
          refine (impE _ qc qb false (by omega) (by omega) I2.out).mono ?_
          rintro e w10 ⟨rfl, hb10⟩
          have hB10 := hB9.trans (hb10.mono hB9.size)
          clear hB9 hb10
          cases o1 with
          | true =>
            cases o2 with
            | true =>
              go_wp2_with fail
              refine (impE _ qa qc true (by omega) (by omega) O1.out).mono ?_
              rintro e w11 ⟨rfl, hb11⟩
              have hB11 := hB10.trans (hb11.mono hB10.size)
              clear hB10 hb11
              go_wp2_with fail
              refine (impE _ qb qc true (by omega) (by omega) O2.out).mono ?_
              rintro e w12 ⟨rfl, hb12⟩
              have hB12 := hB11.trans (hb12.mono hB11.size)
              clear hB11 hb12
              go_wp2_with fail
              refine (rightE _ m true (by omega) R1.out).mono ?_
              rintro e w13 ⟨rfl, hb13⟩
              have hB13 := hB12.trans (hb13.mono hB12.size)
              clear hB12 hb13
              go_wp2_with fail
              refine (rightE _ j true (by omega) R2.out).mono ?_
              rintro e w14 ⟨rfl, hb14⟩
              have hB14 := hB13.trans (hb14.mono hB13.size)
              clear hB13 hb14
              go_wp2_with fail
              refine (impE _ qc m false (by omega) (by omega) IM.out).mono ?_
              rintro e w15 ⟨rfl, hb15⟩
              have hB15 := hB14.trans (hb15.mono hB14.size)
              clear hB14 hb15
              go_wp2_with fail
              refine (impE _ j qc true (by omega) (by omega) OJ.out).mono ?_
              rintro e w16 ⟨rfl, hb16⟩
              have hB16 := hB15.trans (hb16.mono hB15.size)
              clear hB15 hb16
              go_wp2
              go_ret
              exact ⟨rfl, hB16⟩
            | false =>
              go_wp2_with fail
              refine (impE _ qa qc true (by omega) (by omega) O1.out).mono ?_
              rintro e w11 ⟨rfl, hb11⟩
              have hB11 := hB10.trans (hb11.mono hB10.size)
              clear hB10 hb11
              go_wp2_with fail
              refine (impE _ qb qc false (by omega) (by omega) O2.out).mono ?_
              rintro e w12 ⟨rfl, hb12⟩
              have hB12 := hB11.trans (hb12.mono hB11.size)
              clear hB11 hb12
              go_wp2_with fail
              refine (rightE _ m true (by omega) R1.out).mono ?_
              rintro e w13 ⟨rfl, hb13⟩
              have hB13 := hB12.trans (hb13.mono hB12.size)
              clear hB12 hb13
              go_wp2_with fail
              refine (rightE _ j true (by omega) R2.out).mono ?_
              rintro e w14 ⟨rfl, hb14⟩
              have hB14 := hB13.trans (hb14.mono hB13.size)
              clear hB13 hb14
              go_wp2_with fail
              refine (impE _ qc m false (by omega) (by omega) IM.out).mono ?_
              rintro e w15 ⟨rfl, hb15⟩
              have hB15 := hB14.trans (hb15.mono hB14.size)
              clear hB14 hb15
              go_wp2_with fail
              refine (impE _ j qc false (by omega) (by omega) OJ.out).mono ?_
              rintro e w16 ⟨rfl, hb16⟩
              have hB16 := hB15.trans (hb16.mono hB15.size)
              clear hB15 hb16
              go_wp2
              go_ret
              exact ⟨rfl, hB16⟩
          | false =>
            go_wp2_with fail
            refine (impE _ qa qc false (by omega) (by omega) O1.out).mono ?_
            rintro e w11 ⟨rfl, hb11⟩
            have hB11 := hB10.trans (hb11.mono hB10.size)
            clear hB10 hb11
            go_wp2_with fail
            refine (rightE _ m true (by omega) R1.out).mono ?_
            rintro e w12 ⟨rfl, hb12⟩
            have hB12 := hB11.trans (hb12.mono hB11.size)
            clear hB11 hb12
            go_wp2_with fail
            refine (rightE _ j true (by omega) R2.out).mono ?_
            rintro e w13 ⟨rfl, hb13⟩
            have hB13 := hB12.trans (hb13.mono hB12.size)
            clear hB12 hb13
            go_wp2_with fail
            refine (impE _ qc m false (by omega) (by omega) IM.out).mono ?_
            rintro e w14 ⟨rfl, hb14⟩
            have hB14 := hB13.trans (hb14.mono hB13.size)
            clear hB13 hb14
            go_wp2_with fail
            refine (impE _ j qc false (by omega) (by omega) OJ.out).mono ?_
            rintro e w15 ⟨rfl, hb15⟩
            have hB15 := hB14.trans (hb15.mono hB14.size)
            clear hB14 hb15
            go_wp2
            go_ret
            exact ⟨rfl, hB15⟩
      | false =>
        go_wp2_with fail
        refine (impE _ qc qa false (by omega) (by omega) I1.out).mono ?_
        rintro e w9 ⟨rfl, hb9⟩
        have hB9 := hB8.trans (hb9.mono hB8.size)
        clear hB8 hb9
        cases o1 with
        | true =>
          cases o2 with
          | true =>
            go_wp2_with fail
            refine (impE _ qa qc true (by omega) (by omega) O1.out).mono ?_
            rintro e w10 ⟨rfl, hb10⟩
            have hB10 := hB9.trans (hb10.mono hB9.size)
            clear hB9 hb10
            go_wp2_with fail
            refine (impE _ qb qc true (by omega) (by omega) O2.out).mono ?_
            rintro e w11 ⟨rfl, hb11⟩
            have hB11 := hB10.trans (hb11.mono hB10.size)
            clear hB10 hb11
            go_wp2_with fail
            refine (rightE _ m true (by omega) R1.out).mono ?_
            rintro e w12 ⟨rfl, hb12⟩
            have hB12 := hB11.trans (hb12.mono hB11.size)
            clear hB11 hb12
            go_wp2_with fail
            refine (rightE _ j true (by omega) R2.out).mono ?_
            rintro e w13 ⟨rfl, hb13⟩
            have hB13 := hB12.trans (hb13.mono hB12.size)
            clear hB12 hb13
            go_wp2_with fail
            refine (impE _ qc m false (by omega) (by omega) IM.out).mono ?_
            rintro e w14 ⟨rfl, hb14⟩
            have hB14 := hB13.trans (hb14.mono hB13.size)
            clear hB13 hb14
            go_wp2_with fail
            refine (impE _ j qc true (by omega) (by omega) OJ.out).mono ?_
            rintro e w15 ⟨rfl, hb15⟩
            have hB15 := hB14.trans (hb15.mono hB14.size)
            clear hB14 hb15
            go_wp2
            go_ret
            exact ⟨rfl, hB15⟩
          | false =>
            go_wp2_with fail
            refine (impE _ qa qc true (by omega) (by omega) O1.out).mono ?_
            rintro e w10 ⟨rfl, hb10⟩
            have hB10 := hB9.trans (hb10.mono hB9.size)
            clear hB9 hb10
            go_wp2_with fail
            refine (impE _ qb qc false (by omega) (by omega) O2.out).mono ?_
            rintro e w11 ⟨rfl, hb11⟩
            have hB11 := hB10.trans (hb11.mono hB10.size)
            clear hB10 hb11
            go_wp2_with fail
            refine (rightE _ m true (by omega) R1.out).mono ?_
            rintro e w12 ⟨rfl, hb12⟩
            have hB12 := hB11.trans (hb12.mono hB11.size)
            clear hB11 hb12
            go_wp2_with fail
            refine (rightE _ j true (by omega) R2.out).mono ?_
            rintro e w13 ⟨rfl, hb13⟩
            have hB13 := hB12.trans (hb13.mono hB12.size)
            clear hB12 hb13
            go_wp2_with fail
            refine (impE _ qc m false (by omega) (by omega) IM.out).mono ?_
            rintro e w14 ⟨rfl, hb14⟩
            have hB14 := hB13.trans (hb14.mono hB13.size)
            clear hB13 hb14
            go_wp2_with fail
            refine (impE _ j qc false (by omega) (by omega) OJ.out).mono ?_
            rintro e w15 ⟨rfl, hb15⟩
            have hB15 := hB14.trans (hb15.mono hB14.size)
            clear hB14 hb15
            go_wp2
            go_ret
            exact ⟨rfl, hB15⟩
        | false =>
          go_wp2_with fail
          refine (impE _ qa qc false (by omega) (by omega) O1.out).mono ?_
          rintro e w10 ⟨rfl, hb10⟩
          have hB10 := hB9.trans (hb10.mono hB9.size)
          clear hB9 hb10
          go_wp2_with fail
          refine (rightE _ m true (by omega) R1.out).mono ?_
          rintro e w11 ⟨rfl, hb11⟩
          have hB11 := hB10.trans (hb11.mono hB10.size)
          clear hB10 hb11
          go_wp2_with fail
          refine (rightE _ j true (by omega) R2.out).mono ?_
          rintro e w12 ⟨rfl, hb12⟩
          have hB12 := hB11.trans (hb12.mono hB11.size)
          clear hB11 hb12
          go_wp2_with fail
          refine (impE _ qc m false (by omega) (by omega) IM.out).mono ?_
          rintro e w13 ⟨rfl, hb13⟩
          have hB13 := hB12.trans (hb13.mono hB12.size)
          clear hB12 hb13
          go_wp2_with fail
          refine (impE _ j qc false (by omega) (by omega) OJ.out).mono ?_
          rintro e w14 ⟨rfl, hb14⟩
          have hB14 := hB13.trans (hb14.mono hB13.size)
          clear hB13 hb14
          go_wp2
          go_ret
          exact ⟨rfl, hB14⟩
    | false =>
      go_wp2_with fail
      refine (satE _ m false _ x rfl (by omega) HM.out).mono ?_
      rintro e w4 ⟨rfl, hb4⟩
      have hB4 := hB3.trans (hb4.mono hB3.size)
      clear hB3 hb4
      go_wp2_with fail
      refine (satE _ qa false _ x rfl (by omega) HA.out).mono ?_
      rintro e w5 ⟨rfl, hb5⟩
      have hB5 := hB4.trans (hb5.mono hB4.size)
      clear hB4 hb5
      go_wp2_with fail
      refine (satE _ j false _ x rfl (by omega) HJ.out).mono ?_
      rintro e w6 ⟨rfl, hb6⟩
      have hB6 := hB5.trans (hb6.mono hB5.size)
      clear hB5 hb6
      go_wp2_with fail
      refine (satE _ qa false _ x rfl (by omega) HA.out).mono ?_
      rintro e w7 ⟨rfl, hb7⟩
      have hB7 := hB6.trans (hb7.mono hB6.size)
      clear hB6 hb7
      go_wp2_with fail
      refine (satE _ qb false _ x rfl (by omega) HB.out).mono ?_
      rintro e w8 ⟨rfl, hb8⟩
      have hB8 := hB7.trans (hb8.mono hB7.size)
      clear hB7 hb8
      cases i1 with
      | true =>
        cases i2 with
        | true =>
          go_wp2_with fail
          refine (impE _ qc qa true (by omega) (by omega) I1.out).mono ?_
          rintro e w9 ⟨rfl, hb9⟩
          have hB9 := hB8.trans (hb9.mono hB8.size)
          clear hB8 hb9
          go_wp2_with fail
          refine (impE _ qc qb true (by omega) (by omega) I2.out).mono ?_
          rintro e w10 ⟨rfl, hb10⟩
          have hB10 := hB9.trans (hb10.mono hB9.size)
          clear hB9 hb10
          cases o1 with
          | true =>
            cases o2 with
            | true =>
              go_wp2_with fail
              refine (impE _ qa qc true (by omega) (by omega) O1.out).mono ?_
              rintro e w11 ⟨rfl, hb11⟩
              have hB11 := hB10.trans (hb11.mono hB10.size)
              clear hB10 hb11
              go_wp2_with fail
              refine (impE _ qb qc true (by omega) (by omega) O2.out).mono ?_
              rintro e w12 ⟨rfl, hb12⟩
              have hB12 := hB11.trans (hb12.mono hB11.size)
              clear hB11 hb12
              go_wp2_with fail
              refine (rightE _ m true (by omega) R1.out).mono ?_
              rintro e w13 ⟨rfl, hb13⟩
              have hB13 := hB12.trans (hb13.mono hB12.size)
              clear hB12 hb13
              go_wp2_with fail
              refine (rightE _ j true (by omega) R2.out).mono ?_
              rintro e w14 ⟨rfl, hb14⟩
              have hB14 := hB13.trans (hb14.mono hB13.size)
              clear hB13 hb14
              go_wp2_with fail
              refine (impE _ qc m true (by omega) (by omega) IM.out).mono ?_
              rintro e w15 ⟨rfl, hb15⟩
              have hB15 := hB14.trans (hb15.mono hB14.size)
              clear hB14 hb15
              go_wp2_with fail
              refine (impE _ j qc true (by omega) (by omega) OJ.out).mono ?_
              rintro e w16 ⟨rfl, hb16⟩
              have hB16 := hB15.trans (hb16.mono hB15.size)
              clear hB15 hb16
              go_wp2
              go_ret
              exact ⟨rfl, hB16⟩
            | false =>
              go_wp2_with fail
              refine (impE _ qa qc true (by omega) (by omega) O1.out).mono ?_
              rintro e w11 ⟨rfl, hb11⟩
              have hB11 := hB10.trans (hb11.mono hB10.size)
              clear hB10 hb11
              go_wp2_with fail
              refine (impE _ qb qc false (by omega) (by omega) O2.out).mono ?_
              rintro e w12 ⟨rfl, hb12⟩
              have hB12 := hB11.trans (hb12.mono hB11.size)
              clear hB11 hb12
              go_wp2_with fail
              refine (rightE _ m true (by omega) R1.out).mono ?_
              rintro e w13 ⟨rfl, hb13⟩
              have hB13 := hB12.trans (hb13.mono hB12.size)
              clear hB12 hb13
              go_wp2_with fail
              refine (rightE _ j true (by omega) R2.out).mono ?_
              rintro e w14 ⟨rfl, hb14⟩
              have hB14 := hB13.trans (hb14.mono hB13.size)
              clear hB13 hb14
              go_wp2_with fail
              refine (impE _ qc m true (by omega) (by omega) IM.out).mono ?_
              rintro e w15 ⟨rfl, hb15⟩
              have hB15 := hB14.trans (hb15.mono hB14.size)
              clear hB14 hb15
              go_wp2_with fail
              refine (impE _ j qc false (by omega) (by omega) OJ.out).mono ?_
              rintro e w16 ⟨rfl, hb16⟩
              have hB16 := hB15.trans (hb16.mono hB15.size)
              clear hB15 hb16
              go_wp2
              go_ret
              exact ⟨rfl, hB16⟩
          | false =>
            go_wp2_with fail
            refine (impE _ qa qc false (by omega) (by omega) O1.out).mono ?_
            rintro e w11 ⟨rfl, hb11⟩
            have hB11 := hB10.trans (hb11.mono hB10.size)
            clear hB10 hb11
            go_wp2_with fail
            refine (rightE _ m true (by omega) R1.out).mono ?_
            rintro e w12 ⟨rfl, hb12⟩
            have hB12 := hB11.trans (hb12.mono hB11.size)
            clear hB11 hb12
            go_wp2_with fail
            refine (rightE _ j true (by omega) R2.out).mono ?_
            rintro e w13 ⟨rfl, hb13⟩
            have hB13 := hB12.trans (hb13.mono hB12.size)
            clear hB12 hb13
            go_wp2_with fail
            refine (impE _ qc m true (by omega) (by omega) IM.out).mono ?_
            rintro e w14 ⟨rfl, hb14⟩
            have hB14 := hB13.trans (hb14.mono hB13.size)
            clear hB13 hb14
            go_wp2_with fail
            refine (impE _ j qc false (by omega) (by omega) OJ.out).mono ?_
            rintro e w15 ⟨rfl, hb15⟩
            have hB15 := hB14.trans (hb15.mono hB14.size)
            clear hB14 hb15
            go_wp2
            go_ret
            exact ⟨rfl, hB15⟩
        | false =>
          go_wp2_with fail
          refine (impE _ qc qa true (by omega) (by omega) I1.out).mono ?_
          rintro e w9 ⟨rfl, hb9⟩
          have hB9 := hB8.trans (hb9.mono hB8.size)
          clear hB8 hb9
          go_wp2_with fail
          refine (impE _ qc qb false (by omega) (by omega) I2.out).mono ?_
          rintro e w10 ⟨rfl, hb10⟩
          have hB10 := hB9.trans (hb10.mono hB9.size)
          clear hB9 hb10
          cases o1 with
          | true =>
            cases o2 with
            | true =>
              go_wp2_with fail
              refine (impE _ qa qc true (by omega) (by omega) O1.out).mono ?_
              rintro e w11 ⟨rfl, hb11⟩
              have hB11 := hB10.trans (hb11.mono hB10.size)
              clear hB10 hb11
              go_wp2_with fail
              refine (impE _ qb qc true (by omega) (by omega) O2.out).mono ?_
              rintro e w12 ⟨rfl, hb12⟩
              have hB12 := hB11.trans (hb12.mono hB11.size)
              clear hB11 hb12
              go_wp2_with fail
              refine (rightE _ m true (by omega) R1.out).mono ?_
              rintro e w13 ⟨rfl, hb13⟩
              have hB13 := hB12.trans (hb13.mono hB12.size)
              clear hB12 hb13
              go_wp2_with fail
              refine (rightE _ j true (by omega) R2.out).mono ?_
              rintro e w14 ⟨rfl, hb14⟩
              have hB14 := hB13.trans (hb14.mono hB13.size)
              clear hB13 hb14
              go_wp2_with fail
              refine (impE _ qc m false (by omega) (by omega) IM.out).mono ?_
              rintro e w15 ⟨rfl, hb15⟩
              have hB15 := hB14.trans (hb15.mono hB14.size)
              clear hB14 hb15
              go_wp2_with fail
              refine (impE _ j qc true (by omega) (by omega) OJ.out).mono ?_
              rintro e w16 ⟨rfl, hb16⟩
              have hB16 := hB15.trans (hb16.mono hB15.size)
              clear hB15 hb16
              go_wp2
              go_ret
              exact ⟨rfl, hB16⟩
            | false =>
              go_wp2_with fail
              refine (impE _ qa qc true (by omega) (by omega) O1.out).mono ?_
              rintro e w11 ⟨rfl, hb11⟩
              have hB11 := hB10.trans (hb11.mono hB10.size)
              clear hB10 hb11
              go_wp2_with fail
              refine (impE _ qb qc false (by omega) (by omega) O2.out).mono ?_
              rintro e w12 ⟨rfl, hb12⟩
              have hB12 := hB11.trans (hb12.mono hB11.size)
              clear hB11 hb12
              go_wp2_with fail
              refine (rightE _ m true (by omega) R1.out).mono ?_
              rintro e w13 ⟨rfl, hb13⟩
              have hB13 := hB12.trans (hb13.mono hB12.size)
              clear hB12 hb13
              go_wp2_with fail
              refine (rightE _ j true (by omega) R2.out).mono ?_
              rintro e w14 ⟨rfl, hb14⟩
              have hB14 := hB13.trans (hb14.mono hB13.size)
              clear hB13 hb14
              go_wp2_with fail
              refine (impE _ qc m false (by omega) (by omega) IM.out).mono ?_
              rintro e w15 ⟨rfl, hb15⟩
              have hB15 := hB14.trans (hb15.mono hB14.size)
              clear hB14 hb15
              go_wp2_with fail
              refine (impE _ j qc false (by omega) (by omega) OJ.out).mono ?_
              rintro e w16 ⟨rfl, hb16⟩
              have hB16 := hB15.trans (hb16.mono hB15.size)
              clear hB15 hb16
              go_wp2
              go_ret
              exact ⟨rfl, hB16⟩
          | false =>
            go_wp2_with fail
            refine (impE _ qa qc false (by omega) (by omega) O1.out).mono ?_
            rintro e w11 ⟨rfl, hb11⟩
            have hB11 := hB10.trans (hb11.mono hB10.size)
            clear hB10 hb11
            go_wp2_with fail
            refine (rightE _ m true (by omega) R1.out).mono ?_
            rintro e w12 ⟨rfl, hb12⟩
            have hB12 := hB11.trans (hb12.mono hB11.size)
            clear hB11 hb12
            go_wp2_with fail
            refine (rightE _ j true (by omega) R2.out).mono ?_
            rintro e w13 ⟨rfl, hb13⟩
            have hB13 := hB12.trans (hb13.mono hB12.size)
            clear hB12 hb13
            go_wp2_with fail
            refine (impE _ qc m false (by omega) (by omega) IM.out).mono ?_
            rintro e w14 ⟨rfl, hb14⟩
            have hB14 := hB13.trans (hb14.mono hB13.size)
            clear hB13 hb14
            go_wp2_with fail
            refine (impE _ j qc false (by omega) (by omega) OJ.out).mono ?_
            rintro e w15 ⟨rfl, hb15⟩
            have hB15 := hB14.trans (hb15.mono hB14.size)
            clear hB14 hb15
            go_wp2
            go_ret
            exact ⟨rfl, hB15⟩
      | false =>
        go_wp2_with fail
        refine (impE _ qc qa false (by omega) (by omega) I1.out).mono ?_
        rintro e w9 ⟨rfl, hb9⟩
        have hB9 := hB8.trans (hb9.mono hB8.size)
        clear hB8 hb9
        cases o1 with
        | true =>
          cases o2 with
          | true =>
            go_wp2_with fail
            refine (impE _ qa qc true (by omega) (by omega) O1.out).mono ?_
            rintro e w10 ⟨rfl, hb10⟩
            have hB10 := hB9.trans (hb10.mono hB9.size)
            clear hB9 hb10
            go_wp2_with fail
            refine (impE _ qb qc true (by omega) (by omega) O2.out).mono ?_
            rintro e w11 ⟨rfl, hb11⟩
            have hB11 := hB10.trans (hb11.mono hB10.size)
            clear hB10 hb11
            go_wp2_with fail
            refine (rightE _ m true (by omega) R1.out).mono ?_
            rintro e w12 ⟨rfl, hb12⟩
            have hB12 := hB11.trans (hb12.mono hB11.size)
            clear hB11 hb12
            go_wp2_with fail
            refine (rightE _ j true (by omega) R2.out).mono ?_
            rintro e w13 ⟨rfl, hb13⟩
            have hB13 := hB12.trans (hb13.mono hB12.size)
            clear hB12 hb13
            go_wp2_with fail
            refine (impE _ qc m false (by omega) (by omega) IM.out).mono ?_
            rintro e w14 ⟨rfl, hb14⟩
            have hB14 := hB13.trans (hb14.mono hB13.size)
            clear hB13 hb14
            go_wp2_with fail
            refine (impE _ j qc true (by omega) (by omega) OJ.out).mono ?_
            rintro e w15 ⟨rfl, hb15⟩
            have hB15 := hB14.trans (hb15.mono hB14.size)
            clear hB14 hb15
            go_wp2
            go_ret
            exact ⟨rfl, hB15⟩
          | false =>
            go_wp2_with fail
            refine (impE _ qa qc true (by omega) (by omega) O1.out).mono ?_
            rintro e w10 ⟨rfl, hb10⟩
            have hB10 := hB9.trans (hb10.mono hB9.size)
            clear hB9 hb10
            go_wp2_with fail
            refine (impE _ qb qc false (by omega) (by omega) O2.out).mono ?_
            rintro e w11 ⟨rfl, hb11⟩
            have hB11 := hB10.trans (hb11.mono hB10.size)
            clear hB10 hb11
            go_wp2_with fail
            refine (rightE _ m true (by omega) R1.out).mono ?_
            rintro e w12 ⟨rfl, hb12⟩
            have hB12 := hB11.trans (hb12.mono hB11.size)
            clear hB11 hb12
            go_wp2_with fail
            refine (rightE _ j true (by omega) R2.out).mono ?_
            rintro e w13 ⟨rfl, hb13⟩
            have hB13 := hB12.trans (hb13.mono hB12.size)
            clear hB12 hb13
            go_wp2_with fail
            refine (impE _ qc m false (by omega) (by omega) IM.out).mono ?_
            rintro e w14 ⟨rfl, hb14⟩
            have hB14 := hB13.trans (hb14.mono hB13.size)
            clear hB13 hb14
            go_wp2_with fail
            refine (impE _ j qc false (by omega) (by omega) OJ.out).mono ?_
            rintro e w15 ⟨rfl, hb15⟩
            have hB15 := hB14.trans (hb15.mono hB14.size)
            clear hB14 hb15
            go_wp2
            go_ret
            exact ⟨rfl, hB15⟩
        | false =>
          go_wp2_with fail
          refine (impE _ qa qc false (by omega) (by omega) O1.out).mono ?_
          rintro e w10 ⟨rfl, hb10⟩
          have hB10 := hB9.trans (hb10.mono hB9.size)
          clear hB9 hb10
          go_wp2_with fail
          refine (rightE _ m true (by omega) R1.out).mono ?_
          rintro e w11 ⟨rfl, hb11⟩
          have hB11 := hB10.trans (hb11.mono hB10.size)
          clear hB10 hb11
          go_wp2_with fail
          refine (rightE _ j true (by omega) R2.out).mono ?_
          rintro e w12 ⟨rfl, hb12⟩
          have hB12 := hB11.trans (hb12.mono hB11.size)
          clear hB11 hb12
          go_wp2_with fail
          refine (impE _ qc m false (by omega) (by omega) IM.out).mono ?_
          rintro e w13 ⟨rfl, hb13⟩
          have hB13 := hB12.trans (hb13.mono hB12.size)
          clear hB12 hb13
          go_wp2_with fail
          refine (impE _ j qc false (by omega) (by omega) OJ.out).mono ?_
          rintro e w14 ⟨rfl, hb14⟩
          have hB14 := hB13.trans (hb14.mono hB13.size)
          clear hB13 hb14
          go_wp2
          go_ret
          exact ⟨rfl, hB14⟩
theorem walkCnfMeets (a : ByteArray) (ha : a.size ≤ maxLen) (b : ByteArray) (hb : b.size ≤ maxLen) (c : ByteArray) (hc : c.size ≤ maxLen) (x : Int) (hx : (Lit.int .u8 x).wf = true) (w : World) (hL : Letters w) :
    Calls Tryd.prog 5 #[.string a, .string b, .string c, .int .u8 x] w fun e w' => e = .returned (.bool true) ∧ Below w.heap.size w w' := by
  obtain ⟨x, rfl⟩ := u8_of hx
  exact walkPCnfMeets a.data.toList ha b.data.toList hb c.data.toList hc x w hL
end Go.Proofs.YtmldammikebhiaaDoor
