/- The walk of CnfNorm. Conditions: the sizes of what came in; the table of letters holds its text. -/
import Derived.Test.YtmldammikebhiaaDoorEx2
import Derived.Test.YtmldammikebhiaaDoorCnfE
namespace Go.Proofs.YtmldammikebhiaaDoor
open Go.RowKit Go.Shelf
attribute [local go_sem] str_list
set_option maxRecDepth 100000 in
set_option maxHeartbeats 8000000 in
theorem walkPCnfNorm (a : List UInt8) (ha : a.length ≤ maxLen) (b : List UInt8) (hb : b.length ≤ maxLen) (w : World) (hL : Letters w) :
    Calls Tryd.prog 3 #[.string (str a), .string (str b)] w fun e w' => e = .returned (.bool true) ∧ Below w.heap.size w w' := by
  have HEX := Lib.hid (examples2_any w hL)
  clear hL
  have HFa := Lib.hid fun W => few_any a ha 12 12 rfl W
  have hqa : (a.take 12).length ≤ 12 := by rw [List.length_take]; omega
  have HFb := Lib.hid fun W => few_any b hb 12 12 rfl W
  have hqb : (b.take 12).length ≤ 12 := by rw [List.length_take]; omega
  generalize hta : a.take 12 = qa at HFa hqa
  clear hta
  generalize htb : b.take 12 = qb at HFb hqb
  clear htb
  obtain ⟨n, hn⟩ : ∃ n, Lz.norm qa = n := ⟨_, rfl⟩
  have ln : n.length ≤ 64 := by rw [← hn]; exact Lz.norm_len64 _
  obtain ⟨k, hk⟩ : ∃ k, Lz.norm qb = k := ⟨_, rfl⟩
  have lk : k.length ≤ 64 := by rw [← hk]; exact Lz.norm_len64 _
  obtain ⟨T, hT⟩ : ∃ T, Lz.table qa = T := ⟨_, rfl⟩
  obtain ⟨U, hU⟩ : ∃ U, Lz.table qb = U := ⟨_, rfl⟩
  obtain ⟨r, hr⟩ : ∃ r, (n == qa) = r := ⟨_, rfl⟩
  have H1 := Lib.hid (show Lz.norm qa = n from hn)
  have H2 := Lib.hid (show Lz.norm qb = k from hk)
  have H3 := Lib.hid (show Lz.table qa = T from hT)
  have H4 := Lib.hid (show Lz.table qb = U from hU)
  have H5 := Lib.hid (show (Lz.norm n == n) = true from by rw [beq_iff_eq, ← hn]; exact Lz.norm_norm _)
  have H6 := Lib.hid (show Lz.table n = T from by rw [← hn, ← hT]; exact Lz.table_ext.2 (Lz.norm_norm _))
  have H7 := Lib.hid (show (Lz.norm qa == qa) = r from by rw [hn]; exact hr)
  have H8 := Lib.hid (show Lz.least n = n from by rw [← hn]; exact Lz.least_least _)
  have HTU := Lib.hid (show T = U ↔ n = k from by rw [← hT, ← hU, ← hn, ← hk]; exact Lz.table_ext)
  clear hn hk hT hU
  by_cases hnk : n = k
  · obtain rfl := HTU.out.2 hnk
    subst hnk
    clear HTU
    cases r with
    | true =>
      go_enter Tryd.func3, Tryd.ntmps3
      go_wp2_with fail
      refine HEX.out.mono ?_
      rintro e w1 ⟨rfl, hB1⟩
      clear HEX
      go_wp2_with fail
      refine (HFa.out _).mono ?_
      rintro e w' ⟨rfl, rfl⟩
      go_wp2_with fail
      refine (HFb.out _).mono ?_
      rintro e w' ⟨rfl, rfl⟩
      go_wp2_with fail
      refine (normE _ qa n (by omega) H1.out).mono ?_
      rintro e w2 ⟨rfl, hb2⟩
      have hB2 := hB1.trans (hb2.mono hB1.size)
      clear hB1 hb2
      go_wp2_with fail
      refine (tableE _ qa T (by omega) H3.out).mono ?_
      rintro e w3 ⟨rfl, hb3⟩
      have hB3 := hB2.trans (hb3.mono hB2.size)
      clear hB2 hb3
      go_wp2_with fail
      refine (tableE _ qb T (by omega) H4.out).mono ?_
      rintro e w4 ⟨rfl, hb4⟩
      have hB4 := hB3.trans (hb4.mono hB3.size)
      clear hB3 hb4
      go_wp2_with fail
      refine (rightE _ n true (by omega) H5.out).mono ?_
      rintro e w5 ⟨rfl, hb5⟩
      have hB5 := hB4.trans (hb5.mono hB4.size)
      clear hB4 hb5
      go_wp2_with fail
      refine (tableE _ n T (by omega) H6.out).mono ?_
      rintro e w6 ⟨rfl, hb6⟩
      have hB6 := hB5.trans (hb6.mono hB5.size)
      clear hB5 hb6
      go_wp2_with fail
      refine (tableE _ qa T (by omega) H3.out).mono ?_
      rintro e w7 ⟨rfl, hb7⟩
      have hB7 := hB6.trans (hb7.mono hB6.size)
      clear hB6 hb7
      go_wp2_with fail
      refine (normE _ qb n (by omega) H2.out).mono ?_
      rintro e w8 ⟨rfl, hb8⟩
      have hB8 := hB7.trans (hb8.mono hB7.size)
      clear hB7 hb8
      go_wp2_with fail
      refine (rightE _ qa true (by omega) H7.out).mono ?_
      rintro e w9 ⟨rfl, hb9⟩
      have hB9 := hB8.trans (hb9.mono hB8.size)
      clear hB8 hb9
      go_wp2_with fail
      refine (leastE _ n n (by omega) H8.out).mono ?_
      rintro e w10 ⟨rfl, hb10⟩
      have hB10 := hB9.trans (hb10.mono hB9.size)
      clear hB9 hb10
      go_wp2
      go_ret
      exact ⟨rfl, hB10⟩
    | false =>
      go_enter Tryd.func3, Tryd.ntmps3
      go_wp2_with fail
      refine HEX.out.mono ?_
      rintro e w1 ⟨rfl, hB1⟩
      clear HEX
      go_wp2_with fail
      refine (HFa.out _).mono ?_
      rintro e w' ⟨rfl, rfl⟩
      go_wp2_with fail
      refine (HFb.out _).mono ?_
      rintro e w' ⟨rfl, rfl⟩
      go_wp2_with fail
      refine (normE _ qa n (by omega) H1.out).mono ?_
      rintro e w2 ⟨rfl, hb2⟩
      have hB2 := hB1.trans (hb2.mono hB1.size)
      clear hB1 hb2
      go_wp2_with fail
      refine (tableE _ qa T (by omega) H3.out).mono ?_
      rintro e w3 ⟨rfl, hb3⟩
      have hB3 := hB2.trans (hb3.mono hB2.size)
      clear hB2 hb3
      go_wp2_with fail
      refine (tableE _ qb T (by omega) H4.out).mono ?_
      rintro e w4 ⟨rfl, hb4⟩
      have hB4 := hB3.trans (hb4.mono hB3.size)
      clear hB3 hb4
      go_wp2_with fail
      refine (rightE _ n true (by omega) H5.out).mono ?_
      rintro e w5 ⟨rfl, hb5⟩
      have hB5 := hB4.trans (hb5.mono hB4.size)
      clear hB4 hb5
      go_wp2_with fail
      refine (tableE _ n T (by omega) H6.out).mono ?_
      rintro e w6 ⟨rfl, hb6⟩
      have hB6 := hB5.trans (hb6.mono hB5.size)
      clear hB5 hb6
      go_wp2_with fail
      refine (tableE _ qa T (by omega) H3.out).mono ?_
      rintro e w7 ⟨rfl, hb7⟩
      have hB7 := hB6.trans (hb7.mono hB6.size)
      clear hB6 hb7
      go_wp2_with fail
      refine (normE _ qb n (by omega) H2.out).mono ?_
      rintro e w8 ⟨rfl, hb8⟩
      have hB8 := hB7.trans (hb8.mono hB7.size)
      clear hB7 hb8
      go_wp2_with fail
      refine (rightE _ qa false (by omega) H7.out).mono ?_
      rintro e w9 ⟨rfl, hb9⟩
      have hB9 := hB8.trans (hb9.mono hB8.size)
      clear hB8 hb9
      go_wp2_with fail
      refine (leastE _ n n (by omega) H8.out).mono ?_
      rintro e w10 ⟨rfl, hb10⟩
      have hB10 := hB9.trans (hb10.mono hB9.size)
      clear hB9 hb10
      go_wp2
      go_ret
      exact ⟨rfl, hB10⟩
  · have hTU : ¬ T = U := fun e => hnk (HTU.out.1 e)
    have hq1 : ((T : Int) == (U : Int)) = false := by rw [beq_eq_false_iff_ne]; omega
    have hq2 : (n == k) = false := by simpa using hnk
    clear HTU hTU hnk
    cases r with
    | true =>
      go_enter Tryd.func3, Tryd.ntmps3
      go_wp2_with fail
      refine HEX.out.mono ?_
      rintro e w1 ⟨rfl, hB1⟩
      clear HEX
      go_wp2_with fail
      refine (HFa.out _).mono ?_
      rintro e w' ⟨rfl, rfl⟩
      go_wp2_with fail
      refine (HFb.out _).mono ?_
      rintro e w' ⟨rfl, rfl⟩
      go_wp2_with fail
      refine (normE _ qa n (by omega) H1.out).mono ?_
      rintro e w2 ⟨rfl, hb2⟩
      have hB2 := hB1.trans (hb2.mono hB1.size)
      clear hB1 hb2
      go_wp2_with fail
      refine (tableE _ qa T (by omega) H3.out).mono ?_
      rintro e w3 ⟨rfl, hb3⟩
      have hB3 := hB2.trans (hb3.mono hB2.size)
      clear hB2 hb3
      go_wp2_with fail
      refine (tableE _ qb U (by omega) H4.out).mono ?_
      rintro e w4 ⟨rfl, hb4⟩
      have hB4 := hB3.trans (hb4.mono hB3.size)
      clear hB3 hb4
      go_wp2_with fail
      refine (rightE _ n true (by omega) H5.out).mono ?_
      rintro e w5 ⟨rfl, hb5⟩
      have hB5 := hB4.trans (hb5.mono hB4.size)
      clear hB4 hb5
      go_wp2_with fail
      refine (tableE _ n T (by omega) H6.out).mono ?_
      rintro e w6 ⟨rfl, hb6⟩
      have hB6 := hB5.trans (hb6.mono hB5.size)
      clear hB5 hb6
      go_wp2_with fail
      refine (tableE _ qa T (by omega) H3.out).mono ?_
      rintro e w7 ⟨rfl, hb7⟩
      have hB7 := hB6.trans (hb7.mono hB6.size)
      clear hB6 hb7
      go_wp2_with fail
      refine (normE _ qb k (by omega) H2.out).mono ?_
      rintro e w8 ⟨rfl, hb8⟩
      have hB8 := hB7.trans (hb8.mono hB7.size)
      clear hB7 hb8
      go_wp2_with fail
      refine (rightE _ qa true (by omega) H7.out).mono ?_
      rintro e w9 ⟨rfl, hb9⟩
      have hB9 := hB8.trans (hb9.mono hB8.size)
      clear hB8 hb9
      go_wp2_with fail
      refine (leastE _ n n (by omega) H8.out).mono ?_
      rintro e w10 ⟨rfl, hb10⟩
      have hB10 := hB9.trans (hb10.mono hB9.size)
      clear hB9 hb10
      go_wp2
      go_ret
      exact ⟨rfl, hB10⟩
    | false =>
      go_enter Tryd.func3, Tryd.ntmps3
      go_wp2_with fail
      refine HEX.out.mono ?_
      rintro e w1 ⟨rfl, hB1⟩
      clear HEX
      go_wp2_with fail
      refine (HFa.out _).mono ?_
      rintro e w' ⟨rfl, rfl⟩
      go_wp2_with fail
      refine (HFb.out _).mono ?_
      rintro e w' ⟨rfl, rfl⟩
      go_wp2_with fail
      refine (normE _ qa n (by omega) H1.out).mono ?_
      rintro e w2 ⟨rfl, hb2⟩
      have hB2 := hB1.trans (hb2.mono hB1.size)
      clear hB1 hb2
      go_wp2_with fail
      refine (tableE _ qa T (by omega) H3.out).mono ?_
      rintro e w3 ⟨rfl, hb3⟩
      have hB3 := hB2.trans (hb3.mono hB2.size)
      clear hB2 hb3
      go_wp2_with fail
      refine (tableE _ qb U (by omega) H4.out).mono ?_
      rintro e w4 ⟨rfl, hb4⟩
      have hB4 := hB3.trans (hb4.mono hB3.size)
      clear hB3 hb4
      go_wp2_with fail
      refine (rightE _ n true (by omega) H5.out).mono ?_
      rintro e w5 ⟨rfl, hb5⟩
      have hB5 := hB4.trans (hb5.mono hB4.size)
      clear hB4 hb5
      go_wp2_with fail
      refine (tableE _ n T (by omega) H6.out).mono ?_
      rintro e w6 ⟨rfl, hb6⟩
      have hB6 := hB5.trans (hb6.mono hB5.size)
      clear hB5 hb6
      go_wp2_with fail
      refine (tableE _ qa T (by omega) H3.out).mono ?_
      rintro e w7 ⟨rfl, hb7⟩
      have hB7 := hB6.trans (hb7.mono hB6.size)
      clear hB6 hb7
      go_wp2_with fail
      refine (normE _ qb k (by omega) H2.out).mono ?_
      rintro e w8 ⟨rfl, hb8⟩
      have hB8 := hB7.trans (hb8.mono hB7.size)
      clear hB7 hb8
      go_wp2_with fail
      refine (rightE _ qa false (by omega) H7.out).mono ?_
      rintro e w9 ⟨rfl, hb9⟩
      have hB9 := hB8.trans (hb9.mono hB8.size)
      clear hB8 hb9
      go_wp2_with fail
      refine (leastE _ n n (by omega) H8.out).mono ?_
      rintro e w10 ⟨rfl, hb10⟩
      have hB10 := hB9.trans (hb10.mono hB9.size)
      clear hB9 hb10
      go_wp2
      go_ret
      exact ⟨rfl, hB10⟩
theorem walkCnfNorm (a : ByteArray) (ha : a.size ≤ maxLen) (b : ByteArray) (hb : b.size ≤ maxLen) (w : World) (hL : Letters w) :
    Calls Tryd.prog 3 #[.string a, .string b] w fun e w' => e = .returned (.bool true) ∧ Below w.heap.size w w' := by
  exact walkPCnfNorm a.data.toList ha b.data.toList hb w hL
end Go.Proofs.YtmldammikebhiaaDoor
