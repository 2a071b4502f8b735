/- The walk of CnfBack. Conditions: the sizes of what came in; the table of letters holds its text. -/
import Derived.Test.YtmldammikebhiaaDoorEx2
import Derived.Test.YtmldammikebhiaaDoorCnfE
import Derived.Test.YtmldammikebhiaaDoorCnfBackM
namespace Go.Proofs.YtmldammikebhiaaDoor
open Go.RowKit Go.Shelf
theorem str_app (x y : List UInt8) : str x ++ str y = str (x ++ y) := by apply ByteArray.ext; simp [str]
attribute [local go_sem] str_list str_size str_app
theorem getE (W : World) (x : List UInt8) (at' : Int) (f : List UInt8) (m : Int) (hx : x.length ≤ maxLen) (h : getF x at' = (f, m, true)) : Calls Tryd.prog 23 #[.string (str x), .int .i64 at'] W fun e w' => e = .returned (.tuple #[.string (str f), .int .i64 m, .bool true]) ∧ Below W.heap.size W w' := by
  have h1 := cnfGet_any (str x) hx at' W
  rw [lst_str, h] at h1
  exact h1
theorem textE (W : World) (x t : List UInt8) (hx : x.length ≤ 1000000) (h : textF x = t) (hL : Letters W) : Calls Tryd.prog 37 #[.string (str x)] W fun e w' => e = .returned (.string (str t)) ∧ Below W.heap.size W w' := by
  subst h; exact cnfText_any (str x) hx W hL
theorem parseE (W : World) (t f : List UInt8) (ht : t.length ≤ 1000000) (h : parseF t = (f, true)) (hL : Letters W) : Calls Tryd.prog 25 #[.string (str t)] W fun e w' => e = .returned (.tuple #[.string (str f), .bool true]) ∧ Below W.heap.size W w' := by
  have h1 := cnfParse_any t ht W hL
  rw [h] at h1
  exact h1
theorem textF_len (f : List UInt8) : (textF f).length ≤ 1000 := by
  unfold textF
  split
  · simp
  · split
    · simp
    · have h1 := textC_length (Lz.norm f)
      have h2 := Lz.norm_len64 f
      omega
theorem putL_len (f : List UInt8) : (putL f).length = 1 + (Lz.norm f).length := by unfold putL; simp; omega
set_option maxRecDepth 100000 in
set_option maxHeartbeats 8000000 in
theorem walkPCnfBack (a : List UInt8) (ha : a.length ≤ maxLen) (b : List UInt8) (hb : b.length ≤ maxLen) (A : List UInt8) (hA : A.length ≤ 140737488351232) (B : List UInt8) (hB : B.length ≤ 140737488351232) (w : World) (hL : Letters w) :
    Calls Tryd.prog 9 #[.string (str a), .string (str b), .string (str A), .string (str B)] w fun e w' => e = .returned (.bool true) ∧ Below w.heap.size w w' := by
  have HEX := Lib.hid (examples2_any w hL)
  have HL := Lib.hid hL
  clear hL
  have HFa := Lib.hid fun W => few_any a ha 12 12 rfl W
  have hqa : (a.take 12).length ≤ 12 := by rw [List.length_take]; omega
  have HFb := Lib.hid fun W => few_any b hb 12 12 rfl W
  have hqb : (b.take 12).length ≤ 12 := by rw [List.length_take]; omega
  generalize hta : a.take 12 = qa at HFa hqa
  clear hta
  generalize htb : b.take 12 = qb at HFb hqb
  clear htb
  obtain ⟨n, hn⟩ : ∃ n, Lz.norm qa = n := ⟨_, rfl⟩
  have ln : n.length ≤ 64 := by rw [← hn]; exact Lz.norm_len64 _
  obtain ⟨k, hk⟩ : ∃ k, Lz.norm qb = k := ⟨_, rfl⟩
  have lk : k.length ≤ 64 := by rw [← hk]; exact Lz.norm_len64 _
  obtain ⟨p, hp⟩ : ∃ p, putL qa = p := ⟨_, rfl⟩
  obtain ⟨q, hq⟩ : ∃ q, putL qb = q := ⟨_, rfl⟩
  obtain ⟨t, ht⟩ : ∃ t, textF qa = t := ⟨_, rfl⟩
  obtain ⟨u, hu⟩ : ∃ u, textF qb = u := ⟨_, rfl⟩
  obtain ⟨S, hS⟩ : ∃ S, A ++ p ++ q ++ B = S := ⟨_, rfl⟩
  obtain ⟨N1, hN1⟩ : ∃ N1, A.length + 1 + n.length = N1 := ⟨_, rfl⟩
  obtain ⟨N2, hN2⟩ : ∃ N2, N1 + 1 + k.length = N2 := ⟨_, rfl⟩
  have lt : t.length ≤ 1000 := by rw [← ht]; exact textF_len _
  have lu : u.length ≤ 1000 := by rw [← hu]; exact textF_len _
  have lp : p.length = 1 + n.length := by rw [← hp, ← hn]; exact putL_len _
  have lq : q.length = 1 + k.length := by rw [← hq, ← hk]; exact putL_len _
  have lS : S.length = A.length + p.length + q.length + B.length := by rw [← hS]; simp; omega
  have H1 := Lib.hid (show putL qa = p from hp)
  have H2 := Lib.hid (show putL qb = q from hq)
  have H3 := Lib.hid (show A ++ (p ++ (q ++ B)) = S from by rw [← hS]; simp)
  have H4 := Lib.hid (show getF S (A.length : Int) = (n, (N1 : Int), true) from by have h := getF_putL A qa (q ++ B); rw [hp, ← List.append_assoc, hS, hn] at h; rw [h, ← hN1]; simp)
  have H5 := Lib.hid (show getF S (N1 : Int) = (k, (N2 : Int), true) from by have h := getF_putL (A ++ p) qb B; rw [hq, hS, hk, List.length_append, lp, show A.length + (1 + n.length) = N1 from by omega] at h; rw [h, ← hN2]; simp)
  have H6 := Lib.hid (show textF qa = t from ht)
  have H7 := Lib.hid (show parseF t = (n, true) from by rw [← ht, ← hn]; exact parseF_textF _)
  have H8 := Lib.hid (show Lz.norm qa = n from hn)
  have H9 := Lib.hid (show Lz.norm qb = k from hk)
  have H10 := Lib.hid (show textF qb = u from hu)
  have TU := Lib.hid (show (t == u) = (n == k) from by rw [← ht, ← hu, ← hn, ← hk]; exact textF_iff _ _)
  have PQ := Lib.hid (show (p == q) = (n == k) from by rw [← hp, ← hq, ← hn, ← hk]; exact putL_iff _ _)
  have hend : ((N2 : Int) == (S.length : Int) - (B.length : Int)) = true := by rw [beq_iff_eq]; omega
  have i1 : B.length ≤ S.length := by omega
  have i2 : S.length ≤ 281474976702464 + 1000 := by omega
  have i3 : S.length ≤ maxLen := by unfold maxLen; omega
  have ip : p.length ≤ 65 := by omega
  have iq : q.length ≤ 65 := by omega
  have j1 : (A ++ p).length ≤ 140737488351232 + 65 := by rw [List.length_append]; omega
  have j2 : (A ++ (p ++ q)).length ≤ 140737488351232 + 130 := by rw [List.length_append, List.length_append]; omega
  clear hn hk hp hq ht hu hS hN1 hN2 lp lq lS
  cases hnk : (n == k) with
  | true =>
    have ht1 := TU.out
    have hp1 := PQ.out
    rw [hnk] at ht1 hp1
    obtain rfl := eq_of_beq hnk
    obtain rfl := eq_of_beq ht1
    obtain rfl := eq_of_beq hp1
    clear ht1 hp1 hnk TU PQ
    go_enter Tryd.func9, Tryd.ntmps9
    go_wp2_with fail
    refine HEX.out.mono ?_
    rintro e w1 ⟨rfl, hB1⟩
    clear HEX
    go_wp2_with fail
    refine (HFa.out _).mono ?_
    rintro e w' ⟨rfl, rfl⟩
    go_wp2_with fail
    refine (HFb.out _).mono ?_
    rintro e w' ⟨rfl, rfl⟩
    go_wp2_with fail
    refine (putE _ qa p (by omega) H1.out).mono ?_
    rintro e w2 ⟨rfl, hb2⟩
    have hB2 := hB1.trans (hb2.mono hB1.size)
    clear hB1 hb2
    go_wp2_with fail
    refine (putE _ qb p (by omega) H2.out).mono ?_
    rintro e w3 ⟨rfl, hb3⟩
    have hB3 := hB2.trans (hb3.mono hB2.size)
    clear hB2 hb3
    go_wp2_with fail
    rw [H3.out]
    refine (getE _ S _ n (N1 : Int) i3 H4.out).mono ?_
    rintro e w4 ⟨rfl, hb4⟩
    have hB4 := hB3.trans (hb4.mono hB3.size)
    clear hB3 hb4
    go_wp2_with fail
    refine (getE _ S _ n (N2 : Int) i3 H5.out).mono ?_
    rintro e w5 ⟨rfl, hb5⟩
    have hB5 := hB4.trans (hb5.mono hB4.size)
    clear hB4 hb5
    go_wp2_with fail
    refine (textE _ qa t (by omega) H6.out (HL.out.behind hB5)).mono ?_
    rintro e w6 ⟨rfl, hb6⟩
    have hB6 := hB5.trans (hb6.mono hB5.size)
    clear hB5 hb6
    go_wp2_with fail
    refine (parseE _ t n (by omega) H7.out (HL.out.behind hB6)).mono ?_
    rintro e w7 ⟨rfl, hb7⟩
    have hB7 := hB6.trans (hb7.mono hB6.size)
    clear hB6 hb7
    go_wp2_with fail
    refine (normE _ qa n (by omega) H8.out).mono ?_
    rintro e w8 ⟨rfl, hb8⟩
    have hB8 := hB7.trans (hb8.mono hB7.size)
    clear hB7 hb8
    go_wp2_with fail
    refine (normE _ qb n (by omega) H9.out).mono ?_
    rintro e w9 ⟨rfl, hb9⟩
    have hB9 := hB8.trans (hb9.mono hB8.size)
    clear hB8 hb9
    go_wp2_with fail
    refine (normE _ qa n (by omega) H8.out).mono ?_
    rintro e w10 ⟨rfl, hb10⟩
    have hB10 := hB9.trans (hb10.mono hB9.size)
    clear hB9 hb10
    go_wp2_with fail
    refine (normE _ qb n (by omega) H9.out).mono ?_
    rintro e w11 ⟨rfl, hb11⟩
    have hB11 := hB10.trans (hb11.mono hB10.size)
    clear hB10 hb11
    go_wp2_with fail
    refine (textE _ qa t (by omega) H6.out (HL.out.behind hB11)).mono ?_
    rintro e w12 ⟨rfl, hb12⟩
    have hB12 := hB11.trans (hb12.mono hB11.size)
    clear hB11 hb12
    go_wp2_with fail
    refine (textE _ qb t (by omega) H10.out (HL.out.behind hB12)).mono ?_
    rintro e w13 ⟨rfl, hb13⟩
    have hB13 := hB12.trans (hb13.mono hB12.size)
    clear hB12 hb13
    go_wp2_with fail
    refine (putE _ qa p (by omega) H1.out).mono ?_
    rintro e w14 ⟨rfl, hb14⟩
    have hB14 := hB13.trans (hb14.mono hB13.size)
    clear hB13 hb14
    go_wp2_with fail
    refine (putE _ qb p (by omega) H2.out).mono ?_
    rintro e w15 ⟨rfl, hb15⟩
    have hB15 := hB14.trans (hb15.mono hB14.size)
    clear hB14 hb15
    go_wp2
    go_ret
    exact ⟨rfl, hB15⟩
  | false =>
    have ht1 := TU.out
    have hp1 := PQ.out
    rw [hnk] at ht1 hp1
    clear TU PQ
    go_enter Tryd.func9, Tryd.ntmps9
    go_wp2_with fail
    refine HEX.out.mono ?_
    rintro e w1 ⟨rfl, hB1⟩
    clear HEX
    go_wp2_with fail
    refine (HFa.out _).mono ?_
    rintro e w' ⟨rfl, rfl⟩
    go_wp2_with fail
    refine (HFb.out _).mono ?_
    rintro e w' ⟨rfl, rfl⟩
    go_wp2_with fail
    refine (putE _ qa p (by omega) H1.out).mono ?_
    rintro e w2 ⟨rfl, hb2⟩
    have hB2 := hB1.trans (hb2.mono hB1.size)
    clear hB1 hb2
    go_wp2_with fail
    refine (putE _ qb q (by omega) H2.out).mono ?_
    rintro e w3 ⟨rfl, hb3⟩
    have hB3 := hB2.trans (hb3.mono hB2.size)
    clear hB2 hb3
    go_wp2_with fail
    rw [H3.out]
    refine (getE _ S _ n (N1 : Int) i3 H4.out).mono ?_
    rintro e w4 ⟨rfl, hb4⟩
    have hB4 := hB3.trans (hb4.mono hB3.size)
    clear hB3 hb4
    go_wp2_with fail
    refine (getE _ S _ k (N2 : Int) i3 H5.out).mono ?_
    rintro e w5 ⟨rfl, hb5⟩
    have hB5 := hB4.trans (hb5.mono hB4.size)
    clear hB4 hb5
    go_wp2_with fail
    refine (textE _ qa t (by omega) H6.out (HL.out.behind hB5)).mono ?_
    rintro e w6 ⟨rfl, hb6⟩
    have hB6 := hB5.trans (hb6.mono hB5.size)
    clear hB5 hb6
    go_wp2_with fail
    refine (parseE _ t n (by omega) H7.out (HL.out.behind hB6)).mono ?_
    rintro e w7 ⟨rfl, hb7⟩
    have hB7 := hB6.trans (hb7.mono hB6.size)
    clear hB6 hb7
    go_wp2_with fail
    refine (normE _ qa n (by omega) H8.out).mono ?_
    rintro e w8 ⟨rfl, hb8⟩
    have hB8 := hB7.trans (hb8.mono hB7.size)
    clear hB7 hb8
    go_wp2_with fail
    refine (normE _ qb k (by omega) H9.out).mono ?_
    rintro e w9 ⟨rfl, hb9⟩
    have hB9 := hB8.trans (hb9.mono hB8.size)
    clear hB8 hb9
    go_wp2_with fail
    refine (normE _ qa n (by omega) H8.out).mono ?_
    rintro e w10 ⟨rfl, hb10⟩
    have hB10 := hB9.trans (hb10.mono hB9.size)
    clear hB9 hb10
    go_wp2_with fail
    refine (normE _ qb k (by omega) H9.out).mono ?_
    rintro e w11 ⟨rfl, hb11⟩
    have hB11 := hB10.trans (hb11.mono hB10.size)
    clear hB10 hb11
    go_wp2_with fail
    refine (textE _ qa t (by omega) H6.out (HL.out.behind hB11)).mono ?_
    rintro e w12 ⟨rfl, hb12⟩
    have hB12 := hB11.trans (hb12.mono hB11.size)
    clear hB11 hb12
    go_wp2_with fail
    refine (textE _ qb u (by omega) H10.out (HL.out.behind hB12)).mono ?_
    rintro e w13 ⟨rfl, hb13⟩
    have hB13 := hB12.trans (hb13.mono hB12.size)
    clear hB12 hb13
    go_wp2_with fail
    refine (putE _ qa p (by omega) H1.out).mono ?_
    rintro e w14 ⟨rfl, hb14⟩
    have hB14 := hB13.trans (hb14.mono hB13.size)
    clear hB13 hb14
    go_wp2_with fail
    refine (putE _ qb q (by omega) H2.out).mono ?_
    rintro e w15 ⟨rfl, hb15⟩
    have hB15 := hB14.trans (hb15.mono hB14.size)
    clear hB14 hb15
    go_wp2
    go_ret
    exact ⟨rfl, hB15⟩
theorem walkCnfBack (a : ByteArray) (ha : a.size ≤ maxLen) (b : ByteArray) (hb : b.size ≤ maxLen) (A : ByteArray) (hA : A.data.toList.length ≤ reachBytes) (B : ByteArray) (hB : B.data.toList.length ≤ reachBytes) (w : World) (hL : Letters w) :
    Calls Tryd.prog 9 #[.string a, .string b, .string A, .string B] w fun e w' => e = .returned (.bool true) ∧ Below w.heap.size w w' :=
  walkPCnfBack a.data.toList ha b.data.toList hb A.data.toList (by unfold reachBytes at hA; omega) B.data.toList (by unfold reachBytes at hB; omega) w hL
end Go.Proofs.YtmldammikebhiaaDoor
