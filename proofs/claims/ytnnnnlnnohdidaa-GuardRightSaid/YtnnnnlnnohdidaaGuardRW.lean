/- The walk of GuardRight. Conditions: the sizes of what came in. -/
import Derived.Test.YtnnnnlnnohdidaaGuardPre
namespace Go.Proofs.Ytnnnnlnnohdidaa
open Go.RowKit Go.Shelf
attribute [local go_sem high] eql_label neq_label eql_state neq_state
set_option maxRecDepth 100000 in
set_option maxHeartbeats 4000000 in
theorem walkPGuardRight (s : Lz.St) (n : Nat) (l : Lz.Lab) (p : UInt8) (hs : bndS s) (hn : n < 256) (hl1 : l.1.length ≤ maxLen) (hl2 : l.2.length ≤ maxLen) (w : World) :
    Calls Try.prog 3 #[sv s, .int .u8 (n : Int), pv l, .int .u8 (p.toNat : Int)] w fun e w' => e = .returned (.bool true) ∧ Below w.heap.size w w' := by
  have mixed := mixedOrders
  obtain ⟨S0, L0, hB0⟩ := alloc2L w s l
  go_enter Try.func3, Try.ntmps3
  go_wp2_with fail
  generalize ((w.alloc (.cells #[.string (str s.cur.1), .string (str s.cur.2), .string (str s.clr.1), .string (str s.clr.2)] 26)).alloc (.cells #[.string (str l.1), .string (str l.2)] 24)) = w0 at S0 L0 hB0 ⊢
  refine (examples_p _).mono ?_
  rintro e w1 ⟨rfl, hb1⟩
  have S1 := S0.below hb1 S0.lt
  have L1 := L0.below hb1 L0.lt
  have hB1 := hB0.trans (hb1.mono hB0.size)
  clear S0 L0 hB0 hb1
  have c0 := S1.cell0
  have c1 := S1.cell1
  have c2 := S1.cell2
  have c3 := S1.cell3
  go_wp2_with fail
  have HF := Lib.hid (begun_p s hs)
  have ok : okS (Lz.begun (smS s)) := ⟨okL_nrm _, okL_jn _ _⟩
  have rt : Lz.rightS (Lz.begun (smS s)) := Lz.right_begun _
  generalize Lz.begun (smS s) = t at HF ok rt
  refine (HF.out _).mono ?_
  rintro e w2 ⟨rfl, hb2⟩
  clear c0 c1 c2 c3
  have S2 := S1.below hb2 S1.lt
  have L2 := L1.below hb2 L1.lt
  have hB2 := hB1.trans (hb2.mono hB1.size)
  clear S1 L1 hB1 hb2
  have c0 := S2.cell0
  have c1 := S2.cell1
  have c2 := S2.cell2
  have c3 := S2.cell3
  have f0 := S2.frozen 0
  have f1 := S2.frozen 1
  have f2 := S2.frozen 2
  have f3 := S2.frozen 3
  go_wp2_with fail
  have S3 := box4_set (a' := .string (str t.cur.1)) (b' := .string (str t.cur.2)) (c' := .string (str t.clr.1)) (d' := .string (str t.clr.2)) S2
  have L3 : BoxL ((((w2.setCell ⟨w.heap.size, 0, none⟩ (.string (str t.cur.1))).setCell ⟨w.heap.size, 1, none⟩ (.string (str t.cur.2))).setCell ⟨w.heap.size, 2, none⟩ (.string (str t.clr.1))).setCell ⟨w.heap.size, 3, none⟩ (.string (str t.clr.2))) (w.heap.size + 1) l := other4 (by omega) L2 _ _ _ _
  have hB3 := below4 hB2 (Nat.le_refl w.heap.size) (.string (str t.cur.1)) (.string (str t.cur.2)) (.string (str t.clr.1)) (.string (str t.clr.2))
  clear S2 L2 hB2 c0 c1 c2 c3 f0 f1 f2 f3
  generalize ((((w2.setCell ⟨w.heap.size, 0, none⟩ (.string (str t.cur.1))).setCell ⟨w.heap.size, 1, none⟩ (.string (str t.cur.2))).setCell ⟨w.heap.size, 2, none⟩ (.string (str t.clr.1))).setCell ⟨w.heap.size, 3, none⟩ (.string (str t.clr.2))) = x1 at S3 L3 hB3 ⊢
  have S_d : BoxS x1.drew w.heap.size t := S3
  have L_d : BoxL x1.drew (w.heap.size + 1) l := L3
  have h1d := drewB hB3
  clear S3 L3 hB3
  have RT := Lib.hid rt
  clear rt
  have HQ := Lib.hid (fun W => step_p t (sm l) p n hn ok (okL_sm l) W)
  have HA := Lib.hid (Lz.stS_right RT.out (n % 6) (sm l) p)
  have HL := Lib.hid (Lz.stS_floats t (n % 6) (sm l) p)
  have okt := okS_stS t (n % 6) (sm l) p ok
  generalize Lz.stS t (n % 6) (sm l) p = q at HQ HA HL okt
  obtain ⟨t', ex, lg⟩ := q
  have ltS := S_d.lt
  have ltL := L_d.lt
  have ltS' : w.heap.size < x1.heap.size := ltS
  have ltL' : w.heap.size + 1 < x1.heap.size := ltL
  have c6 := sixS S_d L_d
  have c7 := keep6A c6 (.cells #[.string ⟨#[]⟩, .string ⟨#[]⟩, .string ⟨#[]⟩, .string ⟨#[]⟩] 26)
  refine Code.wp_mono (Q := fun e a' wf => e = Exit.normal ∧ ∃ b, a' = { tmps := #[sv s, .int .u8 (n : Int), pv l, .int .u8 (p.toNat : Int), .pointer (some ⟨w.heap.size, 0, none⟩), undef, .pointer (some ⟨w.heap.size + 1, 0, none⟩), undef, .bool false, .bool true, .pointer (some ⟨b, 0, none⟩), .int .i64 ex, .bool lg, .bool true, .bool true, .bool false, .agg #[.string (str s.cur.1), .string (str s.cur.2), .string (str s.clr.1), .string (str s.clr.2)], .agg #[.string (str t.cur.1), .string (str t.cur.2), .string (str t.clr.1), .string (str t.clr.2)], .tuple #[.agg #[.string (str t'.cur.1), .string (str t'.cur.2), .string (str t'.clr.1), .string (str t'.clr.2)], .int .i64 ex, .bool lg], .agg #[.string (str t.cur.1), .string (str t.cur.2), .string (str t.clr.1), .string (str t.clr.2)], .int .u8 (n : Int), .agg #[.string (str l.1), .string (str l.2)], .agg #[.string (str (sm l).1), .string (str (sm l).2)], .int .u8 (p.toNat : Int), .tuple #[.agg #[.string (str t'.cur.1), .string (str t'.cur.2), .string (str t'.clr.1), .string (str t'.clr.2)], .int .i64 ex, .bool lg], .agg #[.string (str t'.cur.1), .string (str t'.cur.2), .string (str t'.clr.1), .string (str t'.clr.2)], .int .i64 ex, .bool lg, undef, undef, undef, undef, undef, undef, undef, undef, undef, undef, undef, undef, undef, undef, undef, undef, undef, undef, undef, undef, undef, undef, undef, undef, undef, undef, undef, undef, undef, undef, undef], defers := [] } ∧ BoxS wf b t' ∧ Below x1.drew.heap.size x1.drew wf) (fun e a' wf hq => ?_) ?_
  rotate_left
  focus
   go_region_held3 (fun w' => (w'.cell? ⟨w.heap.size, 0, none⟩ = some (.string (str t.cur.1)) ∧ w'.cell? ⟨w.heap.size, 1, none⟩ = some (.string (str t.cur.2)) ∧ w'.cell? ⟨w.heap.size, 2, none⟩ = some (.string (str t.clr.1)) ∧ w'.cell? ⟨w.heap.size, 3, none⟩ = some (.string (str t.clr.2))) ∧ w'.cell? ⟨w.heap.size + 1, 0, none⟩ = some (.string (str l.1)) ∧ w'.cell? ⟨w.heap.size + 1, 1, none⟩ = some (.string (str l.2))) (first | with_reducible exact c6 | with_reducible_and_instances exact c7D c7 | with_reducible_and_instances exact keep6S (by assumption) (by assumption) | with_reducible_and_instances exact keep6A (by assumption) _ | with_reducible_and_instances exact keep6A (keep6S (keep6S c6 hb2) hb3) _ | with_reducible_and_instances exact keep6Z (Nat.ne_of_lt (Nat.lt_of_lt_of_le ltS hb2.size)) (Nat.ne_of_lt (Nat.lt_of_lt_of_le ltL hb2.size)) (keep6S (keep6A (keep6S c6 hb2) _) hb3) | with_reducible_and_instances exact keep6Z (Nat.ne_of_lt ltS') (Nat.ne_of_lt ltL') (keep6S (keep6S (c7D c7) hb2) hb3))
    (first
      | (go_at_call 11; refine (small_p l hl1 hl2 _).mono ?_; rintro e w2' ⟨rfl, hb2⟩; try (with_reducible_and_instances have Z2 := zNewD hb2))
      | (go_at_call 10; refine (HQ.out _).mono ?_; rintro e w3' ⟨rfl, hb3⟩; (first | (with_reducible_and_instances have Z3 := zOld Z2 hb3) | (with_reducible_and_instances have Z3 := zNew hb3) | skip); try (have z0 := Z3.cell0); try (have z1 := Z3.cell1); try (have z2 := Z3.cell2); try (have z3 := Z3.cell3); try (have f0 := Z3.frozen 0); try (have f1 := Z3.frozen 1); try (have f2 := Z3.frozen 2); try (have f3 := Z3.frozen 3)))
   · have k3 := hb2.trans (hb3.mono hb2.size)
     exact ⟨rfl, _, rfl, Box4.new w3' _ _ _ _ _, k3.alloc k3.size _⟩
   · have ka := hb2.alloc hb2.size (.cells #[.string ⟨#[]⟩, .string ⟨#[]⟩, .string ⟨#[]⟩, .string ⟨#[]⟩] 26)
     have k3 := ka.trans (hb3.mono ka.size)
     exact ⟨rfl, _, rfl, box4_set Z3, below4 k3 hb2.size _ _ _ _⟩
   · have ka : Below x1.drew.heap.size x1.drew ((x1.alloc (.cells #[.string ⟨#[]⟩, .string ⟨#[]⟩, .string ⟨#[]⟩, .string ⟨#[]⟩] 26)).drew) := (Below.refl x1.drew.heap.size x1.drew).alloc (Nat.le_refl _) (.cells #[.string ⟨#[]⟩, .string ⟨#[]⟩, .string ⟨#[]⟩, .string ⟨#[]⟩] 26)
     have k2 := ka.trans (hb2.mono ka.size)
     have k3 := k2.trans (hb3.mono k2.size)
     exact ⟨rfl, _, rfl, box4_set Z3, below4 (k := x1.heap.size) k3 (Nat.le_refl x1.heap.size) _ _ _ _⟩
  obtain ⟨rfl, b, rfl, T4, hk⟩ := hq
  have S4 := S_d.below hk S_d.lt
  have hB4 := h1d.trans (hk.mono h1d.size)
  clear S_d L_d h1d hk c6 c7 ltS ltL ltS' ltL' HF HQ
  obtain ⟨rt', hex, hsame⟩ := HA.out
  simp only at hex hsame rt' okt
  have RT' := Lib.hid rt'
  clear rt'
  clear HA HL
  have c0 := S4.cell0
  have c1 := S4.cell1
  have c2 := S4.cell2
  have c3 := S4.cell3
  have d0 := T4.cell0
  have d1 := T4.cell1
  have d2 := T4.cell2
  have d3 := T4.cell3
  rcases hex with rfl | rfl | rfl
  · clear hsame
    go_wp2_with fail
    refine (rtS_p t ok RT.out _).mono ?_
    rintro e w5 ⟨rfl, hb5⟩
    have T5 := T4.below hb5 T4.lt
    have hB5 := hB4.trans (hb5.mono hB4.size)
    clear S4 T4 hB4 hb5 c0 c1 c2 c3 d0 d1 d2 d3
    have d0 := T5.cell0
    have d1 := T5.cell1
    have d2 := T5.cell2
    have d3 := T5.cell3
    go_wp2_with fail
    refine (rtS_p _ okt RT'.out _).mono ?_
    rintro e w6 ⟨rfl, hb6⟩
    go_wp2
    go_ret
    exact ⟨rfl, hB5.trans (hb6.mono hB5.size)⟩
  · obtain ⟨rfl, rfl⟩ := hsame (by decide)
    clear hsame
    go_wp2_with fail
    refine (rtS_p _ ok RT.out _).mono ?_
    rintro e w5 ⟨rfl, hb5⟩
    have T5 := T4.below hb5 T4.lt
    have hB5 := hB4.trans (hb5.mono hB4.size)
    clear S4 T4 hB4 hb5 c0 c1 c2 c3 d0 d1 d2 d3
    have d0 := T5.cell0
    have d1 := T5.cell1
    have d2 := T5.cell2
    have d3 := T5.cell3
    go_wp2_with fail
    refine (rtS_p _ okt RT'.out _).mono ?_
    rintro e w6 ⟨rfl, hb6⟩
    go_wp2
    go_ret
    exact ⟨rfl, hB5.trans (hb6.mono hB5.size)⟩
  · obtain ⟨rfl, rfl⟩ := hsame (by decide)
    clear hsame
    go_wp2_with fail
    refine (rtS_p _ ok RT.out _).mono ?_
    rintro e w5 ⟨rfl, hb5⟩
    have T5 := T4.below hb5 T4.lt
    have hB5 := hB4.trans (hb5.mono hB4.size)
    clear S4 T4 hB4 hb5 c0 c1 c2 c3 d0 d1 d2 d3
    have d0 := T5.cell0
    have d1 := T5.cell1
    have d2 := T5.cell2
    have d3 := T5.cell3
    go_wp2_with fail
    refine (rtS_p _ okt RT'.out _).mono ?_
    rintro e w6 ⟨rfl, hb6⟩
    go_wp2
    go_ret
    exact ⟨rfl, hB5.trans (hb6.mono hB5.size)⟩
theorem walkGuardRight (a b c e : ByteArray) (ha : a.size ≤ maxLen) (hb : b.size ≤ maxLen) (hc : c.size ≤ maxLen) (he : e.size ≤ maxLen) (x : Int) (hx : (Lit.int .u8 x).wf = true) (l i : ByteArray) (hl : l.size ≤ maxLen) (hi : i.size ≤ maxLen) (y : Int) (hy : (Lit.int .u8 y).wf = true) (w : World) :
    Calls Try.prog 3 #[.agg #[.string a, .string b, .string c, .string e], .int .u8 x, .agg #[.string l, .string i], .int .u8 y] w fun e w' => e = .returned (.bool true) ∧ Below w.heap.size w w' := by
  obtain ⟨n, rfl⟩ := u8_of hx
  obtain ⟨p, rfl⟩ := u8_of hy
  exact walkPGuardRight ⟨(a.data.toList, b.data.toList), (c.data.toList, e.data.toList)⟩ n.toNat (l.data.toList, i.data.toList) p ⟨ha, hb, hc, he⟩ n.toNat_lt hl hi w
end Go.Proofs.Ytnnnnlnnohdidaa
