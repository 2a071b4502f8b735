/- The contract of the statements' step. Condition: the formulas' lengths. -/
import Derived.Test.YtnnnnlnnohdidaaGuard6
import Derived.Test.YtnnnnlnnohdidaaGuard4a
import Derived.Test.YtnnnnlnnohdidaaGuard4b
import Derived.Test.YtnnnnlnnohdidaaGuard4c
import Derived.Test.YtnnnnlnnohdidaaGuard5a
import Derived.Test.YtnnnnlnnohdidaaGuard5b
namespace Go.Proofs.Ytnnnnlnnohdidaa
open Go.RowKit Go.Shelf

set_option maxRecDepth 100000 in
set_option maxHeartbeats 4000000 in
theorem step0_p (s : Lz.St) (l : Lz.Lab) (p : UInt8) (n : Nat) (hn : n < 256) (hr : n % 6 = 0) (hs : okS s) (hl : okL l) (w : World) : Calls Try.prog 10 #[sv s, .int .u8 (n : Int), pv l, .int .u8 (p.toNat : Int)] w fun e w' => e = .returned (.tuple #[sv (Lz.stS s 0 l p).1, .int .i64 (Lz.stS s 0 l p).2.1, .bool (Lz.stS s 0 l p).2.2]) ∧ Below w.heap.size w w' := by
  have mixed := mixedOrders
  obtain ⟨bS0, bL0, bZ0, hB0, hs0⟩ := alloc3 w s l
  have hm : Int.tmod (n : Int) 6 = 0 := by rw [Int.tmod_eq_emod_of_nonneg (by omega)]; omega
  have c0 := bS0.cell0
  have c1 := bS0.cell1
  have c2 := bS0.cell2
  have c3 := bS0.cell3
  have c4 := bL0.cell0
  have c5 := bL0.cell1
  have hst : Lz.stS s 0 l p = ((Lz.upS s l).1, (Lz.upS s l).2, false) := rfl
  rw [hst]
  clear hst
  have HC := Lib.hid (fun W => up_p s l hs hl W)
  generalize Lz.upS s l = q at HC ⊢
  obtain ⟨t, x⟩ := q
  go_enter Try.func10, Try.ntmps10
  go_wp2_with fail
  generalize (((w.alloc (.cells #[.string (str s.cur.1), .string (str s.cur.2), .string (str s.clr.1), .string (str s.clr.2)] 26)).alloc (.cells #[.string (str l.1), .string (str l.2)] 24)).alloc (.cells #[.string ⟨#[]⟩, .string ⟨#[]⟩, .string ⟨#[]⟩, .string ⟨#[]⟩] 26)) = w0 at bS0 bL0 bZ0 hB0 hs0 c0 c1 c2 c3 c4 c5 ⊢
  refine (HC.out _).mono ?_
  rintro e w1 ⟨rfl, hb1⟩
  have bS1 := bS0.below hb1 bS0.lt
  have bL1 := bL0.below hb1 bL0.lt
  have bZ1 := bZ0.below hb1 bZ0.lt
  have hB1 := hB0.trans (hb1.mono hB0.size)
  have bT := Box4.new w1 26 (.string (str t.cur.1)) (.string (str t.cur.2)) (.string (str t.clr.1)) (.string (str t.clr.2))
  have hB1' := hB1.alloc hB1.size (.cells #[.string (str t.cur.1), .string (str t.cur.2), .string (str t.clr.1), .string (str t.clr.2)] 26)
  have bZa := bZ1.alloc (.cells #[.string (str t.cur.1), .string (str t.cur.2), .string (str t.clr.1), .string (str t.clr.2)] 26)
  have bY := Box4.new w1 26 (.string ⟨#[]⟩) (.string ⟨#[]⟩) (.string ⟨#[]⟩) (.string ⟨#[]⟩)
  clear bS0 bL0 bZ0 hB0 hb1 c0 c1 c2 c3 c4 c5
  have c0 := bT.cell0
  have c1 := bT.cell1
  have c2 := bT.cell2
  have c3 := bT.cell3
  have z0 := bZa.cell0
  have z1 := bZa.cell1
  have z2 := bZa.cell2
  have z3 := bZa.cell3
  have f0 := bZa.frozen 0
  have f1 := bZa.frozen 1
  have f2 := bZa.frozen 2
  have f3 := bZa.frozen 3
  go_wp2
  have bN := box4_set (a' := .string (str t.cur.1)) (b' := .string (str t.cur.2)) (c' := .string (str t.clr.1)) (d' := .string (str t.clr.2)) bZa
  have e0 := bN.cell0
  have e1 := bN.cell1
  have e2 := bN.cell2
  have e3 := bN.cell3
  refine bodyPost_ret (v := .tuple #[.agg #[.string (str t.cur.1), .string (str t.cur.2), .string (str t.clr.1), .string (str t.clr.2)], .int .i64 x, .bool false]) ?_ rfl ⟨rfl, below4 hB1' (show w.heap.size ≤ w.heap.size + 1 + 1 by omega) _ _ _ _⟩
  simp [results, Try.f10, go_sem, e0, e1, e2, e3]
set_option maxRecDepth 100000 in
set_option maxHeartbeats 4000000 in
theorem step1_p (s : Lz.St) (l : Lz.Lab) (p : UInt8) (n : Nat) (hn : n < 256) (hr : n % 6 = 1) (hs : okS s) (hl : okL l) (w : World) : Calls Try.prog 10 #[sv s, .int .u8 (n : Int), pv l, .int .u8 (p.toNat : Int)] w fun e w' => e = .returned (.tuple #[sv (Lz.stS s 1 l p).1, .int .i64 (Lz.stS s 1 l p).2.1, .bool (Lz.stS s 1 l p).2.2]) ∧ Below w.heap.size w w' := by
  have mixed := mixedOrders
  obtain ⟨bS0, bL0, bZ0, hB0, hs0⟩ := alloc3 w s l
  have hm : Int.tmod (n : Int) 6 = 1 := by rw [Int.tmod_eq_emod_of_nonneg (by omega)]; omega
  have c0 := bS0.cell0
  have c1 := bS0.cell1
  have c2 := bS0.cell2
  have c3 := bS0.cell3
  have c4 := bL0.cell0
  have c5 := bL0.cell1
  have hst : Lz.stS s 1 l p = (s, Lz.wrS s l, false) := rfl
  rw [hst]
  clear hst
  go_enter Try.func10, Try.ntmps10
  go_wp2_with fail
  generalize (((w.alloc (.cells #[.string (str s.cur.1), .string (str s.cur.2), .string (str s.clr.1), .string (str s.clr.2)] 26)).alloc (.cells #[.string (str l.1), .string (str l.2)] 24)).alloc (.cells #[.string ⟨#[]⟩, .string ⟨#[]⟩, .string ⟨#[]⟩, .string ⟨#[]⟩] 26)) = w0 at bS0 bL0 bZ0 hB0 hs0 c0 c1 c2 c3 c4 c5 ⊢
  have bSd : BoxS w0.drew (w.heap.size) s := bS0
  have bLd : BoxL w0.drew (w.heap.size + 1) l := bL0
  have bZd : BoxZ w0.drew (w.heap.size + 1 + 1) := bZ0
  have hBd := drewB hB0
  have c0 := bSd.cell0
  have c1 := bSd.cell1
  have c2 := bSd.cell2
  have c3 := bSd.cell3
  have c4 := bLd.cell0
  have c5 := bLd.cell1
  clear bS0 bL0 bZ0 hB0
  go_region_held3 (fun w' => w'.cell? ⟨w.heap.size, 0, none⟩ = some (.string (str s.cur.1)) ∧ w'.cell? ⟨w.heap.size, 1, none⟩ = some (.string (str s.cur.2)) ∧ w'.cell? ⟨w.heap.size, 2, none⟩ = some (.string (str s.clr.1)) ∧ w'.cell? ⟨w.heap.size, 3, none⟩ = some (.string (str s.clr.2)) ∧ w'.cell? ⟨w.heap.size + 1, 0, none⟩ = some (.string (str l.1)) ∧ w'.cell? ⟨w.heap.size + 1, 1, none⟩ = some (.string (str l.2))) (first | with_reducible exact ⟨c0, c1, c2, c3, c4, c5⟩ | with_reducible exact ⟨set4 (by omega) c0, set4 (by omega) c1, set4 (by omega) c2, set4 (by omega) c3, set4 (by omega) c4, set4 (by omega) c5⟩ | go_keep)
    (first
      | (go_at_call 15; refine (wr_p s l hs hl _).mono ?_; rintro e w1 ⟨rfl, hb1⟩; have bS1 := bSd.below hb1 bSd.lt; have bL1 := bLd.below hb1 bLd.lt; have bZ1 := bZd.below hb1 bZd.lt; have hB1 := hBd.trans (hb1.mono hBd.size); have c0 := bS1.cell0; have c1 := bS1.cell1; have c2 := bS1.cell2; have c3 := bS1.cell3; have c4 := bL1.cell0; have c5 := bL1.cell1; have z0 := bZ1.cell0; have z1 := bZ1.cell1; have z2 := bZ1.cell2; have z3 := bZ1.cell3; have f0 := bZ1.frozen 0; have f1 := bZ1.frozen 1; have f2 := bZ1.frozen 2; have f3 := bZ1.frozen 3))
  go_wp2
  have bN := box4_set (a' := .string (str s.cur.1)) (b' := .string (str s.cur.2)) (c' := .string (str s.clr.1)) (d' := .string (str s.clr.2)) bZ1
  have e0 := bN.cell0
  have e1 := bN.cell1
  have e2 := bN.cell2
  have e3 := bN.cell3
  refine bodyPost_ret (v := .tuple #[.agg #[.string (str s.cur.1), .string (str s.cur.2), .string (str s.clr.1), .string (str s.clr.2)], .int .i64 (Lz.wrS s l), .bool false]) ?_ rfl ⟨rfl, below4 hB1 (show w.heap.size ≤ w.heap.size + 1 + 1 by omega) _ _ _ _⟩
  simp [results, Try.f10, go_sem, e0, e1, e2, e3]
set_option maxRecDepth 100000 in
set_option maxHeartbeats 4000000 in
theorem step2_p (s : Lz.St) (l : Lz.Lab) (p : UInt8) (n : Nat) (hn : n < 256) (hr : n % 6 = 2) (hs : okS s) (hl : okL l) (w : World) : Calls Try.prog 10 #[sv s, .int .u8 (n : Int), pv l, .int .u8 (p.toNat : Int)] w fun e w' => e = .returned (.tuple #[sv (Lz.stS s 2 l p).1, .int .i64 (Lz.stS s 2 l p).2.1, .bool (Lz.stS s 2 l p).2.2]) ∧ Below w.heap.size w w' := by
  have mixed := mixedOrders
  obtain ⟨bS0, bL0, bZ0, hB0, hs0⟩ := alloc3 w s l
  have hm : Int.tmod (n : Int) 6 = 2 := by rw [Int.tmod_eq_emod_of_nonneg (by omega)]; omega
  have c0 := bS0.cell0
  have c1 := bS0.cell1
  have c2 := bS0.cell2
  have c3 := bS0.cell3
  have c4 := bL0.cell0
  have c5 := bL0.cell1
  have hst : Lz.stS s 2 l p = ((Lz.boS s l).1, (Lz.boS s l).2, false) := rfl
  rw [hst]
  clear hst
  have HC := Lib.hid (fun W => bo_p s l hs hl W)
  generalize Lz.boS s l = q at HC ⊢
  obtain ⟨t, x⟩ := q
  go_enter Try.func10, Try.ntmps10
  go_wp2_with fail
  generalize (((w.alloc (.cells #[.string (str s.cur.1), .string (str s.cur.2), .string (str s.clr.1), .string (str s.clr.2)] 26)).alloc (.cells #[.string (str l.1), .string (str l.2)] 24)).alloc (.cells #[.string ⟨#[]⟩, .string ⟨#[]⟩, .string ⟨#[]⟩, .string ⟨#[]⟩] 26)) = w0 at bS0 bL0 bZ0 hB0 hs0 c0 c1 c2 c3 c4 c5 ⊢
  refine (HC.out _).mono ?_
  rintro e w1 ⟨rfl, hb1⟩
  have bS1 := bS0.below hb1 bS0.lt
  have bL1 := bL0.below hb1 bL0.lt
  have bZ1 := bZ0.below hb1 bZ0.lt
  have hB1 := hB0.trans (hb1.mono hB0.size)
  have bT := Box4.new w1 26 (.string (str t.cur.1)) (.string (str t.cur.2)) (.string (str t.clr.1)) (.string (str t.clr.2))
  have hB1' := hB1.alloc hB1.size (.cells #[.string (str t.cur.1), .string (str t.cur.2), .string (str t.clr.1), .string (str t.clr.2)] 26)
  have bZa := bZ1.alloc (.cells #[.string (str t.cur.1), .string (str t.cur.2), .string (str t.clr.1), .string (str t.clr.2)] 26)
  have bY := Box4.new w1 26 (.string ⟨#[]⟩) (.string ⟨#[]⟩) (.string ⟨#[]⟩) (.string ⟨#[]⟩)
  clear bS0 bL0 bZ0 hB0 hb1 c0 c1 c2 c3 c4 c5
  have c0 := bT.cell0
  have c1 := bT.cell1
  have c2 := bT.cell2
  have c3 := bT.cell3
  have z0 := bZa.cell0
  have z1 := bZa.cell1
  have z2 := bZa.cell2
  have z3 := bZa.cell3
  have f0 := bZa.frozen 0
  have f1 := bZa.frozen 1
  have f2 := bZa.frozen 2
  have f3 := bZa.frozen 3
  go_wp2
  have bN := box4_set (a' := .string (str t.cur.1)) (b' := .string (str t.cur.2)) (c' := .string (str t.clr.1)) (d' := .string (str t.clr.2)) bZa
  have e0 := bN.cell0
  have e1 := bN.cell1
  have e2 := bN.cell2
  have e3 := bN.cell3
  refine bodyPost_ret (v := .tuple #[.agg #[.string (str t.cur.1), .string (str t.cur.2), .string (str t.clr.1), .string (str t.clr.2)], .int .i64 x, .bool false]) ?_ rfl ⟨rfl, below4 hB1' (show w.heap.size ≤ w.heap.size + 1 + 1 by omega) _ _ _ _⟩
  simp [results, Try.f10, go_sem, e0, e1, e2, e3]
set_option maxRecDepth 100000 in
set_option maxHeartbeats 4000000 in
theorem step3_p (s : Lz.St) (l : Lz.Lab) (p : UInt8) (n : Nat) (hn : n < 256) (hr : n % 6 = 3) (hs : okS s) (hl : okL l) (w : World) : Calls Try.prog 10 #[sv s, .int .u8 (n : Int), pv l, .int .u8 (p.toNat : Int)] w fun e w' => e = .returned (.tuple #[sv (Lz.stS s 3 l p).1, .int .i64 (Lz.stS s 3 l p).2.1, .bool (Lz.stS s 3 l p).2.2]) ∧ Below w.heap.size w w' := by
  have mixed := mixedOrders
  obtain ⟨bS0, bL0, bZ0, hB0, hs0⟩ := alloc3 w s l
  have hm : Int.tmod (n : Int) 6 = 3 := by rw [Int.tmod_eq_emod_of_nonneg (by omega)]; omega
  have c0 := bS0.cell0
  have c1 := bS0.cell1
  have c2 := bS0.cell2
  have c3 := bS0.cell3
  have c4 := bL0.cell0
  have c5 := bL0.cell1
  have hst : Lz.stS s 3 l p = ((Lz.loS s l).1, (Lz.loS s l).2, false) := rfl
  rw [hst]
  clear hst
  have HC := Lib.hid (fun W => lo_p s l hs hl W)
  generalize Lz.loS s l = q at HC ⊢
  obtain ⟨t, x⟩ := q
  go_enter Try.func10, Try.ntmps10
  go_wp2_with fail
  generalize (((w.alloc (.cells #[.string (str s.cur.1), .string (str s.cur.2), .string (str s.clr.1), .string (str s.clr.2)] 26)).alloc (.cells #[.string (str l.1), .string (str l.2)] 24)).alloc (.cells #[.string ⟨#[]⟩, .string ⟨#[]⟩, .string ⟨#[]⟩, .string ⟨#[]⟩] 26)) = w0 at bS0 bL0 bZ0 hB0 hs0 c0 c1 c2 c3 c4 c5 ⊢
  refine (HC.out _).mono ?_
  rintro e w1 ⟨rfl, hb1⟩
  have bS1 := bS0.below hb1 bS0.lt
  have bL1 := bL0.below hb1 bL0.lt
  have bZ1 := bZ0.below hb1 bZ0.lt
  have hB1 := hB0.trans (hb1.mono hB0.size)
  have bT := Box4.new w1 26 (.string (str t.cur.1)) (.string (str t.cur.2)) (.string (str t.clr.1)) (.string (str t.clr.2))
  have hB1' := hB1.alloc hB1.size (.cells #[.string (str t.cur.1), .string (str t.cur.2), .string (str t.clr.1), .string (str t.clr.2)] 26)
  have bZa := bZ1.alloc (.cells #[.string (str t.cur.1), .string (str t.cur.2), .string (str t.clr.1), .string (str t.clr.2)] 26)
  have bY := Box4.new w1 26 (.string ⟨#[]⟩) (.string ⟨#[]⟩) (.string ⟨#[]⟩) (.string ⟨#[]⟩)
  clear bS0 bL0 bZ0 hB0 hb1 c0 c1 c2 c3 c4 c5
  have c0 := bT.cell0
  have c1 := bT.cell1
  have c2 := bT.cell2
  have c3 := bT.cell3
  have z0 := bZa.cell0
  have z1 := bZa.cell1
  have z2 := bZa.cell2
  have z3 := bZa.cell3
  have f0 := bZa.frozen 0
  have f1 := bZa.frozen 1
  have f2 := bZa.frozen 2
  have f3 := bZa.frozen 3
  go_wp2
  have bN := box4_set (a' := .string (str t.cur.1)) (b' := .string (str t.cur.2)) (c' := .string (str t.clr.1)) (d' := .string (str t.clr.2)) bZa
  have e0 := bN.cell0
  have e1 := bN.cell1
  have e2 := bN.cell2
  have e3 := bN.cell3
  refine bodyPost_ret (v := .tuple #[.agg #[.string (str t.cur.1), .string (str t.cur.2), .string (str t.clr.1), .string (str t.clr.2)], .int .i64 x, .bool false]) ?_ rfl ⟨rfl, below4 hB1' (show w.heap.size ≤ w.heap.size + 1 + 1 by omega) _ _ _ _⟩
  simp [results, Try.f10, go_sem, e0, e1, e2, e3]
set_option maxRecDepth 100000 in
set_option maxHeartbeats 4000000 in
theorem step4_p (s : Lz.St) (l : Lz.Lab) (p : UInt8) (n : Nat) (hn : n < 256) (hr : n % 6 = 4) (hs : okS s) (hl : okL l) (w : World) : Calls Try.prog 10 #[sv s, .int .u8 (n : Int), pv l, .int .u8 (p.toNat : Int)] w fun e w' => e = .returned (.tuple #[sv (Lz.stS s 4 l p).1, .int .i64 (Lz.stS s 4 l p).2.1, .bool (Lz.stS s 4 l p).2.2]) ∧ Below w.heap.size w w' := by
  have mixed := mixedOrders
  obtain ⟨bS0, bL0, bZ0, hB0, hs0⟩ := alloc3 w s l
  have hm : Int.tmod (n : Int) 6 = 4 := by rw [Int.tmod_eq_emod_of_nonneg (by omega)]; omega
  have c0 := bS0.cell0
  have c1 := bS0.cell1
  have c2 := bS0.cell2
  have c3 := bS0.cell3
  have c4 := bL0.cell0
  have c5 := bL0.cell1
  have hst : Lz.stS s 4 l p = Lz.drS s l p := rfl
  rw [hst]
  clear hst
  have HC := Lib.hid (fun W => drG_p s l _ p rfl hs hl W)
  generalize Lz.drS s l p = q at HC ⊢
  obtain ⟨t, x, b⟩ := q
  go_enter Try.func10, Try.ntmps10
  go_wp2_with fail
  generalize (((w.alloc (.cells #[.string (str s.cur.1), .string (str s.cur.2), .string (str s.clr.1), .string (str s.clr.2)] 26)).alloc (.cells #[.string (str l.1), .string (str l.2)] 24)).alloc (.cells #[.string ⟨#[]⟩, .string ⟨#[]⟩, .string ⟨#[]⟩, .string ⟨#[]⟩] 26)) = w0 at bS0 bL0 bZ0 hB0 hs0 c0 c1 c2 c3 c4 c5 ⊢
  refine (HC.out _).mono ?_
  rintro e w1 ⟨rfl, hb1⟩
  have bS1 := bS0.below hb1 bS0.lt
  have bL1 := bL0.below hb1 bL0.lt
  have bZ1 := bZ0.below hb1 bZ0.lt
  have hB1 := hB0.trans (hb1.mono hB0.size)
  clear bS0 bL0 bZ0 hB0 hb1 c0 c1 c2 c3 c4 c5
  have z0 := bZ1.cell0
  have z1 := bZ1.cell1
  have z2 := bZ1.cell2
  have z3 := bZ1.cell3
  have f0 := bZ1.frozen 0
  have f1 := bZ1.frozen 1
  have f2 := bZ1.frozen 2
  have f3 := bZ1.frozen 3
  go_wp2
  have bN := box4_set (a' := .string (str t.cur.1)) (b' := .string (str t.cur.2)) (c' := .string (str t.clr.1)) (d' := .string (str t.clr.2)) bZ1
  have e0 := bN.cell0
  have e1 := bN.cell1
  have e2 := bN.cell2
  have e3 := bN.cell3
  refine bodyPost_ret (v := .tuple #[.agg #[.string (str t.cur.1), .string (str t.cur.2), .string (str t.clr.1), .string (str t.clr.2)], .int .i64 x, .bool b]) ?_ rfl ⟨rfl, below4 hB1 (show w.heap.size ≤ w.heap.size + 1 + 1 by omega) _ _ _ _⟩
  simp [results, Try.f10, go_sem, e0, e1, e2, e3]
set_option maxRecDepth 100000 in
set_option maxHeartbeats 4000000 in
theorem step5_p (s : Lz.St) (l : Lz.Lab) (p : UInt8) (n : Nat) (hn : n < 256) (hr : n % 6 = 5) (hs : okS s) (hl : okL l) (w : World) : Calls Try.prog 10 #[sv s, .int .u8 (n : Int), pv l, .int .u8 (p.toNat : Int)] w fun e w' => e = .returned (.tuple #[sv (Lz.stS s 5 l p).1, .int .i64 (Lz.stS s 5 l p).2.1, .bool (Lz.stS s 5 l p).2.2]) ∧ Below w.heap.size w w' := by
  have mixed := mixedOrders
  obtain ⟨bS0, bL0, bZ0, hB0, hs0⟩ := alloc3 w s l
  have hm : Int.tmod (n : Int) 6 = 5 := by rw [Int.tmod_eq_emod_of_nonneg (by omega)]; omega
  have c0 := bS0.cell0
  have c1 := bS0.cell1
  have c2 := bS0.cell2
  have c3 := bS0.cell3
  have c4 := bL0.cell0
  have c5 := bL0.cell1
  have hst : Lz.stS s 5 l p = Lz.liS s l p := rfl
  rw [hst]
  clear hst
  have HC := Lib.hid (fun W => liG_p s l _ p rfl hs hl W)
  generalize Lz.liS s l p = q at HC ⊢
  obtain ⟨t, x, b⟩ := q
  go_enter Try.func10, Try.ntmps10
  go_wp2_with fail
  generalize (((w.alloc (.cells #[.string (str s.cur.1), .string (str s.cur.2), .string (str s.clr.1), .string (str s.clr.2)] 26)).alloc (.cells #[.string (str l.1), .string (str l.2)] 24)).alloc (.cells #[.string ⟨#[]⟩, .string ⟨#[]⟩, .string ⟨#[]⟩, .string ⟨#[]⟩] 26)) = w0 at bS0 bL0 bZ0 hB0 hs0 c0 c1 c2 c3 c4 c5 ⊢
  refine (HC.out _).mono ?_
  rintro e w1 ⟨rfl, hb1⟩
  have bS1 := bS0.below hb1 bS0.lt
  have bL1 := bL0.below hb1 bL0.lt
  have bZ1 := bZ0.below hb1 bZ0.lt
  have hB1 := hB0.trans (hb1.mono hB0.size)
  clear bS0 bL0 bZ0 hB0 hb1 c0 c1 c2 c3 c4 c5
  have z0 := bZ1.cell0
  have z1 := bZ1.cell1
  have z2 := bZ1.cell2
  have z3 := bZ1.cell3
  have f0 := bZ1.frozen 0
  have f1 := bZ1.frozen 1
  have f2 := bZ1.frozen 2
  have f3 := bZ1.frozen 3
  go_wp2
  have bN := box4_set (a' := .string (str t.cur.1)) (b' := .string (str t.cur.2)) (c' := .string (str t.clr.1)) (d' := .string (str t.clr.2)) bZ1
  have e0 := bN.cell0
  have e1 := bN.cell1
  have e2 := bN.cell2
  have e3 := bN.cell3
  refine bodyPost_ret (v := .tuple #[.agg #[.string (str t.cur.1), .string (str t.cur.2), .string (str t.clr.1), .string (str t.clr.2)], .int .i64 x, .bool b]) ?_ rfl ⟨rfl, below4 hB1 (show w.heap.size ≤ w.heap.size + 1 + 1 by omega) _ _ _ _⟩
  simp [results, Try.f10, go_sem, e0, e1, e2, e3]
theorem stS_mod (s : Lz.St) (l : Lz.Lab) (p : UInt8) (n k : Nat) (h : n % 6 = k) : Lz.stS s (n % 6) l p = Lz.stS s k l p := by rw [h]
theorem step_p (s : Lz.St) (l : Lz.Lab) (p : UInt8) (n : Nat) (hn : n < 256) (hs : okS s) (hl : okL l) (w : World) : Calls Try.prog 10 #[sv s, .int .u8 (n : Int), pv l, .int .u8 (p.toNat : Int)] w fun e w' => e = .returned (.tuple #[sv (Lz.stS s (n % 6) l p).1, .int .i64 (Lz.stS s (n % 6) l p).2.1, .bool (Lz.stS s (n % 6) l p).2.2]) ∧ Below w.heap.size w w' := by
  have h : n % 6 = 0 ∨ n % 6 = 1 ∨ n % 6 = 2 ∨ n % 6 = 3 ∨ n % 6 = 4 ∨ n % 6 = 5 := by omega
  rcases h with h | h | h | h | h | h
  · rw [stS_mod s l p n 0 h]; exact step0_p s l p n hn h hs hl w
  · rw [stS_mod s l p n 1 h]; exact step1_p s l p n hn h hs hl w
  · rw [stS_mod s l p n 2 h]; exact step2_p s l p n hn h hs hl w
  · rw [stS_mod s l p n 3 h]; exact step3_p s l p n hn h hs hl w
  · rw [stS_mod s l p n 4 h]; exact step4_p s l p n hn h hs hl w
  · rw [stS_mod s l p n 5 h]; exact step5_p s l p n hn h hs hl w
end Go.Proofs.Ytnnnnlnnohdidaa
