/- The contracts of cnf.And, holds, Table, Implies. Condition: the formulas' lengths. -/
import Derived.Test.YtiagoiannccdmaaDoorNorm
namespace Go.Proofs.YtiagoiannccdmaaDoor
open Go.RowKit Go.Shelf

attribute [local go_sem] Oper.semAt_some str_size

set_option maxRecDepth 100000 in
set_option maxHeartbeats 1000000 in
theorem and_any (a b : ByteArray) (ha : a.size ≤ 1000000) (hb : b.size ≤ 1000000) (w : World) :
    Calls Tryd.prog 41 #[.string a, .string b] w fun e w' => e = .returned (.string (str (Lz.and a.data.toList b.data.toList))) ∧ Below w.heap.size w w' := by
  have la := norm_length a.data.toList
  have lb := norm_length b.data.toList
  go_enter Tryd.func41, Tryd.ntmps41
  go_wp2_with fail
  refine (norm_any a ha _).mono ?_
  rintro e w1 ⟨rfl, hb1⟩
  go_wp2_with fail
  refine (norm_any b hb _).mono ?_
  rintro e w2 ⟨rfl, hb2⟩
  go_wp2_with fail
  refine (norm_any _ (by simp only [ByteArray.size_append, str_size]; omega) _).mono ?_
  rintro e w3 ⟨rfl, hb3⟩
  rw [lst_append, lst_str, lst_str]
  go_wp2
  go_ret
  have h2 := hb1.trans (hb2.mono hb1.size)
  exact ⟨rfl, h2.trans (hb3.mono h2.size)⟩

theorem meets_bits (x y : UInt8) : bits .and .u8 (x.toNat : Int) (y.toNat : Int) = ((x &&& y).toNat : Int) := bits_and_u8 x y
theorem meets_zero {x y : UInt8} {b : Bool} (h : Lz.meets x y = b) : (bits .and .u8 (x.toNat : Int) (y.toNat : Int) == 0) = !b := by
  rw [bits_and_u8, toNat_zero_iff, ← h]
  unfold Lz.meets
  cases hb : (x &&& y == 0) <;> simp_all
theorem holds_snoc (l : List UInt8) (c x : UInt8) : Lz.holds (l ++ [c]) x = (Lz.holds l x && Lz.meets c x) := by simp [Lz.holds, List.all_append]
theorem holds_prefix {l m : List UInt8} {x : UInt8} (h : l <+: m) (hl : Lz.holds l x = false) : Lz.holds m x = false := by
  obtain ⟨r, rfl⟩ := h
  unfold Lz.holds at *
  rw [List.all_append, hl]; rfl

set_option maxRecDepth 100000 in
set_option maxHeartbeats 2000000 in
theorem holds_in (s : ByteArray) (hs : s.size ≤ 1000000) (z : UInt8) (w : World) :
    CallsIn Fence.wide 6 Tryd.prog 74 #[.string s, .int .u8 (z.toNat : Int)] w fun e w' => e = .returned (.bool (Lz.holds s.data.toList z)) ∧ Below w.heap.size w w' := by
  refine callsIn_of_wp_marks Tryd.func74 rfl trivial ?_ rfl
  simp only [Tryd.ntmps74, List.size_toArray, List.length_cons, List.length_nil, Nat.reduceAdd, Nat.reduceSub, Array.replicate_succ, Array.replicate_zero, List.push_toArray, List.append_toArray, List.nil_append, List.cons_append]
  gi_wp2_with (refine ⟨trivial, ?_⟩; gi_at_call 58; refine (each_in Fence.wide _ trivial rfl _ _).mono ?_; rintro e w' ⟨rfl, rfl⟩)
  have bX := Boxed.new w 5 (.int .u8 (z.toNat : Int))
  have bR := Boxed.new (w.alloc (.cells #[.int .u8 (z.toNat : Int)] 5)) 4 (.bool false)
  have bS := Boxed.new ((w.alloc (.cells #[.int .u8 (z.toNat : Int)] 5)).alloc (.cells #[.bool false] 4)) 22 (.string s)
  rw [World.size_alloc] at bR
  rw [World.size_alloc, World.size_alloc] at bS
  have hB0 : Below w.heap.size w (((w.alloc (.cells #[.int .u8 (z.toNat : Int)] 5)).alloc (.cells #[.bool false] 4)).alloc (.cells #[.string s] 22)) :=
    (((Below.refl _ w).alloc (Nat.le_refl _) _).alloc (by simp) _).alloc (by simp; omega) _
  refine wpIn_rangeFunc_ownG rfl (by omega) (gf := 75) (lb := #[.pointer (some ⟨w.heap.size + 2, 0, none⟩)]) rfl trivial (enters_of Tryd.func75 (by kernel_rfl) rfl)
    (each_stops Fence.wide (6 - 1) trivial rfl (by omega) (w.heap.size + 2) s hs _ (by simp) bS.cell) (fun h k => k.trans h) (keepsAt_b (by simp)) (Below.refl _ _) (fun _ => rfl)
    (fun (pre : List UInt8) W => (Boxed W w.heap.size 5 (.int .u8 (z.toNat : Int)) ∧ Boxed W (w.heap.size + 1) 4 (.bool false)) ∧ (Lz.holds pre z = true ∧ Below w.heap.size w W))
    (fun c (pre : List UInt8) W => Boxed W (w.heap.size + 1) 4 (.bool false) ∧ ((c = .ret ∧ Lz.holds pre z = false) ∧ Below w.heap.size w W))
    (OwnFrom.and (Own.from (boxes_own _ _ _ _ (fun _ => .int .u8 (z.toNat : Int)) (fun _ => .bool false)) _) (OwnFrom.and (ownFrom_pure _ _) (ownFrom_below (Nat.le_refl _) (by simp; omega))))
    (fun c => OwnFrom.and (Own.from (boxed_one_own _ _ _) _) (OwnFrom.and (ownFrom_pure _ _) (ownFrom_below (Nat.le_refl _) (by simp; omega))))
    ⟨⟨(bX.alloc _).alloc _, bR.alloc _⟩, rfl, hB0⟩
    (fun x => { tmps := #[.string s, .int .u8 (z.toNat : Int), undef, .pointer (some ⟨w.heap.size, 0, none⟩), .pointer (some ⟨w.heap.size + 1, 0, none⟩), .int .u8 (x.toNat : Int), .string s, .func (.func 75) #[] #[.pointer (some ⟨w.heap.size + 1 + 1, 0, none⟩)], .int .u8 (x.toNat : Int), undef, undef, undef, undef], defers := [] }) ?assign ?body ?done ?stop
  case assign =>
    intro l x W K hK
    gi_wp2
    exact hK
  case body =>
    rintro l pre x W ⟨⟨hx, hr⟩, hh, hB⟩ hlt
    have hcx := hx.cell
    have hcr := hr.cell
    have hfr := hr.frozen
    cases hm : Lz.meets x z with
    | true =>
      have hz := meets_zero hm
      have hsn : Lz.holds (pre ++ [x]) z = true := by rw [holds_snoc, hh, hm]; rfl
      have HS := Lib.hid hsn
      clear hm hsn hh
      gi_wp2
      exact ⟨KeepsFrom.refl _ _, rfl, ⟨hx, hr⟩, HS.out, hB⟩
    | false =>
      have hz := meets_zero hm
      have hsn : Lz.holds (pre ++ [x]) z = false := by rw [holds_snoc, hh, hm]; rfl
      have HS := Lib.hid hsn
      clear hm hsn hh
      gi_wp2
      exact ⟨(KeepsOthers.setCell _ _ _).from _, hr.set _, ⟨rfl, HS.out⟩, hB.setCell (p := ⟨w.heap.size + 1, 0, none⟩) (Nat.le_succ _) _⟩
  case done =>
    rintro D ys W hD rfl ⟨⟨hx, hr⟩, hh, hB⟩ hK
    have hcr := hr.cell
    have hfr := hr.frozen
    rw [World.size_alloc, World.size_alloc, World.size_alloc] at hD
    gi_wp2
    have hK' := (KeepsOthers.setCell W ⟨w.heap.size + 1, 0, none⟩ (.bool true)).same D _ hK rfl
    refine ⟨by simp, .inl ⟨_, _, rfl, run_takeDeferred hK', ?_⟩⟩
    have hc5 := cell_kept ((hr.set (.bool true)).cell) (grownBy_putObj' _ D (.deferred none)) (fun r e => by cases e; exact ⟨_, hK', rfl⟩)
    have hBs := hB.setCell (p := ⟨w.heap.size + 1, 0, none⟩) (Nat.le_succ _) (.bool true)
    refine ⟨.bool true, ?_, by rw [hh], hBs.trans (belowK_b (w := w) (Nat.le_refl _) _ D _ _ (by omega) hK' rfl rfl)⟩
    simp [results, Tryd.f74, go_sem, hc5]
  case stop =>
    rintro D c pre W hD hpre ⟨hr, ⟨rfl, hh⟩, hB⟩ hK
    rw [World.size_alloc, World.size_alloc, World.size_alloc] at hD
    gi_wp2
    refine ⟨by simp, .inl ⟨_, _, rfl, run_takeDeferred hK, ?_⟩⟩
    have hc5 := cell_kept hr.cell (grownBy_putObj' _ D (.deferred none)) (fun r e => by cases e; exact ⟨_, hK, rfl⟩)
    refine ⟨.bool false, ?_, by rw [holds_prefix hpre hh], hB.trans (belowK_b (w := w) (Nat.le_refl _) W D _ _ (by omega) hK rfl rfl)⟩
    simp [results, Tryd.f74, go_sem, hc5]
theorem holds_any (s : ByteArray) (hs : s.size ≤ 1000000) (x : Int) (z : UInt8) (hx : x = z.toNat) (w : World) :
    Calls Tryd.prog 74 #[.string s, .int .u8 x] w fun e w' => e = .returned (.bool (Lz.holds s.data.toList z)) ∧ Below w.heap.size w w' := by
  subst hx
  exact callsIn_wide.1 (holds_in s hs z w)
end Go.Proofs.YtiagoiannccdmaaDoor
