/- Contracts of package prin's functions. -/
import Derived.Test.YtiagoiannccdmaaDoorBase
import Derived.RangeFuncNested
import Derived.RangeFuncBound
import Derived.RangeFuncCalls
import Derived.RangeFuncLeaves
import Derived.RangeFuncBox
import Derived.Shelf.Abstract
import Derived.Shelf.RegionOpen
import Derived.WalkKit
import Derived.OwnWalkIn
import Derived.TacticsInMore
import Derived.LoopNIn
import Derived.LoopIn
import Derived.Maps.AppendAt
import Derived.Laws.BitsAllLaws
import Derived.WalkLawsBesides
import Derived.WalkSpells
import Derived.Lib.Hide
import Derived.Test.YtiagoiannccdmaaDoorProg
namespace Go.Proofs.YtiagoiannccdmaaDoor
open Go.RowKit Go.Shelf

theorem in_any (x y : Int) (a b : UInt8) (hx : x = a.toNat) (hy : y = b.toNat) (w : World) : Calls Tryd.prog 85 #[.int .u8 x, .int .u8 y] w fun e w' => e = .returned (.bool (Lz.sub a b)) ∧ w = w' := by
  subst hx hy
  go_enter Tryd.func85, Tryd.ntmps85
  go_wp2
  go_ret
  exact ⟨ret_bool (in_bool a b), rfl⟩
theorem covers_take_succ (l : List UInt8) (k : Nat) (h : k < l.length) (s : UInt8) : Lz.covers (l.take (k + 1)) s = (Lz.covers (l.take k) s || Lz.sub l[k] s) := by
  unfold Lz.covers
  rw [List.take_succ_eq_append_getElem h, List.any_append, List.any_cons, List.any_nil, Bool.or_false]
theorem covers_of_take {l : List UInt8} {k : Nat} {s : UInt8} (h : Lz.covers (l.take k) s = true) : Lz.covers l s = true := by
  obtain ⟨c, hc, hs⟩ := Lz.covers_iff.1 h
  exact Lz.covers_iff.2 ⟨c, List.mem_of_mem_take hc, hs⟩
set_option maxHeartbeats 400000 in
theorem holdsOneOf_any (x : Int) (s : UInt8) (hx : x = s.toNat) (l : List UInt8) (v : Value) (B n : Nat) (w : World) (hv : w.ownsRow B 5 1 v n (l.map bval)) (hn : n ≤ maxLen) :
    Calls Tryd.prog 76 #[.int .u8 x, v] w fun e w' => e = .returned (.bool (Lz.covers l s)) ∧ w = w' := by
  subst hx
  have hl : l.length = n := by have := hv.1; simpa using this
  obtain ⟨a, cap, rfl⟩ : ∃ a cap, v = .slice a n cap := by
    rcases Go.Joins.ownsRow_forms hv with ⟨h1, h2⟩ | ⟨g, cap, h⟩
    · exact ⟨none, 0, by rw [h1, h2]⟩
    · exact ⟨_, _, h⟩
  have HC : Hid (∀ j (h : j < l.length), ∃ b, a = some ⟨b, 0, none⟩ ∧ w.cell? ⟨b, j, none⟩ = some (.int .u8 ((l[j]'h).toNat : Int))) := by
    intro j h
    rcases Go.Joins.ownsRow_forms hv with ⟨h1, h2⟩ | ⟨g, cap', h'⟩
    · omega
    · obtain ⟨rfl, -, rfl⟩ : a = some ⟨g, 0, none⟩ ∧ n = n ∧ cap = cap' := by simpa using h'
      exact ⟨g, rfl, own_cell hv j h⟩
  clear hv
  unfold maxLen at hn
  subst hl
  go_enter Tryd.func76, Tryd.ntmps76
  go_wp2
  go_loop [6, 9] (fun _ i => ∃ k : Nat, k ≤ l.length ∧ i = .int .i64 k ∧ Lz.covers (l.take k) s = false) (fun _ i => l.length - (intOf i).toNat)
  case atStart => exact ⟨0, Nat.zero_le _, rfl, rfl⟩
  case round =>
    obtain ⟨k, hk, rfl, hc⟩ := hrel
    have Hc := Lib.hid hc
    clear hc
    by_cases hlt : k < l.length
    · obtain ⟨b, rfl, hcell⟩ := HC.out k hlt
      have hct := covers_take_succ l k hlt s
      rw [Hc.out, Bool.false_or] at hct
      have Hct := Lib.hid hct
      clear hct
      cases hs : Lz.sub l[k] s with
      | true =>
        have Hs := Lib.hid hs
        clear hs
        go_wp2_with (go_at_call 85; refine (in_any _ _ _ _ rfl rfl _).mono ?_; rintro e w' ⟨rfl, rfl⟩; rw [Hs.out])
        go_ret
        exact ⟨ret_bool (covers_of_take (by rw [Hct.out, Hs.out])).symm, rfl⟩
      | false =>
        have Hs := Lib.hid hs
        clear hs
        go_wp2_with (go_at_call 85; refine (in_any _ _ _ _ rfl rfl _).mono ?_; rintro e w' ⟨rfl, rfl⟩; rw [Hs.out])
        go_round
        case rel => exact ⟨k + 1, by omega, by go_num, by rw [Hct.out, Hs.out]⟩
        case measure => simp [intOf]; omega
    · go_wp2
      go_ret
      exact ⟨ret_bool (by rw [← Hc.out, List.take_of_length_le (by omega)]), rfl⟩
/-- The cells of 'here' when the bytes l are seen. -/
def hereCells (l : List UInt8) : Array Value := ((List.range 256).map fun n => Value.bool (l.contains (UInt8.ofNat n))).toArray
theorem hereCells_size (l : List UInt8) : (hereCells l).size = 256 := by simp [hereCells]
theorem hereCells_get (l : List UInt8) (n : Nat) (h : n < 256) : (hereCells l)[n]? = some (.bool (l.contains (UInt8.ofNat n))) := by
  simp only [hereCells, List.getElem?_toArray, List.getElem?_map, List.getElem?_range h, Option.map_some]
theorem hereCells_set (l : List UInt8) (u : UInt8) : (hereCells l).setIfInBounds u.toNat (.bool true) = hereCells (l ++ [u]) := by
  unfold hereCells
  rw [List.setIfInBounds_toArray]
  congr 1
  apply List.ext_getElem
  · simp
  · intro i h1 h2
    have hi : i < 256 := by simpa using h2
    rw [List.getElem_set, List.getElem_map, List.getElem_map, List.getElem_range]
    by_cases h : u.toNat = i
    · subst h
      simp
    · rw [if_neg h]
      have h3 : ¬ (UInt8.ofNat i = u) := fun e => h (by rw [← e]; exact Lz.toNat_ofNat_lt hi)
      congr 1
      rw [Bool.eq_iff_iff, List.contains_iff_mem, List.contains_iff_mem, List.mem_append, List.mem_singleton]
      exact ⟨.inl, fun x => x.elim id fun y => absurd y h3⟩
theorem zero_here (w : World) : (zeroValue 102).run Tryd.prog w = .ok (.agg (hereCells [])) w := by kernel_rfl
theorem info_bool : ∃ i, Tryd.prog.info? 4 = some i := info_of_underlying Tryd.underlying4
theorem cells_bool : Tryd.prog.cellsOf 4 = 1 := by kernel_rfl
theorem index_here (w : World) (l : List UInt8) (n : Nat) (h : n < 256) (b : Bool) (hb : l.contains (UInt8.ofNat n) = b) : (Instr.index 102 (.agg (hereCells l)) (.int .i64 n)).run Tryd.prog w = .ok (.bool b) w := by
  obtain ⟨i, hi⟩ := info_bool
  rw [← hb]
  exact run_index_bools Tryd.underlying102 Tryd.underlying4 hi cells_bool (by omega) (by omega) (hereCells_get l n h)
theorem leastTo_length (l : List UInt8) (k : Nat) : (Lz.leastTo l k).length ≤ k := by
  induction k with
  | zero => simp [Lz.leastTo]
  | succ k ih =>
    unfold Lz.leastTo
    split
    · simp; exact ih
    · omega
theorem info_u8 : (Tryd.prog.info? 5).map (fun i => (i.zero, i.size, i.bytes)) = some (some (.int .u8 0), 1, 1) := by kernel_rfl
set_option maxRecDepth 100000 in
set_option maxHeartbeats 400000 in
theorem least_any (s : ByteArray) (w : World) (hs : s.size ≤ maxLen) :
    Calls Tryd.prog 59 #[.string s] w fun e w' => e = .returned (.string (str (Lz.least s.data.toList))) ∧ Below w.heap.size w w' := by
  unfold maxLen at hs
  have hz := zero_here w
  obtain ⟨i0, hi, hz0, hz1, hz2⟩ := info_parts info_u8
  go_enter Tryd.func59, Tryd.ntmps59
  go_wp2_with fail
  go_loopw [4, 10] (fun _ i wr => ∃ k : Nat, k ≤ s.size ∧ i = .int .i64 k ∧ wr = w.alloc (.cells (hereCells (s.data.toList.take k)) 102)) (fun _ i _ => s.size - (intOf i).toNat)
  case atStart => exact ⟨0, Nat.zero_le _, rfl, rfl⟩
  case round =>
    obtain ⟨k, hk, rfl, rfl⟩ := hrel
    by_cases hlt : k < s.size
    · have hb : (s[k].toNat : Int) < 256 := by have := s[k].toNat_lt; omega
      have hcl := hereCells_get (s.data.toList.take k) s[k].toNat s[k].toNat_lt
      have hset := hereCells_set (s.data.toList.take k) s[k]
      have HS := Lib.hid hset
      clear hset
      go_wp2
      rw [HS.out]
      go_roundw
      case rel => exact ⟨k + 1, by omega, by go_num, by rw [List.take_succ_eq_append_getElem (by simpa using hlt)]; rfl⟩
      case measure => simp [intOf]; omega
    · obtain rfl : k = s.size := by omega
      have hfull : s.data.toList.take s.size = s.data.toList := List.take_of_length_le (by simp)
      rw [hfull]
      clear hfull hlt hk
      go_wp2_with (refine wpList_load_row rfl 102 _ rfl w.heap.size rfl 102 _ (0, 0) _ (heap_alloc_new _ _) Tryd.underlying102 rfl (by kernel_rfl) ?_)
      go_loopw [5, 19] (fun v i wr => ∃ k : Nat, k ≤ 256 ∧ i = .int .i64 k ∧ wr.ownsRow (w.heap.size + 1) 5 1 v (Lz.leastTo s.data.toList k).length ((Lz.leastTo s.data.toList k).map bval) ∧ Below (w.heap.size + 1) (w.alloc (.cells (hereCells s.data.toList) 102)) wr) (fun _ i _ => 256 - (intOf i).toNat)
      case atStart => exact ⟨0, by omega, rfl, World.ownsRow_nil _ _ _ _, Below.refl _ _⟩
      case round =>
        obtain ⟨k, hk, rfl, hrow, hB⟩ := hrel
        by_cases hlt : k < 256
        · cases hin : s.data.toList.contains (UInt8.ofNat k) with
          | false =>
            have hix := index_here wr s.data.toList k hlt false hin
            have hl : Lz.leastTo s.data.toList (k + 1) = Lz.leastTo s.data.toList k := by rw [Lz.leastTo, hin]; rfl
            have HL := Lib.hid hl
            have HI := Lib.hid hin
            clear hl hin
            go_wp2
            go_roundw
            case rel => exact ⟨k + 1, by omega, by go_num, by rw [HL.out]; exact hrow, hB⟩
            case measure => simp [intOf]; omega
          | true =>
            have hix := index_here wr s.data.toList k hlt true hin
            have hlen := leastTo_length s.data.toList k
            cases hcv : Lz.covers (Lz.leastTo s.data.toList k) (UInt8.ofNat k) with
            | true =>
              have hl : Lz.leastTo s.data.toList (k + 1) = Lz.leastTo s.data.toList k := by rw [Lz.leastTo, hin, hcv]; rfl
              have HL := Lib.hid hl
              have HI := Lib.hid hin
              have HC := Lib.hid hcv
              clear hl hin hcv
              go_wp2_with (go_at_call 76; refine (holdsOneOf_any _ (UInt8.ofNat k) (by rw [Lz.toNat_ofNat_lt hlt]) _ _ _ _ _ hrow (by unfold maxLen; omega)).mono ?_; rintro e w' ⟨rfl, rfl⟩; rw [HC.out])
              go_roundw
              case rel => exact ⟨k + 1, by omega, by go_num, by rw [HL.out]; exact hrow, hB⟩
              case measure => simp [intOf]; omega
            | false =>
              have hl : Lz.leastTo s.data.toList (k + 1) = Lz.leastTo s.data.toList k ++ [UInt8.ofNat k] := by rw [Lz.leastTo, hin, hcv]; rfl
              have HL := Lib.hid hl
              have HI := Lib.hid hin
              have HC := Lib.hid hcv
              clear hl hin hcv
              go_wp2_with (first | (go_at_call 76; refine (holdsOneOf_any _ (UInt8.ofNat k) (by rw [Lz.toNat_ofNat_lt hlt]) _ _ _ _ _ hrow (by unfold maxLen; omega)).mono ?_; rintro e w' ⟨rfl, rfl⟩; rw [HC.out]) | (at_builtin; refine wpList_append_own _ rfl _ _ 77 rfl (w.heap.size + 1) 5 i0 (.int .u8 0) 1 1 Tryd.underlying77 hi hz0 hz1 hz2 rfl (by decide) _ _ _ rfl (hrow.alloc _) ⟨wr.heap.size, 0, none⟩ 1 1 [.int .u8 k] rfl rfl (cell_one_new _ _ _) (by simp [Value.oneCell']) (by unfold maxLen; omega) (by omega) (by have := hB.size; simp at this; simp; omega) ?_; intro v' w1 hown' hgrow _))
              go_roundw
              case rel =>
                refine ⟨k + 1, by omega, by go_num, ?_, ?_⟩
                · rw [HL.out]
                  simpa [bval, Lz.toNat_ofNat_lt hlt] using hown'
                · exact (hB.alloc (by have := hB.size; simp at this; omega) _).grown hgrow (by have := hB.size; simp at this; simp; omega) (fun j e => (hrow.lt j e).1)
              case measure => simp [intOf]; omega
        · obtain rfl : k = 256 := by omega
          have hsn := run_string_own (P := Tryd.prog) hrow Tryd.underlying77 Tryd.underlying5 Tryd.underlying9
          go_wp2
          go_ret
          exact ⟨rfl, ((Below.refl _ w).alloc (Nat.le_refl _) _).trans (hB.mono (by omega))⟩
end Go.Proofs.YtiagoiannccdmaaDoor
