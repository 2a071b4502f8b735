/- The contract of strings.Cut at '/'. Condition: the text's length. -/
import Derived.Test.YtiagoiannccdmaaDoorSplit
import Derived.Test.YtiagoiannccdmaaDoorOr
import Derived.Deep.QuietTactic
import Derived.BigQuiet
import Derived.IntWalk
namespace Go.Proofs.YtiagoiannccdmaaDoor
open Go.RowKit Go.Shelf
attribute [local go_sem] str_size str_list

set_option maxRecDepth 100000 in
set_option maxHeartbeats 1000000 in
theorem index47_lite (s : ByteArray) (w : World) : Calls Tryd.prog 77 #[.string s, .string ⟨#[47]⟩] w fun e w' => e = .returned (.int .i64 (Lib.indexByte s.data.toList 47)) ∧ w = w' := by
  have he := ByteArray.toList_eq s
  have HE := Lib.hid he
  clear he
  cases h1 : (([47] : List UInt8) == s.toList) with
  | true =>
    have h2 : Lib.indexByte s.data.toList 47 = 0 := by rw [← HE.out, ← eq_of_beq h1]; rfl
    rw [h2]
    clear h2
    go_enter Tryd.func77, Tryd.ntmps77
    go_wp2
    go_ret
    exact ⟨rfl, rfl⟩
  | false =>
    go_enter Tryd.func77, Tryd.ntmps77
    go_wp2_with (go_at_call 86; refine (indexByte_lite _ _ _).mono ?_; rintro e w' ⟨rfl, rfl⟩)
    go_ret
    exact ⟨rfl, rfl⟩
theorem below_dn (w : World) (n : Nat) : Below w.heap.size w (w.drewN n) := ⟨rfl, rfl, rfl, Nat.le_refl _, fun _ _ => rfl⟩
/-- What is ahead of the first '/', what is behind it, is there one? -/
def cut47 (t : List UInt8) : List UInt8 × List UInt8 × Bool :=
  if 0 ≤ Lib.indexByte t 47 then (t.take (Lib.indexByte t 47).toNat, t.drop ((Lib.indexByte t 47).toNat + 1), true) else (t, [], false)
set_option maxRecDepth 100000 in
set_option maxHeartbeats 1000000 in
theorem cutLite_any (t : List UInt8) (ht : t.length ≤ maxLen) (w : World) : Calls Tryd.prog 62 #[.string (str t), .string ⟨#[47]⟩] w fun e w' => e = .returned (.tuple #[.string (str (cut47 t).1), .string (str (cut47 t).2.1), .bool (cut47 t).2.2]) ∧ Below w.heap.size w w' := by
  unfold maxLen at ht
  have HX := Lib.hid (fun W => index47_lite (str t) W)
  rw [lst_str] at HX
  have hge := Lib.indexByte_ge t 47
  have hpa := Lz.pieces_at 47 t
  have HC := Lib.hid (show cut47 t = if 0 ≤ Lib.indexByte t 47 then (t.take (Lib.indexByte t 47).toNat, t.drop ((Lib.indexByte t 47).toNat + 1), true) else (t, [], false) from rfl)
  revert HC
  generalize cut47 t = r
  generalize Lib.indexByte t 47 = ix at HX hge hpa ⊢
  intro HC
  by_cases hix : 0 ≤ ix
  · obtain ⟨k, rfl⟩ : ∃ k : Nat, ix = k := ⟨ix.toNat, by omega⟩
    obtain ⟨hk, -⟩ := hpa k rfl
    have het := extract_to t k
    have hef := extract_from t (k + 1)
    have HET := Lib.hid het
    have HEF := Lib.hid hef
    rw [if_pos hix, Int.toNat_natCast] at HC
    clear hpa hge het hef hix
    rw [HC.out]
    have mixed := mixedOrders
    have hw : IntKind.i64.wrap ((k : Int) + 1) = (k : Int) + 1 := IntWalk.i64_in _ (by omega)
    have h0 : (0 : Int) ≤ (k : Int) := by omega
    have h1 : (k : Int) ≤ t.length := by omega
    have h2 : (0 : Int) ≤ (k : Int) + 1 := by omega
    have h3 : (k : Int) + 1 ≤ t.length := by omega
    have h4 : ((k : Int) + 1).toNat = k + 1 := by omega
    go_enter Tryd.func62, Tryd.ntmps62
    go_wp2_with (go_at_call 77; refine (HX.out _).mono ?_; rintro e w' ⟨rfl, rfl⟩)
    go_quiet (fail)
    go_wp2
    rw [HET.out, HEF.out]
    refine bodyPost_ret (v := .tuple #[.string (str (t.take k)), .string (str (t.drop (k + 1))), .bool true]) ?_ rfl ⟨rfl, below_dn w _⟩
    simp [results, Tryd.f62, go_sem]
  · have hneg : ix < 0 := by omega
    rw [if_neg hix] at HC
    clear hpa hge hix
    rw [HC.out]
    go_enter Tryd.func62, Tryd.ntmps62
    go_wp2_with (go_at_call 77; refine (HX.out _).mono ?_; rintro e w' ⟨rfl, rfl⟩)
    refine bodyPost_ret (v := .tuple #[.string (str t), .string ⟨#[]⟩, .bool false]) ?_ rfl ⟨rfl, Below.refl _ _⟩
    simp [results, Tryd.f62, go_sem]
set_option maxRecDepth 100000 in
set_option maxHeartbeats 1000000 in
theorem cut_any (t : List UInt8) (ht : t.length ≤ maxLen) (w : World) : Calls Tryd.prog 46 #[.string (str t), .string ⟨#[47]⟩] w fun e w' => e = .returned (.tuple #[.string (str (cut47 t).1), .string (str (cut47 t).2.1), .bool (cut47 t).2.2]) ∧ Below w.heap.size w w' := by
  have HX := Lib.hid (fun W => cutLite_any t ht W)
  generalize cut47 t = r at HX ⊢
  obtain ⟨x, y, b⟩ := r
  go_enter Tryd.func46, Tryd.ntmps46
  go_wp2_with (go_at_call 62; refine (HX.out _).mono ?_; rintro e w1 ⟨rfl, hb1⟩)
  refine bodyPost_ret (v := .tuple #[.string (str x), .string (str y), .bool b]) ?_ rfl ⟨rfl, hb1⟩
  simp [results, Tryd.f46, go_sem]
end Go.Proofs.YtiagoiannccdmaaDoor
