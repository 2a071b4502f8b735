/- The contracts of strings.Index at one byte, of strings.SplitSeq at '&', and of the iterator that it hands back. Condition: the text's length. -/
import Derived.Test.YtiagoiannccdmaaDoorSeqW
import Derived.Test.YtiagoiannccdmaaDoorParse
import Derived.Test.YtiagoiannccdmaaDoorWords
namespace Go.Proofs.YtiagoiannccdmaaDoor
open Go.RowKit Go.Shelf

attribute [local go_sem] Oper.semAt_some str_size str_list

set_option maxRecDepth 100000 in
set_option maxHeartbeats 1000000 in
theorem index_lite (s : ByteArray) (w : World) : Calls Tryd.prog 77 #[.string s, .string ⟨#[38]⟩] w fun e w' => e = .returned (.int .i64 (Lib.indexByte s.data.toList 38)) ∧ w = w' := by
  have he := ByteArray.toList_eq s
  have HE := Lib.hid he
  clear he
  cases h1 : (([38] : List UInt8) == s.toList) with
  | true =>
    have h2 : Lib.indexByte s.data.toList 38 = 0 := by rw [← HE.out, ← eq_of_beq h1]; rfl
    rw [h2]
    clear h2
    go_enter Tryd.func77, Tryd.ntmps77
    go_wp2
    go_ret
    exact ⟨rfl, rfl⟩
  | false =>
    go_enter Tryd.func77, Tryd.ntmps77
    go_wp2_with (go_at_call 86; refine (indexByte_lite _ _ _).mono ?_; rintro e w' ⟨rfl, rfl⟩)
    go_ret
    exact ⟨rfl, rfl⟩
set_option maxRecDepth 100000 in
set_option maxHeartbeats 1000000 in
theorem index_any (s : ByteArray) (w : World) : Calls Tryd.prog 92 #[.string s, .string ⟨#[38]⟩] w fun e w' => e = .returned (.int .i64 (Lib.indexByte s.data.toList 38)) ∧ w = w' := by
  go_enter Tryd.func92, Tryd.ntmps92
  go_wp2_with (go_at_call 77; refine (index_lite _ _).mono ?_; rintro e w' ⟨rfl, rfl⟩)
  go_ret
  exact ⟨rfl, rfl⟩
theorem extract_to (l : List UInt8) (k : Nat) : (str l).extract 0 k = str (l.take k) := by
  apply ByteArray.ext
  simp [str]
theorem extract_from (l : List UInt8) (k : Nat) : (str l).extract k l.length = str (l.drop k) := by
  apply ByteArray.ext
  simp [str]
  exact List.take_of_length_le (by simp)
/-- How much text is left. -/
def leftAt (B : Nat) (W : World) : Nat := match W.cell? ⟨B, 0, none⟩ with | some (.string b) => b.size | _ => 0
theorem leftAt_box {W : World} {B : Nat} {t : TypeId} {r : List UInt8} (h : Boxed W B t (.string (str r))) : leftAt B W = r.length := by
  unfold leftAt
  rw [h.cell]
  rfl
/-- What a round must keep of the iterator's three boxes. -/
def Keeps3 (B : Nat) (X Y : World) : Prop := Y.heap[B]? = X.heap[B]? ∧ Y.heap[B + 1]? = X.heap[B + 1]? ∧ Y.heap[B + 2]? = X.heap[B + 2]?

set_option maxRecDepth 100000 in
set_option maxHeartbeats 2000000 in
theorem split1_in (n : Nat) (hn : 1 ≤ n) (l B : Nat) (s : List UInt8) (hs : s.length ≤ 1000000) (J Jx : List (List UInt8) → World → Prop)
    (hJs : ∀ pre X v, J pre X → J pre (X.setCell ⟨B, 0, none⟩ v))
    (hY : ∀ pre x W, J pre W → pre.length < s.length + 1 → YieldAt Fence.wide (n - 1) Tryd.prog l #[.string (str x)] W fun e W' =>
      (e = .returned (.bool true) ∧ J (pre ++ [x]) W' ∧ Keeps3 B W W') ∨ (e = .returned (.bool false) ∧ Jx (pre ++ [x]) W'))
    (W : World) (b0 : Boxed W B 9 (.string (str s))) (b1 : Boxed W (B + 1) 9 (.string ⟨#[38]⟩)) (b2 : Boxed W (B + 2) 3 (.int .i64 0)) (h0 : J [] W) :
    CallsIn Fence.wide n Tryd.prog 90 #[.func (.yield l) #[] #[], .pointer (some ⟨B + 1, 0, none⟩), .pointer (some ⟨B, 0, none⟩), .pointer (some ⟨B + 2, 0, none⟩)] W fun e W' => (∃ v, e = .returned v) ∧
      ((∃ ys, ys = Lz.pieces 38 s ∧ J ys W') ∨ (∃ pre, pre <+: Lz.pieces 38 s ∧ Jx pre W')) := by
  have q1 := b1.cell
  refine callsIn_of_wp Tryd.func90 rfl trivial ?_ rfl
  simp only [Tryd.ntmps90, List.size_toArray, List.length_cons, List.length_nil, Nat.reduceAdd, Nat.reduceSub, Array.replicate_succ, Array.replicate_zero, List.push_toArray, List.append_toArray, List.nil_append, List.cons_append]
  gi_wp2
  clear q1
  gi_loopw [7, 8] (fun _ _ wr => ∃ (pre : List (List UInt8)) (r : List UInt8), pre ++ Lz.pieces 38 r = Lz.pieces 38 s ∧ r.length ≤ 1000000 ∧ J pre wr ∧ Boxed wr B 9 (.string (str r)) ∧ Boxed wr (B + 1) 9 (.string ⟨#[38]⟩) ∧ Boxed wr (B + 2) 3 (.int .i64 0))
    (fun _ _ wr => leftAt B wr)
  case atStart => exact ⟨[], s, rfl, hs, h0, b0, b1, b2⟩
  case round =>
    obtain ⟨pre, r, hpr, hrl, hJp, c0, c1, c2⟩ := hrel
    have HPR := Lib.hid hpr
    have hlen : pre.length < s.length + 1 := by
      have h1 := Lz.pieces_length 38 s
      have h2 := Lz.pieces_ne 38 r
      have h3 : (Lz.pieces 38 r).length ≠ 0 := by simpa using h2
      rw [← hpr, List.length_append] at h1
      omega
    clear hpr
    have q0 := c0.cell
    have q1 := c1.cell
    have q2 := c2.cell
    have g0 := c0.frozen
    have HX := Lib.hid (fun W => index_any (str r) W)
    have hge := Lib.indexByte_ge r 38
    have hpa := Lz.pieces_at 38 r
    have hpn := Lz.pieces_none 38 r
    rw [lst_str] at HX
    have HPA := Lib.hid hpa
    have HPN := Lib.hid hpn
    clear hpa hpn
    generalize Lib.indexByte r 38 = ix at HX hge HPA HPN
    by_cases hix : 0 ≤ ix
    · obtain ⟨k, rfl⟩ : ∃ k : Nat, ix = k := ⟨ix.toNat, by omega⟩
      obtain ⟨hk, hpk⟩ := HPA.out k rfl
      have HPK := Lib.hid hpk
      clear hpk HPA HPN hge
      have het := extract_to r k
      have hef := extract_from r (k + 1)
      have HEF := Lib.hid hef
      clear hef
      obtain ⟨fn, tmps, assign, body, hy, hR⟩ := hY pre (r.take k) wr hJp hlen
      rw [← het] at hy
      clear het
      gi_wp2_with (refine ⟨trivial, ?_⟩; gi_at_call 92; refine (toIn (HX.out _)).mono ?_; rintro e w' ⟨rfl, rfl⟩)
      refine hR.mono ?_
      rintro e W3 (⟨rfl, hJ3, hk0, hk1, hk2⟩ | ⟨rfl, hJx3⟩)
      · have d0 : Boxed W3 B 9 (.string (str r)) := hk0.trans c0
        have d1 : Boxed W3 (B + 1) 9 (.string ⟨#[38]⟩) := hk1.trans c1
        have d2 : Boxed W3 (B + 2) 3 (.int .i64 0) := hk2.trans c2
        clear q0 q1 q2 g0 hk0 hk1 hk2
        have q0 := d0.cell
        have q1 := d1.cell
        have g0 := d0.frozen
        gi_wp2
        rw [HEF.out]
        go_roundw
        case rel => exact ⟨pre ++ [r.take k], r.drop (k + 1), by rw [← HPR.out, HPK.out, List.append_assoc]; rfl, by rw [List.length_drop]; omega, hJs _ _ _ hJ3, d0.set _, d1.other (by omega) _, d2.other (by omega) _⟩
        case measure =>
          rw [leftAt_box (d0.set (.string (str (r.drop (k + 1))))), leftAt_box c0, List.length_drop]
          omega
      · gi_wp2
        refine bodyPost_ret (results_none rfl _ _ _) rfl ?_
        exact ⟨⟨_, rfl⟩, .inr ⟨_, by rw [← HPR.out, HPK.out]; exact ⟨Lz.pieces 38 (r.drop (k + 1)), by simp⟩, hJx3⟩⟩
    · have hneg : ix < 0 := by omega
      have hp1 := HPN.out hneg
      have HP1 := Lib.hid hp1
      clear hp1 HPA HPN
      obtain ⟨fn, tmps, assign, body, hy, hR⟩ := hY pre r wr hJp hlen
      gi_wp2_with (refine ⟨trivial, ?_⟩; gi_at_call 92; refine (toIn (HX.out _)).mono ?_; rintro e w' ⟨rfl, rfl⟩)
      refine hR.mono ?_
      rintro e W3 (⟨rfl, hJ3, _⟩ | ⟨rfl, hJx3⟩)
      · gi_wp2
        go_end0
        exact ⟨⟨_, rfl⟩, .inl ⟨_, by rw [← HPR.out, HP1.out], hJ3⟩⟩
      · gi_wp2
        go_end0
        exact ⟨⟨_, rfl⟩, .inr ⟨_, by rw [← HPR.out, HP1.out]; exact List.prefix_refl _, hJx3⟩⟩
set_option maxHeartbeats 1000000 in
theorem split_any (s : ByteArray) (w : World) :
    Calls Tryd.prog 78 #[.string s, .string ⟨#[38]⟩, .int .i64 0] w fun e w' => e = .returned (.func (.func 90) #[] #[.pointer (some ⟨w.heap.size + 1, 0, none⟩), .pointer (some ⟨w.heap.size, 0, none⟩), .pointer (some ⟨w.heap.size + 2, 0, none⟩)]) ∧ w' = ((w.alloc (.cells #[.string s] 9)).alloc (.cells #[.string ⟨#[38]⟩] 9)).alloc (.cells #[.int .i64 0] 3) := by
  go_enter Tryd.func78, Tryd.ntmps78
  go_wp2
  go_ret
  exact ⟨rfl, rfl⟩
set_option maxHeartbeats 1000000 in
theorem splitSeq_any (s : ByteArray) (w : World) :
    Calls Tryd.prog 63 #[.string s, .string ⟨#[38]⟩] w fun e w' => e = .returned (.func (.func 90) #[] #[.pointer (some ⟨w.heap.size + 1, 0, none⟩), .pointer (some ⟨w.heap.size, 0, none⟩), .pointer (some ⟨w.heap.size + 2, 0, none⟩)]) ∧ w' = ((w.alloc (.cells #[.string s] 9)).alloc (.cells #[.string ⟨#[38]⟩] 9)).alloc (.cells #[.int .i64 0] 3) := by
  go_enter Tryd.func63, Tryd.ntmps63
  go_wp2_with (go_at_call 78; refine (split_any s _).mono ?_; rintro e w' ⟨rfl, rfl⟩)
  go_ret
  exact ⟨rfl, rfl⟩
theorem split_stops (n : Nat) (hn : 1 ≤ n) (B : Nat) (s : List UInt8) (hs : s.length ≤ 1000000) (w : World) (hB : B + 2 < w.heap.size)
    (b0 : Boxed w B 9 (.string (str s))) (b1 : Boxed w (B + 1) 9 (.string ⟨#[38]⟩)) (b2 : Boxed w (B + 2) 3 (.int .i64 0)) :
    SeqW Fence.wide n Tryd.prog 90 #[.pointer (some ⟨B + 1, 0, none⟩), .pointer (some ⟨B, 0, none⟩), .pointer (some ⟨B + 2, 0, none⟩)] (fun x : List UInt8 => #[Value.string (str x)]) B (Keeps3 B) (fun ys => ys = Lz.pieces 38 s) (fun pre => pre <+: Lz.pieces 38 s) (s.length + 1) w := fun l J Jx W hW _ hJs hY h0 =>
  split1_in n hn l B s hs J Jx hJs hY W (boxed_below b0 hW (by omega)) (boxed_below b1 hW (by omega)) (boxed_below b2 hW hB) h0
end Go.Proofs.YtiagoiannccdmaaDoor
