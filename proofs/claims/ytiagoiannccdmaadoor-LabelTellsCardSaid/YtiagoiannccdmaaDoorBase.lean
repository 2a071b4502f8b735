/- Bit operations of the model on bytes, as operations of UInt8; small lemmas on values. No conditions. -/
import Derived.Test.YtiagoiannccdmaaDoorMath
import Derived.WalkKit
import Derived.Laws.BitsAllLaws
import Derived.Lib.SmallJoins
import Derived.Lib.QuietBelowIn
import Derived.Laws.IdiomStrings
import Derived.ChangeKeysEq
import Derived.OpenShut
import Derived.Laws.BytesArg
import Derived.Laws.OwnMore
namespace Go.Proofs.YtiagoiannccdmaaDoor
open Go.RowKit

theorem bits_and_u8 (a b : UInt8) : bits .and .u8 (a.toNat : Int) (b.toNat : Int) = ((a &&& b).toNat : Int) := by
  rw [u8_and_nat _ _ a.toNat_lt b.toNat_lt, UInt8.toNat_and]
theorem bits_or_u8 (a b : UInt8) : bits .or .u8 (a.toNat : Int) (b.toNat : Int) = ((a ||| b).toNat : Int) := by
  rw [u8_or_nat _ _ a.toNat_lt b.toNat_lt, UInt8.toNat_or]
theorem bits_andNot_u8 (a b : UInt8) : bits .andNot .u8 (a.toNat : Int) (b.toNat : Int) = ((a &&& ~~~b).toNat : Int) := by
  have h := u8_andNot_nat a.toNat b.toNat a.toNat_lt b.toNat_lt
  rw [h, UInt8.toNat_and, UInt8.toNat_not]; rfl
theorem toNat_zero_iff (a : UInt8) : ((a.toNat : Int) == 0) = (a == 0) := by
  rw [Bool.eq_iff_iff, beq_iff_eq, beq_iff_eq]
  constructor
  · intro h; apply UInt8.toNat_inj.1; simp; omega
  · intro h; subst h; rfl
theorem toNat_beq (a b : UInt8) : ((a.toNat : Int) == (b.toNat : Int)) = (a == b) := by
  rw [Bool.eq_iff_iff, beq_iff_eq, beq_iff_eq]
  constructor
  · intro h; apply UInt8.toNat_inj.1; omega
  · intro h; subst h; rfl
theorem andNot_sub (a b : UInt8) : (a &&& ~~~b == 0) = Lz.sub a b := by
  rw [Bool.eq_iff_iff, beq_iff_eq, Lz.sub_iff]
  constructor
  · intro h i hi ha
    have : Lz.bit (a &&& ~~~b) i = false := by rw [h, Lz.bit_zero]
    rw [Lz.bit_and, Lz.bit_not _ _ hi, ha] at this
    simpa using this
  · intro h
    apply Lz.bit_ext
    intro i hi
    rw [Lz.bit_and, Lz.bit_not _ _ hi, Lz.bit_zero]
    have := h i hi
    cases ha : Lz.bit a i <;> simp_all
theorem in_bool (a b : UInt8) : (bits .andNot .u8 (a.toNat : Int) (b.toNat : Int) == 0) = Lz.sub a b := by
  rw [bits_andNot_u8, toNat_zero_iff, andNot_sub]
/-- The string of a list of bytes. -/
def str (l : List UInt8) : ByteArray := ⟨l.toArray⟩
theorem str_toList (s : ByteArray) : str s.data.toList = s := rfl
theorem str_size (l : List UInt8) : (str l).size = l.length := rfl
/-- A byte as a value. -/
def bval (u : UInt8) : Value := .int .u8 (u.toNat : Int)
theorem own_cell {w : World} {B g n cap : Nat} {e : TypeId} {l : List UInt8} (h : w.ownsRow B e 1 (.slice (some ⟨g, 0, none⟩) n cap) n (l.map bval)) (j : Nat) (hj : j < l.length) :
    w.cell? ⟨g, j, none⟩ = some (.int .u8 ((l[j]'hj).toNat : Int)) := by
  have hl : (l.map bval).length = n * 1 := h.1
  rw [List.length_map, Nat.mul_one] at hl
  have := h.cellAt j (by omega)
  rw [this, List.getElem?_map, List.getElem?_eq_getElem hj]
  rfl
theorem add_at (g j : Nat) : (⟨g, 0, none⟩ : Addr).add j = ⟨g, j, none⟩ := by
  cases j <;> simp [Addr.add]
/-- 'string(b)' of a slice of the call's own. -/
theorem run_string_own {P : Program} {w : World} {B n : Nat} {src dst e : TypeId} {v : Value} {l : List UInt8} (h : w.ownsRow B e 1 v n (l.map bval)) (hs : P.underlying src = some (.slice e))
    (he : P.underlying e = some (.int .u8)) (hd : P.underlying dst = some .string) : (convert src dst v).run P w = .ok (.string (str l)) w := by
  have hl : l.length = n := by have := h.1; simpa using this
  rcases Go.Joins.ownsRow_forms h with ⟨rfl, h2⟩ | ⟨g, cap, rfl⟩
  · have h0 : l = [] := List.eq_nil_of_length_eq_zero (by omega)
    subst h0
    exact run_convert_bytes_nil w src e hs he 0 0 dst hd
  · subst hl
    exact run_convert_bytes_back w src dst e ⟨g, 0, none⟩ cap l hs he hd (fun j hj => by
      have := own_cell h j hj
      show w.cell? ((⟨g, 0, none⟩ : Addr).add j) = _
      rw [add_at]; exact this)
/-- 'a[i]' of an array of bools by value. -/
theorem run_index_bools {P : Program} {w : World} {t e : TypeId} {n : Nat} {cs : Array Value} {k : IntKind} {i : Int} {v : Value} {inf : TypeInfo} (ht : P.underlying t = some (.array n e)) (he : P.underlying e = some .bool)
    (hi : P.info? e = some inf) (hc : P.cellsOf e = 1) (h0 : 0 ≤ i) (h1 : i < n) (hv : cs[i.toNat]? = some v) : (Instr.index t (.agg cs) (.int k i)).run P w = .ok v w := by
  have hs := run_sizeOf (w := w) hi
  simp [Instr.index, run_underlying ht, asIntOf, h0, h1, go_sem, hs, hc, isAgg, run_underlying he, hv]
/-- Behind a region that was walked quietly what was there lies as it lay. -/
theorem below_of_regrown {w w' : World} (h : ∃ p : Regrown, w' = Go.Sort.grow (redrawn w p.d) p.os) : Below w.heap.size w w' := by
  obtain ⟨p, rfl⟩ := h
  exact below_regrown w p.d p.os
/-- A contract that ends in 'Below', for a call in a region that draws its order. -/
theorem quiet_call {P : Program} {f : FuncId} {args : Array Value} {w : World} {v : Value} (h : ∀ W, Below w.heap.size w W → Calls P f args W fun e w' => e = .returned v ∧ Below W.heap.size W w') :
    ∀ d os, Calls P f args (Go.Sort.grow (redrawn w d) os) fun e w'' => e = .returned v ∧ ∃ p : Regrown, w'' = Go.Sort.grow (redrawn w p.d) p.os := fun d os => Calls.regrown_of (h _ (below_regrown w d os))
theorem quiet_call_in {n : Nat} {P : Program} {f : FuncId} {args : Array Value} {w : World} {v : Value} (h : ∀ W, Below w.heap.size w W → Calls P f args W fun e w' => e = .returned v ∧ Below W.heap.size W w') :
    ∀ d os, CallsIn Fence.wide n P f args (Go.Sort.grow (redrawn w d) os) fun e w'' => e = .returned v ∧ ∃ p : Regrown, w'' = Go.Sort.grow (redrawn w p.d) p.os := fun d os => CallsIn.regrown_of (callsIn_wide.2 (h _ (below_regrown w d os)))
/-- A uint8 is a byte. -/
theorem u8_of {x : Int} (h : (Lit.int .u8 x).wf = true) : ∃ a : UInt8, x = (a.toNat : Int) := by
  have hb := bounds_u8 h
  refine ⟨UInt8.ofNat x.toNat, ?_⟩
  rw [Lz.toNat_ofNat_lt (by omega)]
  omega
theorem str_list (l : List UInt8) : (str l).toList = l := ByteArray.toList_mk l
/-- What 'min(len(s), m)' comes to, as a number of its own. -/
theorem cut_at (n m : Nat) (M : Int) (hM : M = (m : Int)) : ∃ k : Nat, (if M < (n : Int) then M else (n : Int)) = (k : Int) ∧ k ≤ n ∧ k ≤ m := by
  subst hM
  by_cases h : m < n
  · exact ⟨m, by rw [if_pos (by omega)], by omega, by omega⟩
  · exact ⟨n, by rw [if_neg (by omega)], by omega, by omega⟩
theorem lst_str (l : List UInt8) : (str l).data.toList = l := by simp [str]
theorem lst_append (x y : ByteArray) : (x ++ y).data.toList = x.data.toList ++ y.data.toList := by simp
theorem ret_bool {a b : Bool} (h : a = b) : Ending.returned (.bool a) = .returned (.bool b) := by rw [h]
end Go.Proofs.YtiagoiannccdmaaDoor
