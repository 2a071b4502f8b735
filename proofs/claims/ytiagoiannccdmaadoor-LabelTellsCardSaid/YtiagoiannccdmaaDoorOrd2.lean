/- Plain mathematics of the laws of chapters 2, 3, 4, 14: equations of what the functions compute. No program in sight; no conditions. -/
import Derived.Test.YtiagoiannccdmaaDoorOrd
namespace Lz

/-! formulas -/
theorem and_comm (f g : List UInt8) : and f g = and g f := right_ext (right_and _ _) (right_and _ _) fun x => by rw [sat_and, sat_and, Bool.and_comm]
theorem or_comm (f g : List UInt8) : or f g = or g f := right_ext (right_or _ _) (right_or _ _) fun x => by rw [sat_or, sat_or, Bool.or_comm]
theorem and_self (f : List UInt8) : and f f = norm f := right_ext (right_and _ _) (right_norm _) fun x => by rw [sat_and, sat_norm, Bool.and_self]
theorem or_self' (f : List UInt8) : or f f = norm f := right_ext (right_or _ _) (right_norm _) fun x => by rw [sat_or, sat_norm, Bool.or_self]
theorem and_or (f g : List UInt8) : and f (or f g) = norm f := right_ext (right_and _ _) (right_norm _) fun x => by
  rw [sat_and, sat_or, sat_norm]; cases sat f x <;> cases sat g x <;> rfl
theorem or_and (f g : List UInt8) : or f (and f g) = norm f := right_ext (right_or _ _) (right_norm _) fun x => by
  rw [sat_or, sat_and, sat_norm]; cases sat f x <;> cases sat g x <;> rfl
theorem and_assoc (f g h : List UInt8) : and f (and g h) = and (and f g) h := right_ext (right_and _ _) (right_and _ _) fun x => by
  rw [sat_and, sat_and, sat_and, sat_and, Bool.and_assoc]
theorem or_assoc (f g h : List UInt8) : or f (or g h) = or (or f g) h := right_ext (right_or _ _) (right_or _ _) fun x => by
  rw [sat_or, sat_or, sat_or, sat_or, Bool.or_assoc]
theorem and_over_or (f g h : List UInt8) : and f (or g h) = or (and f g) (and f h) := right_ext (right_and _ _) (right_or _ _) fun x => by
  rw [sat_and, sat_or, sat_or, sat_and, sat_and]; cases sat f x <;> cases sat g x <;> cases sat h x <;> rfl
theorem and_true (f : List UInt8) : and f [] = norm f := right_ext (right_and _ _) (right_norm _) fun x => by rw [sat_and, sat_nil, sat_norm, Bool.and_true]
theorem or_false (f : List UInt8) : or f [0] = norm f := right_ext (right_or _ _) (right_norm _) fun x => by rw [sat_or, sat_false, sat_norm, Bool.or_false]
theorem and_false (f : List UInt8) : and f [0] = [0] := right_ext (right_and _ _) right_false fun x => by rw [sat_and, sat_false, Bool.and_false]
theorem or_true (f : List UInt8) : or f [] = [] := right_ext (right_or _ _) right_nil fun x => by rw [sat_or, sat_nil, Bool.or_true]
theorem implies_and (c f g : List UInt8) : implies c (and f g) = (implies c f && implies c g) := by
  rw [Bool.eq_iff_iff, Bool.and_eq_true, implies_iff, implies_iff, implies_iff]
  simp only [sat_and, Bool.and_eq_true]
  exact ⟨fun h => ⟨fun x hx => (h x hx).1, fun x hx => (h x hx).2⟩, fun h x hx => ⟨h.1 x hx, h.2 x hx⟩⟩
theorem or_implies (f g c : List UInt8) : implies (or f g) c = (implies f c && implies g c) := by
  rw [Bool.eq_iff_iff, Bool.and_eq_true, implies_iff, implies_iff, implies_iff]
  simp only [sat_or, Bool.or_eq_true]
  exact ⟨fun h => ⟨fun x hx => h x (.inl hx), fun x hx => h x (.inr hx)⟩, fun h x hx => hx.elim (h.1 x) (h.2 x)⟩
theorem fix_fix (f : List UInt8) (p q : UInt8) : fix (fix f p) q = fix f (p ||| q) := right_ext (right_fix _ _) (right_fix _ _) fun x => by
  rw [sat_fix, sat_fix, sat_fix]
  congr 1
  apply bit_ext; intro i _; simp only [bit_or]; cases bit x i <;> cases bit p i <;> cases bit q i <;> rfl
theorem fix_twice (f : List UInt8) (p : UInt8) : fix (fix f p) p = fix f p := by rw [fix_fix, or_self]
theorem fix_zero (f : List UInt8) : fix f 0 = norm f := right_ext (right_fix _ _) (right_norm _) fun x => by
  rw [sat_fix, sat_norm]
  congr 1
  apply bit_ext; intro i _; rw [bit_or, bit_zero]; simp
theorem implies_fix (f : List UInt8) (p : UInt8) : implies f (fix f p) = true := implies_iff.2 fun x h => by rw [sat_fix]; exact sat_mono (sub_or_left x p) h

/-! labels -/
theorem jn_comm (a b : Lab) : jn a b = jn b a := ext_up (rightL_jn _ _) (rightL_jn _ _) fun c => by rw [jn_le, jn_le]; exact And.comm
theorem mt_comm (a b : Lab) : mt a b = mt b a := ext_down (rightL_mt _ _) (rightL_mt _ _) fun c => by rw [le_mt, le_mt]; exact And.comm
theorem jn_assoc (a b c : Lab) : jn a (jn b c) = jn (jn a b) c := ext_up (rightL_jn _ _) (rightL_jn _ _) fun d => by rw [jn_le, jn_le, jn_le, jn_le]; exact _root_.and_assoc.symm
theorem mt_assoc (a b c : Lab) : mt a (mt b c) = mt (mt a b) c := ext_down (rightL_mt _ _) (rightL_mt _ _) fun d => by rw [le_mt, le_mt, le_mt, le_mt]; exact _root_.and_assoc.symm
theorem jn_self (a : Lab) : jn a a = nrm a := ext_up (rightL_jn _ _) (rightL_nrm _) fun c => by rw [jn_le, nrm_le, _root_.and_self]
theorem mt_self (a : Lab) : mt a a = nrm a := ext_down (rightL_mt _ _) (rightL_nrm _) fun c => by rw [le_mt, le_nrm, _root_.and_self]
theorem jn_mt (a b : Lab) : jn a (mt a b) = nrm a := ext_up (rightL_jn _ _) (rightL_nrm _) fun c => by
  rw [jn_le, nrm_le]; exact ⟨fun h => h.1, fun h => ⟨h, le_trans (mt_le_left a b) h⟩⟩
theorem mt_jn (a b : Lab) : mt a (jn a b) = nrm a := ext_down (rightL_mt _ _) (rightL_nrm _) fun c => by
  rw [le_mt, le_nrm]; exact ⟨fun h => h.1, fun h => ⟨h, le_trans h (le_jn_left a b)⟩⟩
theorem jn_eq (a b : Lab) (h : le a b) : jn a b = nrm b := ext_up (rightL_jn _ _) (rightL_nrm _) fun c => by
  rw [jn_le, nrm_le]; exact ⟨fun k => k.2, fun k => ⟨le_trans h k, k⟩⟩
theorem fl_jn_eq (a b : Lab) : fl a b = (jn a b == nrm b) := by
  rw [Bool.eq_iff_iff, beq_iff_eq, fl_iff]
  exact ⟨jn_eq a b, fun h => by have := le_jn_left a b; rw [h] at this; exact le_nrm.1 this⟩
theorem mt_eq (a b : Lab) (h : le a b) : mt a b = nrm a := ext_down (rightL_mt _ _) (rightL_nrm _) fun c => by
  rw [le_mt, le_nrm]; exact ⟨fun k => k.1, fun k => ⟨k, le_trans k h⟩⟩
theorem fl_mt_eq (a b : Lab) : fl a b = (mt a b == nrm a) := by
  rw [Bool.eq_iff_iff, beq_iff_eq, fl_iff]
  exact ⟨mt_eq a b, fun h => by have := mt_le_right a b; rw [h] at this; exact nrm_le.1 this⟩
theorem jn_low (a : Lab) : jn a low = nrm a := by rw [jn_comm, jn_eq _ _ (low_le a)]
theorem mt_high (a : Lab) : mt a high = nrm a := mt_eq _ _ (le_high a)
theorem fl_jn (a b c : Lab) : fl (jn a b) c = (fl a c && fl b c) := by rw [Bool.eq_iff_iff, Bool.and_eq_true, fl_iff, fl_iff, fl_iff, jn_le]
theorem fl_mt (a b c : Lab) : fl c (mt a b) = (fl c a && fl c b) := by rw [Bool.eq_iff_iff, Bool.and_eq_true, fl_iff, fl_iff, fl_iff, le_mt]
theorem fl_both (a b : Lab) : (fl a b && fl b a) = (nrm a == nrm b) := by rw [Bool.eq_iff_iff, Bool.and_eq_true, fl_iff, fl_iff, beq_iff_eq, nrm_eq_iff]
theorem fl_trans {a b c : Lab} (h : fl a b = true) (k : fl b c = true) : fl a c = true := fl_iff.2 (le_trans (fl_iff.1 h) (fl_iff.1 k))
theorem jn_mono {a b c d : Lab} (h : le a b) (k : le c d) : le (jn a c) (jn b d) := jn_le.2 ⟨le_trans h (le_jn_left _ _), le_trans k (le_jn_right _ _)⟩
theorem mt_mono {a b c d : Lab} (h : le a b) (k : le c d) : le (mt a c) (mt b d) := le_mt.2 ⟨le_trans (mt_le_left _ _) h, le_trans (mt_le_right _ _) k⟩

/-! principals -/
theorem fl_dr (a b : Lab) (p : UInt8) : fl (dr a p) b = fb a b p := by rw [Bool.eq_iff_iff, fl_iff, dr_le]
theorem fl_re (a b : Lab) (p : UInt8) : fl a (re b p) = fb a b p := by rw [Bool.eq_iff_iff, fl_iff, le_re]
theorem fb_zero' (a b : Lab) : fb a b 0 = fl a b := by rw [Bool.eq_iff_iff, fb_zero, fl_iff]
theorem fb_nrm (a b : Lab) (p : UInt8) : fb (nrm a) (nrm b) p = fb a b p := by
  have h1 : le (nrm a) a := nrm_le.2 (le_refl a)
  have h2 : le a (nrm a) := le_nrm.2 (le_refl a)
  have h3 : le (nrm b) b := nrm_le.2 (le_refl b)
  have h4 : le b (nrm b) := le_nrm.2 (le_refl b)
  rw [Bool.eq_iff_iff]
  exact ⟨fb_mono h2 h3, fb_mono h1 h4⟩
theorem fb_clip (a b : Lab) (p : UInt8) : fb a b (clip p) = fb a b p := by
  have h : ofP (clip p) = ofP p := by
    have : ∀ k, k ≤ 6 → ofTo (clip p) k = ofTo p k := by
      intro k
      induction k with
      | zero => intro _; rfl
      | succ k ih =>
        intro hk
        unfold ofTo
        rw [ih (by omega), sub_two (by omega), sub_two (by omega), bit_clip]
        simp [show k < 6 by omega]
    exact this 6 (Nat.le_refl _)
  unfold fb
  rw [h]
/-- Of the numbers below k, those by which a flows to b. -/
def enough (a b : Lab) : Nat → List UInt8
  | 0 => []
  | k + 1 => if fb a b (UInt8.ofNat k) then enough a b k ++ [UInt8.ofNat k] else enough a b k
theorem enough_length (a b : Lab) (k : Nat) : (enough a b k).length ≤ k := by
  induction k with
  | zero => simp [enough]
  | succ k ih =>
    unfold enough
    split
    · rw [List.length_append]; simp; omega
    · omega
theorem mem_enough {a b : Lab} {k : Nat} {c : UInt8} (hk : k ≤ 64) : c ∈ enough a b k ↔ c.toNat < k ∧ fb a b c = true := by
  induction k with
  | zero => simp [enough]
  | succ k ih =>
    have ih := ih (by omega)
    have hn : (UInt8.ofNat k).toNat = k := toNat_ofNat_lt (by omega)
    unfold enough
    have key : c ∈ enough a b k ∨ (c = UInt8.ofNat k ∧ fb a b c = true) ↔ c.toNat < k + 1 ∧ fb a b c = true := by
      rw [ih]
      constructor
      · rintro (⟨h1, h2⟩ | ⟨rfl, h2⟩)
        · exact ⟨by omega, h2⟩
        · exact ⟨by omega, h2⟩
      · rintro ⟨h1, h2⟩
        by_cases h : c.toNat < k
        · exact .inl ⟨h, h2⟩
        · exact .inr ⟨UInt8.toNat_inj.1 (by omega), h2⟩
    rw [← key]
    split
    · rename_i hf
      rw [List.mem_append, List.mem_singleton]
      exact ⟨fun h => h.elim .inl fun e => .inr ⟨e, by rw [e]; exact hf⟩, fun h => h.elim .inl fun e => .inr e.1⟩
    · rename_i hf
      exact ⟨.inl, fun h => h.elim id fun e => absurd (by rw [← e.1]; exact e.2) hf⟩
def needs (a b : Lab) : List UInt8 := least (enough (nrm a) (nrm b) 64)
theorem mem_needs {a b : Lab} {c : UInt8} (h : c ∈ needs a b) : c.toNat < 64 ∧ fb a b c = true := by
  have := (mem_enough (Nat.le_refl 64)).1 (least_sub h)
  rwa [fb_nrm] at this
theorem fb_up {a b : Lab} {p q : UInt8} (hs : sub p q = true) (h : fb a b p = true) : fb a b q = true := by
  have : p ||| q = q := by
    apply bit_ext; intro i hi; rw [bit_or]
    have := sub_iff.1 hs i hi
    cases hp : bit p i <;> cases hq : bit q i <;> simp_all
  rw [← this]; exact fb_more h
/-- **One flows to the other by some principals just if one of what is needed is among them.** -/
theorem needs_covers (a b : Lab) (p : UInt8) : covers (needs a b) (clip p) = fb a b p := by
  rw [Bool.eq_iff_iff, covers_iff]
  constructor
  · rintro ⟨c, hc, hs⟩
    rw [← fb_clip]
    exact fb_up hs (mem_needs hc).2
  · intro h
    have hm : clip p ∈ enough (nrm a) (nrm b) 64 := (mem_enough (Nat.le_refl 64)).2 ⟨clip_lt.1 (clip_clip p), by rw [fb_nrm, fb_clip]; exact h⟩
    exact least_below hm
theorem needs_least (a b : Lab) : least (needs a b) = needs a b := least_least _
theorem needs_zero (a b : Lab) : (needs a b == [0]) = fl a b := by
  rw [Bool.eq_iff_iff, beq_iff_eq, ← fb_zero']
  constructor
  · intro h
    exact (mem_needs (by rw [h]; simp)).2
  · intro h
    refine Rises.ext (least_rises _) (List.pairwise_singleton _ _) fun c => ?_
    have h0 : (0 : UInt8) ∈ enough (nrm a) (nrm b) 64 := (mem_enough (Nat.le_refl 64)).2 ⟨by decide, by rw [fb_nrm]; exact h⟩
    have z : ∀ c : UInt8, sub 0 c = true := fun c => sub_iff.2 fun i _ hb => by rw [bit_zero] at hb; cases hb
    unfold needs; rw [mem_least, List.mem_singleton]
    constructor
    · intro hm; exact (hm.2 0 h0 (z c)).symm
    · intro e
      subst e
      exact ⟨h0, fun d _ hs => sub_antisymm hs (z d)⟩

/-! guard -/
theorem up_fl (s : St) (l : Lab) : fl (jn s.cur l) s.clr = (fl s.cur s.clr && fl l s.clr) := fl_jn _ _ _
theorem up_again (s : St) (l : Lab) (h : fl (jn s.cur l) s.clr = true) : upS (upS s l).1 l = ((upS s l).1, 0) := by
  have e : jn (jn s.cur l) l = jn s.cur l := by
    rw [← jn_assoc, jn_self]
    exact ext_up (rightL_jn _ _) (rightL_jn _ _) fun c => by rw [jn_le, jn_le, nrm_le]
  unfold upS
  rw [if_pos h]
  show (if fl (jn (jn s.cur l) l) s.clr then _ else _) = _
  rw [e, if_pos h]
theorem wrS_zero (s : St) (l : Lab) : (wrS s l = 0) ↔ (fl s.cur l && fl l s.clr) = true := by
  unfold wrS
  cases h1 : fl s.cur l <;> cases h2 : fl l s.clr <;> simp
theorem wr_behind (s : St) (l m : Lab) (h : wrS (upS s m).1 l = 0) : wrS s l = 0 := by
  rw [wrS_zero, Bool.and_eq_true, fl_iff, fl_iff] at h ⊢
  unfold upS at h
  split at h
  · exact ⟨le_trans (le_jn_left _ _) h.1, h.2⟩
  · exact h
theorem boS_zero (s : St) (l : Lab) : ((boS s l).2 = 0) ↔ (wrS s l = 0) := by
  unfold boS
  split
  · rename_i h
    simp [(wrS_zero s l).2 h]
  · rfl
end Lz
