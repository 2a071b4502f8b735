/- Plain mathematics of labels as pairs of formulas: their order, joins, meets, what principals let through. No program in sight; no conditions. -/
import Derived.Test.YtiagoiannccdmaaDoorMath
namespace Lz

/-- The clauses that ask for each principal of p, of places below k. -/
def ofTo (p : UInt8) : Nat → List UInt8
  | 0 => []
  | k + 1 => if sub (UInt8.ofNat (2 ^ k)) p then ofTo p k ++ [UInt8.ofNat (2 ^ k)] else ofTo p k
def ofP (p : UInt8) : List UInt8 := ofTo p 6
theorem ofTo_length (p : UInt8) (k : Nat) : (ofTo p k).length ≤ k := by
  induction k with
  | zero => simp [ofTo]
  | succ k ih =>
    unfold ofTo
    split
    · rw [List.length_append]; simp; omega
    · omega
theorem ofP_length (p : UInt8) : (ofP p).length ≤ 6 := ofTo_length p 6
theorem mem_ofTo {p c : UInt8} {k : Nat} : c ∈ ofTo p k ↔ ∃ j, j < k ∧ c = UInt8.ofNat (2 ^ j) ∧ sub c p = true := by
  induction k with
  | zero => simp [ofTo]
  | succ k ih =>
    unfold ofTo
    constructor
    · intro h
      split at h
      · rename_i hs
        rcases List.mem_append.1 h with h | h
        · obtain ⟨j, hj, h1, h2⟩ := ih.1 h; exact ⟨j, by omega, h1, h2⟩
        · have := List.mem_singleton.1 h; subst this; exact ⟨k, by omega, rfl, hs⟩
      · obtain ⟨j, hj, h1, h2⟩ := ih.1 h; exact ⟨j, by omega, h1, h2⟩
    · rintro ⟨j, hj, h1, h2⟩
      by_cases he : j = k
      · subst he
        subst h1
        rw [if_pos h2]; simp
      · have := ih.2 ⟨j, by omega, h1, h2⟩
        split
        · exact List.mem_append_left _ this
        · exact this
theorem bit_two {i j : Nat} (hj : j < 6) : bit (UInt8.ofNat (2 ^ j)) i = decide (j = i) := by
  have h : 2 ^ j < 256 := by
    have : 2 ^ j ≤ 2 ^ 5 := Nat.pow_le_pow_right (by decide) (by omega)
    omega
  unfold bit
  rw [toNat_ofNat_lt h, Nat.testBit_two_pow]
theorem sub_two {j : Nat} (hj : j < 6) (p : UInt8) : sub (UInt8.ofNat (2 ^ j)) p = bit p j := by
  rw [Bool.eq_iff_iff, sub_iff]
  constructor
  · intro h; exact h j (by omega) (by rw [bit_two hj]; simp)
  · intro h i _ hi
    rw [bit_two hj] at hi
    simp at hi
    subst hi
    exact h
theorem sat_ofP {p x : UInt8} : sat (ofP p) x = true ↔ sub (clip p) x = true := by
  rw [sat_iff, sub_iff]
  constructor
  · intro h i hi hb
    rw [bit_clip] at hb
    simp at hb
    have := h (UInt8.ofNat (2 ^ i)) (mem_ofTo.2 ⟨i, hb.2, rfl, by rw [sub_two hb.2]; exact hb.1⟩)
    obtain ⟨k, _, h1, h2⟩ := meets_iff.1 this
    rw [bit_clip, bit_two hb.2] at h1
    simp at h1
    rw [h1.1]; exact h2
  · intro h c hc
    obtain ⟨j, hj, rfl, hs⟩ := mem_ofTo.1 hc
    rw [sub_two hj] at hs
    refine meets_iff.2 ⟨j, by omega, ?_, h j (by omega) (by rw [bit_clip, hs]; simp [hj])⟩
    rw [bit_clip, bit_two hj]; simp [hj]
theorem sub_clip_or {p x : UInt8} (h : sub (clip p) x = true) : clip (x ||| p) = clip x := by
  apply bit_ext
  intro i hi
  rw [bit_clip, bit_clip, bit_or]
  have := sub_iff.1 h i hi
  rw [bit_clip] at this
  cases hp : bit p i <;> cases hx : bit x i <;> simp_all
theorem sat_or_of {f : List UInt8} {p x : UInt8} (h : sub (clip p) x = true) : sat f (x ||| p) = sat f x := by
  rw [← sat_clip f (x ||| p), sub_clip_or h, sat_clip]

/-- A label: whose agreement, who vouches. -/
abbrev Lab := List UInt8 × List UInt8
def nrm (a : Lab) : Lab := (norm a.1, norm a.2)
def jn (a b : Lab) : Lab := (and a.1 b.1, or a.2 b.2)
def mt (a b : Lab) : Lab := (or a.1 b.1, and a.2 b.2)
def fl (a b : Lab) : Bool := implies b.1 a.1 && implies a.2 b.2
def fb (a b : Lab) (p : UInt8) : Bool := implies (and b.1 (ofP p)) a.1 && implies (and a.2 (ofP p)) b.2
def dr (a : Lab) (p : UInt8) : Lab := (fix a.1 p, and a.2 (ofP p))
def re (a : Lab) (p : UInt8) : Lab := (and a.1 (ofP p), fix a.2 p)
def rightL (a : Lab) : Prop := nrm a = a
def low : Lab := ([], [0])
def high : Lab := ([0], [])

def le (a b : Lab) : Prop := (∀ x, sat b.1 x = true → sat a.1 x = true) ∧ (∀ x, sat a.2 x = true → sat b.2 x = true)
theorem fl_iff {a b : Lab} : fl a b = true ↔ le a b := by unfold fl le; rw [Bool.and_eq_true, implies_iff, implies_iff]
theorem le_refl (a : Lab) : le a a := ⟨fun _ h => h, fun _ h => h⟩
theorem le_trans {a b c : Lab} (h : le a b) (k : le b c) : le a c := ⟨fun x hx => h.1 x (k.1 x hx), fun x hx => k.2 x (h.2 x hx)⟩
theorem rightL_iff {a : Lab} : rightL a ↔ right a.1 ∧ right a.2 := by
  unfold rightL nrm right
  constructor
  · intro h; rw [Prod.ext_iff] at h; exact h
  · intro h; rw [Prod.ext_iff]; exact h
theorem rightL_nrm (a : Lab) : rightL (nrm a) := rightL_iff.2 ⟨right_norm _, right_norm _⟩
theorem rightL_jn (a b : Lab) : rightL (jn a b) := rightL_iff.2 ⟨right_and _ _, right_or _ _⟩
theorem rightL_mt (a b : Lab) : rightL (mt a b) := rightL_iff.2 ⟨right_or _ _, right_and _ _⟩
theorem rightL_dr (a : Lab) (p : UInt8) : rightL (dr a p) := rightL_iff.2 ⟨right_fix _ _, right_and _ _⟩
theorem rightL_re (a : Lab) (p : UInt8) : rightL (re a p) := rightL_iff.2 ⟨right_and _ _, right_fix _ _⟩
theorem rightL_low : rightL low := rightL_iff.2 ⟨right_nil, right_false⟩
theorem rightL_high : rightL high := rightL_iff.2 ⟨right_false, right_nil⟩
theorem le_antisymm {a b : Lab} (ha : rightL a) (hb : rightL b) (h : le a b) (k : le b a) : a = b := by
  obtain ⟨a1, a2⟩ := rightL_iff.1 ha
  obtain ⟨b1, b2⟩ := rightL_iff.1 hb
  have e1 : a.1 = b.1 := right_ext a1 b1 fun x => Bool.eq_iff_iff.2 ⟨k.1 x, h.1 x⟩
  have e2 : a.2 = b.2 := right_ext a2 b2 fun x => Bool.eq_iff_iff.2 ⟨h.2 x, k.2 x⟩
  exact Prod.ext_iff.2 ⟨e1, e2⟩
theorem nrm_le {a b : Lab} : le (nrm a) b ↔ le a b := by unfold le nrm; simp only [sat_norm]
theorem le_nrm {a b : Lab} : le a (nrm b) ↔ le a b := by unfold le nrm; simp only [sat_norm]
theorem nrm_right {a : Lab} (h : rightL a) : nrm a = a := h
theorem nrm_eq_iff {a b : Lab} : nrm a = nrm b ↔ le a b ∧ le b a := by
  constructor
  · intro h
    have h1 : le (nrm a) (nrm b) := h ▸ le_refl _
    have h2 : le (nrm b) (nrm a) := h ▸ le_refl _
    exact ⟨le_nrm.1 (nrm_le.1 h1), le_nrm.1 (nrm_le.1 h2)⟩
  · rintro ⟨h, k⟩
    exact le_antisymm (rightL_nrm _) (rightL_nrm _) (nrm_le.2 (le_nrm.2 h)) (nrm_le.2 (le_nrm.2 k))
theorem jn_le {a b c : Lab} : le (jn a b) c ↔ le a c ∧ le b c := by
  unfold le jn
  simp only [sat_and, sat_or, Bool.and_eq_true, Bool.or_eq_true]
  constructor
  · rintro ⟨h1, h2⟩
    exact ⟨⟨fun x hx => (h1 x hx).1, fun x hx => h2 x (.inl hx)⟩, ⟨fun x hx => (h1 x hx).2, fun x hx => h2 x (.inr hx)⟩⟩
  · rintro ⟨⟨h1, h2⟩, ⟨h3, h4⟩⟩
    exact ⟨fun x hx => ⟨h1 x hx, h3 x hx⟩, fun x hx => hx.elim (h2 x) (h4 x)⟩
theorem le_mt {a b c : Lab} : le c (mt a b) ↔ le c a ∧ le c b := by
  unfold le mt
  simp only [sat_and, sat_or, Bool.and_eq_true, Bool.or_eq_true]
  constructor
  · rintro ⟨h1, h2⟩
    exact ⟨⟨fun x hx => h1 x (.inl hx), fun x hx => (h2 x hx).1⟩, ⟨fun x hx => h1 x (.inr hx), fun x hx => (h2 x hx).2⟩⟩
  · rintro ⟨⟨h1, h2⟩, ⟨h3, h4⟩⟩
    exact ⟨fun x hx => hx.elim (h1 x) (h3 x), fun x hx => ⟨h2 x hx, h4 x hx⟩⟩
theorem le_jn_left (a b : Lab) : le a (jn a b) := (jn_le.1 (le_refl _)).1
theorem le_jn_right (a b : Lab) : le b (jn a b) := (jn_le.1 (le_refl _)).2
theorem mt_le_left (a b : Lab) : le (mt a b) a := (le_mt.1 (le_refl _)).1
theorem mt_le_right (a b : Lab) : le (mt a b) b := (le_mt.1 (le_refl _)).2
theorem low_le (a : Lab) : le low a := ⟨fun x _ => sat_nil x, fun x h => by rw [show low.2 = [0] from rfl, sat_false] at h; cases h⟩
theorem le_high (a : Lab) : le a high := ⟨fun x h => (by rw [show high.1 = [0] from rfl, sat_false] at h; cases h), fun x _ => sat_nil x⟩
/-- Two right labels below which the same lies are one. -/
theorem ext_up {a b : Lab} (ha : rightL a) (hb : rightL b) (h : ∀ c, le a c ↔ le b c) : a = b := le_antisymm ha hb ((h b).2 (le_refl b)) ((h a).1 (le_refl a))
theorem ext_down {a b : Lab} (ha : rightL a) (hb : rightL b) (h : ∀ c, le c a ↔ le c b) : a = b := le_antisymm ha hb ((h a).1 (le_refl a)) ((h b).2 (le_refl b))
/-- To flow by principals is to flow behind dropping. -/
theorem dr_le {a b : Lab} {p : UInt8} : le (dr a p) b ↔ fb a b p = true := by
  unfold fb
  rw [Bool.and_eq_true, implies_iff, implies_iff]
  unfold le dr
  simp only [sat_fix, sat_and, Bool.and_eq_true, sat_ofP]
  constructor
  · rintro ⟨h1, h2⟩
    exact ⟨fun x ⟨h3, h4⟩ => by have := h1 x h3; rwa [sat_or_of h4] at this, h2⟩
  · rintro ⟨h1, h2⟩
    refine ⟨fun x hx => ?_, h2⟩
    exact h1 (x ||| p) ⟨sat_mono (sub_or_left x p) hx, sub_trans (clip_sub p) (sub_or_right x p)⟩
theorem le_re {a b : Lab} {p : UInt8} : le a (re b p) ↔ fb a b p = true := by
  unfold fb
  rw [Bool.and_eq_true, implies_iff, implies_iff]
  unfold le re
  simp only [sat_fix, sat_and, Bool.and_eq_true, sat_ofP]
  constructor
  · rintro ⟨h1, h2⟩
    exact ⟨h1, fun x ⟨h3, h4⟩ => by have := h2 x h3; rwa [sat_or_of h4] at this⟩
  · rintro ⟨h1, h2⟩
    refine ⟨h1, fun x hx => ?_⟩
    exact h2 (x ||| p) ⟨sat_mono (sub_or_left x p) hx, sub_trans (clip_sub p) (sub_or_right x p)⟩
theorem fb_iff {a b : Lab} {p : UInt8} : fb a b p = true ↔ le (dr a p) b := dr_le.symm
theorem dr_le_self (a : Lab) (p : UInt8) : le (dr a p) a := by
  refine ⟨fun x h => ?_, fun x h => ?_⟩
  · show sat (fix a.1 p) x = true
    rw [sat_fix]; exact sat_mono (sub_or_left x p) h
  · have : sat (and a.2 (ofP p)) x = true := h
    rw [sat_and, Bool.and_eq_true] at this; exact this.1
theorem fb_of_le {a b : Lab} (p : UInt8) (h : le a b) : fb a b p = true := fb_iff.2 (le_trans (dr_le_self a p) h)
theorem le_re_self (a : Lab) (p : UInt8) : le a (re a p) := le_re.2 (fb_of_le p (le_refl a))
/-- What principals let through hangs on what is of the labels' order alone. -/
theorem fb_mono {a a' b b' : Lab} {p : UInt8} (h : le a' a) (k : le b b') (hf : fb a b p = true) : fb a' b' p = true := by
  have h1 : le a (re b p) := le_re.2 hf
  have h2 : le (dr a' p) b := dr_le.2 (le_re.1 (le_trans h h1))
  exact fb_iff.2 (le_trans h2 k)
theorem fb_zero {a b : Lab} : fb a b 0 = true ↔ le a b := by
  rw [fb_iff]
  refine ⟨fun h => ⟨fun x hx => ?_, fun x hx => ?_⟩, fun h => le_trans (dr_le_self a 0) h⟩
  · have := h.1 x hx
    have e : sat (fix a.1 0) x = true := this
    rw [sat_fix] at e
    have z : x ||| 0 = x := by apply bit_ext; intro i _; rw [bit_or, bit_zero]; simp
    rwa [z] at e
  · refine h.2 x ?_
    show sat (and a.2 (ofP 0)) x = true
    rw [sat_and, hx, Bool.true_and]
    exact sat_ofP.2 (sub_iff.2 fun i hi hb => by rw [bit_clip, bit_zero] at hb; simp at hb)
/-- To drop by two sets is to drop by both together. -/
theorem dr_dr (a : Lab) (p q : UInt8) : dr (dr a p) q = dr a (p ||| q) := by
  refine Prod.ext_iff.2 ⟨right_ext (right_fix _ _) (right_fix _ _) fun x => ?_, right_ext (right_and _ _) (right_and _ _) fun x => ?_⟩
  · show sat (fix (fix a.1 p) q) x = sat (fix a.1 (p ||| q)) x
    rw [sat_fix, sat_fix, sat_fix]
    congr 1
    apply bit_ext; intro i _; simp only [bit_or]; cases bit x i <;> cases bit p i <;> cases bit q i <;> rfl
  · show sat (and (and a.2 (ofP p)) (ofP q)) x = sat (and a.2 (ofP (p ||| q))) x
    rw [sat_and, sat_and, sat_and, Bool.and_assoc]
    congr 1
    rw [Bool.eq_iff_iff, Bool.and_eq_true, sat_ofP, sat_ofP, sat_ofP, clip_or]
    exact ⟨fun ⟨h, k⟩ => or_sub h k, fun h => ⟨sub_trans (sub_or_left _ _) h, sub_trans (sub_or_right _ _) h⟩⟩
theorem re_re (a : Lab) (p q : UInt8) : re (re a p) q = re a (p ||| q) := by
  have h := dr_dr (a.2, a.1) p q
  rw [Prod.ext_iff] at h ⊢
  exact ⟨h.2, h.1⟩
theorem or_self (p : UInt8) : p ||| p = p := by apply bit_ext; intro i _; rw [bit_or]; simp
theorem fb_trans {a b c : Lab} {p : UInt8} (h : fb a b p = true) (k : fb b c p = true) : fb a c p = true := by
  have h1 : le (dr a p) (re c p) := le_trans (fb_iff.1 h) (le_re.2 k)
  have h2 := le_re.1 h1
  rw [fb_iff, dr_dr, or_self] at h2
  exact fb_iff.2 h2
theorem dr_mono {a b : Lab} {p : UInt8} (h : le a b) : le (dr a p) (dr b p) := fb_iff.1 (fb_mono h (le_refl _) (fb_iff.2 (le_refl _)))
theorem re_mono {a b : Lab} {p : UInt8} (h : le a b) : le (re a p) (re b p) := le_re.2 (fb_mono (le_refl _) h (le_re.1 (le_refl _)))
theorem dr_more (a : Lab) (p q : UInt8) : le (dr a (p ||| q)) (dr a p) := by rw [← dr_dr]; exact dr_le_self _ _
theorem re_more (a : Lab) (p q : UInt8) : le (re a p) (re a (p ||| q)) := by rw [← re_re]; exact le_re_self _ _
theorem fb_more {a b : Lab} {p q : UInt8} (h : fb a b p = true) : fb a b (p ||| q) = true := fb_iff.2 (le_trans (dr_more a p q) (fb_iff.1 h))
theorem dr_jn (a b : Lab) (p : UInt8) : dr (jn a b) p = jn (dr a p) (dr b p) := ext_up (rightL_dr _ _) (rightL_jn _ _) fun c => by
  rw [jn_le, dr_le, dr_le, dr_le, ← le_re, ← le_re, ← le_re, jn_le]
theorem re_mt (a b : Lab) (p : UInt8) : re (mt a b) p = mt (re a p) (re b p) := ext_down (rightL_re _ _) (rightL_mt _ _) fun c => by
  rw [le_mt, le_re, le_re, le_re, ← dr_le, ← dr_le, ← dr_le, le_mt]

/-! guard -/
structure St where
  cur : Lab
  clr : Lab
/-- What comes of reading, writing, both, lowering, dropping, lifting: the state, the exception, was it logged. -/
def upS (s : St) (l : Lab) : St × Int := if fl (jn s.cur l) s.clr then (⟨jn s.cur l, s.clr⟩, 0) else (s, -4)
def wrS (s : St) (l : Lab) : Int := if fl s.cur l then (if fl l s.clr then 0 else -4) else -3
def boS (s : St) (l : Lab) : St × Int := if fl s.cur l && fl l s.clr then (⟨nrm l, s.clr⟩, 0) else (s, wrS s l)
def loS (s : St) (l : Lab) : St × Int := if fl l s.clr then (if fl s.cur l then (⟨s.cur, nrm l⟩, 0) else (s, -3)) else (s, -4)
def drS (s : St) (l : Lab) (p : UInt8) : St × Int × Bool := if fb s.cur l p then (if fl l s.clr then (⟨nrm l, s.clr⟩, 0, !fl s.cur l) else (s, -4, false)) else (s, -3, false)
def liS (s : St) (l : Lab) (p : UInt8) : St × Int × Bool := if fb l s.clr p then (if fl s.cur l then (⟨s.cur, nrm l⟩, 0, !fl l s.clr) else (s, -3, false)) else (s, -4, false)
def rightS (s : St) : Prop := rightL s.cur ∧ rightL s.clr ∧ le s.cur s.clr
def stS (s : St) (k : Nat) (l : Lab) (p : UInt8) : St × Int × Bool :=
  match k with
  | 0 => ((upS s l).1, (upS s l).2, false)
  | 1 => (s, wrS s l, false)
  | 2 => ((boS s l).1, (boS s l).2, false)
  | 3 => ((loS s l).1, (loS s l).2, false)
  | 4 => drS s l p
  | _ => liS s l p
def begun (s : St) : St := ⟨nrm s.cur, jn s.cur s.clr⟩
theorem right_begun (s : St) : rightS (begun s) := ⟨rightL_nrm _, rightL_jn _ _, nrm_le.2 (le_jn_left _ _)⟩
/-- **A right state stays so; with an exception it is as it was and nothing is logged.** -/
theorem stS_right {s : St} (h : rightS s) (k : Nat) (l : Lab) (p : UInt8) :
    rightS (stS s k l p).1 ∧ ((stS s k l p).2.1 = 0 ∨ (stS s k l p).2.1 = -3 ∨ (stS s k l p).2.1 = -4) ∧ ((stS s k l p).2.1 ≠ 0 → (stS s k l p).1 = s ∧ (stS s k l p).2.2 = false) := by
  obtain ⟨h1, h2, h3⟩ := h
  have hs : rightS s := ⟨h1, h2, h3⟩
  unfold stS
  split
  · unfold upS
    split
    · rename_i hf
      exact ⟨⟨rightL_jn _ _, h2, fl_iff.1 hf⟩, .inl rfl, fun x => absurd rfl x⟩
    · exact ⟨hs, .inr (.inr rfl), fun _ => ⟨rfl, rfl⟩⟩
  · refine ⟨hs, ?_, fun _ => ⟨rfl, rfl⟩⟩
    show wrS s l = 0 ∨ wrS s l = -3 ∨ wrS s l = -4
    unfold wrS; split
    · split
      · exact .inl rfl
      · exact .inr (.inr rfl)
    · exact .inr (.inl rfl)
  · unfold boS
    split
    · rename_i hf
      rw [Bool.and_eq_true] at hf
      exact ⟨⟨rightL_nrm _, h2, nrm_le.2 (fl_iff.1 hf.2)⟩, .inl rfl, fun x => absurd rfl x⟩
    · refine ⟨hs, ?_, fun _ => ⟨rfl, rfl⟩⟩
      show wrS s l = 0 ∨ wrS s l = -3 ∨ wrS s l = -4
      unfold wrS; split
      · split
        · exact .inl rfl
        · exact .inr (.inr rfl)
      · exact .inr (.inl rfl)
  · unfold loS
    split
    · split
      · rename_i hf
        exact ⟨⟨h1, rightL_nrm _, le_nrm.2 (fl_iff.1 hf)⟩, .inl rfl, fun x => absurd rfl x⟩
      · exact ⟨hs, .inr (.inl rfl), fun _ => ⟨rfl, rfl⟩⟩
    · exact ⟨hs, .inr (.inr rfl), fun _ => ⟨rfl, rfl⟩⟩
  · unfold drS
    split
    · split
      · rename_i hf
        exact ⟨⟨rightL_nrm _, h2, nrm_le.2 (fl_iff.1 hf)⟩, .inl rfl, fun x => absurd rfl x⟩
      · exact ⟨hs, .inr (.inr rfl), fun _ => ⟨rfl, rfl⟩⟩
    · exact ⟨hs, .inr (.inl rfl), fun _ => ⟨rfl, rfl⟩⟩
  · unfold liS
    split
    · split
      · rename_i hf
        exact ⟨⟨h1, rightL_nrm _, le_nrm.2 (fl_iff.1 hf)⟩, .inl rfl, fun x => absurd rfl x⟩
      · exact ⟨hs, .inr (.inl rfl), fun _ => ⟨rfl, rfl⟩⟩
    · exact ⟨hs, .inr (.inr rfl), fun _ => ⟨rfl, rfl⟩⟩
theorem fl_false {a b : Lab} (h : fl a b = false) : ¬ le a b := fun x => by rw [fl_iff.2 x] at h; cases h
theorem fl_nrm_left (a b : Lab) : fl (nrm a) b = fl a b := by rw [Bool.eq_iff_iff, fl_iff, fl_iff, nrm_le]
theorem fl_nrm_right (a b : Lab) : fl a (nrm b) = fl a b := by rw [Bool.eq_iff_iff, fl_iff, fl_iff, le_nrm]
theorem fl_self (a : Lab) : fl a a = true := fl_iff.2 (le_refl a)
/-- **But for what is logged the current label never falls, and the clearance never rises.** -/
theorem stS_floats (s : St) (k : Nat) (l : Lab) (p : UInt8) : (stS s k l p).2.2 = !(fl s.cur (stS s k l p).1.cur && fl (stS s k l p).1.clr s.clr) := by
  unfold stS
  split
  · unfold upS
    split
    · simp [fl_self, fl_iff.2 (le_jn_left s.cur l)]
    · simp [fl_self]
  · simp [fl_self]
  · unfold boS
    split
    · rename_i hf
      rw [Bool.and_eq_true] at hf
      simp [fl_self, fl_nrm_right, hf.1]
    · simp [fl_self]
  · unfold loS
    split
    · split
      · rename_i hf _
        simp [fl_self, fl_nrm_left, hf]
      · simp [fl_self]
    · simp [fl_self]
  · unfold drS
    split
    · split
      · simp [fl_self, fl_nrm_right]
      · simp [fl_self]
    · simp [fl_self]
  · unfold liS
    split
    · split
      · simp [fl_self, fl_nrm_left]
      · simp [fl_self]
    · simp [fl_self]
end Lz
