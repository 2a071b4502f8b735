/- Plain mathematics of GuardLeaks: what dropping and lifting tell. No program in sight; no conditions. -/
import Derived.Test.YtnnnnlnnohdidaaOrd2
namespace Lz
theorem fb_nrm_right (a b : Lab) (p : UInt8) : fb a (nrm b) p = fb a b p := by rw [Bool.eq_iff_iff, fb_iff, fb_iff, le_nrm]
theorem fb_nrm_left (a b : Lab) (p : UInt8) : fb (nrm a) b p = fb a b p := by rw [Bool.eq_iff_iff, ← le_re, ← le_re, nrm_le]
theorem fl_dr_nrm (a b : Lab) (p : UInt8) : fl (dr a p) (nrm b) = fb a b p := by rw [fl_nrm_right, fl_dr]
/-- What is dropped and logged went by the principals, and would not have gone without. -/
theorem dr_facts (t : St) (a : Lab) (p : UInt8) :
    ((drS t a p).2.2 = true → (drS t a p).2.1 = 0 ∧ ¬ (drS t a 0).2.1 = 0 ∧ fl (dr t.cur p) (drS t a p).1.cur = true) ∧ ((drS t a p).2.1 = 0 → fb t.cur (drS t a p).1.cur p = true) ∧ (drS t a 0).2.2 = false := by
  have z := fb_zero' t.cur a
  have e1 := fl_dr_nrm t.cur a p
  have e2 := fb_nrm_right t.cur a p
  unfold drS
  rw [z]
  cases h1 : fb t.cur a p <;> cases h2 : fl a t.clr <;> cases h3 : fl t.cur a <;> simp_all
theorem li_facts (t : St) (a : Lab) (p : UInt8) :
    ((liS t a p).2.2 = true → (liS t a p).2.1 = 0 ∧ fl (liS t a p).1.clr t.clr = false) ∧ ((liS t a p).2.1 = 0 → fb (liS t a p).1.clr t.clr p = true) := by
  have e1 := fl_nrm_left a t.clr
  have e2 := fb_nrm_left a t.clr p
  unfold liS
  cases h1 : fb a t.clr p <;> cases h2 : fl t.cur a <;> cases h3 : fl a t.clr <;> simp_all
end Lz
