/- What label.Put, Get, Text, Parse tell; that they are inverse. Plain lists; no conditions. -/
import Derived.Test.YtiagoiannccdmaaDoorCnfBackM
import Derived.Test.YtiagoiannccdmaaDoorLabelD
namespace Go.Proofs.YtiagoiannccdmaaDoor
open Go.RowKit Go.Shelf
def putLb (a : Lz.Lab) : List UInt8 := putL a.1 ++ putL a.2
def getLb (s : List UInt8) (at' : Int) : Lz.Lab × Int × Bool :=
  if (getF s at').2.2 = true then
    if (getF s (getF s at').2.1).2.2 = true then (((getF s at').1, (getF s (getF s at').2.1).1), (getF s (getF s at').2.1).2.1, true) else (([], []), 0, false)
  else (([], []), 0, false)
theorem text_no47 (c : UInt8) (h : c.toNat < 64) : (47 : UInt8) ∉ textP c := by
  have := of_all64 (fun s => !(textP s).contains 47) (by decide +kernel) c h
  simpa using this
theorem textC_no47 (l : List UInt8) (h : ∀ c, c ∈ l → c.toNat < 64) : (47 : UInt8) ∉ textC l := by
  have : ∀ (l acc : List UInt8), (∀ c, c ∈ l → c.toNat < 64) → (47 : UInt8) ∉ acc → (47 : UInt8) ∉ l.foldl joinC acc := by
    intro l
    induction l with
    | nil => intro acc _ h; exact h
    | cons c l ih =>
      intro acc hl ha
      refine ih _ (fun d hd => hl d (by simp [hd])) ?_
      have hc := text_no47 c (hl c (by simp))
      unfold joinC
      split
      · simpa using hc
      · intro hm
        rw [List.mem_append, List.mem_append, List.mem_singleton] at hm
        rcases hm with (hm | hm) | hm
        · exact ha hm
        · exact absurd hm (by decide)
        · exact hc hm
  exact this l [] h (by simp)
theorem textF_no47 (f : List UInt8) : (47 : UInt8) ∉ textF f := by
  unfold textF
  split
  · decide
  · split
    · decide
    · exact textC_no47 _ fun c hc => Lz.norm_lt hc
theorem indexByte_word : ∀ (u v : List UInt8) (c : UInt8), c ∉ u → Lib.indexByte (u ++ c :: v) c = (u.length : Int)
  | [], v, c, _ => by simp [Lib.indexByte]
  | b :: u, v, c, h => by
    have hb : ¬ (b == c) = true := fun e => h (by rw [eq_of_beq e]; simp)
    have ih := indexByte_word u v c (fun e => h (by simp [e]))
    rw [List.cons_append, Lib.indexByte, if_neg hb, ih, if_neg (by rw [beq_iff_eq]; omega)]
    simp
theorem cut_text (a : Lz.Lab) : cut47 (textLb a) = (textF a.1, textF a.2, true) := by
  unfold cut47 textLb
  rw [indexByte_word _ _ _ (textF_no47 _), if_pos (by omega), Int.toNat_natCast, List.take_left]
  congr 1
  rw [← List.drop_drop, List.drop_left]; rfl
theorem parseLb_textLb (a : Lz.Lab) : parseLb (textLb a) = (Lz.nrm a, true) := by
  unfold parseLb
  rw [cut_text, parseF_textF, parseF_textF]
  rfl
theorem textLb_iff (a b : Lz.Lab) : (textLb a == textLb b) = (Lz.nrm a == Lz.nrm b) := by
  rw [Bool.eq_iff_iff, beq_iff_eq, beq_iff_eq]
  constructor
  · intro h
    have h1 := parseLb_textLb a
    rw [h, parseLb_textLb b] at h1
    exact (Prod.mk.inj h1).1.symm
  · intro h
    have h1 := (Prod.mk.inj h).1
    have h2 := (Prod.mk.inj h).2
    unfold textLb textF
    rw [h1, h2]
theorem getLb_putLb (a : List UInt8) (l : Lz.Lab) (b : List UInt8) : getLb (a ++ putLb l ++ b) (a.length : Int) = (Lz.nrm l, (a.length : Int) + (putLb l).length, true) := by
  have h1 := getF_putL a l.1 (putL l.2 ++ b)
  have h2 := getF_putL (a ++ putL l.1) l.2 b
  have e1 : a ++ putLb l ++ b = a ++ putL l.1 ++ (putL l.2 ++ b) := by unfold putLb; simp
  have e2 : a ++ putLb l ++ b = a ++ putL l.1 ++ putL l.2 ++ b := by unfold putLb; simp
  have p1 : (putL l.1).length = 1 + (Lz.norm l.1).length := by unfold putL; simp; omega
  have p2 : (putL l.2).length = 1 + (Lz.norm l.2).length := by unfold putL; simp; omega
  have p3 : (putLb l).length = 2 + (Lz.norm l.1).length + (Lz.norm l.2).length := by unfold putLb; rw [List.length_append]; omega
  rw [← e1] at h1
  rw [← e2, show ((a ++ putL l.1).length : Int) = (a.length : Int) + 1 + (Lz.norm l.1).length from by rw [List.length_append]; omega] at h2
  unfold getLb
  rw [h1]
  simp only
  rw [if_pos trivial, h2]
  simp only
  rw [if_pos trivial]
  refine congrArg (Prod.mk _) (congrArg (·, true) ?_)
  omega
theorem putLb_iff (a b : Lz.Lab) : (putLb a == putLb b) = (Lz.nrm a == Lz.nrm b) := by
  rw [Bool.eq_iff_iff, beq_iff_eq, beq_iff_eq]
  constructor
  · intro h
    have h1 := getLb_putLb [] a []
    have h2 := getLb_putLb [] b []
    rw [h] at h1
    rw [h1] at h2
    exact (Prod.mk.inj h2).1
  · intro h
    have h1 := (Prod.mk.inj h).1
    have h2 := (Prod.mk.inj h).2
    unfold putLb putL
    rw [h1, h2]
end Go.Proofs.YtiagoiannccdmaaDoor
