/- Plain mathematics of sets of principals and of formulas in least form, with no program in sight; no conditions. -/
namespace Lz

/-- Is each bit of a one of b? -/
def sub (a b : UInt8) : Bool := a &&& b == a
/-- Have a and b a bit in common? -/
def meets (a b : UInt8) : Bool := a &&& b != 0
def bit (a : UInt8) (i : Nat) : Bool := a.toNat.testBit i

theorem bit_and (a b : UInt8) (i : Nat) : bit (a &&& b) i = (bit a i && bit b i) := by simp [bit]
theorem bit_or (a b : UInt8) (i : Nat) : bit (a ||| b) i = (bit a i || bit b i) := by simp [bit]
theorem bit_zero (i : Nat) : bit 0 i = false := by simp [bit]
theorem bit_high (a : UInt8) (i : Nat) (h : 8 ≤ i) : bit a i = false := by
  unfold bit
  refine Nat.testBit_lt_two_pow ?_
  have h1 : a.toNat < 2 ^ 8 := a.toNat_lt
  exact Nat.lt_of_lt_of_le h1 (Nat.pow_le_pow_right (by decide) h)
theorem bit_ext {a b : UInt8} (h : ∀ i, i < 8 → bit a i = bit b i) : a = b := by
  apply UInt8.toNat_inj.1
  apply Nat.eq_of_testBit_eq
  intro i
  by_cases hi : i < 8
  · exact h i hi
  · have ha := bit_high a i (by omega)
    have hb := bit_high b i (by omega)
    unfold bit at ha hb
    rw [ha, hb]
theorem bit_63 (i : Nat) : bit 63 i = decide (i < 6) := by
  by_cases h : i < 8
  · match i, h with
    | 0, _ => decide
    | 1, _ => decide
    | 2, _ => decide
    | 3, _ => decide
    | 4, _ => decide
    | 5, _ => decide
    | 6, _ => decide
    | 7, _ => decide
  · rw [bit_high _ _ (by omega)]; simp; omega
theorem bit_255 (i : Nat) : bit 255 i = decide (i < 8) := by
  by_cases h : i < 8
  · match i, h with
    | 0, _ => decide
    | 1, _ => decide
    | 2, _ => decide
    | 3, _ => decide
    | 4, _ => decide
    | 5, _ => decide
    | 6, _ => decide
    | 7, _ => decide
  · rw [bit_high _ _ (by omega)]; simp; omega
theorem bit_not (a : UInt8) (i : Nat) (h : i < 8) : bit (~~~a) i = !bit a i := by
  have e : bit (~~~a) i = (~~~a).toBitVec.getLsbD i := rfl
  have e2 : bit a i = a.toBitVec.getLsbD i := rfl
  rw [e, e2, UInt8.toBitVec_not, BitVec.getLsbD_not]
  simp [h]

theorem sub_iff {a b : UInt8} : sub a b = true ↔ ∀ i, i < 8 → bit a i = true → bit b i = true := by
  unfold sub
  rw [beq_iff_eq]
  constructor
  · intro h i _ ha
    rw [← h, bit_and] at ha
    simp at ha
    exact ha.2
  · intro h
    apply bit_ext
    intro i hi
    rw [bit_and]
    have := h i hi
    cases ha : bit a i <;> simp_all
theorem meets_iff {a b : UInt8} : meets a b = true ↔ ∃ i, i < 8 ∧ bit a i = true ∧ bit b i = true := by
  unfold meets
  rw [bne_iff_ne]
  constructor
  · intro h
    apply Classical.byContradiction
    intro hn
    apply h
    apply bit_ext
    intro i hi
    rw [bit_and, bit_zero]
    cases ha : bit a i <;> cases hb : bit b i <;> simp
    exact hn ⟨i, hi, ha, hb⟩
  · rintro ⟨i, _, ha, hb⟩ h
    have : bit (a &&& b) i = true := by rw [bit_and, ha, hb]; rfl
    rw [h, bit_zero] at this
    cases this
theorem sub_refl (a : UInt8) : sub a a = true := sub_iff.2 fun _ _ h => h
theorem sub_trans {a b c : UInt8} (h : sub a b = true) (k : sub b c = true) : sub a c = true :=
  sub_iff.2 fun i hi x => sub_iff.1 k i hi (sub_iff.1 h i hi x)
theorem sub_antisymm {a b : UInt8} (h : sub a b = true) (k : sub b a = true) : a = b := by
  apply bit_ext
  intro i hi
  have h1 := sub_iff.1 h i hi
  have h2 := sub_iff.1 k i hi
  cases ha : bit a i <;> cases hb : bit b i <;> simp_all
theorem sub_le {a b : UInt8} (h : sub a b = true) : a.toNat ≤ b.toNat := by
  unfold sub at h
  rw [beq_iff_eq] at h
  rw [← h, UInt8.toNat_and]
  exact Nat.and_le_right
theorem sub_or_left (a b : UInt8) : sub a (a ||| b) = true := sub_iff.2 fun i _ h => by rw [bit_or, h]; rfl
theorem sub_or_right (a b : UInt8) : sub b (a ||| b) = true := sub_iff.2 fun i _ h => by rw [bit_or, h]; simp
theorem or_sub {a b c : UInt8} (h : sub a c = true) (k : sub b c = true) : sub (a ||| b) c = true :=
  sub_iff.2 fun i hi x => by
    rw [bit_or] at x
    cases ha : bit a i
    · rw [ha] at x; exact sub_iff.1 k i hi (by simpa using x)
    · exact sub_iff.1 h i hi ha

/-- Has b one of the sets of l in it? -/
def covers (l : List UInt8) (b : UInt8) : Bool := l.any (sub · b)
theorem covers_iff {l : List UInt8} {b : UInt8} : covers l b = true ↔ ∃ c, c ∈ l ∧ sub c b = true := by simp [covers, List.any_eq_true]

/-- What Least has told when the first k numbers are looked at. -/
def leastTo (l : List UInt8) : Nat → List UInt8
  | 0 => []
  | k + 1 => if l.contains (UInt8.ofNat k) && !covers (leastTo l k) (UInt8.ofNat k) then leastTo l k ++ [UInt8.ofNat k] else leastTo l k
def least (l : List UInt8) : List UInt8 := leastTo l 256

/-- Is c one of l that has no other one of l in it? -/
def Min (l : List UInt8) (c : UInt8) : Prop := c ∈ l ∧ ∀ d, d ∈ l → sub d c = true → d = c
/-- Rising. -/
def Rises (l : List UInt8) : Prop := l.Pairwise fun a b => a.toNat < b.toNat

theorem toNat_ofNat_lt {k : Nat} (h : k < 256) : (UInt8.ofNat k).toNat = k := by
  rw [UInt8.toNat_ofNat']; exact Nat.mod_eq_of_lt h

/-- Of each set of l one that is least lies in it. -/
theorem min_below {l : List UInt8} : ∀ (n : Nat) (c : UInt8), c.toNat ≤ n → c ∈ l → ∃ d, Min l d ∧ sub d c = true := by
  intro n
  induction n with
  | zero =>
    intro c hc hm
    refine ⟨c, ⟨hm, fun d _ hs => ?_⟩, sub_refl c⟩
    have := sub_le hs
    exact UInt8.toNat_inj.1 (by omega)
  | succ n ih =>
    intro c hc hm
    by_cases h : ∃ d, d ∈ l ∧ sub d c = true ∧ d ≠ c
    · obtain ⟨d, hd, hs, hn⟩ := h
      have h1 := sub_le hs
      have h2 : d.toNat ≠ c.toNat := fun e => hn (UInt8.toNat_inj.1 e)
      obtain ⟨e, he, hse⟩ := ih d (by omega) hd
      exact ⟨e, he, sub_trans hse hs⟩
    · refine ⟨c, ⟨hm, fun d hd hs => ?_⟩, sub_refl c⟩
      apply Classical.byContradiction
      intro hn
      exact h ⟨d, hd, hs, hn⟩

theorem leastTo_spec (l : List UInt8) : ∀ k, k ≤ 256 → (∀ c, c ∈ leastTo l k ↔ Min l c ∧ c.toNat < k) ∧ Rises (leastTo l k) := by
  intro k
  induction k with
  | zero => intro _; exact ⟨fun c => by simp [leastTo], List.Pairwise.nil⟩
  | succ k ih =>
    intro hk
    obtain ⟨hm, hr⟩ := ih (by omega)
    have hn : (UInt8.ofNat k).toNat = k := toNat_ofNat_lt (by omega)
    have key : (l.contains (UInt8.ofNat k) && !covers (leastTo l k) (UInt8.ofNat k)) = true ↔ Min l (UInt8.ofNat k) := by
      rw [Bool.and_eq_true, List.contains_iff_mem, Bool.not_eq_true']
      constructor
      · rintro ⟨h1, h2⟩
        refine ⟨h1, fun d hd hs => ?_⟩
        apply Classical.byContradiction
        intro hne
        obtain ⟨e, he, hse⟩ := min_below d.toNat d (Nat.le_refl _) hd
        have hle := sub_le hs
        have hle2 := sub_le hse
        have hlt : e.toNat < k := by
          have : d.toNat ≠ k := fun x => hne (UInt8.toNat_inj.1 (by rw [hn]; exact x))
          omega
        have : covers (leastTo l k) (UInt8.ofNat k) = true := covers_iff.2 ⟨e, (hm e).2 ⟨he, hlt⟩, sub_trans hse hs⟩
        rw [this] at h2
        cases h2
      · rintro ⟨h1, h2⟩
        refine ⟨h1, ?_⟩
        cases hc : covers (leastTo l k) (UInt8.ofNat k) with
        | false => rfl
        | true =>
          obtain ⟨e, he, hse⟩ := covers_iff.1 hc
          obtain ⟨hme, hlt⟩ := (hm e).1 he
          have := h2 e hme.1 hse
          rw [this, hn] at hlt
          omega
    unfold leastTo
    split
    · rename_i hif
      have hmin := key.1 hif
      refine ⟨fun c => ?_, ?_⟩
      · rw [List.mem_append, hm c, List.mem_singleton]
        constructor
        · rintro (⟨h1, h2⟩ | rfl)
          · exact ⟨h1, by omega⟩
          · exact ⟨hmin, by omega⟩
        · rintro ⟨h1, h2⟩
          by_cases h : c.toNat < k
          · exact .inl ⟨h1, h⟩
          · exact .inr (UInt8.toNat_inj.1 (by omega))
      · unfold Rises
        rw [List.pairwise_append]
        refine ⟨hr, List.pairwise_singleton _ _, fun a ha b hb => ?_⟩
        rw [List.mem_singleton] at hb
        rw [hb, hn]
        exact ((hm a).1 ha).2
    · rename_i hif
      refine ⟨fun c => ?_, hr⟩
      rw [hm c]
      constructor
      · rintro ⟨h1, h2⟩; exact ⟨h1, by omega⟩
      · rintro ⟨h1, h2⟩
        refine ⟨h1, ?_⟩
        apply Classical.byContradiction
        intro h
        have e : c = UInt8.ofNat k := UInt8.toNat_inj.1 (by omega)
        rw [e] at h1
        exact hif (key.2 h1)

theorem mem_least {l : List UInt8} {c : UInt8} : c ∈ least l ↔ Min l c := by
  have h := (leastTo_spec l 256 (Nat.le_refl _)).1 c
  unfold least
  rw [h]
  exact ⟨fun x => x.1, fun x => ⟨x, c.toNat_lt⟩⟩
theorem least_rises (l : List UInt8) : Rises (least l) := (leastTo_spec l 256 (Nat.le_refl _)).2

theorem Rises.ext : ∀ {l m : List UInt8}, Rises l → Rises m → (∀ c, c ∈ l ↔ c ∈ m) → l = m
  | [], [], _, _, _ => rfl
  | [], b :: m, _, _, h => by have := (h b).2 (by simp); simp at this
  | a :: l, [], _, _, h => by have := (h a).1 (by simp); simp at this
  | a :: l, b :: m, hl, hm, h => by
    unfold Rises at hl hm
    rw [List.pairwise_cons] at hl hm
    have e : a = b := by
      have h1 : a = b ∨ a ∈ m := by simpa using (h a).1 (by simp)
      have h2 : b = a ∨ b ∈ l := by simpa using (h b).2 (by simp)
      rcases h1 with h1 | h1
      · exact h1
      · rcases h2 with h2 | h2
        · exact h2.symm
        · have x := hm.1 a h1
          have y := hl.1 b h2
          omega
    subst e
    have ht : l = m := by
      refine Rises.ext hl.2 hm.2 fun c => ?_
      constructor
      · intro hc
        have := (h c).1 (by simp [hc])
        rcases List.mem_cons.1 this with rfl | h'
        · have := hl.1 _ hc; omega
        · exact h'
      · intro hc
        have := (h c).2 (by simp [hc])
        rcases List.mem_cons.1 this with rfl | h'
        · have := hm.1 _ hc; omega
        · exact h'
    rw [ht]

theorem least_ext {l m : List UInt8} (h : ∀ c, Min l c ↔ Min m c) : least l = least m :=
  Rises.ext (least_rises l) (least_rises m) fun c => by rw [mem_least, mem_least]; exact h c
theorem least_sub {l : List UInt8} {c : UInt8} (h : c ∈ least l) : c ∈ l := (mem_least.1 h).1
theorem least_below {l : List UInt8} {c : UInt8} (h : c ∈ l) : ∃ d, d ∈ least l ∧ sub d c = true := by
  obtain ⟨d, hd, hs⟩ := min_below c.toNat c (Nat.le_refl _) h
  exact ⟨d, mem_least.2 hd, hs⟩
theorem covers_least (l : List UInt8) (b : UInt8) : covers (least l) b = covers l b := by
  rw [Bool.eq_iff_iff, covers_iff, covers_iff]
  constructor
  · rintro ⟨c, hc, hs⟩; exact ⟨c, least_sub hc, hs⟩
  · rintro ⟨c, hc, hs⟩
    obtain ⟨d, hd, hsd⟩ := least_below hc
    exact ⟨d, hd, sub_trans hsd hs⟩
/-- What is least hangs on what is covered alone. -/
theorem min_iff_covers {l : List UInt8} {c : UInt8} : Min l c ↔ covers l c = true ∧ ∀ d, sub d c = true → covers l d = true → d = c := by
  constructor
  · rintro ⟨h1, h2⟩
    refine ⟨covers_iff.2 ⟨c, h1, sub_refl c⟩, fun d hs hc => ?_⟩
    obtain ⟨e, he, hse⟩ := covers_iff.1 hc
    have := h2 e he (sub_trans hse hs)
    subst this
    exact sub_antisymm hs hse
  · rintro ⟨h1, h2⟩
    obtain ⟨e, he, hse⟩ := covers_iff.1 h1
    have := h2 e hse (covers_iff.2 ⟨e, he, sub_refl e⟩)
    subst this
    exact ⟨he, fun d hd hs => h2 d hs (covers_iff.2 ⟨d, hd, sub_refl d⟩)⟩
theorem least_of_covers {l m : List UInt8} (h : ∀ b, covers l b = covers m b) : least l = least m :=
  least_ext fun c => by rw [min_iff_covers, min_iff_covers]; simp only [h]
theorem least_eq_iff {l m : List UInt8} : least l = least m ↔ ∀ b, covers l b = covers m b :=
  ⟨fun h b => by rw [← covers_least l, ← covers_least m, h], least_of_covers⟩
theorem least_least (l : List UInt8) : least (least l) = least l := least_of_covers (covers_least l)
theorem covers_append (l m : List UInt8) (b : UInt8) : covers (l ++ m) b = (covers l b || covers m b) := by simp [covers, List.any_append]
theorem covers_mono {l : List UInt8} {a b : UInt8} (h : sub a b = true) (hc : covers l a = true) : covers l b = true := by
  obtain ⟨c, hm, hs⟩ := covers_iff.1 hc
  exact covers_iff.2 ⟨c, hm, sub_trans hs h⟩

/-! formulas -/

/-- A clause's bits of principals. -/
def clip (c : UInt8) : UInt8 := c &&& 63
def norm (f : List UInt8) : List UInt8 := least (f.map clip)
def right (f : List UInt8) : Prop := norm f = f
/-- Of clauses that are clipped: does each meet x? -/
def holds (f : List UInt8) (x : UInt8) : Bool := f.all (meets · x)

theorem bit_clip (c : UInt8) (i : Nat) : bit (clip c) i = (bit c i && decide (i < 6)) := by unfold clip; rw [bit_and, bit_63]
theorem clip_clip (c : UInt8) : clip (clip c) = clip c := by
  apply bit_ext; intro i _; rw [bit_clip, bit_clip]; cases bit c i <;> simp
theorem clip_sub (c : UInt8) : sub (clip c) c = true := sub_iff.2 fun i _ h => by rw [bit_clip] at h; simp at h; exact h.1
theorem clip_mono {a b : UInt8} (h : sub a b = true) : sub (clip a) (clip b) = true := sub_iff.2 fun i hi x => by
  rw [bit_clip] at x ⊢; simp at x ⊢; exact ⟨sub_iff.1 h i hi x.1, x.2⟩
theorem clip_of_sub {a b : UInt8} (h : sub a (clip b) = true) : clip a = a := by
  apply bit_ext; intro i hi
  rw [bit_clip]
  have := sub_iff.1 h i hi
  rw [bit_clip] at this
  cases ha : bit a i <;> simp_all
theorem clip_or (a b : UInt8) : clip (a ||| b) = clip a ||| clip b := by
  apply bit_ext; intro i _; rw [bit_clip, bit_or, bit_or, bit_clip, bit_clip]
  cases bit a i <;> cases bit b i <;> simp
/-- All principals but those of c. -/
def rest (c : UInt8) : UInt8 := clip (~~~c)
theorem bit_rest (c : UInt8) (i : Nat) (h : i < 8) : bit (rest c) i = (!bit c i && decide (i < 6)) := by unfold rest; rw [bit_clip, bit_not _ _ h]
theorem clip_rest (c : UInt8) : clip (rest c) = rest c := clip_clip _
theorem rest_rest (c : UInt8) : rest (rest c) = clip c := by
  apply bit_ext; intro i hi; rw [bit_rest _ _ hi, bit_rest _ _ hi, bit_clip]; cases bit c i <;> simp
/-- A clipped clause lies in b just if it does not meet the rest. -/
theorem sub_iff_rest {c b : UInt8} (hc : clip c = c) : sub c b = !meets c (rest b) := by
  rw [Bool.eq_iff_iff, Bool.not_eq_true']
  constructor
  · intro h
    cases hm : meets c (rest b) with
    | false => rfl
    | true =>
      obtain ⟨i, hi, h1, h2⟩ := meets_iff.1 hm
      rw [bit_rest _ _ hi] at h2
      have := sub_iff.1 h i hi h1
      simp [this] at h2
  · intro h
    refine sub_iff.2 fun i hi hci => ?_
    cases hb : bit b i with
    | true => rfl
    | false =>
      have h6 : i < 6 := by
        rw [← hc, bit_clip] at hci; simp at hci; exact hci.2
      have : meets c (rest b) = true := meets_iff.2 ⟨i, hi, hci, by rw [bit_rest _ _ hi, hb]; simp [h6]⟩
      rw [this] at h; cases h
theorem meets_clip_left (c x : UInt8) : meets (clip c) x = meets c (clip x) := by
  rw [Bool.eq_iff_iff, meets_iff, meets_iff]
  constructor
  · rintro ⟨i, hi, h1, h2⟩; refine ⟨i, hi, ?_, ?_⟩ <;> rw [bit_clip] at * <;> simp_all
  · rintro ⟨i, hi, h1, h2⟩; refine ⟨i, hi, ?_, ?_⟩ <;> rw [bit_clip] at * <;> simp_all
theorem meets_clip {c : UInt8} (hc : clip c = c) (x : UInt8) : meets c (clip x) = meets c x := by
  rw [← meets_clip_left, hc]
theorem meets_mono {c x y : UInt8} (h : sub x y = true) (hm : meets c x = true) : meets c y = true := by
  obtain ⟨i, hi, h1, h2⟩ := meets_iff.1 hm
  exact meets_iff.2 ⟨i, hi, h1, sub_iff.1 h i hi h2⟩
theorem meets_sub {c d x : UInt8} (h : sub d c = true) (hm : meets d x = true) : meets c x = true := by
  obtain ⟨i, hi, h1, h2⟩ := meets_iff.1 hm
  exact meets_iff.2 ⟨i, hi, sub_iff.1 h i hi h1, h2⟩

/-- Are all clauses of f clipped? -/
def Clipped (f : List UInt8) : Prop := ∀ c, c ∈ f → clip c = c
theorem clipped_map (f : List UInt8) : Clipped (f.map clip) := by
  intro c hc
  obtain ⟨d, _, rfl⟩ := List.mem_map.1 hc
  exact clip_clip d
theorem clipped_norm (f : List UInt8) : Clipped (norm f) := fun c hc => clipped_map f c (least_sub hc)
theorem map_clip {f : List UInt8} (h : Clipped f) : f.map clip = f := by
  have : f.map clip = f.map id := List.map_congr_left h
  simpa using this
theorem norm_norm (f : List UInt8) : norm (norm f) = norm f := by
  show least ((norm f).map clip) = norm f
  rw [map_clip (clipped_norm f)]
  exact least_least _
theorem right_norm (f : List UInt8) : right (norm f) := norm_norm f
theorem right.clipped {f : List UInt8} (h : right f) : Clipped f := h ▸ clipped_norm f
/-- Does f, of whatever clauses, hold of x? -/
def sat (f : List UInt8) (x : UInt8) : Bool := holds (norm f) x
theorem holds_iff {f : List UInt8} {x : UInt8} : holds f x = true ↔ ∀ c, c ∈ f → meets c x = true := by simp [holds, List.all_eq_true]
theorem holds_least (l : List UInt8) (x : UInt8) : holds (least l) x = holds l x := by
  rw [Bool.eq_iff_iff, holds_iff, holds_iff]
  constructor
  · intro h c hc
    obtain ⟨d, hd, hs⟩ := least_below hc
    exact meets_sub hs (h d hd)
  · intro h c hc; exact h c (least_sub hc)
theorem sat_eq (f : List UInt8) (x : UInt8) : sat f x = holds (f.map clip) x := holds_least _ _
theorem sat_iff {f : List UInt8} {x : UInt8} : sat f x = true ↔ ∀ c, c ∈ f → meets (clip c) x = true := by
  rw [sat_eq, holds_iff]; simp
theorem sat_clip (f : List UInt8) (x : UInt8) : sat f (clip x) = sat f x := by
  rw [Bool.eq_iff_iff, sat_iff, sat_iff]
  constructor
  · intro h c hc; have := h c hc; rwa [meets_clip (clip_clip c)] at this
  · intro h c hc; have := h c hc; rwa [meets_clip (clip_clip c)]
theorem sat_mono {f : List UInt8} {x y : UInt8} (h : sub x y = true) (hx : sat f x = true) : sat f y = true :=
  sat_iff.2 fun c hc => meets_mono h (sat_iff.1 hx c hc)
/-- Clipped clauses cover b just if the formula fails of the rest. -/
theorem covers_holds {f : List UInt8} (h : Clipped f) (b : UInt8) : covers f b = !holds f (rest b) := by
  rw [Bool.eq_iff_iff, Bool.not_eq_true', covers_iff]
  constructor
  · rintro ⟨c, hc, hs⟩
    cases hh : holds f (rest b) with
    | false => rfl
    | true =>
      have := holds_iff.1 hh c hc
      rw [sub_iff_rest (h c hc), this] at hs
      cases hs
  · intro hh
    apply Classical.byContradiction
    intro hn
    have : holds f (rest b) = true := holds_iff.2 fun c hc => by
      cases hm : meets c (rest b) with
      | true => rfl
      | false => exact absurd ⟨c, hc, by rw [sub_iff_rest (h c hc), hm]; rfl⟩ hn
    rw [this] at hh
    cases hh
/-- **Two formulas have one norm just if they hold of the same.** -/
theorem norm_eq_iff {f g : List UInt8} : norm f = norm g ↔ ∀ x, sat f x = sat g x := by
  constructor
  · intro h x; unfold sat; rw [h]
  · intro h
    refine least_of_covers fun b => ?_
    rw [covers_holds (clipped_map f), covers_holds (clipped_map g), ← sat_eq, ← sat_eq, h]
theorem norm_eq_of {f g : List UInt8} (h : ∀ x, clip x = x → sat f x = sat g x) : norm f = norm g :=
  norm_eq_iff.2 fun x => by rw [← sat_clip f, ← sat_clip g, h _ (clip_clip x)]
theorem right_ext {f g : List UInt8} (hf : right f) (hg : right g) (h : ∀ x, sat f x = sat g x) : f = g := by
  rw [← hf, ← hg]; exact norm_eq_iff.2 h
theorem sat_norm (f : List UInt8) (x : UInt8) : sat (norm f) x = sat f x := by unfold sat; rw [norm_norm]
theorem sat_append (f g : List UInt8) (x : UInt8) : sat (f ++ g) x = (sat f x && sat g x) := by
  rw [sat_eq, sat_eq, sat_eq]; simp [holds, List.all_append]

def and (f g : List UInt8) : List UInt8 := norm (norm f ++ norm g)
theorem right_and (f g : List UInt8) : right (and f g) := right_norm _
theorem sat_and (f g : List UInt8) (x : UInt8) : sat (and f g) x = (sat f x && sat g x) := by
  unfold and; rw [sat_norm, sat_append, sat_norm, sat_norm]
/-- The unions of each of f with each of g. -/
def unions (f g : List UInt8) : List UInt8 := f.flatMap fun c => g.map fun d => c ||| d
def or (f g : List UInt8) : List UInt8 := norm (unions (norm f) (norm g))
theorem right_or (f g : List UInt8) : right (or f g) := right_norm _
theorem meets_or (a b x : UInt8) : meets (a ||| b) x = (meets a x || meets b x) := by
  rw [Bool.eq_iff_iff, Bool.or_eq_true, meets_iff, meets_iff, meets_iff]
  constructor
  · rintro ⟨i, hi, h1, h2⟩
    rw [bit_or] at h1
    cases ha : bit a i
    · exact .inr ⟨i, hi, by simpa [ha] using h1, h2⟩
    · exact .inl ⟨i, hi, ha, h2⟩
  · rintro (⟨i, hi, h1, h2⟩ | ⟨i, hi, h1, h2⟩)
    · exact ⟨i, hi, by rw [bit_or, h1]; rfl, h2⟩
    · exact ⟨i, hi, by rw [bit_or, h1]; simp, h2⟩
theorem meets_or_right (a x y : UInt8) : meets a (x ||| y) = (meets a x || meets a y) := by
  have h : ∀ p q : UInt8, meets p q = meets q p := fun p q => by
    rw [Bool.eq_iff_iff, meets_iff, meets_iff]
    exact ⟨fun ⟨i, hi, u, v⟩ => ⟨i, hi, v, u⟩, fun ⟨i, hi, u, v⟩ => ⟨i, hi, v, u⟩⟩
  rw [h a, meets_or, h x, h y]
theorem holds_unions (f g : List UInt8) (x : UInt8) : holds (unions f g) x = (holds f x || holds g x) := by
  rw [Bool.eq_iff_iff, Bool.or_eq_true, holds_iff, holds_iff, holds_iff]
  constructor
  · intro h
    apply Classical.byContradiction
    intro hn
    rw [not_or] at hn
    obtain ⟨h1, h2⟩ := hn
    simp only [Classical.not_forall] at h1 h2
    obtain ⟨c, hc, hcx⟩ := h1
    obtain ⟨d, hd, hdx⟩ := h2
    have := h (c ||| d) (List.mem_flatMap.2 ⟨c, hc, List.mem_map.2 ⟨d, hd, rfl⟩⟩)
    rw [meets_or] at this
    simp_all
  · rintro h c hc
    obtain ⟨a, ha, hc⟩ := List.mem_flatMap.1 hc
    obtain ⟨b, hb, rfl⟩ := List.mem_map.1 hc
    rw [meets_or, Bool.or_eq_true]
    rcases h with h | h
    · exact .inl (h a ha)
    · exact .inr (h b hb)
theorem clipped_unions {f g : List UInt8} (hf : Clipped f) (hg : Clipped g) : Clipped (unions f g) := by
  intro c hc
  obtain ⟨a, ha, hc⟩ := List.mem_flatMap.1 hc
  obtain ⟨b, hb, rfl⟩ := List.mem_map.1 hc
  rw [clip_or, hf a ha, hg b hb]
theorem sat_or (f g : List UInt8) (x : UInt8) : sat (or f g) x = (sat f x || sat g x) := by
  unfold or
  rw [sat_norm, sat_eq, map_clip (clipped_unions (clipped_norm f) (clipped_norm g)), holds_unions]
  rfl
def fix (f : List UInt8) (p : UInt8) : List UInt8 := (norm f).filter fun c => !meets c p
theorem sub_norm_right {f g : List UInt8} (h : List.Sublist g (norm f)) : right g := by
  have hcl : Clipped g := fun c hc => clipped_norm f c (h.subset hc)
  show least (g.map clip) = g
  rw [map_clip hcl]
  refine Rises.ext (least_rises g) ((least_rises _).sublist h) fun c => ?_
  rw [mem_least]
  constructor
  · exact fun x => x.1
  · intro hc
    refine ⟨hc, fun d hd hs => ?_⟩
    exact (mem_least.1 (h.subset hc)).2 d (least_sub (h.subset hd)) hs
theorem right_fix (f : List UInt8) (p : UInt8) : right (fix f p) := sub_norm_right List.filter_sublist
theorem sat_right {f : List UInt8} (h : right f) (x : UInt8) : sat f x = holds f x := by unfold sat; rw [h]
theorem sat_fix (f : List UInt8) (p x : UInt8) : sat (fix f p) x = sat f (x ||| p) := by
  rw [sat_right (right_fix f p)]
  unfold sat fix
  rw [Bool.eq_iff_iff, holds_iff, holds_iff]
  constructor
  · intro h c hc
    rw [meets_or_right]
    cases hm : meets c p with
    | true => simp
    | false => rw [h c (List.mem_filter.2 ⟨hc, by simp [hm]⟩)]; rfl
  · intro h c hc
    obtain ⟨hc, hp⟩ := List.mem_filter.1 hc
    have := h c hc
    rw [meets_or_right] at this
    simp at hp
    simpa [hp] using this
def implies (f g : List UInt8) : Bool := (List.range 64).all fun x => !sat f (UInt8.ofNat x) || sat g (UInt8.ofNat x)
theorem clip_lt {x : UInt8} : clip x = x ↔ x.toNat < 64 := by
  constructor
  · intro h
    have : (clip x).toNat ≤ 63 := by
      unfold clip
      rw [UInt8.toNat_and]
      exact Nat.and_le_right
    rw [h] at this; omega
  · intro h
    unfold clip
    apply UInt8.toNat_inj.1
    rw [UInt8.toNat_and]
    have : (63 : UInt8).toNat = 2 ^ 6 - 1 := rfl
    rw [this, Nat.and_two_pow_sub_one_eq_mod]
    exact Nat.mod_eq_of_lt h
theorem implies_iff {f g : List UInt8} : implies f g = true ↔ ∀ x, sat f x = true → sat g x = true := by
  unfold implies
  rw [List.all_eq_true]
  constructor
  · intro h x hx
    have hlt : (clip x).toNat < 64 := clip_lt.1 (clip_clip x)
    have := h (clip x).toNat (List.mem_range.2 hlt)
    rw [UInt8.ofNat_toNat, sat_clip, sat_clip, hx] at this
    simpa using this
  · intro h x _
    cases hx : sat f (UInt8.ofNat x) with
    | false => rfl
    | true => rw [h _ hx]; rfl
theorem sat_nil (x : UInt8) : sat [] x = true := sat_iff.2 fun c hc => by cases hc
theorem sat_false (x : UInt8) : sat [0] x = false := by
  cases h : sat [0] x with
  | false => rfl
  | true =>
    have := sat_iff.1 h 0 (by simp)
    obtain ⟨i, _, h1, _⟩ := meets_iff.1 this
    have e : clip 0 = 0 := by decide
    rw [e, bit_zero] at h1; cases h1
theorem right_nil : right [] := by unfold right norm; decide +kernel
theorem right_false : right [0] := by unfold right norm; decide +kernel
end Lz
