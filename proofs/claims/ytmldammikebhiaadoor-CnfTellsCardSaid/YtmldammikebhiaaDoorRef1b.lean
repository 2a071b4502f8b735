/- The contracts of the document's answer to chapter 1: Least, Parse. Conditions: the lengths. -/
import Derived.Test.YtmldammikebhiaaDoorRef1
namespace Go.Proofs.YtmldammikebhiaaDoor
open Go.RowKit Go.Shelf
attribute [local go_sem] str_list str_size str_app
theorem any_snoc (l : List UInt8) (c s : UInt8) : ((l ++ [c]).any fun x => x == s) = ((l.any fun x => x == s) || c == s) := by simp
theorem all_snoc (l : List UInt8) (c s : UInt8) : ((l ++ [c]).all fun x => x == s || !Lz.sub x s) = ((l.all fun x => x == s || !Lz.sub x s) && (c == s || !Lz.sub c s)) := by simp
theorem btake_succ (b : ByteArray) (j : Nat) (h : j < b.size) : b.data.toList.take (j + 1) = b.data.toList.take j ++ [b[j]] := by
  rw [List.take_succ_eq_append_getElem (by simpa using h)]; rfl
set_option maxRecDepth 100000 in
set_option maxHeartbeats 4000000 in
theorem refLeast_any (b : ByteArray) (hb : b.size ≤ 1000000) (w : World) : Calls Tryd.prog 45 #[.string b] w fun e w' => e = .returned (.string (str (Lz.least b.data.toList))) ∧ Below w.heap.size w w' := by
  have HM := Lib.hid (Lz.minTo_least b.data.toList)
  go_enter Tryd.func45, Tryd.ntmps45
  go_wp2
  go_loopw [3, 4, 5, 6, 7, 8] (fun o v _ _ _ _ wr => ∃ k : Nat, k ≤ 256 ∧ v = .int .i64 k ∧ o = .string (str (Lz.minTo b.data.toList k)) ∧ Below w.heap.size w wr) (fun _ v _ _ _ _ _ => 256 - (intOf v).toNat)
  case atStart => exact ⟨0, by omega, rfl, rfl, Below.refl _ _⟩
  case round =>
    obtain ⟨k, hk, rfl, rfl, hB⟩ := hrel
    obtain ⟨wo, rfl⟩ : ∃ wo : World, wo = wr := ⟨_, rfl⟩
    by_cases hlt : k < 256
    · have hw : IntKind.u8.wrap (k : Int) = (k : Int) := by rw [IntKind.wrap_u8]; omega
      have hdk : decide ((k : Int) < 256) = true := by rw [decide_eq_true_iff]; omega
      have hkn : (k : Int) = ((UInt8.ofNat k).toNat : Int) := by rw [Lz.toNat_ofNat_lt hlt]
      have HKN := Lib.hid hkn
      have hst : Lz.minTo b.data.toList (k + 1) = if ((b.data.toList.any fun c => c == UInt8.ofNat k) && b.data.toList.all fun c => c == UInt8.ofNat k || !Lz.sub c (UInt8.ofNat k)) then Lz.minTo b.data.toList k ++ [UInt8.ofNat k] else Lz.minTo b.data.toList k := rfl
      have HST := Lib.hid hst
      have hml := Lz.minTo_length b.data.toList k
      clear hst hkn
      generalize Lz.minTo b.data.toList k = out at HST hml ⊢
      generalize hs : UInt8.ofNat k = s at HKN HST
      clear hs
      go_wp2_with fail
      go_loop [6, 7, 8] (fun th le i => ∃ j : Nat, j ≤ b.size ∧ i = .int .i64 j ∧ th = .bool ((b.data.toList.take j).any fun c => c == s) ∧ le = .bool ((b.data.toList.take j).all fun c => c == s || !Lz.sub c s)) (fun _ _ i => b.size - (intOf i).toNat)
      case atStart => exact ⟨0, Nat.zero_le _, rfl, rfl, rfl⟩
      case round =>
        obtain ⟨j, hj, rfl, rfl, rfl⟩ := hrel
        by_cases hjt : j < b.size
        · have hts := btake_succ b j hjt
          have h1 := any_snoc (b.data.toList.take j) b[j] s
          have h2 := all_snoc (b.data.toList.take j) b[j] s
          rw [← hts] at h1 h2
          have H1 := Lib.hid h1
          have H2 := Lib.hid h2
          have HI := Lib.hid (fun W => refIn_any _ (k : Int) b[j] s rfl HKN.out W)
          have he : ((b[j].toNat : Int) == (k : Int)) = (b[j] == s) := by rw [HKN.out, toNat_beq]
          clear hts h1 h2
          generalize ((b.data.toList.take j).any fun c => c == s) = th at H1 ⊢
          generalize ((b.data.toList.take j).all fun c => c == s || !Lz.sub c s) = le at H2 ⊢
          generalize (b[j] == s) = q at H1 H2 he
          generalize Lz.sub b[j] s = u at H2 HI
          cases th <;> cases le <;> cases q <;> cases u
          all_goals
            go_wp2_with (go_at_call 58; refine (HI.out _).mono ?_; rintro e w' ⟨rfl, rfl⟩)
            go_round
            case rel => exact ⟨j + 1, by omega, by go_num, by rw [H1.out]; rfl, by rw [H2.out]; rfl⟩
            case measure => simp [intOf]; omega
        · obtain rfl : j = b.size := by omega
          have hall : b.data.toList.take b.size = b.data.toList := List.take_of_length_le (by simp)
          rw [hall]
          clear hall
          have hcv := fun W => one_byte W (k : Int) s HKN.out
          generalize (b.data.toList.any fun c => c == s) = th at HST ⊢
          generalize (b.data.toList.all fun c => c == s || !Lz.sub c s) = le at HST ⊢
          cases th <;> cases le
          all_goals
            go_wp2
            go_roundw
            case rel => exact ⟨k + 1, by omega, by go_num, by rw [HST.out]; rfl, by first | exact hB | exact hB.alloc hB.size _⟩
            case measure => simp [intOf]; omega
    · obtain rfl : k = 256 := by omega
      rw [HM.out]
      go_wp2
      go_ret
      exact ⟨rfl, hB⟩
theorem parseP_yes {t : List UInt8} (h : (parseP t).2 = true) : (parseP t).1.toNat < 64 ∧ textP (parseP t).1 = t := by
  unfold parseP at h ⊢
  by_cases h1 : t = [45]
  · subst h1; exact ⟨by decide, by decide +kernel⟩
  · rw [if_neg h1] at h ⊢
    by_cases h2 : t = []
    · rw [if_pos h2] at h; cases h
    · rw [if_neg h2] at h ⊢
      by_cases h3 : 11 < t.length
      · rw [if_pos h3] at h; cases h
      · rw [if_neg h3] at h ⊢
        by_cases h4 : scan t = 0
        · rw [if_pos h4] at h; cases h
        · rw [if_neg h4] at h ⊢
          by_cases h5 : textP (scan t) = t
          · rw [if_pos h5]
            refine ⟨?_, h5⟩
            by_cases h6 : (scan t).toNat < 64
            · exact h6
            · have : textP (scan t) = [63] := by unfold textP; rw [if_neg h6]
              rw [this] at h5
              subst h5
              exact absurd (by decide +kernel) h4
          · rw [if_neg h5] at h; cases h
theorem parseP_text (c : UInt8) (h : c.toNat < 64) : parseP (textP c) = (c, true) := by
  have := of_all64 (fun s => parseP (textP s) == (s, true)) (by decide +kernel) c h
  simpa using this
theorem parseP_no {t : List UInt8} (h : ∀ v, v < 64 → textP (UInt8.ofNat v) ≠ t) : parseP t = (0, false) := by
  cases hp : (parseP t).2 with
  | true =>
    obtain ⟨h1, h2⟩ := parseP_yes hp
    exact absurd (by rw [UInt8.ofNat_toNat]; exact h2) (h _ h1)
  | false =>
    have h1 : (parseP t).1 = 0 := by
      unfold parseP at hp ⊢
      split
      · rfl
      · split
        · rfl
        · split
          · rfl
          · split
            · rfl
            · split
              · simp_all
              · rfl
    rw [← h1, ← hp]
set_option maxRecDepth 100000 in
set_option maxHeartbeats 2000000 in
theorem refParse_any (t : List UInt8) (w : World) : Calls Tryd.prog 44 #[.string (str t)] w fun e w' => e = .returned (.tuple #[.int .u8 ((parseP t).1.toNat : Int), .bool (parseP t).2]) ∧ Below w.heap.size w w' := by
  have HN := Lib.hid fun h => parseP_no (t := t) h
  have HY := Lib.hid fun (v : Nat) (hv : v < 64) (e : textP (UInt8.ofNat v) = t) => show parseP t = (UInt8.ofNat v, true) from by rw [← e]; exact parseP_text _ (by rw [Lz.toNat_ofNat_lt (by omega)]; exact hv)
  generalize parseP t = r at HN HY ⊢
  go_enter Tryd.func44, Tryd.ntmps44
  go_wp2
  go_loopw [4] (fun v wr => ∃ k : Nat, k ≤ 64 ∧ v = .int .i64 k ∧ (∀ v, v < k → textP (UInt8.ofNat v) ≠ t) ∧ Below w.heap.size w wr) (fun v _ => 64 - (intOf v).toNat)
  case atStart => exact ⟨0, by omega, rfl, fun v h => by omega, Below.refl _ _⟩
  case round =>
    obtain ⟨k, hk, rfl, hno, hB⟩ := hrel
    have HNO := Lib.hid hno
    clear hno
    by_cases hlt : k < 64
    · have hw : IntKind.u8.wrap (k : Int) = (k : Int) := by rw [IntKind.wrap_u8]; omega
      have hkn : (k : Int) = ((UInt8.ofNat k).toNat : Int) := by rw [Lz.toNat_ofNat_lt (by omega)]
      have HT := Lib.hid (fun W => refText_any (k : Int) (UInt8.ofNat k) hkn W)
      clear hkn
      cases hq : (textP (UInt8.ofNat k) == t) with
      | true =>
        have HR := Lib.hid (HY.out k hlt (eq_of_beq hq))
        go_wp2_with fail
        refine (HT.out _).mono ?_
        rintro e w1 ⟨rfl, hb1⟩
        go_wp2
        have hkn : (k : Int) = ((UInt8.ofNat k).toNat : Int) := by rw [Lz.toNat_ofNat_lt (by omega)]
        refine bodyPost_ret (v := .tuple #[.int .u8 (k : Int), .bool true]) ?_ rfl ⟨by rw [HR.out, hkn], hB.trans (hb1.mono hB.size)⟩
        simp [results, Tryd.f44, go_sem]
      | false =>
        have hne : textP (UInt8.ofNat k) ≠ t := by simpa using hq
        have HNE := Lib.hid hne
        clear hne
        go_wp2_with fail
        refine (HT.out _).mono ?_
        rintro e w1 ⟨rfl, hb1⟩
        go_wp2
        go_roundw
        case rel => exact ⟨k + 1, by omega, by go_num, fun v hv => by
          by_cases e : v = k
          · subst e; exact HNE.out
          · exact HNO.out v (by omega), hB.trans (hb1.mono hB.size)⟩
        case measure => simp [intOf]; omega
    · obtain rfl : k = 64 := by omega
      have HR := Lib.hid (HN.out HNO.out)
      go_wp2
      refine bodyPost_ret (v := .tuple #[.int .u8 0, .bool false]) ?_ rfl ⟨by rw [HR.out]; rfl, hB⟩
      simp [results, Tryd.f44, go_sem]
end Go.Proofs.YtmldammikebhiaaDoor
