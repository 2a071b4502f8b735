/- The contract of the document's answer to chapter 2: Parse. Condition: the length. -/
import Derived.Test.YtmldammikebhiaaDoorRef2d
namespace Go.Proofs.YtmldammikebhiaaDoor
open Go.RowKit Go.Shelf
attribute [local go_sem] str_list str_size str_app
set_option maxRecDepth 100000 in
set_option maxHeartbeats 4000000 in
theorem ref2Parse_any (b : ByteArray) (hb : b.size ≤ 1000) (w : World) : Calls Tryd.prog 26 #[.string b] w fun e w' => e = .returned (.tuple #[.string (str (parseF b.data.toList).1), .bool (parseF b.data.toList).2]) ∧ Below w.heap.size w w' := by
  have hlb : b.data.toList.length = b.size := by simp
  by_cases hT : b.data.toList = [84]
  · have hb2 : b = ⟨#[84]⟩ := by apply ByteArray.ext; rw [← Array.toList_inj]; exact hT
    subst hb2
    go_enter Tryd.func26, Tryd.ntmps26
    go_wp2
    refine bodyPost_ret (v := .tuple #[.string ⟨#[]⟩, .bool true]) ?_ rfl ⟨rfl, Below.refl _ _⟩
    simp [results, Tryd.f26, go_sem]
  · by_cases hF : b.data.toList = [70]
    · have hb2 : b = ⟨#[70]⟩ := by apply ByteArray.ext; rw [← Array.toList_inj]; exact hF
      subst hb2
      go_enter Tryd.func26, Tryd.ntmps26
      go_wp2
      refine bodyPost_ret (v := .tuple #[.string ⟨#[0]⟩, .bool true]) ?_ rfl ⟨rfl, Below.refl _ _⟩
      simp [results, Tryd.f26, go_sem]
    · have h1 : (b.data.toList == [84]) = false := by simpa using hT
      have h2 : (b.data.toList == [70]) = false := by simpa using hF
      have h1t : (b.toList == [84]) = false := by rw [ByteArray.toList_eq]; exact h1
      have h2t : (b.toList == [70]) = false := by rw [ByteArray.toList_eq]; exact h2
      have HE := Lib.hid fun (ps : List (List UInt8)) (fr : Nat) (h : ReadTo b.data.toList ps fr (b.size + 1)) => refParse_all (t := b.data.toList) (by rw [hlb]; exact h) h1 h2
      have HBAD := Lib.hid fun (h : Lz.pieces 38 b.data.toList = Lz.pieces 38 b.data.toList ∧ col (Lz.pieces 38 b.data.toList) = none) => parseF_none h1 h2 h.2
      have HLB := Lib.hid hlb
      clear hT hF h1 h2 hlb
      generalize hr : parseF b.data.toList = r at HE HBAD ⊢
      clear hr
      go_enter Tryd.func26, Tryd.ntmps26
      go_wp2_with fail
      go_loopw [4, 5, 6, 7, 8] (fun f fr i _ _ wr => ∃ (k q : Nat) (ps : List (List UInt8)), k ≤ b.size + 1 ∧ q ≤ k ∧ i = .int .i64 k ∧ fr = .int .i64 q ∧ f = .string (str (clauseOf ps)) ∧ ReadTo b.data.toList ps q k ∧ Below w.heap.size w wr) (fun _ _ i _ _ _ => b.size + 1 - (intOf i).toNat)
      case atStart => exact ⟨0, 0, [], Nat.zero_le _, Nat.le_refl _, rfl, rfl, rfl, readTo_start _, Below.refl _ _⟩
      case round =>
        obtain ⟨k, q, ps, hk, hqk, rfl, rfl, rfl, hrd, hB⟩ := hrel
        have hpl : (clauseOf ps).length ≤ 1001 := by
          have := readTo_len hrd
          rw [HLB.out] at this
          rw [clauseOf_length]; omega
        have HRD := Lib.hid hrd
        clear hrd
        by_cases hlt : k < b.size + 1
        · have hkl : (k : Int) ≤ b.size := by omega
          by_cases hon : ∃ h : k < b.size, b[k] ≠ 38
          · obtain ⟨hlt2, hne⟩ := hon
            have hne2 : ¬ ((b[k].toNat : Int) = 38) := by
              intro e
              apply hne
              apply UInt8.toNat_inj.1
              show b[k].toNat = 38
              omega
            have HO := Lib.hid (readTo_on HRD.out (by rw [HLB.out]; exact hlt2) hne)
            clear hne
            go_wp2
            go_roundw
            case rel => exact ⟨k + 1, q, ps, by omega, by omega, by go_num, rfl, rfl, HO.out, hB⟩
            case measure => simp [intOf]; omega
          · have hbar : ∀ h : k < b.size, b[k] = 38 := fun h => by
              by_cases e : b[k] = 38
              · exact e
              · exact absurd ⟨h, e⟩ hon
            have HPRE := Lib.hid (readTo_prefix HRD.out (fun _ h => hbar (by rw [HLB.out] at h; exact h)) (by rw [HLB.out]; omega))
            have HX := Lib.hid (wordAt_extract b q k hqk)
            have HP := Lib.hid fun W => refParse_any (wordAt b.data.toList q k) W
            have HSN := Lib.hid (clauseOf_snoc ps (wordAt b.data.toList q k))
            have HGO := Lib.hid (show (parseP (wordAt b.data.toList q k)).2 = true → ReadTo b.data.toList (ps ++ [wordAt b.data.toList q k]) (k + 1) (k + 1) from fun h => by
              by_cases hlt2 : k < b.size
              · exact readTo_word HRD.out (by rw [HLB.out]; exact hlt2) (hbar hlt2) h
              · obtain rfl : k = b.size := by omega
                have := readTo_end (t := b.data.toList) (ps := ps) (fr := q) (by rw [HLB.out]; exact HRD.out) (by rw [HLB.out]; exact h)
                rw [HLB.out] at this
                exact this)
            have HB2 := Lib.hid (show (parseP (wordAt b.data.toList q k)).2 = false → r = ([], false) from fun h => HBAD.out ⟨by trivial, col_bad HPRE.out h⟩)
            have h8 := (parseP (wordAt b.data.toList q k)).1.toNat_lt
            generalize hps : ps ++ [wordAt b.data.toList q k] = ps2 at HSN HGO
            generalize hpr : parseP (wordAt b.data.toList q k) = pr at HP HSN HGO HB2 h8
            obtain ⟨c, ok⟩ := pr
            have hcv := fun W => one_byte W (c.toNat : Int) c rfl
            clear hps hpr
            have hq0 : (0 : Int) ≤ (q : Int) := by omega
            have hqk2 : (q : Int) ≤ (k : Int) := by omega
            generalize clauseOf ps = L at HSN hpl ⊢
            by_cases hlt2 : k < b.size
            · have he : (b[k].toNat : Int) = 38 := by rw [hbar hlt2]; rfl
              clear hbar hon
              cases ok with
              | false =>
                have HR := Lib.hid (HB2.out (by trivial))
                go_wp2_with fail
                rw [HX.out]
                refine (HP.out _).mono ?_
                rintro e w2 ⟨rfl, hb2⟩
                go_wp2
                refine bodyPost_ret (v := .tuple #[.string ⟨#[]⟩, .bool false]) ?_ rfl ⟨by rw [HR.out]; rfl, hB.trans (hb2.mono hB.size)⟩
                simp [results, Tryd.f26, go_sem]
              | true =>
                have HG := Lib.hid (HGO.out (by trivial))
                go_wp2_with fail
                rw [HX.out]
                refine (HP.out _).mono ?_
                rintro e w2 ⟨rfl, hb2⟩
                go_wp2
                go_roundw
                case rel => exact ⟨k + 1, k + 1, ps2, by omega, by omega, by go_num, by go_num, by rw [HSN.out], HG.out, (hB.trans (hb2.mono hB.size)).alloc (hB.trans (hb2.mono hB.size)).size _⟩
                case measure => simp [intOf]; omega
            · have he : (b.size : Int) ≤ (k : Int) := by omega
              have he2 : ¬ ((k : Int) < b.size) := by omega
              clear hbar hon
              cases ok with
              | false =>
                have HR := Lib.hid (HB2.out (by trivial))
                go_wp2_with fail
                rw [HX.out]
                refine (HP.out _).mono ?_
                rintro e w2 ⟨rfl, hb2⟩
                go_wp2
                refine bodyPost_ret (v := .tuple #[.string ⟨#[]⟩, .bool false]) ?_ rfl ⟨by rw [HR.out]; rfl, hB.trans (hb2.mono hB.size)⟩
                simp [results, Tryd.f26, go_sem]
              | true =>
                have HG := Lib.hid (HGO.out (by trivial))
                go_wp2_with fail
                rw [HX.out]
                refine (HP.out _).mono ?_
                rintro e w2 ⟨rfl, hb2⟩
                go_wp2
                go_roundw
                case rel => exact ⟨k + 1, k + 1, ps2, by omega, by omega, by go_num, by go_num, by rw [HSN.out], HG.out, (hB.trans (hb2.mono hB.size)).alloc (hB.trans (hb2.mono hB.size)).size _⟩
                case measure => simp [intOf]; omega
        · obtain rfl : k = b.size + 1 := by omega
          have he2 : (b.size : Int) < ((b.size + 1 : Nat) : Int) := by omega
          have HR := Lib.hid (HE.out ps q HRD.out)
          have HX := Lib.hid fun W => ref2Text_any (str (clauseOf ps)) (by rw [str_size]; omega) W
          have HY := Lib.hid fun W => ref2Right_any (str (clauseOf ps)) (by rw [str_size]; omega) W
          rw [lst_str] at HX HY
          have HBL := Lib.hid (ByteArray.toList_eq b)
          generalize clauseOf ps = F at HR HX HY hpl ⊢
          generalize textF F = X at HR HX
          cases hq : (X == b.toList) with
          | false =>
            have hqn : ¬ X = b.data.toList := by rw [← ByteArray.toList_eq]; simpa using hq
            have HR2 := Lib.hid (show r = ([], false) from by rw [HR.out, if_neg (fun h => hqn h.1)])
            clear hqn
            go_wp2_with fail
            refine (HX.out _).mono ?_
            rintro e w2 ⟨rfl, hb2⟩
            go_wp2
            refine bodyPost_ret (v := .tuple #[.string ⟨#[]⟩, .bool false]) ?_ rfl ⟨by rw [HR2.out]; rfl, hB.trans (hb2.mono hB.size)⟩
            simp [results, Tryd.f26, go_sem]
          | true =>
            have hqy : X = b.data.toList := by rw [← ByteArray.toList_eq]; exact eq_of_beq hq
            by_cases hn : Lz.norm F = F
            · have hnb : (Lz.norm F == F) = true := by simpa using hn
              rw [hnb] at HY
              have HR2 := Lib.hid (show r = (F, true) from by rw [HR.out, if_pos ⟨hqy, hn⟩])
              clear hqy hn hnb
              go_wp2_with fail
              refine (HX.out _).mono ?_
              rintro e w2 ⟨rfl, hb2⟩
              have hB2 := hB.trans (hb2.mono hB.size)
              go_wp2_with fail
              refine (HY.out _).mono ?_
              rintro e w3 ⟨rfl, hb3⟩
              go_wp2
              refine bodyPost_ret (v := .tuple #[.string (str F), .bool true]) ?_ rfl ⟨by rw [HR2.out], hB2.trans (hb3.mono hB2.size)⟩
              simp [results, Tryd.f26, go_sem]
            · have hnb : (Lz.norm F == F) = false := by simpa using hn
              rw [hnb] at HY
              have HR2 := Lib.hid (show r = ([], false) from by rw [HR.out, if_neg (fun h => hn h.2)])
              clear hqy hn hnb
              go_wp2_with fail
              refine (HX.out _).mono ?_
              rintro e w2 ⟨rfl, hb2⟩
              have hB2 := hB.trans (hb2.mono hB.size)
              go_wp2_with fail
              refine (HY.out _).mono ?_
              rintro e w3 ⟨rfl, hb3⟩
              go_wp2
              refine bodyPost_ret (v := .tuple #[.string ⟨#[]⟩, .bool false]) ?_ rfl ⟨by rw [HR2.out]; rfl, hB2.trans (hb3.mono hB2.size)⟩
              simp [results, Tryd.f26, go_sem]
end Go.Proofs.YtmldammikebhiaaDoor
