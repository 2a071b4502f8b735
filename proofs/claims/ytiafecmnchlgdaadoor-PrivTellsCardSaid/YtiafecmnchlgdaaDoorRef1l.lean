/- The contract of the document's Least. Condition: the length. -/
import Derived.Test.YtiafecmnchlgdaaDoorRef1i
namespace Go.Proofs.YtiafecmnchlgdaaDoor
open Go.RowKit Go.Shelf
attribute [local go_sem] str_list str_size str_app
theorem any_snoc (l : List UInt8) (c s : UInt8) : ((l ++ [c]).any fun x => x == s) = ((l.any fun x => x == s) || c == s) := by simp
theorem all_snoc (l : List UInt8) (c s : UInt8) : ((l ++ [c]).all fun x => x == s || !Lz.sub x s) = ((l.all fun x => x == s || !Lz.sub x s) && (c == s || !Lz.sub c s)) := by simp
theorem btake_succ (b : ByteArray) (j : Nat) (h : j < b.size) : b.data.toList.take (j + 1) = b.data.toList.take j ++ [b[j]] := by
  rw [List.take_succ_eq_append_getElem (by simpa using h)]; rfl
set_option maxRecDepth 100000 in
set_option maxHeartbeats 4000000 in
theorem refLeast_any (b : ByteArray) (hb : b.size ≤ 1000000) (w : World) : Calls Tryd.prog 39 #[.string b] w fun e w' => e = .returned (.string (str (Lz.least b.data.toList))) ∧ Below w.heap.size w w' := by
  have HM := Lib.hid (Lz.minTo_least b.data.toList)
  go_enter Tryd.func39, Tryd.ntmps39
  go_wp2
  go_loopw [3, 4, 5, 6, 7, 8] (fun o v _ _ _ _ wr => ∃ k : Nat, k ≤ 256 ∧ v = .int .i64 k ∧ o = .string (str (Lz.minTo b.data.toList k)) ∧ Below w.heap.size w wr) (fun _ v _ _ _ _ _ => 256 - (intOf v).toNat)
  case atStart => exact ⟨0, by omega, rfl, rfl, Below.refl _ _⟩
  case round =>
    obtain ⟨k, hk, rfl, rfl, hB⟩ := hrel
    obtain ⟨wo, rfl⟩ : ∃ wo : World, wo = wr := ⟨_, rfl⟩
    by_cases hlt : k < 256
    · have hw : IntKind.u8.wrap (k : Int) = (k : Int) := by rw [IntKind.wrap_u8]; omega
      have hdk : decide ((k : Int) < 256) = true := by rw [decide_eq_true_iff]; omega
      have hkn : (k : Int) = ((UInt8.ofNat k).toNat : Int) := by rw [Lz.toNat_ofNat_lt hlt]
      have HKN := Lib.hid hkn
      have hst : Lz.minTo b.data.toList (k + 1) = if ((b.data.toList.any fun c => c == UInt8.ofNat k) && b.data.toList.all fun c => c == UInt8.ofNat k || !Lz.sub c (UInt8.ofNat k)) then Lz.minTo b.data.toList k ++ [UInt8.ofNat k] else Lz.minTo b.data.toList k := rfl
      have HST := Lib.hid hst
      have hml := Lz.minTo_length b.data.toList k
      clear hst hkn
      generalize Lz.minTo b.data.toList k = out at HST hml ⊢
      generalize hs : UInt8.ofNat k = s at HKN HST
      clear hs
      go_wp2_with fail
      go_loop [6, 7, 8] (fun th le i => ∃ j : Nat, j ≤ b.size ∧ i = .int .i64 j ∧ th = .bool ((b.data.toList.take j).any fun c => c == s) ∧ le = .bool ((b.data.toList.take j).all fun c => c == s || !Lz.sub c s)) (fun _ _ i => b.size - (intOf i).toNat)
      case atStart => exact ⟨0, Nat.zero_le _, rfl, rfl, rfl⟩
      case round =>
        obtain ⟨j, hj, rfl, rfl, rfl⟩ := hrel
        by_cases hjt : j < b.size
        · have hts := btake_succ b j hjt
          have h1 := any_snoc (b.data.toList.take j) b[j] s
          have h2 := all_snoc (b.data.toList.take j) b[j] s
          rw [← hts] at h1 h2
          have H1 := Lib.hid h1
          have H2 := Lib.hid h2
          have HI := Lib.hid (fun W => refIn_any _ (k : Int) b[j] s rfl HKN.out W)
          have he : ((b[j].toNat : Int) == (k : Int)) = (b[j] == s) := by rw [HKN.out, toNat_beq]
          clear hts h1 h2
          generalize ((b.data.toList.take j).any fun c => c == s) = th at H1 ⊢
          generalize ((b.data.toList.take j).all fun c => c == s || !Lz.sub c s) = le at H2 ⊢
          generalize (b[j] == s) = q at H1 H2 he
          generalize Lz.sub b[j] s = u at H2 HI
          cases th <;> cases le <;> cases q <;> cases u
          all_goals
            go_wp2_with (go_at_call 54; refine (HI.out _).mono ?_; rintro e w' ⟨rfl, rfl⟩)
            go_round
            case rel => exact ⟨j + 1, by omega, by go_num, by rw [H1.out]; rfl, by rw [H2.out]; rfl⟩
            case measure => simp [intOf]; omega
        · obtain rfl : j = b.size := by omega
          have hall : b.data.toList.take b.size = b.data.toList := List.take_of_length_le (by simp)
          rw [hall]
          clear hall
          have hcv := fun W => one_byte W (k : Int) s HKN.out
          generalize (b.data.toList.any fun c => c == s) = th at HST ⊢
          generalize (b.data.toList.all fun c => c == s || !Lz.sub c s) = le at HST ⊢
          cases th <;> cases le
          all_goals
            go_wp2
            go_roundw
            case rel => exact ⟨k + 1, by omega, by go_num, by rw [HST.out]; rfl, by first | exact hB | exact hB.alloc hB.size _⟩
            case measure => simp [intOf]; omega
    · obtain rfl : k = 256 := by omega
      rw [HM.out]
      go_wp2
      go_ret
      exact ⟨rfl, hB⟩
end Go.Proofs.YtiafecmnchlgdaaDoor
