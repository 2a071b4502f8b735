/- The contract of cnf.Get. Condition: the text's length. -/
import Derived.Test.YtiagoiannccdmaaDoorCnfR
import Derived.Deep.QuietTactic
import Derived.BigQuiet
import Derived.IntWalk
import Derived.Outline
namespace Go.Proofs.YtiagoiannccdmaaDoor
open Go.RowKit Go.Shelf
attribute [local go_sem] str_list str_size
/-- What cnf.Get tells at a place. -/
def getF (s : List UInt8) (at' : Int) : List UInt8 × Int × Bool :=
  if 0 ≤ at' ∧ at' < s.length then
    if (s.getD at'.toNat 0).toNat ≤ s.length - (at'.toNat + 1) then
      if Lz.norm ((s.drop (at'.toNat + 1)).take (s.getD at'.toNat 0).toNat) = (s.drop (at'.toNat + 1)).take (s.getD at'.toNat 0).toNat then
        ((s.drop (at'.toNat + 1)).take (s.getD at'.toNat 0).toNat, at' + 1 + (s.getD at'.toNat 0).toNat, true)
      else ([], 0, false)
    else ([], 0, false)
  else ([], 0, false)
theorem below_drewN (w : World) (n : Nat) : Below w.heap.size w (w.drewN n) := by
  refine ⟨rfl, rfl, rfl, Nat.le_refl _, fun _ _ => rfl⟩
theorem extract_mid (b : ByteArray) (a n : Nat) : b.extract a (a + n) = str ((b.data.toList.drop a).take n) := by
  apply ByteArray.ext
  rw [← Array.toList_inj]
  simp [str, List.extract]
set_option maxRecDepth 100000 in
set_option maxHeartbeats 2000000 in
theorem cnfGet_any (b : ByteArray) (hs : b.size ≤ maxLen) (at' : Int) (w : World) :
    Calls Tryd.prog 44 #[.string b, .int .i64 at'] w fun e w' => e = .returned (.tuple #[.string (str (getF b.data.toList at').1), .int .i64 (getF b.data.toList at').2.1, .bool (getF b.data.toList at').2.2]) ∧ Below w.heap.size w w' := by
  have mixed := mixedOrders
  unfold maxLen at hs
  have hlb : b.data.toList.length = b.size := by simp
  by_cases h1 : 0 ≤ at' ∧ at' < b.size
  · obtain ⟨k, rfl⟩ : ∃ k : Nat, at' = k := ⟨at'.toNat, by omega⟩
    have hk : k < b.size := by omega
    have hG : getF b.data.toList (k : Int) = if (b[k]).toNat ≤ b.size - (k + 1) then if Lz.norm ((b.data.toList.drop (k + 1)).take (b[k]).toNat) = (b.data.toList.drop (k + 1)).take (b[k]).toNat then ((b.data.toList.drop (k + 1)).take (b[k]).toNat, (k : Int) + 1 + (b[k]).toNat, true) else ([], 0, false) else ([], 0, false) := by
      unfold getF
      rw [hlb, if_pos h1, Int.toNat_natCast]
      have hg : b.data.toList.getD k 0 = b[k] := by
        rw [List.getD_eq_getElem?_getD, List.getElem?_eq_getElem (by omega)]; rfl
      rw [hg]
    have HG := Lib.hid hG
    clear hG h1 hlb
    have hx := b[k].toNat_lt
    have hw : IntKind.i64.wrap ((k : Int) + 1) = (k : Int) + 1 := IntWalk.i64_in _ (by omega)
    have h0 : (0 : Int) ≤ (k : Int) := by omega
    have h2 : (k : Int) < b.size := by omega
    by_cases hc : (b[k]).toNat ≤ b.size - (k + 1)
    · rw [if_pos hc] at HG
      have hm := extract_mid b (k + 1) (b[k]).toNat
      have HM := Lib.hid hm
      have hln : ((b.data.toList.drop (k + 1)).take (b[k]).toNat).length ≤ 256 := by rw [List.length_take]; omega
      clear hm
      have HR := Lib.hid fun W => cnfRight_any (str ((b.data.toList.drop (k + 1)).take (b[k]).toNat)) (by rw [str_size]; omega) W
      rw [lst_str] at HR
      generalize (b.data.toList.drop (k + 1)).take (b[k]).toNat = f at HG HM HR
      by_cases hf : Lz.norm f = f
      · rw [if_pos hf] at HG
        have hfb : (Lz.norm f == f) = true := by simpa using hf
        rw [hfb] at HR
        rw [HG.out]
        clear hf hfb
        go_enter Tryd.func44, Tryd.ntmps44
        go_wp2_with fail
        go_quiet (fail)
        go_wp2_with fail
        rw [HM.out]
        refine (HR.out _).mono ?_
        rintro e w1 ⟨rfl, hb1⟩
        go_wp2
        refine bodyPost_ret (v := .tuple #[.string (str f), .int .i64 ((k : Int) + 1 + (b[k]).toNat), .bool true]) ?_ rfl ⟨rfl, (below_drewN w _).trans hb1⟩
        simp [results, Tryd.f44, go_sem]
      · rw [if_neg hf] at HG
        have hfb : (Lz.norm f == f) = false := by simpa using hf
        rw [hfb] at HR
        rw [HG.out]
        clear hf hfb
        go_enter Tryd.func44, Tryd.ntmps44
        go_wp2_with fail
        go_quiet (fail)
        go_wp2_with fail
        rw [HM.out]
        refine (HR.out _).mono ?_
        rintro e w1 ⟨rfl, hb1⟩
        go_wp2
        refine bodyPost_ret (v := .tuple #[.string ⟨#[]⟩, .int .i64 0, .bool false]) ?_ rfl ⟨rfl, (below_drewN w _).trans hb1⟩
        simp [results, Tryd.f44, go_sem]
    · rw [if_neg hc] at HG
      rw [HG.out]
      go_enter Tryd.func44, Tryd.ntmps44
      go_wp2_with fail
      go_quiet (fail)
      go_wp2_with fail
      refine bodyPost_ret (v := .tuple #[.string ⟨#[]⟩, .int .i64 0, .bool false]) ?_ rfl ⟨rfl, below_drewN w _⟩
      simp [results, Tryd.f44, go_sem]
  · have hG : getF b.data.toList at' = ([], 0, false) := by
      unfold getF; rw [hlb, if_neg h1]
    rw [hG]
    clear hG hlb
    by_cases hneg : at' < 0
    · go_enter Tryd.func44, Tryd.ntmps44
      go_wp2
      refine bodyPost_ret (v := .tuple #[.string ⟨#[]⟩, .int .i64 0, .bool false]) ?_ rfl ⟨rfl, Below.refl _ _⟩
      simp [results, Tryd.f44, go_sem]
    · have hge : (b.size : Int) ≤ at' := by omega
      go_enter Tryd.func44, Tryd.ntmps44
      go_wp2
      refine bodyPost_ret (v := .tuple #[.string ⟨#[]⟩, .int .i64 0, .bool false]) ?_ rfl ⟨rfl, Below.refl _ _⟩
      simp [results, Tryd.f44, go_sem]
end Go.Proofs.YtiagoiannccdmaaDoor
