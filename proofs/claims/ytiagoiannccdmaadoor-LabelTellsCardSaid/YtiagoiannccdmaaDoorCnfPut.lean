/- The contract of cnf.Put. Condition: the formula's length. -/
import Derived.Test.YtiagoiannccdmaaDoorCnfR
namespace Go.Proofs.YtiagoiannccdmaaDoor
open Go.RowKit Go.Shelf
attribute [local go_sem] str_list str_size
/-- What Put tells. -/
def putL (l : List UInt8) : List UInt8 := UInt8.ofNat (Lz.norm l).length :: Lz.norm l
set_option maxRecDepth 100000 in
set_option maxHeartbeats 1000000 in
theorem put_any (s : ByteArray) (hs : s.size ≤ 1000000) (w : World) :
    Calls Tryd.prog 53 #[.string s] w fun e w' => e = .returned (.string (str (putL s.data.toList))) ∧ Below w.heap.size w w' := by
  have HP := Lib.hid (show putL s.data.toList = UInt8.ofNat (Lz.norm s.data.toList).length :: Lz.norm s.data.toList from rfl)
  have la := Lz.norm_len64 s.data.toList
  go_enter Tryd.func53, Tryd.ntmps53
  go_wp2_with fail
  refine (norm_any s hs _).mono ?_
  rintro e w1 ⟨rfl, hb1⟩
  generalize Lz.norm s.data.toList = n at la HP ⊢
  have hwr : IntKind.u8.wrap (n.length : Int) = (n.length : Int) := by rw [IntKind.wrap_u8]; omega
  have hcv : (convert 77 9 (.slice (some ⟨w1.heap.size, 0, none⟩) 1 1)).run Tryd.prog (w1.alloc (.cells #[.int .u8 (n.length : Int)] 5)) = .ok (.string (str [UInt8.ofNat n.length])) (w1.alloc (.cells #[.int .u8 (n.length : Int)] 5)) := run_convert_bytes_back (P := Tryd.prog) (w1.alloc (.cells #[.int .u8 (n.length : Int)] 5)) 77 9 5 ⟨w1.heap.size, 0, none⟩ 1 [UInt8.ofNat n.length] Tryd.underlying77 Tryd.underlying5 Tryd.underlying9 (fun j hj => by
    have h0 : j = 0 := by simpa using hj
    subst h0
    have := (Boxed.new w1 5 (.int .u8 (n.length : Int))).cell
    have e : ((UInt8.ofNat n.length).toNat : Int) = (n.length : Int) := by rw [Lz.toNat_ofNat_lt (by omega)]
    simp only [List.getElem_cons_zero, e]
    exact this)
  have hap : str [UInt8.ofNat n.length] ++ str n = str (UInt8.ofNat n.length :: n) := by apply ByteArray.ext; simp [str]
  have HAP := Lib.hid hap
  clear hap
  go_wp2
  go_ret
  exact ⟨by rw [HP.out]; rfl, hb1.alloc hb1.size _⟩
end Go.Proofs.YtiagoiannccdmaaDoor
