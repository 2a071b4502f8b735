/- What the tied table of letters gives: its six cells. -/
import Derived.Test.YtfdmhhlkahahbaaDoorRows
import Derived.Test.YtfdmhhlkahahbaaDoorText
import Derived.ProofKit
import Derived.LaidMore
import Derived.OpenShut
import Derived.Stop.Joined
import Derived.Lib.LaidTab
namespace Go.Proofs.YtfdmhhlkahahbaaDoor
open Go.ChangeShapes Go.WideShapes Go.ChangeAt Go.RowKit

theorem ownKnobs : ownKnob Tryd.prog.godebug = none := by kernel_rfl
def laidL : List (String × DataW Unit) := [("lazaretto/prin.letters", Rows.laid_lazaretto_prin_letters)]
theorem gLetters : Tryd.prog.globalNamed "lazaretto/prin.letters" = some 0 := by kernel_rfl
theorem tLetters : (Tryd.prog.globals[0]?).map (·.type) = some 40 := by kernel_rfl
theorem door_met (os : Os) (args : Array Value) : laidMetH Tryd.prog laidL ((World.doorLaid Tryd.prog 400 os).forCall (fun _ _ => 0) ⟨#[], args, []⟩).memory :=
  laidMetH_of_parts3 (fuel := 8) (laidMet_of_run' 8 (by kernel_rfl) (by kernel_rfl)) (by kernel_rfl) (by kernel_rfl)
theorem of_laid {W : World} (h : laidMetH Tryd.prog laidL W) : Letters W := by
  rw [MakeChecks.laidMetH_plain _ _ _ (by kernel_rfl)] at h
  obtain ⟨ps, ⟨g0, t0, cs0, f0, p0, q0, hg0, ht0, hv0, hd0, _, _⟩, _, _⟩ := h
  obtain rfl := Option.some.inj (gLetters.symm.trans hg0)
  obtain rfl := Option.some.inj (tLetters.symm.trans ht0)
  have hcs := Lib.cells_of_tab (k := .u8) (zs := [97, 98, 99, 100, 101, 102]) Tryd.underlying40 Tryd.underlying5 (by kernel_rfl) (by kernel_rfl) hd0
  intro i hi
  have := World.var?_cell hg0 hv0 i
  rw [this]
  obtain ⟨l0⟩ := cs0
  simp only at hcs
  subst hcs
  match i, hi with
  | 0, _ => rfl
  | 1, _ => rfl
  | 2, _ => rfl
  | 3, _ => rfl
  | 4, _ => rfl
  | 5, _ => rfl
end Go.Proofs.YtfdmhhlkahahbaaDoor
