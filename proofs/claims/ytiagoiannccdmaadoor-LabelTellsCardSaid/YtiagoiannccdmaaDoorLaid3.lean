/- What the tied tables give where Go's own table utf8.first is listed beside the letters: the letters' six cells. -/
import Derived.Test.YtiagoiannccdmaaDoorRows
import Derived.Test.YtiagoiannccdmaaDoorText
import Derived.ProofKit
import Derived.LaidMore
import Derived.OpenShut
import Derived.Stop.Joined
import Derived.Lay
import Derived.Lib.LaidTab
namespace Go.Proofs.YtiagoiannccdmaaDoor
open Go.ChangeShapes Go.WideShapes Go.ChangeAt Go.RowKit

theorem ownKnobs : ownKnob Tryd.prog.godebug = none := by kernel_rfl
def laidL : List (String × DataW Unit) := [("unicode/utf8.acceptRanges", Rows.laid_unicode_utf8_acceptRanges), ("lazaretto/prin.letters", Rows.laid_lazaretto_prin_letters), ("unicode/utf8.first", Rows.laid_unicode_utf8_first)]
theorem gLetters : Tryd.prog.globalNamed "lazaretto/prin.letters" = some 0 := by kernel_rfl
theorem tLetters : (Tryd.prog.globals[0]?).map (·.type) = some 110 := by kernel_rfl
theorem door_met (os : Os) (args : Array Value) : laidMetH Tryd.prog laidL ((World.laidAll Tryd.prog os laidL).forCall (fun _ _ => 0) ⟨#[], args, []⟩).memory := by
  rw [MakeChecks.laidMetH_plain _ _ _ (by kernel_rfl)]
  exact laidMet_laidAll _ (by kernel_rfl) (by kernel_rfl)
theorem of_laid {W : World} (h : laidMetH Tryd.prog laidL W) : Letters W := by
  rw [MakeChecks.laidMetH_plain _ _ _ (by kernel_rfl)] at h
  obtain ⟨ps, ⟨_, _, _, _, _, _, _, _, _, _, ⟨g0, t0, cs0, f0, p0, q0, hg0, ht0, hv0, hd0, _, _⟩, _⟩, _, _⟩ := h
  obtain rfl := Option.some.inj (gLetters.symm.trans hg0)
  obtain rfl := Option.some.inj (tLetters.symm.trans ht0)
  have hcs := Lib.cells_of_tab (k := .u8) (zs := [97, 98, 99, 100, 101, 102]) Tryd.underlying110 Tryd.underlying5 (by kernel_rfl) (by kernel_rfl) hd0
  intro i hi
  have := World.var?_cell hg0 hv0 i
  rw [this]
  obtain ⟨l0⟩ := cs0
  simp only at hcs
  subst hcs
  match i, hi with
  | 0, _ => rfl
  | 1, _ => rfl
  | 2, _ => rfl
  | 3, _ => rfl
  | 4, _ => rfl
  | 5, _ => rfl
end Go.Proofs.YtiagoiannccdmaaDoor
