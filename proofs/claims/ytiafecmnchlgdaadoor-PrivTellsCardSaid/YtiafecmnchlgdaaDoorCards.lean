/-
  DERIVED. GIVEN WITH THE SEED: THE CARDS: each row of YtiafecmnchlgdaaDoorRows.lean that lists a variable, with what it lists TIED to the program's text (the seventh form; the later family's looks); each row that meets fmt, with fmt's text TOLD by the authors' own Lean function (tested against real Go, not proved from fmt's source: count such statements apart). THE CARD IS WHAT COUNTS. Prove the row's statement (the work); the ties are given (YtiafecmnchlgdaaDoorTie.lean); close each card by the builder's one call (the guide's Derived/Test/ToyasCard.lean, 'card_holds'). Laid BY PROGRAM, IN A SANDBOX (cutbox-door.mjs). By AI agents, Wed Nov 11 2026. No macro, syntax, notation, axiom, sorry.
-/
import Derived.Test.YtiafecmnchlgdaaDoorRows
import GoSem.ClaimSeven
namespace Go.Proofs.YtiafecmnchlgdaaDoor
namespace Rows

/-- THE TIED CARD OF 'lazarettolaw04.PrivTells'. -/
def privTellsCard : Claim7 := { stood := { row := privTellsRow, standIns := [], harness := (true, "63e47d6f92fd7c12b50ef75d951d12010ab7a3f5b34446c00f8c4d8c07e35884"), looks := false }, kinds := [], alts := [], laidByText := true, laidKinds := [.data, .data, .pinned], laidTests := true, laidLooks := .later }
def PrivTellsCardSaid : Prop := Claim7.holds Tryd.pinned (.plain (OpenSpec.ofChange privTellsSpec)) privTellsCard

/-- THE TIED CARD OF 'lazarettolaw04.PrivThrough'. -/
def privThroughCard : Claim7 := { stood := { row := privThroughRow, standIns := [], harness := (true, "63e47d6f92fd7c12b50ef75d951d12010ab7a3f5b34446c00f8c4d8c07e35884"), looks := false }, kinds := [], alts := [], laidByText := true, laidKinds := [.data, .data, .pinned], laidTests := true, laidLooks := .later }
def PrivThroughCardSaid : Prop := Claim7.holds Tryd.pinned (.plain (OpenSpec.ofChange privThroughSpec)) privThroughCard

/-- THE TIED CARD OF 'lazarettolaw04.PrivMore'. -/
def privMoreCard : Claim7 := { stood := { row := privMoreRow, standIns := [], harness := (true, "63e47d6f92fd7c12b50ef75d951d12010ab7a3f5b34446c00f8c4d8c07e35884"), looks := false }, kinds := [], alts := [], laidByText := true, laidKinds := [.data, .data, .pinned], laidTests := true, laidLooks := .later }
def PrivMoreCardSaid : Prop := Claim7.holds Tryd.pinned (.plain (OpenSpec.ofChange privMoreSpec)) privMoreCard

/-- THE TIED CARD OF 'lazarettolaw04.PrivNeeds'. -/
def privNeedsCard : Claim7 := { stood := { row := privNeedsRow, standIns := [], harness := (true, "63e47d6f92fd7c12b50ef75d951d12010ab7a3f5b34446c00f8c4d8c07e35884"), looks := false }, kinds := [], alts := [], laidByText := true, laidKinds := [.data, .data, .pinned], laidTests := true, laidLooks := .later }
def PrivNeedsCardSaid : Prop := Claim7.holds Tryd.pinned (.plain (OpenSpec.ofChange privNeedsSpec)) privNeedsCard

/-- THE TIED CARD OF 'lazarettolaw04.PrivDrops'. -/
def privDropsCard : Claim7 := { stood := { row := privDropsRow, standIns := [], harness := (true, "63e47d6f92fd7c12b50ef75d951d12010ab7a3f5b34446c00f8c4d8c07e35884"), looks := false }, kinds := [], alts := [], laidByText := true, laidKinds := [.data, .data, .pinned], laidTests := true, laidLooks := .later }
def PrivDropsCardSaid : Prop := Claim7.holds Tryd.pinned (.plain (OpenSpec.ofChange privDropsSpec)) privDropsCard

/-- THE TIED CARD OF 'lazarettolaw04.PrivRises'. -/
def privRisesCard : Claim7 := { stood := { row := privRisesRow, standIns := [], harness := (true, "63e47d6f92fd7c12b50ef75d951d12010ab7a3f5b34446c00f8c4d8c07e35884"), looks := false }, kinds := [], alts := [], laidByText := true, laidKinds := [.data, .data, .pinned], laidTests := true, laidLooks := .later }
def PrivRisesCardSaid : Prop := Claim7.holds Tryd.pinned (.plain (OpenSpec.ofChange privRisesSpec)) privRisesCard

/-- THE SECOND FORM's CARD OF 'lazarettolaw04.PrivTells'. -/
def privTellsUptoCard : Claim7 := { stood := { row := privTellsUptoRow, standIns := [], harness := (true, "63e47d6f92fd7c12b50ef75d951d12010ab7a3f5b34446c00f8c4d8c07e35884"), looks := false }, kinds := [], alts := [], laidByText := true, laidKinds := [.data, .data, .pinned], laidTests := true, laidLooks := .later }
def PrivTellsUptoCardSaid : Prop := Claim7.holds Tryd.pinned (.plain (OpenSpec.upto privTellsSpec)) privTellsUptoCard

/-- THE SECOND FORM's CARD OF 'lazarettolaw04.PrivThrough'. -/
def privThroughUptoCard : Claim7 := { stood := { row := privThroughUptoRow, standIns := [], harness := (true, "63e47d6f92fd7c12b50ef75d951d12010ab7a3f5b34446c00f8c4d8c07e35884"), looks := false }, kinds := [], alts := [], laidByText := true, laidKinds := [.data, .data, .pinned], laidTests := true, laidLooks := .later }
def PrivThroughUptoCardSaid : Prop := Claim7.holds Tryd.pinned (.plain (OpenSpec.upto privThroughSpec)) privThroughUptoCard

/-- THE SECOND FORM's CARD OF 'lazarettolaw04.PrivMore'. -/
def privMoreUptoCard : Claim7 := { stood := { row := privMoreUptoRow, standIns := [], harness := (true, "63e47d6f92fd7c12b50ef75d951d12010ab7a3f5b34446c00f8c4d8c07e35884"), looks := false }, kinds := [], alts := [], laidByText := true, laidKinds := [.data, .data, .pinned], laidTests := true, laidLooks := .later }
def PrivMoreUptoCardSaid : Prop := Claim7.holds Tryd.pinned (.plain (OpenSpec.upto privMoreSpec)) privMoreUptoCard

/-- THE SECOND FORM's CARD OF 'lazarettolaw04.PrivNeeds'. -/
def privNeedsUptoCard : Claim7 := { stood := { row := privNeedsUptoRow, standIns := [], harness := (true, "63e47d6f92fd7c12b50ef75d951d12010ab7a3f5b34446c00f8c4d8c07e35884"), looks := false }, kinds := [], alts := [], laidByText := true, laidKinds := [.data, .data, .pinned], laidTests := true, laidLooks := .later }
def PrivNeedsUptoCardSaid : Prop := Claim7.holds Tryd.pinned (.plain (OpenSpec.upto privNeedsSpec)) privNeedsUptoCard

/-- THE SECOND FORM's CARD OF 'lazarettolaw04.PrivDrops'. -/
def privDropsUptoCard : Claim7 := { stood := { row := privDropsUptoRow, standIns := [], harness := (true, "63e47d6f92fd7c12b50ef75d951d12010ab7a3f5b34446c00f8c4d8c07e35884"), looks := false }, kinds := [], alts := [], laidByText := true, laidKinds := [.data, .data, .pinned], laidTests := true, laidLooks := .later }
def PrivDropsUptoCardSaid : Prop := Claim7.holds Tryd.pinned (.plain (OpenSpec.upto privDropsSpec)) privDropsUptoCard

/-- THE SECOND FORM's CARD OF 'lazarettolaw04.PrivRises'. -/
def privRisesUptoCard : Claim7 := { stood := { row := privRisesUptoRow, standIns := [], harness := (true, "63e47d6f92fd7c12b50ef75d951d12010ab7a3f5b34446c00f8c4d8c07e35884"), looks := false }, kinds := [], alts := [], laidByText := true, laidKinds := [.data, .data, .pinned], laidTests := true, laidLooks := .later }
def PrivRisesUptoCardSaid : Prop := Claim7.holds Tryd.pinned (.plain (OpenSpec.upto privRisesSpec)) privRisesUptoCard
end Rows
end Go.Proofs.YtiafecmnchlgdaaDoor
