/-
  DERIVED. GIVEN WITH THE SEED: THE CARDS: each row of YtomehhepbeiinaaGreatDoorRows.lean that lists a variable, with what it lists TIED to the program's text (the seventh form; the later family's looks); each row that meets fmt, with fmt's text TOLD by the authors' own Lean function (tested against real Go, not proved from fmt's source: count such statements apart). THE CARD IS WHAT COUNTS. Prove the row's statement (the work); the ties are given (YtomehhepbeiinaaGreatDoorTie.lean); close each card by the builder's one call (the guide's Derived/Test/ToyasCard.lean, 'card_holds'). Laid BY PROGRAM, IN A SANDBOX (cutbox-door.mjs). By AI agents, Wed Nov 11 2026. No macro, syntax, notation, axiom, sorry.
-/
import Derived.Test.YtomehhepbeiinaaGreatDoorRows
import GoSem.ClaimSeven
namespace Go.Proofs.YtomehhepbeiinaaGreatDoor
namespace Rows

/-- THE TIED CARD OF 'lazarettotop.TopLeaks'. -/
def topLeaksCard : Claim7 := { stood := { row := topLeaksRow, standIns := [], harness := (true, "20be622d3a96ff996ce073ca97d2d587a38daa02579b49a99c99ff200e7cc1f2"), looks := true }, kinds := [], alts := [], laidByText := true, laidKinds := [.data, .data, .data, .data, .sentinel, .sentinel, .data, .data, .pinned], laidTests := true, laidLooks := .later }
def TopLeaksCardSaid : Prop := Claim7.holds Tryz.pinned (.plain (OpenSpec.ofChange topLeaksSpec)) topLeaksCard

/-- THE TIED CARD OF 'lazarettotop.TopErased'. -/
def topErasedCard : Claim7 := { stood := { row := topErasedRow, standIns := [], harness := (true, "20be622d3a96ff996ce073ca97d2d587a38daa02579b49a99c99ff200e7cc1f2"), looks := true }, kinds := [], alts := [], laidByText := true, laidKinds := [.data, .data, .data, .data, .sentinel, .sentinel, .data, .data, .data, .pinned], laidTests := true, laidLooks := .later }
def TopErasedCardSaid : Prop := Claim7.holds Tryz.pinned (.plain (OpenSpec.ofChange topErasedSpec)) topErasedCard

/-- THE TIED CARD OF 'lazarettotop.TopPriv'. -/
def topPrivCard : Claim7 := { stood := { row := topPrivRow, standIns := [], harness := (true, "20be622d3a96ff996ce073ca97d2d587a38daa02579b49a99c99ff200e7cc1f2"), looks := true }, kinds := [], alts := [], laidByText := true, laidKinds := [.data, .data, .data, .data, .sentinel, .sentinel, .data, .data, .pinned], laidTests := true, laidLooks := .later }
def TopPrivCardSaid : Prop := Claim7.holds Tryz.pinned (.plain (OpenSpec.ofChange topPrivSpec)) topPrivCard

/-- THE TIED CARD OF 'lazarettotop.TopHidden'. -/
def topHiddenCard : Claim7 := { stood := { row := topHiddenRow, standIns := [], harness := (true, "20be622d3a96ff996ce073ca97d2d587a38daa02579b49a99c99ff200e7cc1f2"), looks := true }, kinds := [], alts := [], laidByText := true, laidKinds := [.data, .data, .data, .data, .sentinel, .sentinel, .data, .data, .data, .pinned], laidTests := true, laidLooks := .later }
def TopHiddenCardSaid : Prop := Claim7.holds Tryz.pinned (.plain (OpenSpec.ofChange topHiddenSpec)) topHiddenCard

/-- THE SECOND FORM's CARD OF 'lazarettotop.TopLeaks'. -/
def topLeaksUptoCard : Claim7 := { stood := { row := topLeaksUptoRow, standIns := [], harness := (true, "20be622d3a96ff996ce073ca97d2d587a38daa02579b49a99c99ff200e7cc1f2"), looks := true }, kinds := [], alts := [], laidByText := true, laidKinds := [.data, .data, .data, .data, .sentinel, .sentinel, .data, .data, .pinned], laidTests := true, laidLooks := .later }
def TopLeaksUptoCardSaid : Prop := Claim7.holds Tryz.pinned (.plain (OpenSpec.upto topLeaksSpec)) topLeaksUptoCard

/-- THE SECOND FORM's CARD OF 'lazarettotop.TopErased'. -/
def topErasedUptoCard : Claim7 := { stood := { row := topErasedUptoRow, standIns := [], harness := (true, "20be622d3a96ff996ce073ca97d2d587a38daa02579b49a99c99ff200e7cc1f2"), looks := true }, kinds := [], alts := [], laidByText := true, laidKinds := [.data, .data, .data, .data, .sentinel, .sentinel, .data, .data, .data, .pinned], laidTests := true, laidLooks := .later }
def TopErasedUptoCardSaid : Prop := Claim7.holds Tryz.pinned (.plain (OpenSpec.upto topErasedSpec)) topErasedUptoCard

/-- THE SECOND FORM's CARD OF 'lazarettotop.TopPriv'. -/
def topPrivUptoCard : Claim7 := { stood := { row := topPrivUptoRow, standIns := [], harness := (true, "20be622d3a96ff996ce073ca97d2d587a38daa02579b49a99c99ff200e7cc1f2"), looks := true }, kinds := [], alts := [], laidByText := true, laidKinds := [.data, .data, .data, .data, .sentinel, .sentinel, .data, .data, .pinned], laidTests := true, laidLooks := .later }
def TopPrivUptoCardSaid : Prop := Claim7.holds Tryz.pinned (.plain (OpenSpec.upto topPrivSpec)) topPrivUptoCard

/-- THE SECOND FORM's CARD OF 'lazarettotop.TopHidden'. -/
def topHiddenUptoCard : Claim7 := { stood := { row := topHiddenUptoRow, standIns := [], harness := (true, "20be622d3a96ff996ce073ca97d2d587a38daa02579b49a99c99ff200e7cc1f2"), looks := true }, kinds := [], alts := [], laidByText := true, laidKinds := [.data, .data, .data, .data, .sentinel, .sentinel, .data, .data, .data, .pinned], laidTests := true, laidLooks := .later }
def TopHiddenUptoCardSaid : Prop := Claim7.holds Tryz.pinned (.plain (OpenSpec.upto topHiddenSpec)) topHiddenUptoCard
end Rows
end Go.Proofs.YtomehhepbeiinaaGreatDoor
