/-
  DERIVED. GIVEN WITH THE SEED: THE CARDS: each row of YtiagoiannccdmaaDoorRows.lean that lists a variable, with what it lists TIED to the program's text (the seventh form; the later family's looks); each row that meets fmt, with fmt's text TOLD by the authors' own Lean function (tested against real Go, not proved from fmt's source: count such statements apart). THE CARD IS WHAT COUNTS. Prove the row's statement (the work); the ties are given (YtiagoiannccdmaaDoorTie.lean); close each card by the builder's one call (the guide's Derived/Test/ToyasCard.lean, 'card_holds'). Laid BY PROGRAM, IN A SANDBOX (cutbox-door.mjs). By AI agents, Wed Nov 11 2026. No macro, syntax, notation, axiom, sorry.
-/
import Derived.Test.YtiagoiannccdmaaDoorRows
import GoSem.ClaimSeven
namespace Go.Proofs.YtiagoiannccdmaaDoor
namespace Rows

/-- THE TIED CARD OF 'lazarettolaw03.LabelOrder'. -/
def labelOrderCard : Claim7 := { stood := { row := labelOrderRow, standIns := [], harness := (true, "08b478d532e47fb37377bac143cd332a3c153e6f9f1434d461bcbf6e92898476"), looks := false }, kinds := [], alts := [], laidByText := true, laidKinds := [.data, .data, .pinned], laidTests := true, laidLooks := .later }
def LabelOrderCardSaid : Prop := Claim7.holds Tryd.pinned (.plain (OpenSpec.ofChange labelOrderSpec)) labelOrderCard

/-- THE TIED CARD OF 'lazarettolaw03.LabelJoins'. -/
def labelJoinsCard : Claim7 := { stood := { row := labelJoinsRow, standIns := [], harness := (true, "08b478d532e47fb37377bac143cd332a3c153e6f9f1434d461bcbf6e92898476"), looks := false }, kinds := [], alts := [], laidByText := true, laidKinds := [.data, .data, .pinned], laidTests := true, laidLooks := .later }
def LabelJoinsCardSaid : Prop := Claim7.holds Tryd.pinned (.plain (OpenSpec.ofChange labelJoinsSpec)) labelJoinsCard

/-- THE TIED CARD OF 'lazarettolaw03.LabelLaws'. -/
def labelLawsCard : Claim7 := { stood := { row := labelLawsRow, standIns := [], harness := (true, "08b478d532e47fb37377bac143cd332a3c153e6f9f1434d461bcbf6e92898476"), looks := false }, kinds := [], alts := [], laidByText := true, laidKinds := [.data, .data, .pinned], laidTests := true, laidLooks := .later }
def LabelLawsCardSaid : Prop := Claim7.holds Tryd.pinned (.plain (OpenSpec.ofChange labelLawsSpec)) labelLawsCard

/-- THE TIED CARD OF 'lazarettolaw03.LabelRises'. -/
def labelRisesCard : Claim7 := { stood := { row := labelRisesRow, standIns := [], harness := (true, "08b478d532e47fb37377bac143cd332a3c153e6f9f1434d461bcbf6e92898476"), looks := false }, kinds := [], alts := [], laidByText := true, laidKinds := [.data, .data, .pinned], laidTests := true, laidLooks := .later }
def LabelRisesCardSaid : Prop := Claim7.holds Tryd.pinned (.plain (OpenSpec.ofChange labelRisesSpec)) labelRisesCard

/-- THE TIED CARD OF 'lazarettolaw03.LabelTells'. -/
def labelTellsCard : Claim7 := { stood := { row := labelTellsRow, standIns := [], harness := (true, "08b478d532e47fb37377bac143cd332a3c153e6f9f1434d461bcbf6e92898476"), looks := false }, kinds := [], alts := [], laidByText := true, laidKinds := [.data, .data, .pinned], laidTests := true, laidLooks := .later }
def LabelTellsCardSaid : Prop := Claim7.holds Tryd.pinned (.plain (OpenSpec.ofChange labelTellsSpec)) labelTellsCard

/-- THE TIED CARD OF 'lazarettolaw03.LabelBack'. -/
def labelBackCard : Claim7 := { stood := { row := labelBackRow, standIns := [], harness := (true, "08b478d532e47fb37377bac143cd332a3c153e6f9f1434d461bcbf6e92898476"), looks := false }, kinds := [], alts := [], laidByText := true, laidKinds := [.data, .data, .pinned], laidTests := true, laidLooks := .later }
def LabelBackCardSaid : Prop := Claim7.holds Tryd.pinned (.plain (OpenSpec.ofChange labelBackSpec)) labelBackCard

/-- THE SECOND FORM's CARD OF 'lazarettolaw03.LabelOrder'. -/
def labelOrderUptoCard : Claim7 := { stood := { row := labelOrderUptoRow, standIns := [], harness := (true, "08b478d532e47fb37377bac143cd332a3c153e6f9f1434d461bcbf6e92898476"), looks := false }, kinds := [], alts := [], laidByText := true, laidKinds := [.data, .data, .pinned], laidTests := true, laidLooks := .later }
def LabelOrderUptoCardSaid : Prop := Claim7.holds Tryd.pinned (.plain (OpenSpec.upto labelOrderSpec)) labelOrderUptoCard

/-- THE SECOND FORM's CARD OF 'lazarettolaw03.LabelJoins'. -/
def labelJoinsUptoCard : Claim7 := { stood := { row := labelJoinsUptoRow, standIns := [], harness := (true, "08b478d532e47fb37377bac143cd332a3c153e6f9f1434d461bcbf6e92898476"), looks := false }, kinds := [], alts := [], laidByText := true, laidKinds := [.data, .data, .pinned], laidTests := true, laidLooks := .later }
def LabelJoinsUptoCardSaid : Prop := Claim7.holds Tryd.pinned (.plain (OpenSpec.upto labelJoinsSpec)) labelJoinsUptoCard

/-- THE SECOND FORM's CARD OF 'lazarettolaw03.LabelLaws'. -/
def labelLawsUptoCard : Claim7 := { stood := { row := labelLawsUptoRow, standIns := [], harness := (true, "08b478d532e47fb37377bac143cd332a3c153e6f9f1434d461bcbf6e92898476"), looks := false }, kinds := [], alts := [], laidByText := true, laidKinds := [.data, .data, .pinned], laidTests := true, laidLooks := .later }
def LabelLawsUptoCardSaid : Prop := Claim7.holds Tryd.pinned (.plain (OpenSpec.upto labelLawsSpec)) labelLawsUptoCard

/-- THE SECOND FORM's CARD OF 'lazarettolaw03.LabelRises'. -/
def labelRisesUptoCard : Claim7 := { stood := { row := labelRisesUptoRow, standIns := [], harness := (true, "08b478d532e47fb37377bac143cd332a3c153e6f9f1434d461bcbf6e92898476"), looks := false }, kinds := [], alts := [], laidByText := true, laidKinds := [.data, .data, .pinned], laidTests := true, laidLooks := .later }
def LabelRisesUptoCardSaid : Prop := Claim7.holds Tryd.pinned (.plain (OpenSpec.upto labelRisesSpec)) labelRisesUptoCard

/-- THE SECOND FORM's CARD OF 'lazarettolaw03.LabelTells'. -/
def labelTellsUptoCard : Claim7 := { stood := { row := labelTellsUptoRow, standIns := [], harness := (true, "08b478d532e47fb37377bac143cd332a3c153e6f9f1434d461bcbf6e92898476"), looks := false }, kinds := [], alts := [], laidByText := true, laidKinds := [.data, .data, .pinned], laidTests := true, laidLooks := .later }
def LabelTellsUptoCardSaid : Prop := Claim7.holds Tryd.pinned (.plain (OpenSpec.upto labelTellsSpec)) labelTellsUptoCard

/-- THE SECOND FORM's CARD OF 'lazarettolaw03.LabelBack'. -/
def labelBackUptoCard : Claim7 := { stood := { row := labelBackUptoRow, standIns := [], harness := (true, "08b478d532e47fb37377bac143cd332a3c153e6f9f1434d461bcbf6e92898476"), looks := false }, kinds := [], alts := [], laidByText := true, laidKinds := [.data, .data, .pinned], laidTests := true, laidLooks := .later }
def LabelBackUptoCardSaid : Prop := Claim7.holds Tryd.pinned (.plain (OpenSpec.upto labelBackSpec)) labelBackUptoCard
end Rows
end Go.Proofs.YtiagoiannccdmaaDoor
