/-
  DERIVED. GIVEN WITH THE SEED: THE CARDS: each row of YtmldammikebhiaaDoorRows.lean that lists a variable, with what it lists TIED to the program's text (the seventh form; the later family's looks); each row that meets fmt, with fmt's text TOLD by the authors' own Lean function (tested against real Go, not proved from fmt's source: count such statements apart). THE CARD IS WHAT COUNTS. Prove the row's statement (the work); the ties are given (YtmldammikebhiaaDoorTie.lean); close each card by the builder's one call (the guide's Derived/Test/ToyasCard.lean, 'card_holds'). Laid BY PROGRAM, IN A SANDBOX (cutbox-door.mjs). By AI agents, Wed Nov 11 2026. No macro, syntax, notation, axiom, sorry.
-/
import Derived.Test.YtmldammikebhiaaDoorRows
import GoSem.ClaimSeven
namespace Go.Proofs.YtmldammikebhiaaDoor
namespace Rows

/-- THE TIED CARD OF 'lazarettolaw02.CnfNorm'. -/
def cnfNormCard : Claim7 := { stood := { row := cnfNormRow, standIns := [], harness := (true, "ff197ae6933068f020e02f53d66446b01d54927a06038b56ac00883d6d56e4ef"), looks := false }, kinds := [], alts := [], laidByText := true, laidKinds := [.data, .data, .pinned], laidTests := true, laidLooks := .later }
def CnfNormCardSaid : Prop := Claim7.holds Tryd.pinned (.plain (OpenSpec.ofChange cnfNormSpec)) cnfNormCard

/-- THE TIED CARD OF 'lazarettolaw02.CnfTables'. -/
def cnfTablesCard : Claim7 := { stood := { row := cnfTablesRow, standIns := [], harness := (true, "ff197ae6933068f020e02f53d66446b01d54927a06038b56ac00883d6d56e4ef"), looks := false }, kinds := [], alts := [], laidByText := true, laidKinds := [.data, .data, .pinned], laidTests := true, laidLooks := .later }
def CnfTablesCardSaid : Prop := Claim7.holds Tryd.pinned (.plain (OpenSpec.ofChange cnfTablesSpec)) cnfTablesCard

/-- THE TIED CARD OF 'lazarettolaw02.CnfMeets'. -/
def cnfMeetsCard : Claim7 := { stood := { row := cnfMeetsRow, standIns := [], harness := (true, "ff197ae6933068f020e02f53d66446b01d54927a06038b56ac00883d6d56e4ef"), looks := false }, kinds := [], alts := [], laidByText := true, laidKinds := [.data, .data, .pinned], laidTests := true, laidLooks := .later }
def CnfMeetsCardSaid : Prop := Claim7.holds Tryd.pinned (.plain (OpenSpec.ofChange cnfMeetsSpec)) cnfMeetsCard

/-- THE TIED CARD OF 'lazarettolaw02.CnfLaws'. -/
def cnfLawsCard : Claim7 := { stood := { row := cnfLawsRow, standIns := [], harness := (true, "ff197ae6933068f020e02f53d66446b01d54927a06038b56ac00883d6d56e4ef"), looks := false }, kinds := [], alts := [], laidByText := true, laidKinds := [.data, .data, .pinned], laidTests := true, laidLooks := .later }
def CnfLawsCardSaid : Prop := Claim7.holds Tryd.pinned (.plain (OpenSpec.ofChange cnfLawsSpec)) cnfLawsCard

/-- THE TIED CARD OF 'lazarettolaw02.CnfFix'. -/
def cnfFixCard : Claim7 := { stood := { row := cnfFixRow, standIns := [], harness := (true, "ff197ae6933068f020e02f53d66446b01d54927a06038b56ac00883d6d56e4ef"), looks := false }, kinds := [], alts := [], laidByText := true, laidKinds := [.data, .data, .pinned], laidTests := true, laidLooks := .later }
def CnfFixCardSaid : Prop := Claim7.holds Tryd.pinned (.plain (OpenSpec.ofChange cnfFixSpec)) cnfFixCard

/-- THE TIED CARD OF 'lazarettolaw02.CnfTells'. -/
def cnfTellsCard : Claim7 := { stood := { row := cnfTellsRow, standIns := [], harness := (true, "ff197ae6933068f020e02f53d66446b01d54927a06038b56ac00883d6d56e4ef"), looks := false }, kinds := [], alts := [], laidByText := true, laidKinds := [.data, .data, .pinned], laidTests := true, laidLooks := .later }
def CnfTellsCardSaid : Prop := Claim7.holds Tryd.pinned (.plain (OpenSpec.ofChange cnfTellsSpec)) cnfTellsCard

/-- THE TIED CARD OF 'lazarettolaw02.CnfBack'. -/
def cnfBackCard : Claim7 := { stood := { row := cnfBackRow, standIns := [], harness := (true, "ff197ae6933068f020e02f53d66446b01d54927a06038b56ac00883d6d56e4ef"), looks := false }, kinds := [], alts := [], laidByText := true, laidKinds := [.data, .data, .pinned], laidTests := true, laidLooks := .later }
def CnfBackCardSaid : Prop := Claim7.holds Tryd.pinned (.plain (OpenSpec.ofChange cnfBackSpec)) cnfBackCard

/-- THE SECOND FORM's CARD OF 'lazarettolaw02.CnfNorm'. -/
def cnfNormUptoCard : Claim7 := { stood := { row := cnfNormUptoRow, standIns := [], harness := (true, "ff197ae6933068f020e02f53d66446b01d54927a06038b56ac00883d6d56e4ef"), looks := false }, kinds := [], alts := [], laidByText := true, laidKinds := [.data, .data, .pinned], laidTests := true, laidLooks := .later }
def CnfNormUptoCardSaid : Prop := Claim7.holds Tryd.pinned (.plain (OpenSpec.upto cnfNormSpec)) cnfNormUptoCard

/-- THE SECOND FORM's CARD OF 'lazarettolaw02.CnfTables'. -/
def cnfTablesUptoCard : Claim7 := { stood := { row := cnfTablesUptoRow, standIns := [], harness := (true, "ff197ae6933068f020e02f53d66446b01d54927a06038b56ac00883d6d56e4ef"), looks := false }, kinds := [], alts := [], laidByText := true, laidKinds := [.data, .data, .pinned], laidTests := true, laidLooks := .later }
def CnfTablesUptoCardSaid : Prop := Claim7.holds Tryd.pinned (.plain (OpenSpec.upto cnfTablesSpec)) cnfTablesUptoCard

/-- THE SECOND FORM's CARD OF 'lazarettolaw02.CnfMeets'. -/
def cnfMeetsUptoCard : Claim7 := { stood := { row := cnfMeetsUptoRow, standIns := [], harness := (true, "ff197ae6933068f020e02f53d66446b01d54927a06038b56ac00883d6d56e4ef"), looks := false }, kinds := [], alts := [], laidByText := true, laidKinds := [.data, .data, .pinned], laidTests := true, laidLooks := .later }
def CnfMeetsUptoCardSaid : Prop := Claim7.holds Tryd.pinned (.plain (OpenSpec.upto cnfMeetsSpec)) cnfMeetsUptoCard

/-- THE SECOND FORM's CARD OF 'lazarettolaw02.CnfLaws'. -/
def cnfLawsUptoCard : Claim7 := { stood := { row := cnfLawsUptoRow, standIns := [], harness := (true, "ff197ae6933068f020e02f53d66446b01d54927a06038b56ac00883d6d56e4ef"), looks := false }, kinds := [], alts := [], laidByText := true, laidKinds := [.data, .data, .pinned], laidTests := true, laidLooks := .later }
def CnfLawsUptoCardSaid : Prop := Claim7.holds Tryd.pinned (.plain (OpenSpec.upto cnfLawsSpec)) cnfLawsUptoCard

/-- THE SECOND FORM's CARD OF 'lazarettolaw02.CnfFix'. -/
def cnfFixUptoCard : Claim7 := { stood := { row := cnfFixUptoRow, standIns := [], harness := (true, "ff197ae6933068f020e02f53d66446b01d54927a06038b56ac00883d6d56e4ef"), looks := false }, kinds := [], alts := [], laidByText := true, laidKinds := [.data, .data, .pinned], laidTests := true, laidLooks := .later }
def CnfFixUptoCardSaid : Prop := Claim7.holds Tryd.pinned (.plain (OpenSpec.upto cnfFixSpec)) cnfFixUptoCard

/-- THE SECOND FORM's CARD OF 'lazarettolaw02.CnfTells'. -/
def cnfTellsUptoCard : Claim7 := { stood := { row := cnfTellsUptoRow, standIns := [], harness := (true, "ff197ae6933068f020e02f53d66446b01d54927a06038b56ac00883d6d56e4ef"), looks := false }, kinds := [], alts := [], laidByText := true, laidKinds := [.data, .data, .pinned], laidTests := true, laidLooks := .later }
def CnfTellsUptoCardSaid : Prop := Claim7.holds Tryd.pinned (.plain (OpenSpec.upto cnfTellsSpec)) cnfTellsUptoCard

/-- THE SECOND FORM's CARD OF 'lazarettolaw02.CnfBack'. -/
def cnfBackUptoCard : Claim7 := { stood := { row := cnfBackUptoRow, standIns := [], harness := (true, "ff197ae6933068f020e02f53d66446b01d54927a06038b56ac00883d6d56e4ef"), looks := false }, kinds := [], alts := [], laidByText := true, laidKinds := [.data, .data, .pinned], laidTests := true, laidLooks := .later }
def CnfBackUptoCardSaid : Prop := Claim7.holds Tryd.pinned (.plain (OpenSpec.upto cnfBackSpec)) cnfBackUptoCard
end Rows
end Go.Proofs.YtmldammikebhiaaDoor
