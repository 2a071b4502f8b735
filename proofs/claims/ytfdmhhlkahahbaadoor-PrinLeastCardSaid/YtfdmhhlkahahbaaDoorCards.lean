/-
  DERIVED. GIVEN WITH THE SEED: THE CARDS: each row of YtfdmhhlkahahbaaDoorRows.lean that lists a variable, with what it lists TIED to the program's text (the seventh form; the later family's looks); each row that meets fmt, with fmt's text TOLD by the authors' own Lean function (tested against real Go, not proved from fmt's source: count such statements apart). THE CARD IS WHAT COUNTS. Prove the row's statement (the work); the ties are given (YtfdmhhlkahahbaaDoorTie.lean); close each card by the builder's one call (the guide's Derived/Test/ToyasCard.lean, 'card_holds'). Laid BY PROGRAM, IN A SANDBOX (cutbox-door.mjs). By AI agents, Wed Nov 11 2026. No macro, syntax, notation, axiom, sorry.
-/
import Derived.Test.YtfdmhhlkahahbaaDoorRows
import GoSem.ClaimSeven
namespace Go.Proofs.YtfdmhhlkahahbaaDoor
namespace Rows

/-- THE TIED CARD OF 'lazarettolaw01.PrinTells'. -/
def prinTellsCard : Claim7 := { stood := { row := prinTellsRow, standIns := [], harness := (true, "dcfab32d570ec999f5b049443aaa5055dded2cbb7f9191a6d06de65ea6f03fb1"), looks := false }, kinds := [], alts := [], laidByText := true, laidKinds := [.data], laidTests := true, laidLooks := .later }
def PrinTellsCardSaid : Prop := Claim7.holds Tryd.pinned (.plain (OpenSpec.ofChange prinTellsSpec)) prinTellsCard

/-- THE TIED CARD OF 'lazarettolaw01.PrinLeast'. -/
def prinLeastCard : Claim7 := { stood := { row := prinLeastRow, standIns := [], harness := (true, "dcfab32d570ec999f5b049443aaa5055dded2cbb7f9191a6d06de65ea6f03fb1"), looks := false }, kinds := [], alts := [], laidByText := true, laidKinds := [.data], laidTests := true, laidLooks := .later }
def PrinLeastCardSaid : Prop := Claim7.holds Tryd.pinned (.plain (OpenSpec.ofChange prinLeastSpec)) prinLeastCard

/-- THE TIED CARD OF 'lazarettolaw01.PrinAgain'. -/
def prinAgainCard : Claim7 := { stood := { row := prinAgainRow, standIns := [], harness := (true, "dcfab32d570ec999f5b049443aaa5055dded2cbb7f9191a6d06de65ea6f03fb1"), looks := false }, kinds := [], alts := [], laidByText := true, laidKinds := [.data], laidTests := true, laidLooks := .later }
def PrinAgainCardSaid : Prop := Claim7.holds Tryd.pinned (.plain (OpenSpec.ofChange prinAgainSpec)) prinAgainCard

/-- THE TIED CARD OF 'lazarettolaw01.PrinIn'. -/
def prinInCard : Claim7 := { stood := { row := prinInRow, standIns := [], harness := (true, "dcfab32d570ec999f5b049443aaa5055dded2cbb7f9191a6d06de65ea6f03fb1"), looks := false }, kinds := [], alts := [], laidByText := true, laidKinds := [.data], laidTests := true, laidLooks := .later }
def PrinInCardSaid : Prop := Claim7.holds Tryd.pinned (.plain (OpenSpec.ofChange prinInSpec)) prinInCard

/-- THE TIED CARD OF 'lazarettolaw01.PrinBack'. -/
def prinBackCard : Claim7 := { stood := { row := prinBackRow, standIns := [], harness := (true, "dcfab32d570ec999f5b049443aaa5055dded2cbb7f9191a6d06de65ea6f03fb1"), looks := false }, kinds := [], alts := [], laidByText := true, laidKinds := [.data], laidTests := true, laidLooks := .later }
def PrinBackCardSaid : Prop := Claim7.holds Tryd.pinned (.plain (OpenSpec.ofChange prinBackSpec)) prinBackCard

/-- THE TIED CARD OF 'lazarettolaw01.PrinOnce'. -/
def prinOnceCard : Claim7 := { stood := { row := prinOnceRow, standIns := [], harness := (true, "dcfab32d570ec999f5b049443aaa5055dded2cbb7f9191a6d06de65ea6f03fb1"), looks := false }, kinds := [], alts := [], laidByText := true, laidKinds := [.data], laidTests := true, laidLooks := .later }
def PrinOnceCardSaid : Prop := Claim7.holds Tryd.pinned (.plain (OpenSpec.ofChange prinOnceSpec)) prinOnceCard

/-- THE SECOND FORM's CARD OF 'lazarettolaw01.PrinTells'. -/
def prinTellsUptoCard : Claim7 := { stood := { row := prinTellsUptoRow, standIns := [], harness := (true, "dcfab32d570ec999f5b049443aaa5055dded2cbb7f9191a6d06de65ea6f03fb1"), looks := false }, kinds := [], alts := [], laidByText := true, laidKinds := [.data], laidTests := true, laidLooks := .later }
def PrinTellsUptoCardSaid : Prop := Claim7.holds Tryd.pinned (.plain (OpenSpec.upto prinTellsSpec)) prinTellsUptoCard

/-- THE SECOND FORM's CARD OF 'lazarettolaw01.PrinLeast'. -/
def prinLeastUptoCard : Claim7 := { stood := { row := prinLeastUptoRow, standIns := [], harness := (true, "dcfab32d570ec999f5b049443aaa5055dded2cbb7f9191a6d06de65ea6f03fb1"), looks := false }, kinds := [], alts := [], laidByText := true, laidKinds := [.data], laidTests := true, laidLooks := .later }
def PrinLeastUptoCardSaid : Prop := Claim7.holds Tryd.pinned (.plain (OpenSpec.upto prinLeastSpec)) prinLeastUptoCard

/-- THE SECOND FORM's CARD OF 'lazarettolaw01.PrinAgain'. -/
def prinAgainUptoCard : Claim7 := { stood := { row := prinAgainUptoRow, standIns := [], harness := (true, "dcfab32d570ec999f5b049443aaa5055dded2cbb7f9191a6d06de65ea6f03fb1"), looks := false }, kinds := [], alts := [], laidByText := true, laidKinds := [.data], laidTests := true, laidLooks := .later }
def PrinAgainUptoCardSaid : Prop := Claim7.holds Tryd.pinned (.plain (OpenSpec.upto prinAgainSpec)) prinAgainUptoCard

/-- THE SECOND FORM's CARD OF 'lazarettolaw01.PrinIn'. -/
def prinInUptoCard : Claim7 := { stood := { row := prinInUptoRow, standIns := [], harness := (true, "dcfab32d570ec999f5b049443aaa5055dded2cbb7f9191a6d06de65ea6f03fb1"), looks := false }, kinds := [], alts := [], laidByText := true, laidKinds := [.data], laidTests := true, laidLooks := .later }
def PrinInUptoCardSaid : Prop := Claim7.holds Tryd.pinned (.plain (OpenSpec.upto prinInSpec)) prinInUptoCard

/-- THE SECOND FORM's CARD OF 'lazarettolaw01.PrinBack'. -/
def prinBackUptoCard : Claim7 := { stood := { row := prinBackUptoRow, standIns := [], harness := (true, "dcfab32d570ec999f5b049443aaa5055dded2cbb7f9191a6d06de65ea6f03fb1"), looks := false }, kinds := [], alts := [], laidByText := true, laidKinds := [.data], laidTests := true, laidLooks := .later }
def PrinBackUptoCardSaid : Prop := Claim7.holds Tryd.pinned (.plain (OpenSpec.upto prinBackSpec)) prinBackUptoCard

/-- THE SECOND FORM's CARD OF 'lazarettolaw01.PrinOnce'. -/
def prinOnceUptoCard : Claim7 := { stood := { row := prinOnceUptoRow, standIns := [], harness := (true, "dcfab32d570ec999f5b049443aaa5055dded2cbb7f9191a6d06de65ea6f03fb1"), looks := false }, kinds := [], alts := [], laidByText := true, laidKinds := [.data], laidTests := true, laidLooks := .later }
def PrinOnceUptoCardSaid : Prop := Claim7.holds Tryd.pinned (.plain (OpenSpec.upto prinOnceSpec)) prinOnceUptoCard
end Rows
end Go.Proofs.YtfdmhhlkahahbaaDoor
