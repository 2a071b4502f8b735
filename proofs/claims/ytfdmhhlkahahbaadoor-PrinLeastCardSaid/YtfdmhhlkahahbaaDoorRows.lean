/-
  NARROWER THAN 'FOR EVERY INPUT', by the rows' own cells (each row's printed sentence says how): PrinTells: laid · PrinLeast: laid · PrinAgain: laid · PrinIn: laid · PrinBack: laid · PrinOnce: laid.
  DERIVED. THE GIVEN ROWS OF THIS SEAT. 6 by the template 'for every input the law returns true; each argument reads behind the call as it read before'; 0 by the template 'total and deterministic' (their statements: YtfdmhhlkahahbaaDoorTotals.lean).
  GIVEN WITH THE SEED: the statements are not yours to turn. If you find one false, say at which input.
  Laid BY PROGRAM, IN A SANDBOX (cutbox-rows.mjs): the forced cells as the released guide's own fill.sh prints them over the translation 0c235f54ede22d16… (all of the seat's roots in one cut). By AI agents, Wed Nov 11 2026. No macro, syntax, notation, axiom, sorry.
-/
import Derived.Test.YtfdmhhlkahahbaaDoorChecked
import GoSem.Claim
import GoSem.ClaimJoined
import GoSem.ClaimMapViews
import Derived.JoinedTies
import Derived.KernelRfl
namespace Go.Proofs.YtfdmhhlkahahbaaDoor
/- THE CELL 'sum', in the pinned program and in every row, IS THE sha256 OF THE DUMP (.gsa) THAT YtfdmhhlkahahbaaDoorProg.lean LOADS. Nothing in Lean hashes anything: it is a label: what it is worth is what the hold of that sum in a sandbox is worth. -/
noncomputable def Tryd.pinned : Pinned := { name := "ytfdmhhlkahahbaadoor", sum := "0c235f54ede22d165c4ba9bbf90a12497a6204c0ec2f9c916fbb8036a43589a5", checked := Tryd.checked }
namespace Rows
def none {H : Type} : Left H := { results := [], args := [] }

/- WHAT THE LISTED PACKAGE-LEVEL VARIABLES READ AS WHEN THE CALL BEGINS. Each datum BY PROGRAM (the guide's laid-datum.mjs) off the statement by which the dump's own 'gosem.cut.vars' lays the variable. In a bare row this is a premise. The card (YtfdmhhlkahahbaaDoorCards.lean) ties it to the program's text. -/
def laid_lazaretto_prin_letters {H : Type} : DataW H := .agg [.lit (.int .u8 97), .lit (.int .u8 98), .lit (.int .u8 99), .lit (.int .u8 100), .lit (.int .u8 101), .lit (.int .u8 102)]

/-- 'lazarettolaw01.PrinTells': WHATEVER THE INPUT: true; the input reads as it did. -/
def prinTellsSpec : ChangeSpec := { name := "prinTells", fn := fun _ => fun
  | [d1, d2, d3, d4] => { results := [.lit (.bool true)], args := [d1, d2, d3, d4] }
  | _ => none }
def prinTellsRow : OpenClaim := { program := "ytfdmhhlkahahbaadoor", sum := "0c235f54ede22d165c4ba9bbf90a12497a6204c0ec2f9c916fbb8036a43589a5", func := "lazaretto/lazarettolaw01.PrinTells", spec := "prinTells", inPlace := ["internal/bytealg.IndexByteString", "internal/abi.NoEscape"], unfollowed := true, recurses := true, named := ["lazaretto/prin.letters"], apart := false, laid := [("lazaretto/prin.letters", laid_lazaretto_prin_letters)] }
def PrinTellsSaid : Prop := prinTellsRow.holds Tryd.pinned (OpenSpec.ofChange prinTellsSpec)

/-- ITS FALSE NEIGHBOUR: 'it returns false'. Refute it at one input. -/
def prinTellsWrong : ChangeSpec := { name := "prinTells", fn := fun _ => fun
  | [d1, d2, d3, d4] => { results := [.lit (.bool false)], args := [d1, d2, d3, d4] }
  | _ => none }
def PrinTellsWrongFalsely : Prop := prinTellsRow.holds Tryd.pinned (OpenSpec.ofChange prinTellsWrong)

/-- 'lazarettolaw01.PrinLeast': WHATEVER THE INPUT: true; the input reads as it did. -/
def prinLeastSpec : ChangeSpec := { name := "prinLeast", fn := fun _ => fun
  | [d] => { results := [.lit (.bool true)], args := [d] }
  | _ => none }
def prinLeastRow : OpenClaim := { program := "ytfdmhhlkahahbaadoor", sum := "0c235f54ede22d165c4ba9bbf90a12497a6204c0ec2f9c916fbb8036a43589a5", func := "lazaretto/lazarettolaw01.PrinLeast", spec := "prinLeast", inPlace := ["internal/bytealg.IndexByteString", "internal/abi.NoEscape"], unfollowed := true, recurses := true, named := ["lazaretto/prin.letters"], apart := false, laid := [("lazaretto/prin.letters", laid_lazaretto_prin_letters)] }
def PrinLeastSaid : Prop := prinLeastRow.holds Tryd.pinned (OpenSpec.ofChange prinLeastSpec)

/-- ITS FALSE NEIGHBOUR: 'it returns false'. Refute it at one input. -/
def prinLeastWrong : ChangeSpec := { name := "prinLeast", fn := fun _ => fun
  | [d] => { results := [.lit (.bool false)], args := [d] }
  | _ => none }
def PrinLeastWrongFalsely : Prop := prinLeastRow.holds Tryd.pinned (OpenSpec.ofChange prinLeastWrong)

/-- 'lazarettolaw01.PrinAgain': WHATEVER THE INPUT: true; the input reads as it did. -/
def prinAgainSpec : ChangeSpec := { name := "prinAgain", fn := fun _ => fun
  | [d1, d2] => { results := [.lit (.bool true)], args := [d1, d2] }
  | _ => none }
def prinAgainRow : OpenClaim := { program := "ytfdmhhlkahahbaadoor", sum := "0c235f54ede22d165c4ba9bbf90a12497a6204c0ec2f9c916fbb8036a43589a5", func := "lazaretto/lazarettolaw01.PrinAgain", spec := "prinAgain", inPlace := ["internal/bytealg.IndexByteString", "internal/abi.NoEscape"], unfollowed := true, recurses := true, named := ["lazaretto/prin.letters"], apart := false, laid := [("lazaretto/prin.letters", laid_lazaretto_prin_letters)] }
def PrinAgainSaid : Prop := prinAgainRow.holds Tryd.pinned (OpenSpec.ofChange prinAgainSpec)

/-- ITS FALSE NEIGHBOUR: 'it returns false'. Refute it at one input. -/
def prinAgainWrong : ChangeSpec := { name := "prinAgain", fn := fun _ => fun
  | [d1, d2] => { results := [.lit (.bool false)], args := [d1, d2] }
  | _ => none }
def PrinAgainWrongFalsely : Prop := prinAgainRow.holds Tryd.pinned (OpenSpec.ofChange prinAgainWrong)

/-- 'lazarettolaw01.PrinIn': WHATEVER THE INPUT: true; the input reads as it did. -/
def prinInSpec : ChangeSpec := { name := "prinIn", fn := fun _ => fun
  | [d1, d2, d3] => { results := [.lit (.bool true)], args := [d1, d2, d3] }
  | _ => none }
def prinInRow : OpenClaim := { program := "ytfdmhhlkahahbaadoor", sum := "0c235f54ede22d165c4ba9bbf90a12497a6204c0ec2f9c916fbb8036a43589a5", func := "lazaretto/lazarettolaw01.PrinIn", spec := "prinIn", inPlace := ["internal/bytealg.IndexByteString", "internal/abi.NoEscape"], unfollowed := true, recurses := true, named := ["lazaretto/prin.letters"], apart := false, laid := [("lazaretto/prin.letters", laid_lazaretto_prin_letters)] }
def PrinInSaid : Prop := prinInRow.holds Tryd.pinned (OpenSpec.ofChange prinInSpec)

/-- ITS FALSE NEIGHBOUR: 'it returns false'. Refute it at one input. -/
def prinInWrong : ChangeSpec := { name := "prinIn", fn := fun _ => fun
  | [d1, d2, d3] => { results := [.lit (.bool false)], args := [d1, d2, d3] }
  | _ => none }
def PrinInWrongFalsely : Prop := prinInRow.holds Tryd.pinned (OpenSpec.ofChange prinInWrong)

/-- 'lazarettolaw01.PrinBack': WHATEVER THE INPUT: true; the input reads as it did. -/
def prinBackSpec : ChangeSpec := { name := "prinBack", fn := fun _ => fun
  | [d1, d2] => { results := [.lit (.bool true)], args := [d1, d2] }
  | _ => none }
def prinBackRow : OpenClaim := { program := "ytfdmhhlkahahbaadoor", sum := "0c235f54ede22d165c4ba9bbf90a12497a6204c0ec2f9c916fbb8036a43589a5", func := "lazaretto/lazarettolaw01.PrinBack", spec := "prinBack", inPlace := ["internal/bytealg.IndexByteString", "internal/abi.NoEscape"], unfollowed := true, recurses := true, named := ["lazaretto/prin.letters"], apart := false, laid := [("lazaretto/prin.letters", laid_lazaretto_prin_letters)] }
def PrinBackSaid : Prop := prinBackRow.holds Tryd.pinned (OpenSpec.ofChange prinBackSpec)

/-- ITS FALSE NEIGHBOUR: 'it returns false'. Refute it at one input. -/
def prinBackWrong : ChangeSpec := { name := "prinBack", fn := fun _ => fun
  | [d1, d2] => { results := [.lit (.bool false)], args := [d1, d2] }
  | _ => none }
def PrinBackWrongFalsely : Prop := prinBackRow.holds Tryd.pinned (OpenSpec.ofChange prinBackWrong)

/-- 'lazarettolaw01.PrinOnce': WHATEVER THE INPUT: true; the input reads as it did. -/
def prinOnceSpec : ChangeSpec := { name := "prinOnce", fn := fun _ => fun
  | [d] => { results := [.lit (.bool true)], args := [d] }
  | _ => none }
def prinOnceRow : OpenClaim := { program := "ytfdmhhlkahahbaadoor", sum := "0c235f54ede22d165c4ba9bbf90a12497a6204c0ec2f9c916fbb8036a43589a5", func := "lazaretto/lazarettolaw01.PrinOnce", spec := "prinOnce", inPlace := ["internal/bytealg.IndexByteString", "internal/abi.NoEscape"], unfollowed := true, recurses := true, named := ["lazaretto/prin.letters"], apart := false, laid := [("lazaretto/prin.letters", laid_lazaretto_prin_letters)] }
def PrinOnceSaid : Prop := prinOnceRow.holds Tryd.pinned (OpenSpec.ofChange prinOnceSpec)

/-- ITS FALSE NEIGHBOUR: 'it returns false'. Refute it at one input. -/
def prinOnceWrong : ChangeSpec := { name := "prinOnce", fn := fun _ => fun
  | [d] => { results := [.lit (.bool false)], args := [d] }
  | _ => none }
def PrinOnceWrongFalsely : Prop := prinOnceRow.holds Tryd.pinned (OpenSpec.ofChange prinOnceWrong)

/- THE SECOND FORM. 'bulk': how many values and letters a reading holds, each counted each time it is reached (what is shared counts as often as it is met; a slice's spare places count too). A statement '..UptoSaid' is the law's where the arguments, and the package variables that the reading takes, are together of bulk at most 1048576: NARROWER than '..Said'. Prove '..Said' where nothing that the law and all that it calls make is longer than what came in: it says more and counts as full. Else prove '..UptoSaid'. A law counts once. -/
mutual
def uptoBulk {H : Type} : DataW H → Nat
  | .lit (.string bytes) => bytes.length + 1
  | .lit _ => 1
  | .nil => 1
  | .ptr d => uptoBulk d + 1
  | .slice elems spare => uptoBulkAll elems + uptoBulkAll spare + 1
  | .agg parts => uptoBulkAll parts + 1
  | .iface _ d => uptoBulk d + 1
  | .map entries => uptoBulkEntries entries + 1
  | .held _ => 1
def uptoBulkAll {H : Type} : List (DataW H) → Nat
  | [] => 0
  | d :: r => uptoBulk d + uptoBulkAll r
def uptoBulkEntries {H : Type} : List (Lit × DataW H) → Nat
  | [] => 0
  | x :: r => uptoBulkEntry x + uptoBulkEntries r
def uptoBulkEntry {H : Type} : Lit × DataW H → Nat
  | (.string bytes, d) => bytes.length + uptoBulk d + 1
  | (_, d) => uptoBulk d + 1
 end
def uptoSmall : (H : Type) → List (DataW H) → Bool := fun _ ds => decide (uptoBulkAll ds ≤ 1048576)
def OpenSpec.upto (s : _root_.Go.ChangeSpec) : _root_.Go.OpenSpec := { _root_.Go.OpenSpec.ofChange s with cond := some uptoSmall }

/-- 'lazarettolaw01.PrinTells', WHERE WHAT IT READS IS OF BULK AT MOST 1048576: true; the input reads as it did. -/
def prinTellsUptoRow : OpenClaim := { program := "ytfdmhhlkahahbaadoor", sum := "0c235f54ede22d165c4ba9bbf90a12497a6204c0ec2f9c916fbb8036a43589a5", func := "lazaretto/lazarettolaw01.PrinTells", spec := "prinTells", inPlace := ["internal/bytealg.IndexByteString", "internal/abi.NoEscape"], unfollowed := true, recurses := true, named := ["lazaretto/prin.letters"], apart := false, laid := [("lazaretto/prin.letters", laid_lazaretto_prin_letters)], narrowed := true }
def PrinTellsUptoSaid : Prop := prinTellsUptoRow.holds Tryd.pinned (OpenSpec.upto prinTellsSpec)

/-- 'lazarettolaw01.PrinLeast', WHERE WHAT IT READS IS OF BULK AT MOST 1048576: true; the input reads as it did. -/
def prinLeastUptoRow : OpenClaim := { program := "ytfdmhhlkahahbaadoor", sum := "0c235f54ede22d165c4ba9bbf90a12497a6204c0ec2f9c916fbb8036a43589a5", func := "lazaretto/lazarettolaw01.PrinLeast", spec := "prinLeast", inPlace := ["internal/bytealg.IndexByteString", "internal/abi.NoEscape"], unfollowed := true, recurses := true, named := ["lazaretto/prin.letters"], apart := false, laid := [("lazaretto/prin.letters", laid_lazaretto_prin_letters)], narrowed := true }
def PrinLeastUptoSaid : Prop := prinLeastUptoRow.holds Tryd.pinned (OpenSpec.upto prinLeastSpec)

/-- 'lazarettolaw01.PrinAgain', WHERE WHAT IT READS IS OF BULK AT MOST 1048576: true; the input reads as it did. -/
def prinAgainUptoRow : OpenClaim := { program := "ytfdmhhlkahahbaadoor", sum := "0c235f54ede22d165c4ba9bbf90a12497a6204c0ec2f9c916fbb8036a43589a5", func := "lazaretto/lazarettolaw01.PrinAgain", spec := "prinAgain", inPlace := ["internal/bytealg.IndexByteString", "internal/abi.NoEscape"], unfollowed := true, recurses := true, named := ["lazaretto/prin.letters"], apart := false, laid := [("lazaretto/prin.letters", laid_lazaretto_prin_letters)], narrowed := true }
def PrinAgainUptoSaid : Prop := prinAgainUptoRow.holds Tryd.pinned (OpenSpec.upto prinAgainSpec)

/-- 'lazarettolaw01.PrinIn', WHERE WHAT IT READS IS OF BULK AT MOST 1048576: true; the input reads as it did. -/
def prinInUptoRow : OpenClaim := { program := "ytfdmhhlkahahbaadoor", sum := "0c235f54ede22d165c4ba9bbf90a12497a6204c0ec2f9c916fbb8036a43589a5", func := "lazaretto/lazarettolaw01.PrinIn", spec := "prinIn", inPlace := ["internal/bytealg.IndexByteString", "internal/abi.NoEscape"], unfollowed := true, recurses := true, named := ["lazaretto/prin.letters"], apart := false, laid := [("lazaretto/prin.letters", laid_lazaretto_prin_letters)], narrowed := true }
def PrinInUptoSaid : Prop := prinInUptoRow.holds Tryd.pinned (OpenSpec.upto prinInSpec)

/-- 'lazarettolaw01.PrinBack', WHERE WHAT IT READS IS OF BULK AT MOST 1048576: true; the input reads as it did. -/
def prinBackUptoRow : OpenClaim := { program := "ytfdmhhlkahahbaadoor", sum := "0c235f54ede22d165c4ba9bbf90a12497a6204c0ec2f9c916fbb8036a43589a5", func := "lazaretto/lazarettolaw01.PrinBack", spec := "prinBack", inPlace := ["internal/bytealg.IndexByteString", "internal/abi.NoEscape"], unfollowed := true, recurses := true, named := ["lazaretto/prin.letters"], apart := false, laid := [("lazaretto/prin.letters", laid_lazaretto_prin_letters)], narrowed := true }
def PrinBackUptoSaid : Prop := prinBackUptoRow.holds Tryd.pinned (OpenSpec.upto prinBackSpec)

/-- 'lazarettolaw01.PrinOnce', WHERE WHAT IT READS IS OF BULK AT MOST 1048576: true; the input reads as it did. -/
def prinOnceUptoRow : OpenClaim := { program := "ytfdmhhlkahahbaadoor", sum := "0c235f54ede22d165c4ba9bbf90a12497a6204c0ec2f9c916fbb8036a43589a5", func := "lazaretto/lazarettolaw01.PrinOnce", spec := "prinOnce", inPlace := ["internal/bytealg.IndexByteString", "internal/abi.NoEscape"], unfollowed := true, recurses := true, named := ["lazaretto/prin.letters"], apart := false, laid := [("lazaretto/prin.letters", laid_lazaretto_prin_letters)], narrowed := true }
def PrinOnceUptoSaid : Prop := prinOnceUptoRow.holds Tryd.pinned (OpenSpec.upto prinOnceSpec)

end Rows
end Go.Proofs.YtfdmhhlkahahbaaDoor
