/-
  NARROWER THAN 'FOR EVERY INPUT', by the rows' own cells (each row's printed sentence says how): CnfNorm: laid · CnfTables: laid · CnfMeets: laid · CnfLaws: laid · CnfFix: laid · CnfTells: laid · CnfBack: laid.
  DERIVED. THE GIVEN ROWS OF THIS SEAT. 7 by the template 'for every input the law returns true; each argument reads behind the call as it read before'; 0 by the template 'total and deterministic' (their statements: YtmldammikebhiaaDoorTotals.lean).
  GIVEN WITH THE SEED: the statements are not yours to turn. If you find one false, say at which input.
  Laid BY PROGRAM, IN A SANDBOX (cutbox-rows.mjs): the forced cells as the released guide's own fill.sh prints them over the translation c2aa3b75ac8cbc0c… (all of the seat's roots in one cut). By AI agents, Wed Nov 11 2026. No macro, syntax, notation, axiom, sorry.
-/
import Derived.Test.YtmldammikebhiaaDoorChecked
import GoSem.PinnedTables
import GoSem.Claim
import GoSem.ClaimJoined
import GoSem.ClaimMapViews
import Derived.JoinedTies
import Derived.KernelRfl
namespace Go.Proofs.YtmldammikebhiaaDoor
/- THE CELL 'sum', in the pinned program and in every row, IS THE sha256 OF THE DUMP (.gsa) THAT YtmldammikebhiaaDoorProg.lean LOADS. Nothing in Lean hashes anything: it is a label: what it is worth is what the hold of that sum in a sandbox is worth. -/
noncomputable def Tryd.pinned : Pinned := { name := "ytmldammikebhiaadoor", sum := "c2aa3b75ac8cbc0cb4a75facde245e9b7ab2f6587f83039f3215c932928cc47d", checked := Tryd.checked }
namespace Rows
def none {H : Type} : Left H := { results := [], args := [] }

/- WHAT THE LISTED PACKAGE-LEVEL VARIABLES READ AS WHEN THE CALL BEGINS. Each datum BY PROGRAM (the guide's laid-datum.mjs) off the statement by which the dump's own 'gosem.cut.vars' lays the variable. In a bare row this is a premise. The card (YtmldammikebhiaaDoorCards.lean) ties it to the program's text. -/
def laid_unicode_utf8_acceptRanges {H : Type} : DataW H := .agg [.agg [.lit (.int .u8 128), .lit (.int .u8 191)], .agg [.lit (.int .u8 160), .lit (.int .u8 191)], .agg [.lit (.int .u8 128), .lit (.int .u8 159)], .agg [.lit (.int .u8 144), .lit (.int .u8 191)], .agg [.lit (.int .u8 128), .lit (.int .u8 143)], .agg [.lit (.int .u8 0), .lit (.int .u8 0)], .agg [.lit (.int .u8 0), .lit (.int .u8 0)], .agg [.lit (.int .u8 0), .lit (.int .u8 0)], .agg [.lit (.int .u8 0), .lit (.int .u8 0)], .agg [.lit (.int .u8 0), .lit (.int .u8 0)], .agg [.lit (.int .u8 0), .lit (.int .u8 0)], .agg [.lit (.int .u8 0), .lit (.int .u8 0)], .agg [.lit (.int .u8 0), .lit (.int .u8 0)], .agg [.lit (.int .u8 0), .lit (.int .u8 0)], .agg [.lit (.int .u8 0), .lit (.int .u8 0)], .agg [.lit (.int .u8 0), .lit (.int .u8 0)]]
def laid_lazaretto_prin_letters {H : Type} : DataW H := .agg [.lit (.int .u8 97), .lit (.int .u8 98), .lit (.int .u8 99), .lit (.int .u8 100), .lit (.int .u8 101), .lit (.int .u8 102)]
/-- One of Go's own tables, pinned by name: the form's constant. -/
def laid_unicode_utf8_first : DataW Unit := Go.Pinned.utf8First

/-- 'lazarettolaw02.CnfNorm': WHATEVER THE INPUT: true; the input reads as it did. -/
def cnfNormSpec : ChangeSpec := { name := "cnfNorm", fn := fun _ => fun
  | [d1, d2] => { results := [.lit (.bool true)], args := [d1, d2] }
  | _ => none }
def cnfNormRow : OpenClaim := { program := "ytmldammikebhiaadoor", sum := "c2aa3b75ac8cbc0cb4a75facde245e9b7ab2f6587f83039f3215c932928cc47d", func := "lazaretto/lazarettolaw02.CnfNorm", spec := "cnfNorm", inPlace := ["internal/bytealg.IndexByteString", "internal/bytealg.IndexString", "internal/abi.NoEscape"], unfollowed := true, recurses := true, named := ["unicode/utf8.first", "unicode/utf8.acceptRanges", "internal/bytealg.MaxLen", "lazaretto/prin.letters"], apart := false, laid := [("unicode/utf8.acceptRanges", laid_unicode_utf8_acceptRanges), ("lazaretto/prin.letters", laid_lazaretto_prin_letters), ("unicode/utf8.first", laid_unicode_utf8_first)] }
def CnfNormSaid : Prop := cnfNormRow.holds Tryd.pinned (OpenSpec.ofChange cnfNormSpec)

/-- ITS FALSE NEIGHBOUR: 'it returns false'. Refute it at one input. -/
def cnfNormWrong : ChangeSpec := { name := "cnfNorm", fn := fun _ => fun
  | [d1, d2] => { results := [.lit (.bool false)], args := [d1, d2] }
  | _ => none }
def CnfNormWrongFalsely : Prop := cnfNormRow.holds Tryd.pinned (OpenSpec.ofChange cnfNormWrong)

/-- 'lazarettolaw02.CnfTables': WHATEVER THE INPUT: true; the input reads as it did. -/
def cnfTablesSpec : ChangeSpec := { name := "cnfTables", fn := fun _ => fun
  | [d1, d2, d3] => { results := [.lit (.bool true)], args := [d1, d2, d3] }
  | _ => none }
def cnfTablesRow : OpenClaim := { program := "ytmldammikebhiaadoor", sum := "c2aa3b75ac8cbc0cb4a75facde245e9b7ab2f6587f83039f3215c932928cc47d", func := "lazaretto/lazarettolaw02.CnfTables", spec := "cnfTables", inPlace := ["internal/bytealg.IndexByteString", "internal/bytealg.IndexString", "internal/abi.NoEscape"], unfollowed := true, recurses := true, named := ["unicode/utf8.first", "unicode/utf8.acceptRanges", "internal/bytealg.MaxLen", "lazaretto/prin.letters"], apart := false, laid := [("unicode/utf8.acceptRanges", laid_unicode_utf8_acceptRanges), ("lazaretto/prin.letters", laid_lazaretto_prin_letters), ("unicode/utf8.first", laid_unicode_utf8_first)] }
def CnfTablesSaid : Prop := cnfTablesRow.holds Tryd.pinned (OpenSpec.ofChange cnfTablesSpec)

/-- ITS FALSE NEIGHBOUR: 'it returns false'. Refute it at one input. -/
def cnfTablesWrong : ChangeSpec := { name := "cnfTables", fn := fun _ => fun
  | [d1, d2, d3] => { results := [.lit (.bool false)], args := [d1, d2, d3] }
  | _ => none }
def CnfTablesWrongFalsely : Prop := cnfTablesRow.holds Tryd.pinned (OpenSpec.ofChange cnfTablesWrong)

/-- 'lazarettolaw02.CnfMeets': WHATEVER THE INPUT: true; the input reads as it did. -/
def cnfMeetsSpec : ChangeSpec := { name := "cnfMeets", fn := fun _ => fun
  | [d1, d2, d3, d4] => { results := [.lit (.bool true)], args := [d1, d2, d3, d4] }
  | _ => none }
def cnfMeetsRow : OpenClaim := { program := "ytmldammikebhiaadoor", sum := "c2aa3b75ac8cbc0cb4a75facde245e9b7ab2f6587f83039f3215c932928cc47d", func := "lazaretto/lazarettolaw02.CnfMeets", spec := "cnfMeets", inPlace := ["internal/bytealg.IndexByteString", "internal/bytealg.IndexString", "internal/abi.NoEscape"], unfollowed := true, recurses := true, named := ["unicode/utf8.first", "unicode/utf8.acceptRanges", "internal/bytealg.MaxLen", "lazaretto/prin.letters"], apart := false, laid := [("unicode/utf8.acceptRanges", laid_unicode_utf8_acceptRanges), ("lazaretto/prin.letters", laid_lazaretto_prin_letters), ("unicode/utf8.first", laid_unicode_utf8_first)] }
def CnfMeetsSaid : Prop := cnfMeetsRow.holds Tryd.pinned (OpenSpec.ofChange cnfMeetsSpec)

/-- ITS FALSE NEIGHBOUR: 'it returns false'. Refute it at one input. -/
def cnfMeetsWrong : ChangeSpec := { name := "cnfMeets", fn := fun _ => fun
  | [d1, d2, d3, d4] => { results := [.lit (.bool false)], args := [d1, d2, d3, d4] }
  | _ => none }
def CnfMeetsWrongFalsely : Prop := cnfMeetsRow.holds Tryd.pinned (OpenSpec.ofChange cnfMeetsWrong)

/-- 'lazarettolaw02.CnfLaws': WHATEVER THE INPUT: true; the input reads as it did. -/
def cnfLawsSpec : ChangeSpec := { name := "cnfLaws", fn := fun _ => fun
  | [d1, d2, d3] => { results := [.lit (.bool true)], args := [d1, d2, d3] }
  | _ => none }
def cnfLawsRow : OpenClaim := { program := "ytmldammikebhiaadoor", sum := "c2aa3b75ac8cbc0cb4a75facde245e9b7ab2f6587f83039f3215c932928cc47d", func := "lazaretto/lazarettolaw02.CnfLaws", spec := "cnfLaws", inPlace := ["internal/bytealg.IndexByteString", "internal/bytealg.IndexString", "internal/abi.NoEscape"], unfollowed := true, recurses := true, named := ["unicode/utf8.first", "unicode/utf8.acceptRanges", "internal/bytealg.MaxLen", "lazaretto/prin.letters"], apart := false, laid := [("unicode/utf8.acceptRanges", laid_unicode_utf8_acceptRanges), ("lazaretto/prin.letters", laid_lazaretto_prin_letters), ("unicode/utf8.first", laid_unicode_utf8_first)] }
def CnfLawsSaid : Prop := cnfLawsRow.holds Tryd.pinned (OpenSpec.ofChange cnfLawsSpec)

/-- ITS FALSE NEIGHBOUR: 'it returns false'. Refute it at one input. -/
def cnfLawsWrong : ChangeSpec := { name := "cnfLaws", fn := fun _ => fun
  | [d1, d2, d3] => { results := [.lit (.bool false)], args := [d1, d2, d3] }
  | _ => none }
def CnfLawsWrongFalsely : Prop := cnfLawsRow.holds Tryd.pinned (OpenSpec.ofChange cnfLawsWrong)

/-- 'lazarettolaw02.CnfFix': WHATEVER THE INPUT: true; the input reads as it did. -/
def cnfFixSpec : ChangeSpec := { name := "cnfFix", fn := fun _ => fun
  | [d1, d2, d3, d4] => { results := [.lit (.bool true)], args := [d1, d2, d3, d4] }
  | _ => none }
def cnfFixRow : OpenClaim := { program := "ytmldammikebhiaadoor", sum := "c2aa3b75ac8cbc0cb4a75facde245e9b7ab2f6587f83039f3215c932928cc47d", func := "lazaretto/lazarettolaw02.CnfFix", spec := "cnfFix", inPlace := ["internal/bytealg.IndexByteString", "internal/bytealg.IndexString", "internal/abi.NoEscape"], unfollowed := true, recurses := true, named := ["unicode/utf8.first", "unicode/utf8.acceptRanges", "internal/bytealg.MaxLen", "lazaretto/prin.letters"], apart := false, laid := [("unicode/utf8.acceptRanges", laid_unicode_utf8_acceptRanges), ("lazaretto/prin.letters", laid_lazaretto_prin_letters), ("unicode/utf8.first", laid_unicode_utf8_first)] }
def CnfFixSaid : Prop := cnfFixRow.holds Tryd.pinned (OpenSpec.ofChange cnfFixSpec)

/-- ITS FALSE NEIGHBOUR: 'it returns false'. Refute it at one input. -/
def cnfFixWrong : ChangeSpec := { name := "cnfFix", fn := fun _ => fun
  | [d1, d2, d3, d4] => { results := [.lit (.bool false)], args := [d1, d2, d3, d4] }
  | _ => none }
def CnfFixWrongFalsely : Prop := cnfFixRow.holds Tryd.pinned (OpenSpec.ofChange cnfFixWrong)

/-- 'lazarettolaw02.CnfTells': WHATEVER THE INPUT: true; the input reads as it did. -/
def cnfTellsSpec : ChangeSpec := { name := "cnfTells", fn := fun _ => fun
  | [d1, d2, d3, d4, d5, d6, d7] => { results := [.lit (.bool true)], args := [d1, d2, d3, d4, d5, d6, d7] }
  | _ => none }
def cnfTellsRow : OpenClaim := { program := "ytmldammikebhiaadoor", sum := "c2aa3b75ac8cbc0cb4a75facde245e9b7ab2f6587f83039f3215c932928cc47d", func := "lazaretto/lazarettolaw02.CnfTells", spec := "cnfTells", inPlace := ["internal/bytealg.IndexByteString", "internal/bytealg.IndexString", "internal/abi.NoEscape"], unfollowed := true, recurses := true, named := ["unicode/utf8.first", "unicode/utf8.acceptRanges", "internal/bytealg.MaxLen", "lazaretto/prin.letters"], apart := false, laid := [("unicode/utf8.acceptRanges", laid_unicode_utf8_acceptRanges), ("lazaretto/prin.letters", laid_lazaretto_prin_letters), ("unicode/utf8.first", laid_unicode_utf8_first)] }
def CnfTellsSaid : Prop := cnfTellsRow.holds Tryd.pinned (OpenSpec.ofChange cnfTellsSpec)

/-- ITS FALSE NEIGHBOUR: 'it returns false'. Refute it at one input. -/
def cnfTellsWrong : ChangeSpec := { name := "cnfTells", fn := fun _ => fun
  | [d1, d2, d3, d4, d5, d6, d7] => { results := [.lit (.bool false)], args := [d1, d2, d3, d4, d5, d6, d7] }
  | _ => none }
def CnfTellsWrongFalsely : Prop := cnfTellsRow.holds Tryd.pinned (OpenSpec.ofChange cnfTellsWrong)

/-- 'lazarettolaw02.CnfBack': WHATEVER THE INPUT: true; the input reads as it did. -/
def cnfBackSpec : ChangeSpec := { name := "cnfBack", fn := fun _ => fun
  | [d1, d2, d3, d4] => { results := [.lit (.bool true)], args := [d1, d2, d3, d4] }
  | _ => none }
def cnfBackRow : OpenClaim := { program := "ytmldammikebhiaadoor", sum := "c2aa3b75ac8cbc0cb4a75facde245e9b7ab2f6587f83039f3215c932928cc47d", func := "lazaretto/lazarettolaw02.CnfBack", spec := "cnfBack", inPlace := ["internal/bytealg.IndexByteString", "internal/bytealg.IndexString", "internal/abi.NoEscape"], unfollowed := true, recurses := true, named := ["unicode/utf8.first", "unicode/utf8.acceptRanges", "internal/bytealg.MaxLen", "lazaretto/prin.letters"], apart := false, laid := [("unicode/utf8.acceptRanges", laid_unicode_utf8_acceptRanges), ("lazaretto/prin.letters", laid_lazaretto_prin_letters), ("unicode/utf8.first", laid_unicode_utf8_first)] }
def CnfBackSaid : Prop := cnfBackRow.holds Tryd.pinned (OpenSpec.ofChange cnfBackSpec)

/-- ITS FALSE NEIGHBOUR: 'it returns false'. Refute it at one input. -/
def cnfBackWrong : ChangeSpec := { name := "cnfBack", fn := fun _ => fun
  | [d1, d2, d3, d4] => { results := [.lit (.bool false)], args := [d1, d2, d3, d4] }
  | _ => none }
def CnfBackWrongFalsely : Prop := cnfBackRow.holds Tryd.pinned (OpenSpec.ofChange cnfBackWrong)

/- THE SECOND FORM. 'bulk': how many values and letters a reading holds, each counted each time it is reached (what is shared counts as often as it is met; a slice's spare places count too). A statement '..UptoSaid' is the law's where the arguments, and the package variables that the reading takes, are together of bulk at most 1048576: NARROWER than '..Said'. Prove '..Said' where nothing that the law and all that it calls make is longer than what came in: it says more and counts as full. Else prove '..UptoSaid'. A law counts once. -/
mutual
def uptoBulk {H : Type} : DataW H → Nat
  | .lit (.string bytes) => bytes.length + 1
  | .lit _ => 1
  | .nil => 1
  | .ptr d => uptoBulk d + 1
  | .slice elems spare => uptoBulkAll elems + uptoBulkAll spare + 1
  | .agg parts => uptoBulkAll parts + 1
  | .iface _ d => uptoBulk d + 1
  | .map entries => uptoBulkEntries entries + 1
  | .held _ => 1
def uptoBulkAll {H : Type} : List (DataW H) → Nat
  | [] => 0
  | d :: r => uptoBulk d + uptoBulkAll r
def uptoBulkEntries {H : Type} : List (Lit × DataW H) → Nat
  | [] => 0
  | x :: r => uptoBulkEntry x + uptoBulkEntries r
def uptoBulkEntry {H : Type} : Lit × DataW H → Nat
  | (.string bytes, d) => bytes.length + uptoBulk d + 1
  | (_, d) => uptoBulk d + 1
 end
def uptoSmall : (H : Type) → List (DataW H) → Bool := fun _ ds => decide (uptoBulkAll ds ≤ 1048576)
def OpenSpec.upto (s : _root_.Go.ChangeSpec) : _root_.Go.OpenSpec := { _root_.Go.OpenSpec.ofChange s with cond := some uptoSmall }

/-- 'lazarettolaw02.CnfNorm', WHERE WHAT IT READS IS OF BULK AT MOST 1048576: true; the input reads as it did. -/
def cnfNormUptoRow : OpenClaim := { program := "ytmldammikebhiaadoor", sum := "c2aa3b75ac8cbc0cb4a75facde245e9b7ab2f6587f83039f3215c932928cc47d", func := "lazaretto/lazarettolaw02.CnfNorm", spec := "cnfNorm", inPlace := ["internal/bytealg.IndexByteString", "internal/bytealg.IndexString", "internal/abi.NoEscape"], unfollowed := true, recurses := true, named := ["unicode/utf8.first", "unicode/utf8.acceptRanges", "internal/bytealg.MaxLen", "lazaretto/prin.letters"], apart := false, laid := [("unicode/utf8.acceptRanges", laid_unicode_utf8_acceptRanges), ("lazaretto/prin.letters", laid_lazaretto_prin_letters), ("unicode/utf8.first", laid_unicode_utf8_first)], narrowed := true }
def CnfNormUptoSaid : Prop := cnfNormUptoRow.holds Tryd.pinned (OpenSpec.upto cnfNormSpec)

/-- 'lazarettolaw02.CnfTables', WHERE WHAT IT READS IS OF BULK AT MOST 1048576: true; the input reads as it did. -/
def cnfTablesUptoRow : OpenClaim := { program := "ytmldammikebhiaadoor", sum := "c2aa3b75ac8cbc0cb4a75facde245e9b7ab2f6587f83039f3215c932928cc47d", func := "lazaretto/lazarettolaw02.CnfTables", spec := "cnfTables", inPlace := ["internal/bytealg.IndexByteString", "internal/bytealg.IndexString", "internal/abi.NoEscape"], unfollowed := true, recurses := true, named := ["unicode/utf8.first", "unicode/utf8.acceptRanges", "internal/bytealg.MaxLen", "lazaretto/prin.letters"], apart := false, laid := [("unicode/utf8.acceptRanges", laid_unicode_utf8_acceptRanges), ("lazaretto/prin.letters", laid_lazaretto_prin_letters), ("unicode/utf8.first", laid_unicode_utf8_first)], narrowed := true }
def CnfTablesUptoSaid : Prop := cnfTablesUptoRow.holds Tryd.pinned (OpenSpec.upto cnfTablesSpec)

/-- 'lazarettolaw02.CnfMeets', WHERE WHAT IT READS IS OF BULK AT MOST 1048576: true; the input reads as it did. -/
def cnfMeetsUptoRow : OpenClaim := { program := "ytmldammikebhiaadoor", sum := "c2aa3b75ac8cbc0cb4a75facde245e9b7ab2f6587f83039f3215c932928cc47d", func := "lazaretto/lazarettolaw02.CnfMeets", spec := "cnfMeets", inPlace := ["internal/bytealg.IndexByteString", "internal/bytealg.IndexString", "internal/abi.NoEscape"], unfollowed := true, recurses := true, named := ["unicode/utf8.first", "unicode/utf8.acceptRanges", "internal/bytealg.MaxLen", "lazaretto/prin.letters"], apart := false, laid := [("unicode/utf8.acceptRanges", laid_unicode_utf8_acceptRanges), ("lazaretto/prin.letters", laid_lazaretto_prin_letters), ("unicode/utf8.first", laid_unicode_utf8_first)], narrowed := true }
def CnfMeetsUptoSaid : Prop := cnfMeetsUptoRow.holds Tryd.pinned (OpenSpec.upto cnfMeetsSpec)

/-- 'lazarettolaw02.CnfLaws', WHERE WHAT IT READS IS OF BULK AT MOST 1048576: true; the input reads as it did. -/
def cnfLawsUptoRow : OpenClaim := { program := "ytmldammikebhiaadoor", sum := "c2aa3b75ac8cbc0cb4a75facde245e9b7ab2f6587f83039f3215c932928cc47d", func := "lazaretto/lazarettolaw02.CnfLaws", spec := "cnfLaws", inPlace := ["internal/bytealg.IndexByteString", "internal/bytealg.IndexString", "internal/abi.NoEscape"], unfollowed := true, recurses := true, named := ["unicode/utf8.first", "unicode/utf8.acceptRanges", "internal/bytealg.MaxLen", "lazaretto/prin.letters"], apart := false, laid := [("unicode/utf8.acceptRanges", laid_unicode_utf8_acceptRanges), ("lazaretto/prin.letters", laid_lazaretto_prin_letters), ("unicode/utf8.first", laid_unicode_utf8_first)], narrowed := true }
def CnfLawsUptoSaid : Prop := cnfLawsUptoRow.holds Tryd.pinned (OpenSpec.upto cnfLawsSpec)

/-- 'lazarettolaw02.CnfFix', WHERE WHAT IT READS IS OF BULK AT MOST 1048576: true; the input reads as it did. -/
def cnfFixUptoRow : OpenClaim := { program := "ytmldammikebhiaadoor", sum := "c2aa3b75ac8cbc0cb4a75facde245e9b7ab2f6587f83039f3215c932928cc47d", func := "lazaretto/lazarettolaw02.CnfFix", spec := "cnfFix", inPlace := ["internal/bytealg.IndexByteString", "internal/bytealg.IndexString", "internal/abi.NoEscape"], unfollowed := true, recurses := true, named := ["unicode/utf8.first", "unicode/utf8.acceptRanges", "internal/bytealg.MaxLen", "lazaretto/prin.letters"], apart := false, laid := [("unicode/utf8.acceptRanges", laid_unicode_utf8_acceptRanges), ("lazaretto/prin.letters", laid_lazaretto_prin_letters), ("unicode/utf8.first", laid_unicode_utf8_first)], narrowed := true }
def CnfFixUptoSaid : Prop := cnfFixUptoRow.holds Tryd.pinned (OpenSpec.upto cnfFixSpec)

/-- 'lazarettolaw02.CnfTells', WHERE WHAT IT READS IS OF BULK AT MOST 1048576: true; the input reads as it did. -/
def cnfTellsUptoRow : OpenClaim := { program := "ytmldammikebhiaadoor", sum := "c2aa3b75ac8cbc0cb4a75facde245e9b7ab2f6587f83039f3215c932928cc47d", func := "lazaretto/lazarettolaw02.CnfTells", spec := "cnfTells", inPlace := ["internal/bytealg.IndexByteString", "internal/bytealg.IndexString", "internal/abi.NoEscape"], unfollowed := true, recurses := true, named := ["unicode/utf8.first", "unicode/utf8.acceptRanges", "internal/bytealg.MaxLen", "lazaretto/prin.letters"], apart := false, laid := [("unicode/utf8.acceptRanges", laid_unicode_utf8_acceptRanges), ("lazaretto/prin.letters", laid_lazaretto_prin_letters), ("unicode/utf8.first", laid_unicode_utf8_first)], narrowed := true }
def CnfTellsUptoSaid : Prop := cnfTellsUptoRow.holds Tryd.pinned (OpenSpec.upto cnfTellsSpec)

/-- 'lazarettolaw02.CnfBack', WHERE WHAT IT READS IS OF BULK AT MOST 1048576: true; the input reads as it did. -/
def cnfBackUptoRow : OpenClaim := { program := "ytmldammikebhiaadoor", sum := "c2aa3b75ac8cbc0cb4a75facde245e9b7ab2f6587f83039f3215c932928cc47d", func := "lazaretto/lazarettolaw02.CnfBack", spec := "cnfBack", inPlace := ["internal/bytealg.IndexByteString", "internal/bytealg.IndexString", "internal/abi.NoEscape"], unfollowed := true, recurses := true, named := ["unicode/utf8.first", "unicode/utf8.acceptRanges", "internal/bytealg.MaxLen", "lazaretto/prin.letters"], apart := false, laid := [("unicode/utf8.acceptRanges", laid_unicode_utf8_acceptRanges), ("lazaretto/prin.letters", laid_lazaretto_prin_letters), ("unicode/utf8.first", laid_unicode_utf8_first)], narrowed := true }
def CnfBackUptoSaid : Prop := cnfBackUptoRow.holds Tryd.pinned (OpenSpec.upto cnfBackSpec)

end Rows
end Go.Proofs.YtmldammikebhiaaDoor
