/-
  NARROWER THAN 'FOR EVERY INPUT', by the rows' own cells (each row's printed sentence says how): PrivTells: laid · PrivThrough: laid · PrivMore: laid · PrivNeeds: laid · PrivDrops: laid · PrivRises: laid.
  DERIVED. THE GIVEN ROWS OF THIS SEAT. 6 by the template 'for every input the law returns true; each argument reads behind the call as it read before'; 0 by the template 'total and deterministic' (their statements: YtiafecmnchlgdaaDoorTotals.lean).
  GIVEN WITH THE SEED: the statements are not yours to turn. If you find one false, say at which input.
  Laid BY PROGRAM, IN A SANDBOX (cutbox-rows.mjs): the forced cells as the released guide's own fill.sh prints them over the translation 2ff7dc218802ac3d… (all of the seat's roots in one cut). By AI agents, Wed Nov 11 2026. No macro, syntax, notation, axiom, sorry.
-/
import Derived.Test.YtiafecmnchlgdaaDoorChecked
import GoSem.PinnedTables
import GoSem.Claim
import GoSem.ClaimJoined
import GoSem.ClaimMapViews
import Derived.JoinedTies
import Derived.KernelRfl
namespace Go.Proofs.YtiafecmnchlgdaaDoor
/- THE CELL 'sum', in the pinned program and in every row, IS THE sha256 OF THE DUMP (.gsa) THAT YtiafecmnchlgdaaDoorProg.lean LOADS. Nothing in Lean hashes anything: it is a label: what it is worth is what the hold of that sum in a sandbox is worth. -/
noncomputable def Tryd.pinned : Pinned := { name := "ytiafecmnchlgdaadoor", sum := "2ff7dc218802ac3d7ebda26ef81e0380ae895dd19de59950929597648d3a6371", checked := Tryd.checked }
namespace Rows
def none {H : Type} : Left H := { results := [], args := [] }

/- WHAT THE LISTED PACKAGE-LEVEL VARIABLES READ AS WHEN THE CALL BEGINS. Each datum BY PROGRAM (the guide's laid-datum.mjs) off the statement by which the dump's own 'gosem.cut.vars' lays the variable. In a bare row this is a premise. The card (YtiafecmnchlgdaaDoorCards.lean) ties it to the program's text. -/
def laid_unicode_utf8_acceptRanges {H : Type} : DataW H := .agg [.agg [.lit (.int .u8 128), .lit (.int .u8 191)], .agg [.lit (.int .u8 160), .lit (.int .u8 191)], .agg [.lit (.int .u8 128), .lit (.int .u8 159)], .agg [.lit (.int .u8 144), .lit (.int .u8 191)], .agg [.lit (.int .u8 128), .lit (.int .u8 143)], .agg [.lit (.int .u8 0), .lit (.int .u8 0)], .agg [.lit (.int .u8 0), .lit (.int .u8 0)], .agg [.lit (.int .u8 0), .lit (.int .u8 0)], .agg [.lit (.int .u8 0), .lit (.int .u8 0)], .agg [.lit (.int .u8 0), .lit (.int .u8 0)], .agg [.lit (.int .u8 0), .lit (.int .u8 0)], .agg [.lit (.int .u8 0), .lit (.int .u8 0)], .agg [.lit (.int .u8 0), .lit (.int .u8 0)], .agg [.lit (.int .u8 0), .lit (.int .u8 0)], .agg [.lit (.int .u8 0), .lit (.int .u8 0)], .agg [.lit (.int .u8 0), .lit (.int .u8 0)]]
def laid_lazaretto_prin_letters {H : Type} : DataW H := .agg [.lit (.int .u8 97), .lit (.int .u8 98), .lit (.int .u8 99), .lit (.int .u8 100), .lit (.int .u8 101), .lit (.int .u8 102)]
/-- One of Go's own tables, pinned by name: the form's constant. -/
def laid_unicode_utf8_first : DataW Unit := Go.Pinned.utf8First

/-- 'lazarettolaw04.PrivTells': WHATEVER THE INPUT: true; the input reads as it did. -/
def privTellsSpec : ChangeSpec := { name := "privTells", fn := fun _ => fun
  | [d1, d2, d3] => { results := [.lit (.bool true)], args := [d1, d2, d3] }
  | _ => none }
def privTellsRow : OpenClaim := { program := "ytiafecmnchlgdaadoor", sum := "2ff7dc218802ac3d7ebda26ef81e0380ae895dd19de59950929597648d3a6371", func := "lazaretto/lazarettolaw04.PrivTells", spec := "privTells", inPlace := ["internal/bytealg.IndexByteString", "internal/bytealg.IndexString", "internal/abi.NoEscape"], unfollowed := true, recurses := true, named := ["internal/bytealg.MaxLen", "unicode/utf8.first", "unicode/utf8.acceptRanges", "lazaretto/prin.letters"], apart := false, laid := [("unicode/utf8.acceptRanges", laid_unicode_utf8_acceptRanges), ("lazaretto/prin.letters", laid_lazaretto_prin_letters), ("unicode/utf8.first", laid_unicode_utf8_first)] }
def PrivTellsSaid : Prop := privTellsRow.holds Tryd.pinned (OpenSpec.ofChange privTellsSpec)

/-- ITS FALSE NEIGHBOUR: 'it returns false'. Refute it at one input. -/
def privTellsWrong : ChangeSpec := { name := "privTells", fn := fun _ => fun
  | [d1, d2, d3] => { results := [.lit (.bool false)], args := [d1, d2, d3] }
  | _ => none }
def PrivTellsWrongFalsely : Prop := privTellsRow.holds Tryd.pinned (OpenSpec.ofChange privTellsWrong)

/-- 'lazarettolaw04.PrivThrough': WHATEVER THE INPUT: true; the input reads as it did. -/
def privThroughSpec : ChangeSpec := { name := "privThrough", fn := fun _ => fun
  | [d1, d2, d3, d4, d5] => { results := [.lit (.bool true)], args := [d1, d2, d3, d4, d5] }
  | _ => none }
def privThroughRow : OpenClaim := { program := "ytiafecmnchlgdaadoor", sum := "2ff7dc218802ac3d7ebda26ef81e0380ae895dd19de59950929597648d3a6371", func := "lazaretto/lazarettolaw04.PrivThrough", spec := "privThrough", inPlace := ["internal/bytealg.IndexByteString", "internal/bytealg.IndexString", "internal/abi.NoEscape"], unfollowed := true, recurses := true, named := ["internal/bytealg.MaxLen", "unicode/utf8.first", "unicode/utf8.acceptRanges", "lazaretto/prin.letters"], apart := false, laid := [("unicode/utf8.acceptRanges", laid_unicode_utf8_acceptRanges), ("lazaretto/prin.letters", laid_lazaretto_prin_letters), ("unicode/utf8.first", laid_unicode_utf8_first)] }
def PrivThroughSaid : Prop := privThroughRow.holds Tryd.pinned (OpenSpec.ofChange privThroughSpec)

/-- ITS FALSE NEIGHBOUR: 'it returns false'. Refute it at one input. -/
def privThroughWrong : ChangeSpec := { name := "privThrough", fn := fun _ => fun
  | [d1, d2, d3, d4, d5] => { results := [.lit (.bool false)], args := [d1, d2, d3, d4, d5] }
  | _ => none }
def PrivThroughWrongFalsely : Prop := privThroughRow.holds Tryd.pinned (OpenSpec.ofChange privThroughWrong)

/-- 'lazarettolaw04.PrivMore': WHATEVER THE INPUT: true; the input reads as it did. -/
def privMoreSpec : ChangeSpec := { name := "privMore", fn := fun _ => fun
  | [d1, d2, d3, d4] => { results := [.lit (.bool true)], args := [d1, d2, d3, d4] }
  | _ => none }
def privMoreRow : OpenClaim := { program := "ytiafecmnchlgdaadoor", sum := "2ff7dc218802ac3d7ebda26ef81e0380ae895dd19de59950929597648d3a6371", func := "lazaretto/lazarettolaw04.PrivMore", spec := "privMore", inPlace := ["internal/bytealg.IndexByteString", "internal/bytealg.IndexString", "internal/abi.NoEscape"], unfollowed := true, recurses := true, named := ["internal/bytealg.MaxLen", "unicode/utf8.first", "unicode/utf8.acceptRanges", "lazaretto/prin.letters"], apart := false, laid := [("unicode/utf8.acceptRanges", laid_unicode_utf8_acceptRanges), ("lazaretto/prin.letters", laid_lazaretto_prin_letters), ("unicode/utf8.first", laid_unicode_utf8_first)] }
def PrivMoreSaid : Prop := privMoreRow.holds Tryd.pinned (OpenSpec.ofChange privMoreSpec)

/-- ITS FALSE NEIGHBOUR: 'it returns false'. Refute it at one input. -/
def privMoreWrong : ChangeSpec := { name := "privMore", fn := fun _ => fun
  | [d1, d2, d3, d4] => { results := [.lit (.bool false)], args := [d1, d2, d3, d4] }
  | _ => none }
def PrivMoreWrongFalsely : Prop := privMoreRow.holds Tryd.pinned (OpenSpec.ofChange privMoreWrong)

/-- 'lazarettolaw04.PrivNeeds': WHATEVER THE INPUT: true; the input reads as it did. -/
def privNeedsSpec : ChangeSpec := { name := "privNeeds", fn := fun _ => fun
  | [d1, d2, d3] => { results := [.lit (.bool true)], args := [d1, d2, d3] }
  | _ => none }
def privNeedsRow : OpenClaim := { program := "ytiafecmnchlgdaadoor", sum := "2ff7dc218802ac3d7ebda26ef81e0380ae895dd19de59950929597648d3a6371", func := "lazaretto/lazarettolaw04.PrivNeeds", spec := "privNeeds", inPlace := ["internal/bytealg.IndexByteString", "internal/bytealg.IndexString", "internal/abi.NoEscape"], unfollowed := true, recurses := true, named := ["internal/bytealg.MaxLen", "unicode/utf8.first", "unicode/utf8.acceptRanges", "lazaretto/prin.letters"], apart := false, laid := [("unicode/utf8.acceptRanges", laid_unicode_utf8_acceptRanges), ("lazaretto/prin.letters", laid_lazaretto_prin_letters), ("unicode/utf8.first", laid_unicode_utf8_first)] }
def PrivNeedsSaid : Prop := privNeedsRow.holds Tryd.pinned (OpenSpec.ofChange privNeedsSpec)

/-- ITS FALSE NEIGHBOUR: 'it returns false'. Refute it at one input. -/
def privNeedsWrong : ChangeSpec := { name := "privNeeds", fn := fun _ => fun
  | [d1, d2, d3] => { results := [.lit (.bool false)], args := [d1, d2, d3] }
  | _ => none }
def PrivNeedsWrongFalsely : Prop := privNeedsRow.holds Tryd.pinned (OpenSpec.ofChange privNeedsWrong)

/-- 'lazarettolaw04.PrivDrops': WHATEVER THE INPUT: true; the input reads as it did. -/
def privDropsSpec : ChangeSpec := { name := "privDrops", fn := fun _ => fun
  | [d1, d2, d3] => { results := [.lit (.bool true)], args := [d1, d2, d3] }
  | _ => none }
def privDropsRow : OpenClaim := { program := "ytiafecmnchlgdaadoor", sum := "2ff7dc218802ac3d7ebda26ef81e0380ae895dd19de59950929597648d3a6371", func := "lazaretto/lazarettolaw04.PrivDrops", spec := "privDrops", inPlace := ["internal/bytealg.IndexByteString", "internal/bytealg.IndexString", "internal/abi.NoEscape"], unfollowed := true, recurses := true, named := ["internal/bytealg.MaxLen", "unicode/utf8.first", "unicode/utf8.acceptRanges", "lazaretto/prin.letters"], apart := false, laid := [("unicode/utf8.acceptRanges", laid_unicode_utf8_acceptRanges), ("lazaretto/prin.letters", laid_lazaretto_prin_letters), ("unicode/utf8.first", laid_unicode_utf8_first)] }
def PrivDropsSaid : Prop := privDropsRow.holds Tryd.pinned (OpenSpec.ofChange privDropsSpec)

/-- ITS FALSE NEIGHBOUR: 'it returns false'. Refute it at one input. -/
def privDropsWrong : ChangeSpec := { name := "privDrops", fn := fun _ => fun
  | [d1, d2, d3] => { results := [.lit (.bool false)], args := [d1, d2, d3] }
  | _ => none }
def PrivDropsWrongFalsely : Prop := privDropsRow.holds Tryd.pinned (OpenSpec.ofChange privDropsWrong)

/-- 'lazarettolaw04.PrivRises': WHATEVER THE INPUT: true; the input reads as it did. -/
def privRisesSpec : ChangeSpec := { name := "privRises", fn := fun _ => fun
  | [d1, d2, d3] => { results := [.lit (.bool true)], args := [d1, d2, d3] }
  | _ => none }
def privRisesRow : OpenClaim := { program := "ytiafecmnchlgdaadoor", sum := "2ff7dc218802ac3d7ebda26ef81e0380ae895dd19de59950929597648d3a6371", func := "lazaretto/lazarettolaw04.PrivRises", spec := "privRises", inPlace := ["internal/bytealg.IndexByteString", "internal/bytealg.IndexString", "internal/abi.NoEscape"], unfollowed := true, recurses := true, named := ["internal/bytealg.MaxLen", "unicode/utf8.first", "unicode/utf8.acceptRanges", "lazaretto/prin.letters"], apart := false, laid := [("unicode/utf8.acceptRanges", laid_unicode_utf8_acceptRanges), ("lazaretto/prin.letters", laid_lazaretto_prin_letters), ("unicode/utf8.first", laid_unicode_utf8_first)] }
def PrivRisesSaid : Prop := privRisesRow.holds Tryd.pinned (OpenSpec.ofChange privRisesSpec)

/-- ITS FALSE NEIGHBOUR: 'it returns false'. Refute it at one input. -/
def privRisesWrong : ChangeSpec := { name := "privRises", fn := fun _ => fun
  | [d1, d2, d3] => { results := [.lit (.bool false)], args := [d1, d2, d3] }
  | _ => none }
def PrivRisesWrongFalsely : Prop := privRisesRow.holds Tryd.pinned (OpenSpec.ofChange privRisesWrong)

/- THE SECOND FORM. 'bulk': how many values and letters a reading holds, each counted each time it is reached (what is shared counts as often as it is met; a slice's spare places count too). A statement '..UptoSaid' is the law's where the arguments, and the package variables that the reading takes, are together of bulk at most 1048576: NARROWER than '..Said'. Prove '..Said' where nothing that the law and all that it calls make is longer than what came in: it says more and counts as full. Else prove '..UptoSaid'. A law counts once. -/
mutual
def uptoBulk {H : Type} : DataW H → Nat
  | .lit (.string bytes) => bytes.length + 1
  | .lit _ => 1
  | .nil => 1
  | .ptr d => uptoBulk d + 1
  | .slice elems spare => uptoBulkAll elems + uptoBulkAll spare + 1
  | .agg parts => uptoBulkAll parts + 1
  | .iface _ d => uptoBulk d + 1
  | .map entries => uptoBulkEntries entries + 1
  | .held _ => 1
def uptoBulkAll {H : Type} : List (DataW H) → Nat
  | [] => 0
  | d :: r => uptoBulk d + uptoBulkAll r
def uptoBulkEntries {H : Type} : List (Lit × DataW H) → Nat
  | [] => 0
  | x :: r => uptoBulkEntry x + uptoBulkEntries r
def uptoBulkEntry {H : Type} : Lit × DataW H → Nat
  | (.string bytes, d) => bytes.length + uptoBulk d + 1
  | (_, d) => uptoBulk d + 1
 end
def uptoSmall : (H : Type) → List (DataW H) → Bool := fun _ ds => decide (uptoBulkAll ds ≤ 1048576)
def OpenSpec.upto (s : _root_.Go.ChangeSpec) : _root_.Go.OpenSpec := { _root_.Go.OpenSpec.ofChange s with cond := some uptoSmall }

/-- 'lazarettolaw04.PrivTells', WHERE WHAT IT READS IS OF BULK AT MOST 1048576: true; the input reads as it did. -/
def privTellsUptoRow : OpenClaim := { program := "ytiafecmnchlgdaadoor", sum := "2ff7dc218802ac3d7ebda26ef81e0380ae895dd19de59950929597648d3a6371", func := "lazaretto/lazarettolaw04.PrivTells", spec := "privTells", inPlace := ["internal/bytealg.IndexByteString", "internal/bytealg.IndexString", "internal/abi.NoEscape"], unfollowed := true, recurses := true, named := ["internal/bytealg.MaxLen", "unicode/utf8.first", "unicode/utf8.acceptRanges", "lazaretto/prin.letters"], apart := false, laid := [("unicode/utf8.acceptRanges", laid_unicode_utf8_acceptRanges), ("lazaretto/prin.letters", laid_lazaretto_prin_letters), ("unicode/utf8.first", laid_unicode_utf8_first)], narrowed := true }
def PrivTellsUptoSaid : Prop := privTellsUptoRow.holds Tryd.pinned (OpenSpec.upto privTellsSpec)

/-- 'lazarettolaw04.PrivThrough', WHERE WHAT IT READS IS OF BULK AT MOST 1048576: true; the input reads as it did. -/
def privThroughUptoRow : OpenClaim := { program := "ytiafecmnchlgdaadoor", sum := "2ff7dc218802ac3d7ebda26ef81e0380ae895dd19de59950929597648d3a6371", func := "lazaretto/lazarettolaw04.PrivThrough", spec := "privThrough", inPlace := ["internal/bytealg.IndexByteString", "internal/bytealg.IndexString", "internal/abi.NoEscape"], unfollowed := true, recurses := true, named := ["internal/bytealg.MaxLen", "unicode/utf8.first", "unicode/utf8.acceptRanges", "lazaretto/prin.letters"], apart := false, laid := [("unicode/utf8.acceptRanges", laid_unicode_utf8_acceptRanges), ("lazaretto/prin.letters", laid_lazaretto_prin_letters), ("unicode/utf8.first", laid_unicode_utf8_first)], narrowed := true }
def PrivThroughUptoSaid : Prop := privThroughUptoRow.holds Tryd.pinned (OpenSpec.upto privThroughSpec)

/-- 'lazarettolaw04.PrivMore', WHERE WHAT IT READS IS OF BULK AT MOST 1048576: true; the input reads as it did. -/
def privMoreUptoRow : OpenClaim := { program := "ytiafecmnchlgdaadoor", sum := "2ff7dc218802ac3d7ebda26ef81e0380ae895dd19de59950929597648d3a6371", func := "lazaretto/lazarettolaw04.PrivMore", spec := "privMore", inPlace := ["internal/bytealg.IndexByteString", "internal/bytealg.IndexString", "internal/abi.NoEscape"], unfollowed := true, recurses := true, named := ["internal/bytealg.MaxLen", "unicode/utf8.first", "unicode/utf8.acceptRanges", "lazaretto/prin.letters"], apart := false, laid := [("unicode/utf8.acceptRanges", laid_unicode_utf8_acceptRanges), ("lazaretto/prin.letters", laid_lazaretto_prin_letters), ("unicode/utf8.first", laid_unicode_utf8_first)], narrowed := true }
def PrivMoreUptoSaid : Prop := privMoreUptoRow.holds Tryd.pinned (OpenSpec.upto privMoreSpec)

/-- 'lazarettolaw04.PrivNeeds', WHERE WHAT IT READS IS OF BULK AT MOST 1048576: true; the input reads as it did. -/
def privNeedsUptoRow : OpenClaim := { program := "ytiafecmnchlgdaadoor", sum := "2ff7dc218802ac3d7ebda26ef81e0380ae895dd19de59950929597648d3a6371", func := "lazaretto/lazarettolaw04.PrivNeeds", spec := "privNeeds", inPlace := ["internal/bytealg.IndexByteString", "internal/bytealg.IndexString", "internal/abi.NoEscape"], unfollowed := true, recurses := true, named := ["internal/bytealg.MaxLen", "unicode/utf8.first", "unicode/utf8.acceptRanges", "lazaretto/prin.letters"], apart := false, laid := [("unicode/utf8.acceptRanges", laid_unicode_utf8_acceptRanges), ("lazaretto/prin.letters", laid_lazaretto_prin_letters), ("unicode/utf8.first", laid_unicode_utf8_first)], narrowed := true }
def PrivNeedsUptoSaid : Prop := privNeedsUptoRow.holds Tryd.pinned (OpenSpec.upto privNeedsSpec)

/-- 'lazarettolaw04.PrivDrops', WHERE WHAT IT READS IS OF BULK AT MOST 1048576: true; the input reads as it did. -/
def privDropsUptoRow : OpenClaim := { program := "ytiafecmnchlgdaadoor", sum := "2ff7dc218802ac3d7ebda26ef81e0380ae895dd19de59950929597648d3a6371", func := "lazaretto/lazarettolaw04.PrivDrops", spec := "privDrops", inPlace := ["internal/bytealg.IndexByteString", "internal/bytealg.IndexString", "internal/abi.NoEscape"], unfollowed := true, recurses := true, named := ["internal/bytealg.MaxLen", "unicode/utf8.first", "unicode/utf8.acceptRanges", "lazaretto/prin.letters"], apart := false, laid := [("unicode/utf8.acceptRanges", laid_unicode_utf8_acceptRanges), ("lazaretto/prin.letters", laid_lazaretto_prin_letters), ("unicode/utf8.first", laid_unicode_utf8_first)], narrowed := true }
def PrivDropsUptoSaid : Prop := privDropsUptoRow.holds Tryd.pinned (OpenSpec.upto privDropsSpec)

/-- 'lazarettolaw04.PrivRises', WHERE WHAT IT READS IS OF BULK AT MOST 1048576: true; the input reads as it did. -/
def privRisesUptoRow : OpenClaim := { program := "ytiafecmnchlgdaadoor", sum := "2ff7dc218802ac3d7ebda26ef81e0380ae895dd19de59950929597648d3a6371", func := "lazaretto/lazarettolaw04.PrivRises", spec := "privRises", inPlace := ["internal/bytealg.IndexByteString", "internal/bytealg.IndexString", "internal/abi.NoEscape"], unfollowed := true, recurses := true, named := ["internal/bytealg.MaxLen", "unicode/utf8.first", "unicode/utf8.acceptRanges", "lazaretto/prin.letters"], apart := false, laid := [("unicode/utf8.acceptRanges", laid_unicode_utf8_acceptRanges), ("lazaretto/prin.letters", laid_lazaretto_prin_letters), ("unicode/utf8.first", laid_unicode_utf8_first)], narrowed := true }
def PrivRisesUptoSaid : Prop := privRisesUptoRow.holds Tryd.pinned (OpenSpec.upto privRisesSpec)

end Rows
end Go.Proofs.YtiafecmnchlgdaaDoor
