/-
  No cell of these rows narrows 'for every input' (looked for: loops, veiled, ifaces, maps, wideKeys, modest, calm, conditions, laid).
  DERIVED. THE GIVEN ROWS OF THIS SEAT. 5 by the template 'for every input the law returns true; each argument reads behind the call as it read before'; 0 by the template 'total and deterministic' (their statements: YtnnnnlnnohdidaaTotals.lean).
  GIVEN WITH THE SEED: the statements are not yours to turn. If you find one false, say at which input.
  Laid BY PROGRAM, IN A SANDBOX (cutbox-rows.mjs): the forced cells as the released guide's own fill.sh prints them over the translation f20460a18522d189… (all of the seat's roots in one cut). By AI agents, Wed Nov 11 2026. No macro, syntax, notation, axiom, sorry.
-/
import Derived.Test.YtnnnnlnnohdidaaChecked
import GoSem.Claim
import GoSem.ClaimJoined
import GoSem.ClaimMapViews
import Derived.JoinedTies
import Derived.KernelRfl
namespace Go.Proofs.Ytnnnnlnnohdidaa
/- THE CELL 'sum', in the pinned program and in every row, IS THE sha256 OF THE DUMP (.gsa) THAT YtnnnnlnnohdidaaProg.lean LOADS. Nothing in Lean hashes anything: it is a label: what it is worth is what the hold of that sum in a sandbox is worth. -/
noncomputable def Try.pinned : Pinned := { name := "ytnnnnlnnohdidaa", sum := "f20460a18522d189190d345db6645402cc1cf544f0674bb97e7efa548d7302bb", checked := Try.checked }
namespace Rows
def none {H : Type} : Left H := { results := [], args := [] }

/-- 'lazarettolaw14.GuardRight': WHATEVER THE INPUT: true; the input reads as it did. -/
def guardRightSpec : ChangeSpec := { name := "guardRight", fn := fun _ => fun
  | [d1, d2, d3, d4] => { results := [.lit (.bool true)], args := [d1, d2, d3, d4] }
  | _ => none }
def guardRightRow : OpenClaim := { program := "ytnnnnlnnohdidaa", sum := "f20460a18522d189190d345db6645402cc1cf544f0674bb97e7efa548d7302bb", func := "lazaretto/lazarettolaw14.GuardRight", spec := "guardRight", unfollowed := true, recurses := true, apart := false }
def GuardRightSaid : Prop := guardRightRow.holds Try.pinned (OpenSpec.ofChange guardRightSpec)

/-- ITS FALSE NEIGHBOUR: 'it returns false'. Refute it at one input. -/
def guardRightWrong : ChangeSpec := { name := "guardRight", fn := fun _ => fun
  | [d1, d2, d3, d4] => { results := [.lit (.bool false)], args := [d1, d2, d3, d4] }
  | _ => none }
def GuardRightWrongFalsely : Prop := guardRightRow.holds Try.pinned (OpenSpec.ofChange guardRightWrong)

/-- 'lazarettolaw14.GuardFloats': WHATEVER THE INPUT: true; the input reads as it did. -/
def guardFloatsSpec : ChangeSpec := { name := "guardFloats", fn := fun _ => fun
  | [d1, d2, d3, d4] => { results := [.lit (.bool true)], args := [d1, d2, d3, d4] }
  | _ => none }
def guardFloatsRow : OpenClaim := { program := "ytnnnnlnnohdidaa", sum := "f20460a18522d189190d345db6645402cc1cf544f0674bb97e7efa548d7302bb", func := "lazaretto/lazarettolaw14.GuardFloats", spec := "guardFloats", unfollowed := true, recurses := true, apart := false }
def GuardFloatsSaid : Prop := guardFloatsRow.holds Try.pinned (OpenSpec.ofChange guardFloatsSpec)

/-- ITS FALSE NEIGHBOUR: 'it returns false'. Refute it at one input. -/
def guardFloatsWrong : ChangeSpec := { name := "guardFloats", fn := fun _ => fun
  | [d1, d2, d3, d4] => { results := [.lit (.bool false)], args := [d1, d2, d3, d4] }
  | _ => none }
def GuardFloatsWrongFalsely : Prop := guardFloatsRow.holds Try.pinned (OpenSpec.ofChange guardFloatsWrong)

/-- 'lazarettolaw14.GuardReads': WHATEVER THE INPUT: true; the input reads as it did. -/
def guardReadsSpec : ChangeSpec := { name := "guardReads", fn := fun _ => fun
  | [d1, d2, d3] => { results := [.lit (.bool true)], args := [d1, d2, d3] }
  | _ => none }
def guardReadsRow : OpenClaim := { program := "ytnnnnlnnohdidaa", sum := "f20460a18522d189190d345db6645402cc1cf544f0674bb97e7efa548d7302bb", func := "lazaretto/lazarettolaw14.GuardReads", spec := "guardReads", unfollowed := true, recurses := true, apart := false }
def GuardReadsSaid : Prop := guardReadsRow.holds Try.pinned (OpenSpec.ofChange guardReadsSpec)

/-- ITS FALSE NEIGHBOUR: 'it returns false'. Refute it at one input. -/
def guardReadsWrong : ChangeSpec := { name := "guardReads", fn := fun _ => fun
  | [d1, d2, d3] => { results := [.lit (.bool false)], args := [d1, d2, d3] }
  | _ => none }
def GuardReadsWrongFalsely : Prop := guardReadsRow.holds Try.pinned (OpenSpec.ofChange guardReadsWrong)

/-- 'lazarettolaw14.GuardWrites': WHATEVER THE INPUT: true; the input reads as it did. -/
def guardWritesSpec : ChangeSpec := { name := "guardWrites", fn := fun _ => fun
  | [d1, d2, d3] => { results := [.lit (.bool true)], args := [d1, d2, d3] }
  | _ => none }
def guardWritesRow : OpenClaim := { program := "ytnnnnlnnohdidaa", sum := "f20460a18522d189190d345db6645402cc1cf544f0674bb97e7efa548d7302bb", func := "lazaretto/lazarettolaw14.GuardWrites", spec := "guardWrites", unfollowed := true, recurses := true, apart := false }
def GuardWritesSaid : Prop := guardWritesRow.holds Try.pinned (OpenSpec.ofChange guardWritesSpec)

/-- ITS FALSE NEIGHBOUR: 'it returns false'. Refute it at one input. -/
def guardWritesWrong : ChangeSpec := { name := "guardWrites", fn := fun _ => fun
  | [d1, d2, d3] => { results := [.lit (.bool false)], args := [d1, d2, d3] }
  | _ => none }
def GuardWritesWrongFalsely : Prop := guardWritesRow.holds Try.pinned (OpenSpec.ofChange guardWritesWrong)

/-- 'lazarettolaw14.GuardLeaks': WHATEVER THE INPUT: true; the input reads as it did. -/
def guardLeaksSpec : ChangeSpec := { name := "guardLeaks", fn := fun _ => fun
  | [d1, d2, d3] => { results := [.lit (.bool true)], args := [d1, d2, d3] }
  | _ => none }
def guardLeaksRow : OpenClaim := { program := "ytnnnnlnnohdidaa", sum := "f20460a18522d189190d345db6645402cc1cf544f0674bb97e7efa548d7302bb", func := "lazaretto/lazarettolaw14.GuardLeaks", spec := "guardLeaks", unfollowed := true, recurses := true, apart := false }
def GuardLeaksSaid : Prop := guardLeaksRow.holds Try.pinned (OpenSpec.ofChange guardLeaksSpec)

/-- ITS FALSE NEIGHBOUR: 'it returns false'. Refute it at one input. -/
def guardLeaksWrong : ChangeSpec := { name := "guardLeaks", fn := fun _ => fun
  | [d1, d2, d3] => { results := [.lit (.bool false)], args := [d1, d2, d3] }
  | _ => none }
def GuardLeaksWrongFalsely : Prop := guardLeaksRow.holds Try.pinned (OpenSpec.ofChange guardLeaksWrong)

/- THE SECOND FORM. 'bulk': how many values and letters a reading holds, each counted each time it is reached (what is shared counts as often as it is met; a slice's spare places count too). A statement '..UptoSaid' is the law's where the arguments, and the package variables that the reading takes, are together of bulk at most 1048576: NARROWER than '..Said'. Prove '..Said' where nothing that the law and all that it calls make is longer than what came in: it says more and counts as full. Else prove '..UptoSaid'. A law counts once. -/
mutual
def uptoBulk {H : Type} : DataW H → Nat
  | .lit (.string bytes) => bytes.length + 1
  | .lit _ => 1
  | .nil => 1
  | .ptr d => uptoBulk d + 1
  | .slice elems spare => uptoBulkAll elems + uptoBulkAll spare + 1
  | .agg parts => uptoBulkAll parts + 1
  | .iface _ d => uptoBulk d + 1
  | .map entries => uptoBulkEntries entries + 1
  | .held _ => 1
def uptoBulkAll {H : Type} : List (DataW H) → Nat
  | [] => 0
  | d :: r => uptoBulk d + uptoBulkAll r
def uptoBulkEntries {H : Type} : List (Lit × DataW H) → Nat
  | [] => 0
  | x :: r => uptoBulkEntry x + uptoBulkEntries r
def uptoBulkEntry {H : Type} : Lit × DataW H → Nat
  | (.string bytes, d) => bytes.length + uptoBulk d + 1
  | (_, d) => uptoBulk d + 1
 end
def uptoSmall : (H : Type) → List (DataW H) → Bool := fun _ ds => decide (uptoBulkAll ds ≤ 1048576)
def OpenSpec.upto (s : _root_.Go.ChangeSpec) : _root_.Go.OpenSpec := { _root_.Go.OpenSpec.ofChange s with cond := some uptoSmall }

/-- 'lazarettolaw14.GuardRight', WHERE WHAT IT READS IS OF BULK AT MOST 1048576: true; the input reads as it did. -/
def guardRightUptoRow : OpenClaim := { program := "ytnnnnlnnohdidaa", sum := "f20460a18522d189190d345db6645402cc1cf544f0674bb97e7efa548d7302bb", func := "lazaretto/lazarettolaw14.GuardRight", spec := "guardRight", unfollowed := true, recurses := true, apart := false, narrowed := true }
def GuardRightUptoSaid : Prop := guardRightUptoRow.holds Try.pinned (OpenSpec.upto guardRightSpec)

/-- 'lazarettolaw14.GuardFloats', WHERE WHAT IT READS IS OF BULK AT MOST 1048576: true; the input reads as it did. -/
def guardFloatsUptoRow : OpenClaim := { program := "ytnnnnlnnohdidaa", sum := "f20460a18522d189190d345db6645402cc1cf544f0674bb97e7efa548d7302bb", func := "lazaretto/lazarettolaw14.GuardFloats", spec := "guardFloats", unfollowed := true, recurses := true, apart := false, narrowed := true }
def GuardFloatsUptoSaid : Prop := guardFloatsUptoRow.holds Try.pinned (OpenSpec.upto guardFloatsSpec)

/-- 'lazarettolaw14.GuardReads', WHERE WHAT IT READS IS OF BULK AT MOST 1048576: true; the input reads as it did. -/
def guardReadsUptoRow : OpenClaim := { program := "ytnnnnlnnohdidaa", sum := "f20460a18522d189190d345db6645402cc1cf544f0674bb97e7efa548d7302bb", func := "lazaretto/lazarettolaw14.GuardReads", spec := "guardReads", unfollowed := true, recurses := true, apart := false, narrowed := true }
def GuardReadsUptoSaid : Prop := guardReadsUptoRow.holds Try.pinned (OpenSpec.upto guardReadsSpec)

/-- 'lazarettolaw14.GuardWrites', WHERE WHAT IT READS IS OF BULK AT MOST 1048576: true; the input reads as it did. -/
def guardWritesUptoRow : OpenClaim := { program := "ytnnnnlnnohdidaa", sum := "f20460a18522d189190d345db6645402cc1cf544f0674bb97e7efa548d7302bb", func := "lazaretto/lazarettolaw14.GuardWrites", spec := "guardWrites", unfollowed := true, recurses := true, apart := false, narrowed := true }
def GuardWritesUptoSaid : Prop := guardWritesUptoRow.holds Try.pinned (OpenSpec.upto guardWritesSpec)

/-- 'lazarettolaw14.GuardLeaks', WHERE WHAT IT READS IS OF BULK AT MOST 1048576: true; the input reads as it did. -/
def guardLeaksUptoRow : OpenClaim := { program := "ytnnnnlnnohdidaa", sum := "f20460a18522d189190d345db6645402cc1cf544f0674bb97e7efa548d7302bb", func := "lazaretto/lazarettolaw14.GuardLeaks", spec := "guardLeaks", unfollowed := true, recurses := true, apart := false, narrowed := true }
def GuardLeaksUptoSaid : Prop := guardLeaksUptoRow.holds Try.pinned (OpenSpec.upto guardLeaksSpec)

end Rows
end Go.Proofs.Ytnnnnlnnohdidaa
