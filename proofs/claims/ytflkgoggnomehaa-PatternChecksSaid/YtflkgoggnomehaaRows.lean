/-
  No cell of these rows narrows 'for every input' (looked for: loops, veiled, ifaces, maps, wideKeys, modest, calm, conditions, laid).
  DERIVED. THE GIVEN ROWS OF THIS SEAT. 8 by the template 'for every input the law returns true; each argument reads behind the call as it read before'; 0 by the template 'total and deterministic' (their statements: YtflkgoggnomehaaTotals.lean).
  GIVEN WITH THE SEED: the statements are not yours to turn. If you find one false, say at which input.
  Laid BY PROGRAM, IN A SANDBOX (cutbox-rows.mjs): the forced cells as the released guide's own fill.sh prints them over the translation 3db77cfb6133263e… (all of the seat's roots in one cut). By AI agents, Wed Nov 11 2026. No macro, syntax, notation, axiom, sorry.
-/
import Derived.Test.YtflkgoggnomehaaChecked
import GoSem.Claim
import GoSem.ClaimJoined
import GoSem.ClaimMapViews
import Derived.JoinedTies
import Derived.KernelRfl
namespace Go.Proofs.Ytflkgoggnomehaa
/- THE CELL 'sum', in the pinned program and in every row, IS THE sha256 OF THE DUMP (.gsa) THAT YtflkgoggnomehaaProg.lean LOADS. Nothing in Lean hashes anything: it is a label: what it is worth is what the hold of that sum in a sandbox is worth. -/
noncomputable def Try.pinned : Pinned := { name := "ytflkgoggnomehaa", sum := "3db77cfb6133263ef675346a8db0908e592f4991ee0a684751458427aa1d3d7e", checked := Try.checked }
namespace Rows
def none {H : Type} : Left H := { results := [], args := [] }

/-- 'dowellaw22.PatternNames': WHATEVER THE INPUT: true; the input reads as it did. -/
def patternNamesSpec : ChangeSpec := { name := "patternNames", fn := fun _ => fun
  | [] => { results := [.lit (.bool true)], args := [] }
  | _ => none }
def patternNamesRow : OpenClaim := { program := "ytflkgoggnomehaa", sum := "3db77cfb6133263ef675346a8db0908e592f4991ee0a684751458427aa1d3d7e", func := "dowel/dowellaw22.PatternNames", spec := "patternNames", apart := false }
def PatternNamesSaid : Prop := patternNamesRow.holds Try.pinned (OpenSpec.ofChange patternNamesSpec)

/-- ITS FALSE NEIGHBOUR: 'it returns false'. Refute it at one input. -/
def patternNamesWrong : ChangeSpec := { name := "patternNames", fn := fun _ => fun
  | [] => { results := [.lit (.bool false)], args := [] }
  | _ => none }
def PatternNamesWrongFalsely : Prop := patternNamesRow.holds Try.pinned (OpenSpec.ofChange patternNamesWrong)

/-- 'dowellaw22.PatternMatches': WHATEVER THE INPUT: true; the input reads as it did. -/
def patternMatchesSpec : ChangeSpec := { name := "patternMatches", fn := fun _ => fun
  | [d1, d2] => { results := [.lit (.bool true)], args := [d1, d2] }
  | _ => none }
def patternMatchesRow : OpenClaim := { program := "ytflkgoggnomehaa", sum := "3db77cfb6133263ef675346a8db0908e592f4991ee0a684751458427aa1d3d7e", func := "dowel/dowellaw22.PatternMatches", spec := "patternMatches", unfollowed := true, recurses := true, apart := false }
def PatternMatchesSaid : Prop := patternMatchesRow.holds Try.pinned (OpenSpec.ofChange patternMatchesSpec)

/-- ITS FALSE NEIGHBOUR: 'it returns false'. Refute it at one input. -/
def patternMatchesWrong : ChangeSpec := { name := "patternMatches", fn := fun _ => fun
  | [d1, d2] => { results := [.lit (.bool false)], args := [d1, d2] }
  | _ => none }
def PatternMatchesWrongFalsely : Prop := patternMatchesRow.holds Try.pinned (OpenSpec.ofChange patternMatchesWrong)

/-- 'dowellaw22.PatternChecks': WHATEVER THE INPUT: true; the input reads as it did. -/
def patternChecksSpec : ChangeSpec := { name := "patternChecks", fn := fun _ => fun
  | [d] => { results := [.lit (.bool true)], args := [d] }
  | _ => none }
def patternChecksRow : OpenClaim := { program := "ytflkgoggnomehaa", sum := "3db77cfb6133263ef675346a8db0908e592f4991ee0a684751458427aa1d3d7e", func := "dowel/dowellaw22.PatternChecks", spec := "patternChecks", inPlace := ["internal/bytealg.IndexByteString"], unfollowed := true, recurses := true, apart := false }
def PatternChecksSaid : Prop := patternChecksRow.holds Try.pinned (OpenSpec.ofChange patternChecksSpec)

/-- ITS FALSE NEIGHBOUR: 'it returns false'. Refute it at one input. -/
def patternChecksWrong : ChangeSpec := { name := "patternChecks", fn := fun _ => fun
  | [d] => { results := [.lit (.bool false)], args := [d] }
  | _ => none }
def PatternChecksWrongFalsely : Prop := patternChecksRow.holds Try.pinned (OpenSpec.ofChange patternChecksWrong)

/-- 'dowellaw22.PatternDerives': WHATEVER THE INPUT: true; the input reads as it did. -/
def patternDerivesSpec : ChangeSpec := { name := "patternDerives", fn := fun _ => fun
  | [d1, d2, d3] => { results := [.lit (.bool true)], args := [d1, d2, d3] }
  | _ => none }
def patternDerivesRow : OpenClaim := { program := "ytflkgoggnomehaa", sum := "3db77cfb6133263ef675346a8db0908e592f4991ee0a684751458427aa1d3d7e", func := "dowel/dowellaw22.PatternDerives", spec := "patternDerives", unfollowed := true, recurses := true, apart := false }
def PatternDerivesSaid : Prop := patternDerivesRow.holds Try.pinned (OpenSpec.ofChange patternDerivesSpec)

/-- ITS FALSE NEIGHBOUR: 'it returns false'. Refute it at one input. -/
def patternDerivesWrong : ChangeSpec := { name := "patternDerives", fn := fun _ => fun
  | [d1, d2, d3] => { results := [.lit (.bool false)], args := [d1, d2, d3] }
  | _ => none }
def PatternDerivesWrongFalsely : Prop := patternDerivesRow.holds Try.pinned (OpenSpec.ofChange patternDerivesWrong)

/-- 'dowellaw22.PatternReads': WHATEVER THE INPUT: true; the input reads as it did. -/
def patternReadsSpec : ChangeSpec := { name := "patternReads", fn := fun _ => fun
  | [d1, d2] => { results := [.lit (.bool true)], args := [d1, d2] }
  | _ => none }
def patternReadsRow : OpenClaim := { program := "ytflkgoggnomehaa", sum := "3db77cfb6133263ef675346a8db0908e592f4991ee0a684751458427aa1d3d7e", func := "dowel/dowellaw22.PatternReads", spec := "patternReads", inPlace := ["internal/bytealg.IndexByteString"], unfollowed := true, recurses := true, apart := false }
def PatternReadsSaid : Prop := patternReadsRow.holds Try.pinned (OpenSpec.ofChange patternReadsSpec)

/-- ITS FALSE NEIGHBOUR: 'it returns false'. Refute it at one input. -/
def patternReadsWrong : ChangeSpec := { name := "patternReads", fn := fun _ => fun
  | [d1, d2] => { results := [.lit (.bool false)], args := [d1, d2] }
  | _ => none }
def PatternReadsWrongFalsely : Prop := patternReadsRow.holds Try.pinned (OpenSpec.ofChange patternReadsWrong)

/-- 'dowellaw22.PatternBack': WHATEVER THE INPUT: true; the input reads as it did. -/
def patternBackSpec : ChangeSpec := { name := "patternBack", fn := fun _ => fun
  | [d] => { results := [.lit (.bool true)], args := [d] }
  | _ => none }
def patternBackRow : OpenClaim := { program := "ytflkgoggnomehaa", sum := "3db77cfb6133263ef675346a8db0908e592f4991ee0a684751458427aa1d3d7e", func := "dowel/dowellaw22.PatternBack", spec := "patternBack", inPlace := ["internal/bytealg.IndexByteString"], unfollowed := true, recurses := true, apart := false }
def PatternBackSaid : Prop := patternBackRow.holds Try.pinned (OpenSpec.ofChange patternBackSpec)

/-- ITS FALSE NEIGHBOUR: 'it returns false'. Refute it at one input. -/
def patternBackWrong : ChangeSpec := { name := "patternBack", fn := fun _ => fun
  | [d] => { results := [.lit (.bool false)], args := [d] }
  | _ => none }
def PatternBackWrongFalsely : Prop := patternBackRow.holds Try.pinned (OpenSpec.ofChange patternBackWrong)

/-- 'dowellaw22.PatternKleene': WHATEVER THE INPUT: true; the input reads as it did. -/
def patternKleeneSpec : ChangeSpec := { name := "patternKleene", fn := fun _ => fun
  | [d1, d2, d3, d4] => { results := [.lit (.bool true)], args := [d1, d2, d3, d4] }
  | _ => none }
def patternKleeneRow : OpenClaim := { program := "ytflkgoggnomehaa", sum := "3db77cfb6133263ef675346a8db0908e592f4991ee0a684751458427aa1d3d7e", func := "dowel/dowellaw22.PatternKleene", spec := "patternKleene", inPlace := ["internal/bytealg.IndexByteString"], unfollowed := true, recurses := true, apart := false }
def PatternKleeneSaid : Prop := patternKleeneRow.holds Try.pinned (OpenSpec.ofChange patternKleeneSpec)

/-- ITS FALSE NEIGHBOUR: 'it returns false'. Refute it at one input. -/
def patternKleeneWrong : ChangeSpec := { name := "patternKleene", fn := fun _ => fun
  | [d1, d2, d3, d4] => { results := [.lit (.bool false)], args := [d1, d2, d3, d4] }
  | _ => none }
def PatternKleeneWrongFalsely : Prop := patternKleeneRow.holds Try.pinned (OpenSpec.ofChange patternKleeneWrong)

/-- 'dowellaw22.PatternBrzozowski': WHATEVER THE INPUT: true; the input reads as it did. -/
def patternBrzozowskiSpec : ChangeSpec := { name := "patternBrzozowski", fn := fun _ => fun
  | [d1, d2, d3] => { results := [.lit (.bool true)], args := [d1, d2, d3] }
  | _ => none }
def patternBrzozowskiRow : OpenClaim := { program := "ytflkgoggnomehaa", sum := "3db77cfb6133263ef675346a8db0908e592f4991ee0a684751458427aa1d3d7e", func := "dowel/dowellaw22.PatternBrzozowski", spec := "patternBrzozowski", inPlace := ["internal/bytealg.IndexByteString"], unfollowed := true, recurses := true, apart := false }
def PatternBrzozowskiSaid : Prop := patternBrzozowskiRow.holds Try.pinned (OpenSpec.ofChange patternBrzozowskiSpec)

/-- ITS FALSE NEIGHBOUR: 'it returns false'. Refute it at one input. -/
def patternBrzozowskiWrong : ChangeSpec := { name := "patternBrzozowski", fn := fun _ => fun
  | [d1, d2, d3] => { results := [.lit (.bool false)], args := [d1, d2, d3] }
  | _ => none }
def PatternBrzozowskiWrongFalsely : Prop := patternBrzozowskiRow.holds Try.pinned (OpenSpec.ofChange patternBrzozowskiWrong)

/- THE SECOND FORM. 'bulk': how many values and letters a reading holds, each counted each time it is reached (what is shared counts as often as it is met; a slice's spare places count too). A statement '..UptoSaid' is the law's where the arguments, and the package variables that the reading takes, are together of bulk at most 1048576: NARROWER than '..Said'. Prove '..Said' where nothing that the law and all that it calls make is longer than what came in: it says more and counts as full. Else prove '..UptoSaid'. A law counts once. -/
mutual
def uptoBulk {H : Type} : DataW H → Nat
  | .lit (.string bytes) => bytes.length + 1
  | .lit _ => 1
  | .nil => 1
  | .ptr d => uptoBulk d + 1
  | .slice elems spare => uptoBulkAll elems + uptoBulkAll spare + 1
  | .agg parts => uptoBulkAll parts + 1
  | .iface _ d => uptoBulk d + 1
  | .map entries => uptoBulkEntries entries + 1
  | .held _ => 1
def uptoBulkAll {H : Type} : List (DataW H) → Nat
  | [] => 0
  | d :: r => uptoBulk d + uptoBulkAll r
def uptoBulkEntries {H : Type} : List (Lit × DataW H) → Nat
  | [] => 0
  | x :: r => uptoBulkEntry x + uptoBulkEntries r
def uptoBulkEntry {H : Type} : Lit × DataW H → Nat
  | (.string bytes, d) => bytes.length + uptoBulk d + 1
  | (_, d) => uptoBulk d + 1
 end
def uptoSmall : (H : Type) → List (DataW H) → Bool := fun _ ds => decide (uptoBulkAll ds ≤ 1048576)
def OpenSpec.upto (s : _root_.Go.ChangeSpec) : _root_.Go.OpenSpec := { _root_.Go.OpenSpec.ofChange s with cond := some uptoSmall }

/-- 'dowellaw22.PatternNames', WHERE WHAT IT READS IS OF BULK AT MOST 1048576: true; the input reads as it did. -/
def patternNamesUptoRow : OpenClaim := { program := "ytflkgoggnomehaa", sum := "3db77cfb6133263ef675346a8db0908e592f4991ee0a684751458427aa1d3d7e", func := "dowel/dowellaw22.PatternNames", spec := "patternNames", apart := false, narrowed := true }
def PatternNamesUptoSaid : Prop := patternNamesUptoRow.holds Try.pinned (OpenSpec.upto patternNamesSpec)

/-- 'dowellaw22.PatternMatches', WHERE WHAT IT READS IS OF BULK AT MOST 1048576: true; the input reads as it did. -/
def patternMatchesUptoRow : OpenClaim := { program := "ytflkgoggnomehaa", sum := "3db77cfb6133263ef675346a8db0908e592f4991ee0a684751458427aa1d3d7e", func := "dowel/dowellaw22.PatternMatches", spec := "patternMatches", unfollowed := true, recurses := true, apart := false, narrowed := true }
def PatternMatchesUptoSaid : Prop := patternMatchesUptoRow.holds Try.pinned (OpenSpec.upto patternMatchesSpec)

/-- 'dowellaw22.PatternChecks', WHERE WHAT IT READS IS OF BULK AT MOST 1048576: true; the input reads as it did. -/
def patternChecksUptoRow : OpenClaim := { program := "ytflkgoggnomehaa", sum := "3db77cfb6133263ef675346a8db0908e592f4991ee0a684751458427aa1d3d7e", func := "dowel/dowellaw22.PatternChecks", spec := "patternChecks", inPlace := ["internal/bytealg.IndexByteString"], unfollowed := true, recurses := true, apart := false, narrowed := true }
def PatternChecksUptoSaid : Prop := patternChecksUptoRow.holds Try.pinned (OpenSpec.upto patternChecksSpec)

/-- 'dowellaw22.PatternDerives', WHERE WHAT IT READS IS OF BULK AT MOST 1048576: true; the input reads as it did. -/
def patternDerivesUptoRow : OpenClaim := { program := "ytflkgoggnomehaa", sum := "3db77cfb6133263ef675346a8db0908e592f4991ee0a684751458427aa1d3d7e", func := "dowel/dowellaw22.PatternDerives", spec := "patternDerives", unfollowed := true, recurses := true, apart := false, narrowed := true }
def PatternDerivesUptoSaid : Prop := patternDerivesUptoRow.holds Try.pinned (OpenSpec.upto patternDerivesSpec)

/-- 'dowellaw22.PatternReads', WHERE WHAT IT READS IS OF BULK AT MOST 1048576: true; the input reads as it did. -/
def patternReadsUptoRow : OpenClaim := { program := "ytflkgoggnomehaa", sum := "3db77cfb6133263ef675346a8db0908e592f4991ee0a684751458427aa1d3d7e", func := "dowel/dowellaw22.PatternReads", spec := "patternReads", inPlace := ["internal/bytealg.IndexByteString"], unfollowed := true, recurses := true, apart := false, narrowed := true }
def PatternReadsUptoSaid : Prop := patternReadsUptoRow.holds Try.pinned (OpenSpec.upto patternReadsSpec)

/-- 'dowellaw22.PatternBack', WHERE WHAT IT READS IS OF BULK AT MOST 1048576: true; the input reads as it did. -/
def patternBackUptoRow : OpenClaim := { program := "ytflkgoggnomehaa", sum := "3db77cfb6133263ef675346a8db0908e592f4991ee0a684751458427aa1d3d7e", func := "dowel/dowellaw22.PatternBack", spec := "patternBack", inPlace := ["internal/bytealg.IndexByteString"], unfollowed := true, recurses := true, apart := false, narrowed := true }
def PatternBackUptoSaid : Prop := patternBackUptoRow.holds Try.pinned (OpenSpec.upto patternBackSpec)

/-- 'dowellaw22.PatternKleene', WHERE WHAT IT READS IS OF BULK AT MOST 1048576: true; the input reads as it did. -/
def patternKleeneUptoRow : OpenClaim := { program := "ytflkgoggnomehaa", sum := "3db77cfb6133263ef675346a8db0908e592f4991ee0a684751458427aa1d3d7e", func := "dowel/dowellaw22.PatternKleene", spec := "patternKleene", inPlace := ["internal/bytealg.IndexByteString"], unfollowed := true, recurses := true, apart := false, narrowed := true }
def PatternKleeneUptoSaid : Prop := patternKleeneUptoRow.holds Try.pinned (OpenSpec.upto patternKleeneSpec)

/-- 'dowellaw22.PatternBrzozowski', WHERE WHAT IT READS IS OF BULK AT MOST 1048576: true; the input reads as it did. -/
def patternBrzozowskiUptoRow : OpenClaim := { program := "ytflkgoggnomehaa", sum := "3db77cfb6133263ef675346a8db0908e592f4991ee0a684751458427aa1d3d7e", func := "dowel/dowellaw22.PatternBrzozowski", spec := "patternBrzozowski", inPlace := ["internal/bytealg.IndexByteString"], unfollowed := true, recurses := true, apart := false, narrowed := true }
def PatternBrzozowskiUptoSaid : Prop := patternBrzozowskiUptoRow.holds Try.pinned (OpenSpec.upto patternBrzozowskiSpec)

end Rows
end Go.Proofs.Ytflkgoggnomehaa
