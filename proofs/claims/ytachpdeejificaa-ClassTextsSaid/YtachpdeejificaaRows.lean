/-
  No cell of these rows narrows 'for every input' (looked for: loops, veiled, ifaces, maps, wideKeys, modest, calm, conditions, laid).
  DERIVED. THE GIVEN ROWS OF THIS SEAT. 8 by the template 'for every input the law returns true; each argument reads behind the call as it read before'; 0 by the template 'total and deterministic' (their statements: YtachpdeejificaaTotals.lean).
  GIVEN WITH THE SEED: the statements are not yours to turn. If you find one false, say at which input.
  Laid BY PROGRAM, IN A SANDBOX (cutbox-rows.mjs): the forced cells as the released guide's own fill.sh prints them over the translation 8a3885e6e115599f… (all of the seat's roots in one cut). By AI agents, Wed Nov 11 2026. No macro, syntax, notation, axiom, sorry.
-/
import Derived.Test.YtachpdeejificaaChecked
import GoSem.Claim
import GoSem.ClaimJoined
import GoSem.ClaimMapViews
import Derived.JoinedTies
import Derived.KernelRfl
namespace Go.Proofs.Ytachpdeejificaa
/- THE CELL 'sum', in the pinned program and in every row, IS THE sha256 OF THE DUMP (.gsa) THAT YtachpdeejificaaProg.lean LOADS. Nothing in Lean hashes anything: it is a label: what it is worth is what the hold of that sum in a sandbox is worth. -/
noncomputable def Try.pinned : Pinned := { name := "ytachpdeejificaa", sum := "8a3885e6e115599f4f8d43aba9649a67f4415d7da53481875d4d62a1cadf5355", checked := Try.checked }
namespace Rows
def none {H : Type} : Left H := { results := [], args := [] }

/-- 'dowellaw03.ClassNames': WHATEVER THE INPUT: true; the input reads as it did. -/
def classNamesSpec : ChangeSpec := { name := "classNames", fn := fun _ => fun
  | [] => { results := [.lit (.bool true)], args := [] }
  | _ => none }
def classNamesRow : OpenClaim := { program := "ytachpdeejificaa", sum := "8a3885e6e115599f4f8d43aba9649a67f4415d7da53481875d4d62a1cadf5355", func := "dowel/dowellaw03.ClassNames", spec := "classNames", apart := false }
def ClassNamesSaid : Prop := classNamesRow.holds Try.pinned (OpenSpec.ofChange classNamesSpec)

/-- ITS FALSE NEIGHBOUR: 'it returns false'. Refute it at one input. -/
def classNamesWrong : ChangeSpec := { name := "classNames", fn := fun _ => fun
  | [] => { results := [.lit (.bool false)], args := [] }
  | _ => none }
def ClassNamesWrongFalsely : Prop := classNamesRow.holds Try.pinned (OpenSpec.ofChange classNamesWrong)

/-- 'dowellaw03.ClassEach': WHATEVER THE INPUT: true; the input reads as it did. -/
def classEachSpec : ChangeSpec := { name := "classEach", fn := fun _ => fun
  | [d1, d2, d3] => { results := [.lit (.bool true)], args := [d1, d2, d3] }
  | _ => none }
def classEachRow : OpenClaim := { program := "ytachpdeejificaa", sum := "8a3885e6e115599f4f8d43aba9649a67f4415d7da53481875d4d62a1cadf5355", func := "dowel/dowellaw03.ClassEach", spec := "classEach", unfollowed := true, recurses := true, apart := false }
def ClassEachSaid : Prop := classEachRow.holds Try.pinned (OpenSpec.ofChange classEachSpec)

/-- ITS FALSE NEIGHBOUR: 'it returns false'. Refute it at one input. -/
def classEachWrong : ChangeSpec := { name := "classEach", fn := fun _ => fun
  | [d1, d2, d3] => { results := [.lit (.bool false)], args := [d1, d2, d3] }
  | _ => none }
def ClassEachWrongFalsely : Prop := classEachRow.holds Try.pinned (OpenSpec.ofChange classEachWrong)

/-- 'dowellaw03.ClassSets': WHATEVER THE INPUT: true; the input reads as it did. -/
def classSetsSpec : ChangeSpec := { name := "classSets", fn := fun _ => fun
  | [d1, d2, d3, d4] => { results := [.lit (.bool true)], args := [d1, d2, d3, d4] }
  | _ => none }
def classSetsRow : OpenClaim := { program := "ytachpdeejificaa", sum := "8a3885e6e115599f4f8d43aba9649a67f4415d7da53481875d4d62a1cadf5355", func := "dowel/dowellaw03.ClassSets", spec := "classSets", apart := false }
def ClassSetsSaid : Prop := classSetsRow.holds Try.pinned (OpenSpec.ofChange classSetsSpec)

/-- ITS FALSE NEIGHBOUR: 'it returns false'. Refute it at one input. -/
def classSetsWrong : ChangeSpec := { name := "classSets", fn := fun _ => fun
  | [d1, d2, d3, d4] => { results := [.lit (.bool false)], args := [d1, d2, d3, d4] }
  | _ => none }
def ClassSetsWrongFalsely : Prop := classSetsRow.holds Try.pinned (OpenSpec.ofChange classSetsWrong)

/-- 'dowellaw03.ClassTexts': WHATEVER THE INPUT: true; the input reads as it did. -/
def classTextsSpec : ChangeSpec := { name := "classTexts", fn := fun _ => fun
  | [d1, d2] => { results := [.lit (.bool true)], args := [d1, d2] }
  | _ => none }
def classTextsRow : OpenClaim := { program := "ytachpdeejificaa", sum := "8a3885e6e115599f4f8d43aba9649a67f4415d7da53481875d4d62a1cadf5355", func := "dowel/dowellaw03.ClassTexts", spec := "classTexts", unfollowed := true, recurses := true, apart := false }
def ClassTextsSaid : Prop := classTextsRow.holds Try.pinned (OpenSpec.ofChange classTextsSpec)

/-- ITS FALSE NEIGHBOUR: 'it returns false'. Refute it at one input. -/
def classTextsWrong : ChangeSpec := { name := "classTexts", fn := fun _ => fun
  | [d1, d2] => { results := [.lit (.bool false)], args := [d1, d2] }
  | _ => none }
def ClassTextsWrongFalsely : Prop := classTextsRow.holds Try.pinned (OpenSpec.ofChange classTextsWrong)

/-- 'dowellaw03.ClassReads': WHATEVER THE INPUT: true; the input reads as it did. -/
def classReadsSpec : ChangeSpec := { name := "classReads", fn := fun _ => fun
  | [d1, d2] => { results := [.lit (.bool true)], args := [d1, d2] }
  | _ => none }
def classReadsRow : OpenClaim := { program := "ytachpdeejificaa", sum := "8a3885e6e115599f4f8d43aba9649a67f4415d7da53481875d4d62a1cadf5355", func := "dowel/dowellaw03.ClassReads", spec := "classReads", apart := false }
def ClassReadsSaid : Prop := classReadsRow.holds Try.pinned (OpenSpec.ofChange classReadsSpec)

/-- ITS FALSE NEIGHBOUR: 'it returns false'. Refute it at one input. -/
def classReadsWrong : ChangeSpec := { name := "classReads", fn := fun _ => fun
  | [d1, d2] => { results := [.lit (.bool false)], args := [d1, d2] }
  | _ => none }
def ClassReadsWrongFalsely : Prop := classReadsRow.holds Try.pinned (OpenSpec.ofChange classReadsWrong)

/-- 'dowellaw03.ClassBack': WHATEVER THE INPUT: true; the input reads as it did. -/
def classBackSpec : ChangeSpec := { name := "classBack", fn := fun _ => fun
  | [d1, d2, d3] => { results := [.lit (.bool true)], args := [d1, d2, d3] }
  | _ => none }
def classBackRow : OpenClaim := { program := "ytachpdeejificaa", sum := "8a3885e6e115599f4f8d43aba9649a67f4415d7da53481875d4d62a1cadf5355", func := "dowel/dowellaw03.ClassBack", spec := "classBack", unfollowed := true, recurses := true, apart := false }
def ClassBackSaid : Prop := classBackRow.holds Try.pinned (OpenSpec.ofChange classBackSpec)

/-- ITS FALSE NEIGHBOUR: 'it returns false'. Refute it at one input. -/
def classBackWrong : ChangeSpec := { name := "classBack", fn := fun _ => fun
  | [d1, d2, d3] => { results := [.lit (.bool false)], args := [d1, d2, d3] }
  | _ => none }
def ClassBackWrongFalsely : Prop := classBackRow.holds Try.pinned (OpenSpec.ofChange classBackWrong)

/-- 'dowellaw03.ClassCuts': WHATEVER THE INPUT: true; the input reads as it did. -/
def classCutsSpec : ChangeSpec := { name := "classCuts", fn := fun _ => fun
  | [d1, d2, d3] => { results := [.lit (.bool true)], args := [d1, d2, d3] }
  | _ => none }
def classCutsRow : OpenClaim := { program := "ytachpdeejificaa", sum := "8a3885e6e115599f4f8d43aba9649a67f4415d7da53481875d4d62a1cadf5355", func := "dowel/dowellaw03.ClassCuts", spec := "classCuts", unfollowed := true, recurses := true, apart := false }
def ClassCutsSaid : Prop := classCutsRow.holds Try.pinned (OpenSpec.ofChange classCutsSpec)

/-- ITS FALSE NEIGHBOUR: 'it returns false'. Refute it at one input. -/
def classCutsWrong : ChangeSpec := { name := "classCuts", fn := fun _ => fun
  | [d1, d2, d3] => { results := [.lit (.bool false)], args := [d1, d2, d3] }
  | _ => none }
def ClassCutsWrongFalsely : Prop := classCutsRow.holds Try.pinned (OpenSpec.ofChange classCutsWrong)

/-- 'dowellaw03.ClassAlgebra': WHATEVER THE INPUT: true; the input reads as it did. -/
def classAlgebraSpec : ChangeSpec := { name := "classAlgebra", fn := fun _ => fun
  | [d1, d2, d3, d4] => { results := [.lit (.bool true)], args := [d1, d2, d3, d4] }
  | _ => none }
def classAlgebraRow : OpenClaim := { program := "ytachpdeejificaa", sum := "8a3885e6e115599f4f8d43aba9649a67f4415d7da53481875d4d62a1cadf5355", func := "dowel/dowellaw03.ClassAlgebra", spec := "classAlgebra", unfollowed := true, recurses := true, apart := false }
def ClassAlgebraSaid : Prop := classAlgebraRow.holds Try.pinned (OpenSpec.ofChange classAlgebraSpec)

/-- ITS FALSE NEIGHBOUR: 'it returns false'. Refute it at one input. -/
def classAlgebraWrong : ChangeSpec := { name := "classAlgebra", fn := fun _ => fun
  | [d1, d2, d3, d4] => { results := [.lit (.bool false)], args := [d1, d2, d3, d4] }
  | _ => none }
def ClassAlgebraWrongFalsely : Prop := classAlgebraRow.holds Try.pinned (OpenSpec.ofChange classAlgebraWrong)

/- THE SECOND FORM. 'bulk': how many values and letters a reading holds, each counted each time it is reached (what is shared counts as often as it is met; a slice's spare places count too). A statement '..UptoSaid' is the law's where the arguments, and the package variables that the reading takes, are together of bulk at most 1048576: NARROWER than '..Said'. Prove '..Said' where nothing that the law and all that it calls make is longer than what came in: it says more and counts as full. Else prove '..UptoSaid'. A law counts once. -/
mutual
def uptoBulk {H : Type} : DataW H → Nat
  | .lit (.string bytes) => bytes.length + 1
  | .lit _ => 1
  | .nil => 1
  | .ptr d => uptoBulk d + 1
  | .slice elems spare => uptoBulkAll elems + uptoBulkAll spare + 1
  | .agg parts => uptoBulkAll parts + 1
  | .iface _ d => uptoBulk d + 1
  | .map entries => uptoBulkEntries entries + 1
  | .held _ => 1
def uptoBulkAll {H : Type} : List (DataW H) → Nat
  | [] => 0
  | d :: r => uptoBulk d + uptoBulkAll r
def uptoBulkEntries {H : Type} : List (Lit × DataW H) → Nat
  | [] => 0
  | x :: r => uptoBulkEntry x + uptoBulkEntries r
def uptoBulkEntry {H : Type} : Lit × DataW H → Nat
  | (.string bytes, d) => bytes.length + uptoBulk d + 1
  | (_, d) => uptoBulk d + 1
 end
def uptoSmall : (H : Type) → List (DataW H) → Bool := fun _ ds => decide (uptoBulkAll ds ≤ 1048576)
def OpenSpec.upto (s : _root_.Go.ChangeSpec) : _root_.Go.OpenSpec := { _root_.Go.OpenSpec.ofChange s with cond := some uptoSmall }

/-- 'dowellaw03.ClassNames', WHERE WHAT IT READS IS OF BULK AT MOST 1048576: true; the input reads as it did. -/
def classNamesUptoRow : OpenClaim := { program := "ytachpdeejificaa", sum := "8a3885e6e115599f4f8d43aba9649a67f4415d7da53481875d4d62a1cadf5355", func := "dowel/dowellaw03.ClassNames", spec := "classNames", apart := false, narrowed := true }
def ClassNamesUptoSaid : Prop := classNamesUptoRow.holds Try.pinned (OpenSpec.upto classNamesSpec)

/-- 'dowellaw03.ClassEach', WHERE WHAT IT READS IS OF BULK AT MOST 1048576: true; the input reads as it did. -/
def classEachUptoRow : OpenClaim := { program := "ytachpdeejificaa", sum := "8a3885e6e115599f4f8d43aba9649a67f4415d7da53481875d4d62a1cadf5355", func := "dowel/dowellaw03.ClassEach", spec := "classEach", unfollowed := true, recurses := true, apart := false, narrowed := true }
def ClassEachUptoSaid : Prop := classEachUptoRow.holds Try.pinned (OpenSpec.upto classEachSpec)

/-- 'dowellaw03.ClassSets', WHERE WHAT IT READS IS OF BULK AT MOST 1048576: true; the input reads as it did. -/
def classSetsUptoRow : OpenClaim := { program := "ytachpdeejificaa", sum := "8a3885e6e115599f4f8d43aba9649a67f4415d7da53481875d4d62a1cadf5355", func := "dowel/dowellaw03.ClassSets", spec := "classSets", apart := false, narrowed := true }
def ClassSetsUptoSaid : Prop := classSetsUptoRow.holds Try.pinned (OpenSpec.upto classSetsSpec)

/-- 'dowellaw03.ClassTexts', WHERE WHAT IT READS IS OF BULK AT MOST 1048576: true; the input reads as it did. -/
def classTextsUptoRow : OpenClaim := { program := "ytachpdeejificaa", sum := "8a3885e6e115599f4f8d43aba9649a67f4415d7da53481875d4d62a1cadf5355", func := "dowel/dowellaw03.ClassTexts", spec := "classTexts", unfollowed := true, recurses := true, apart := false, narrowed := true }
def ClassTextsUptoSaid : Prop := classTextsUptoRow.holds Try.pinned (OpenSpec.upto classTextsSpec)

/-- 'dowellaw03.ClassReads', WHERE WHAT IT READS IS OF BULK AT MOST 1048576: true; the input reads as it did. -/
def classReadsUptoRow : OpenClaim := { program := "ytachpdeejificaa", sum := "8a3885e6e115599f4f8d43aba9649a67f4415d7da53481875d4d62a1cadf5355", func := "dowel/dowellaw03.ClassReads", spec := "classReads", apart := false, narrowed := true }
def ClassReadsUptoSaid : Prop := classReadsUptoRow.holds Try.pinned (OpenSpec.upto classReadsSpec)

/-- 'dowellaw03.ClassBack', WHERE WHAT IT READS IS OF BULK AT MOST 1048576: true; the input reads as it did. -/
def classBackUptoRow : OpenClaim := { program := "ytachpdeejificaa", sum := "8a3885e6e115599f4f8d43aba9649a67f4415d7da53481875d4d62a1cadf5355", func := "dowel/dowellaw03.ClassBack", spec := "classBack", unfollowed := true, recurses := true, apart := false, narrowed := true }
def ClassBackUptoSaid : Prop := classBackUptoRow.holds Try.pinned (OpenSpec.upto classBackSpec)

/-- 'dowellaw03.ClassCuts', WHERE WHAT IT READS IS OF BULK AT MOST 1048576: true; the input reads as it did. -/
def classCutsUptoRow : OpenClaim := { program := "ytachpdeejificaa", sum := "8a3885e6e115599f4f8d43aba9649a67f4415d7da53481875d4d62a1cadf5355", func := "dowel/dowellaw03.ClassCuts", spec := "classCuts", unfollowed := true, recurses := true, apart := false, narrowed := true }
def ClassCutsUptoSaid : Prop := classCutsUptoRow.holds Try.pinned (OpenSpec.upto classCutsSpec)

/-- 'dowellaw03.ClassAlgebra', WHERE WHAT IT READS IS OF BULK AT MOST 1048576: true; the input reads as it did. -/
def classAlgebraUptoRow : OpenClaim := { program := "ytachpdeejificaa", sum := "8a3885e6e115599f4f8d43aba9649a67f4415d7da53481875d4d62a1cadf5355", func := "dowel/dowellaw03.ClassAlgebra", spec := "classAlgebra", unfollowed := true, recurses := true, apart := false, narrowed := true }
def ClassAlgebraUptoSaid : Prop := classAlgebraUptoRow.holds Try.pinned (OpenSpec.upto classAlgebraSpec)

end Rows
end Go.Proofs.Ytachpdeejificaa
