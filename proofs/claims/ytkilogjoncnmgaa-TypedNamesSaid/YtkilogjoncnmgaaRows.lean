/-
  No cell of these rows narrows 'for every input' (looked for: loops, veiled, ifaces, maps, wideKeys, modest, calm, conditions, laid).
  DERIVED. THE GIVEN ROWS OF THIS SEAT. 5 by the template 'for every input the law returns true; each argument reads behind the call as it read before'; 0 by the template 'total and deterministic' (their statements: YtkilogjoncnmgaaTotals.lean).
  GIVEN WITH THE SEED: the statements are not yours to turn. If you find one false, say at which input.
  Laid BY PROGRAM, IN A SANDBOX (cutbox-rows.mjs): the forced cells as the released guide's own fill.sh prints them over the translation a09cd6542802d1fc… (all of the seat's roots in one cut). By AI agents, Wed Nov 11 2026. No macro, syntax, notation, axiom, sorry.
-/
import Derived.Test.YtkilogjoncnmgaaChecked
import GoSem.Claim
import GoSem.ClaimJoined
import GoSem.ClaimMapViews
import Derived.JoinedTies
import Derived.KernelRfl
namespace Go.Proofs.Ytkilogjoncnmgaa
/- THE CELL 'sum', in the pinned program and in every row, IS THE sha256 OF THE DUMP (.gsa) THAT YtkilogjoncnmgaaProg.lean LOADS. Nothing in Lean hashes anything: it is a label: what it is worth is what the hold of that sum in a sandbox is worth. -/
noncomputable def Try.pinned : Pinned := { name := "ytkilogjoncnmgaa", sum := "a09cd6542802d1fc57bba77b332fb13a2f98bcdc05b18bc877225f6216345941", checked := Try.checked }
namespace Rows
def none {H : Type} : Left H := { results := [], args := [] }

/-- 'dowellaw22.PatternNames': WHATEVER THE INPUT: true; the input reads as it did. -/
def patternNamesSpec : ChangeSpec := { name := "patternNames", fn := fun _ => fun
  | [] => { results := [.lit (.bool true)], args := [] }
  | _ => none }
def patternNamesRow : OpenClaim := { program := "ytkilogjoncnmgaa", sum := "a09cd6542802d1fc57bba77b332fb13a2f98bcdc05b18bc877225f6216345941", func := "dowel/dowellaw22.PatternNames", spec := "patternNames", apart := false }
def PatternNamesSaid : Prop := patternNamesRow.holds Try.pinned (OpenSpec.ofChange patternNamesSpec)

/-- ITS FALSE NEIGHBOUR: 'it returns false'. Refute it at one input. -/
def patternNamesWrong : ChangeSpec := { name := "patternNames", fn := fun _ => fun
  | [] => { results := [.lit (.bool false)], args := [] }
  | _ => none }
def PatternNamesWrongFalsely : Prop := patternNamesRow.holds Try.pinned (OpenSpec.ofChange patternNamesWrong)

/-- 'dowellaw04.LexisNames': WHATEVER THE INPUT: true; the input reads as it did. -/
def lexisNamesSpec : ChangeSpec := { name := "lexisNames", fn := fun _ => fun
  | [] => { results := [.lit (.bool true)], args := [] }
  | _ => none }
def lexisNamesRow : OpenClaim := { program := "ytkilogjoncnmgaa", sum := "a09cd6542802d1fc57bba77b332fb13a2f98bcdc05b18bc877225f6216345941", func := "dowel/dowellaw04.LexisNames", spec := "lexisNames", apart := false }
def LexisNamesSaid : Prop := lexisNamesRow.holds Try.pinned (OpenSpec.ofChange lexisNamesSpec)

/-- ITS FALSE NEIGHBOUR: 'it returns false'. Refute it at one input. -/
def lexisNamesWrong : ChangeSpec := { name := "lexisNames", fn := fun _ => fun
  | [] => { results := [.lit (.bool false)], args := [] }
  | _ => none }
def LexisNamesWrongFalsely : Prop := lexisNamesRow.holds Try.pinned (OpenSpec.ofChange lexisNamesWrong)

/-- 'dowellaw24.ActionNames': WHATEVER THE INPUT: true; the input reads as it did. -/
def actionNamesSpec : ChangeSpec := { name := "actionNames", fn := fun _ => fun
  | [] => { results := [.lit (.bool true)], args := [] }
  | _ => none }
def actionNamesRow : OpenClaim := { program := "ytkilogjoncnmgaa", sum := "a09cd6542802d1fc57bba77b332fb13a2f98bcdc05b18bc877225f6216345941", func := "dowel/dowellaw24.ActionNames", spec := "actionNames", apart := false }
def ActionNamesSaid : Prop := actionNamesRow.holds Try.pinned (OpenSpec.ofChange actionNamesSpec)

/-- ITS FALSE NEIGHBOUR: 'it returns false'. Refute it at one input. -/
def actionNamesWrong : ChangeSpec := { name := "actionNames", fn := fun _ => fun
  | [] => { results := [.lit (.bool false)], args := [] }
  | _ => none }
def ActionNamesWrongFalsely : Prop := actionNamesRow.holds Try.pinned (OpenSpec.ofChange actionNamesWrong)

/-- 'dowellaw25.TypedNames': WHATEVER THE INPUT: true; the input reads as it did. -/
def typedNamesSpec : ChangeSpec := { name := "typedNames", fn := fun _ => fun
  | [] => { results := [.lit (.bool true)], args := [] }
  | _ => none }
def typedNamesRow : OpenClaim := { program := "ytkilogjoncnmgaa", sum := "a09cd6542802d1fc57bba77b332fb13a2f98bcdc05b18bc877225f6216345941", func := "dowel/dowellaw25.TypedNames", spec := "typedNames", apart := false }
def TypedNamesSaid : Prop := typedNamesRow.holds Try.pinned (OpenSpec.ofChange typedNamesSpec)

/-- ITS FALSE NEIGHBOUR: 'it returns false'. Refute it at one input. -/
def typedNamesWrong : ChangeSpec := { name := "typedNames", fn := fun _ => fun
  | [] => { results := [.lit (.bool false)], args := [] }
  | _ => none }
def TypedNamesWrongFalsely : Prop := typedNamesRow.holds Try.pinned (OpenSpec.ofChange typedNamesWrong)

/-- 'dowellaw26.WorthNames': WHATEVER THE INPUT: true; the input reads as it did. -/
def worthNamesSpec : ChangeSpec := { name := "worthNames", fn := fun _ => fun
  | [] => { results := [.lit (.bool true)], args := [] }
  | _ => none }
def worthNamesRow : OpenClaim := { program := "ytkilogjoncnmgaa", sum := "a09cd6542802d1fc57bba77b332fb13a2f98bcdc05b18bc877225f6216345941", func := "dowel/dowellaw26.WorthNames", spec := "worthNames", apart := false }
def WorthNamesSaid : Prop := worthNamesRow.holds Try.pinned (OpenSpec.ofChange worthNamesSpec)

/-- ITS FALSE NEIGHBOUR: 'it returns false'. Refute it at one input. -/
def worthNamesWrong : ChangeSpec := { name := "worthNames", fn := fun _ => fun
  | [] => { results := [.lit (.bool false)], args := [] }
  | _ => none }
def WorthNamesWrongFalsely : Prop := worthNamesRow.holds Try.pinned (OpenSpec.ofChange worthNamesWrong)

/- THE SECOND FORM. 'bulk': how many values and letters a reading holds, each counted each time it is reached (what is shared counts as often as it is met; a slice's spare places count too). A statement '..UptoSaid' is the law's where the arguments, and the package variables that the reading takes, are together of bulk at most 1048576: NARROWER than '..Said'. Prove '..Said' where nothing that the law and all that it calls make is longer than what came in: it says more and counts as full. Else prove '..UptoSaid'. A law counts once. -/
mutual
def uptoBulk {H : Type} : DataW H → Nat
  | .lit (.string bytes) => bytes.length + 1
  | .lit _ => 1
  | .nil => 1
  | .ptr d => uptoBulk d + 1
  | .slice elems spare => uptoBulkAll elems + uptoBulkAll spare + 1
  | .agg parts => uptoBulkAll parts + 1
  | .iface _ d => uptoBulk d + 1
  | .map entries => uptoBulkEntries entries + 1
  | .held _ => 1
def uptoBulkAll {H : Type} : List (DataW H) → Nat
  | [] => 0
  | d :: r => uptoBulk d + uptoBulkAll r
def uptoBulkEntries {H : Type} : List (Lit × DataW H) → Nat
  | [] => 0
  | x :: r => uptoBulkEntry x + uptoBulkEntries r
def uptoBulkEntry {H : Type} : Lit × DataW H → Nat
  | (.string bytes, d) => bytes.length + uptoBulk d + 1
  | (_, d) => uptoBulk d + 1
 end
def uptoSmall : (H : Type) → List (DataW H) → Bool := fun _ ds => decide (uptoBulkAll ds ≤ 1048576)
def OpenSpec.upto (s : _root_.Go.ChangeSpec) : _root_.Go.OpenSpec := { _root_.Go.OpenSpec.ofChange s with cond := some uptoSmall }

/-- 'dowellaw22.PatternNames', WHERE WHAT IT READS IS OF BULK AT MOST 1048576: true; the input reads as it did. -/
def patternNamesUptoRow : OpenClaim := { program := "ytkilogjoncnmgaa", sum := "a09cd6542802d1fc57bba77b332fb13a2f98bcdc05b18bc877225f6216345941", func := "dowel/dowellaw22.PatternNames", spec := "patternNames", apart := false, narrowed := true }
def PatternNamesUptoSaid : Prop := patternNamesUptoRow.holds Try.pinned (OpenSpec.upto patternNamesSpec)

/-- 'dowellaw04.LexisNames', WHERE WHAT IT READS IS OF BULK AT MOST 1048576: true; the input reads as it did. -/
def lexisNamesUptoRow : OpenClaim := { program := "ytkilogjoncnmgaa", sum := "a09cd6542802d1fc57bba77b332fb13a2f98bcdc05b18bc877225f6216345941", func := "dowel/dowellaw04.LexisNames", spec := "lexisNames", apart := false, narrowed := true }
def LexisNamesUptoSaid : Prop := lexisNamesUptoRow.holds Try.pinned (OpenSpec.upto lexisNamesSpec)

/-- 'dowellaw24.ActionNames', WHERE WHAT IT READS IS OF BULK AT MOST 1048576: true; the input reads as it did. -/
def actionNamesUptoRow : OpenClaim := { program := "ytkilogjoncnmgaa", sum := "a09cd6542802d1fc57bba77b332fb13a2f98bcdc05b18bc877225f6216345941", func := "dowel/dowellaw24.ActionNames", spec := "actionNames", apart := false, narrowed := true }
def ActionNamesUptoSaid : Prop := actionNamesUptoRow.holds Try.pinned (OpenSpec.upto actionNamesSpec)

/-- 'dowellaw25.TypedNames', WHERE WHAT IT READS IS OF BULK AT MOST 1048576: true; the input reads as it did. -/
def typedNamesUptoRow : OpenClaim := { program := "ytkilogjoncnmgaa", sum := "a09cd6542802d1fc57bba77b332fb13a2f98bcdc05b18bc877225f6216345941", func := "dowel/dowellaw25.TypedNames", spec := "typedNames", apart := false, narrowed := true }
def TypedNamesUptoSaid : Prop := typedNamesUptoRow.holds Try.pinned (OpenSpec.upto typedNamesSpec)

/-- 'dowellaw26.WorthNames', WHERE WHAT IT READS IS OF BULK AT MOST 1048576: true; the input reads as it did. -/
def worthNamesUptoRow : OpenClaim := { program := "ytkilogjoncnmgaa", sum := "a09cd6542802d1fc57bba77b332fb13a2f98bcdc05b18bc877225f6216345941", func := "dowel/dowellaw26.WorthNames", spec := "worthNames", apart := false, narrowed := true }
def WorthNamesUptoSaid : Prop := worthNamesUptoRow.holds Try.pinned (OpenSpec.upto worthNamesSpec)

end Rows
end Go.Proofs.Ytkilogjoncnmgaa
