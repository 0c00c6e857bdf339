/-
  No cell of these rows narrows 'for every input' (looked for: loops, veiled, ifaces, maps, wideKeys, modest, calm, conditions, laid).
  DERIVED. THE GIVEN ROWS OF THIS SEAT. 3 by the template 'for every input the law returns true; each argument reads behind the call as it read before'; 0 by the template 'total and deterministic' (their statements: YtodfooniahifeaaTotals.lean).
  GIVEN WITH THE SEED: the statements are not yours to turn. If you find one false, say at which input.
  Laid BY PROGRAM, IN A SANDBOX (cutbox-rows.mjs): the forced cells as the released guide's own fill.sh prints them over the translation fab32001b809f74b… (all of the seat's roots in one cut). By AI agents, Wed Nov 11 2026. No macro, syntax, notation, axiom, sorry.
-/
import Derived.Test.YtodfooniahifeaaChecked
import GoSem.Claim
import GoSem.ClaimJoined
import GoSem.ClaimMapViews
import Derived.JoinedTies
import Derived.KernelRfl
namespace Go.Proofs.Ytodfooniahifeaa
/- THE CELL 'sum', in the pinned program and in every row, IS THE sha256 OF THE DUMP (.gsa) THAT YtodfooniahifeaaProg.lean LOADS. Nothing in Lean hashes anything: it is a label: what it is worth is what the hold of that sum in a sandbox is worth. -/
noncomputable def Try.pinned : Pinned := { name := "ytodfooniahifeaa", sum := "fab32001b809f74b471b9834ea8ecabab347d3dcdb5ab267cde79d149fe3a032", checked := Try.checked }
namespace Rows
def none {H : Type} : Left H := { results := [], args := [] }

/-- 'dowellaw24.ActionParts': WHATEVER THE INPUT: true; the input reads as it did. -/
def actionPartsSpec : ChangeSpec := { name := "actionParts", fn := fun _ => fun
  | [d1, d2, d3] => { results := [.lit (.bool true)], args := [d1, d2, d3] }
  | _ => none }
def actionPartsRow : OpenClaim := { program := "ytodfooniahifeaa", sum := "fab32001b809f74b471b9834ea8ecabab347d3dcdb5ab267cde79d149fe3a032", func := "dowel/dowellaw24.ActionParts", spec := "actionParts", apart := false }
def ActionPartsSaid : Prop := actionPartsRow.holds Try.pinned (OpenSpec.ofChange actionPartsSpec)

/-- ITS FALSE NEIGHBOUR: 'it returns false'. Refute it at one input. -/
def actionPartsWrong : ChangeSpec := { name := "actionParts", fn := fun _ => fun
  | [d1, d2, d3] => { results := [.lit (.bool false)], args := [d1, d2, d3] }
  | _ => none }
def ActionPartsWrongFalsely : Prop := actionPartsRow.holds Try.pinned (OpenSpec.ofChange actionPartsWrong)

/-- 'dowellaw04.LexisKnows': WHATEVER THE INPUT: true; the input reads as it did. -/
def lexisKnowsSpec : ChangeSpec := { name := "lexisKnows", fn := fun _ => fun
  | [d] => { results := [.lit (.bool true)], args := [d] }
  | _ => none }
def lexisKnowsRow : OpenClaim := { program := "ytodfooniahifeaa", sum := "fab32001b809f74b471b9834ea8ecabab347d3dcdb5ab267cde79d149fe3a032", func := "dowel/dowellaw04.LexisKnows", spec := "lexisKnows", apart := false }
def LexisKnowsSaid : Prop := lexisKnowsRow.holds Try.pinned (OpenSpec.ofChange lexisKnowsSpec)

/-- ITS FALSE NEIGHBOUR: 'it returns false'. Refute it at one input. -/
def lexisKnowsWrong : ChangeSpec := { name := "lexisKnows", fn := fun _ => fun
  | [d] => { results := [.lit (.bool false)], args := [d] }
  | _ => none }
def LexisKnowsWrongFalsely : Prop := lexisKnowsRow.holds Try.pinned (OpenSpec.ofChange lexisKnowsWrong)

/-- 'dowellaw25.TypedTexts': WHATEVER THE INPUT: true; the input reads as it did. -/
def typedTextsSpec : ChangeSpec := { name := "typedTexts", fn := fun _ => fun
  | [d1, d2] => { results := [.lit (.bool true)], args := [d1, d2] }
  | _ => none }
def typedTextsRow : OpenClaim := { program := "ytodfooniahifeaa", sum := "fab32001b809f74b471b9834ea8ecabab347d3dcdb5ab267cde79d149fe3a032", func := "dowel/dowellaw25.TypedTexts", spec := "typedTexts", inPlace := ["internal/abi.NoEscape", "internal/bytealg.MakeNoZero"], apart := false }
def TypedTextsSaid : Prop := typedTextsRow.holds Try.pinned (OpenSpec.ofChange typedTextsSpec)

/-- ITS FALSE NEIGHBOUR: 'it returns false'. Refute it at one input. -/
def typedTextsWrong : ChangeSpec := { name := "typedTexts", fn := fun _ => fun
  | [d1, d2] => { results := [.lit (.bool false)], args := [d1, d2] }
  | _ => none }
def TypedTextsWrongFalsely : Prop := typedTextsRow.holds Try.pinned (OpenSpec.ofChange typedTextsWrong)

/- THE SECOND FORM. 'bulk': how many values and letters a reading holds, each counted each time it is reached (what is shared counts as often as it is met; a slice's spare places count too). A statement '..UptoSaid' is the law's where the arguments, and the package variables that the reading takes, are together of bulk at most 1048576: NARROWER than '..Said'. Prove '..Said' where nothing that the law and all that it calls make is longer than what came in: it says more and counts as full. Else prove '..UptoSaid'. A law counts once. -/
mutual
def uptoBulk {H : Type} : DataW H → Nat
  | .lit (.string bytes) => bytes.length + 1
  | .lit _ => 1
  | .nil => 1
  | .ptr d => uptoBulk d + 1
  | .slice elems spare => uptoBulkAll elems + uptoBulkAll spare + 1
  | .agg parts => uptoBulkAll parts + 1
  | .iface _ d => uptoBulk d + 1
  | .map entries => uptoBulkEntries entries + 1
  | .held _ => 1
def uptoBulkAll {H : Type} : List (DataW H) → Nat
  | [] => 0
  | d :: r => uptoBulk d + uptoBulkAll r
def uptoBulkEntries {H : Type} : List (Lit × DataW H) → Nat
  | [] => 0
  | x :: r => uptoBulkEntry x + uptoBulkEntries r
def uptoBulkEntry {H : Type} : Lit × DataW H → Nat
  | (.string bytes, d) => bytes.length + uptoBulk d + 1
  | (_, d) => uptoBulk d + 1
 end
def uptoSmall : (H : Type) → List (DataW H) → Bool := fun _ ds => decide (uptoBulkAll ds ≤ 1048576)
def OpenSpec.upto (s : _root_.Go.ChangeSpec) : _root_.Go.OpenSpec := { _root_.Go.OpenSpec.ofChange s with cond := some uptoSmall }

/-- 'dowellaw24.ActionParts', WHERE WHAT IT READS IS OF BULK AT MOST 1048576: true; the input reads as it did. -/
def actionPartsUptoRow : OpenClaim := { program := "ytodfooniahifeaa", sum := "fab32001b809f74b471b9834ea8ecabab347d3dcdb5ab267cde79d149fe3a032", func := "dowel/dowellaw24.ActionParts", spec := "actionParts", apart := false, narrowed := true }
def ActionPartsUptoSaid : Prop := actionPartsUptoRow.holds Try.pinned (OpenSpec.upto actionPartsSpec)

/-- 'dowellaw04.LexisKnows', WHERE WHAT IT READS IS OF BULK AT MOST 1048576: true; the input reads as it did. -/
def lexisKnowsUptoRow : OpenClaim := { program := "ytodfooniahifeaa", sum := "fab32001b809f74b471b9834ea8ecabab347d3dcdb5ab267cde79d149fe3a032", func := "dowel/dowellaw04.LexisKnows", spec := "lexisKnows", apart := false, narrowed := true }
def LexisKnowsUptoSaid : Prop := lexisKnowsUptoRow.holds Try.pinned (OpenSpec.upto lexisKnowsSpec)

/-- 'dowellaw25.TypedTexts', WHERE WHAT IT READS IS OF BULK AT MOST 1048576: true; the input reads as it did. -/
def typedTextsUptoRow : OpenClaim := { program := "ytodfooniahifeaa", sum := "fab32001b809f74b471b9834ea8ecabab347d3dcdb5ab267cde79d149fe3a032", func := "dowel/dowellaw25.TypedTexts", spec := "typedTexts", inPlace := ["internal/abi.NoEscape", "internal/bytealg.MakeNoZero"], apart := false, narrowed := true }
def TypedTextsUptoSaid : Prop := typedTextsUptoRow.holds Try.pinned (OpenSpec.upto typedTextsSpec)

end Rows
end Go.Proofs.Ytodfooniahifeaa
