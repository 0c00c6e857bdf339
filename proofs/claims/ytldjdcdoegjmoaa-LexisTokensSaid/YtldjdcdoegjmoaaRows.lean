/-
  No cell of these rows narrows 'for every input' (looked for: loops, veiled, ifaces, maps, wideKeys, modest, calm, conditions, laid).
  DERIVED. THE GIVEN ROWS OF THIS SEAT. 5 by the template 'for every input the law returns true; each argument reads behind the call as it read before'; 0 by the template 'total and deterministic' (their statements: YtldjdcdoegjmoaaTotals.lean).
  GIVEN WITH THE SEED: the statements are not yours to turn. If you find one false, say at which input.
  Laid BY PROGRAM, IN A SANDBOX (cutbox-rows.mjs): the forced cells as the released guide's own fill.sh prints them over the translation 888d075ce1775aa0… (all of the seat's roots in one cut). By AI agents, Wed Nov 11 2026. No macro, syntax, notation, axiom, sorry.
-/
import Derived.Test.YtldjdcdoegjmoaaChecked
import GoSem.Claim
import GoSem.ClaimJoined
import GoSem.ClaimMapViews
import Derived.JoinedTies
import Derived.KernelRfl
namespace Go.Proofs.Ytldjdcdoegjmoaa
/- THE CELL 'sum', in the pinned program and in every row, IS THE sha256 OF THE DUMP (.gsa) THAT YtldjdcdoegjmoaaProg.lean LOADS. Nothing in Lean hashes anything: it is a label: what it is worth is what the hold of that sum in a sandbox is worth. -/
noncomputable def Try.pinned : Pinned := { name := "ytldjdcdoegjmoaa", sum := "888d075ce1775aa0bf05a391c9c0cfc39e25a57651326e9be5daa3e446bd6b2c", checked := Try.checked }
namespace Rows
def none {H : Type} : Left H := { results := [], args := [] }

/-- 'dowellaw04.LexisNames': WHATEVER THE INPUT: true; the input reads as it did. -/
def lexisNamesSpec : ChangeSpec := { name := "lexisNames", fn := fun _ => fun
  | [] => { results := [.lit (.bool true)], args := [] }
  | _ => none }
def lexisNamesRow : OpenClaim := { program := "ytldjdcdoegjmoaa", sum := "888d075ce1775aa0bf05a391c9c0cfc39e25a57651326e9be5daa3e446bd6b2c", func := "dowel/dowellaw04.LexisNames", spec := "lexisNames", apart := false }
def LexisNamesSaid : Prop := lexisNamesRow.holds Try.pinned (OpenSpec.ofChange lexisNamesSpec)

/-- ITS FALSE NEIGHBOUR: 'it returns false'. Refute it at one input. -/
def lexisNamesWrong : ChangeSpec := { name := "lexisNames", fn := fun _ => fun
  | [] => { results := [.lit (.bool false)], args := [] }
  | _ => none }
def LexisNamesWrongFalsely : Prop := lexisNamesRow.holds Try.pinned (OpenSpec.ofChange lexisNamesWrong)

/-- 'dowellaw04.LexisKnows': WHATEVER THE INPUT: true; the input reads as it did. -/
def lexisKnowsSpec : ChangeSpec := { name := "lexisKnows", fn := fun _ => fun
  | [d] => { results := [.lit (.bool true)], args := [d] }
  | _ => none }
def lexisKnowsRow : OpenClaim := { program := "ytldjdcdoegjmoaa", sum := "888d075ce1775aa0bf05a391c9c0cfc39e25a57651326e9be5daa3e446bd6b2c", func := "dowel/dowellaw04.LexisKnows", spec := "lexisKnows", apart := false }
def LexisKnowsSaid : Prop := lexisKnowsRow.holds Try.pinned (OpenSpec.ofChange lexisKnowsSpec)

/-- ITS FALSE NEIGHBOUR: 'it returns false'. Refute it at one input. -/
def lexisKnowsWrong : ChangeSpec := { name := "lexisKnows", fn := fun _ => fun
  | [d] => { results := [.lit (.bool false)], args := [d] }
  | _ => none }
def LexisKnowsWrongFalsely : Prop := lexisKnowsRow.holds Try.pinned (OpenSpec.ofChange lexisKnowsWrong)

/-- 'dowellaw04.LexisNexts': WHATEVER THE INPUT: true; the input reads as it did. -/
def lexisNextsSpec : ChangeSpec := { name := "lexisNexts", fn := fun _ => fun
  | [d1, d2] => { results := [.lit (.bool true)], args := [d1, d2] }
  | _ => none }
def lexisNextsRow : OpenClaim := { program := "ytldjdcdoegjmoaa", sum := "888d075ce1775aa0bf05a391c9c0cfc39e25a57651326e9be5daa3e446bd6b2c", func := "dowel/dowellaw04.LexisNexts", spec := "lexisNexts", inPlace := ["internal/bytealg.IndexByteString"], apart := false }
def LexisNextsSaid : Prop := lexisNextsRow.holds Try.pinned (OpenSpec.ofChange lexisNextsSpec)

/-- ITS FALSE NEIGHBOUR: 'it returns false'. Refute it at one input. -/
def lexisNextsWrong : ChangeSpec := { name := "lexisNexts", fn := fun _ => fun
  | [d1, d2] => { results := [.lit (.bool false)], args := [d1, d2] }
  | _ => none }
def LexisNextsWrongFalsely : Prop := lexisNextsRow.holds Try.pinned (OpenSpec.ofChange lexisNextsWrong)

/-- 'dowellaw04.LexisEaches': WHATEVER THE INPUT: true; the input reads as it did. -/
def lexisEachesSpec : ChangeSpec := { name := "lexisEaches", fn := fun _ => fun
  | [d1, d2, d3] => { results := [.lit (.bool true)], args := [d1, d2, d3] }
  | _ => none }
def lexisEachesRow : OpenClaim := { program := "ytldjdcdoegjmoaa", sum := "888d075ce1775aa0bf05a391c9c0cfc39e25a57651326e9be5daa3e446bd6b2c", func := "dowel/dowellaw04.LexisEaches", spec := "lexisEaches", inPlace := ["internal/bytealg.IndexByteString"], unfollowed := true, recurses := true, apart := false }
def LexisEachesSaid : Prop := lexisEachesRow.holds Try.pinned (OpenSpec.ofChange lexisEachesSpec)

/-- ITS FALSE NEIGHBOUR: 'it returns false'. Refute it at one input. -/
def lexisEachesWrong : ChangeSpec := { name := "lexisEaches", fn := fun _ => fun
  | [d1, d2, d3] => { results := [.lit (.bool false)], args := [d1, d2, d3] }
  | _ => none }
def LexisEachesWrongFalsely : Prop := lexisEachesRow.holds Try.pinned (OpenSpec.ofChange lexisEachesWrong)

/-- 'dowellaw04.LexisTokens': WHATEVER THE INPUT: true; the input reads as it did. -/
def lexisTokensSpec : ChangeSpec := { name := "lexisTokens", fn := fun _ => fun
  | [d1, d2] => { results := [.lit (.bool true)], args := [d1, d2] }
  | _ => none }
def lexisTokensRow : OpenClaim := { program := "ytldjdcdoegjmoaa", sum := "888d075ce1775aa0bf05a391c9c0cfc39e25a57651326e9be5daa3e446bd6b2c", func := "dowel/dowellaw04.LexisTokens", spec := "lexisTokens", inPlace := ["internal/bytealg.IndexByteString"], unfollowed := true, recurses := true, apart := false }
def LexisTokensSaid : Prop := lexisTokensRow.holds Try.pinned (OpenSpec.ofChange lexisTokensSpec)

/-- ITS FALSE NEIGHBOUR: 'it returns false'. Refute it at one input. -/
def lexisTokensWrong : ChangeSpec := { name := "lexisTokens", fn := fun _ => fun
  | [d1, d2] => { results := [.lit (.bool false)], args := [d1, d2] }
  | _ => none }
def LexisTokensWrongFalsely : Prop := lexisTokensRow.holds Try.pinned (OpenSpec.ofChange lexisTokensWrong)

/- THE SECOND FORM. 'bulk': how many values and letters a reading holds, each counted each time it is reached (what is shared counts as often as it is met; a slice's spare places count too). A statement '..UptoSaid' is the law's where the arguments, and the package variables that the reading takes, are together of bulk at most 1048576: NARROWER than '..Said'. Prove '..Said' where nothing that the law and all that it calls make is longer than what came in: it says more and counts as full. Else prove '..UptoSaid'. A law counts once. -/
mutual
def uptoBulk {H : Type} : DataW H → Nat
  | .lit (.string bytes) => bytes.length + 1
  | .lit _ => 1
  | .nil => 1
  | .ptr d => uptoBulk d + 1
  | .slice elems spare => uptoBulkAll elems + uptoBulkAll spare + 1
  | .agg parts => uptoBulkAll parts + 1
  | .iface _ d => uptoBulk d + 1
  | .map entries => uptoBulkEntries entries + 1
  | .held _ => 1
def uptoBulkAll {H : Type} : List (DataW H) → Nat
  | [] => 0
  | d :: r => uptoBulk d + uptoBulkAll r
def uptoBulkEntries {H : Type} : List (Lit × DataW H) → Nat
  | [] => 0
  | x :: r => uptoBulkEntry x + uptoBulkEntries r
def uptoBulkEntry {H : Type} : Lit × DataW H → Nat
  | (.string bytes, d) => bytes.length + uptoBulk d + 1
  | (_, d) => uptoBulk d + 1
 end
def uptoSmall : (H : Type) → List (DataW H) → Bool := fun _ ds => decide (uptoBulkAll ds ≤ 1048576)
def OpenSpec.upto (s : _root_.Go.ChangeSpec) : _root_.Go.OpenSpec := { _root_.Go.OpenSpec.ofChange s with cond := some uptoSmall }

/-- 'dowellaw04.LexisNames', WHERE WHAT IT READS IS OF BULK AT MOST 1048576: true; the input reads as it did. -/
def lexisNamesUptoRow : OpenClaim := { program := "ytldjdcdoegjmoaa", sum := "888d075ce1775aa0bf05a391c9c0cfc39e25a57651326e9be5daa3e446bd6b2c", func := "dowel/dowellaw04.LexisNames", spec := "lexisNames", apart := false, narrowed := true }
def LexisNamesUptoSaid : Prop := lexisNamesUptoRow.holds Try.pinned (OpenSpec.upto lexisNamesSpec)

/-- 'dowellaw04.LexisKnows', WHERE WHAT IT READS IS OF BULK AT MOST 1048576: true; the input reads as it did. -/
def lexisKnowsUptoRow : OpenClaim := { program := "ytldjdcdoegjmoaa", sum := "888d075ce1775aa0bf05a391c9c0cfc39e25a57651326e9be5daa3e446bd6b2c", func := "dowel/dowellaw04.LexisKnows", spec := "lexisKnows", apart := false, narrowed := true }
def LexisKnowsUptoSaid : Prop := lexisKnowsUptoRow.holds Try.pinned (OpenSpec.upto lexisKnowsSpec)

/-- 'dowellaw04.LexisNexts', WHERE WHAT IT READS IS OF BULK AT MOST 1048576: true; the input reads as it did. -/
def lexisNextsUptoRow : OpenClaim := { program := "ytldjdcdoegjmoaa", sum := "888d075ce1775aa0bf05a391c9c0cfc39e25a57651326e9be5daa3e446bd6b2c", func := "dowel/dowellaw04.LexisNexts", spec := "lexisNexts", inPlace := ["internal/bytealg.IndexByteString"], apart := false, narrowed := true }
def LexisNextsUptoSaid : Prop := lexisNextsUptoRow.holds Try.pinned (OpenSpec.upto lexisNextsSpec)

/-- 'dowellaw04.LexisEaches', WHERE WHAT IT READS IS OF BULK AT MOST 1048576: true; the input reads as it did. -/
def lexisEachesUptoRow : OpenClaim := { program := "ytldjdcdoegjmoaa", sum := "888d075ce1775aa0bf05a391c9c0cfc39e25a57651326e9be5daa3e446bd6b2c", func := "dowel/dowellaw04.LexisEaches", spec := "lexisEaches", inPlace := ["internal/bytealg.IndexByteString"], unfollowed := true, recurses := true, apart := false, narrowed := true }
def LexisEachesUptoSaid : Prop := lexisEachesUptoRow.holds Try.pinned (OpenSpec.upto lexisEachesSpec)

/-- 'dowellaw04.LexisTokens', WHERE WHAT IT READS IS OF BULK AT MOST 1048576: true; the input reads as it did. -/
def lexisTokensUptoRow : OpenClaim := { program := "ytldjdcdoegjmoaa", sum := "888d075ce1775aa0bf05a391c9c0cfc39e25a57651326e9be5daa3e446bd6b2c", func := "dowel/dowellaw04.LexisTokens", spec := "lexisTokens", inPlace := ["internal/bytealg.IndexByteString"], unfollowed := true, recurses := true, apart := false, narrowed := true }
def LexisTokensUptoSaid : Prop := lexisTokensUptoRow.holds Try.pinned (OpenSpec.upto lexisTokensSpec)

end Rows
end Go.Proofs.Ytldjdcdoegjmoaa
