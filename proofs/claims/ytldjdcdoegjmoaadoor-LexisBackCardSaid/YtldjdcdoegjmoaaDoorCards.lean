/-
  DERIVED. GIVEN WITH THE SEED: THE CARDS: each row of YtldjdcdoegjmoaaDoorRows.lean that lists a variable, with what it lists TIED to the program's text (the seventh form; the later family's looks); each row that meets fmt, with fmt's text TOLD by the authors' own Lean function (tested against real Go, not proved from fmt's source: count such statements apart). THE CARD IS WHAT COUNTS. Prove the row's statement (the work); the ties are given (YtldjdcdoegjmoaaDoorTie.lean); close each card by the builder's one call (the guide's Derived/Test/ToyasCard.lean, 'card_holds'). Laid BY PROGRAM, IN A SANDBOX (cutbox-door.mjs). By AI agents, Wed Nov 11 2026. No macro, syntax, notation, axiom, sorry.
-/
import Derived.Test.YtldjdcdoegjmoaaDoorRows
import GoSem.ClaimSeven
namespace Go.Proofs.YtldjdcdoegjmoaaDoor
namespace Rows

/-- THE TIED CARD OF 'dowellaw04.LexisSpells'. -/
def lexisSpellsCard : Claim7 := { stood := { row := lexisSpellsRow, standIns := [], harness := (true, "bad8a1d41c005865177bc594a8c04ec10fe3d3e4cc61ece520a3951ccd6f6ad6"), looks := false }, kinds := [], alts := [], laidByText := true, laidKinds := [.data, .data, .data], laidTests := true, laidLooks := .later }
def LexisSpellsCardSaid : Prop := Claim7.holds Tryd.pinned (.plain (OpenSpec.ofChange lexisSpellsSpec)) lexisSpellsCard

/-- THE TIED CARD OF 'dowellaw04.LexisWrites'. -/
def lexisWritesCard : Claim7 := { stood := { row := lexisWritesRow, standIns := [], harness := (true, "bad8a1d41c005865177bc594a8c04ec10fe3d3e4cc61ece520a3951ccd6f6ad6"), looks := false }, kinds := [], alts := [], laidByText := true, laidKinds := [.data, .data, .data], laidTests := true, laidLooks := .later }
def LexisWritesCardSaid : Prop := Claim7.holds Tryd.pinned (.plain (OpenSpec.ofChange lexisWritesSpec)) lexisWritesCard

/-- THE TIED CARD OF 'dowellaw04.LexisTiles'. -/
def lexisTilesCard : Claim7 := { stood := { row := lexisTilesRow, standIns := [], harness := (true, "bad8a1d41c005865177bc594a8c04ec10fe3d3e4cc61ece520a3951ccd6f6ad6"), looks := false }, kinds := [], alts := [], laidByText := true, laidKinds := [.data, .data, .data], laidTests := true, laidLooks := .later }
def LexisTilesCardSaid : Prop := Claim7.holds Tryd.pinned (.plain (OpenSpec.ofChange lexisTilesSpec)) lexisTilesCard

/-- THE TIED CARD OF 'dowellaw04.LexisBlanks'. -/
def lexisBlanksCard : Claim7 := { stood := { row := lexisBlanksRow, standIns := [], harness := (true, "bad8a1d41c005865177bc594a8c04ec10fe3d3e4cc61ece520a3951ccd6f6ad6"), looks := false }, kinds := [], alts := [], laidByText := true, laidKinds := [.data, .data, .data], laidTests := true, laidLooks := .later }
def LexisBlanksCardSaid : Prop := Claim7.holds Tryd.pinned (.plain (OpenSpec.ofChange lexisBlanksSpec)) lexisBlanksCard

/-- THE TIED CARD OF 'dowellaw04.LexisBack'. -/
def lexisBackCard : Claim7 := { stood := { row := lexisBackRow, standIns := [], harness := (true, "bad8a1d41c005865177bc594a8c04ec10fe3d3e4cc61ece520a3951ccd6f6ad6"), looks := false }, kinds := [], alts := [], laidByText := true, laidKinds := [.data, .data, .data], laidTests := true, laidLooks := .later }
def LexisBackCardSaid : Prop := Claim7.holds Tryd.pinned (.plain (OpenSpec.ofChange lexisBackSpec)) lexisBackCard

/-- THE SECOND FORM's CARD OF 'dowellaw04.LexisSpells'. -/
def lexisSpellsUptoCard : Claim7 := { stood := { row := lexisSpellsUptoRow, standIns := [], harness := (true, "bad8a1d41c005865177bc594a8c04ec10fe3d3e4cc61ece520a3951ccd6f6ad6"), looks := false }, kinds := [], alts := [], laidByText := true, laidKinds := [.data, .data, .data], laidTests := true, laidLooks := .later }
def LexisSpellsUptoCardSaid : Prop := Claim7.holds Tryd.pinned (.plain (OpenSpec.upto lexisSpellsSpec)) lexisSpellsUptoCard

/-- THE SECOND FORM's CARD OF 'dowellaw04.LexisWrites'. -/
def lexisWritesUptoCard : Claim7 := { stood := { row := lexisWritesUptoRow, standIns := [], harness := (true, "bad8a1d41c005865177bc594a8c04ec10fe3d3e4cc61ece520a3951ccd6f6ad6"), looks := false }, kinds := [], alts := [], laidByText := true, laidKinds := [.data, .data, .data], laidTests := true, laidLooks := .later }
def LexisWritesUptoCardSaid : Prop := Claim7.holds Tryd.pinned (.plain (OpenSpec.upto lexisWritesSpec)) lexisWritesUptoCard

/-- THE SECOND FORM's CARD OF 'dowellaw04.LexisTiles'. -/
def lexisTilesUptoCard : Claim7 := { stood := { row := lexisTilesUptoRow, standIns := [], harness := (true, "bad8a1d41c005865177bc594a8c04ec10fe3d3e4cc61ece520a3951ccd6f6ad6"), looks := false }, kinds := [], alts := [], laidByText := true, laidKinds := [.data, .data, .data], laidTests := true, laidLooks := .later }
def LexisTilesUptoCardSaid : Prop := Claim7.holds Tryd.pinned (.plain (OpenSpec.upto lexisTilesSpec)) lexisTilesUptoCard

/-- THE SECOND FORM's CARD OF 'dowellaw04.LexisBlanks'. -/
def lexisBlanksUptoCard : Claim7 := { stood := { row := lexisBlanksUptoRow, standIns := [], harness := (true, "bad8a1d41c005865177bc594a8c04ec10fe3d3e4cc61ece520a3951ccd6f6ad6"), looks := false }, kinds := [], alts := [], laidByText := true, laidKinds := [.data, .data, .data], laidTests := true, laidLooks := .later }
def LexisBlanksUptoCardSaid : Prop := Claim7.holds Tryd.pinned (.plain (OpenSpec.upto lexisBlanksSpec)) lexisBlanksUptoCard

/-- THE SECOND FORM's CARD OF 'dowellaw04.LexisBack'. -/
def lexisBackUptoCard : Claim7 := { stood := { row := lexisBackUptoRow, standIns := [], harness := (true, "bad8a1d41c005865177bc594a8c04ec10fe3d3e4cc61ece520a3951ccd6f6ad6"), looks := false }, kinds := [], alts := [], laidByText := true, laidKinds := [.data, .data, .data], laidTests := true, laidLooks := .later }
def LexisBackUptoCardSaid : Prop := Claim7.holds Tryd.pinned (.plain (OpenSpec.upto lexisBackSpec)) lexisBackUptoCard
end Rows
end Go.Proofs.YtldjdcdoegjmoaaDoor
