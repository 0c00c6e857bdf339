/- The numbers of this layer are the document's: the walk. No condition. -/
import Derived.Test.YtkilogjoncnmgaaProg
import Derived.WalkKit
import Derived.KernelRfl
namespace Go.Proofs.Ytkilogjoncnmgaa
open Go.RowKit
set_option maxRecDepth 100000 in
theorem lexisNames_w (w : World) : Calls Try.prog 4 #[] w fun e w' => e = .returned (.bool true) ∧ Below w.heap.size w w' := by
  go_enter Try.func4, Try.ntmps4
  go_wp2
  go_ret
  exact ⟨rfl, Below.refl _ _⟩
end Go.Proofs.Ytkilogjoncnmgaa
