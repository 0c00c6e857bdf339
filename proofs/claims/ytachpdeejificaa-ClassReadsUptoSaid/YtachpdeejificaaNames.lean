/- The numbers of this layer are the document's: the walk. -/
import Derived.Test.YtachpdeejificaaProg
import Derived.Test.YtachpdeejificaaKit
import Derived.KernelRfl
set_option linter.unusedVariables false
set_option linter.unusedSimpArgs false
namespace Go.Proofs.Ytachpdeejificaa
open Go.RowKit
theorem eqCls (x0 x1 x2 x3 y0 y1 y2 y3 : Int) (w : World) :
    (Op.equalIn 10000 24 (.agg #[.int .u64 x0, .int .u64 x1, .int .u64 x2, .int .u64 x3]) (.agg #[.int .u64 y0, .int .u64 y1, .int .u64 y2, .int .u64 y3])).run Try.prog w =
      .ok (x0 == y0 && (x1 == y1 && (x2 == y2 && x3 == y3))) w :=
  run_equalIn_arr4 w 9998 24 22 (by kernel_rfl) x0 x1 x2 x3 y0 y1 y2 y3 Try.underlying24 Try.underlying22 (fun w => by kernel_rfl)
set_option maxRecDepth 100000 in
theorem classNames (w : World) : Calls Try.prog 3 #[] w fun e w' => e = .returned (.bool true) ∧ Below w.heap.size w w' := by
  have h := fun x0 x1 x2 x3 y0 y1 y2 y3 => eqCls x0 x1 x2 x3 y0 y1 y2 y3
  go_enter Try.func3, Try.ntmps3
  go_wp2
  go_ret
  exact ⟨rfl, Below.refl _ _⟩
end Go.Proofs.Ytachpdeejificaa
