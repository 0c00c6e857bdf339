import Derived.Test.YtldjdcdoegjmoaaDoorV1
import Derived.Test.YtldjdcdoegjmoaaDoorV24
namespace Go.Proofs.YtldjdcdoegjmoaaDoor.P
open Go.RowKit Go.Proofs.YtldjdcdoegjmoaaDoorW.PrintWords Go.Proofs.YtldjdcdoegjmoaaDoorW.PrintLast Go.Proofs.YtldjdcdoegjmoaaDoorW.PrintMore
set_option linter.unusedVariables false
set_option linter.unusedSimpArgs false
def lexis_quoted.f (a0 : ByteArray) : Option (ByteArray) := if a0.size ≤ 65536 then some (Q.qS a0) else none
theorem lexis_quoted.calls (a0 : ByteArray) (r : ByteArray) (w : World) (h : lexis_quoted.f a0 = some r) :
    Calls Tryd.prog 37 #[.string a0] w fun e w' => e = .returned (.string r) ∧ Below w.heap.size w w' := by
  unfold lexis_quoted.f at h
  split at h
  · rename_i hs
    obtain rfl := Option.some.inj h
    exact Q.quoted_c a0 hs w
  · cases h
end Go.Proofs.YtldjdcdoegjmoaaDoor.P
