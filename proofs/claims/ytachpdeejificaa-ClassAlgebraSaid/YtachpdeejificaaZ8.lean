import Derived.Test.YtachpdeejificaaZ1
import Derived.Test.YtachpdeejificaaZ2
import Derived.Test.YtachpdeejificaaZ7
namespace Go.Proofs.Ytachpdeejificaa.P
open Go.RowKit Go.Proofs.YtachpdeejificaaW.PrintWords Go.Proofs.YtachpdeejificaaW.PrintLast Go.Proofs.YtachpdeejificaaW.PrintMore
set_option linter.unusedVariables false
set_option linter.unusedSimpArgs false
def class_Has.f (a0_0 : Int) (a0_1 : Int) (a0_2 : Int) (a0_3 : Int) (a1 : Int) : Option (Bool) := if okB a0_0 a0_1 a0_2 a0_3 = true ∧ 0 ≤ a1 ∧ a1 < 256 then some ((cI a0_0 a0_1 a0_2 a0_3).mem a1.toNat) else none
theorem class_Has.calls (a0_0 : Int) (a0_1 : Int) (a0_2 : Int) (a0_3 : Int) (a1 : Int) (r : Bool) (w : World) (h : class_Has.f a0_0 a0_1 a0_2 a0_3 a1 = some r) :
    Calls Try.prog 15 #[.agg #[.int .u64 a0_0, .int .u64 a0_1, .int .u64 a0_2, .int .u64 a0_3], .int .u8 a1] w fun e w' => e = .returned (.bool r) ∧ Below w.heap.size w w' := by
  unfold class_Has.f at h
  split at h
  · next q =>
    obtain rfl := Option.some.inj h
    rw [cI_V q.1]
    have e : a1 = ((a1.toNat : Nat) : Int) := by omega
    have := has_c _ (cI_ok q.1) a1.toNat (by omega) w
    rw [← e] at this
    exact this
  · cases h
end Go.Proofs.Ytachpdeejificaa.P
namespace Go.Proofs.Ytachpdeejificaa.P
open Go.RowKit Go.Proofs.YtachpdeejificaaW.PrintWords Go.Proofs.YtachpdeejificaaW.PrintLast Go.Proofs.YtachpdeejificaaW.PrintMore
set_option linter.unusedVariables false
set_option linter.unusedSimpArgs false
def class_Not.f (a0_0 : Int) (a0_1 : Int) (a0_2 : Int) (a0_3 : Int) : Option (Int × Int × Int × Int) := if okB a0_0 a0_1 a0_2 a0_3 = true then some (c4 ((cI a0_0 a0_1 a0_2 a0_3).not)) else none
theorem class_Not.calls (a0_0 : Int) (a0_1 : Int) (a0_2 : Int) (a0_3 : Int) (r1 : Int) (r2 : Int) (r3 : Int) (r4 : Int) (w : World) (h : class_Not.f a0_0 a0_1 a0_2 a0_3 = some (r1, r2, r3, r4)) :
    Calls Try.prog 21 #[.agg #[.int .u64 a0_0, .int .u64 a0_1, .int .u64 a0_2, .int .u64 a0_3]] w fun e w' => e = .returned (.agg #[.int .u64 r1, .int .u64 r2, .int .u64 r3, .int .u64 r4]) ∧ Below w.heap.size w w' := by
  unfold class_Not.f at h
  split at h
  · next q =>
    rw [cI_V q, ← c4_V (Option.some.inj h)]
    exact not_c _ (cI_ok q) w
  · cases h
end Go.Proofs.Ytachpdeejificaa.P
namespace Go.Proofs.Ytachpdeejificaa.P
open Go.RowKit Go.Proofs.YtachpdeejificaaW.PrintWords Go.Proofs.YtachpdeejificaaW.PrintLast Go.Proofs.YtachpdeejificaaW.PrintMore
set_option linter.unusedVariables false
set_option linter.unusedSimpArgs false
def class_Count.f (a0_0 : Int) (a0_1 : Int) (a0_2 : Int) (a0_3 : Int) : Option (Int) := if okB a0_0 a0_1 a0_2 a0_3 = true then some ((cI a0_0 a0_1 a0_2 a0_3).bytes.length : Int) else none
theorem class_Count.calls (a0_0 : Int) (a0_1 : Int) (a0_2 : Int) (a0_3 : Int) (r : Int) (w : World) (h : class_Count.f a0_0 a0_1 a0_2 a0_3 = some r) :
    Calls Try.prog 25 #[.agg #[.int .u64 a0_0, .int .u64 a0_1, .int .u64 a0_2, .int .u64 a0_3]] w fun e w' => e = .returned (.int .i64 r) ∧ Below w.heap.size w w' := by
  unfold class_Count.f at h
  split at h
  · next q =>
    obtain rfl := Option.some.inj h
    rw [cI_V q]
    exact count_c _ (cI_ok q) w
  · cases h
end Go.Proofs.Ytachpdeejificaa.P
