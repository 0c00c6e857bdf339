import Derived.Test.YtldjdcdoegjmoaaZ0
import Derived.Test.YtldjdcdoegjmoaaZ17
namespace Go.Proofs.Ytldjdcdoegjmoaa.P
open Go.RowKit Go.Proofs.YtldjdcdoegjmoaaW.PrintWords Go.Proofs.YtldjdcdoegjmoaaW.PrintLast Go.Proofs.YtldjdcdoegjmoaaW.PrintMore
set_option linter.unusedVariables false
set_option linter.unusedSimpArgs false
def dowelref03_Parse.f (a0 : ByteArray) (a1 : Int) : Option (Int × Int × Int × Int × Int × Int × Int) := if a0.size ≤ smallN ∧ -9223372036854775808 ≤ a1 ∧ a1 ≤ 9223372036854775807 then some (((parseI a0 a1).1.c0 : Int), ((parseI a0 a1).1.c1 : Int), ((parseI a0 a1).1.c2 : Int), ((parseI a0 a1).1.c3 : Int), ((parseI a0 a1).2.1 : Int), ((parseI a0 a1).2.2.1 : Int), ((parseI a0 a1).2.2.2 : Int)) else none
theorem dowelref03_Parse.calls (a0 : ByteArray) (a1 : Int) (r1 : Int) (r2 : Int) (r3 : Int) (r4 : Int) (r5 : Int) (r6 : Int) (r7 : Int) (w : World) (h : dowelref03_Parse.f a0 a1 = some (r1, r2, r3, r4, r5, r6, r7)) :
 Calls Try.prog 48 #[.string a0, .int .i64 a1] w fun e w' => e = .returned (.tuple #[.agg #[.int .u64 r1, .int .u64 r2, .int .u64 r3, .int .u64 r4], .int .i64 r5, .agg #[.int .i64 r6, .int .i64 r7]]) ∧ Below w.heap.size w w' := by
 unfold dowelref03_Parse.f at h
 split at h
 · next q =>
   injection h with h
   simp only [Prod.mk.injEq] at h
   obtain ⟨rfl, rfl, rfl, rfl, rfl, rfl, rfl⟩ := h
   exact (parseR_c a0 q.1 a1 q.2 w).mono fun _ _ h => h
 cases h
end Go.Proofs.Ytldjdcdoegjmoaa.P
