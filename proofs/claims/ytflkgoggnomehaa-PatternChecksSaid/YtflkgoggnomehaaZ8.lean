import Derived.Test.YtflkgoggnomehaaZ3
import Derived.Test.YtflkgoggnomehaaZ4
import Derived.Test.YtflkgoggnomehaaZ5
namespace Go.Proofs.Ytflkgoggnomehaa.P
open Go.RowKit Go.Proofs.YtflkgoggnomehaaW.PrintWords Go.Proofs.YtflkgoggnomehaaW.PrintLast Go.Proofs.YtflkgoggnomehaaW.PrintMore
set_option linter.unusedVariables false
set_option linter.unusedSimpArgs false
def dowelref03_Bytes.f (a0_0 : Int) (a0_1 : Int) (a0_2 : Int) (a0_3 : Int) : Option (List Int) := if okB a0_0 a0_1 a0_2 a0_3 = true then some ((cI a0_0 a0_1 a0_2 a0_3).bytes.map fun (b : Nat) => (b : Int)) else none
theorem dowelref03_Bytes.calls (a0_0 : Int) (a0_1 : Int) (a0_2 : Int) (a0_3 : Int) (r : List Int) (w : World) (h : dowelref03_Bytes.f a0_0 a0_1 a0_2 a0_3 = some r) :
    Calls Try.prog 94 #[.agg #[.int .u64 a0_0, .int .u64 a0_1, .int .u64 a0_2, .int .u64 a0_3]] w fun e w' => ∃ v0_ : Value, e = .returned (v0_) ∧ Kd.R (Kd.int .u8) 5 w' w.heap.size (fun _ => True) v0_ r ∧ Below w.heap.size w w' := by
  unfold dowelref03_Bytes.f at h
  split at h
  · next q =>
    obtain rfl := Option.some.inj h
    rw [cI_V q]
    refine (bytes_c _ (cI_ok q) w).mono ?_
    rintro e w' ⟨v, he, ho, hb⟩
    refine ⟨v, he, Kd.R_of_own ?_ (fun _ _ => trivial), hb⟩
    rw [List.length_map]
    have e2 : encs (Value.int .u8) ((cI a0_0 a0_1 a0_2 a0_3).bytes.map fun (b : Nat) => (b : Int)) = u8s (cI a0_0 a0_1 a0_2 a0_3).bytes := by unfold encs u8s; rw [List.map_map]; rfl
    rw [e2]
    exact ho
  · cases h
end Go.Proofs.Ytflkgoggnomehaa.P
