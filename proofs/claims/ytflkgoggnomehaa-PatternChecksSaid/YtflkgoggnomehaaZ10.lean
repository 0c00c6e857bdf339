import Derived.Test.YtflkgoggnomehaaZ3
import Derived.Test.YtflkgoggnomehaaZ4
import Derived.Test.YtflkgoggnomehaaZ5
import Derived.Test.YtflkgoggnomehaaZ9
namespace Go.Proofs.Ytflkgoggnomehaa.P
open Go.RowKit Go.Proofs.YtflkgoggnomehaaW.PrintWords Go.Proofs.YtflkgoggnomehaaW.PrintLast Go.Proofs.YtflkgoggnomehaaW.PrintMore
set_option linter.unusedVariables false
set_option linter.unusedSimpArgs false
def dowelref03_Hex.f (a0 : Int) : Option (ByteArray) := if 0 ≤ a0 ∧ a0 < 256 then some (HexT a0.toNat) else none
theorem dowelref03_Hex.calls (a0 : Int) (r : ByteArray) (w : World) (h : dowelref03_Hex.f a0 = some r) :
    Calls Try.prog 116 #[.int .u8 a0] w fun e w' => e = .returned (.string r) ∧ Drawn0 w w' := by
  unfold dowelref03_Hex.f at h
  split at h
  · next q =>
    obtain rfl := Option.some.inj h
    have := hexR_c a0.toNat (by omega) w
    rw [Int.toNat_of_nonneg q.1] at this
    refine this.mono ?_
    rintro e w' ⟨he, hn⟩
    exact ⟨he, ⟨hn⟩⟩
  · cases h
end Go.Proofs.Ytflkgoggnomehaa.P
namespace Go.Proofs.Ytflkgoggnomehaa.P
open Go.RowKit Go.Proofs.YtflkgoggnomehaaW.PrintWords Go.Proofs.YtflkgoggnomehaaW.PrintLast Go.Proofs.YtflkgoggnomehaaW.PrintMore
set_option linter.unusedVariables false
set_option linter.unusedSimpArgs false
def dowelref03_Not.f (a0_0 : Int) (a0_1 : Int) (a0_2 : Int) (a0_3 : Int) : Option (Int × Int × Int × Int) := if okB a0_0 a0_1 a0_2 a0_3 = true then some (c4 ((cI a0_0 a0_1 a0_2 a0_3).not)) else none
theorem dowelref03_Not.calls (a0_0 : Int) (a0_1 : Int) (a0_2 : Int) (a0_3 : Int) (r1 : Int) (r2 : Int) (r3 : Int) (r4 : Int) (w : World) (h : dowelref03_Not.f a0_0 a0_1 a0_2 a0_3 = some (r1, r2, r3, r4)) :
    Calls Try.prog 117 #[.agg #[.int .u64 a0_0, .int .u64 a0_1, .int .u64 a0_2, .int .u64 a0_3]] w fun e w' => e = .returned (.agg #[.int .u64 r1, .int .u64 r2, .int .u64 r3, .int .u64 r4]) ∧ Below w.heap.size w w' := by
  unfold dowelref03_Not.f at h
  split at h
  · next q =>
    rw [cI_V q, ← c4_V (Option.some.inj h)]
    exact notR_c _ (cI_ok q) w
  · cases h
end Go.Proofs.Ytflkgoggnomehaa.P
