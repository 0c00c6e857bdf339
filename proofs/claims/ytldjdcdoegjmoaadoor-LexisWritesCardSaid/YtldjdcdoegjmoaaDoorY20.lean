import Derived.Test.YtldjdcdoegjmoaaDoorY1
import Derived.Test.YtldjdcdoegjmoaaDoorY19
namespace Go.Proofs.YtldjdcdoegjmoaaDoor.P
open Go.RowKit Go.Proofs.YtldjdcdoegjmoaaDoorW.PrintWords Go.Proofs.YtldjdcdoegjmoaaDoorW.PrintLast Go.Proofs.YtldjdcdoegjmoaaDoorW.PrintMore
set_option linter.unusedVariables false
set_option linter.unusedSimpArgs false
def dowelref03_Hex.f (a0 : Int) : Option (ByteArray) := if 0 ≤ a0 ∧ a0 < 256 then some (HexT a0.toNat) else none
theorem dowelref03_Hex.calls (a0 : Int) (r : ByteArray) (w : World) (h : dowelref03_Hex.f a0 = some r) :
    Calls Tryd.prog 70 #[.int .u8 a0] w fun e w' => e = .returned (.string r) ∧ Drawn0 w w' := by
  unfold dowelref03_Hex.f at h
  split at h
  · next q =>
    obtain rfl := Option.some.inj h
    have := hexR_c a0.toNat (by omega) w
    rw [Int.toNat_of_nonneg q.1] at this
    refine this.mono ?_
    rintro e w' ⟨he, hn⟩
    exact ⟨he, ⟨hn⟩⟩
  · cases h
end Go.Proofs.YtldjdcdoegjmoaaDoor.P
