import Derived.Test.YtldjdcdoegjmoaaDoorB8
set_option linter.unusedVariables false
namespace Go.Proofs.YtldjdcdoegjmoaaDoor
def cI (x0 x1 x2 x3 : Int) : Cls := ⟨x0.toNat, x1.toNat, x2.toNat, x3.toNat⟩
def okW (x : Int) : Bool := decide (0 ≤ x) && decide (x < 18446744073709551616)
def okB (x0 x1 x2 x3 : Int) : Bool := okW x0 && (okW x1 && (okW x2 && okW x3))
theorem okW_iff {x : Int} : okW x = true ↔ 0 ≤ x ∧ x < 18446744073709551616 := by unfold okW; simp
theorem okB_iff {x0 x1 x2 x3 : Int} : okB x0 x1 x2 x3 = true ↔ (0 ≤ x0 ∧ x0 < 18446744073709551616) ∧ (0 ≤ x1 ∧ x1 < 18446744073709551616) ∧ (0 ≤ x2 ∧ x2 < 18446744073709551616) ∧ (0 ≤ x3 ∧ x3 < 18446744073709551616) := by
  unfold okB; simp only [Bool.and_eq_true, okW_iff]
theorem cI_ok {x0 x1 x2 x3 : Int} (h : okB x0 x1 x2 x3 = true) : (cI x0 x1 x2 x3).ok := by
  rw [okB_iff] at h
  unfold Cls.ok cI w64
  dsimp only
  omega
theorem cI_V {x0 x1 x2 x3 : Int} (h : okB x0 x1 x2 x3 = true) : (.agg #[.int .u64 x0, .int .u64 x1, .int .u64 x2, .int .u64 x3] : Value) = V4 (cI x0 x1 x2 x3) := by
  rw [okB_iff] at h
  unfold V4 cI
  dsimp only
  rw [Int.toNat_of_nonneg h.1.1, Int.toNat_of_nonneg h.2.1.1, Int.toNat_of_nonneg h.2.2.1.1, Int.toNat_of_nonneg h.2.2.2.1]
def c4 (c : Cls) : Int × Int × Int × Int := ((c.c0 : Int), (c.c1 : Int), (c.c2 : Int), (c.c3 : Int))
theorem c4_V {c : Cls} {r1 r2 r3 r4 : Int} (h : c4 c = (r1, r2, r3, r4)) : V4 c = .agg #[.int .u64 r1, .int .u64 r2, .int .u64 r3, .int .u64 r4] := by
  unfold c4 at h
  simp only [Prod.mk.injEq] at h
  obtain ⟨rfl, rfl, rfl, rfl⟩ := h
  rfl
end Go.Proofs.YtldjdcdoegjmoaaDoor
