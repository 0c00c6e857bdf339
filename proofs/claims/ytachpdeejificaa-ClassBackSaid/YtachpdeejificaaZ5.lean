import Derived.Test.YtachpdeejificaaZ1
import Derived.Test.YtachpdeejificaaZ4
namespace Go.Proofs.Ytachpdeejificaa.P
open Go.RowKit Go.Proofs.YtachpdeejificaaW.PrintWords Go.Proofs.YtachpdeejificaaW.PrintLast Go.Proofs.YtachpdeejificaaW.PrintMore
set_option linter.unusedVariables false
set_option linter.unusedSimpArgs false
def okRngs (l : List (S34)) : Bool := l.all fun x => decide (0 ≤ x.f0) && (decide (x.f0 < 256) && (decide (0 ≤ x.f1) && decide (x.f1 < 256)))
def natRngs (l : List (S34)) : List (Nat × Nat) := l.map fun x => (x.f0.toNat, x.f1.toNat)
def class_Of.f (l0 : List (S34)) : Option (Int × Int × Int × Int) := if l0.length ≤ 70368744175616 ∧ okRngs l0 = true then some (c4 (Cls.ofFn (inRanges (natRngs l0)))) else none
theorem natRngs_reads {w : World} {A : Option Addr} {l0 : List (S34)} (hn : l0.length ≤ 70368744175616) (hk : okRngs l0 = true) (h : Kd.C k34 w A l0.length l0) : RdRangesA w A l0.length (natRngs l0) := by
  have hk' : ∀ x ∈ l0, (0 ≤ x.f0 ∧ x.f0 < 256) ∧ (0 ≤ x.f1 ∧ x.f1 < 256) := fun x hx => by
    have := List.all_eq_true.1 hk x hx
    simp only [Bool.and_eq_true, decide_eq_true_eq] at this
    omega
  refine ⟨by unfold natRngs; rw [List.length_map], by omega, fun p hp => ?_, fun h0 => ?_⟩
  · unfold natRngs at hp
    obtain ⟨x, hx, rfl⟩ := List.mem_map.1 hp
    have := hk' x hx
    dsimp only
    omega
  · obtain ⟨ad, e, _⟩ := at_T34 h 0 (by omega) (by omega)
    refine ⟨ad, e, fun j hj => ?_⟩
    obtain ⟨ad', e', h1, h2⟩ := at_T34 h (j : Int) (by omega) (by omega)
    obtain rfl := Option.some.inj (e.symm.trans e')
    have hx := hk' (l0[j]'hj) (List.getElem_mem hj)
    have er : Q14 l0 (j : Int) = l0[j]'hj := by
      show l0.getD (Int.toNat (j : Int)) _ = _
      rw [Int.toNat_natCast, List.getD_eq_getElem?_getD, List.getElem?_eq_getElem hj]; rfl
    have en : (natRngs l0).getD j (0, 0) = ((l0[j]'hj).f0.toNat, (l0[j]'hj).f1.toNat) := by
      unfold natRngs
      rw [List.getD_eq_getElem?_getD, List.getElem?_map, List.getElem?_eq_getElem hj]; rfl
    rw [er, Int.toNat_natCast] at h1 h2
    rw [en]
    dsimp only
    rw [Int.toNat_of_nonneg hx.1.1, Int.toNat_of_nonneg hx.2.1]
    exact ⟨h1, h2⟩
theorem class_Of.calls (A0 : Option Addr) (c0 : Nat) (l0 : List (S34)) (r1 : Int) (r2 : Int) (r3 : Int) (r4 : Int) (w : World) (hr0 : Kd.C k34 w A0 l0.length l0) (hc0 : l0.length ≤ c0) (h : class_Of.f l0 = some (r1, r2, r3, r4)) :
    Calls Try.prog 13 #[.slice A0 l0.length c0] w fun e w' => e = .returned (.agg #[.int .u64 r1, .int .u64 r2, .int .u64 r3, .int .u64 r4]) ∧ Below w.heap.size w w' := by
  unfold class_Of.f at h
  split at h
  · next q =>
    rw [← c4_V (Option.some.inj h)]
    exact of_ca A0 _ c0 _ w (natRngs_reads q.1 q.2 hr0)
  · cases h
end Go.Proofs.Ytachpdeejificaa.P
namespace Go.Proofs.Ytachpdeejificaa.P
open Go.RowKit Go.Proofs.YtachpdeejificaaW.PrintWords Go.Proofs.YtachpdeejificaaW.PrintLast Go.Proofs.YtachpdeejificaaW.PrintMore
set_option linter.unusedVariables false
set_option linter.unusedSimpArgs false
def class_Count.f (a0_0 : Int) (a0_1 : Int) (a0_2 : Int) (a0_3 : Int) : Option (Int) := if okB a0_0 a0_1 a0_2 a0_3 = true then some ((cI a0_0 a0_1 a0_2 a0_3).bytes.length : Int) else none
theorem class_Count.calls (a0_0 : Int) (a0_1 : Int) (a0_2 : Int) (a0_3 : Int) (r : Int) (w : World) (h : class_Count.f a0_0 a0_1 a0_2 a0_3 = some r) :
    Calls Try.prog 25 #[.agg #[.int .u64 a0_0, .int .u64 a0_1, .int .u64 a0_2, .int .u64 a0_3]] w fun e w' => e = .returned (.int .i64 r) ∧ Below w.heap.size w w' := by
  unfold class_Count.f at h
  split at h
  · next q =>
    obtain rfl := Option.some.inj h
    rw [cI_V q]
    exact count_c _ (cI_ok q) w
  · cases h
end Go.Proofs.Ytachpdeejificaa.P
