import Derived.Test.YtachpdeejificaaZ1
import Derived.Test.YtachpdeejificaaZ2
import Derived.Test.YtachpdeejificaaZ3
import Derived.Test.YtachpdeejificaaZ4
namespace Go.Proofs.Ytachpdeejificaa.P
open Go.RowKit Go.Proofs.YtachpdeejificaaW.PrintWords Go.Proofs.YtachpdeejificaaW.PrintLast Go.Proofs.YtachpdeejificaaW.PrintMore
set_option linter.unusedVariables false
set_option linter.unusedSimpArgs false
def dowelref03_Ranges.f (a0_0 : Int) (a0_1 : Int) (a0_2 : Int) (a0_3 : Int) : Option (List (S34)) := if okB a0_0 a0_1 a0_2 a0_3 = true then some ((rangesL (cI a0_0 a0_1 a0_2 a0_3)).map fun p => (⟨(p.1 : Int), (p.2 : Int)⟩ : S34)) else none
theorem reps_rangesR (w : World) (base : Nat) (ok : Nat → Prop) : ∀ (n : Nat) (l : List (Nat × Nat)), l.length = n → Reps (Kd.M k34 w base ok) 2 (l.map fun p => (⟨(p.1 : Int), (p.2 : Int)⟩ : S34)) (rcells l)
  | 0, l, h => by rw [List.eq_nil_of_length_eq_zero h]; exact Reps.none _ _
  | n + 1, l, h => by
    rcases snoc_or l with rfl | ⟨l', lo, hi, rfl⟩
    · simp at h
    · simp at h
      rw [List.map_append, rcells_snoc]
      exact Reps.snoc (reps_rangesR w base ok n l' h) (k34_mkM w base ok ⟨(lo : Int), (hi : Int)⟩) rfl
theorem dowelref03_Ranges.calls (a0_0 : Int) (a0_1 : Int) (a0_2 : Int) (a0_3 : Int) (r : List (S34)) (w : World) (h : dowelref03_Ranges.f a0_0 a0_1 a0_2 a0_3 = some r) :
    Calls Try.prog 27 #[.agg #[.int .u64 a0_0, .int .u64 a0_1, .int .u64 a0_2, .int .u64 a0_3]] w fun e w' => ∃ v0_ : Value, e = .returned (v0_) ∧ Kd.R k34 34 w' w.heap.size (fun _ => True) v0_ r ∧ Below w.heap.size w w' := by
  unfold dowelref03_Ranges.f at h
  split at h
  · next q =>
    obtain rfl := Option.some.inj h
    rw [cI_V q]
    refine (rangesR_c _ (cI_ok q) w).mono ?_
    rintro e w' ⟨v, he, ho, hb⟩
    refine ⟨v, he, ⟨fun _ _ => trivial, rcells _, ?_, reps_rangesR _ _ _ _ _ rfl⟩, hb⟩
    rw [List.length_map]
    exact ho
  · cases h
end Go.Proofs.Ytachpdeejificaa.P
namespace Go.Proofs.Ytachpdeejificaa.P
open Go.RowKit Go.Proofs.YtachpdeejificaaW.PrintWords Go.Proofs.YtachpdeejificaaW.PrintLast Go.Proofs.YtachpdeejificaaW.PrintMore
set_option linter.unusedVariables false
set_option linter.unusedSimpArgs false
def dowelref03_Bytes.f (a0_0 : Int) (a0_1 : Int) (a0_2 : Int) (a0_3 : Int) : Option (List Int) := if okB a0_0 a0_1 a0_2 a0_3 = true then some ((cI a0_0 a0_1 a0_2 a0_3).bytes.map fun (b : Nat) => (b : Int)) else none
theorem dowelref03_Bytes.calls (a0_0 : Int) (a0_1 : Int) (a0_2 : Int) (a0_3 : Int) (r : List Int) (w : World) (h : dowelref03_Bytes.f a0_0 a0_1 a0_2 a0_3 = some r) :
    Calls Try.prog 11 #[.agg #[.int .u64 a0_0, .int .u64 a0_1, .int .u64 a0_2, .int .u64 a0_3]] w fun e w' => ∃ v0_ : Value, e = .returned (v0_) ∧ Kd.R (Kd.int .u8) 5 w' w.heap.size (fun _ => True) v0_ r ∧ Below w.heap.size w w' := by
  unfold dowelref03_Bytes.f at h
  split at h
  · next q =>
    obtain rfl := Option.some.inj h
    rw [cI_V q]
    refine (bytes_c _ (cI_ok q) w).mono ?_
    rintro e w' ⟨v, he, ho, hb⟩
    refine ⟨v, he, Kd.R_of_own ?_ (fun _ _ => trivial), hb⟩
    rw [List.length_map]
    have e2 : encs (Value.int .u8) ((cI a0_0 a0_1 a0_2 a0_3).bytes.map fun (b : Nat) => (b : Int)) = u8s (cI a0_0 a0_1 a0_2 a0_3).bytes := by unfold encs u8s; rw [List.map_map]; rfl
    rw [e2]
    exact ho
  · cases h
end Go.Proofs.Ytachpdeejificaa.P
namespace Go.Proofs.Ytachpdeejificaa.P
open Go.RowKit Go.Proofs.YtachpdeejificaaW.PrintWords Go.Proofs.YtachpdeejificaaW.PrintLast Go.Proofs.YtachpdeejificaaW.PrintMore
set_option linter.unusedVariables false
set_option linter.unusedSimpArgs false
def dowelref03_Not.f (a0_0 : Int) (a0_1 : Int) (a0_2 : Int) (a0_3 : Int) : Option (Int × Int × Int × Int) := if okB a0_0 a0_1 a0_2 a0_3 = true then some (c4 ((cI a0_0 a0_1 a0_2 a0_3).not)) else none
theorem dowelref03_Not.calls (a0_0 : Int) (a0_1 : Int) (a0_2 : Int) (a0_3 : Int) (r1 : Int) (r2 : Int) (r3 : Int) (r4 : Int) (w : World) (h : dowelref03_Not.f a0_0 a0_1 a0_2 a0_3 = some (r1, r2, r3, r4)) :
    Calls Try.prog 22 #[.agg #[.int .u64 a0_0, .int .u64 a0_1, .int .u64 a0_2, .int .u64 a0_3]] w fun e w' => e = .returned (.agg #[.int .u64 r1, .int .u64 r2, .int .u64 r3, .int .u64 r4]) ∧ Below w.heap.size w w' := by
  unfold dowelref03_Not.f at h
  split at h
  · next q =>
    rw [cI_V q, ← c4_V (Option.some.inj h)]
    exact notR_c _ (cI_ok q) w
  · cases h
end Go.Proofs.Ytachpdeejificaa.P
