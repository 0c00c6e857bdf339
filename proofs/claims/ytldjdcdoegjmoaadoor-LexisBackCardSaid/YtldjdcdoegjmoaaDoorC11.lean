import Derived.Test.YtldjdcdoegjmoaaDoorC1
import Derived.Test.YtldjdcdoegjmoaaDoorC7
import Derived.Test.YtldjdcdoegjmoaaDoorC10
namespace Go.Proofs.YtldjdcdoegjmoaaDoor.P
open Go.RowKit Go.Proofs.YtldjdcdoegjmoaaDoorW.PrintWords Go.Proofs.YtldjdcdoegjmoaaDoorW.PrintLast Go.Proofs.YtldjdcdoegjmoaaDoorW.PrintMore
set_option linter.unusedVariables false
set_option linter.unusedSimpArgs false
def class_Ranges.f (a0_0 : Int) (a0_1 : Int) (a0_2 : Int) (a0_3 : Int) : Option (List (S83)) := if okB a0_0 a0_1 a0_2 a0_3 = true then some ((rangesL (cI a0_0 a0_1 a0_2 a0_3)).map fun p => (⟨(p.1 : Int), (p.2 : Int)⟩ : S83)) else none
theorem reps_ranges (w : World) (base : Nat) (ok : Nat → Prop) : ∀ (n : Nat) (l : List (Nat × Nat)), l.length = n → Reps (Kd.M k83 w base ok) 2 (l.map fun p => (⟨(p.1 : Int), (p.2 : Int)⟩ : S83)) (rcells l)
  | 0, l, h => by rw [List.eq_nil_of_length_eq_zero h]; exact Reps.none _ _
  | n + 1, l, h => by
    rcases snoc_or l with rfl | ⟨l', lo, hi, rfl⟩
    · simp at h
    · simp at h
      rw [List.map_append, rcells_snoc]; exact Reps.snoc (reps_ranges w base ok n l' h) (k83_mkM w base ok ⟨(lo : Int), (hi : Int)⟩) rfl
theorem class_Ranges.calls (a0_0 : Int) (a0_1 : Int) (a0_2 : Int) (a0_3 : Int) (r : List (S83)) (w : World) (h : class_Ranges.f a0_0 a0_1 a0_2 a0_3 = some r) :
    Calls Tryd.prog 62 #[.agg #[.int .u64 a0_0, .int .u64 a0_1, .int .u64 a0_2, .int .u64 a0_3]] w fun e w' => ∃ v0_ : Value, e = .returned (v0_) ∧ Kd.R k83 83 w' w.heap.size (fun _ => True) v0_ r ∧ Below w.heap.size w w' := by
  unfold class_Ranges.f at h
  split at h
  · next q =>
    obtain rfl := Option.some.inj h; rw [cI_V q]; refine (callsIn_wide.1 (ranges_in 3 (Nat.le_refl _) _ (cI_ok q) w)).mono ?_; rintro e w' ⟨v, he, ho, hb⟩; refine ⟨v, he, ⟨fun _ _ => trivial, rcells _, ?_, reps_ranges _ _ _ _ _ rfl⟩, hb⟩; rw [List.length_map]; exact ho
  · cases h
end Go.Proofs.YtldjdcdoegjmoaaDoor.P
