import Derived.Test.YtflkgoggnomehaaZ3
import Derived.Test.YtflkgoggnomehaaZ5
import Derived.Test.YtflkgoggnomehaaZ11
namespace Go.Proofs.Ytflkgoggnomehaa.P
open Go.RowKit Go.Proofs.YtflkgoggnomehaaW.PrintWords Go.Proofs.YtflkgoggnomehaaW.PrintLast Go.Proofs.YtflkgoggnomehaaW.PrintMore
set_option linter.unusedVariables false
set_option linter.unusedSimpArgs false
def dowelref03_Ranges.f (a0_0 : Int) (a0_1 : Int) (a0_2 : Int) (a0_3 : Int) : Option (List (S158)) := if okB a0_0 a0_1 a0_2 a0_3 = true then some ((rangesL (cI a0_0 a0_1 a0_2 a0_3)).map fun p => (⟨(p.1 : Int), (p.2 : Int)⟩ : S158)) else none
theorem reps_rangesR (w : World) (base : Nat) (ok : Nat → Prop) : ∀ (n : Nat) (l : List (Nat × Nat)), l.length = n → Reps (Kd.M k158 w base ok) 2 (l.map fun p => (⟨(p.1 : Int), (p.2 : Int)⟩ : S158)) (rcells l)
  | 0, l, h => by rw [List.eq_nil_of_length_eq_zero h]; exact Reps.none _ _
  | n + 1, l, h => by
    rcases snoc_or l with rfl | ⟨l', lo, hi, rfl⟩
    · simp at h
    · simp at h
      rw [List.map_append, rcells_snoc]
      exact Reps.snoc (reps_rangesR w base ok n l' h) (k158_mkM w base ok ⟨(lo : Int), (hi : Int)⟩) rfl
theorem dowelref03_Ranges.calls (a0_0 : Int) (a0_1 : Int) (a0_2 : Int) (a0_3 : Int) (r : List (S158)) (w : World) (h : dowelref03_Ranges.f a0_0 a0_1 a0_2 a0_3 = some r) :
    Calls Try.prog 118 #[.agg #[.int .u64 a0_0, .int .u64 a0_1, .int .u64 a0_2, .int .u64 a0_3]] w fun e w' => ∃ v0_ : Value, e = .returned (v0_) ∧ Kd.R k158 158 w' w.heap.size (fun _ => True) v0_ r ∧ Below w.heap.size w w' := by
  unfold dowelref03_Ranges.f at h
  split at h
  · next q =>
    obtain rfl := Option.some.inj h
    rw [cI_V q]
    refine (rangesR_c _ (cI_ok q) w).mono ?_
    rintro e w' ⟨v, he, ho, hb⟩
    refine ⟨v, he, ⟨fun _ _ => trivial, rcells _, ?_, reps_rangesR _ _ _ _ _ rfl⟩, hb⟩
    rw [List.length_map]
    exact ho
  · cases h
end Go.Proofs.Ytflkgoggnomehaa.P
