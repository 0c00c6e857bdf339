import Derived.Test.YtldjdcdoegjmoaaDoorC1
import Derived.Test.YtldjdcdoegjmoaaDoorC26
namespace Go.Proofs.YtldjdcdoegjmoaaDoor.P
open Go.RowKit Go.Proofs.YtldjdcdoegjmoaaDoorW.PrintWords Go.Proofs.YtldjdcdoegjmoaaDoorW.PrintLast Go.Proofs.YtldjdcdoegjmoaaDoorW.PrintMore
set_option linter.unusedVariables false
set_option linter.unusedSimpArgs false
def tvS (t : TV) : S26 := ⟨t.1, t.2.1, t.2.2.1, t.2.2.2.1, t.2.2.2.2.1, ⟨t.2.2.2.2.2.1, t.2.2.2.2.2.2.1, t.2.2.2.2.2.2.2.1, t.2.2.2.2.2.2.2.2.1⟩, t.2.2.2.2.2.2.2.2.2.1, t.2.2.2.2.2.2.2.2.2.2.1⟩
def lexis_Tokens.f (a0 : ByteArray) : Option (List (S26) × Int × Int) := if a0.size ≤ bnd then some ((toksOut a0).1.map tvS, (toksOut a0).2.1, (toksOut a0).2.2) else none
theorem reps_toks (w : World) (base : Nat) (ok : Nat → Prop) : ∀ (n : Nat) (l : List TV), l.length = n → Reps (Kd.M k26 w base ok) 11 (l.map tvS) (tcells l)
  | 0, l, h => by rw [List.eq_nil_of_length_eq_zero h]; exact Reps.none _ _
  | n + 1, l, h => by
    have hne : l ≠ [] := fun q => by rw [q] at h; cases h
    have e : l = l.dropLast ++ [l.getLast hne] := (List.dropLast_concat_getLast hne).symm
    generalize l.getLast hne = t at e
    generalize hd : l.dropLast = l' at e
    subst e
    simp at h
    rw [List.map_append, tcells_snoc]; exact Reps.snoc (reps_toks w base ok n l' h) (k26_mkM w base ok (tvS t)) rfl
theorem lexis_Tokens.calls (a0 : ByteArray) (r1 : List (S26)) (r2 : Int) (r3 : Int) (w : World) (h : lexis_Tokens.f a0 = some (r1, r2, r3)) :
    Calls Tryd.prog 15 #[.string a0] w fun e w' => ∃ v0_ : Value, e = .returned (.tuple #[v0_, .agg #[.int .i64 r2, .int .i64 r3]]) ∧ Kd.R k26 26 w' w.heap.size (fun _ => True) v0_ r1 ∧ Below w.heap.size w w' := by
  unfold lexis_Tokens.f at h
  split at h
  · next q =>
    injection h with h
    simp only [Prod.mk.injEq] at h; obtain ⟨rfl, rfl, rfl⟩ := h; refine (callsIn_wide.1 (tokens_in 8 (Nat.le_refl _) a0 q w)).mono ?_; rintro e w' ⟨v, he, ho, hb⟩; refine ⟨v, he, ⟨fun _ _ => trivial, tcells _, ?_, reps_toks _ _ _ _ _ rfl⟩, hb⟩; rw [List.length_map]; exact ho
  · cases h
end Go.Proofs.YtldjdcdoegjmoaaDoor.P
