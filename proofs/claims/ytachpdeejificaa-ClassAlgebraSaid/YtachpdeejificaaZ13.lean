import Derived.KernelRfl
import Derived.Test.YtachpdeejificaaZ5
import Derived.Test.YtachpdeejificaaZ12
namespace Go.Proofs.Ytachpdeejificaa
open Go.RowKit Go.Proofs.YtachpdeejificaaW.PrintWords Go.Proofs.YtachpdeejificaaW.PrintLast
theorem works_f (k : Nat) (hk : 60 ≤ k) : P.dowellaw03_works.f k = some true := at_rounds P.dowellaw03_works.mono hk (by kernel_rfl)
theorem works_c (w : World) : Calls Try.prog 34 #[] w fun e w' => e = .returned (.bool true) ∧ Below w.heap.size w w' := P.dowellaw03_works.calls 100 true w (works_f 100 (by decide))
end Go.Proofs.Ytachpdeejificaa
set_option linter.unusedVariables false
set_option linter.unusedSimpArgs false
namespace Go.Proofs.Ytachpdeejificaa
section
variable {P : Program} {ops : Array Oper} {Q : Exit → Act → World → Prop}
/-- What the i-th operation may lean on. -/
def LeansQ (ops : Array Oper) (V : Nat → Value → Prop) (a0 : Act) (i : Nat) (a : Act) : Prop :=
  (∀ j t, j < i → dstOf ops j = some t → ∃ v, a.tmps[t]? = some v ∧ V j v) ∧ (∀ t, written ops t = false → a.tmps[t]? = a0.tmps[t]?)
theorem LeansQ.dep {V : Nat → Value → Prop} {a0 : Act} {i : Nat} {a : Act} (h : LeansQ ops V a0 i a) (j : Nat) (t : Tmp) (hj : decide (j < i) = true) (ht : dstOf ops j = some t) : ∃ v, a.tmps[t]?.getD undef = v ∧ V j v := by
  obtain ⟨v, h1, h2⟩ := h.1 j t (of_decide_eq_true hj) ht
  exact ⟨v, by rw [h1, Option.getD_some], h2⟩
theorem LeansQ.free {V : Nat → Value → Prop} {a0 : Act} {i : Nat} {a : Act} (h : LeansQ ops V a0 i a) (t : Tmp) (ht : written ops t = false) : a.tmps[t]?.getD undef = a0.tmps[t]?.getD undef := by
  rw [h.2 t ht]
theorem wanted_at {V : Nat → Value → Prop} {a0 : Act} {i : Nat} {a : Act} (h : LeansQ ops V a0 i a) {o : Oper} (j : Nat) (t : Tmp) (b c : Bool) (hg : o.guard = some (j, b)) (hj : decide (j < i) = true) (ht : dstOf ops j = some t) (hv : ∀ v, V j v → v = .bool c) : Region.wanted o (yielded ops a.tmps) = (c == b) := by
  obtain ⟨v, h1, h2⟩ := h.1 j t (of_decide_eq_true hj) ht
  have := hv v h2
  subst this
  unfold Region.wanted yielded
  unfold dstOf at ht
  rw [hg]
  dsimp only
  rw [ht]
  cases c <;> cases b <;> simp [h1]
theorem LeansQ.wanted {V : Nat → Value → Prop} {a0 : Act} {i : Nat} {a : Act} (h : LeansQ ops V a0 i a) {o : Oper} (j : Nat) (t : Tmp) (b : Bool) (hg : o.guard = some (j, b)) (hj : decide (j < i) = true) (ht : dstOf ops j = some t) (hv : ∀ v, V j v → v = .bool b) : Region.wanted o (yielded ops a.tmps) = true := by
  rw [wanted_at h j t b b hg hj ht hv]; simp
theorem st_skip {i : Nat} {o : Oper} (ho : ops[i]? = some o) {K : Act → World → Prop} {a : Act} {w : World} (hg : Region.wanted o (yielded ops a.tmps) = false) (h : K (a.put o.dst undef) w) : wpOp P ops Q i K a w := by
  unfold wpOp
  rw [ho]
  simp only [hg, Bool.false_eq_true, if_false]
  exact h
theorem putAll_congr {f g : Nat → Value} {a : Act} : ∀ n, (∀ i, i < n → f i = g i) → putAll ops f a n = putAll ops g a n
  | 0, _ => rfl
  | n + 1, h => by rw [putAll, putAll, putAll_congr n fun i hi => h i (by omega), h n (by omega)]
theorem wp_region_seq {id : Nat} {a0 : Act} {w : World} (hd : dstsApart ops = true) (hz : dstsBelow ops a0.tmps.size = true)
    (J : World → Prop) (V : Nat → Value → Prop) (hJ : J w)
    (hs : ∀ i o, ops[i]? = some o → ∀ a w, J w → LeansQ ops V a0 i a → wpOp P ops Q i (fun a' w' => ∃ v, a' = a.put o.dst v ∧ V i v ∧ J w') a w)
    (hq : ∀ (f : Nat → Value) w, J w → (∀ i t, dstOf ops i = some t → V i (f i)) → Q .normal (putAll ops f a0 ops.size) w) : (Code.region id ops false).wp P Q a0 w := by
  have hzt : ∀ i t, dstOf ops i = some t → i < ops.size ∧ t < a0.tmps.size := fun i t h => by
    have hi : i < ops.size := by
      unfold dstOf at h
      rcases Nat.lt_or_ge i ops.size with q | q
      · exact q
      · rw [Array.getElem?_eq_none q] at h; cases h
    have h1 := List.all_eq_true.1 hz i (by simpa using hi)
    rw [h] at h1
    exact ⟨hi, by simpa using h1⟩
  have key : ∀ m k, k + m = ops.size → ∀ (f : Nat → Value) w, J w → (∀ i t, i < k → dstOf ops i = some t → V i (f i)) → wpOps P ops Q (List.range' k m) (putAll ops f a0 k) w := by
    intro m
    induction m with
    | zero =>
      intro k hk f w hJ hV
      obtain rfl : k = ops.size := by omega
      exact hq f w hJ fun i t h => hV i t (hzt i t h).1 h
    | succ m ih =>
      intro k hk f w hJ hV
      rw [List.range'_succ, wpOps_cons]
      have hk' : k < ops.size := by omega
      have ho : ops[k]? = some ops[k] := Array.getElem?_eq_getElem hk'
      refine wpOp_mono ?_ (hs k _ ho (putAll ops f a0 k) w hJ ⟨fun j t hj ht => ⟨f j, putAll_at ops f a0 t (hzt j t ht).2 j ht (fun j' hj' => apart_of hd ht hj') k hj, hV j t hj ht⟩, fun t ht => putAll_other ops f a0 t k fun i hi e => ?_⟩)
      · rintro a' w' ⟨v, rfl, hv, hJ'⟩
        have e : (putAll ops f a0 k).put (ops[k]).dst v = putAll ops (fun i => if i = k then v else f i) a0 (k + 1) := by
          rw [putAll, putAll_congr (f := fun i => if i = k then v else f i) (g := f) k fun i hi => if_neg (by omega)]
          rw [if_pos rfl]
          congr 1
          unfold dstOf; rw [ho]; rfl
        rw [e]
        refine ih (k + 1) (by omega) _ w' hJ' fun i t hi ht => ?_
        by_cases q : i = k
        · rw [if_pos q, q]; exact hv
        · rw [if_neg q]; exact hV i t (by omega) ht
      · unfold written at ht
        rw [List.any_eq_false] at ht
        exact ht i (by simpa using (hzt i t e).1) (by simp [e])
  exact wp_region (by rw [List.range_eq_range']; exact key ops.size 0 (by omega) (fun _ => undef) w hJ fun i t h => by omega)
end
end Go.Proofs.Ytachpdeejificaa
