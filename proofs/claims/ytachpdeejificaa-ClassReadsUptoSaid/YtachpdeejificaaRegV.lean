/- A region that draws its order, each of whose operations yields a value that does not hang on the order: each operation's step is shown once. -/
import Derived.Test.YtachpdeejificaaReg
set_option linter.unusedVariables false
set_option linter.unusedSimpArgs false
namespace Go.Proofs.Ytachpdeejificaa
def dstOf (ops : Array Oper) (i : Nat) : Option Tmp := (ops[i]?).bind (·.dst)
def dstsApart (ops : Array Oper) : Bool := (List.range ops.size).all fun i => (List.range ops.size).all fun j => i == j || (dstOf ops i).isNone || dstOf ops i != dstOf ops j
def dstsBelow (ops : Array Oper) (n : Nat) : Bool := (List.range ops.size).all fun i => match dstOf ops i with | some t => decide (t < n) | none => true
def written (ops : Array Oper) (t : Tmp) : Bool := (List.range ops.size).any fun i => dstOf ops i == some t
/-- The values laid into their slots, in the text's order. -/
def putAll (ops : Array Oper) (f : Nat → Value) (a : Act) : Nat → Act
  | 0 => a
  | n + 1 => (putAll ops f a n).put (dstOf ops n) (f n)
theorem put_tmps (a : Act) (d : Option Tmp) (v : Value) (t : Tmp) : (a.put d v).tmps[t]? = if d = some t ∧ t < a.tmps.size then some v else a.tmps[t]? := by
  cases d with
  | none => simp [Act.put]
  | some d =>
    simp only [Act.put, Array.getElem?_setIfInBounds, Option.some.injEq]
    by_cases h : d = t
    · subst h
      by_cases h2 : d < a.tmps.size
      · simp [h2]
      · simp [h2]
    · simp [h]
theorem put_size (a : Act) (d : Option Tmp) (v : Value) : (a.put d v).tmps.size = a.tmps.size := by cases d <;> simp [Act.put]
theorem put_defers (a : Act) (d : Option Tmp) (v : Value) : (a.put d v).defers = a.defers := by cases d <;> rfl
theorem putAll_size (ops : Array Oper) (f : Nat → Value) (a : Act) : ∀ n, (putAll ops f a n).tmps.size = a.tmps.size
  | 0 => rfl
  | n + 1 => by rw [putAll, put_size, putAll_size ops f a n]
theorem putAll_defers (ops : Array Oper) (f : Nat → Value) (a : Act) : ∀ n, (putAll ops f a n).defers = a.defers
  | 0 => rfl
  | n + 1 => by rw [putAll, put_defers, putAll_defers ops f a n]
theorem putAll_other (ops : Array Oper) (f : Nat → Value) (a : Act) (t : Tmp) : ∀ n, (∀ i, i < n → dstOf ops i ≠ some t) → (putAll ops f a n).tmps[t]? = a.tmps[t]?
  | 0, _ => rfl
  | n + 1, h => by
    rw [putAll, put_tmps, if_neg (fun e => h n (by omega) e.1)]
    exact putAll_other ops f a t n fun i hi => h i (by omega)
theorem putAll_at (ops : Array Oper) (f : Nat → Value) (a : Act) (t : Tmp) (ht : t < a.tmps.size) (i : Nat) (hi : dstOf ops i = some t) (hd : ∀ j, dstOf ops j = some t → j = i) : ∀ n, i < n → (putAll ops f a n).tmps[t]? = some (f i)
  | 0, h => by omega
  | n + 1, h => by
    rw [putAll, put_tmps, putAll_size]
    by_cases e : i = n
    · subst e; rw [if_pos ⟨hi, ht⟩]
    · rw [if_neg (fun q => e (hd n q.1).symm)]
      exact putAll_at ops f a t ht i hi hd n (by omega)
theorem apart_of {ops : Array Oper} (h : dstsApart ops = true) {i j : Nat} {t : Tmp} (hi : dstOf ops i = some t) (hj : dstOf ops j = some t) : j = i := by
  have hlt : ∀ k, dstOf ops k = some t → k < ops.size := fun k hk => by
    unfold dstOf at hk
    rcases Nat.lt_or_ge k ops.size with q | q
    · exact q
    · rw [Array.getElem?_eq_none q] at hk; cases hk
  have h1 := List.all_eq_true.1 (List.all_eq_true.1 h i (by simpa using hlt i hi)) j (by simpa using hlt j hj)
  rw [hi, hj] at h1
  simp at h1
  exact h1.symm
section
variable {P : Program} {ops : Array Oper} {Q : Exit → Act → World → Prop}
/-- What an operation may lean on: the slots that it waits for, and those that the region leaves alone. -/
def Leans (ops : Array Oper) (V : Nat → Value → Prop) (a0 : Act) (o : Oper) (a : Act) : Prop :=
  (∀ e ∈ o.after, Region.binds .any e = true → ∀ t, dstOf ops e.on = some t → ∃ v, a.tmps[t]? = some v ∧ V e.on v) ∧ (∀ t, written ops t = false → a.tmps[t]? = a0.tmps[t]?)
theorem Leans.dep {V : Nat → Value → Prop} {a0 : Act} {o : Oper} {a : Act} (h : Leans ops V a0 o a) (j : Nat) (t : Tmp) (hj : (o.after.any fun e => e.on == j && Region.binds .any e) = true) (ht : dstOf ops j = some t) : ∃ v, a.tmps[t]?.getD undef = v ∧ V j v := by
  rw [← Array.any_toList, List.any_eq_true] at hj
  obtain ⟨e, he, hh⟩ := hj
  have he := Array.mem_toList_iff.1 he
  simp only [Bool.and_eq_true, beq_iff_eq] at hh
  obtain ⟨rfl, hb⟩ := hh
  obtain ⟨v, h1, h2⟩ := h.1 e he hb t ht
  exact ⟨v, by rw [h1, Option.getD_some], h2⟩
theorem Leans.free {V : Nat → Value → Prop} {a0 : Act} {o : Oper} {a : Act} (h : Leans ops V a0 o a) (t : Tmp) (ht : written ops t = false) : a.tmps[t]?.getD undef = a0.tmps[t]?.getD undef := by
  rw [h.2 t ht]
theorem eval_tmp {a : Act} {t : Tmp} {v : Value} (h : a.tmps[t]?.getD undef = v) : a.eval (.tmp t) = v := by
  simp only [Act.eval, Array.getD_eq_getD_getElem?]; exact h
theorem Leans.wanted {V : Nat → Value → Prop} {a0 : Act} {o : Oper} {a : Act} (h : Leans ops V a0 o a) (j : Nat) (t : Tmp) (b : Bool) (hg : o.guard = some (j, b)) (hj : (o.after.any fun e => e.on == j && Region.binds .any e) = true) (ht : dstOf ops j = some t) (hv : ∀ v, V j v → v = .bool b) : Region.wanted o (yielded ops a.tmps) = true := by
  rw [← Array.any_toList, List.any_eq_true] at hj
  obtain ⟨e, he, hh⟩ := hj
  have he := Array.mem_toList_iff.1 he
  simp only [Bool.and_eq_true, beq_iff_eq] at hh
  obtain ⟨rfl, hb⟩ := hh
  obtain ⟨v, h1, h2⟩ := h.1 e he hb t ht
  have := hv v h2
  subst this
  unfold Region.wanted yielded
  unfold dstOf at ht
  rw [hg]
  dsimp only
  rw [ht]
  simp [h1]
theorem wp_region_vals {id : Nat} {a0 : Act} {w : World} (hm : P.follows .mixedOrders = true) (hb : edgesBack ops = true) (hd : dstsApart ops = true) (hz : dstsBelow ops a0.tmps.size = true)
    (J : World → Prop) (V : Nat → Value → Prop) (hJ : J { w with drawn := w.drawn + 1 })
    (hs : ∀ i o, ops[i]? = some o → ∀ a w, J w → Leans ops V a0 o a → wpOp P ops Q i (fun a' w' => ∃ v, a' = a.put o.dst v ∧ V i v ∧ J w') a w)
    (hq : ∀ (f : Nat → Value) w, J w → (∀ i t, dstOf ops i = some t → V i (f i)) → Q .normal (putAll ops f a0 ops.size) w) : (Code.region id ops true).wp P Q a0 w := by
  have hzt : ∀ i t, dstOf ops i = some t → i < ops.size ∧ t < a0.tmps.size := fun i t h => by
    have hi : i < ops.size := by
      unfold dstOf at h
      rcases Nat.lt_or_ge i ops.size with q | q
      · exact q
      · rw [Array.getElem?_eq_none q] at h; cases h
    have h1 := List.all_eq_true.1 hz i (by simpa using hi)
    rw [h] at h1
    exact ⟨hi, by simpa using h1⟩
  refine wp_region_inv hm hb (fun L a w => J w ∧ a.defers = a0.defers ∧ a.tmps.size = a0.tmps.size ∧ (∀ t, (∀ i, dstOf ops i = some t → L.getD i false = false) → a.tmps[t]? = a0.tmps[t]?) ∧ (∀ i t, dstOf ops i = some t → L.getD i false = true → ∃ v, a.tmps[t]? = some v ∧ V i v)) ⟨hJ, rfl, rfl, fun _ _ => rfl, fun i t _ h => by simp [Array.getD_eq_getD_getElem?, Array.getElem?_replicate] at h; split at h <;> simp at h⟩ ?_ ?_
  · intro L a w i hL hI hi
    obtain ⟨j1, j2, j3, j4, j5⟩ := hI
    obtain ⟨hni, o, ho, hdep⟩ := mem_ready.1 hi
    have hi' : i < ops.size := (Array.getElem?_eq_some_iff.1 ho).1
    have hn := getD_false hL hi' hni
    refine wpOp_mono ?_ (hs i o ho a w j1 ⟨fun e he hbd t ht => j5 _ _ ht (hdep e he hbd), fun t ht => j4 t fun k hk => ?_⟩)
    · rintro a' w' ⟨v, rfl, hv, hJ'⟩
      have hdo : dstOf ops i = o.dst := by unfold dstOf; rw [ho]; rfl
      refine ⟨hJ', by rw [put_defers]; exact j2, by rw [put_size]; exact j3, fun t ht => ?_, fun k t hk hLk => ?_⟩
      · rw [put_tmps, if_neg]
        · refine j4 t fun k hk => ?_
          have := ht k hk
          by_cases e : k = i
          · subst e; exact hn
          · rwa [getD_set_ne false (fun q => e q.symm)] at this
        · rintro ⟨e, _⟩
          have := ht i (by rw [hdo]; exact e)
          rw [Array.getD_eq_getD_getElem?, Array.getElem?_setIfInBounds_self_of_lt (by omega)] at this
          simp at this
      · by_cases e : k = i
        · subst e
          rw [put_tmps, if_pos ⟨by rw [← hdo]; exact hk, by rw [j3]; exact (hzt k t hk).2⟩]
          exact ⟨v, rfl, hv⟩
        · rw [put_tmps, if_neg]
          · exact j5 k t hk (by rwa [getD_set_ne false (fun q => e q.symm)] at hLk)
          · rintro ⟨e', _⟩
            exact e (apart_of hd (by rw [hdo]; exact e') hk)
    · exfalso
      unfold written at ht
      rw [List.any_eq_false] at ht
      exact ht k (by simpa using (hzt k t hk).1) (by simp [hk])
  · intro L a w hL hI
    obtain ⟨j1, j2, j3, j4, j5⟩ := hI
    have hall : ∀ i t, dstOf ops i = some t → ∃ v, a.tmps[t]? = some v ∧ V i v := fun i t h => j5 i t h (hL i (hzt i t h).1)
    have hf : ∀ i, ∃ v, ∀ t, dstOf ops i = some t → a.tmps[t]? = some v ∧ V i v := fun i => by
      cases h : dstOf ops i with
      | none => exact ⟨undef, fun t e => by cases e⟩
      | some t => obtain ⟨v, h1, h2⟩ := hall i t h; exact ⟨v, fun t' e => by cases e; exact ⟨h1, h2⟩⟩
    have hex : a = putAll ops (fun i => Classical.choose (hf i)) a0 ops.size := by
      have e1 : a.tmps = (putAll ops (fun i => Classical.choose (hf i)) a0 ops.size).tmps := by
        apply Array.ext_getElem?
        intro t
        by_cases hw : ∃ i, dstOf ops i = some t
        · obtain ⟨i, hi⟩ := hw
          rw [putAll_at ops _ a0 t (hzt i t hi).2 i hi (fun j hj => apart_of hd hi hj) _ (hzt i t hi).1]
          exact (Classical.choose_spec (hf i) t hi).1
        · rw [putAll_other ops _ a0 t _ (fun i _ e => hw ⟨i, e⟩)]
          exact j4 t fun i hi => absurd ⟨i, hi⟩ hw
      have e2 : a.defers = (putAll ops (fun i => Classical.choose (hf i)) a0 ops.size).defers := by rw [putAll_defers]; exact j2
      cases a
      cases h : putAll ops (fun i => Classical.choose (hf i)) a0 ops.size
      simp_all
    rw [hex]
    exact hq _ w j1 fun i t h => (Classical.choose_spec (hf i) t h).2
/-- The steps. -/
theorem st_wanted {i : Nat} {o : Oper} (ho : ops[i]? = some o) {K : Act → World → Prop} {a : Act} {w : World} (hg : Region.wanted o (yielded ops a.tmps) = true) (h : o.wp P a w K Q) : wpOp P ops Q i K a w := by
  unfold wpOp
  rw [ho]
  simp only [hg, if_true]
  exact .inl h
theorem st_run {o : Oper} {K : Act → World → Prop} {a : Act} {w w' : World} {v : Value} (h : (execOp a.eval o).run P w = .ok (.value v) w') (hk : K (a.put o.dst v) w') : o.wp P a w K Q := by
  unfold Oper.wp
  rw [h]
  exact hk
theorem st_call {o : Oper} {K : Act → World → Prop} {a : Act} {w w' : World} {f : FuncId} {args : Array Value} (h : (execOp a.eval o).run P w = .ok (.enter f args) w') (hc : Calls P f args w' fun e w'' => ∃ v, e = .returned v ∧ K (a.put o.dst v) w'') : o.wp P a w K Q := by
  unfold Oper.wp
  rw [h, Oper.upon_enter]
  refine hc.mono ?_
  rintro e w'' ⟨v, rfl, hk⟩
  exact hk
end
end Go.Proofs.Ytachpdeejificaa
