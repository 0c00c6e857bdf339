import Derived.WalkKit
import Derived.Test.YtachpdeejificaaZ4
set_option linter.unusedVariables false
set_option linter.unusedSimpArgs false
namespace Go.Proofs.Ytachpdeejificaa
section
variable {P : Program} {md : Region.Mode} {ops : Array Oper} {Q : Exit → Act → World → Prop}
/-- Each edge that binds leads to an operation ahead. -/
def edgesBack (ops : Array Oper) : Bool := (List.range ops.size).all fun i => ((ops[i]?).map (·.after.all fun e => !Region.binds .any e || decide (e.on < i))).getD true
theorem all_listed (hb : edgesBack ops = true) {L : Array Bool} (hr : Region.ready .any ops L = []) (hz : L.size = ops.size) : ∀ i, i < ops.size → L.getD i false = true := by
  intro i
  induction i using Nat.strongRecOn with
  | _ i ih =>
    intro hi
    cases hL : L.getD i false with
    | true => rfl
    | false =>
      exfalso
      have hm : i ∈ Region.ready .any ops L := by
        unfold Region.ready
        rw [List.mem_filter]
        refine ⟨by simpa using hi, ?_⟩
        have h1 : L.getD i true = false := by
          have hlt : i < L.size := by omega
          simp only [Array.getD_eq_getD_getElem?, Array.getElem?_eq_getElem hlt] at hL ⊢
          exact hL
        rw [h1, Array.getElem?_eq_getElem hi]
        simp only [Bool.not_false, Option.map_some, Option.getD_some, Bool.true_and]
        rw [Array.all_eq_true_iff_forall_mem]
        intro e he
        have hb' := List.all_eq_true.1 hb i (by simpa using hi)
        rw [Array.getElem?_eq_getElem hi] at hb'
        simp only [Option.map_some, Option.getD_some] at hb'
        rcases Bool.or_eq_true_iff.1 (Array.all_eq_true_iff_forall_mem.1 hb' e he) with hbd | hlt
        · rw [hbd]; rfl
        · rw [ih e.on (of_decide_eq_true hlt) (by have := of_decide_eq_true hlt; omega)]
          simp
      rw [hr] at hm
      cases hm
theorem wpAny_inv (hb : edgesBack ops = true) (I : Array Bool → Act → World → Prop)
    (hs : ∀ L a w i, L.size = ops.size → I L a w → i ∈ Region.ready .any ops L → wpOp P ops Q i (I (L.setIfInBounds i true)) a w)
    (hd : ∀ L a w, (∀ i, i < ops.size → L.getD i false = true) → I L a w → Q .normal a w) :
    ∀ (fuel : Nat) (L : Array Bool) (a : Act) (w : World), L.size = ops.size → L.toList.countP (fun b => !b) ≤ fuel → I L a w → wpAny P .any ops Q fuel L a w := by
  intro fuel
  induction fuel with
  | zero =>
    intro L a w hz hf hI
    have h0 : L.toList.countP (fun b => !b) = 0 := by omega
    have hall : ∀ i, i < L.size → L.getD i true = true := by
      intro i hi
      rw [List.countP_eq_zero] at h0
      have := h0 (L[i]) (by simp)
      simp only [Array.getD_eq_getD_getElem?, Array.getElem?_eq_getElem hi, Option.getD_some]
      simpa using this
    have hr : Region.ready .any ops L = [] := by
      rw [List.eq_nil_iff_forall_not_mem]
      intro i hi
      obtain ⟨h1, o, ho, _⟩ := mem_ready.1 hi
      rw [hall i (by rw [hz]; exact (Array.getElem?_eq_some_iff.1 ho).1)] at h1
      cases h1
    exact ⟨hr, hd L a w (all_listed hb hr hz) hI⟩
  | succ n ih =>
    intro L a w hz hf hI
    refine ⟨fun hr => hd L a w (all_listed hb hr hz) hI, fun i hi => ?_⟩
    refine wpOp_mono (fun a' w' h => ih _ _ _ (by simpa using hz) ?_ h) (hs L a w i hz hI hi)
    obtain ⟨h1, o, ho, _⟩ := mem_ready.1 hi
    have hlt : i < L.size := by rw [hz]; exact (Array.getElem?_eq_some_iff.1 ho).1
    simp only [Array.getD_eq_getD_getElem?, Array.getElem?_eq_getElem hlt, Option.getD_some] at h1
    have hlt' : i < L.toList.length := by simpa using hlt
    have hpos : 0 < L.toList.countP (fun b => !b) := List.countP_pos_iff.2 ⟨L[i], by simp, by simp [h1]⟩
    rw [Array.toList_setIfInBounds, List.countP_set hlt']
    simp only [Array.getElem_toList, h1, Bool.not_false, Bool.not_true, if_true, Bool.false_eq_true, if_false]
    omega
theorem wp_region_inv {id : Nat} {a : Act} {w : World} (hm : P.follows .mixedOrders = true) (hb : edgesBack ops = true) (I : Array Bool → Act → World → Prop)
    (h0 : I (Array.replicate ops.size false) a { w with drawn := w.drawn + 1 })
    (hs : ∀ L a w i, L.size = ops.size → I L a w → i ∈ Region.ready .any ops L → wpOp P ops Q i (I (L.setIfInBounds i true)) a w)
    (hd : ∀ L a w, (∀ i, i < ops.size → L.getD i false = true) → I L a w → Q .normal a w) : (Code.region id ops true).wp P Q a w :=
  wp_region_any hm (wpAny_inv hb I hs hd _ _ _ _ (by simp) (Nat.le_trans List.countP_le_length (by simp)) h0)
theorem wpOp_list {i : Nat} {o : Oper} (ho : ops[i]? = some o) (hg : o.guard = none) {K : Act → World → Prop} {a : Act} {w : World} (h : o.wp P a w K Q) : wpOp P ops Q i K a w := by
  unfold wpOp
  rw [ho]
  simp only [Region.wanted, hg, if_true]
  exact .inl h
theorem getD_false {L : Array Bool} {n i : Nat} (hz : L.size = n) (hi : i < n) (h : L.getD i true = false) : L.getD i false = false := by
  have hlt : i < L.size := by omega
  simp only [Array.getD_eq_getD_getElem?, Array.getElem?_eq_getElem hlt] at h ⊢
  exact h
theorem getD_set {L : Array Bool} {i j : Nat} (h : (L.setIfInBounds i true).getD j false = true) (hne : j ≠ i) : L.getD j false = true := by
  rwa [getD_set_ne false (fun e => hne e.symm)] at h
end
end Go.Proofs.Ytachpdeejificaa
set_option linter.unusedVariables false
set_option linter.unusedSimpArgs false
namespace Go.Proofs.Ytachpdeejificaa
def dstOf (ops : Array Oper) (i : Nat) : Option Tmp := (ops[i]?).bind (·.dst)
def dstsApart (ops : Array Oper) : Bool := (List.range ops.size).all fun i => (List.range ops.size).all fun j => i == j || (dstOf ops i).isNone || dstOf ops i != dstOf ops j
def dstsBelow (ops : Array Oper) (n : Nat) : Bool := (List.range ops.size).all fun i => match dstOf ops i with | some t => decide (t < n) | none => true
def written (ops : Array Oper) (t : Tmp) : Bool := (List.range ops.size).any fun i => dstOf ops i == some t
/-- The values laid into their slots, in the text's order. -/
def putAll (ops : Array Oper) (f : Nat → Value) (a : Act) : Nat → Act
  | 0 => a
  | n + 1 => (putAll ops f a n).put (dstOf ops n) (f n)
theorem put_tmps (a : Act) (d : Option Tmp) (v : Value) (t : Tmp) : (a.put d v).tmps[t]? = if d = some t ∧ t < a.tmps.size then some v else a.tmps[t]? := by
  cases d with
  | none => simp [Act.put]
  | some d =>
    simp only [Act.put, Array.getElem?_setIfInBounds, Option.some.injEq]
    by_cases h : d = t
    · subst h
      by_cases h2 : d < a.tmps.size
      · simp [h2]
      · simp [h2]
    · simp [h]
theorem put_size (a : Act) (d : Option Tmp) (v : Value) : (a.put d v).tmps.size = a.tmps.size := by cases d <;> simp [Act.put]
theorem put_defers (a : Act) (d : Option Tmp) (v : Value) : (a.put d v).defers = a.defers := by cases d <;> rfl
theorem putAll_size (ops : Array Oper) (f : Nat → Value) (a : Act) : ∀ n, (putAll ops f a n).tmps.size = a.tmps.size
  | 0 => rfl
  | n + 1 => by rw [putAll, put_size, putAll_size ops f a n]
theorem putAll_defers (ops : Array Oper) (f : Nat → Value) (a : Act) : ∀ n, (putAll ops f a n).defers = a.defers
  | 0 => rfl
  | n + 1 => by rw [putAll, put_defers, putAll_defers ops f a n]
theorem putAll_other (ops : Array Oper) (f : Nat → Value) (a : Act) (t : Tmp) : ∀ n, (∀ i, i < n → dstOf ops i ≠ some t) → (putAll ops f a n).tmps[t]? = a.tmps[t]?
  | 0, _ => rfl
  | n + 1, h => by
    rw [putAll, put_tmps, if_neg (fun e => h n (by omega) e.1)]
    exact putAll_other ops f a t n fun i hi => h i (by omega)
theorem putAll_at (ops : Array Oper) (f : Nat → Value) (a : Act) (t : Tmp) (ht : t < a.tmps.size) (i : Nat) (hi : dstOf ops i = some t) (hd : ∀ j, dstOf ops j = some t → j = i) : ∀ n, i < n → (putAll ops f a n).tmps[t]? = some (f i)
  | 0, h => by omega
  | n + 1, h => by
    rw [putAll, put_tmps, putAll_size]
    by_cases e : i = n
    · subst e; rw [if_pos ⟨hi, ht⟩]
    · rw [if_neg (fun q => e (hd n q.1).symm)]
      exact putAll_at ops f a t ht i hi hd n (by omega)
theorem apart_of {ops : Array Oper} (h : dstsApart ops = true) {i j : Nat} {t : Tmp} (hi : dstOf ops i = some t) (hj : dstOf ops j = some t) : j = i := by
  have hlt : ∀ k, dstOf ops k = some t → k < ops.size := fun k hk => by
    unfold dstOf at hk
    rcases Nat.lt_or_ge k ops.size with q | q
    · exact q
    · rw [Array.getElem?_eq_none q] at hk; cases hk
  have h1 := List.all_eq_true.1 (List.all_eq_true.1 h i (by simpa using hlt i hi)) j (by simpa using hlt j hj)
  rw [hi, hj] at h1
  simp at h1
  exact h1.symm
section
variable {P : Program} {ops : Array Oper} {Q : Exit → Act → World → Prop}
/-- What an operation may lean on: the slots that it waits for, and those that the region leaves alone. -/
def Leans (ops : Array Oper) (V : Nat → Value → Prop) (a0 : Act) (o : Oper) (a : Act) : Prop :=
  (∀ e ∈ o.after, Region.binds .any e = true → ∀ t, dstOf ops e.on = some t → ∃ v, a.tmps[t]? = some v ∧ V e.on v) ∧ (∀ t, written ops t = false → a.tmps[t]? = a0.tmps[t]?)
theorem Leans.dep {V : Nat → Value → Prop} {a0 : Act} {o : Oper} {a : Act} (h : Leans ops V a0 o a) (j : Nat) (t : Tmp) (hj : (o.after.any fun e => e.on == j && Region.binds .any e) = true) (ht : dstOf ops j = some t) : ∃ v, a.tmps[t]?.getD undef = v ∧ V j v := by
  rw [← Array.any_toList, List.any_eq_true] at hj
  obtain ⟨e, he, hh⟩ := hj
  have he := Array.mem_toList_iff.1 he
  simp only [Bool.and_eq_true, beq_iff_eq] at hh
  obtain ⟨rfl, hb⟩ := hh
  obtain ⟨v, h1, h2⟩ := h.1 e he hb t ht
  exact ⟨v, by rw [h1, Option.getD_some], h2⟩
theorem Leans.free {V : Nat → Value → Prop} {a0 : Act} {o : Oper} {a : Act} (h : Leans ops V a0 o a) (t : Tmp) (ht : written ops t = false) : a.tmps[t]?.getD undef = a0.tmps[t]?.getD undef := by
  rw [h.2 t ht]
theorem eval_tmp {a : Act} {t : Tmp} {v : Value} (h : a.tmps[t]?.getD undef = v) : a.eval (.tmp t) = v := by
  simp only [Act.eval, Array.getD_eq_getD_getElem?]; exact h
theorem Leans.wanted {V : Nat → Value → Prop} {a0 : Act} {o : Oper} {a : Act} (h : Leans ops V a0 o a) (j : Nat) (t : Tmp) (b : Bool) (hg : o.guard = some (j, b)) (hj : (o.after.any fun e => e.on == j && Region.binds .any e) = true) (ht : dstOf ops j = some t) (hv : ∀ v, V j v → v = .bool b) : Region.wanted o (yielded ops a.tmps) = true := by
  rw [← Array.any_toList, List.any_eq_true] at hj
  obtain ⟨e, he, hh⟩ := hj
  have he := Array.mem_toList_iff.1 he
  simp only [Bool.and_eq_true, beq_iff_eq] at hh
  obtain ⟨rfl, hb⟩ := hh
  obtain ⟨v, h1, h2⟩ := h.1 e he hb t ht
  have := hv v h2
  subst this
  unfold Region.wanted yielded
  unfold dstOf at ht
  rw [hg]
  dsimp only
  rw [ht]
  simp [h1]
theorem wp_region_vals {id : Nat} {a0 : Act} {w : World} (hm : P.follows .mixedOrders = true) (hb : edgesBack ops = true) (hd : dstsApart ops = true) (hz : dstsBelow ops a0.tmps.size = true)
    (J : World → Prop) (V : Nat → Value → Prop) (hJ : J { w with drawn := w.drawn + 1 })
    (hs : ∀ i o, ops[i]? = some o → ∀ a w, J w → Leans ops V a0 o a → wpOp P ops Q i (fun a' w' => ∃ v, a' = a.put o.dst v ∧ V i v ∧ J w') a w)
    (hq : ∀ (f : Nat → Value) w, J w → (∀ i t, dstOf ops i = some t → V i (f i)) → Q .normal (putAll ops f a0 ops.size) w) : (Code.region id ops true).wp P Q a0 w := by
  have hzt : ∀ i t, dstOf ops i = some t → i < ops.size ∧ t < a0.tmps.size := fun i t h => by
    have hi : i < ops.size := by
      unfold dstOf at h
      rcases Nat.lt_or_ge i ops.size with q | q
      · exact q
      · rw [Array.getElem?_eq_none q] at h; cases h
    have h1 := List.all_eq_true.1 hz i (by simpa using hi)
    rw [h] at h1
    exact ⟨hi, by simpa using h1⟩
  refine wp_region_inv hm hb (fun L a w => J w ∧ a.defers = a0.defers ∧ a.tmps.size = a0.tmps.size ∧ (∀ t, (∀ i, dstOf ops i = some t → L.getD i false = false) → a.tmps[t]? = a0.tmps[t]?) ∧ (∀ i t, dstOf ops i = some t → L.getD i false = true → ∃ v, a.tmps[t]? = some v ∧ V i v)) ⟨hJ, rfl, rfl, fun _ _ => rfl, fun i t _ h => by simp [Array.getD_eq_getD_getElem?, Array.getElem?_replicate] at h; split at h <;> simp at h⟩ ?_ ?_
  · intro L a w i hL hI hi
    obtain ⟨j1, j2, j3, j4, j5⟩ := hI
    obtain ⟨hni, o, ho, hdep⟩ := mem_ready.1 hi
    have hi' : i < ops.size := (Array.getElem?_eq_some_iff.1 ho).1
    have hn := getD_false hL hi' hni
    refine wpOp_mono ?_ (hs i o ho a w j1 ⟨fun e he hbd t ht => j5 _ _ ht (hdep e he hbd), fun t ht => j4 t fun k hk => ?_⟩)
    · rintro a' w' ⟨v, rfl, hv, hJ'⟩
      have hdo : dstOf ops i = o.dst := by unfold dstOf; rw [ho]; rfl
      refine ⟨hJ', by rw [put_defers]; exact j2, by rw [put_size]; exact j3, fun t ht => ?_, fun k t hk hLk => ?_⟩
      · rw [put_tmps, if_neg]
        · refine j4 t fun k hk => ?_
          have := ht k hk
          by_cases e : k = i
          · subst e; exact hn
          · rwa [getD_set_ne false (fun q => e q.symm)] at this
        · rintro ⟨e, _⟩
          have := ht i (by rw [hdo]; exact e)
          rw [Array.getD_eq_getD_getElem?, Array.getElem?_setIfInBounds_self_of_lt (by omega)] at this
          simp at this
      · by_cases e : k = i
        · subst e
          rw [put_tmps, if_pos ⟨by rw [← hdo]; exact hk, by rw [j3]; exact (hzt k t hk).2⟩]
          exact ⟨v, rfl, hv⟩
        · rw [put_tmps, if_neg]
          · exact j5 k t hk (by rwa [getD_set_ne false (fun q => e q.symm)] at hLk)
          · rintro ⟨e', _⟩
            exact e (apart_of hd (by rw [hdo]; exact e') hk)
    · exfalso
      unfold written at ht
      rw [List.any_eq_false] at ht
      exact ht k (by simpa using (hzt k t hk).1) (by simp [hk])
  · intro L a w hL hI
    obtain ⟨j1, j2, j3, j4, j5⟩ := hI
    have hall : ∀ i t, dstOf ops i = some t → ∃ v, a.tmps[t]? = some v ∧ V i v := fun i t h => j5 i t h (hL i (hzt i t h).1)
    have hf : ∀ i, ∃ v, ∀ t, dstOf ops i = some t → a.tmps[t]? = some v ∧ V i v := fun i => by
      cases h : dstOf ops i with
      | none => exact ⟨undef, fun t e => by cases e⟩
      | some t => obtain ⟨v, h1, h2⟩ := hall i t h; exact ⟨v, fun t' e => by cases e; exact ⟨h1, h2⟩⟩
    have hex : a = putAll ops (fun i => Classical.choose (hf i)) a0 ops.size := by
      have e1 : a.tmps = (putAll ops (fun i => Classical.choose (hf i)) a0 ops.size).tmps := by
        apply Array.ext_getElem?
        intro t
        by_cases hw : ∃ i, dstOf ops i = some t
        · obtain ⟨i, hi⟩ := hw
          rw [putAll_at ops _ a0 t (hzt i t hi).2 i hi (fun j hj => apart_of hd hi hj) _ (hzt i t hi).1]
          exact (Classical.choose_spec (hf i) t hi).1
        · rw [putAll_other ops _ a0 t _ (fun i _ e => hw ⟨i, e⟩)]
          exact j4 t fun i hi => absurd ⟨i, hi⟩ hw
      have e2 : a.defers = (putAll ops (fun i => Classical.choose (hf i)) a0 ops.size).defers := by rw [putAll_defers]; exact j2
      cases a
      cases h : putAll ops (fun i => Classical.choose (hf i)) a0 ops.size
      simp_all
    rw [hex]
    exact hq _ w j1 fun i t h => (Classical.choose_spec (hf i) t h).2
/-- The steps. -/
theorem st_wanted {i : Nat} {o : Oper} (ho : ops[i]? = some o) {K : Act → World → Prop} {a : Act} {w : World} (hg : Region.wanted o (yielded ops a.tmps) = true) (h : o.wp P a w K Q) : wpOp P ops Q i K a w := by
  unfold wpOp
  rw [ho]
  simp only [hg, if_true]
  exact .inl h
theorem st_run {o : Oper} {K : Act → World → Prop} {a : Act} {w w' : World} {v : Value} (h : (execOp a.eval o).run P w = .ok (.value v) w') (hk : K (a.put o.dst v) w') : o.wp P a w K Q := by
  unfold Oper.wp
  rw [h]
  exact hk
theorem st_call {o : Oper} {K : Act → World → Prop} {a : Act} {w w' : World} {f : FuncId} {args : Array Value} (h : (execOp a.eval o).run P w = .ok (.enter f args) w') (hc : Calls P f args w' fun e w'' => ∃ v, e = .returned v ∧ K (a.put o.dst v) w'') : o.wp P a w K Q := by
  unfold Oper.wp
  rw [h, Oper.upon_enter]
  refine hc.mono ?_
  rintro e w'' ⟨v, rfl, hk⟩
  exact hk
end
end Go.Proofs.Ytachpdeejificaa
set_option linter.unusedVariables false
set_option linter.unusedSimpArgs false
namespace Go.Proofs.Ytachpdeejificaa
open Go.RowKit
theorem below_setA {B : Nat} {w w' : World} (h : Below B w w') (a : Addr) (v : Value) (ha : B ≤ a.block) : Below B w (w'.setCell a v) := h.setCell ha v
theorem below_drewN' {B : Nat} {w w' : World} {n : Nat} (h : Below B w w') : Below B w (w'.drewN n) := below_drewN h _
theorem below_allocs {w w' : World} (h : Below w.heap.size w w') (o : Obj) : Below w.heap.size w (w'.alloc o) := h.alloc h.size o
end Go.Proofs.Ytachpdeejificaa
set_option linter.unusedVariables false
set_option linter.unusedSimpArgs false
namespace Go.Proofs.Ytachpdeejificaa
open Go.RowKit
def Parsed (r : Cls × Nat × Nat × Nat) (w : World) (e : Ending) (w' : World) : Prop := e = .returned (parseV r) ∧ Below w.heap.size w w'
theorem prs_mk {r q : Cls × Nat × Nat × Nat} {w w' : World} {a b c d : Int} (hr : r = q) (ha : a = q.1.c0) (hb : b = q.1.c1) (hc : c = q.1.c2) (hd : d = q.1.c3) {n x y : Int} (hn : n = q.2.1) (hx : x = q.2.2.1) (hy : y = q.2.2.2) (h : Below w.heap.size w w') :
    Parsed r w (.returned (.tuple #[.agg #[.int .u64 a, .int .u64 b, .int .u64 c, .int .u64 d], .int .i64 n, .agg #[.int .i64 x, .int .i64 y]])) w' := by
  subst hr ha hb hc hd hn hx hy; exact ⟨rfl, h⟩
theorem parseI_out {s : ByteArray} {n : Int} (h : n < 0 ∨ (s.size : Int) < n) : parseI s n = (Cls.none, 0, 0, 5) := if_pos h
theorem parseF_no {s : ByteArray} {p : Nat} (h : ¬ (p < s.size ∧ bat s p = 91)) : parseF s p = (Cls.none, 0, p, 30) := if_neg h
theorem parseF_bad {s : ByteArray} {p q0 m pl c : Nat} {L : List (Nat × Nat)} (h : p < s.size ∧ bat s p = 91) (hq : q0 = if p + 1 < s.size ∧ bat s (p + 1) = 94 then p + 1 + 1 else p + 1) (hT : itemsF s p (s.size + 1) q0 [] = (L, m, pl, c)) (hc : c ≠ 0) :
    parseF s p = (Cls.none, 0, pl, c) := by
  unfold parseF
  rw [if_pos h]
  dsimp only
  rw [← hq, hT]
  exact if_neg hc
theorem parseF_good {s : ByteArray} {p q0 m : Nat} {L : List (Nat × Nat)} {o : Bool} (h : p < s.size ∧ bat s p = 91) (ho : o = decide (p + 1 < s.size ∧ bat s (p + 1) = 94)) (hq : q0 = if p + 1 < s.size ∧ bat s (p + 1) = 94 then p + 1 + 1 else p + 1) (hT : itemsF s p (s.size + 1) q0 [] = (L, m, 0, 0)) :
    parseF s p = (if o then (Cls.ofFn (inRanges L)).not else Cls.ofFn (inRanges L), m, 0, 0) := by
  unfold parseF
  rw [if_pos h]
  dsimp only
  rw [← hq, hT, ho]
  simp
theorem itemsF_step {s : ByteArray} {b k q : Nat} {l : List (Nat × Nat)} {x y r pl : Nat} (h : ¬ (q < s.size ∧ bat s q = 93)) (hi : itemF s b q = (x, y, r, pl, 0)) : itemsF s b (k + 1) q l = itemsF s b k r (l ++ [(x, y)]) := by
  rw [itemsF, if_neg h, hi]; rfl
theorem itemsF_bad {s : ByteArray} {b k q : Nat} {l : List (Nat × Nat)} {x y r pl c : Nat} (h : ¬ (q < s.size ∧ bat s q = 93)) (hi : itemF s b q = (x, y, r, pl, c)) (hc : c ≠ 0) : itemsF s b (k + 1) q l = ([], 0, pl, c) := by
  rw [itemsF, if_neg h, hi]; exact if_neg hc
theorem itemsF_end {s : ByteArray} {b k q : Nat} {l : List (Nat × Nat)} (h : q < s.size ∧ bat s q = 93) : itemsF s b (k + 1) q l = (l, q + 1, 0, 0) := by rw [itemsF, if_pos h]
theorem four_cells {w : World} {k : Nat} {u v x y : Value} {t : TypeId} (h : w.heap[k]? = some (.cells #[u, v, x, y] t (0, 0))) : (w.cell? ⟨k, 0, none⟩ = some u ∧ w.cell? ⟨k, 1, none⟩ = some v ∧ w.cell? ⟨k, 2, none⟩ = some x ∧ w.cell? ⟨k, 3, none⟩ = some y) ∧ (w.frozen? ⟨k, 0, none⟩ = false ∧ w.frozen? ⟨k, 1, none⟩ = false ∧ w.frozen? ⟨k, 2, none⟩ = false ∧ w.frozen? ⟨k, 3, none⟩ = false) :=
  ⟨⟨by rw [cell_of_row _ _ _ _ _ _ h]; rfl, by rw [cell_of_row _ _ _ _ _ _ h]; rfl, by rw [cell_of_row _ _ _ _ _ _ h]; rfl, by rw [cell_of_row _ _ _ _ _ _ h]; rfl⟩, frozen_of_row _ _ _ _ _ h, frozen_of_row _ _ _ _ _ h, frozen_of_row _ _ _ _ _ h, frozen_of_row _ _ _ _ _ h⟩
def setFour (w : World) (k : Nat) (x0 x1 x2 x3 : Value) : World := (((w.setCell ⟨k, 0, none⟩ x0).setCell ⟨k, 1, none⟩ x1).setCell ⟨k, 2, none⟩ x2).setCell ⟨k, 3, none⟩ x3
theorem set_four {w : World} {k : Nat} {a b c d x0 x1 x2 x3 : Value} {t : TypeId} (h : w.heap[k]? = some (.cells #[a, b, c, d] t (0, 0))) : (setFour w k x0 x1 x2 x3).heap[k]? = some (.cells #[x0, x1, x2, x3] t (0, 0)) := heap_put (heap_put (heap_put (heap_put h)))
theorem four_other {w : World} {k j : Nat} {x0 x1 x2 x3 : Value} {o : Obj} (hne : j ≠ k) (h : w.heap[j]? = some o) : (setFour w k x0 x1 x2 x3).heap[j]? = some o := heap_other hne (heap_other hne (heap_other hne (heap_other hne h)))
def smallN : Nat := 70368744175616
theorem small_big {s : ByteArray} (h : s.size ≤ smallN) : s.size ≤ bigN := by unfold smallN at h; unfold bigN; omega
set_option maxRecDepth 100000 in
set_option maxHeartbeats 1000000 in
theorem parse_c (s : ByteArray) (hs : s.size ≤ smallN) (n : Int) (hn : -9223372036854775808 ≤ n ∧ n ≤ 9223372036854775807) (w : World) : Calls Try.prog 31 #[.string s, .int .i64 n] w (Parsed (parseI s n) w) := by
  have hsb := small_big hs
  unfold smallN at hs
  by_cases hout : n < 0 ∨ (s.size : Int) < n
  · have HF := Lib.hid (parseI_out hout)
    go_enter Try.func31, Try.ntmps31
    rcases hout with h | h
    · go_wp2
      refine bodyPost_ret (v := .tuple #[.agg #[.int .u64 0, .int .u64 0, .int .u64 0, .int .u64 0], .int .i64 0, .agg #[.int .i64 0, .int .i64 5]]) (by simp [results, Try.results31, go_sem]) rfl (prs_mk HF.out rfl rfl rfl rfl rfl rfl rfl ?_)
      (repeat (first | with_reducible exact Below.refl _ _ | with_reducible apply below_drewN' | with_reducible apply below_drew | with_reducible apply below_allocs | (with_reducible refine below_setA ?_ _ _ (by dsimp only; omega))))
    · have h' : ¬ n < 0 := by omega
      go_wp2
      refine bodyPost_ret (v := .tuple #[.agg #[.int .u64 0, .int .u64 0, .int .u64 0, .int .u64 0], .int .i64 0, .agg #[.int .i64 0, .int .i64 5]]) (by simp [results, Try.results31, go_sem]) rfl (prs_mk HF.out rfl rfl rfl rfl rfl rfl rfl ?_)
      (repeat (first | with_reducible exact Below.refl _ _ | with_reducible apply below_drewN' | with_reducible apply below_drew | with_reducible apply below_allocs | (with_reducible refine below_setA ?_ _ _ (by dsimp only; omega))))
  · obtain ⟨p, rfl⟩ : ∃ p : Nat, n = (p : Int) := ⟨n.toNat, by omega⟩
    have hp : p ≤ s.size := by omega
    have hI : parseI s (p : Int) = parseF s p := if_neg hout
    have hb := bat_eq s p
    by_cases h91 : p < s.size ∧ bat s p = 91
    · obtain ⟨hlt, h9⟩ := h91
      have hb' := hb hlt
      have hz0 : (0 : Int) ≤ (p : Int) ∧ (p : Int) < (s.size : Int) := ⟨by omega, by omega⟩
      go_enter Try.func31, Try.ntmps31
      obtain ⟨o, ho⟩ : ∃ o : Bool, o = decide (p + 1 < s.size ∧ bat s (p + 1) = 94) := ⟨_, rfl⟩
      obtain ⟨q0, hq0⟩ : ∃ q0 : Nat, q0 = if p + 1 < s.size ∧ bat s (p + 1) = 94 then p + 1 + 1 else p + 1 := ⟨_, rfl⟩
      have hq0' : q0 ≤ s.size := by rw [hq0]; split <;> omega
      have HO := Lib.hid ho; have HQ := Lib.hid hq0; clear ho hq0
      go_wp2_with (go_at_call 42; refine (skip_c s hsb p (p + 1) (w.heap.size + 2) 94 (by decide) (by omega) _ (heap_new2 _ _ _ _)).mono ?_; rintro e w1 ⟨rfl, hgb, hr⟩; rw [← HO.out]; rw [← HQ.out] at hr)
      have hz1 := gb_heap (k := w.heap.size) (o := .cells #[.int .u64 0, .int .u64 0, .int .u64 0, .int .u64 0] 24 (0, 0)) hgb (heap_keep (heap_keep (heap_new _ _))) (by omega)
      have hz2 := gb_heap (k := w.heap.size + 1) (o := .cells #[.int .i64 0, .int .i64 0] 49 (0, 0)) hgb (heap_keep (heap_new1 _ _ _)) (by omega)
      have hB1 : Below w.heap.size w w1 := Below.grown (by (repeat (first | with_reducible exact Below.refl _ _ | with_reducible apply below_drewN' | with_reducible apply below_drew | with_reducible apply below_allocs | (with_reducible refine below_setA ?_ _ _ (by dsimp only; omega))))) hgb (by simp only [World.size_alloc]; omega) (fun k hk => by cases hk; omega)
      have Z1 := Lib.hid hz1; have Z2 := Lib.hid hz2; have HR := Lib.hid hr; have HB1 := Lib.hid hB1; clear hz1 hz2 hr hB1
      have HI := Lib.hid hI; clear hI
      obtain ⟨T, hT⟩ : ∃ T, T = itemsF s p (s.size + 1) q0 [] := ⟨_, rfl⟩
      have HT := Lib.hid hT; clear hT
      go_loopw [9] (fun v wr => ∃ (k q : Nat) (l : List (Nat × Nat)), wr.ownsRow w.heap.size 34 2 v l.length (rcells l) ∧ lenOf v = l.length ∧ (∀ x ∈ l, x.1 < 256 ∧ x.2 < 256) ∧ l.length ≤ q ∧ q ≤ s.size ∧ s.size < q + k ∧ itemsF s p k q l = T ∧
          RdAt wr (w.heap.size + 2) s p q ∧ Below w.heap.size w wr ∧ wr.heap[w.heap.size]? = some (.cells #[.int .u64 0, .int .u64 0, .int .u64 0, .int .u64 0] 24 (0, 0)) ∧ wr.heap[w.heap.size + 1]? = some (.cells #[.int .i64 0, .int .i64 0] 49 (0, 0))) (fun v _ => s.size + 1 - lenOf v)
      case atStart => exact ⟨s.size + 1, q0, [], World.ownsRow_nil _ _ _ _, rfl, by simp, by simp, hq0', by omega, HT.out.symm, HR.out, HB1.out, Z1.out, Z2.out⟩
      case round =>
        obtain ⟨k, q, l, hO, hl, hby, hlq, hqs, hk, hE, hR, hB, h1, h2⟩ := hrel
        have hg2 : w.heap.size + 2 < wr.heap.size := heap_lt hR
        have hne := own_ne hO hR (by decide)
        obtain ⟨wo, rfl⟩ : ∃ wo : World, wo = wr := ⟨_, rfl⟩
        have hO1 := hO.1
        have EO := Lib.hid hO; have EL := Lib.hid hl; have EB := Lib.hid hby; have ER := Lib.hid hR; have EW := Lib.hid hB; have E1 := Lib.hid h1; have E2 := Lib.hid h2; have EE := Lib.hid hE; have EN := Lib.hid hne
        clear hO hl hby hR hB h1 h2 hE hne hO1
        by_cases d : q < s.size ∧ bat s q = 93
        · obtain ⟨k', rfl⟩ : ∃ k', k = k' + 1 := ⟨k - 1, by omega⟩
          have ET := Lib.hid ((HT.out.symm.trans EE.out.symm).trans (itemsF_end d))
          have HF := Lib.hid (HI.out.trans (parseF_good ⟨hlt, h9⟩ HO.out HQ.out ET.out))
          cases o
          · go_wp2_with (first | (go_at_call 13; refine (of_c A l.length cap l _ RD.out).mono ?_; rintro e w3 ⟨rfl, hb3⟩; unfold V4; have hz3 := hb3.size; have B3 := Lib.hid (B2.out.trans (hb3.mono B2.out.size)); have g1 := heap_same hb3 G1.out; have g2 := heap_same hb3 G2.out; have r3 : RdAt w3 (w.heap.size + 2) s p (q + 1) := heap_same hb3 R2.out; have hlt2 := heap_lt R2.out; clear hb3) | (go_at_call 42; refine (skip_c s hsb p q (w.heap.size + 2) 93 (by decide) hqs _ ER.out).mono ?_; rintro e w2 ⟨he, hgb2, hr2⟩; rw [decide_eq_true d] at he; rw [if_pos d] at hr2; subst he; have hz2 := hgb2.size; obtain ⟨A, cap, hv, hrd⟩ := own_ranges (EO.out.kept hgb2 (.inr EN.out)) (by omega) EB.out; subst hv; have g1 := gb_heap hgb2 E1.out (by omega); have g2 := gb_heap hgb2 E2.out (by omega); have hB2 := Below.grown EW.out hgb2 (by have := heap_lt ER.out; omega) (fun k hk => by cases hk; omega); have G1 := Lib.hid g1; have G2 := Lib.hid g2; have R2 := Lib.hid hr2; have RD := Lib.hid hrd; have B2 := Lib.hid hB2; clear g1 g2 hr2 hrd hB2))
            have g3 := heap_keep (o := .cells #[.int .u64 ((Cls.ofFn (inRanges l)).c0 : Int), .int .u64 ((Cls.ofFn (inRanges l)).c1 : Int), .int .u64 ((Cls.ofFn (inRanges l)).c2 : Int), .int .u64 ((Cls.ofFn (inRanges l)).c3 : Int)] 24 (0, 0)) g1
            have g4 := heap_keep (o := .cells #[.int .u64 ((Cls.ofFn (inRanges l)).c0 : Int), .int .u64 ((Cls.ofFn (inRanges l)).c1 : Int), .int .u64 ((Cls.ofFn (inRanges l)).c2 : Int), .int .u64 ((Cls.ofFn (inRanges l)).c3 : Int)] 24 (0, 0)) g2
            have r4 := r3.alloc (.cells #[.int .u64 ((Cls.ofFn (inRanges l)).c0 : Int), .int .u64 ((Cls.ofFn (inRanges l)).c1 : Int), .int .u64 ((Cls.ofFn (inRanges l)).c2 : Int), .int .u64 ((Cls.ofFn (inRanges l)).c3 : Int)] 24 (0, 0))
            obtain ⟨⟨c0, c1, c2, c3⟩, c4, c5, c6, c7⟩ := four_cells g3
            obtain ⟨d0, d1, d2, d3⟩ := two_cells g4
            have d4 := r4.c2
            go_region
            go_wp2
            refine bodyPost_ret (v := .tuple #[.agg #[.int .u64 ((Cls.ofFn (inRanges l)).c0 : Int), .int .u64 ((Cls.ofFn (inRanges l)).c1 : Int), .int .u64 ((Cls.ofFn (inRanges l)).c2 : Int), .int .u64 ((Cls.ofFn (inRanges l)).c3 : Int)], .int .i64 ((q : Int) + 1), .agg #[.int .i64 0, .int .i64 0]]) (by simp [results, Try.results31, go_sem, c0, c1, c2, c3, d0, d1]) rfl (prs_mk HF.out rfl rfl rfl rfl rfl rfl rfl ?_)
            (repeat (first | with_reducible exact Below.refl _ _ | with_reducible apply below_drewN' | with_reducible apply below_drew | with_reducible apply below_allocs | (with_reducible refine below_setA ?_ _ _ (by dsimp only; omega))))
            exact B3.out
          · go_wp2_with (first | (go_at_call 21; refine (not_c (Cls.ofFn (inRanges l)) (Cls.ok_ofFn _) _).mono ?_; rintro e w4 ⟨rfl, hb4⟩; unfold V4; have hz4 := hb4.size; simp only [World.size_alloc] at hz4; have N0 := Lib.hid (heap_same hb4 (heap_new w3 (.cells #[.int .u64 ((Cls.ofFn (inRanges l)).c0 : Int), .int .u64 ((Cls.ofFn (inRanges l)).c1 : Int), .int .u64 ((Cls.ofFn (inRanges l)).c2 : Int), .int .u64 ((Cls.ofFn (inRanges l)).c3 : Int)] 24 (0, 0)))); have N1 := Lib.hid (heap_same hb4 (heap_keep (o := .cells #[.int .u64 ((Cls.ofFn (inRanges l)).c0 : Int), .int .u64 ((Cls.ofFn (inRanges l)).c1 : Int), .int .u64 ((Cls.ofFn (inRanges l)).c2 : Int), .int .u64 ((Cls.ofFn (inRanges l)).c3 : Int)] 24 (0, 0)) g1)); have N2 := Lib.hid (heap_same hb4 (heap_keep (o := .cells #[.int .u64 ((Cls.ofFn (inRanges l)).c0 : Int), .int .u64 ((Cls.ofFn (inRanges l)).c1 : Int), .int .u64 ((Cls.ofFn (inRanges l)).c2 : Int), .int .u64 ((Cls.ofFn (inRanges l)).c3 : Int)] 24 (0, 0)) g2)); have N3 := Lib.hid (heap_same hb4 (heap_keep (o := .cells #[.int .u64 ((Cls.ofFn (inRanges l)).c0 : Int), .int .u64 ((Cls.ofFn (inRanges l)).c1 : Int), .int .u64 ((Cls.ofFn (inRanges l)).c2 : Int), .int .u64 ((Cls.ofFn (inRanges l)).c3 : Int)] 24 (0, 0)) r3)); have B4 := Lib.hid ((below_allocs B3.out (.cells #[.int .u64 ((Cls.ofFn (inRanges l)).c0 : Int), .int .u64 ((Cls.ofFn (inRanges l)).c1 : Int), .int .u64 ((Cls.ofFn (inRanges l)).c2 : Int), .int .u64 ((Cls.ofFn (inRanges l)).c3 : Int)] 24 (0, 0))).trans (hb4.mono (by have := B3.out.size; simp only [World.size_alloc]; omega))); clear hb4; obtain ⟨⟨y0, y1, y2, y3⟩, y4, y5, y6, y7⟩ := four_cells N0.out) | (go_at_call 13; refine (of_c A l.length cap l _ RD.out).mono ?_; rintro e w3 ⟨rfl, hb3⟩; unfold V4; have hz3 := hb3.size; have B3 := Lib.hid (B2.out.trans (hb3.mono B2.out.size)); have g1 := heap_same hb3 G1.out; have g2 := heap_same hb3 G2.out; have r3 : RdAt w3 (w.heap.size + 2) s p (q + 1) := heap_same hb3 R2.out; have hlt2 := heap_lt R2.out; clear hb3) | (go_at_call 42; refine (skip_c s hsb p q (w.heap.size + 2) 93 (by decide) hqs _ ER.out).mono ?_; rintro e w2 ⟨he, hgb2, hr2⟩; rw [decide_eq_true d] at he; rw [if_pos d] at hr2; subst he; have hz2 := hgb2.size; obtain ⟨A, cap, hv, hrd⟩ := own_ranges (EO.out.kept hgb2 (.inr EN.out)) (by omega) EB.out; subst hv; have g1 := gb_heap hgb2 E1.out (by omega); have g2 := gb_heap hgb2 E2.out (by omega); have hB2 := Below.grown EW.out hgb2 (by have := heap_lt ER.out; omega) (fun k hk => by cases hk; omega); have G1 := Lib.hid g1; have G2 := Lib.hid g2; have R2 := Lib.hid hr2; have RD := Lib.hid hrd; have B2 := Lib.hid hB2; clear g1 g2 hr2 hrd hB2))
            have M0 := set_four (x0 := .int .u64 ((Cls.ofFn (inRanges l)).not.c0 : Int)) (x1 := .int .u64 ((Cls.ofFn (inRanges l)).not.c1 : Int)) (x2 := .int .u64 ((Cls.ofFn (inRanges l)).not.c2 : Int)) (x3 := .int .u64 ((Cls.ofFn (inRanges l)).not.c3 : Int)) N0.out
            have M1 := four_other (x0 := .int .u64 ((Cls.ofFn (inRanges l)).not.c0 : Int)) (x1 := .int .u64 ((Cls.ofFn (inRanges l)).not.c1 : Int)) (x2 := .int .u64 ((Cls.ofFn (inRanges l)).not.c2 : Int)) (x3 := .int .u64 ((Cls.ofFn (inRanges l)).not.c3 : Int)) (show w.heap.size ≠ w3.heap.size by omega) N1.out
            have M2 := four_other (x0 := .int .u64 ((Cls.ofFn (inRanges l)).not.c0 : Int)) (x1 := .int .u64 ((Cls.ofFn (inRanges l)).not.c1 : Int)) (x2 := .int .u64 ((Cls.ofFn (inRanges l)).not.c2 : Int)) (x3 := .int .u64 ((Cls.ofFn (inRanges l)).not.c3 : Int)) (show w.heap.size + 1 ≠ w3.heap.size by omega) N2.out
            have M3 : RdAt (setFour w4 w3.heap.size (.int .u64 ((Cls.ofFn (inRanges l)).not.c0 : Int)) (.int .u64 ((Cls.ofFn (inRanges l)).not.c1 : Int)) (.int .u64 ((Cls.ofFn (inRanges l)).not.c2 : Int)) (.int .u64 ((Cls.ofFn (inRanges l)).not.c3 : Int))) (w.heap.size + 2) s p (q + 1) := four_other (show w.heap.size + 2 ≠ w3.heap.size by omega) N3.out
            unfold setFour at M0 M1 M2 M3
            obtain ⟨⟨a0, a1, a2, a3⟩, _, _, _, _⟩ := four_cells M0
            obtain ⟨⟨c0, c1, c2, c3⟩, c4, c5, c6, c7⟩ := four_cells M1
            obtain ⟨d0, d1, d2, d3⟩ := two_cells M2
            have d4 := M3.c2
            go_region
            go_wp2
            refine bodyPost_ret (v := .tuple #[.agg #[.int .u64 (((Cls.ofFn (inRanges l)).not).c0 : Int), .int .u64 (((Cls.ofFn (inRanges l)).not).c1 : Int), .int .u64 (((Cls.ofFn (inRanges l)).not).c2 : Int), .int .u64 (((Cls.ofFn (inRanges l)).not).c3 : Int)], .int .i64 ((q : Int) + 1), .agg #[.int .i64 0, .int .i64 0]]) (by simp [results, Try.results31, go_sem, c0, c1, c2, c3, d0, d1]) rfl (prs_mk HF.out rfl rfl rfl rfl rfl rfl rfl ?_)
            (repeat (first | with_reducible exact Below.refl _ _ | with_reducible apply below_drewN' | with_reducible apply below_drew | with_reducible apply below_allocs | (with_reducible refine below_setA ?_ _ _ (by dsimp only; omega))))
            exact B4.out
        · obtain ⟨x, y, r, pl, c, hF⟩ : ∃ x y r pl c, itemF s p q = (x, y, r, pl, c) := ⟨_, _, _, _, _, rfl⟩
          have hnx := itemF_next s p q hqs
          have hon := itemF_on s p q hqs
          have hxy := itemF_bytes s p q
          rw [hF] at hnx hon hxy
          dsimp only at hnx hon hxy
          have EI := Lib.hid hF; clear hF
          obtain ⟨k', rfl⟩ : ∃ k', k = k' + 1 := ⟨k - 1, by omega⟩
          by_cases hc : c = 0
          · subst hc
            have hon' := hon rfl
            clear hon
            have EE' := Lib.hid (itemsF_step (l := l) (k := k') d EI.out)
            go_wp2_with (first | (go_at_call 43; refine (item_c s hsb p q (w.heap.size + 2) hqs _ hr2).mono ?_; rintro e w3 ⟨rfl, hgb3, hr3⟩; rw [EI.out] at hr3 ⊢; dsimp only at hr3 ⊢; have hgb4 := Go.Lib.grownBy_trans hgb2 hgb3; have hz := hgb4.size; have g1 := gb_heap hgb4 E1.out (by omega); have g2 := gb_heap hgb4 E2.out (by omega); have hOw := EO.out.kept hgb4 (.inr EN.out); have hBw := Below.grown EW.out hgb4 (by have := heap_lt ER.out; omega) (fun k hk => by cases hk; omega)) | (go_at_call 42; refine (skip_c s hsb p q (w.heap.size + 2) 93 (by decide) hqs _ ER.out).mono ?_; rintro e w2 ⟨he, hgb2, hr2⟩; rw [decide_eq_false d] at he; rw [if_neg d] at hr2; subst he) | (at_builtin; go_must (refine app1 (w0 := w) w.heap.size rfl (.tmp 57) (.tmp 59) 32 34 (.agg #[.int .u8 0, .int .u8 0]) 2 2 rfl Try.underlying32 infoRng rfl (by decide) _ _ _ #[.int .u8 (x : Int), .int .u8 (y : Int)] rfl (by simp [Value.oneCell']) rfl (by simp only [World.size_alloc]; rfl) (own_below hOw (by (repeat (first | with_reducible exact Below.refl _ _ | with_reducible apply below_drewN' | with_reducible apply below_drew | with_reducible apply below_allocs | (with_reducible refine below_setA ?_ _ _ (by dsimp only; omega)))))) (by (repeat (first | with_reducible exact Below.refl _ _ | with_reducible apply below_drewN' | with_reducible apply below_drew | with_reducible apply below_allocs | (with_reducible refine below_setA ?_ _ _ (by dsimp only; omega)))); exact hBw) (by simp only [World.size_alloc]; omega) (by omega) (by omega) ?_); intro gq cq w4 hO4 hB4 hk4 hs4))
            go_roundw
            case rel =>
              refine ⟨k', r, l ++ [(x, y)], ?_, ?_, ?_, ?_, hnx.2, by omega, EE'.out.symm.trans EE.out, hk4 _ _ (heap_keep (heap_keep hr3)) (own_ne hOw hr3 (by decide)), hB4, hk4 _ _ (heap_keep (heap_keep g1)) (own_ne hOw g1 (by decide)), hk4 _ _ (heap_keep (heap_keep g2)) (own_ne hOw g2 (by decide))⟩
              · rw [rcells_snoc, List.length_append]; exact hO4
              · simp [lenOf]
              · intro z hz
                rcases List.mem_append.1 hz with hz | hz
                · exact EB.out z hz
                · obtain rfl := List.mem_singleton.1 hz
                  exact hxy
              · rw [List.length_append, List.length_singleton]; omega
            case measure =>
              have e := EL.out
              show s.size + 1 - (l.length + 1) < s.size + 1 - lenOf _
              rw [e]; omega
          · clear hon
            have ET := Lib.hid ((HT.out.symm.trans EE.out.symm).trans (itemsF_bad d EI.out hc))
            have HF := Lib.hid (HI.out.trans (parseF_bad ⟨hlt, h9⟩ HQ.out ET.out hc))
            go_wp2_with (first | (go_at_call 43; refine (item_c s hsb p q (w.heap.size + 2) hqs _ hr2).mono ?_; rintro e w3 ⟨rfl, hgb3, hr3⟩; rw [EI.out] at hr3 ⊢; dsimp only at hr3 ⊢; have hgb4 := Go.Lib.grownBy_trans hgb2 hgb3; have hz := hgb4.size; have g1 := gb_heap hgb4 E1.out (by omega); have g2 := gb_heap hgb4 E2.out (by omega); have hOw := EO.out.kept hgb4 (.inr EN.out); have hBw := Below.grown EW.out hgb4 (by have := heap_lt ER.out; omega) (fun k hk => by cases hk; omega); have g3 := heap_keep (o := .cells #[.int .u8 (x : Int), .int .u8 (y : Int)] 34 (0, 0)) g1; have g4 := heap_keep (o := .cells #[.int .i64 (pl : Int), .int .i64 (c : Int)] 49 (0, 0)) g3; have g5 := heap_keep (o := .cells #[.int .u8 (x : Int), .int .u8 (y : Int)] 34 (0, 0)) g2; have g6 := heap_keep (o := .cells #[.int .i64 (pl : Int), .int .i64 (c : Int)] 49 (0, 0)) g5; obtain ⟨⟨c0, c1, c2, c3⟩, c4, c5, c6, c7⟩ := four_cells g4; obtain ⟨d0, d1, d2, d3⟩ := two_cells g6) | (go_at_call 42; refine (skip_c s hsb p q (w.heap.size + 2) 93 (by decide) hqs _ ER.out).mono ?_; rintro e w2 ⟨he, hgb2, hr2⟩; rw [decide_eq_false d] at he; rw [if_neg d] at hr2; subst he))
            go_region
            go_wp2
            refine bodyPost_ret (v := .tuple #[.agg #[.int .u64 0, .int .u64 0, .int .u64 0, .int .u64 0], .int .i64 0, .agg #[.int .i64 (pl : Int), .int .i64 (c : Int)]]) (by simp [results, Try.results31, go_sem, c0, c1, c2, c3, d0, d1]) rfl (prs_mk HF.out rfl rfl rfl rfl rfl rfl rfl ?_)
            (repeat (first | with_reducible exact Below.refl _ _ | with_reducible apply below_drewN' | with_reducible apply below_drew | with_reducible apply below_allocs | (with_reducible refine below_setA ?_ _ _ (by dsimp only; omega))))
            exact hBw
    · have HF : Hid (parseI s (p : Int) = (Cls.none, 0, p, 30)) := Lib.hid (by rw [hI]; exact parseF_no h91)
      go_enter Try.func31, Try.ntmps31
      by_cases hlt : p < s.size
      · have h9' : ¬ bat s p = 91 := fun q => h91 ⟨hlt, q⟩
        have h9 : ¬ ((bat s p : Nat) : Int) = 91 := by omega
        have h9b : (((bat s p : Nat) : Int) != 91) = true := by simp; omega
        have hb' := hb hlt
        have hz0 : (0 : Int) ≤ (p : Int) ∧ (p : Int) < (s.size : Int) := ⟨by omega, by omega⟩
        go_wp2
        refine bodyPost_ret (v := .tuple #[.agg #[.int .u64 0, .int .u64 0, .int .u64 0, .int .u64 0], .int .i64 0, .agg #[.int .i64 (p : Int), .int .i64 30]]) (by simp [results, Try.results31, go_sem]) rfl (prs_mk HF.out rfl rfl rfl rfl rfl rfl rfl ?_)
        (repeat (first | with_reducible exact Below.refl _ _ | with_reducible apply below_drewN' | with_reducible apply below_drew | with_reducible apply below_allocs | (with_reducible refine below_setA ?_ _ _ (by dsimp only; omega))))
      · have hpe : p = s.size := by omega
        subst hpe
        go_wp2
        refine bodyPost_ret (v := .tuple #[.agg #[.int .u64 0, .int .u64 0, .int .u64 0, .int .u64 0], .int .i64 0, .agg #[.int .i64 (s.size : Int), .int .i64 30]]) (by simp [results, Try.results31, go_sem]) rfl (prs_mk HF.out rfl rfl rfl rfl rfl rfl rfl ?_)
        (repeat (first | with_reducible exact Below.refl _ _ | with_reducible apply below_drewN' | with_reducible apply below_drew | with_reducible apply below_allocs | (with_reducible refine below_setA ?_ _ _ (by dsimp only; omega))))
end Go.Proofs.Ytachpdeejificaa
