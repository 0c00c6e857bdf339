/- A region that draws its order, by an invariant: each operation's step is shown once, whatever has come before it. -/
import Derived.WalkKit
set_option linter.unusedVariables false
set_option linter.unusedSimpArgs false
namespace Go.Proofs.Ytachpdeejificaa
section
variable {P : Program} {md : Region.Mode} {ops : Array Oper} {Q : Exit → Act → World → Prop}
/-- Each edge that binds leads to an operation ahead. -/
def edgesBack (ops : Array Oper) : Bool := (List.range ops.size).all fun i => ((ops[i]?).map (·.after.all fun e => !Region.binds .any e || decide (e.on < i))).getD true
theorem all_listed (hb : edgesBack ops = true) {L : Array Bool} (hr : Region.ready .any ops L = []) (hz : L.size = ops.size) : ∀ i, i < ops.size → L.getD i false = true := by
  intro i
  induction i using Nat.strongRecOn with
  | _ i ih =>
    intro hi
    cases hL : L.getD i false with
    | true => rfl
    | false =>
      exfalso
      have hm : i ∈ Region.ready .any ops L := by
        unfold Region.ready
        rw [List.mem_filter]
        refine ⟨by simpa using hi, ?_⟩
        have h1 : L.getD i true = false := by
          have hlt : i < L.size := by omega
          simp only [Array.getD_eq_getD_getElem?, Array.getElem?_eq_getElem hlt] at hL ⊢
          exact hL
        rw [h1, Array.getElem?_eq_getElem hi]
        simp only [Bool.not_false, Option.map_some, Option.getD_some, Bool.true_and]
        rw [Array.all_eq_true_iff_forall_mem]
        intro e he
        have hb' := List.all_eq_true.1 hb i (by simpa using hi)
        rw [Array.getElem?_eq_getElem hi] at hb'
        simp only [Option.map_some, Option.getD_some] at hb'
        rcases Bool.or_eq_true_iff.1 (Array.all_eq_true_iff_forall_mem.1 hb' e he) with hbd | hlt
        · rw [hbd]; rfl
        · rw [ih e.on (of_decide_eq_true hlt) (by have := of_decide_eq_true hlt; omega)]
          simp
      rw [hr] at hm
      cases hm
theorem wpAny_inv (hb : edgesBack ops = true) (I : Array Bool → Act → World → Prop)
    (hs : ∀ L a w i, L.size = ops.size → I L a w → i ∈ Region.ready .any ops L → wpOp P ops Q i (I (L.setIfInBounds i true)) a w)
    (hd : ∀ L a w, (∀ i, i < ops.size → L.getD i false = true) → I L a w → Q .normal a w) :
    ∀ (fuel : Nat) (L : Array Bool) (a : Act) (w : World), L.size = ops.size → L.toList.countP (fun b => !b) ≤ fuel → I L a w → wpAny P .any ops Q fuel L a w := by
  intro fuel
  induction fuel with
  | zero =>
    intro L a w hz hf hI
    have h0 : L.toList.countP (fun b => !b) = 0 := by omega
    have hall : ∀ i, i < L.size → L.getD i true = true := by
      intro i hi
      rw [List.countP_eq_zero] at h0
      have := h0 (L[i]) (by simp)
      simp only [Array.getD_eq_getD_getElem?, Array.getElem?_eq_getElem hi, Option.getD_some]
      simpa using this
    have hr : Region.ready .any ops L = [] := by
      rw [List.eq_nil_iff_forall_not_mem]
      intro i hi
      obtain ⟨h1, o, ho, _⟩ := mem_ready.1 hi
      rw [hall i (by rw [hz]; exact (Array.getElem?_eq_some_iff.1 ho).1)] at h1
      cases h1
    exact ⟨hr, hd L a w (all_listed hb hr hz) hI⟩
  | succ n ih =>
    intro L a w hz hf hI
    refine ⟨fun hr => hd L a w (all_listed hb hr hz) hI, fun i hi => ?_⟩
    refine wpOp_mono (fun a' w' h => ih _ _ _ (by simpa using hz) ?_ h) (hs L a w i hz hI hi)
    obtain ⟨h1, o, ho, _⟩ := mem_ready.1 hi
    have hlt : i < L.size := by rw [hz]; exact (Array.getElem?_eq_some_iff.1 ho).1
    simp only [Array.getD_eq_getD_getElem?, Array.getElem?_eq_getElem hlt, Option.getD_some] at h1
    have hlt' : i < L.toList.length := by simpa using hlt
    have hpos : 0 < L.toList.countP (fun b => !b) := List.countP_pos_iff.2 ⟨L[i], by simp, by simp [h1]⟩
    rw [Array.toList_setIfInBounds, List.countP_set hlt']
    simp only [Array.getElem_toList, h1, Bool.not_false, Bool.not_true, if_true, Bool.false_eq_true, if_false]
    omega
theorem wp_region_inv {id : Nat} {a : Act} {w : World} (hm : P.follows .mixedOrders = true) (hb : edgesBack ops = true) (I : Array Bool → Act → World → Prop)
    (h0 : I (Array.replicate ops.size false) a { w with drawn := w.drawn + 1 })
    (hs : ∀ L a w i, L.size = ops.size → I L a w → i ∈ Region.ready .any ops L → wpOp P ops Q i (I (L.setIfInBounds i true)) a w)
    (hd : ∀ L a w, (∀ i, i < ops.size → L.getD i false = true) → I L a w → Q .normal a w) : (Code.region id ops true).wp P Q a w :=
  wp_region_any hm (wpAny_inv hb I hs hd _ _ _ _ (by simp) (Nat.le_trans List.countP_le_length (by simp)) h0)
theorem wp_then {o : Oper} {a : Act} {w : World} {K K' : Act → World → Prop} (h : o.wp P a w K (Exit.then K' Q)) : o.wp P a w K Q := by
  unfold Oper.wp at *
  generalize (execOp a.eval o).run P w = r at *
  cases r with
  | ok n w' =>
    cases n <;> simp only [Oper.upon] at h ⊢
    · exact h
    · exact h
    · refine Calls.mono h (fun e w'' he => ?_)
      cases e <;> exact he
    · exact h
    · exact h
  | halt x w' => cases x <;> simp only [Oper.upon] at h ⊢ <;> exact h
theorem wpOp_list {i : Nat} {o : Oper} (ho : ops[i]? = some o) (hg : o.guard = none) {K : Act → World → Prop} {a : Act} {w : World} (h : o.wp P a w K Q) : wpOp P ops Q i K a w := by
  unfold wpOp
  rw [ho]
  simp only [Region.wanted, hg, if_true]
  exact .inl h
theorem wpOp_walk {i : Nat} {o : Oper} (ho : ops[i]? = some o) (hg : o.guard = none) {K : Act → World → Prop} {a : Act} {w : World} (h : wpList P ops (Exit.then K Q) [o] a w) : wpOp P ops Q i K a w := by
  unfold wpOp
  rw [ho]
  simp only [wpList, Region.wanted, hg, if_true] at h ⊢
  rcases h with h | ⟨h, h'⟩
  · exact .inl (wp_then h)
  · exact .inr ⟨h, h'⟩
theorem getD_false {L : Array Bool} {n i : Nat} (hz : L.size = n) (hi : i < n) (h : L.getD i true = false) : L.getD i false = false := by
  have hlt : i < L.size := by omega
  simp only [Array.getD_eq_getD_getElem?, Array.getElem?_eq_getElem hlt] at h ⊢
  exact h
theorem getD_set {L : Array Bool} {i j : Nat} (h : (L.setIfInBounds i true).getD j false = true) (hne : j ≠ i) : L.getD j false = true := by
  rwa [getD_set_ne false (fun e => hne e.symm)] at h
end
end Go.Proofs.Ytachpdeejificaa
