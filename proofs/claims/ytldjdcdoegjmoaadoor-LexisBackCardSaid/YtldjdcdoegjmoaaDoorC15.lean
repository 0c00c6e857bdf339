import Derived.KernelRfl
import Derived.Test.YtldjdcdoegjmoaaDoorC1
import Derived.Test.YtldjdcdoegjmoaaDoorC3
import Derived.Test.YtldjdcdoegjmoaaDoorC7
import Derived.Test.YtldjdcdoegjmoaaDoorC9
import Derived.Test.YtldjdcdoegjmoaaDoorC10
import Derived.Test.YtldjdcdoegjmoaaDoorC12
set_option linter.unusedVariables false
set_option linter.unusedSimpArgs false
namespace Go.Proofs.YtldjdcdoegjmoaaDoor
/-- A byte's own text. -/
def hexd (d : Nat) : Nat := if d < 10 then 48 + d else 87 + d
def spellL (b : Nat) : List Nat :=
  if b = 9 then [92, 116] else if b = 10 then [92, 110] else if b = 13 then [92, 114] else if b = 92 ∨ b = 93 ∨ b = 45 ∨ b = 94 then [92, b]
  else if b < 32 ∨ 126 < b then [92, 120, hexd (b / 16), hexd (b % 16)] else [b]
/-- The bytes of a text at a place. -/
def BAt (s : ByteArray) (p : Nat) (l : List Nat) : Prop := p + l.length ≤ s.size ∧ ∀ i, i < l.length → bat s (p + i) = l.getD i 0
theorem BAt.left {s : ByteArray} {p : Nat} {l m : List Nat} (h : BAt s p (l ++ m)) : BAt s p l := by
  refine ⟨by have := h.1; rw [List.length_append] at this; omega, fun i hi => ?_⟩
  rw [h.2 i (by rw [List.length_append]; omega), List.getD_eq_getElem?_getD, List.getElem?_append_left hi, ← List.getD_eq_getElem?_getD]
theorem BAt.right {s : ByteArray} {p : Nat} {l m : List Nat} (h : BAt s p (l ++ m)) : BAt s (p + l.length) m := by
  refine ⟨by have := h.1; rw [List.length_append] at this; omega, fun i hi => ?_⟩
  rw [Nat.add_assoc, h.2 (l.length + i) (by rw [List.length_append]; omega), List.getD_eq_getElem?_getD, List.getElem?_append_right (by omega), ← List.getD_eq_getElem?_getD]
  congr 1; omega
theorem hexv_hexd : ∀ d : Fin 16, hexv (hexd d.val) = (d.val : Int) := by decide
theorem hexv_d {d : Nat} (h : d < 16) : hexv (hexd d) = (d : Int) := hexv_hexd ⟨d, h⟩
theorem byteF_spell {s : ByteArray} {p b : Nat} (hb : b < 256) (h : BAt s p (spellL b)) : byteF s p = (b, p + (spellL b).length, 0) := by
  obtain ⟨hs, h⟩ := h
  unfold spellL at hs h ⊢
  by_cases h1 : b = 9
  · subst h1
    simp only [if_true, List.length_cons, List.length_nil] at hs h ⊢
    have e0 := h 0 (by omega); have e1 := h 1 (by omega)
    simp at e0 e1
    unfold byteF sayF escF
    simp [e0, e1, show p < s.size by omega, show p + 1 < s.size by omega]
  rw [if_neg h1] at hs h ⊢
  by_cases h2 : b = 10
  · subst h2
    simp only [if_true, List.length_cons, List.length_nil] at hs h ⊢
    have e0 := h 0 (by omega); have e1 := h 1 (by omega)
    simp at e0 e1
    unfold byteF sayF escF
    simp [e0, e1, show p < s.size by omega, show p + 1 < s.size by omega]
  rw [if_neg h2] at hs h ⊢
  by_cases h3 : b = 13
  · subst h3
    simp only [if_true, List.length_cons, List.length_nil] at hs h ⊢
    have e0 := h 0 (by omega); have e1 := h 1 (by omega)
    simp at e0 e1
    unfold byteF sayF escF
    simp [e0, e1, show p < s.size by omega, show p + 1 < s.size by omega]
  rw [if_neg h3] at hs h ⊢
  by_cases h4 : b = 92 ∨ b = 93 ∨ b = 45 ∨ b = 94
  · rw [if_pos h4] at hs h ⊢
    simp only [List.length_cons, List.length_nil] at hs h ⊢
    have e0 := h 0 (by omega); have e1 := h 1 (by omega)
    simp at e0 e1
    unfold byteF sayF escF
    rw [if_pos (by omega), if_pos e0, if_pos (by omega), e1, if_neg (by omega), if_neg (by omega), if_neg (by omega), if_pos (by omega)]
  rw [if_neg h4] at hs h ⊢
  by_cases h5 : b < 32 ∨ 126 < b
  · rw [if_pos h5] at hs h ⊢
    simp only [List.length_cons, List.length_nil] at hs h ⊢
    have e0 := h 0 (by omega); have e1 := h 1 (by omega); have e2 := h 2 (by omega); have e3 := h 3 (by omega)
    simp at e0 e1 e2 e3
    have d1 := hexv_d (d := b / 16) (by omega); have d2 := hexv_d (d := b % 16) (by omega)
    unfold byteF sayF escF
    rw [if_pos (by omega), if_pos e0, if_pos (by omega), e1, if_neg (by omega), if_neg (by omega), if_neg (by omega), if_neg (by omega), e2, e3, d1, d2, if_pos ⟨rfl, by omega, by omega, by omega⟩]
    have : (16 * ((b / 16 : Nat) : Int) + ((b % 16 : Nat) : Int)).toNat = b := by omega
    rw [this]
  rw [if_neg h5] at hs h ⊢
  simp only [List.length_cons, List.length_nil] at hs h ⊢
  have e0 := h 0 (by omega)
  simp at e0
  unfold byteF sayF
  rw [if_pos (by omega), e0, if_neg (by omega), if_neg (show ¬ barred b by unfold barred; omega)]
theorem spellL_head (b : Nat) : ∃ c t, spellL b = c :: t ∧ c ≠ 45 ∧ c ≠ 93 ∧ c ≠ 94 := by
  unfold spellL
  by_cases h1 : b = 9
  · rw [if_pos h1]; exact ⟨92, [116], rfl, by decide, by decide, by decide⟩
  rw [if_neg h1]
  by_cases h2 : b = 10
  · rw [if_pos h2]; exact ⟨92, [110], rfl, by decide, by decide, by decide⟩
  rw [if_neg h2]
  by_cases h3 : b = 13
  · rw [if_pos h3]; exact ⟨92, [114], rfl, by decide, by decide, by decide⟩
  rw [if_neg h3]
  by_cases h4 : b = 92 ∨ b = 93 ∨ b = 45 ∨ b = 94
  · rw [if_pos h4]; exact ⟨92, [b], rfl, by decide, by decide, by decide⟩
  rw [if_neg h4]
  by_cases h5 : b < 32 ∨ 126 < b
  · rw [if_pos h5]; exact ⟨92, _, rfl, by decide, by decide, by decide⟩
  rw [if_neg h5]
  exact ⟨b, [], rfl, by omega, by omega, by omega⟩
theorem spellL_len (b : Nat) : 1 ≤ (spellL b).length := by
  obtain ⟨c, t, e, _⟩ := spellL_head b
  rw [e]; simp
theorem BAt.head {s : ByteArray} {p c : Nat} {t : List Nat} (h : BAt s p (c :: t)) : p < s.size ∧ bat s p = c := by
  have h1 := h.1; have h2 := h.2 0 (by simp)
  simp at h1 h2
  exact ⟨by omega, h2⟩
/-- One byte said, no - behind it. -/
theorem itemF_one {s : ByteArray} {b p x c : Nat} {t : List Nat} (hx : x < 256) (h : BAt s p (spellL x ++ c :: t)) (hc : c ≠ 45) : itemF s b p = (x, x, p + (spellL x).length, 0, 0) := by
  have e := byteF_spell hx h.left
  have e2 := h.right.head
  unfold itemF
  rw [e]
  dsimp only
  rw [if_pos rfl, if_neg (by omega)]
/-- Two bytes with a - between. -/
theorem itemF_two {s : ByteArray} {b p x y : Nat} {t : List Nat} (hx : x < 256) (hy : y < 256) (hxy : x ≤ y) (h : BAt s p (spellL x ++ 45 :: (spellL y ++ t))) : itemF s b p = (x, y, p + (spellL x).length + 1 + (spellL y).length, 0, 0) := by
  have e := byteF_spell hx h.left
  have e2 := h.right.head
  have h3 : BAt s (p + (spellL x).length + 1) (spellL y ++ t) := BAt.right (l := [45]) h.right
  have e3 := byteF_spell hy h3.left
  unfold itemF
  rw [e]
  dsimp only
  rw [if_pos rfl, if_pos ⟨e2.1, e2.2⟩, e3]
  dsimp only
  rw [if_neg (by omega)]
  rfl
/-- A range's own text; what is read of it. -/
def rngT (r : Nat × Nat) : List Nat := spellL r.1 ++ ((if 1 < r.2 - r.1 then [45] else []) ++ (if r.1 < r.2 then spellL r.2 else []))
def rngX (r : Nat × Nat) : List (Nat × Nat) := if 1 < r.2 - r.1 then [r] else if r.1 < r.2 then [(r.1, r.1), (r.2, r.2)] else [(r.1, r.1)]
def textR (l : List (Nat × Nat)) : List Nat := l.flatMap rngT
theorem textR_head (l : List (Nat × Nat)) (t : List Nat) : ∃ c u, textR l ++ 93 :: t = c :: u ∧ c ≠ 45 ∧ c ≠ 94 := by
  cases l with
  | nil => exact ⟨93, t, rfl, by decide, by decide⟩
  | cons r l =>
    obtain ⟨c, u, e, h1, h2, h3⟩ := spellL_head r.1
    exact ⟨c, _, by unfold textR; rw [List.flatMap_cons]; unfold rngT; rw [e]; rfl, h1, h3⟩
theorem itemsF_text (s : ByteArray) (b : Nat) (t : List Nat) : ∀ (l : List (Nat × Nat)) (k p : Nat) (acc : List (Nat × Nat)), (∀ r ∈ l, r.1 ≤ r.2 ∧ r.2 < 256) → (textR l).length < k → BAt s p (textR l ++ 93 :: t) →
    itemsF s b k p acc = (acc ++ l.flatMap rngX, p + (textR l).length + 1, 0, 0)
  | [], k + 1, p, acc, _, _, h => by
    have e := BAt.head (c := 93) (t := t) h
    rw [itemsF, if_pos ⟨e.1, e.2⟩]
    simp [textR]
  | r :: l, k, p, acc, hl, hk, h => by
    have et : textR (r :: l) = rngT r ++ textR l := by unfold textR; rw [List.flatMap_cons]
    have l1 := spellL_len r.1
    have l2 := spellL_len r.2
    rw [et, List.length_append] at hk
    unfold rngT at hk
    rw [List.length_append, List.length_append] at hk
    obtain ⟨k, rfl⟩ : ∃ m, k = m + 2 := ⟨k - 2, by omega⟩
    have hr := hl r (by simp)
    have hl' : ∀ q ∈ l, q.1 ≤ q.2 ∧ q.2 < 256 := fun q hq => hl q (by simp [hq])
    obtain ⟨lo, hi⟩ := r
    dsimp only at hr hk l1 l2
    obtain ⟨c, u, ec, hc1, hc2, hc3⟩ := spellL_head lo
    obtain ⟨d, v, ed, hd1, _⟩ := textR_head l t
    rw [et, List.append_assoc] at h
    have hp : p < s.size ∧ bat s p = c := by
      have h' := h
      unfold rngT at h'
      rw [ec] at h'
      exact h'.head
    rw [itemsF, if_neg (by omega)]
    unfold rngT at h
    rw [et]
    unfold rngT
    dsimp only at h ⊢
    by_cases h1 : 1 < hi - lo
    · rw [if_pos h1, if_pos (by omega)] at h
      have hx := itemF_two (b := b) (t := textR l ++ 93 :: t) (by omega) hr.2 hr.1 (by simpa [List.append_assoc] using h)
      have hn : BAt s (p + (spellL lo).length + 1 + (spellL hi).length) (textR l ++ 93 :: t) := by
        have := h.right
        simp only [List.length_append, List.length_cons, List.length_nil] at this
        rwa [show p + ((spellL lo).length + (0 + 1 + (spellL hi).length)) = p + (spellL lo).length + 1 + (spellL hi).length by omega] at this
      rw [hx]
      dsimp only
      rw [if_pos rfl, itemsF_text s b t l (k + 1) _ _ hl' (by rw [if_pos h1, if_pos (by omega)] at hk; simp at hk; omega) hn, if_pos h1, if_pos (by omega)]
      simp only [List.flatMap_cons, rngX, if_pos h1, List.append_assoc, List.length_append, List.length_cons, List.length_nil, Prod.mk.injEq, and_true, true_and]
      omega
    · rw [if_neg h1] at h
      by_cases h2 : lo < hi
      · rw [if_pos h2] at h
        obtain ⟨c2, u2, ec2, hd2, hd3, _⟩ := spellL_head hi
        have hx := itemF_one (b := b) (x := lo) (c := c2) (t := u2 ++ (textR l ++ 93 :: t)) (by omega) (by simpa [List.append_assoc, ec2] using h) hd2
        have hn : BAt s (p + (spellL lo).length) (spellL hi ++ (textR l ++ 93 :: t)) := by
          have h' : BAt s p (spellL lo ++ (spellL hi ++ (textR l ++ 93 :: t))) := by simpa [List.append_assoc] using h
          exact h'.right
        have hp2 : p + (spellL lo).length < s.size ∧ bat s (p + (spellL lo).length) = c2 := by
          have h' := hn
          rw [ec2] at h'
          exact h'.head
        have hy := itemF_one (b := b) (x := hi) (c := d) (t := v) (by omega) (by rw [← ed]; exact hn) hd1
        rw [hx]
        dsimp only
        rw [if_pos rfl, itemsF, if_neg (by omega), hy]
        dsimp only
        rw [if_pos rfl, itemsF_text s b t l k _ _ hl' (by rw [if_neg h1, if_pos h2] at hk; simp at hk; omega) hn.right, if_neg h1, if_pos h2]
        simp only [List.flatMap_cons, rngX, if_neg h1, if_pos h2, List.append_assoc, List.length_append, List.length_cons, List.length_nil, Prod.mk.injEq, and_true, true_and, List.cons_append, List.nil_append]
        omega
      · rw [if_neg h2] at h
        have h' : BAt s p (spellL lo ++ (textR l ++ 93 :: t)) := by simpa [List.append_assoc] using h
        have hx := itemF_one (b := b) (x := lo) (c := d) (t := v) (by omega) (by rw [← ed]; exact h') hd1
        rw [hx]
        dsimp only
        rw [if_pos rfl, itemsF_text s b t l (k + 1) _ _ hl' (by omega) h'.right, if_neg h1, if_neg h2]
        simp only [List.flatMap_cons, rngX, if_neg h1, if_neg h2, List.append_assoc, List.length_append, List.length_cons, List.length_nil, Prod.mk.injEq, and_true, true_and, List.cons_append, List.nil_append, List.append_nil]
        omega
  | [], 0, _, _, _, hk, _ => by simp at hk
theorem inRanges_X (l : List (Nat × Nat)) (hl : ∀ r ∈ l, r.1 ≤ r.2) (i : Nat) : inRanges (l.flatMap rngX) i = inRanges l i := by
  induction l with
  | nil => rfl
  | cons r l ih =>
    have hr := hl r (by simp)
    have ih := ih fun q hq => hl q (by simp [hq])
    unfold inRanges at ih ⊢
    rw [List.flatMap_cons, List.any_append, ih, List.any_cons]
    congr 1
    unfold rngX
    obtain ⟨lo, hi⟩ := r
    dsimp only at hr ⊢
    by_cases h1 : 1 < hi - lo
    · rw [if_pos h1]; simp
    · rw [if_neg h1]
      by_cases h2 : lo < hi
      · rw [if_pos h2]
        simp only [List.any_cons, List.any_nil, Bool.or_false]
        rw [Bool.eq_iff_iff]; simp; omega
      · rw [if_neg h2]
        simp only [List.any_cons, List.any_nil, Bool.or_false]
        rw [Bool.eq_iff_iff]; simp; omega
theorem cnt_yes {p : Nat → Bool} {k : Nat} (h : p k = true) : cnt p (k + 1) = cnt p k + 1 := by unfold cnt; rw [List.range_succ, List.filter_append]; simp [h]
theorem cnt_no {p : Nat → Bool} {k : Nat} (h : p k = false) : cnt p (k + 1) = cnt p k := by unfold cnt; rw [List.range_succ, List.filter_append]; simp [h]
/-- Ranges that rise, do not touch, and hold what a set holds below a number. -/
structure Good (l : List (Nat × Nat)) (k : Nat) (p : Nat → Bool) : Prop where
  le : ∀ r ∈ l, r.1 ≤ r.2 ∧ r.2 < k
  up : l.Pairwise fun r q => r.2 + 1 < q.1
  mem : ∀ j, j < k → inRanges l j = p j
  sum : (l.map fun r => r.2 - r.1 + 1).sum = cnt p k
theorem inRanges_snoc (l : List (Nat × Nat)) (lo hi j : Nat) : inRanges (l ++ [(lo, hi)]) j = (inRanges l j || (decide (lo ≤ j) && decide (j ≤ hi))) := by unfold inRanges; rw [List.any_append]; simp
theorem inRanges_far {l : List (Nat × Nat)} {k j : Nat} (h : ∀ r ∈ l, r.2 < k) (hj : k ≤ j) : inRanges l j = false := by
  unfold inRanges
  rw [List.any_eq_false]
  intro r hr
  have := h r hr
  simp
  omega
theorem good_nil (p : Nat → Bool) : Good [] 0 p := ⟨fun r hr => by simp at hr, List.Pairwise.nil, fun j hj => by omega, rfl⟩
theorem good_no {l : List (Nat × Nat)} {k : Nat} {p : Nat → Bool} (g : Good l k p) (h : p k = false) : Good l (k + 1) p :=
  ⟨fun r hr => ⟨(g.le r hr).1, by have := (g.le r hr).2; omega⟩, g.up, fun j hj => by
    by_cases e : j = k
    · subst e; rw [h]; exact inRanges_far (fun r hr => (g.le r hr).2) (Nat.le_refl _)
    · exact g.mem j (by omega), by rw [cnt_no h]; exact g.sum⟩
theorem good_one {l : List (Nat × Nat)} {k : Nat} {p : Nat → Bool} (g : Good l k p) (h : p k = true) (hfar : ∀ r ∈ l, r.2 + 1 < k) : Good (l ++ [(k, k)]) (k + 1) p := by
  refine ⟨fun r hr => ?_, ?_, fun j hj => ?_, ?_⟩
  · rcases List.mem_append.1 hr with hr | hr
    · exact ⟨(g.le r hr).1, by have := (g.le r hr).2; omega⟩
    · rw [List.mem_singleton.1 hr]; exact ⟨Nat.le_refl _, by dsimp only; omega⟩
  · rw [List.pairwise_append]
    refine ⟨g.up, List.pairwise_singleton _ _, fun r hr q hq => ?_⟩
    rw [List.mem_singleton.1 hq]
    exact hfar r hr
  · rw [inRanges_snoc]
    by_cases e : j = k
    · subst e; simp [h]
    · rw [g.mem j (by omega)]; simp; omega
  · rw [cnt_yes h, List.map_append, List.sum_append, g.sum]; simp
theorem good_step {l : List (Nat × Nat)} {k : Nat} {p : Nat → Bool} (g : Good l k p) (h : p k = true) : Good (stepR l k) (k + 1) p := by
  rcases snoc_or l with rfl | ⟨l', lo, hi, rfl⟩
  · rw [stepR_nil]
    exact good_one (l := []) g h fun r hr => by simp at hr
  · have hlast := g.le (lo, hi) (by simp)
    have hup := List.pairwise_append.1 g.up
    have hfl : ∀ r ∈ l', r.2 + 1 < lo := fun r hr => hup.2.2 r hr (lo, hi) (by simp)
    dsimp only at hlast
    by_cases e : hi + 1 = k
    · rw [stepR_yes _ _ _ _ e]
      refine ⟨fun r hr => ?_, ?_, fun j hj => ?_, ?_⟩
      · rcases List.mem_append.1 hr with hr | hr
        · have := g.le r (by simp [hr]); exact ⟨this.1, by omega⟩
        · rw [List.mem_singleton.1 hr]; exact ⟨by dsimp only; omega, by dsimp only; omega⟩
      · rw [List.pairwise_append]
        refine ⟨hup.1, List.pairwise_singleton _ _, fun r hr q hq => ?_⟩
        rw [List.mem_singleton.1 hq]
        exact hfl r hr
      · rw [inRanges_snoc]
        by_cases e2 : j = k
        · subst e2; rw [h]; simp; right; omega
        · have := g.mem j (by omega)
          rw [inRanges_snoc] at this
          rw [← this]
          congr 2
          by_cases q : j ≤ hi
          · simp [q]; omega
          · exfalso; omega
      · have hs := g.sum
        rw [List.map_append, List.sum_append] at hs ⊢
        rw [cnt_yes h, ← hs]
        simp
        omega
    · rw [stepR_no _ _ _ _ e]
      refine good_one g h fun r hr => ?_
      rcases List.mem_append.1 hr with hr | hr
      · have := hfl r hr; omega
      · rw [List.mem_singleton.1 hr]; dsimp only; omega
/-- Two lists of ranges that rise and do not touch, and hold the same, are one. -/
def Up (l : List (Nat × Nat)) : Prop := (∀ r ∈ l, r.1 ≤ r.2) ∧ l.Pairwise fun r q => r.2 + 1 < q.1
theorem Up.tail {r : Nat × Nat} {l : List (Nat × Nat)} (h : Up (r :: l)) : Up l := ⟨fun q hq => h.1 q (by simp [hq]), (List.pairwise_cons.1 h.2).2⟩
theorem inRanges_ex {l : List (Nat × Nat)} {j : Nat} (h : inRanges l j = true) : ∃ r ∈ l, r.1 ≤ j ∧ j ≤ r.2 := by
  unfold inRanges at h
  rw [List.any_eq_true] at h
  obtain ⟨r, hr, h⟩ := h
  simp at h
  exact ⟨r, hr, h⟩
theorem Up.behind {r : Nat × Nat} {l : List (Nat × Nat)} (h : Up (r :: l)) {j : Nat} (hj : j ≤ r.2 + 1) : inRanges l j = false := by
  rcases q : inRanges l j
  · rfl
  · obtain ⟨x, hx, h1, h2⟩ := inRanges_ex q
    have := (List.pairwise_cons.1 h.2).1 x hx
    omega
/-- The runs of a set that begin below a number. -/
structure Runs (l : List (Nat × Nat)) (i : Nat) (p : Nat → Bool) : Prop where
  run : ∀ r ∈ l, r.1 < i ∧ r.1 ≤ r.2 ∧ r.2 < 256 ∧ (∀ j, r.1 ≤ j → j ≤ r.2 → p j = true) ∧ (r.2 = 255 ∨ p (r.2 + 1) = false)
  up : l.Pairwise fun r q => r.2 + 1 < q.1
  all : ∀ s, s < i → p s = true → (s = 0 ∨ p (s - 1) = false) → ∃ r ∈ l, r.1 = s
theorem good_upto (a : Cls) : ∀ k, k ≤ 256 → Good (rangesOf (upto a k)) k a.mem
  | 0, _ => good_nil _
  | k + 1, h => by
    have ih := good_upto a k (by omega)
    by_cases q : a.mem k = true
    · rw [upto_yes a k (by omega) q, rangesOf_snoc]; exact good_step ih q
    · rw [upto_no a k (by simpa using q)]; exact good_no ih (by simpa using q)
theorem good_ranges (a : Cls) : Good (rangesL a) 256 a.mem := good_upto a 256 (Nat.le_refl _)
theorem ofFn_ranges {a : Cls} (ha : a.ok) : Cls.ofFn (inRanges (rangesL a)) = a := (Cls.eq_ofFn ha fun i hi => ((good_ranges a).mem i hi).symm).symm
/-- A class's own text. -/
def textC (a : Cls) : List Nat := if 128 < a.bytes.length then 91 :: 94 :: (textR (rangesL a.not) ++ [93]) else 91 :: (textR (rangesL a) ++ [93])
theorem not_not' {a : Cls} (ha : a.ok) : a.not.not = a := Cls.ext_mem (Cls.ok_not _) ha fun i _ => by rw [Cls.mem_not (Cls.ok_not _), Cls.mem_not ha, Bool.not_not]
theorem items_of (a : Cls) (ha : a.ok) (s : ByteArray) (b p k : Nat) (t : List Nat) (hk : (textR (rangesL a)).length < k) (h : BAt s p (textR (rangesL a) ++ 93 :: t)) :
    (itemsF s b k p []).2 = (p + (textR (rangesL a)).length + 1, 0, 0) ∧ Cls.ofFn (inRanges (itemsF s b k p []).1) = a := by
  have g := good_ranges a
  have e := itemsF_text s b t (rangesL a) k p [] g.le hk h
  rw [e]
  refine ⟨rfl, ?_⟩
  dsimp only
  rw [List.nil_append]
  exact (Cls.ofFn_congr fun i _ => inRanges_X _ (fun r hr => (g.le r hr).1) i).trans (ofFn_ranges ha)
theorem parseF_text {s : ByteArray} {p : Nat} {a : Cls} {t : List Nat} (ha : a.ok) (h : BAt s p (textC a ++ t)) : parseF s p = (a, p + (textC a).length, 0, 0) := by
  unfold textC at h ⊢
  by_cases hc : 128 < a.bytes.length
  · rw [if_pos hc] at h ⊢
    simp only [List.cons_append, List.append_assoc, List.nil_append] at h
    have h0 := h.head
    have h1' : BAt s (p + 1) (94 :: (textR (rangesL a.not) ++ 93 :: t)) := BAt.right (l := [91]) h
    have h1 := h1'.head
    have h2 : BAt s (p + 1 + 1) (textR (rangesL a.not) ++ 93 :: t) := BAt.right (l := [94]) h1'
    have hl := h2.left.1
    have e := items_of a.not (Cls.ok_not _) s p (p + 1 + 1) (s.size + 1) t (by omega) h2
    have ho : p + 1 < s.size ∧ bat s (p + 1) = 94 := h1
    unfold parseF
    rw [if_pos h0]
    simp only [if_pos ho]
    rw [show p + 2 = p + 1 + 1 by omega, e.1]
    dsimp only
    rw [if_pos rfl, e.2, not_not' ha]
    simp only [List.length_cons, List.length_append, List.length_nil, Prod.mk.injEq, and_true, true_and]
    omega
  · rw [if_neg hc] at h ⊢
    simp only [List.cons_append, List.append_assoc, List.nil_append] at h
    have h0 := h.head
    have h1 : BAt s (p + 1) (textR (rangesL a) ++ 93 :: t) := BAt.right (l := [91]) h
    have hl := h1.left.1
    obtain ⟨c, u, ec, _, hc94⟩ := textR_head (rangesL a) t
    have h1h := h1
    rw [ec] at h1h
    have h1h := h1h.head
    have e := items_of a ha s p (p + 1) (s.size + 1) t (by omega) h1
    have ho : ¬ (p + 1 < s.size ∧ bat s (p + 1) = 94) := fun q => hc94 (by rw [← h1h.2]; exact q.2)
    unfold parseF
    rw [if_pos h0]
    simp only [if_neg ho]
    rw [e.1]
    dsimp only
    rw [if_pos rfl, e.2]
    simp only [List.length_cons, List.length_append, List.length_nil, Prod.mk.injEq, and_true, true_and]
    omega
end Go.Proofs.YtldjdcdoegjmoaaDoor
set_option linter.unusedVariables false
set_option linter.unusedSimpArgs false
namespace Go.Proofs.YtldjdcdoegjmoaaDoor.P
open Go.RowKit Go.Proofs.YtldjdcdoegjmoaaDoorW.PrintWords Go.Proofs.YtldjdcdoegjmoaaDoorW.PrintLast
def nl (l : List Nat) : List Int := l.map fun (n : Nat) => (n : Int)
def tb (l : List Nat) : ByteArray := ⟨(l.map fun n => UInt8.ofNat n).toArray⟩
theorem tb_size (l : List Nat) : (tb l).size = l.length := by simp [tb, ByteArray.size]
theorem nl_append (l m : List Nat) : nl (l ++ m) = nl l ++ nl m := by simp [nl]
theorem nl_len (l : List Nat) : (nl l).length = l.length := by simp [nl]
theorem str_nl (l : List Nat) : strOfNums (nl l) = tb l := by unfold strOfNums nl tb; rw [List.map_map]; rfl
theorem bytes_tb {l : List Nat} (h : ∀ n ∈ l, n < 256) : bytesOf (tb l) = nl l := by
  unfold bytesOf tb nl
  simp only [List.map_map]
  refine List.map_congr_left fun n hn => ?_
  have := h n hn
  simp [Function.comp, Nat.mod_eq_of_lt this]
theorem bat_tb {l : List Nat} (h : ∀ n ∈ l, n < 256) (i : Nat) (hi : i < l.length) : bat (tb l) i = l.getD i 0 := by
  unfold bat tb
  simp only [List.getD_eq_getElem?_getD, List.getElem?_map, List.getElem?_eq_getElem hi, Option.map_some, Option.getD_some]
  have := h l[i] (List.getElem_mem hi)
  simp [Nat.mod_eq_of_lt this]
theorem spelling_all : ∀ b : Fin 256, class_spelling.f 3 (b.val : Int) = some (tb (spellL b.val)) := by decide +kernel
theorem spell_lt_all : ∀ b : Fin 256, (spellL b.val).all (fun n => decide (n < 256)) = true := by decide +kernel
theorem spelling_f {k b : Nat} (hk : 3 ≤ k) (hb : b < 256) : class_spelling.f k (b : Int) = some (tb (spellL b)) := at_rounds (class_spelling.mono _) hk (spelling_all ⟨b, hb⟩)
theorem spell_lt {b : Nat} (hb : b < 256) : ∀ n ∈ spellL b, n < 256 := fun n hn => by simpa using List.all_eq_true.1 (spell_lt_all ⟨b, hb⟩) n hn
theorem spell_len (b : Nat) : (spellL b).length ≤ 4 := by
  unfold spellL
  repeat' split
  all_goals simp
def rS (L : List (Nat × Nat)) : List S83 := L.map fun p => (⟨(p.1 : Int), (p.2 : Int)⟩ : S83)
theorem rS_len (L : List (Nat × Nat)) : (rS L).length = L.length := by simp [rS]
theorem rS_at {L : List (Nat × Nat)} {j : Nat} (hj : j < L.length) : rd_T83 (rS L) (j : Int) = ⟨((L[j]'hj).1 : Int), ((L[j]'hj).2 : Int)⟩ := by
  show (rS L).getD (Int.toNat (j : Int)) _ = _
  rw [Int.toNat_natCast, List.getD_eq_getElem?_getD]
  unfold rS
  rw [List.getElem?_map, List.getElem?_eq_getElem hj]
  rfl
theorem wr_j {j : Nat} (h : j < 9223372036854775807) : wrap64 ((j : Int) + 1) = ((j + 1 : Nat) : Int) := by unfold wrap64; omega
theorem textR_drop {L : List (Nat × Nat)} {j : Nat} (hj : j < L.length) : textR (L.drop j) = rngT (L[j]'hj) ++ textR (L.drop (j + 1)) := by
  rw [List.drop_eq_getElem_cons hj]
  unfold textR
  rw [List.flatMap_cons]
theorem text_l0 (L : List (Nat × Nat)) (hL : ∀ r ∈ L, r.1 ≤ r.2 ∧ r.2 < 256) (hn : L.length ≤ 256) : ∀ (d k j : Nat) (acc : List Nat), L.length - j = d → j ≤ L.length → d + 5 < k → acc.length + 12 * d < 140737488355320 →
    class_Text.l0 k (nl acc) (rS L) (L.length : Int) (j : Int) = some (tb (acc ++ (textR (L.drop j) ++ [93])))
  | 0, k, j, acc, hd, hj, hk, ha => by
    obtain ⟨k, rfl⟩ : ∃ m, k = m + 1 := ⟨k - 1, by omega⟩
    have e : L.drop j = [] := List.drop_eq_nil_of_le (by omega)
    simp only [class_Text.l0]
    rw [if_neg (by omega), nl_len, if_pos (by omega), e]
    have : nl acc ++ [93] = nl (acc ++ [93]) := by rw [nl_append]; rfl
    rw [this, str_nl]
    rfl
  | d + 1, k, j, acc, hd, hj, hk, ha => by
    obtain ⟨k, rfl⟩ : ∃ m, k = m + 1 := ⟨k - 1, by omega⟩
    have hlt : j < L.length := by omega
    have hr := hL _ (List.getElem_mem hlt)
    have hat := rS_at hlt
    rw [textR_drop hlt]
    generalize L[j]'hlt = r at hr hat
    obtain ⟨lo, hi⟩ := r
    dsimp only at hr hat
    have s1 := spelling_f (k := k) (b := lo) (by omega) (by omega)
    have s2 := spelling_f (k := k) (b := hi) (by omega) (by omega)
    have l1 := spell_len lo
    have l2 := spell_len hi
    have b1 := bytes_tb (spell_lt (b := lo) (by omega))
    have b2 := bytes_tb (spell_lt (b := hi) (by omega))
    have hm : (((hi : Int) - (lo : Int)) % 256) = (hi : Int) - lo := by omega
    simp only [class_Text.l0]
    rw [hat, rS_len]
    dsimp only
    rw [s1, s2, wr_j (by omega), if_pos (by omega), if_pos (by omega), if_pos (by omega), Option.bind_some, tb_size, nl_len, if_pos (by omega), Option.bind_some, b1, ← nl_append, nl_len, hm]
    unfold rngT
    dsimp only
    by_cases h1 : 1 < hi - lo
    · have e45 : nl (acc ++ spellL lo) ++ [45] = nl (acc ++ spellL lo ++ [45]) := by rw [nl_append (acc ++ spellL lo)]; rfl
      rw [if_pos (by omega), List.length_append, if_pos (by omega), Option.bind_some, if_pos (by omega), Option.bind_some, e45, nl_len, tb_size, b2, ← nl_append, List.length_append, List.length_append, List.length_singleton, if_pos (by omega)]
      rw [text_l0 L hL hn d k (j + 1) _ (by omega) (by omega) (by omega) (by simp only [List.length_append, List.length_singleton]; omega), if_pos h1, if_pos (by omega)]
      simp only [List.append_assoc]
    · rw [if_neg (by omega), if_neg h1]
      by_cases h2 : lo < hi
      · rw [if_pos (by omega), Option.bind_some, tb_size, b2, ← nl_append, List.length_append, if_pos (by omega)]
        rw [text_l0 L hL hn d k (j + 1) _ (by omega) (by omega) (by omega) (by simp only [List.length_append]; omega), if_pos h2]
        simp only [List.append_assoc, List.nil_append]
      · rw [if_neg (by omega)]
        rw [text_l0 L hL hn d k (j + 1) _ (by omega) (by omega) (by omega) (by simp only [List.length_append]; omega), if_neg h2]
        simp only [List.append_assoc, List.nil_append, List.append_nil]
theorem ranges_len (a : Cls) : (rangesL a).length ≤ 256 := by
  have h := rangesOf_len _ (upto a 256) rfl
  have := upto_count a 256
  unfold rangesL
  omega
theorem text_f {a : Cls} (ha : a.ok) {k : Nat} (hk : 300 ≤ k) : class_Text.f k (a.c0 : Int) (a.c1 : Int) (a.c2 : Int) (a.c3 : Int) = some (tb (textC a)) := by
  obtain ⟨k, rfl⟩ : ∃ m, k = m + 1 := ⟨k - 1, by omega⟩
  have go : ∀ (b : Cls) (acc : List Nat), b.ok → acc.length ≤ 2 → class_Text.j0 (k + 1) (nl acc) (b.c0 : Int) (b.c1 : Int) (b.c2 : Int) (b.c3 : Int) = some (tb (acc ++ (textR (rangesL b) ++ [93]))) := by
    intro b acc hb hacc
    have hl := ranges_len b
    have hr : class_Ranges.f (b.c0 : Int) (b.c1 : Int) (b.c2 : Int) (b.c3 : Int) = some (rS (rangesL b)) := by
      unfold class_Ranges.f
      rw [if_pos (c4_ok hb), c4_cI]
      rfl
    simp only [class_Text.j0]
    rw [hr, Option.bind_some, rS_len]
    exact text_l0 (rangesL b) (good_ranges b).le hl (rangesL b).length k 0 acc (by omega) (by omega) (by omega) (by omega)
  have hc : class_Count.f (a.c0 : Int) (a.c1 : Int) (a.c2 : Int) (a.c3 : Int) = some (a.bytes.length : Int) := by
    unfold class_Count.f
    rw [if_pos (c4_ok ha), c4_cI]
  have hn : class_Not.f (a.c0 : Int) (a.c1 : Int) (a.c2 : Int) (a.c3 : Int) = some (c4 a.not) := by
    unfold class_Not.f
    rw [if_pos (c4_ok ha), c4_cI]
  unfold class_Text.f textC
  rw [Option.bind_some, hc, Option.bind_some]
  by_cases h : 128 < a.bytes.length
  · rw [if_pos (by omega), if_pos (by decide), hn, Option.bind_some, if_pos h]
    exact go a.not [91, 94] (Cls.ok_not _) (by decide)
  · rw [if_neg (by omega), if_neg h]
    exact go a [91] ha (by decide)
end Go.Proofs.YtldjdcdoegjmoaaDoor.P
namespace Go.Proofs.YtldjdcdoegjmoaaDoor.P
open Go.RowKit Go.Proofs.YtldjdcdoegjmoaaDoorW.PrintWords Go.Proofs.YtldjdcdoegjmoaaDoorW.PrintLast
theorem wr_in {x : Int} (h0 : -9223372036854775808 ≤ x) (h1 : x ≤ 9223372036854775807) : wrap64 x = x := by unfold wrap64; omega
def letterB (c : Int) : Bool := (decide (97 ≤ c) && decide (c ≤ 122)) || (decide (65 ≤ c) && decide (c ≤ 90)) || c == 95
def digitB (c : Int) : Bool := decide (48 ≤ c) && decide (c ≤ 57)
/-- The place behind a run of bytes. -/
def runE (P : Int → Bool) (s : ByteArray) (p : Nat) : Nat := if h : p < s.size then (if P (bt s (p : Int)) = true then runE P s (p + 1) else p) else p
termination_by s.size - p
theorem runE_yes {P : Int → Bool} {s : ByteArray} {p : Nat} (h : p < s.size) (hp : P (bt s (p : Int)) = true) : runE P s p = runE P s (p + 1) := by
  rw [runE, dif_pos h, if_pos hp]
theorem runE_no {P : Int → Bool} {s : ByteArray} {p : Nat} (hp : ¬ P (bt s (p : Int)) = true) : runE P s p = p := by
  rw [runE, if_neg hp]
  split <;> rfl
theorem runE_end {P : Int → Bool} {s : ByteArray} {p : Nat} (h : ¬ p < s.size) : runE P s p = p := by rw [runE, dif_neg h]
theorem runE_le (P : Int → Bool) (s : ByteArray) : ∀ (d p : Nat), s.size - p ≤ d → p ≤ runE P s p ∧ (p ≤ s.size → runE P s p ≤ s.size)
  | 0, p, hd => by rw [runE_end (by omega)]; exact ⟨Nat.le_refl _, id⟩
  | d + 1, p, hd => by
    by_cases h : p < s.size
    · by_cases hp : P (bt s (p : Int)) = true
      · rw [runE_yes h hp]
        have := runE_le P s d (p + 1) (by omega)
        exact ⟨by omega, fun _ => this.2 (by omega)⟩
      · rw [runE_no hp]; exact ⟨Nat.le_refl _, id⟩
    · rw [runE_end h]; exact ⟨Nat.le_refl _, id⟩
theorem runE_ge (P : Int → Bool) (s : ByteArray) (p : Nat) : p ≤ runE P s p := (runE_le P s _ p (Nat.le_refl _)).1
theorem runE_size (P : Int → Bool) (s : ByteArray) (p : Nat) (h : p ≤ s.size) : runE P s p ≤ s.size := (runE_le P s _ p (Nat.le_refl _)).2 h
theorem size_cut (s : ByteArray) (q : Nat) : (s.extract q s.size).size = s.size - q := by simp
theorem bt_nat (s : ByteArray) (i : Nat) : bt s (i : Int) = if h : i < s.size then ((s[i]'h).toNat : Int) else 0 := by unfold bt; simp
theorem bt_cut (s : ByteArray) (q i : Nat) : bt (s.extract q s.size) (i : Int) = bt s ((q + i : Nat) : Int) := by
  rw [bt_nat, bt_nat]
  by_cases h : q + i < s.size
  · rw [dif_pos h, dif_pos (by rw [size_cut]; omega)]
    congr 2
    exact ByteArray.getElem_extract ..
  · rw [dif_neg h, dif_neg (by rw [size_cut]; omega)]
theorem runE_cut (P : Int → Bool) (s : ByteArray) (q : Nat) : ∀ (d i : Nat), s.size - (q + i) ≤ d → q + runE P (s.extract q s.size) i = runE P s (q + i)
  | 0, i, hd => by rw [runE_end (by rw [size_cut]; omega), runE_end (by omega)]
  | d + 1, i, hd => by
    by_cases h : q + i < s.size
    · by_cases hp : P (bt s ((q + i : Nat) : Int)) = true
      · rw [runE_yes h hp, runE_yes (by rw [size_cut]; omega) (by rw [bt_cut]; exact hp), show q + i + 1 = q + (i + 1) by omega]
        exact runE_cut P s q d (i + 1) (by omega)
      · rw [runE_no hp, runE_no (by rw [bt_cut]; exact hp)]
    · rw [runE_end h, runE_end (by rw [size_cut]; omega)]
def alnumB (c : Int) : Bool := letterB c || digitB c
/-- The place behind the own name at a place. -/
def ownE (s : ByteArray) (p : Nat) : Nat := if p < s.size ∧ letterB (bt s (p : Int)) = true then runE alnumB s p else p
theorem ownE_ge (s : ByteArray) (p : Nat) : p ≤ ownE s p := by unfold ownE; split; exact runE_ge _ _ _; exact Nat.le_refl _
theorem ownE_size (s : ByteArray) (p : Nat) (h : p ≤ s.size) : ownE s p ≤ s.size := by unfold ownE; split; exact runE_size _ _ _ h; exact h
theorem ownE_on (s : ByteArray) (p : Nat) (h : p < s.size ∧ letterB (bt s (p : Int)) = true) : p < ownE s p := by
  unfold ownE; rw [if_pos h, runE_yes h.1 (by unfold alnumB; rw [h.2]; rfl)]; exact runE_ge _ _ _
/-- The place behind the number of a ~ that stands at a place. -/
def numE (s : ByteArray) (k : Nat) : Nat :=
  if k < s.size ∧ bt s (k : Int) = 126 then (if k + 1 < runE digitB s (k + 1) ∧ runE digitB s (k + 1) ≤ k + 6 ∧ bt s ((k + 1 : Nat) : Int) ≠ 48 then runE digitB s (k + 1) else k) else k
/-- The place behind the two :, and what follows them. -/
def colE (s : ByteArray) (k : Nat) : Nat :=
  if k + 1 < s.size ∧ bt s (k : Int) = 58 ∧ bt s ((k + 1 : Nat) : Int) = 58 then (if k + 2 < ownE s (k + 2) then ownE s (k + 2) else k) else k
def nameE (s : ByteArray) (p : Nat) : Nat := if ownE s p = p then p else numE s (colE s (ownE s p))
theorem colE_ge (s : ByteArray) (k : Nat) : k ≤ colE s k := by unfold colE; split <;> (try split) <;> omega
theorem colE_size (s : ByteArray) (k : Nat) (h : k ≤ s.size) : colE s k ≤ s.size := by
  unfold colE; split
  · split
    · exact ownE_size _ _ (by omega)
    · exact h
  · exact h
theorem numE_ge (s : ByteArray) (k : Nat) : k ≤ numE s k := by unfold numE; split <;> (try split) <;> omega
theorem numE_size (s : ByteArray) (k : Nat) (h : k ≤ s.size) : numE s k ≤ s.size := by
  unfold numE; split
  · split
    · exact runE_size _ _ _ (by omega)
    · exact h
  · exact h
theorem nameE_ge (s : ByteArray) (p : Nat) : p ≤ nameE s p := by
  unfold nameE; split; omega
  have := ownE_ge s p; have := colE_ge s (ownE s p); have := numE_ge s (colE s (ownE s p)); omega
theorem nameE_size (s : ByteArray) (p : Nat) (h : p ≤ s.size) : nameE s p ≤ s.size := by
  unfold nameE; split; exact h
  exact numE_size _ _ (colE_size _ _ (ownE_size _ _ h))
end Go.Proofs.YtldjdcdoegjmoaaDoor.P
namespace Go.Proofs.YtldjdcdoegjmoaaDoor.P
open Go.RowKit Go.Proofs.YtldjdcdoegjmoaaDoorW.PrintWords Go.Proofs.YtldjdcdoegjmoaaDoorW.PrintLast
theorem lexis_letter_f (c : Int) : lexis_letter.f c = some (letterB c) := by
  unfold lexis_letter.f letterB
  repeat' split
  all_goals (simp only [Option.some.injEq]; rw [Bool.eq_iff_iff]; simp; omega)
theorem lexis_digit_f (c : Int) : lexis_digit.f c = some (digitB c) := by
  unfold lexis_digit.f digitB
  repeat' split
  all_goals (simp only [Option.some.injEq]; rw [Bool.eq_iff_iff]; simp; omega)
def bnd : Nat := 140737488351232
theorem nat_ok {s : ByteArray} (hs : s.size ≤ bnd) {p : Nat} (h : p ≤ s.size + 100) : wrap64 (p : Int) = (p : Int) := by unfold bnd at hs; exact wr_in (by omega) (by omega)
theorem own_l (s : ByteArray) (hs : s.size ≤ bnd) (p : Nat) : ∀ (d k n : Nat), s.size - (p + n) ≤ d → d < k → 0 < n → p + n ≤ s.size →
    lexis_own.l0 k s (p : Int) (n : Int) = some ((runE alnumB s (p + n) - p : Nat) : Int) := by
  intro d
  induction d with
  | zero =>
    intro k n hd hk hn hp
    obtain ⟨k, rfl⟩ : ∃ m, k = m + 1 := ⟨k - 1, by omega⟩
    have e : wrap64 ((p : Int) + (n : Int)) = ((p + n : Nat) : Int) := by rw [← Int.natCast_add]; exact nat_ok hs (by omega)
    simp only [lexis_own.l0, e]
    rw [if_neg (by omega), runE_end (by omega), Nat.add_sub_cancel_left]
  | succ d ih =>
    intro k n hd hk hn hp
    obtain ⟨k, rfl⟩ : ∃ m, k = m + 1 := ⟨k - 1, by omega⟩
    have e : wrap64 ((p : Int) + (n : Int)) = ((p + n : Nat) : Int) := by rw [← Int.natCast_add]; exact nat_ok hs (by omega)
    have e1 : wrap64 ((n : Int) + 1) = ((n + 1 : Nat) : Int) := by rw [Int.natCast_add]; exact nat_ok hs (p := n + 1) (by omega)
    simp only [lexis_own.l0, e, e1]
    by_cases hlt : p + n < s.size
    · rw [if_pos (by omega), if_pos (by omega), lexis_letter_f, lexis_digit_f]
      simp only [Option.bind_some]
      by_cases hL : letterB (bt s ((p + n : Nat) : Int)) = true
      · rw [if_pos hL, ih k (n + 1) (by omega) (by omega) (by omega) (by omega), runE_yes hlt (by unfold alnumB; rw [hL]; rfl)]; rfl
      · rw [if_neg hL, if_pos (by omega)]
        by_cases hD : digitB (bt s ((p + n : Nat) : Int)) = true
        · rw [if_pos hD, ih k (n + 1) (by omega) (by omega) (by omega) (by omega), runE_yes hlt (by unfold alnumB; rw [hD, Bool.or_true])]; rfl
        · rw [if_neg hD, runE_no (by unfold alnumB; rw [Bool.or_eq_true]; exact fun h => h.elim hL hD), Nat.add_sub_cancel_left]
    · rw [if_neg (by omega), runE_end hlt, Nat.add_sub_cancel_left]
theorem own_f (s : ByteArray) (hs : s.size ≤ bnd) (p k : Nat) (hp : p ≤ s.size) (hk : s.size + 1 < k) : lexis_own.f k s (p : Int) = some ((ownE s p - p : Nat) : Int) := by
  obtain ⟨k, rfl⟩ : ∃ m, k = m + 1 := ⟨k - 1, by omega⟩
  have e : wrap64 ((p : Int) + 0) = (p : Int) := by rw [Int.add_zero]; exact nat_ok hs (by omega)
  unfold lexis_own.f
  simp only [lexis_own.l0, e]
  by_cases hlt : p < s.size
  · rw [if_pos (by omega), if_pos (by omega), lexis_letter_f]
    simp only [Option.bind_some]
    by_cases hL : letterB (bt s (p : Int)) = true
    · rw [if_pos hL, show wrap64 (0 + 1) = ((1 : Nat) : Int) by unfold wrap64; omega, own_l s hs p (s.size - (p + 1)) k 1 (Nat.le_refl _) (by omega) (by omega) (by omega)]
      unfold ownE
      rw [if_pos ⟨hlt, hL⟩, runE_yes hlt (by unfold alnumB; rw [hL]; rfl)]
    · rw [if_neg hL, if_neg (by omega)]
      unfold ownE
      rw [if_neg (fun h => hL h.2), Nat.sub_self]; rfl
  · rw [if_neg (by omega)]
    unfold ownE
    rw [if_neg (fun h => hlt h.1), Nat.sub_self]; rfl
theorem num_l (s : ByteArray) (hs : s.size ≤ bnd) : ∀ (d k p : Nat), s.size - p ≤ d → d < k → 1 ≤ p → p ≤ s.size →
    lexis_numbered.l0 k s (p : Int) = some (if 1 < runE digitB s p ∧ runE digitB s p ≤ 6 ∧ bt s 1 ≠ 48 then ((runE digitB s p : Nat) : Int) else 0) := by
  intro d
  induction d with
  | zero =>
    intro k p hd hk h1 hp
    obtain ⟨k, rfl⟩ : ∃ m, k = m + 1 := ⟨k - 1, by omega⟩
    simp only [lexis_numbered.l0]
    rw [if_neg (by omega), runE_end (by omega)]
    by_cases e1 : p = 1
    · rw [if_pos (by omega), if_neg (by omega)]
    · rw [if_neg (by omega)]
      by_cases e6 : p ≤ 6
      · rw [if_neg (by omega), if_pos (by omega)]
        by_cases e0 : bt s 1 = 48
        · rw [if_pos e0, if_neg (fun h => h.2.2 e0)]
        · rw [if_neg e0, if_pos ⟨by omega, e6, e0⟩]
      · rw [if_pos (by omega), if_neg (by omega)]
  | succ d ih =>
    intro k p hd hk h1 hp
    obtain ⟨k, rfl⟩ : ∃ m, k = m + 1 := ⟨k - 1, by omega⟩
    have ee : wrap64 ((p : Int) + 1) = ((p + 1 : Nat) : Int) := by rw [Int.natCast_add]; exact nat_ok hs (p := p + 1) (by omega)
    simp only [lexis_numbered.l0, ee]
    have tail : (if (p : Int) = 1 then some 0 else if (p : Int) > 6 then some 0 else if 1 < (s.size : Int) then (if bt s 1 = 48 then some 0 else some (p : Int)) else none) =
        some (if 1 < p ∧ p ≤ 6 ∧ bt s 1 ≠ 48 then ((p : Nat) : Int) else 0) := by
      by_cases e1 : p = 1
      · rw [if_pos (by omega), if_neg (by omega)]
      · rw [if_neg (by omega)]
        by_cases e6 : p ≤ 6
        · rw [if_neg (by omega), if_pos (by omega)]
          by_cases e0 : bt s 1 = 48
          · rw [if_pos e0, if_neg (fun h => h.2.2 e0)]
          · rw [if_neg e0, if_pos ⟨by omega, e6, e0⟩]
        · rw [if_pos (by omega), if_neg (by omega)]
    by_cases hlt : p < s.size
    · rw [if_pos (by omega), if_pos (by omega), lexis_digit_f]
      simp only [Option.bind_some]
      by_cases hD : digitB (bt s (p : Int)) = true
      · rw [if_pos hD, ih k (p + 1) (by omega) (by omega) (by omega) (by omega), runE_yes hlt hD]
      · rw [if_neg hD, runE_no hD]; exact tail
    · rw [if_neg (by omega), runE_end hlt]; exact tail
theorem toList_nil {s : ByteArray} : s.toList = ([] : List UInt8) ↔ s.size = 0 := by
  rw [show s.toList = s.data.toList from ByteArray.toList_eq s]
  constructor
  · intro h
    have : s.data.toList.length = 0 := by rw [h]; rfl
    rw [Array.length_toList] at this
    exact this
  · intro h
    have : s.data.toList.length = 0 := by rw [Array.length_toList]; exact h
    exact List.eq_nil_of_length_eq_zero this
/-- What numbered tells of the text from a place on. -/
theorem numbered_f (s : ByteArray) (hs : s.size ≤ bnd) (q k : Nat) (hq : q ≤ s.size) (hk : s.size + 4 < k) : lexis_numbered.f k (s.extract q s.size) = some ((numE s q - q : Nat) : Int) := by
  obtain ⟨k, rfl⟩ : ∃ m, k = m + 1 := ⟨k - 1, by omega⟩
  have hz := size_cut s q
  have hb := fun i : Nat => bt_cut s q i
  have hb0 : bt (s.extract q s.size) 0 = bt s (q : Int) := by simpa using hb 0
  have hb1 : bt (s.extract q s.size) 1 = bt s ((q + 1 : Nat) : Int) := by simpa using hb 1
  unfold lexis_numbered.f numE
  by_cases h0 : q < s.size
  · rw [if_neg (by rw [toList_nil]; omega), if_pos (by rw [hz]; omega), hb0]
    simp only [lexis_numbered.j0]
    by_cases h126 : bt s (q : Int) = 126
    · rw [if_neg (by simp [h126]), if_pos ⟨h0, h126⟩, show (1 : Int) = ((1 : Nat) : Int) from rfl, num_l _ (by omega) (s.size) k 1 (by omega) (by omega) (by omega) (by omega), hb1]
      have hr := runE_cut digitB s q (s.size) 1 (by omega)
      have hge := runE_ge digitB (s.extract q s.size) 1
      rw [← hr]
      by_cases hc : 1 < runE digitB (s.extract q s.size) 1 ∧ runE digitB (s.extract q s.size) 1 ≤ 6 ∧ bt s ((q + 1 : Nat) : Int) ≠ 48
      · rw [if_pos hc, if_pos ⟨by omega, by omega, hc.2.2⟩, Nat.add_sub_cancel_left]
      · rw [if_neg hc, if_neg (fun h => hc ⟨by omega, by omega, h.2.2⟩), Nat.sub_self]; rfl
    · rw [if_pos (by simp [h126]), if_neg (fun h => h126 h.2), Nat.sub_self]; rfl
  · rw [if_pos (by rw [toList_nil]; omega)]
    simp only [lexis_numbered.j0]
    rw [if_pos trivial, if_neg (fun h => h0 h.1), Nat.sub_self]; rfl
end Go.Proofs.YtldjdcdoegjmoaaDoor.P
namespace Go.Proofs.YtldjdcdoegjmoaaDoor.P
open Go.RowKit Go.Proofs.YtldjdcdoegjmoaaDoorW.PrintWords Go.Proofs.YtldjdcdoegjmoaaDoorW.PrintLast
theorem bt_lt {s : ByteArray} {i : Nat} (h : i < s.size) : bt s (i : Int) = ((s[i]'h).toNat : Int) := by rw [bt_nat, dif_pos h]
theorem two_list (t : ByteArray) (h : 2 ≤ t.size) : (t.extract 0 2).toList = [t[0]'(by omega), t[1]'(by omega)] := by
  rw [ByteArray.toList_eq]
  have hz : (t.extract 0 2).size = 2 := by rw [ByteArray.size_extract]; omega
  apply List.ext_getElem
  · rw [Array.length_toList]; exact hz
  · intro i h1 h2
    have hi : i < 2 := by rw [Array.length_toList] at h1; exact lt_of_lt_of_eq h1 hz
    have e : (t.extract 0 2).data.toList[i] = (t.extract 0 2)[i]'(by omega) := rfl
    rw [e, ByteArray.getElem_extract]
    rcases (by omega : i = 0 ∨ i = 1) with rfl | rfl <;> rfl
def pre2B (s : ByteArray) (q : Nat) (x y : UInt8) : Bool := decide (q + 1 < s.size ∧ bt s (q : Int) = (x.toNat : Int) ∧ bt s ((q + 1 : Nat) : Int) = (y.toNat : Int))
theorem prefix2_f (s : ByteArray) (q : Nat) (x y : UInt8) (hq : q ≤ s.size) :
    strings_HasPrefix.f (s.extract q s.size) ⟨#[x, y]⟩ = some (pre2B s q x y) := by
  unfold pre2B
  have hz := size_cut s q
  have h2 : (⟨#[x, y]⟩ : ByteArray).size = 2 := rfl
  unfold strings_HasPrefix.f stringslite_HasPrefix.f
  rw [h2, hz]
  by_cases h : q + 1 < s.size
  · rw [if_pos (by omega), if_pos (by omega), if_pos (by omega)]
    simp only [Option.bind_some, Option.some.injEq]
    have e : ((((2 : Nat) : Int)).toNat) = 2 := rfl
    rw [e, two_list _ (by omega)]
    have b0 : bt s (q : Int) = (((s.extract q s.size)[0]'(by omega)).toNat : Int) := by
      have := bt_cut s q 0
      rw [bt_lt (by omega)] at this
      exact this.symm
    have b1 : bt s ((q + 1 : Nat) : Int) = (((s.extract q s.size)[1]'(by omega)).toNat : Int) := by
      have := bt_cut s q 1
      rw [bt_lt (by omega)] at this
      exact this.symm
    rw [b0, b1]
    have el : (⟨#[x, y]⟩ : ByteArray).toList = [x, y] := by rw [ByteArray.toList_eq]
    rw [el, Bool.eq_iff_iff, beq_iff_eq, decide_eq_true_iff]
    constructor
    · intro h'
      injection h' with h0 h'
      injection h' with h1 _
      rw [h0, h1]
      exact ⟨h, rfl, rfl⟩
    · rintro ⟨_, h0, h1⟩
      rw [UInt8.toNat_inj.1 (Int.ofNat.inj h0), UInt8.toNat_inj.1 (Int.ofNat.inj h1)]
  · rw [if_neg (by omega)]
    simp only [Option.bind_some, Option.some.injEq]
    rw [decide_eq_false (fun h' => h h'.1)]
theorem named_f (s : ByteArray) (hs : s.size ≤ bnd) (p k : Nat) (hp : p ≤ s.size) (hk : s.size + 6 < k) : lexis_named.f k s (p : Int) = some ((nameE s p - p : Nat) : Int) := by
  have h1 := ownE_ge s p
  have h2 := ownE_size s p hp
  have hs' := hs
  unfold bnd at hs'
  unfold lexis_named.f nameE
  rw [own_f s hs p k hp (by omega)]
  simp only [Option.bind_some]
  by_cases h0 : ownE s p = p
  · rw [if_pos (by omega), if_pos h0, Nat.sub_self]; rfl
  · rw [if_neg (by omega), if_neg h0]
    have e : wrap64 ((p : Int) + ((ownE s p - p : Nat) : Int)) = ((ownE s p : Nat) : Int) := by rw [wr_in (by omega) (by omega)]; omega
    rw [e]; clear e
    rw [if_pos (by omega), if_pos (by omega), Int.toNat_natCast, prefix2_f s _ 58 58 h2]
    simp only [Option.bind_some]
    have g1 := colE_ge s (ownE s p)
    have g2 := colE_size s (ownE s p) h2
    have g3 := numE_ge s (colE s (ownE s p))
    have g4 := numE_size s (colE s (ownE s p)) g2
    by_cases hc : ownE s p + 1 < s.size ∧ bt s ((ownE s p : Nat) : Int) = 58 ∧ bt s ((ownE s p + 1 : Nat) : Int) = 58
    · rw [show pre2B s (ownE s p) 58 58 = true by unfold pre2B; exact decide_eq_true hc, if_pos rfl]
      have e2 : wrap64 (((ownE s p : Nat) : Int) + 2) = ((ownE s p + 2 : Nat) : Int) := by rw [wr_in (by omega) (by omega)]; omega
      rw [e2]; clear e2
      rw [own_f s hs (ownE s p + 2) k (by omega) (by omega)]
      simp only [Option.bind_some]
      have g5 := ownE_ge s (ownE s p + 2)
      have g6 := ownE_size s (ownE s p + 2) (by omega)
      have hcol : colE s (ownE s p) = if ownE s p + 2 < ownE s (ownE s p + 2) then ownE s (ownE s p + 2) else ownE s p := by unfold colE; rw [if_pos hc]
      by_cases hm : ownE s p + 2 < ownE s (ownE s p + 2)
      · rw [if_pos hm] at hcol
        rw [if_pos (by omega)]
        rw [show wrap64 (2 + ((ownE s (ownE s p + 2) - (ownE s p + 2) : Nat) : Int)) = ((ownE s (ownE s p + 2) - ownE s p : Nat) : Int) by rw [wr_in (by omega) (by omega)]; omega]
        rw [show wrap64 (((ownE s p - p : Nat) : Int) + ((ownE s (ownE s p + 2) - ownE s p : Nat) : Int)) = ((ownE s (ownE s p + 2) - p : Nat) : Int) by rw [wr_in (by omega) (by omega)]; omega]
        rw [show wrap64 ((p : Int) + ((ownE s (ownE s p + 2) - p : Nat) : Int)) = ((ownE s (ownE s p + 2) : Nat) : Int) by rw [wr_in (by omega) (by omega)]; omega]
        rw [if_pos (by omega), if_pos (by omega), Int.toNat_natCast, numbered_f s hs _ k g6 (by omega)]
        simp only [Option.bind_some]
        rw [hcol] at g3 g4 ⊢
        rw [wr_in (by omega) (by omega)]
        congr 1
        omega
      · rw [if_neg hm] at hcol
        rw [if_neg (by omega), numbered_f s hs _ k h2 (by omega)]
        simp only [Option.bind_some]
        rw [hcol] at g3 g4 ⊢
        rw [wr_in (by omega) (by omega)]
        congr 1
        omega
    · have hcol : colE s (ownE s p) = ownE s p := by unfold colE; rw [if_neg hc]
      rw [show pre2B s (ownE s p) 58 58 = false by unfold pre2B; exact decide_eq_false hc, if_neg (by simp), numbered_f s hs _ k h2 (by omega)]
      simp only [Option.bind_some]
      rw [hcol] at g3 g4 ⊢
      rw [wr_in (by omega) (by omega)]
      congr 1
      omega
/-- Is a text a name? -/
def knowsB (s : ByteArray) : Bool := decide (s.size ≠ 0 ∧ s.size ≤ 64 ∧ nameE s 0 = s.size)
theorem Name_f (s : ByteArray) (hs : s.size ≤ bnd) (k : Nat) (hk : s.size + 6 < k) : lexis_Name.f k s = some (knowsB s) := by
  unfold lexis_Name.f knowsB
  by_cases h0 : s.size = 0
  · rw [if_pos (toList_nil.2 h0), decide_eq_false (fun h => h.1 h0)]
  · rw [if_neg (fun h => h0 (toList_nil.1 h))]
    by_cases h1 : s.size ≤ 64
    · rw [if_pos (by omega), show (0 : Int) = ((0 : Nat) : Int) from rfl, named_f s hs 0 k (by omega) hk]
      simp only [Option.bind_some, Option.some.injEq]
      rw [Bool.eq_iff_iff, beq_iff_eq, decide_eq_true_iff]
      constructor
      · intro h; exact ⟨h0, h1, by omega⟩
      · intro h; have := h.2.2; omega
    · rw [if_neg (by omega), decide_eq_false (fun h => h1 h.2.1)]
end Go.Proofs.YtldjdcdoegjmoaaDoor.P
