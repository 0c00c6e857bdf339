import Derived.Test.YtachpdeejificaaZ4
import Derived.Test.YtachpdeejificaaZ6
import Derived.Test.YtachpdeejificaaZ7
set_option linter.unusedVariables false
set_option linter.unusedSimpArgs false
namespace Go.Proofs.Ytachpdeejificaa
/-- A byte's own text. -/
def hexd (d : Nat) : Nat := if d < 10 then 48 + d else 87 + d
def spellL (b : Nat) : List Nat :=
  if b = 9 then [92, 116] else if b = 10 then [92, 110] else if b = 13 then [92, 114] else if b = 92 ∨ b = 93 ∨ b = 45 ∨ b = 94 then [92, b]
  else if b < 32 ∨ 126 < b then [92, 120, hexd (b / 16), hexd (b % 16)] else [b]
/-- The bytes of a text at a place. -/
def BAt (s : ByteArray) (p : Nat) (l : List Nat) : Prop := p + l.length ≤ s.size ∧ ∀ i, i < l.length → bat s (p + i) = l.getD i 0
theorem BAt.left {s : ByteArray} {p : Nat} {l m : List Nat} (h : BAt s p (l ++ m)) : BAt s p l := by
  refine ⟨by have := h.1; rw [List.length_append] at this; omega, fun i hi => ?_⟩
  rw [h.2 i (by rw [List.length_append]; omega), List.getD_eq_getElem?_getD, List.getElem?_append_left hi, ← List.getD_eq_getElem?_getD]
theorem BAt.right {s : ByteArray} {p : Nat} {l m : List Nat} (h : BAt s p (l ++ m)) : BAt s (p + l.length) m := by
  refine ⟨by have := h.1; rw [List.length_append] at this; omega, fun i hi => ?_⟩
  rw [Nat.add_assoc, h.2 (l.length + i) (by rw [List.length_append]; omega), List.getD_eq_getElem?_getD, List.getElem?_append_right (by omega), ← List.getD_eq_getElem?_getD]
  congr 1; omega
theorem hexv_hexd : ∀ d : Fin 16, hexv (hexd d.val) = (d.val : Int) := by decide
theorem hexv_d {d : Nat} (h : d < 16) : hexv (hexd d) = (d : Int) := hexv_hexd ⟨d, h⟩
theorem byteF_spell {s : ByteArray} {p b : Nat} (hb : b < 256) (h : BAt s p (spellL b)) : byteF s p = (b, p + (spellL b).length, 0) := by
  obtain ⟨hs, h⟩ := h
  unfold spellL at hs h ⊢
  by_cases h1 : b = 9
  · subst h1
    simp only [if_true, List.length_cons, List.length_nil] at hs h ⊢
    have e0 := h 0 (by omega); have e1 := h 1 (by omega)
    simp at e0 e1
    unfold byteF sayF escF
    simp [e0, e1, show p < s.size by omega, show p + 1 < s.size by omega]
  rw [if_neg h1] at hs h ⊢
  by_cases h2 : b = 10
  · subst h2
    simp only [if_true, List.length_cons, List.length_nil] at hs h ⊢
    have e0 := h 0 (by omega); have e1 := h 1 (by omega)
    simp at e0 e1
    unfold byteF sayF escF
    simp [e0, e1, show p < s.size by omega, show p + 1 < s.size by omega]
  rw [if_neg h2] at hs h ⊢
  by_cases h3 : b = 13
  · subst h3
    simp only [if_true, List.length_cons, List.length_nil] at hs h ⊢
    have e0 := h 0 (by omega); have e1 := h 1 (by omega)
    simp at e0 e1
    unfold byteF sayF escF
    simp [e0, e1, show p < s.size by omega, show p + 1 < s.size by omega]
  rw [if_neg h3] at hs h ⊢
  by_cases h4 : b = 92 ∨ b = 93 ∨ b = 45 ∨ b = 94
  · rw [if_pos h4] at hs h ⊢
    simp only [List.length_cons, List.length_nil] at hs h ⊢
    have e0 := h 0 (by omega); have e1 := h 1 (by omega)
    simp at e0 e1
    unfold byteF sayF escF
    rw [if_pos (by omega), if_pos e0, if_pos (by omega), e1, if_neg (by omega), if_neg (by omega), if_neg (by omega), if_pos (by omega)]
  rw [if_neg h4] at hs h ⊢
  by_cases h5 : b < 32 ∨ 126 < b
  · rw [if_pos h5] at hs h ⊢
    simp only [List.length_cons, List.length_nil] at hs h ⊢
    have e0 := h 0 (by omega); have e1 := h 1 (by omega); have e2 := h 2 (by omega); have e3 := h 3 (by omega)
    simp at e0 e1 e2 e3
    have d1 := hexv_d (d := b / 16) (by omega); have d2 := hexv_d (d := b % 16) (by omega)
    unfold byteF sayF escF
    rw [if_pos (by omega), if_pos e0, if_pos (by omega), e1, if_neg (by omega), if_neg (by omega), if_neg (by omega), if_neg (by omega), e2, e3, d1, d2, if_pos ⟨rfl, by omega, by omega, by omega⟩]
    have : (16 * ((b / 16 : Nat) : Int) + ((b % 16 : Nat) : Int)).toNat = b := by omega
    rw [this]
  rw [if_neg h5] at hs h ⊢
  simp only [List.length_cons, List.length_nil] at hs h ⊢
  have e0 := h 0 (by omega)
  simp at e0
  unfold byteF sayF
  rw [if_pos (by omega), e0, if_neg (by omega), if_neg (show ¬ barred b by unfold barred; omega)]
theorem spellL_head (b : Nat) : ∃ c t, spellL b = c :: t ∧ c ≠ 45 ∧ c ≠ 93 ∧ c ≠ 94 := by
  unfold spellL
  by_cases h1 : b = 9
  · rw [if_pos h1]; exact ⟨92, [116], rfl, by decide, by decide, by decide⟩
  rw [if_neg h1]
  by_cases h2 : b = 10
  · rw [if_pos h2]; exact ⟨92, [110], rfl, by decide, by decide, by decide⟩
  rw [if_neg h2]
  by_cases h3 : b = 13
  · rw [if_pos h3]; exact ⟨92, [114], rfl, by decide, by decide, by decide⟩
  rw [if_neg h3]
  by_cases h4 : b = 92 ∨ b = 93 ∨ b = 45 ∨ b = 94
  · rw [if_pos h4]; exact ⟨92, [b], rfl, by decide, by decide, by decide⟩
  rw [if_neg h4]
  by_cases h5 : b < 32 ∨ 126 < b
  · rw [if_pos h5]; exact ⟨92, _, rfl, by decide, by decide, by decide⟩
  rw [if_neg h5]
  exact ⟨b, [], rfl, by omega, by omega, by omega⟩
theorem spellL_len (b : Nat) : 1 ≤ (spellL b).length := by
  obtain ⟨c, t, e, _⟩ := spellL_head b
  rw [e]; simp
theorem BAt.head {s : ByteArray} {p c : Nat} {t : List Nat} (h : BAt s p (c :: t)) : p < s.size ∧ bat s p = c := by
  have h1 := h.1; have h2 := h.2 0 (by simp)
  simp at h1 h2
  exact ⟨by omega, h2⟩
/-- One byte said, no - behind it. -/
theorem itemF_one {s : ByteArray} {b p x c : Nat} {t : List Nat} (hx : x < 256) (h : BAt s p (spellL x ++ c :: t)) (hc : c ≠ 45) : itemF s b p = (x, x, p + (spellL x).length, 0, 0) := by
  have e := byteF_spell hx h.left
  have e2 := h.right.head
  unfold itemF
  rw [e]
  dsimp only
  rw [if_pos rfl, if_neg (by omega)]
/-- Two bytes with a - between. -/
theorem itemF_two {s : ByteArray} {b p x y : Nat} {t : List Nat} (hx : x < 256) (hy : y < 256) (hxy : x ≤ y) (h : BAt s p (spellL x ++ 45 :: (spellL y ++ t))) : itemF s b p = (x, y, p + (spellL x).length + 1 + (spellL y).length, 0, 0) := by
  have e := byteF_spell hx h.left
  have e2 := h.right.head
  have h3 : BAt s (p + (spellL x).length + 1) (spellL y ++ t) := BAt.right (l := [45]) h.right
  have e3 := byteF_spell hy h3.left
  unfold itemF
  rw [e]
  dsimp only
  rw [if_pos rfl, if_pos ⟨e2.1, e2.2⟩, e3]
  dsimp only
  rw [if_neg (by omega)]
  rfl
/-- A range's own text; what is read of it. -/
def rngT (r : Nat × Nat) : List Nat := spellL r.1 ++ ((if 1 < r.2 - r.1 then [45] else []) ++ (if r.1 < r.2 then spellL r.2 else []))
def rngX (r : Nat × Nat) : List (Nat × Nat) := if 1 < r.2 - r.1 then [r] else if r.1 < r.2 then [(r.1, r.1), (r.2, r.2)] else [(r.1, r.1)]
def textR (l : List (Nat × Nat)) : List Nat := l.flatMap rngT
theorem textR_head (l : List (Nat × Nat)) (t : List Nat) : ∃ c u, textR l ++ 93 :: t = c :: u ∧ c ≠ 45 ∧ c ≠ 94 := by
  cases l with
  | nil => exact ⟨93, t, rfl, by decide, by decide⟩
  | cons r l =>
    obtain ⟨c, u, e, h1, h2, h3⟩ := spellL_head r.1
    exact ⟨c, _, by unfold textR; rw [List.flatMap_cons]; unfold rngT; rw [e]; rfl, h1, h3⟩
theorem itemsF_text (s : ByteArray) (b : Nat) (t : List Nat) : ∀ (l : List (Nat × Nat)) (k p : Nat) (acc : List (Nat × Nat)), (∀ r ∈ l, r.1 ≤ r.2 ∧ r.2 < 256) → (textR l).length < k → BAt s p (textR l ++ 93 :: t) →
    itemsF s b k p acc = (acc ++ l.flatMap rngX, p + (textR l).length + 1, 0, 0)
  | [], k + 1, p, acc, _, _, h => by
    have e := BAt.head (c := 93) (t := t) h
    rw [itemsF, if_pos ⟨e.1, e.2⟩]
    simp [textR]
  | r :: l, k, p, acc, hl, hk, h => by
    have et : textR (r :: l) = rngT r ++ textR l := by unfold textR; rw [List.flatMap_cons]
    have l1 := spellL_len r.1
    have l2 := spellL_len r.2
    rw [et, List.length_append] at hk
    unfold rngT at hk
    rw [List.length_append, List.length_append] at hk
    obtain ⟨k, rfl⟩ : ∃ m, k = m + 2 := ⟨k - 2, by omega⟩
    have hr := hl r (by simp)
    have hl' : ∀ q ∈ l, q.1 ≤ q.2 ∧ q.2 < 256 := fun q hq => hl q (by simp [hq])
    obtain ⟨lo, hi⟩ := r
    dsimp only at hr hk l1 l2
    obtain ⟨c, u, ec, hc1, hc2, hc3⟩ := spellL_head lo
    obtain ⟨d, v, ed, hd1, _⟩ := textR_head l t
    rw [et, List.append_assoc] at h
    have hp : p < s.size ∧ bat s p = c := by
      have h' := h
      unfold rngT at h'
      rw [ec] at h'
      exact h'.head
    rw [itemsF, if_neg (by omega)]
    unfold rngT at h
    rw [et]
    unfold rngT
    dsimp only at h ⊢
    by_cases h1 : 1 < hi - lo
    · rw [if_pos h1, if_pos (by omega)] at h
      have hx := itemF_two (b := b) (t := textR l ++ 93 :: t) (by omega) hr.2 hr.1 (by simpa [List.append_assoc] using h)
      have hn : BAt s (p + (spellL lo).length + 1 + (spellL hi).length) (textR l ++ 93 :: t) := by
        have := h.right
        simp only [List.length_append, List.length_cons, List.length_nil] at this
        rwa [show p + ((spellL lo).length + (0 + 1 + (spellL hi).length)) = p + (spellL lo).length + 1 + (spellL hi).length by omega] at this
      rw [hx]
      dsimp only
      rw [if_pos rfl, itemsF_text s b t l (k + 1) _ _ hl' (by rw [if_pos h1, if_pos (by omega)] at hk; simp at hk; omega) hn, if_pos h1, if_pos (by omega)]
      simp only [List.flatMap_cons, rngX, if_pos h1, List.append_assoc, List.length_append, List.length_cons, List.length_nil, Prod.mk.injEq, and_true, true_and]
      omega
    · rw [if_neg h1] at h
      by_cases h2 : lo < hi
      · rw [if_pos h2] at h
        obtain ⟨c2, u2, ec2, hd2, hd3, _⟩ := spellL_head hi
        have hx := itemF_one (b := b) (x := lo) (c := c2) (t := u2 ++ (textR l ++ 93 :: t)) (by omega) (by simpa [List.append_assoc, ec2] using h) hd2
        have hn : BAt s (p + (spellL lo).length) (spellL hi ++ (textR l ++ 93 :: t)) := by
          have h' : BAt s p (spellL lo ++ (spellL hi ++ (textR l ++ 93 :: t))) := by simpa [List.append_assoc] using h
          exact h'.right
        have hp2 : p + (spellL lo).length < s.size ∧ bat s (p + (spellL lo).length) = c2 := by
          have h' := hn
          rw [ec2] at h'
          exact h'.head
        have hy := itemF_one (b := b) (x := hi) (c := d) (t := v) (by omega) (by rw [← ed]; exact hn) hd1
        rw [hx]
        dsimp only
        rw [if_pos rfl, itemsF, if_neg (by omega), hy]
        dsimp only
        rw [if_pos rfl, itemsF_text s b t l k _ _ hl' (by rw [if_neg h1, if_pos h2] at hk; simp at hk; omega) hn.right, if_neg h1, if_pos h2]
        simp only [List.flatMap_cons, rngX, if_neg h1, if_pos h2, List.append_assoc, List.length_append, List.length_cons, List.length_nil, Prod.mk.injEq, and_true, true_and, List.cons_append, List.nil_append]
        omega
      · rw [if_neg h2] at h
        have h' : BAt s p (spellL lo ++ (textR l ++ 93 :: t)) := by simpa [List.append_assoc] using h
        have hx := itemF_one (b := b) (x := lo) (c := d) (t := v) (by omega) (by rw [← ed]; exact h') hd1
        rw [hx]
        dsimp only
        rw [if_pos rfl, itemsF_text s b t l (k + 1) _ _ hl' (by omega) h'.right, if_neg h1, if_neg h2]
        simp only [List.flatMap_cons, rngX, if_neg h1, if_neg h2, List.append_assoc, List.length_append, List.length_cons, List.length_nil, Prod.mk.injEq, and_true, true_and, List.cons_append, List.nil_append, List.append_nil]
        omega
  | [], 0, _, _, _, hk, _ => by simp at hk
theorem inRanges_X (l : List (Nat × Nat)) (hl : ∀ r ∈ l, r.1 ≤ r.2) (i : Nat) : inRanges (l.flatMap rngX) i = inRanges l i := by
  induction l with
  | nil => rfl
  | cons r l ih =>
    have hr := hl r (by simp)
    have ih := ih fun q hq => hl q (by simp [hq])
    unfold inRanges at ih ⊢
    rw [List.flatMap_cons, List.any_append, ih, List.any_cons]
    congr 1
    unfold rngX
    obtain ⟨lo, hi⟩ := r
    dsimp only at hr ⊢
    by_cases h1 : 1 < hi - lo
    · rw [if_pos h1]; simp
    · rw [if_neg h1]
      by_cases h2 : lo < hi
      · rw [if_pos h2]
        simp only [List.any_cons, List.any_nil, Bool.or_false]
        rw [Bool.eq_iff_iff]; simp; omega
      · rw [if_neg h2]
        simp only [List.any_cons, List.any_nil, Bool.or_false]
        rw [Bool.eq_iff_iff]; simp; omega
theorem cnt_yes {p : Nat → Bool} {k : Nat} (h : p k = true) : cnt p (k + 1) = cnt p k + 1 := by unfold cnt; rw [List.range_succ, List.filter_append]; simp [h]
theorem cnt_no {p : Nat → Bool} {k : Nat} (h : p k = false) : cnt p (k + 1) = cnt p k := by unfold cnt; rw [List.range_succ, List.filter_append]; simp [h]
/-- Ranges that rise, do not touch, and hold what a set holds below a number. -/
structure Good (l : List (Nat × Nat)) (k : Nat) (p : Nat → Bool) : Prop where
  le : ∀ r ∈ l, r.1 ≤ r.2 ∧ r.2 < k
  up : l.Pairwise fun r q => r.2 + 1 < q.1
  mem : ∀ j, j < k → inRanges l j = p j
  sum : (l.map fun r => r.2 - r.1 + 1).sum = cnt p k
theorem inRanges_snoc (l : List (Nat × Nat)) (lo hi j : Nat) : inRanges (l ++ [(lo, hi)]) j = (inRanges l j || (decide (lo ≤ j) && decide (j ≤ hi))) := by unfold inRanges; rw [List.any_append]; simp
theorem inRanges_far {l : List (Nat × Nat)} {k j : Nat} (h : ∀ r ∈ l, r.2 < k) (hj : k ≤ j) : inRanges l j = false := by
  unfold inRanges
  rw [List.any_eq_false]
  intro r hr
  have := h r hr
  simp
  omega
theorem good_nil (p : Nat → Bool) : Good [] 0 p := ⟨fun r hr => by simp at hr, List.Pairwise.nil, fun j hj => by omega, rfl⟩
theorem good_no {l : List (Nat × Nat)} {k : Nat} {p : Nat → Bool} (g : Good l k p) (h : p k = false) : Good l (k + 1) p :=
  ⟨fun r hr => ⟨(g.le r hr).1, by have := (g.le r hr).2; omega⟩, g.up, fun j hj => by
    by_cases e : j = k
    · subst e; rw [h]; exact inRanges_far (fun r hr => (g.le r hr).2) (Nat.le_refl _)
    · exact g.mem j (by omega), by rw [cnt_no h]; exact g.sum⟩
theorem good_one {l : List (Nat × Nat)} {k : Nat} {p : Nat → Bool} (g : Good l k p) (h : p k = true) (hfar : ∀ r ∈ l, r.2 + 1 < k) : Good (l ++ [(k, k)]) (k + 1) p := by
  refine ⟨fun r hr => ?_, ?_, fun j hj => ?_, ?_⟩
  · rcases List.mem_append.1 hr with hr | hr
    · exact ⟨(g.le r hr).1, by have := (g.le r hr).2; omega⟩
    · rw [List.mem_singleton.1 hr]; exact ⟨Nat.le_refl _, by dsimp only; omega⟩
  · rw [List.pairwise_append]
    refine ⟨g.up, List.pairwise_singleton _ _, fun r hr q hq => ?_⟩
    rw [List.mem_singleton.1 hq]
    exact hfar r hr
  · rw [inRanges_snoc]
    by_cases e : j = k
    · subst e; simp [h]
    · rw [g.mem j (by omega)]; simp; omega
  · rw [cnt_yes h, List.map_append, List.sum_append, g.sum]; simp
theorem good_step {l : List (Nat × Nat)} {k : Nat} {p : Nat → Bool} (g : Good l k p) (h : p k = true) : Good (stepR l k) (k + 1) p := by
  rcases snoc_or l with rfl | ⟨l', lo, hi, rfl⟩
  · rw [stepR_nil]
    exact good_one (l := []) g h fun r hr => by simp at hr
  · have hlast := g.le (lo, hi) (by simp)
    have hup := List.pairwise_append.1 g.up
    have hfl : ∀ r ∈ l', r.2 + 1 < lo := fun r hr => hup.2.2 r hr (lo, hi) (by simp)
    dsimp only at hlast
    by_cases e : hi + 1 = k
    · rw [stepR_yes _ _ _ _ e]
      refine ⟨fun r hr => ?_, ?_, fun j hj => ?_, ?_⟩
      · rcases List.mem_append.1 hr with hr | hr
        · have := g.le r (by simp [hr]); exact ⟨this.1, by omega⟩
        · rw [List.mem_singleton.1 hr]; exact ⟨by dsimp only; omega, by dsimp only; omega⟩
      · rw [List.pairwise_append]
        refine ⟨hup.1, List.pairwise_singleton _ _, fun r hr q hq => ?_⟩
        rw [List.mem_singleton.1 hq]
        exact hfl r hr
      · rw [inRanges_snoc]
        by_cases e2 : j = k
        · subst e2; rw [h]; simp; right; omega
        · have := g.mem j (by omega)
          rw [inRanges_snoc] at this
          rw [← this]
          congr 2
          by_cases q : j ≤ hi
          · simp [q]; omega
          · exfalso; omega
      · have hs := g.sum
        rw [List.map_append, List.sum_append] at hs ⊢
        rw [cnt_yes h, ← hs]
        simp
        omega
    · rw [stepR_no _ _ _ _ e]
      refine good_one g h fun r hr => ?_
      rcases List.mem_append.1 hr with hr | hr
      · have := hfl r hr; omega
      · rw [List.mem_singleton.1 hr]; dsimp only; omega
/-- Two lists of ranges that rise and do not touch, and hold the same, are one. -/
def Up (l : List (Nat × Nat)) : Prop := (∀ r ∈ l, r.1 ≤ r.2) ∧ l.Pairwise fun r q => r.2 + 1 < q.1
theorem inRanges_ex {l : List (Nat × Nat)} {j : Nat} (h : inRanges l j = true) : ∃ r ∈ l, r.1 ≤ j ∧ j ≤ r.2 := by
  unfold inRanges at h
  rw [List.any_eq_true] at h
  obtain ⟨r, hr, h⟩ := h
  simp at h
  exact ⟨r, hr, h⟩
theorem Up.behind {r : Nat × Nat} {l : List (Nat × Nat)} (h : Up (r :: l)) {j : Nat} (hj : j ≤ r.2 + 1) : inRanges l j = false := by
  rcases q : inRanges l j
  · rfl
  · obtain ⟨x, hx, h1, h2⟩ := inRanges_ex q
    have := (List.pairwise_cons.1 h.2).1 x hx
    omega
/-- The runs of a set that begin below a number. -/
structure Runs (l : List (Nat × Nat)) (i : Nat) (p : Nat → Bool) : Prop where
  run : ∀ r ∈ l, r.1 < i ∧ r.1 ≤ r.2 ∧ r.2 < 256 ∧ (∀ j, r.1 ≤ j → j ≤ r.2 → p j = true) ∧ (r.2 = 255 ∨ p (r.2 + 1) = false)
  up : l.Pairwise fun r q => r.2 + 1 < q.1
  all : ∀ s, s < i → p s = true → (s = 0 ∨ p (s - 1) = false) → ∃ r ∈ l, r.1 = s
theorem good_upto (a : Cls) : ∀ k, k ≤ 256 → Good (rangesOf (upto a k)) k a.mem
  | 0, _ => good_nil _
  | k + 1, h => by
    have ih := good_upto a k (by omega)
    by_cases q : a.mem k = true
    · rw [upto_yes a k (by omega) q, rangesOf_snoc]; exact good_step ih q
    · rw [upto_no a k (by simpa using q)]; exact good_no ih (by simpa using q)
theorem good_ranges (a : Cls) : Good (rangesL a) 256 a.mem := good_upto a 256 (Nat.le_refl _)
theorem ofFn_ranges {a : Cls} (ha : a.ok) : Cls.ofFn (inRanges (rangesL a)) = a := (Cls.eq_ofFn ha fun i hi => ((good_ranges a).mem i hi).symm).symm
theorem bytes_cnt (a : Cls) : a.bytes.length = cnt a.mem 256 := rfl
/-- A class's own text. -/
def textC (a : Cls) : List Nat := if 128 < a.bytes.length then 91 :: 94 :: (textR (rangesL a.not) ++ [93]) else 91 :: (textR (rangesL a) ++ [93])
theorem not_not' {a : Cls} (ha : a.ok) : a.not.not = a := Cls.ext_mem (Cls.ok_not _) ha fun i _ => by rw [Cls.mem_not (Cls.ok_not _), Cls.mem_not ha, Bool.not_not]
theorem items_of (a : Cls) (ha : a.ok) (s : ByteArray) (b p k : Nat) (t : List Nat) (hk : (textR (rangesL a)).length < k) (h : BAt s p (textR (rangesL a) ++ 93 :: t)) :
    (itemsF s b k p []).2 = (p + (textR (rangesL a)).length + 1, 0, 0) ∧ Cls.ofFn (inRanges (itemsF s b k p []).1) = a := by
  have g := good_ranges a
  have e := itemsF_text s b t (rangesL a) k p [] g.le hk h
  rw [e]
  refine ⟨rfl, ?_⟩
  dsimp only
  rw [List.nil_append]
  exact (Cls.ofFn_congr fun i _ => inRanges_X _ (fun r hr => (g.le r hr).1) i).trans (ofFn_ranges ha)
theorem parseF_text {s : ByteArray} {p : Nat} {a : Cls} {t : List Nat} (ha : a.ok) (h : BAt s p (textC a ++ t)) : parseF s p = (a, p + (textC a).length, 0, 0) := by
  unfold textC at h ⊢
  by_cases hc : 128 < a.bytes.length
  · rw [if_pos hc] at h ⊢
    simp only [List.cons_append, List.append_assoc, List.nil_append] at h
    have h0 := h.head
    have h1' : BAt s (p + 1) (94 :: (textR (rangesL a.not) ++ 93 :: t)) := BAt.right (l := [91]) h
    have h1 := h1'.head
    have h2 : BAt s (p + 1 + 1) (textR (rangesL a.not) ++ 93 :: t) := BAt.right (l := [94]) h1'
    have hl := h2.left.1
    have e := items_of a.not (Cls.ok_not _) s p (p + 1 + 1) (s.size + 1) t (by omega) h2
    have ho : p + 1 < s.size ∧ bat s (p + 1) = 94 := h1
    unfold parseF
    rw [if_pos h0]
    simp only [if_pos ho]
    rw [show p + 2 = p + 1 + 1 by omega, e.1]
    dsimp only
    rw [if_pos rfl, e.2, not_not' ha]
    simp only [List.length_cons, List.length_append, List.length_nil, Prod.mk.injEq, and_true, true_and]
    omega
  · rw [if_neg hc] at h ⊢
    simp only [List.cons_append, List.append_assoc, List.nil_append] at h
    have h0 := h.head
    have h1 : BAt s (p + 1) (textR (rangesL a) ++ 93 :: t) := BAt.right (l := [91]) h
    have hl := h1.left.1
    obtain ⟨c, u, ec, _, hc94⟩ := textR_head (rangesL a) t
    have h1h := h1
    rw [ec] at h1h
    have h1h := h1h.head
    have e := items_of a ha s p (p + 1) (s.size + 1) t (by omega) h1
    have ho : ¬ (p + 1 < s.size ∧ bat s (p + 1) = 94) := fun q => hc94 (by rw [← h1h.2]; exact q.2)
    unfold parseF
    rw [if_pos h0]
    simp only [if_neg ho]
    rw [e.1]
    dsimp only
    rw [if_pos rfl, e.2]
    simp only [List.length_cons, List.length_append, List.length_nil, Prod.mk.injEq, and_true, true_and]
    omega
end Go.Proofs.Ytachpdeejificaa
