import Derived.Test.YtldjdcdoegjmoaaDoorY8
import Derived.Test.YtldjdcdoegjmoaaDoorY10
set_option linter.unusedVariables false
set_option linter.unusedSimpArgs false
namespace Go.Proofs.YtldjdcdoegjmoaaDoor
/-- A byte's own text. -/
def hexd (d : Nat) : Nat := if d < 10 then 48 + d else 87 + d
def spellL (b : Nat) : List Nat :=
  if b = 9 then [92, 116] else if b = 10 then [92, 110] else if b = 13 then [92, 114] else if b = 92 ∨ b = 93 ∨ b = 45 ∨ b = 94 then [92, b]
  else if b < 32 ∨ 126 < b then [92, 120, hexd (b / 16), hexd (b % 16)] else [b]
/-- The bytes of a text at a place. -/
def BAt (s : ByteArray) (p : Nat) (l : List Nat) : Prop := p + l.length ≤ s.size ∧ ∀ i, i < l.length → bat s (p + i) = l.getD i 0
theorem BAt.right {s : ByteArray} {p : Nat} {l m : List Nat} (h : BAt s p (l ++ m)) : BAt s (p + l.length) m := by
  refine ⟨by have := h.1; rw [List.length_append] at this; omega, fun i hi => ?_⟩
  rw [Nat.add_assoc, h.2 (l.length + i) (by rw [List.length_append]; omega), List.getD_eq_getElem?_getD, List.getElem?_append_right (by omega), ← List.getD_eq_getElem?_getD]
  congr 1; omega
theorem BAt.head {s : ByteArray} {p c : Nat} {t : List Nat} (h : BAt s p (c :: t)) : p < s.size ∧ bat s p = c := by
  have h1 := h.1; have h2 := h.2 0 (by simp)
  simp at h1 h2
  exact ⟨by omega, h2⟩
/-- A range's own text; what is read of it. -/
def rngT (r : Nat × Nat) : List Nat := spellL r.1 ++ ((if 1 < r.2 - r.1 then [45] else []) ++ (if r.1 < r.2 then spellL r.2 else []))
def textR (l : List (Nat × Nat)) : List Nat := l.flatMap rngT
theorem cnt_yes {p : Nat → Bool} {k : Nat} (h : p k = true) : cnt p (k + 1) = cnt p k + 1 := by unfold cnt; rw [List.range_succ, List.filter_append]; simp [h]
theorem cnt_no {p : Nat → Bool} {k : Nat} (h : p k = false) : cnt p (k + 1) = cnt p k := by unfold cnt; rw [List.range_succ, List.filter_append]; simp [h]
/-- Ranges that rise, do not touch, and hold what a set holds below a number. -/
structure Good (l : List (Nat × Nat)) (k : Nat) (p : Nat → Bool) : Prop where
  le : ∀ r ∈ l, r.1 ≤ r.2 ∧ r.2 < k
  up : l.Pairwise fun r q => r.2 + 1 < q.1
  mem : ∀ j, j < k → inRanges l j = p j
  sum : (l.map fun r => r.2 - r.1 + 1).sum = cnt p k
theorem inRanges_snoc (l : List (Nat × Nat)) (lo hi j : Nat) : inRanges (l ++ [(lo, hi)]) j = (inRanges l j || (decide (lo ≤ j) && decide (j ≤ hi))) := by unfold inRanges; rw [List.any_append]; simp
theorem inRanges_far {l : List (Nat × Nat)} {k j : Nat} (h : ∀ r ∈ l, r.2 < k) (hj : k ≤ j) : inRanges l j = false := by
  unfold inRanges
  rw [List.any_eq_false]
  intro r hr
  have := h r hr
  simp
  omega
theorem good_nil (p : Nat → Bool) : Good [] 0 p := ⟨fun r hr => by simp at hr, List.Pairwise.nil, fun j hj => by omega, rfl⟩
theorem good_no {l : List (Nat × Nat)} {k : Nat} {p : Nat → Bool} (g : Good l k p) (h : p k = false) : Good l (k + 1) p :=
  ⟨fun r hr => ⟨(g.le r hr).1, by have := (g.le r hr).2; omega⟩, g.up, fun j hj => by
    by_cases e : j = k
    · subst e; rw [h]; exact inRanges_far (fun r hr => (g.le r hr).2) (Nat.le_refl _)
    · exact g.mem j (by omega), by rw [cnt_no h]; exact g.sum⟩
theorem good_one {l : List (Nat × Nat)} {k : Nat} {p : Nat → Bool} (g : Good l k p) (h : p k = true) (hfar : ∀ r ∈ l, r.2 + 1 < k) : Good (l ++ [(k, k)]) (k + 1) p := by
  refine ⟨fun r hr => ?_, ?_, fun j hj => ?_, ?_⟩
  · rcases List.mem_append.1 hr with hr | hr
    · exact ⟨(g.le r hr).1, by have := (g.le r hr).2; omega⟩
    · rw [List.mem_singleton.1 hr]; exact ⟨Nat.le_refl _, by dsimp only; omega⟩
  · rw [List.pairwise_append]
    refine ⟨g.up, List.pairwise_singleton _ _, fun r hr q hq => ?_⟩
    rw [List.mem_singleton.1 hq]
    exact hfar r hr
  · rw [inRanges_snoc]
    by_cases e : j = k
    · subst e; simp [h]
    · rw [g.mem j (by omega)]; simp; omega
  · rw [cnt_yes h, List.map_append, List.sum_append, g.sum]; simp
theorem good_step {l : List (Nat × Nat)} {k : Nat} {p : Nat → Bool} (g : Good l k p) (h : p k = true) : Good (stepR l k) (k + 1) p := by
  rcases snoc_or l with rfl | ⟨l', lo, hi, rfl⟩
  · rw [stepR_nil]
    exact good_one (l := []) g h fun r hr => by simp at hr
  · have hlast := g.le (lo, hi) (by simp)
    have hup := List.pairwise_append.1 g.up
    have hfl : ∀ r ∈ l', r.2 + 1 < lo := fun r hr => hup.2.2 r hr (lo, hi) (by simp)
    dsimp only at hlast
    by_cases e : hi + 1 = k
    · rw [stepR_yes _ _ _ _ e]
      refine ⟨fun r hr => ?_, ?_, fun j hj => ?_, ?_⟩
      · rcases List.mem_append.1 hr with hr | hr
        · have := g.le r (by simp [hr]); exact ⟨this.1, by omega⟩
        · rw [List.mem_singleton.1 hr]; exact ⟨by dsimp only; omega, by dsimp only; omega⟩
      · rw [List.pairwise_append]
        refine ⟨hup.1, List.pairwise_singleton _ _, fun r hr q hq => ?_⟩
        rw [List.mem_singleton.1 hq]
        exact hfl r hr
      · rw [inRanges_snoc]
        by_cases e2 : j = k
        · subst e2; rw [h]; simp; right; omega
        · have := g.mem j (by omega)
          rw [inRanges_snoc] at this
          rw [← this]
          congr 2
          by_cases q : j ≤ hi
          · simp [q]; omega
          · exfalso; omega
      · have hs := g.sum
        rw [List.map_append, List.sum_append] at hs ⊢
        rw [cnt_yes h, ← hs]
        simp
        omega
    · rw [stepR_no _ _ _ _ e]
      refine good_one g h fun r hr => ?_
      rcases List.mem_append.1 hr with hr | hr
      · have := hfl r hr; omega
      · rw [List.mem_singleton.1 hr]; dsimp only; omega
/-- Two lists of ranges that rise and do not touch, and hold the same, are one. -/
def Up (l : List (Nat × Nat)) : Prop := (∀ r ∈ l, r.1 ≤ r.2) ∧ l.Pairwise fun r q => r.2 + 1 < q.1
theorem Up.tail {r : Nat × Nat} {l : List (Nat × Nat)} (h : Up (r :: l)) : Up l := ⟨fun q hq => h.1 q (by simp [hq]), (List.pairwise_cons.1 h.2).2⟩
theorem inRanges_cons (r : Nat × Nat) (l : List (Nat × Nat)) (j : Nat) : inRanges (r :: l) j = ((decide (r.1 ≤ j) && decide (j ≤ r.2)) || inRanges l j) := rfl
theorem inRanges_ex {l : List (Nat × Nat)} {j : Nat} (h : inRanges l j = true) : ∃ r ∈ l, r.1 ≤ j ∧ j ≤ r.2 := by
  unfold inRanges at h
  rw [List.any_eq_true] at h
  obtain ⟨r, hr, h⟩ := h
  simp at h
  exact ⟨r, hr, h⟩
theorem inRanges_mem {l : List (Nat × Nat)} {j : Nat} {r : Nat × Nat} (hr : r ∈ l) (h1 : r.1 ≤ j) (h2 : j ≤ r.2) : inRanges l j = true := by
  unfold inRanges
  rw [List.any_eq_true]
  exact ⟨r, hr, by simp [h1, h2]⟩
theorem Up.behind {r : Nat × Nat} {l : List (Nat × Nat)} (h : Up (r :: l)) {j : Nat} (hj : j ≤ r.2 + 1) : inRanges l j = false := by
  rcases q : inRanges l j
  · rfl
  · obtain ⟨x, hx, h1, h2⟩ := inRanges_ex q
    have := (List.pairwise_cons.1 h.2).1 x hx
    omega
theorem up_uniq : ∀ (l m : List (Nat × Nat)), Up l → Up m → (∀ j, inRanges l j = inRanges m j) → l = m
  | [], [], _, _, _ => rfl
  | [], r :: m, _, hm, h => by
    have := h r.1
    rw [inRanges_mem (l := r :: m) (by simp) (Nat.le_refl _) (hm.1 r (by simp))] at this
    cases this
  | r :: l, [], hl, _, h => by
    have := h r.1
    rw [inRanges_mem (l := r :: l) (by simp) (Nat.le_refl _) (hl.1 r (by simp))] at this
    cases this
  | (a, b) :: l, (c, d) :: m, hl, hm, h => by
    have hab : a ≤ b := hl.1 (a, b) (by simp)
    have hcd : c ≤ d := hm.1 (c, d) (by simp)
    have low : ∀ {a b c d : Nat} {l m : List (Nat × Nat)}, a ≤ b → c ≤ d → Up ((a, b) :: l) → Up ((c, d) :: m) → (∀ j, inRanges ((a, b) :: l) j = inRanges ((c, d) :: m) j) → c ≤ a := by
      intro a b c d l m hab hcd hl hm h
      have e := h a
      rw [inRanges_mem (l := (a, b) :: l) (r := (a, b)) (by simp) (Nat.le_refl _) hab] at e
      obtain ⟨x, hx, h1, h2⟩ := inRanges_ex e.symm
      rcases List.mem_cons.1 hx with rfl | hx
      · exact h1
      · have := (List.pairwise_cons.1 hm.2).1 x hx
        dsimp only at this
        omega
    have e1 : a = c := Nat.le_antisymm (low hcd hab hm hl fun j => (h j).symm) (low hab hcd hl hm h)
    subst e1
    have high : ∀ {a b d : Nat} {l m : List (Nat × Nat)}, a ≤ b → Up ((a, b) :: l) → Up ((a, d) :: m) → (∀ j, inRanges ((a, b) :: l) j = inRanges ((a, d) :: m) j) → d ≤ b := by
      intro a b d l m hab hl hm h
      rcases Nat.lt_or_ge b d with hlt | hge
      · exfalso
        have e := h (b + 1)
        rw [inRanges_mem (l := (a, d) :: m) (r := (a, d)) (by simp) (by dsimp only; omega) hlt, inRanges_cons, hl.behind (Nat.le_refl _)] at e
        simp at e
        omega
      · exact hge
    have e2 : b = d := Nat.le_antisymm (high hcd hm hl fun j => (h j).symm) (high hab hl hm h)
    subst e2
    congr 1
    refine up_uniq l m hl.tail hm.tail fun j => ?_
    by_cases q : j ≤ b + 1
    · rw [hl.behind q, hm.behind q]
    · have e := h j
      rw [inRanges_cons, inRanges_cons] at e
      have z : (decide (a ≤ j) && decide (j ≤ b)) = false := by simp; omega
      rw [z, Bool.false_or, Bool.false_or] at e
      exact e
/-- The runs of a set that begin below a number. -/
structure Runs (l : List (Nat × Nat)) (i : Nat) (p : Nat → Bool) : Prop where
  run : ∀ r ∈ l, r.1 < i ∧ r.1 ≤ r.2 ∧ r.2 < 256 ∧ (∀ j, r.1 ≤ j → j ≤ r.2 → p j = true) ∧ (r.2 = 255 ∨ p (r.2 + 1) = false)
  up : l.Pairwise fun r q => r.2 + 1 < q.1
  all : ∀ s, s < i → p s = true → (s = 0 ∨ p (s - 1) = false) → ∃ r ∈ l, r.1 = s
theorem runs_nil (p : Nat → Bool) : Runs [] 0 p := ⟨fun r h => by simp at h, List.Pairwise.nil, fun s hs => by omega⟩
theorem runs_no {l : List (Nat × Nat)} {i : Nat} {p : Nat → Bool} (h : Runs l i p) (hn : p i = false ∨ (i ≠ 0 ∧ p (i - 1) = true)) : Runs l (i + 1) p :=
  ⟨fun r hr => ⟨by have := (h.run r hr).1; omega, (h.run r hr).2⟩, h.up, fun s hs h1 h2 => by
    by_cases e : s = i
    · subst e
      rcases hn with hn | ⟨hn, hn2⟩
      · rw [hn] at h1; cases h1
      · rcases h2 with h2 | h2
        · exact absurd h2 hn
        · rw [hn2] at h2; cases h2
    · exact h.all s (by omega) h1 h2⟩
theorem runs_yes {l : List (Nat × Nat)} {i k : Nat} {p : Nat → Bool} (h : Runs l i p) (hi : i = 0 ∨ p (i - 1) = false) (hk : i ≤ k) (hk2 : k < 256) (ha : ∀ j, i ≤ j → j ≤ k → p j = true) (he : k = 255 ∨ p (k + 1) = false) : Runs (l ++ [(i, k)]) (i + 1) p := by
  refine ⟨fun r hr => ?_, ?_, fun s hs h1 h2 => ?_⟩
  · rcases List.mem_append.1 hr with hr | hr
    · exact ⟨by have := (h.run r hr).1; omega, (h.run r hr).2⟩
    · rw [List.mem_singleton.1 hr]; exact ⟨Nat.lt_succ_self _, hk, hk2, ha, he⟩
  · rw [List.pairwise_append]
    refine ⟨h.up, List.pairwise_singleton _ _, fun r hr q hq => ?_⟩
    rw [List.mem_singleton.1 hq]
    dsimp only
    have g := h.run r hr
    rcases hi with rfl | hi
    · omega
    · have q1 : r.2 < i - 1 := by
        rcases Nat.lt_or_ge r.2 (i - 1) with q | q
        · exact q
        · have := g.2.2.2.1 (i - 1) (by omega) q
          rw [hi] at this; cases this
      omega
  · by_cases e : s = i
    · subst e; exact ⟨(s, k), by simp, rfl⟩
    · obtain ⟨r, hr, e2⟩ := h.all s (by omega) h1 h2
      exact ⟨r, by simp [hr], e2⟩
theorem run_start (p : Nat → Bool) : ∀ j, p j = true → ∃ s, s ≤ j ∧ (∀ t, s ≤ t → t ≤ j → p t = true) ∧ (s = 0 ∨ p (s - 1) = false)
  | 0, h => ⟨0, Nat.le_refl _, fun t _ h2 => (show t = 0 by omega) ▸ h, .inl rfl⟩
  | j + 1, h => by
    rcases q : p j
    · exact ⟨j + 1, Nat.le_refl _, fun t h1 h2 => (show t = j + 1 by omega) ▸ h, .inr (by simpa using q)⟩
    · obtain ⟨s, h1, h2, h3⟩ := run_start p j q
      refine ⟨s, by omega, fun t h4 h5 => ?_, h3⟩
      by_cases e : t = j + 1
      · subst e; exact h
      · exact h2 t h4 (by omega)
theorem runs_mem {l : List (Nat × Nat)} {p : Nat → Bool} (h : Runs l 256 p) (j : Nat) (hj : j < 256) : inRanges l j = p j := by
  rcases q : p j
  · rcases q2 : inRanges l j
    · rfl
    · obtain ⟨r, hr, h1, h2⟩ := inRanges_ex q2
      rw [(h.run r hr).2.2.2.1 j h1 h2] at q; cases q
  · obtain ⟨s, h1, h2, h3⟩ := run_start p j q
    obtain ⟨r, hr, e⟩ := h.all s (by omega) (h2 s (Nat.le_refl _) h1) h3
    have g := h.run r hr
    refine inRanges_mem hr (by omega) ?_
    rcases Nat.lt_or_ge r.2 j with q3 | q3
    · exfalso
      rcases g.2.2.2.2 with g | g
      · omega
      · rw [h2 (r.2 + 1) (by omega) (by omega)] at g; cases g
    · exact q3
theorem runs_good {l m : List (Nat × Nat)} {p : Nat → Bool} (h : Runs l 256 p) (g : Good m 256 p) : l = m := by
  refine up_uniq l m ⟨fun r hr => (h.run r hr).2.1, h.up⟩ ⟨fun r hr => (g.le r hr).1, g.up⟩ fun j => ?_
  by_cases q : j < 256
  · rw [runs_mem h j q, g.mem j q]
  · rw [inRanges_far (k := 256) (fun r hr => (h.run r hr).2.2.1) (by omega), inRanges_far (k := 256) (fun r hr => (g.le r hr).2) (by omega)]
theorem good_upto (a : Cls) : ∀ k, k ≤ 256 → Good (rangesOf (upto a k)) k a.mem
  | 0, _ => good_nil _
  | k + 1, h => by
    have ih := good_upto a k (by omega)
    by_cases q : a.mem k = true
    · rw [upto_yes a k (by omega) q, rangesOf_snoc]; exact good_step ih q
    · rw [upto_no a k (by simpa using q)]; exact good_no ih (by simpa using q)
theorem good_ranges (a : Cls) : Good (rangesL a) 256 a.mem := good_upto a 256 (Nat.le_refl _)
/-- A class's own text. -/
def textC (a : Cls) : List Nat := if 128 < a.bytes.length then 91 :: 94 :: (textR (rangesL a.not) ++ [93]) else 91 :: (textR (rangesL a) ++ [93])
end Go.Proofs.YtldjdcdoegjmoaaDoor
set_option linter.unusedVariables false
set_option linter.unusedSimpArgs false
namespace Go.Proofs.YtldjdcdoegjmoaaDoor
open Go.RowKit
def OwnRng (w : World) (l : List (Nat × Nat)) (e : Ending) (w' : World) : Prop := ∃ v, e = .returned v ∧ w'.ownsRow w.heap.size 83 2 v l.length (rcells l) ∧ Below w.heap.size w w'
set_option maxRecDepth 100000 in
set_option maxHeartbeats 1000000 in
theorem rangesR_c (a : Cls) (ha : a.ok) (w : World) : Calls Tryd.prog 68 #[V4 a] w (OwnRng w (rangesL a)) := by
  have HA := Lib.hid ha; clear ha
  have hv := zeroSet.1
  go_enter Tryd.func68, Tryd.ntmps68
  go_wp2_with (first | (go_at_call 87; refine (open_c a HA.out _).mono ?_; rintro e w1 ⟨rfl, hb1⟩; unfold setVal) | (refine wpList_store_row rfl 106 _ _ rfl w1.heap.size (setCells a.mem) rfl rfl _ _ (heap_new _ _) (infoSet _) (by rw [setCells_size]; rfl) (setCells_one _) ?_; rw [World.setRow_alloc_new]))
  have hz := hb1.size
  have hb := ((Below.refl _ _).alloc (Nat.le_refl _) _).trans (hb1.mono (by simp))
  simp only [World.size_alloc] at hz
  have HB1 := Lib.hid hb; clear hb1 hb
  go_loopw [4, 5] (fun v i wr => ∃ (k : Nat) (L : List (Nat × Nat)), k ≤ 256 ∧ i = .int .i64 k ∧ Below w.heap.size w wr ∧ w.heap.size < w1.heap.size ∧
      wr.heap[w1.heap.size]? = some (.cells (setCells a.mem) 106 (0, 0)) ∧ Runs L k a.mem ∧ L.length ≤ k ∧ wr.ownsRow w.heap.size 83 2 v L.length (rcells L)) (fun _ i _ => 256 - (intOf i).toNat)
  case atStart =>
    exact ⟨0, [], by omega, rfl, HB1.out.alloc (by omega) _, by omega, heap_new _ _, runs_nil _, by simp, World.ownsRow_nil _ _ _ _⟩
  case round =>
    obtain ⟨k, L, hk, rfl, hB, hl, h2, hR, hL, hO⟩ := hrel
    obtain ⟨wo, rfl⟩ : ∃ wo : World, wo = wr := ⟨_, rfl⟩
    by_cases hlt : k < 256
    · have c2 : wo.cell? ⟨w1.heap.size, k, none⟩ = some (.bool (a.mem k)) := by rw [cell_of_row _ _ _ _ _ _ h2, setCells_at _ _ hlt]
      have H2 := Lib.hid h2; have HO := Lib.hid hO; have HB := Lib.hid hB; have hs := hB.size; have HR := Lib.hid hR; clear h2 hO hB hR
      cases hf : a.mem k
      · rw [hf] at c2
        have HF := Lib.hid hf; clear hf
        go_wp2
        go_roundw
        case rel => exact ⟨k + 1, L, by omega, by go_num, HB.out, hl, H2.out, runs_no HR.out (.inl HF.out), by omega, HO.out⟩
        case measure => simp [intOf]; omega
      · rw [hf] at c2
        have HF := Lib.hid hf; clear hf
        by_cases hp : k ≠ 0 ∧ a.mem (k - 1) = true
        · obtain ⟨hk0, hp⟩ := hp
          have c3 : wo.cell? ⟨w1.heap.size, k - 1, none⟩ = some (.bool true) := by rw [cell_of_row _ _ _ _ _ _ H2.out, setCells_at _ _ (by omega), hp]
          have HP := Lib.hid hp; clear hp
          have hki : (1 : Int) ≤ (k : Int) := by omega
          have hk1 : ((k : Int) - 1).toNat = k - 1 := by omega
          go_wp2
          go_roundw
          case rel => exact ⟨k + 1, L, by omega, by go_num, HB.out, hl, H2.out, runs_no HR.out (.inr ⟨hk0, HP.out⟩), by omega, HO.out⟩
          case measure => simp [intOf]; omega
        · have hst : k = 0 ∨ a.mem (k - 1) = false := by
            by_cases e : k = 0
            · exact .inl e
            · exact .inr (by rcases q : a.mem (k - 1) with _ | _; rfl; exact absurd ⟨e, q⟩ hp)
          have c3 : k ≠ 0 → wo.cell? ⟨w1.heap.size, k - 1, none⟩ = some (.bool false) := fun e => by
            rcases hst with h | h
            · exact absurd h e
            · rw [cell_of_row _ _ _ _ _ _ H2.out, setCells_at _ _ (by omega), h]
          have HS := Lib.hid hst; clear hst hp
          have HF2 := Lib.hid (fun j (h1 : k ≤ j) (h2 : j ≤ k) => show a.mem j = true from (show k = j by omega) ▸ HF.out)
          have C3 := Lib.hid c3; clear c3
          by_cases hk0 : k = 0
          all_goals
            first
              | have ek : ((k : Int) == 0) = true := by simp [hk0]
              | (have c3 := C3.out hk0; have ek : ((k : Int) == 0) = false := by simp [hk0]
                 have hki : (1 : Int) ≤ (k : Int) := by omega
                 have hk1 : ((k : Int) - 1).toNat = k - 1 := by omega)
            clear hk0
            have ek2 : decide ((k : Int) < 256) = true := by simp; omega
            go_wp2
            go_loopw [6] (fun x wq => ∃ m : Nat, k ≤ m ∧ m ≤ 255 ∧ x = .int .i64 m ∧ Hid (∀ j, k ≤ j → j ≤ m → a.mem j = true) ∧ wq = wo) (fun x _ => 255 - (intOf x).toNat)
            case atStart => exact ⟨k, Nat.le_refl _, by omega, rfl, HF2, rfl⟩
            case round =>
              obtain ⟨m, hm1, hm2, rfl, HM, rfl⟩ := hrel
              by_cases hm : m < 255
              · have c4 : wr.cell? ⟨w1.heap.size, m + 1, none⟩ = some (.bool (a.mem (m + 1))) := by rw [cell_of_row _ _ _ _ _ _ H2.out, setCells_at _ _ (by omega)]
                cases hf2 : a.mem (m + 1)
                · rw [hf2] at c4
                  have HF3 := Lib.hid hf2; clear hf2
                  go_wp2_with (at_builtin; go_must (refine app1 w.heap.size rfl (.tmp 38) (.tmp 44) 80 83 (.agg #[.int .u8 0, .int .u8 0]) 2 2 rfl Tryd.underlying80 infoRng rfl (by decide) _ _ _ #[.int .u8 (k : Int), .int .u8 (m : Int)] rfl (by simp [Value.oneCell']) rfl rfl HO.out HB.out hs (by omega) (by omega) ?_); intro g c w2 hO2 hB2 hk2 hs2)
                  go_roundw
                  case rel =>
                    refine ⟨k + 1, L ++ [(k, m)], by omega, by go_num, hB2, hl, hk2 _ _ H2.out (own_ne HO.out H2.out (by decide)), runs_yes HR.out HS.out hm1 (by omega) HM.out (.inr HF3.out), by rw [List.length_append]; simp; omega, ?_⟩
                    rw [rcells_snoc, List.length_append]
                    exact hO2
                  case measure => simp [intOf]; omega
                · rw [hf2] at c4
                  have HF3 := Lib.hid hf2; clear hf2
                  go_wp2
                  go_roundw
                  case rel =>
                    refine ⟨m + 1, by omega, by omega, by go_num, fun j h1 h2 => ?_, by trivial⟩
                    by_cases e : j = m + 1
                    · rw [e]; exact HF3.out
                    · exact HM.out j h1 (by omega)
                  case measure => simp [intOf]; omega
              · go_wp2_with (at_builtin; go_must (refine app1 w.heap.size rfl (.tmp 38) (.tmp 44) 80 83 (.agg #[.int .u8 0, .int .u8 0]) 2 2 rfl Tryd.underlying80 infoRng rfl (by decide) _ _ _ #[.int .u8 (k : Int), .int .u8 (m : Int)] rfl (by simp [Value.oneCell']) rfl rfl HO.out HB.out hs (by omega) (by omega) ?_); intro g c w2 hO2 hB2 hk2 hs2)
                go_roundw
                case rel =>
                  refine ⟨k + 1, L ++ [(k, m)], by omega, by go_num, hB2, hl, hk2 _ _ H2.out (own_ne HO.out H2.out (by decide)), runs_yes HR.out HS.out hm1 (by omega) HM.out (.inl (by omega)), by rw [List.length_append]; simp; omega, ?_⟩
                  rw [rcells_snoc, List.length_append]
                  exact hO2
                case measure => simp [intOf]; omega
    · obtain rfl : k = 256 := by omega
      have hfin := runs_good hR (good_ranges a)
      have HFin := Lib.hid hfin; clear hfin
      have H2 := Lib.hid h2; have HO := Lib.hid hO; have HB := Lib.hid hB; have hs := hB.size; clear h2 hO hB hR
      go_wp2
      go_ret
      exact ⟨_, rfl, by rw [← HFin.out]; exact HO.out, HB.out⟩
end Go.Proofs.YtldjdcdoegjmoaaDoor
