import Derived.KernelRfl
import Derived.Test.YtachpdeejificaaZ5
import Derived.Test.YtachpdeejificaaZ7
import Derived.Test.YtachpdeejificaaZ12
import Derived.Test.YtachpdeejificaaZ13
set_option linter.unusedVariables false
namespace Go.Proofs.Ytachpdeejificaa
theorem escF_agr {s t : ByteArray} {p n : Nat} (hn : n ≤ s.size) (hm : n ≤ t.size) (hb : ∀ i, i < n → bat t i = bat s i) (h0 : (escF s p).2.2 = 0) (hq : (escF s p).2.1 ≤ n) : escF t p = escF s p := by
  unfold escF at h0 hq ⊢
  by_cases h1 : p + 1 < s.size
  · rw [if_pos h1] at h0 hq ⊢
    by_cases a1 : bat s (p + 1) = 116
    · rw [if_pos a1] at hq ⊢
      dsimp only at hq
      rw [if_pos (by omega), hb (p + 1) (by omega), if_pos a1]
    · rw [if_neg a1] at h0 hq ⊢
      by_cases a2 : bat s (p + 1) = 110
      · rw [if_pos a2] at hq ⊢
        dsimp only at hq
        rw [if_pos (by omega), hb (p + 1) (by omega), if_neg a1, if_pos a2]
      · rw [if_neg a2] at h0 hq ⊢
        by_cases a3 : bat s (p + 1) = 114
        · rw [if_pos a3] at hq ⊢
          dsimp only at hq
          rw [if_pos (by omega), hb (p + 1) (by omega), if_neg a1, if_neg a2, if_pos a3]
        · rw [if_neg a3] at h0 hq ⊢
          by_cases a4 : bat s (p + 1) = 92 ∨ bat s (p + 1) = 93 ∨ bat s (p + 1) = 45 ∨ bat s (p + 1) = 94 ∨ bat s (p + 1) = 39 ∨ bat s (p + 1) = 34
          · rw [if_pos a4] at hq ⊢
            dsimp only at hq
            rw [if_pos (by omega), hb (p + 1) (by omega), if_neg a1, if_neg a2, if_neg a3, if_pos a4]
          · rw [if_neg a4] at h0 hq ⊢
            by_cases a5 : bat s (p + 1) = 120 ∧ p + 3 < s.size ∧ 0 ≤ hexv (bat s (p + 2)) ∧ 0 ≤ hexv (bat s (p + 3))
            · rw [if_pos a5] at hq ⊢
              dsimp only at hq
              rw [if_pos (by omega), hb (p + 1) (by omega), hb (p + 2) (by omega), hb (p + 3) (by omega), if_neg a1, if_neg a2, if_neg a3, if_neg a4, if_pos ⟨a5.1, by omega, a5.2.2⟩]
            · rw [if_neg a5] at h0
              cases h0
  · rw [if_neg h1] at h0
    cases h0
theorem escF_cut {s t : ByteArray} {p n : Nat} (hm : t.size = n) (hb : ∀ i, i < n → bat t i = bat s i) (h0 : (escF s p).2.2 = 0) (hq : n < (escF s p).2.1) : escF t p = (0, p, 42) := by
  by_cases h2 : p + 1 < t.size
  · have e := hb (p + 1) (by omega)
    unfold escF at h0 hq ⊢
    rw [if_pos h2, e]
    by_cases h1 : p + 1 < s.size
    · rw [if_pos h1] at h0 hq
      by_cases a1 : bat s (p + 1) = 116
      · rw [if_pos a1] at hq; dsimp only at hq; omega
      · rw [if_neg a1] at h0 hq ⊢
        by_cases a2 : bat s (p + 1) = 110
        · rw [if_pos a2] at hq; dsimp only at hq; omega
        · rw [if_neg a2] at h0 hq ⊢
          by_cases a3 : bat s (p + 1) = 114
          · rw [if_pos a3] at hq; dsimp only at hq; omega
          · rw [if_neg a3] at h0 hq ⊢
            by_cases a4 : bat s (p + 1) = 92 ∨ bat s (p + 1) = 93 ∨ bat s (p + 1) = 45 ∨ bat s (p + 1) = 94 ∨ bat s (p + 1) = 39 ∨ bat s (p + 1) = 34
            · rw [if_pos a4] at hq; dsimp only at hq; omega
            · rw [if_neg a4] at h0 hq ⊢
              by_cases a5 : bat s (p + 1) = 120 ∧ p + 3 < s.size ∧ 0 ≤ hexv (bat s (p + 2)) ∧ 0 ≤ hexv (bat s (p + 3))
              · rw [if_pos a5] at hq
                dsimp only at hq
                rw [if_neg (fun h => by omega)]
              · rw [if_neg a5] at h0
                cases h0
    · rw [if_neg h1] at h0
      cases h0
  · unfold escF
    rw [if_neg h2]
theorem byteF_strict {s : ByteArray} {p : Nat} (h0 : (byteF s p).2.2 = 0) : p < (byteF s p).2.1 ∧ p < s.size := by
  unfold byteF at h0 ⊢
  by_cases h1 : p < s.size
  · rw [if_pos h1] at h0 ⊢
    unfold sayF at h0 ⊢
    by_cases h2 : bat s p = 92
    · rw [if_pos h2] at h0 ⊢
      refine ⟨?_, h1⟩
      unfold escF at h0 ⊢
      repeat' (split at h0)
      all_goals first | (cases h0; done) | (simp only [*, if_true, if_false, and_self]; repeat' (split)) | skip
      all_goals first | (dsimp only; omega) | (simp_all)
    · rw [if_neg h2] at h0 ⊢
      by_cases h3 : barred (bat s p)
      · rw [if_pos h3] at h0; cases h0
      · rw [if_neg h3]; exact ⟨by dsimp only; omega, h1⟩
  · rw [if_neg h1] at h0
    cases h0
theorem byteF_agr {s t : ByteArray} {p n : Nat} (hn : n ≤ s.size) (hm : n ≤ t.size) (hb : ∀ i, i < n → bat t i = bat s i) (h0 : (byteF s p).2.2 = 0) (hq : (byteF s p).2.1 ≤ n) : byteF t p = byteF s p := by
  have hs := byteF_strict h0
  have e := hb p (by omega)
  have hpt : p < t.size := by omega
  unfold byteF at h0 hq ⊢
  rw [if_pos hs.2] at h0 hq ⊢
  rw [if_pos hpt]
  unfold sayF at h0 hq ⊢
  rw [e]
  by_cases h2 : bat s p = 92
  · rw [if_pos h2] at h0 hq ⊢
    rw [if_pos h2]
    exact escF_agr hn hm hb h0 hq
  · rw [if_neg h2, if_neg h2]
theorem byteF_or {s t : ByteArray} {p n : Nat} (hn : n ≤ s.size) (hm : t.size = n) (hb : ∀ i, i < n → bat t i = bat s i) (hp : p ≤ n) (h0 : (byteF s p).2.2 = 0) :
    (byteF t p = byteF s p ∧ (byteF s p).2.1 ≤ n) ∨ byteF t p = (0, p, 41) ∨ (p < n ∧ bat s p = 92 ∧ byteF t p = (0, p, 42)) := by
  by_cases hq : (byteF s p).2.1 ≤ n
  · exact .inl ⟨byteF_agr hn (by omega) hb h0 hq, hq⟩
  · refine .inr ?_
    by_cases hpn : p < n
    · refine .inr ?_
      have hs := byteF_strict h0
      have e := hb p hpn
      unfold byteF at h0 hq ⊢
      rw [if_pos hs.2] at h0 hq
      rw [if_pos (by omega)]
      unfold sayF at h0 hq ⊢
      rw [e]
      by_cases h2 : bat s p = 92
      · rw [if_pos h2] at h0 hq ⊢
        exact ⟨hpn, h2, escF_cut hm hb h0 (by omega)⟩
      · rw [if_neg h2] at h0 hq
        by_cases h3 : barred (bat s p)
        · rw [if_pos h3] at h0; cases h0
        · rw [if_neg h3] at hq; dsimp only at hq; omega
    · refine .inl ?_
      unfold byteF
      rw [if_neg (by omega)]
theorem itemF_no {s : ByteArray} {b p : Nat} (h : (itemF s b p).2.2.2.2 = 0) : (byteF s p).2.2 = 0 := by
  by_cases h0 : (byteF s p).2.2 = 0
  · exact h0
  · unfold itemF at h
    rw [if_neg h0] at h
    exact h
theorem itemF_strict {s : ByteArray} {b p : Nat} (h : (itemF s b p).2.2.2.2 = 0) : p < (itemF s b p).2.2.1 ∧ (byteF s p).2.1 ≤ (itemF s b p).2.2.1 := by
  have h0 := itemF_no h
  have h1 := byteF_strict h0
  unfold itemF
  rw [if_pos h0]
  by_cases h2 : (byteF s p).2.1 < s.size ∧ bat s (byteF s p).2.1 = 45
  · rw [if_pos h2]
    have h3 := byteF_next s ((byteF s p).2.1 + 1) (by omega)
    split <;> (dsimp only; omega)
  · rw [if_neg h2]
    dsimp only
    omega
theorem itemF_agr {s t : ByteArray} {b p n : Nat} (hn : n ≤ s.size) (hm : n ≤ t.size) (hb : ∀ i, i < n → bat t i = bat s i) (h : (itemF s b p).2.2.2.2 = 0) (hq : (itemF s b p).2.2.1 < n) : itemF t b p = itemF s b p := by
  have h0 := itemF_no h
  have hs := itemF_strict h
  have e := byteF_agr hn hm hb h0 (by omega)
  have eb := hb (byteF s p).2.1 (by omega)
  have hqn : (byteF s p).2.1 < n := by omega
  unfold itemF at h hq ⊢
  rw [e]
  rw [if_pos h0] at h hq ⊢
  rw [if_pos h0]
  by_cases h2 : (byteF s p).2.1 < s.size ∧ bat s (byteF s p).2.1 = 45
  · rw [if_pos h2] at h hq ⊢
    rw [if_pos (show (byteF s p).2.1 < t.size ∧ bat t (byteF s p).2.1 = 45 from ⟨by omega, by rw [eb]; exact h2.2⟩)]
    by_cases h3 : (byteF s ((byteF s p).2.1 + 1)).2.2 = 0 ∧ (byteF s ((byteF s p).2.1 + 1)).1 < (byteF s p).1
    · rw [if_pos h3] at h; cases h
    · rw [if_neg h3] at h hq
      dsimp only at h hq
      rw [byteF_agr hn hm hb h (by omega)]
  · rw [if_neg h2]
    rw [if_neg (show ¬ ((byteF s p).2.1 < t.size ∧ bat t (byteF s p).2.1 = 45) from fun h3 => h2 ⟨by omega, by rw [← eb]; exact h3.2⟩)]
theorem itemF_or {s t : ByteArray} {b p n : Nat} (hn : n ≤ s.size) (hm : t.size = n) (hb : ∀ i, i < n → bat t i = bat s i) (hp : p ≤ n) (h : (itemF s b p).2.2.2.2 = 0) :
    (itemF t b p = itemF s b p ∧ (itemF s b p).2.2.1 ≤ n) ∨ (∃ x y r, itemF t b p = (x, y, r, b, 41)) ∨ (∃ x y r q, p ≤ q ∧ q < n ∧ bat s q = 92 ∧ itemF t b p = (x, y, r, q, 42)) ∨ (∃ x y, itemF t b p = (x, y, n, 0, 0)) := by
  have h0 := itemF_no h
  have h1 := byteF_strict h0
  rcases byteF_or hn hm hb hp h0 with ⟨e, hq⟩ | e | ⟨hpn, h92, e⟩
  · have et : (byteF t p).2.2 = 0 := by rw [e]; exact h0
    by_cases hqn : (byteF s p).2.1 < n
    · have eb := hb (byteF s p).2.1 hqn
      by_cases h2 : (byteF s p).2.1 < s.size ∧ bat s (byteF s p).2.1 = 45
      · have h2t : (byteF s p).2.1 < t.size ∧ bat t (byteF s p).2.1 = 45 := ⟨by omega, by rw [eb]; exact h2.2⟩
        have hc : ¬ ((byteF s ((byteF s p).2.1 + 1)).2.2 = 0 ∧ (byteF s ((byteF s p).2.1 + 1)).1 < (byteF s p).1) := fun h3 => by
          unfold itemF at h
          rw [if_pos h0, if_pos h2, if_pos h3] at h
          cases h
        have hS : itemF s b p = ((byteF s p).1, (byteF s ((byteF s p).2.1 + 1)).1, (byteF s ((byteF s p).2.1 + 1)).2.1, plc b ((byteF s p).2.1 + 1) (byteF s ((byteF s p).2.1 + 1)).2.2, (byteF s ((byteF s p).2.1 + 1)).2.2) := by
          unfold itemF
          rw [if_pos h0, if_pos h2, if_neg hc]
        rw [hS] at h
        dsimp only at h
        rcases byteF_or hn hm hb (show (byteF s p).2.1 + 1 ≤ n by omega) h with ⟨e2, hr⟩ | e2 | ⟨hpn, h92, e2⟩
        · refine .inl ⟨?_, by rw [hS]; exact hr⟩
          rw [hS]
          unfold itemF
          rw [e, if_pos h0, if_pos h2t, e2, if_neg hc]
        · refine .inr (.inl ⟨(byteF s p).1, 0, (byteF s p).2.1 + 1, ?_⟩)
          unfold itemF
          rw [e, if_pos h0, if_pos h2t, e2, if_neg (fun h3 => by cases h3.1)]
          rfl
        · refine .inr (.inr (.inl ⟨(byteF s p).1, 0, (byteF s p).2.1 + 1, (byteF s p).2.1 + 1, by omega, hpn, h92, ?_⟩))
          unfold itemF
          rw [e, if_pos h0, if_pos h2t, e2, if_neg (fun h3 => by cases h3.1)]
          rfl
      · have h2t : ¬ ((byteF s p).2.1 < t.size ∧ bat t (byteF s p).2.1 = 45) := fun h3 => h2 ⟨by omega, by rw [← eb]; exact h3.2⟩
        have hS : itemF s b p = ((byteF s p).1, (byteF s p).1, (byteF s p).2.1, 0, 0) := by
          unfold itemF
          rw [if_pos h0, if_neg h2]
        refine .inl ⟨?_, by rw [hS]; exact hq⟩
        rw [hS]
        unfold itemF
        rw [e, if_pos h0, if_neg h2t]
    · refine .inr (.inr (.inr ⟨(byteF s p).1, (byteF s p).1, ?_⟩))
      unfold itemF
      rw [e, if_pos h0, if_neg (fun h3 => by omega), show (byteF s p).2.1 = n by omega]
  · refine .inr (.inl ⟨0, 0, p, ?_⟩)
    unfold itemF
    rw [e, if_neg (by simp)]
    rfl
  · refine .inr (.inr (.inl ⟨0, 0, p, p, Nat.le_refl _, hpn, h92, ?_⟩))
    unfold itemF
    rw [e, if_neg (by simp)]
    rfl
theorem itemsF_good {s t : ByteArray} {b n : Nat} (hn : n ≤ s.size) (hm : n ≤ t.size) (hb : ∀ i, i < n → bat t i = bat s i) :
    ∀ (k p : Nat) (l L : List (Nat × Nat)) (m pl : Nat), itemsF s b k p l = (L, m, pl, 0) → p ≤ s.size → p < m ∧ m ≤ s.size ∧ pl = 0 ∧ (m ≤ n → ∀ k', m - p ≤ k' → itemsF t b k' p l = (L, m, pl, 0))
  | 0, p, l, L, m, pl, h, hp => by simp [itemsF] at h
  | k + 1, p, l, L, m, pl, h, hp => by
    rw [itemsF] at h
    by_cases h1 : p < s.size ∧ bat s p = 93
    · rw [if_pos h1] at h
      simp only [Prod.mk.injEq] at h
      obtain ⟨rfl, rfl, rfl, -⟩ := h
      refine ⟨by omega, by omega, rfl, fun hmn k' hk => ?_⟩
      obtain ⟨j, rfl⟩ : ∃ j, k' = j + 1 := ⟨k' - 1, by omega⟩
      rw [itemsF, if_pos ⟨by omega, by rw [hb p (by omega)]; exact h1.2⟩]
    · rw [if_neg h1] at h
      by_cases h2 : (itemF s b p).2.2.2.2 = 0
      · rw [if_pos h2] at h
        have hs := itemF_strict h2
        have hx := itemF_next s b p hp
        have ih := itemsF_good hn hm hb k _ _ L m pl h hx.2
        refine ⟨by omega, ih.2.1, ih.2.2.1, fun hmn k' hk => ?_⟩
        obtain ⟨j, rfl⟩ : ∃ j, k' = j + 1 := ⟨k' - 1, by omega⟩
        have ea := itemF_agr hn hm hb h2 (by omega)
        rw [itemsF, if_neg (fun h3 => h1 ⟨by omega, by rw [← hb p (by omega)]; exact h3.2⟩), ea, if_pos h2]
        exact ih.2.2.2 hmn j (by omega)
      · rw [if_neg h2] at h
        simp only [Prod.mk.injEq] at h
        exact absurd h.2.2.2 h2
theorem itemsF_41 {t : ByteArray} {b k : Nat} {l : List (Nat × Nat)} : itemsF t b (k + 1) t.size l = ([], 0, b, 41) := by
  have e : byteF t t.size = (0, t.size, 41) := by unfold byteF; rw [if_neg (by omega)]
  have ei : itemF t b t.size = (0, 0, t.size, b, 41) := by
    unfold itemF
    rw [e, if_neg (by simp)]
    rfl
  rw [itemsF, if_neg (fun h => by omega), ei, if_neg (by simp)]
theorem itemsF_cut {s t : ByteArray} {b n : Nat} (hn : n ≤ s.size) (hm : t.size = n) (hb : ∀ i, i < n → bat t i = bat s i) :
    ∀ (k p : Nat) (l L : List (Nat × Nat)) (m pl : Nat), itemsF s b k p l = (L, m, pl, 0) → n < m → p ≤ n → 1 ≤ p → ∀ k', n - p < k' →
      ∃ pl' c', itemsF t b k' p l = ([], 0, pl', c') ∧ (c' = 41 ∧ pl' = b ∨ c' = 42 ∧ 0 < pl' ∧ pl' < n ∧ bat s pl' = 92)
  | 0, p, l, L, m, pl, h, hnm, hp, h1p, k', hk => by simp [itemsF] at h
  | k + 1, p, l, L, m, pl, h, hnm, hp, h1p, k', hk => by
    obtain ⟨j, rfl⟩ : ∃ j, k' = j + 1 := ⟨k' - 1, by omega⟩
    rw [itemsF] at h
    by_cases hpn : p = n
    · obtain rfl : p = t.size := by omega
      exact ⟨_, _, itemsF_41, .inl ⟨rfl, rfl⟩⟩
    · by_cases h1 : p < s.size ∧ bat s p = 93
      · rw [if_pos h1] at h
        simp only [Prod.mk.injEq] at h
        omega
      · rw [if_neg h1] at h
        by_cases h2 : (itemF s b p).2.2.2.2 = 0
        · rw [if_pos h2] at h
          have hs := itemF_strict h2
          have ht : ¬ (p < t.size ∧ bat t p = 93) := fun h3 => h1 ⟨by omega, by rw [← hb p (by omega)]; exact h3.2⟩
          rcases itemF_or hn hm hb hp h2 with ⟨e, hr⟩ | ⟨x, y, r, e⟩ | ⟨x, y, r, q, hpq, hqn, h92, e⟩ | ⟨x, y, e⟩
          · obtain ⟨pl', c', h3, h4⟩ := itemsF_cut hn hm hb k _ _ L m pl h hnm hr (by omega) j (by omega)
            refine ⟨pl', c', ?_, h4⟩
            rw [itemsF, if_neg ht, e, if_pos h2]
            exact h3
          · refine ⟨b, 41, ?_, .inl ⟨rfl, rfl⟩⟩
            rw [itemsF, if_neg ht, e, if_neg (by simp)]
          · refine ⟨q, 42, ?_, .inr ⟨rfl, by omega, hqn, h92⟩⟩
            rw [itemsF, if_neg ht, e, if_neg (by simp)]
          · obtain ⟨i, rfl⟩ : ∃ i, j = i + 1 := ⟨j - 1, by omega⟩
            refine ⟨b, 41, ?_, .inl ⟨rfl, rfl⟩⟩
            rw [itemsF, if_neg ht, e, if_pos rfl, ← hm]
            exact itemsF_41
        · rw [if_neg h2] at h
          simp only [Prod.mk.injEq] at h
          exact absurd h.2.2.2 h2
/-- What is told of a text's beginning: a class and its end, or a fault. -/
theorem parseF_0 (s : ByteArray) : (∃ L, 0 < s.size ∧ bat s 0 = 91 ∧ itemsF s 0 (s.size + 1) (if 0 + 1 < s.size ∧ bat s (0 + 1) = 94 then 0 + 2 else 0 + 1) [] = (L, (parseF s 0).2.1, 0, 0) ∧
      parseF s 0 = (if 0 + 1 < s.size ∧ bat s (0 + 1) = 94 then (Cls.ofFn (inRanges L)).not else Cls.ofFn (inRanges L), (parseF s 0).2.1, 0, 0) ∧ 2 ≤ (parseF s 0).2.1 ∧ (parseF s 0).2.1 ≤ s.size) ∨
    ∃ pl c, c ≠ 0 ∧ parseF s 0 = (Cls.none, 0, pl, c) := by
  by_cases h : 0 < s.size ∧ bat s 0 = 91
  · obtain ⟨⟨L, m, pl, c⟩, hI⟩ : ∃ r, r = itemsF s 0 (s.size + 1) (if 0 + 1 < s.size ∧ bat s (0 + 1) = 94 then 0 + 2 else 0 + 1) [] := ⟨_, rfl⟩
    have e : parseF s 0 = if c = 0 then (if 0 + 1 < s.size ∧ bat s (0 + 1) = 94 then (Cls.ofFn (inRanges L)).not else Cls.ofFn (inRanges L), m, 0, 0) else (Cls.none, 0, pl, c) := by
      unfold parseF
      rw [if_pos h]
      dsimp only
      rw [← hI]
    by_cases hc : c = 0
    · subst hc
      rw [if_pos rfl] at e
      have hq : (if 0 + 1 < s.size ∧ bat s (0 + 1) = 94 then 0 + 2 else 0 + 1) ≤ s.size := by split <;> omega
      have hq1 : 1 ≤ (if 0 + 1 < s.size ∧ bat s (0 + 1) = 94 then 0 + 2 else 0 + 1) := by split <;> omega
      have hg := itemsF_good (Nat.le_refl s.size) (Nat.le_refl s.size) (fun _ _ => rfl) _ _ _ _ _ _ hI.symm hq
      obtain rfl := hg.2.2.1
      refine .inl ⟨L, h.1, h.2, ?_, ?_, ?_, ?_⟩
      · rw [e]; exact hI.symm
      · rw [e]
      · rw [e]; dsimp only; omega
      · rw [e]; exact hg.2.1
    · rw [if_neg hc] at e
      exact .inr ⟨pl, c, hc, e⟩
  · exact .inr ⟨0, 30, by decide, parseF_no h⟩
theorem parseF_same {s t : ByteArray} (h0 : (parseF s 0).2.2.2 = 0) (hm : (parseF s 0).2.1 ≤ t.size) (hb : ∀ i, i < (parseF s 0).2.1 → bat t i = bat s i) : parseF t 0 = parseF s 0 := by
  rcases parseF_0 s with ⟨L, h1, h2, h3, h4, h5, h6⟩ | ⟨pl, c, hc, e⟩
  · obtain ⟨m, hmm⟩ : ∃ m, m = (parseF s 0).2.1 := ⟨_, rfl⟩
    rw [← hmm] at hm hb h3 h4 h5 h6
    have hq : (if 0 + 1 < s.size ∧ bat s (0 + 1) = 94 then 0 + 2 else 0 + 1) ≤ s.size := by split <;> omega
    have hg := (itemsF_good h6 hm hb _ _ _ _ _ _ h3 hq).2.2.2 (Nat.le_refl _) (t.size + 1) (by omega)
    have eo : (0 + 1 < t.size ∧ bat t (0 + 1) = 94) ↔ (0 + 1 < s.size ∧ bat s (0 + 1) = 94) := by rw [hb (0 + 1) (by omega)]; constructor <;> intro h <;> exact ⟨by omega, h.2⟩
    rw [h4]
    unfold parseF
    rw [if_pos ⟨by omega, by rw [hb 0 (by omega)]; exact h2⟩]
    dsimp only
    simp only [eo]
    rw [hg, if_pos rfl]
  · rw [e] at h0
    exact absurd h0 hc
theorem parseF_cut {s t : ByteArray} (h0 : (parseF s 0).2.2.2 = 0) (hm : t.size < (parseF s 0).2.1) (hb : ∀ i, i < t.size → bat t i = bat s i) :
    (t.size = 0 ∧ parseF t 0 = (Cls.none, 0, 0, 30)) ∨ (0 < t.size ∧ ∃ pl c, parseF t 0 = (Cls.none, 0, pl, c) ∧ (c = 41 ∧ pl = 0 ∨ c = 42 ∧ 0 < pl ∧ pl < t.size ∧ bat s pl = 92)) := by
  rcases parseF_0 s with ⟨L, h1, h2, h3, h4, h5, h6⟩ | ⟨pl, c, hc, e⟩
  · by_cases hz : t.size = 0
    · exact .inl ⟨hz, parseF_no (by omega)⟩
    · refine .inr ⟨by omega, ?_⟩
      have h91 : 0 < t.size ∧ bat t 0 = 91 := ⟨by omega, by rw [hb 0 (by omega)]; exact h2⟩
      have key : ∃ pl c, itemsF t 0 (t.size + 1) (if 0 + 1 < t.size ∧ bat t (0 + 1) = 94 then 0 + 2 else 0 + 1) [] = ([], 0, pl, c) ∧ (c = 41 ∧ pl = 0 ∨ c = 42 ∧ 0 < pl ∧ pl < t.size ∧ bat s pl = 92) := by
        by_cases h1t : t.size = 1
        · rw [if_neg (by omega)]
          have := @itemsF_41 t 0 t.size []
          rw [h1t] at this
          exact ⟨_, _, by rw [h1t]; exact this, .inl ⟨rfl, rfl⟩⟩
        · have eo : (0 + 1 < t.size ∧ bat t (0 + 1) = 94) ↔ (0 + 1 < s.size ∧ bat s (0 + 1) = 94) := by rw [hb (0 + 1) (by omega)]; constructor <;> intro h <;> exact ⟨by omega, h.2⟩
          simp only [eo]
          refine itemsF_cut (by omega) rfl hb _ _ _ _ _ _ h3 hm ?_ ?_ _ ?_
          · split <;> omega
          · split <;> omega
          · omega
      obtain ⟨pl, c, hi, hp⟩ := key
      refine ⟨pl, c, ?_, hp⟩
      unfold parseF
      rw [if_pos h91]
      dsimp only
      rw [hi, if_neg (by dsimp only; rcases hp with h | h <;> omega)]
  · rw [e] at h0
    exact absurd h0 hc
end Go.Proofs.Ytachpdeejificaa
set_option linter.unusedVariables false
set_option linter.unusedSimpArgs false
namespace Go.Proofs.Ytachpdeejificaa.P
open Go.RowKit Go.Proofs.YtachpdeejificaaW.PrintWords Go.Proofs.YtachpdeejificaaW.PrintLast
theorem u64_pos {n : Int} (h0 : 0 ≤ n) (h1 : n ≤ 18446744073709551615) : IntKind.u64.wrap n = n := by rw [IntKind.wrap_u64]; omega
theorem u64_neg {n : Int} (h0 : n < 0) (h1 : -18446744073709551616 ≤ n) : IntKind.u64.wrap n = n + 18446744073709551616 := by rw [IntKind.wrap_u64]; omega
theorem works_f' (k : Nat) (hk : 60 ≤ k) : dowellaw03_works.f k = some true := at_rounds dowellaw03_works.mono hk (by kernel_rfl)
theorem cuts_bad (k : Nat) (a0 a1 : ByteArray) (a2 pl c : Int) (hw : dowellaw03_works.f k = some true) (h : class_Parse.f a0 0 = some (0, 0, 0, 0, 0, pl, c)) (hc : c ≠ 0) : dowellaw03_ClassCuts.f k a0 a1 a2 = some true := by
  have e : (!(pl == 0) || !(c == 0)) = true := by simp [hc]
  unfold dowellaw03_ClassCuts.f
  rw [hw, Option.bind_some, if_pos rfl, h, Option.bind_some]
  dsimp only
  rw [if_pos e, if_pos rfl]
  rfl
theorem cuts_j1 (k : Nat) (a0 : ByteArray) (a2 n kk pl c : Int) (hn : IntKind.u64.wrap n ≠ 0) (hk : wrap64 (Int.tmod (IntKind.u64.wrap a2) (IntKind.u64.wrap n)) = kk) (h0 : 0 ≤ kk) (h1 : kk ≤ (a0.size : Int))
    (h : class_Parse.f (a0.extract 0 kk.toNat) 0 = some (0, 0, 0, 0, 0, pl, c)) (hp : (kk = 0 ∧ pl = 0 ∧ c = 30) ∨ (kk ≠ 0 ∧ ((c = 41 ∧ pl = 0) ∨ (c = 42 ∧ 0 < pl ∧ pl < kk ∧ bt a0 pl = 92)))) :
    dowellaw03_ClassCuts.j1 (k + 1) a0 a2 n false = some true := by
  rw [dowellaw03_ClassCuts.j1]
  rw [if_neg (by decide), if_neg hn]
  rw [hk]
  rw [if_pos h0, if_pos h1, h, Option.bind_some]
  dsimp only
  rcases hp with ⟨e0, rfl, rfl⟩ | ⟨e0, hp⟩
  · rw [if_pos e0, if_pos rfl]; rfl
  · rw [if_neg e0, if_pos rfl]
    rcases hp with ⟨rfl, rfl⟩ | ⟨rfl, hp0, hp1, hb⟩
    · rw [if_pos (by decide)]
    · have e1 : (pl == 0 && ((42 : Int) == 41)) = false := by simp
      rw [e1, if_neg (by decide), if_pos rfl, if_pos hp0, if_pos hp1, if_pos (by omega), if_pos (by omega), hb]
      rfl
theorem cuts_good (k : Nat) (a0 a1 : ByteArray) (a2 c0 c1 c2 c3 n kk pl c : Int) (hw : dowellaw03_works.f (k + 2) = some true) (h : class_Parse.f a0 0 = some (c0, c1, c2, c3, n, 0, 0)) (hn2 : 2 ≤ n) (hns : n ≤ (a0.size : Int))
    (hsz : (a0.extract 0 n.toNat).size + a1.size ≤ 9223372036854775807) (hs : class_Parse.f (a0.extract 0 n.toNat ++ a1) 0 = some (c0, c1, c2, c3, n, 0, 0))
    (hn : IntKind.u64.wrap n ≠ 0) (hk : wrap64 (Int.tmod (IntKind.u64.wrap a2) (IntKind.u64.wrap n)) = kk) (h0 : 0 ≤ kk) (h1 : kk ≤ (a0.size : Int))
    (hc : class_Parse.f (a0.extract 0 kk.toNat) 0 = some (0, 0, 0, 0, 0, pl, c)) (hp : (kk = 0 ∧ pl = 0 ∧ c = 30) ∨ (kk ≠ 0 ∧ ((c = 41 ∧ pl = 0) ∨ (c = 42 ∧ 0 < pl ∧ pl < kk ∧ bt a0 pl = 92)))) :
    dowellaw03_ClassCuts.f (k + 2) a0 a1 a2 = some true := by
  have j1 := cuts_j1 k a0 a2 n kk pl c hn hk h0 h1 hc hp
  have e : ((!((0 : Int) == 0)) || !((0 : Int) == 0)) = false := by decide
  have ec : (!(c0 == c0) || (!(c1 == c1) || (!(c2 == c2) || (!(c3 == c3))))) = false := by simp
  have hd : decide (n > (a0.size : Int)) = false := decide_eq_false (by omega)
  unfold dowellaw03_ClassCuts.f
  rw [hw, Option.bind_some, if_pos rfl, h, Option.bind_some]
  dsimp only
  rw [e, if_neg (by decide), if_neg (by omega), hd, dowellaw03_ClassCuts.j0]
  rw [if_neg (by decide), if_pos (by omega), if_pos hns, if_pos hsz, hs, Option.bind_some]
  dsimp only
  rw [ec, if_neg (by decide), if_pos rfl, e]
  exact j1
theorem parse_at {s : ByteArray} (hs : s.size ≤ smallN) : class_Parse.f s 0 = some (((parseF s 0).1.c0 : Int), ((parseF s 0).1.c1 : Int), ((parseF s 0).1.c2 : Int), ((parseF s 0).1.c3 : Int), ((parseF s 0).2.1 : Int), ((parseF s 0).2.2.1 : Int), ((parseF s 0).2.2.2 : Int)) := by
  have e : parseI s 0 = parseF s 0 := by unfold parseI; rw [if_neg (by omega)]; rfl
  unfold class_Parse.f
  rw [if_pos ⟨hs, by decide, by decide⟩, e]
theorem bat_app {a b : ByteArray} {n i : Nat} (hn : n ≤ a.size) (h : i < n) : bat (a.extract 0 n ++ b) i = bat a i := by
  unfold bat
  have e : (a.extract 0 n ++ b).data.toList = a.data.toList.take n ++ b.data.toList := by simp [ByteArray.data_append]
  rw [e, List.getD_eq_getElem?_getD, List.getD_eq_getElem?_getD, List.getElem?_append_left (by simp; omega), List.getElem?_take_of_lt h]
theorem bat_cut {a : ByteArray} {n i : Nat} (hn : n ≤ a.size) (h : i < n) : bat (a.extract 0 n) i = bat a i := by
  unfold bat
  have e : (a.extract 0 n).data.toList = a.data.toList.take n := by simp
  rw [e, List.getD_eq_getElem?_getD, List.getD_eq_getElem?_getD, List.getElem?_take_of_lt h]
theorem bt_bat (s : ByteArray) (i : Nat) (h : i < s.size) : bt s (i : Int) = (bat s i : Int) := by
  rw [← bt_at s (i : Int) (by simpa using h), ← bat_eq s i h]
  rfl
theorem cuts_f (a0 a1 : ByteArray) (a2 : Int) (h0 : a0.size + a1.size ≤ smallN) (hx : -9223372036854775808 ≤ a2 ∧ a2 ≤ 9223372036854775807) : dowellaw03_ClassCuts.f 100 a0 a1 a2 = some true := by
  have hs : a0.size ≤ smallN := by omega
  have hsm : smallN = 70368744175616 := rfl
  rcases parseF_0 a0 with ⟨L, h1, h2, h3, h4, h5, h6⟩ | ⟨pl, c, hc, e⟩
  · obtain ⟨n, hn⟩ : ∃ n, n = (parseF a0 0).2.1 := ⟨_, rfl⟩
    have hP := parse_at hs
    have c0 : (parseF a0 0).2.2.2 = 0 := by rw [h4]
    have p0 : (parseF a0 0).2.2.1 = 0 := by rw [h4]
    have hsz : (a0.extract 0 n).size = n := by rw [ByteArray.size_extract]; omega
    have hS : parseF (a0.extract 0 n ++ a1) 0 = parseF a0 0 := by
      refine parseF_same c0 ?_ ?_
      · rw [ByteArray.size_append, hsz, hn]; omega
      · intro i hi
        exact bat_app (by omega) (by omega)
    have hPS := parse_at (s := a0.extract 0 n ++ a1) (by rw [ByteArray.size_append, hsz]; omega)
    rw [hS] at hPS
    rw [c0, p0, ← hn] at hP hPS
    have un : IntKind.u64.wrap (n : Int) = (n : Int) := u64_pos (by omega) (by omega)
    have ua : 0 ≤ IntKind.u64.wrap a2 ∧ IntKind.u64.wrap a2 < 18446744073709551616 := by
      by_cases q : 0 ≤ a2
      · rw [u64_pos q (by omega)]; omega
      · rw [u64_neg (by omega) (by omega)]; omega
    obtain ⟨v, hv⟩ : ∃ v : Nat, IntKind.u64.wrap a2 = (v : Int) := ⟨(IntKind.u64.wrap a2).toNat, by omega⟩
    have hkk : wrap64 (Int.tmod (IntKind.u64.wrap a2) (IntKind.u64.wrap (n : Int))) = ((v % n : Nat) : Int) := by
      have hlt : v % n < n := Nat.mod_lt _ (by omega)
      have hm : Int.tmod (v : Int) (n : Int) = ((v % n : Nat) : Int) := by first | rfl | exact (Int.ofNat_tmod v n).symm | (rw [Int.tmod_eq_emod_of_nonneg (by omega)]; omega)
      rw [un, hv, hm]
      unfold wrap64
      omega
    have hlt : v % n < n := Nat.mod_lt _ (by omega)
    obtain ⟨k, hk⟩ : ∃ k, k = v % n := ⟨_, rfl⟩
    rw [← hk] at hkk hlt
    have hcsz : (a0.extract 0 k).size = k := by rw [ByteArray.size_extract]; omega
    have hC := parseF_cut (s := a0) (t := a0.extract 0 k) c0 (by rw [hcsz]; omega) (fun i hi => bat_cut (by omega) (by omega))
    have hPC := parse_at (s := a0.extract 0 k) (by omega)
    rw [hcsz] at hC
    have hex : ∃ pl c : Nat, parseF (a0.extract 0 k) 0 = (Cls.none, 0, pl, c) ∧ (((k : Int) = 0 ∧ (pl : Int) = 0 ∧ (c : Int) = 30) ∨ ((k : Int) ≠ 0 ∧ (((c : Int) = 41 ∧ (pl : Int) = 0) ∨ ((c : Int) = 42 ∧ 0 < (pl : Int) ∧ (pl : Int) < (k : Int) ∧ bt a0 (pl : Int) = 92)))) := by
      rcases hC with ⟨z, e⟩ | ⟨z, pl, c, e, hp⟩
      · exact ⟨0, 30, e, .inl ⟨by omega, rfl, rfl⟩⟩
      · refine ⟨pl, c, e, .inr ⟨by omega, ?_⟩⟩
        rcases hp with ⟨rfl, rfl⟩ | ⟨rfl, q1, q2, q3⟩
        · exact .inl ⟨rfl, rfl⟩
        · exact .inr ⟨rfl, by omega, by omega, by rw [bt_bat a0 pl (by omega), q3]; rfl⟩
    obtain ⟨pl, c, ec, hp⟩ := hex
    rw [ec] at hPC
    exact cuts_good 98 a0 a1 a2 _ _ _ _ (n : Int) (k : Int) (pl : Int) (c : Int) (works_f' _ (by omega)) hP (by omega) (by omega) (by rw [Int.toNat_natCast, hsz]; omega) (by rw [Int.toNat_natCast]; exact hPS) (by rw [un]; omega) hkk (by omega) (by omega) (by rw [Int.toNat_natCast]; exact hPC) hp
  · have hP := parse_at hs
    rw [e] at hP
    exact cuts_bad 100 a0 a1 a2 (pl : Int) (c : Int) (works_f' _ (by omega)) hP (by omega)
end Go.Proofs.Ytachpdeejificaa.P
