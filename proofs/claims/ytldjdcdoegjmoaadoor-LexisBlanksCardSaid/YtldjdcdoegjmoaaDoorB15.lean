import Derived.Test.YtldjdcdoegjmoaaDoorB10
import Derived.Test.YtldjdcdoegjmoaaDoorB14
set_option linter.unusedVariables false
namespace Go.Proofs.YtldjdcdoegjmoaaDoor
theorem escF_agr {s t : ByteArray} {p n : Nat} (hn : n ≤ s.size) (hm : n ≤ t.size) (hb : ∀ i, i < n → bat t i = bat s i) (h0 : (escF s p).2.2 = 0) (hq : (escF s p).2.1 ≤ n) : escF t p = escF s p := by
  unfold escF at h0 hq ⊢
  by_cases h1 : p + 1 < s.size
  · rw [if_pos h1] at h0 hq ⊢
    by_cases a1 : bat s (p + 1) = 116
    · rw [if_pos a1] at hq ⊢
      dsimp only at hq
      rw [if_pos (by omega), hb (p + 1) (by omega), if_pos a1]
    · rw [if_neg a1] at h0 hq ⊢
      by_cases a2 : bat s (p + 1) = 110
      · rw [if_pos a2] at hq ⊢
        dsimp only at hq
        rw [if_pos (by omega), hb (p + 1) (by omega), if_neg a1, if_pos a2]
      · rw [if_neg a2] at h0 hq ⊢
        by_cases a3 : bat s (p + 1) = 114
        · rw [if_pos a3] at hq ⊢
          dsimp only at hq
          rw [if_pos (by omega), hb (p + 1) (by omega), if_neg a1, if_neg a2, if_pos a3]
        · rw [if_neg a3] at h0 hq ⊢
          by_cases a4 : bat s (p + 1) = 92 ∨ bat s (p + 1) = 93 ∨ bat s (p + 1) = 45 ∨ bat s (p + 1) = 94 ∨ bat s (p + 1) = 39 ∨ bat s (p + 1) = 34
          · rw [if_pos a4] at hq ⊢
            dsimp only at hq
            rw [if_pos (by omega), hb (p + 1) (by omega), if_neg a1, if_neg a2, if_neg a3, if_pos a4]
          · rw [if_neg a4] at h0 hq ⊢
            by_cases a5 : bat s (p + 1) = 120 ∧ p + 3 < s.size ∧ 0 ≤ hexv (bat s (p + 2)) ∧ 0 ≤ hexv (bat s (p + 3))
            · rw [if_pos a5] at hq ⊢
              dsimp only at hq
              rw [if_pos (by omega), hb (p + 1) (by omega), hb (p + 2) (by omega), hb (p + 3) (by omega), if_neg a1, if_neg a2, if_neg a3, if_neg a4, if_pos ⟨a5.1, by omega, a5.2.2⟩]
            · rw [if_neg a5] at h0
              cases h0
  · rw [if_neg h1] at h0
    cases h0
theorem byteF_strict {s : ByteArray} {p : Nat} (h0 : (byteF s p).2.2 = 0) : p < (byteF s p).2.1 ∧ p < s.size := by
  unfold byteF at h0 ⊢
  by_cases h1 : p < s.size
  · rw [if_pos h1] at h0 ⊢
    unfold sayF at h0 ⊢
    by_cases h2 : bat s p = 92
    · rw [if_pos h2] at h0 ⊢
      refine ⟨?_, h1⟩
      unfold escF at h0 ⊢
      repeat' (split at h0)
      all_goals first | (cases h0; done) | (simp only [*, if_true, if_false, and_self]; repeat' (split)) | skip
      all_goals first | (dsimp only; omega) | (simp_all)
    · rw [if_neg h2] at h0 ⊢
      by_cases h3 : barred (bat s p)
      · rw [if_pos h3] at h0; cases h0
      · rw [if_neg h3]; exact ⟨by dsimp only; omega, h1⟩
  · rw [if_neg h1] at h0
    cases h0
theorem byteF_agr {s t : ByteArray} {p n : Nat} (hn : n ≤ s.size) (hm : n ≤ t.size) (hb : ∀ i, i < n → bat t i = bat s i) (h0 : (byteF s p).2.2 = 0) (hq : (byteF s p).2.1 ≤ n) : byteF t p = byteF s p := by
  have hs := byteF_strict h0
  have e := hb p (by omega)
  have hpt : p < t.size := by omega
  unfold byteF at h0 hq ⊢
  rw [if_pos hs.2] at h0 hq ⊢
  rw [if_pos hpt]
  unfold sayF at h0 hq ⊢
  rw [e]
  by_cases h2 : bat s p = 92
  · rw [if_pos h2] at h0 hq ⊢
    rw [if_pos h2]
    exact escF_agr hn hm hb h0 hq
  · rw [if_neg h2, if_neg h2]
theorem itemF_no {s : ByteArray} {b p : Nat} (h : (itemF s b p).2.2.2.2 = 0) : (byteF s p).2.2 = 0 := by
  by_cases h0 : (byteF s p).2.2 = 0
  · exact h0
  · unfold itemF at h
    rw [if_neg h0] at h
    exact h
theorem itemF_strict {s : ByteArray} {b p : Nat} (h : (itemF s b p).2.2.2.2 = 0) : p < (itemF s b p).2.2.1 ∧ (byteF s p).2.1 ≤ (itemF s b p).2.2.1 := by
  have h0 := itemF_no h
  have h1 := byteF_strict h0
  unfold itemF
  rw [if_pos h0]
  by_cases h2 : (byteF s p).2.1 < s.size ∧ bat s (byteF s p).2.1 = 45
  · rw [if_pos h2]
    have h3 := byteF_next s ((byteF s p).2.1 + 1) (by omega)
    split <;> (dsimp only; omega)
  · rw [if_neg h2]
    dsimp only
    omega
theorem itemF_agr {s t : ByteArray} {b p n : Nat} (hn : n ≤ s.size) (hm : n ≤ t.size) (hb : ∀ i, i < n → bat t i = bat s i) (h : (itemF s b p).2.2.2.2 = 0) (hq : (itemF s b p).2.2.1 < n) : itemF t b p = itemF s b p := by
  have h0 := itemF_no h
  have hs := itemF_strict h
  have e := byteF_agr hn hm hb h0 (by omega)
  have eb := hb (byteF s p).2.1 (by omega)
  have hqn : (byteF s p).2.1 < n := by omega
  unfold itemF at h hq ⊢
  rw [e]
  rw [if_pos h0] at h hq ⊢
  rw [if_pos h0]
  by_cases h2 : (byteF s p).2.1 < s.size ∧ bat s (byteF s p).2.1 = 45
  · rw [if_pos h2] at h hq ⊢
    rw [if_pos (show (byteF s p).2.1 < t.size ∧ bat t (byteF s p).2.1 = 45 from ⟨by omega, by rw [eb]; exact h2.2⟩)]
    by_cases h3 : (byteF s ((byteF s p).2.1 + 1)).2.2 = 0 ∧ (byteF s ((byteF s p).2.1 + 1)).1 < (byteF s p).1
    · rw [if_pos h3] at h; cases h
    · rw [if_neg h3] at h hq
      dsimp only at h hq
      rw [byteF_agr hn hm hb h (by omega)]
  · rw [if_neg h2]
    rw [if_neg (show ¬ ((byteF s p).2.1 < t.size ∧ bat t (byteF s p).2.1 = 45) from fun h3 => h2 ⟨by omega, by rw [← eb]; exact h3.2⟩)]
theorem itemsF_good {s t : ByteArray} {b n : Nat} (hn : n ≤ s.size) (hm : n ≤ t.size) (hb : ∀ i, i < n → bat t i = bat s i) :
    ∀ (k p : Nat) (l L : List (Nat × Nat)) (m pl : Nat), itemsF s b k p l = (L, m, pl, 0) → p ≤ s.size → p < m ∧ m ≤ s.size ∧ pl = 0 ∧ (m ≤ n → ∀ k', m - p ≤ k' → itemsF t b k' p l = (L, m, pl, 0))
  | 0, p, l, L, m, pl, h, hp => by simp [itemsF] at h
  | k + 1, p, l, L, m, pl, h, hp => by
    rw [itemsF] at h
    by_cases h1 : p < s.size ∧ bat s p = 93
    · rw [if_pos h1] at h
      simp only [Prod.mk.injEq] at h
      obtain ⟨rfl, rfl, rfl, -⟩ := h
      refine ⟨by omega, by omega, rfl, fun hmn k' hk => ?_⟩
      obtain ⟨j, rfl⟩ : ∃ j, k' = j + 1 := ⟨k' - 1, by omega⟩
      rw [itemsF, if_pos ⟨by omega, by rw [hb p (by omega)]; exact h1.2⟩]
    · rw [if_neg h1] at h
      by_cases h2 : (itemF s b p).2.2.2.2 = 0
      · rw [if_pos h2] at h
        have hs := itemF_strict h2
        have hx := itemF_next s b p hp
        have ih := itemsF_good hn hm hb k _ _ L m pl h hx.2
        refine ⟨by omega, ih.2.1, ih.2.2.1, fun hmn k' hk => ?_⟩
        obtain ⟨j, rfl⟩ : ∃ j, k' = j + 1 := ⟨k' - 1, by omega⟩
        have ea := itemF_agr hn hm hb h2 (by omega)
        rw [itemsF, if_neg (fun h3 => h1 ⟨by omega, by rw [← hb p (by omega)]; exact h3.2⟩), ea, if_pos h2]
        exact ih.2.2.2 hmn j (by omega)
      · rw [if_neg h2] at h
        simp only [Prod.mk.injEq] at h
        exact absurd h.2.2.2 h2
end Go.Proofs.YtldjdcdoegjmoaaDoor
set_option linter.unusedVariables false
set_option linter.unusedSimpArgs false
namespace Go.Proofs.YtldjdcdoegjmoaaDoor.P
open Go.RowKit Go.Proofs.YtldjdcdoegjmoaaDoorW.PrintWords Go.Proofs.YtldjdcdoegjmoaaDoorW.PrintLast
def kindOf (t : TV) : Int := t.1
def endOf (t : TV) : Int := t.2.2.1
def codeOf (t : TV) : Int := t.2.2.2.2.2.2.2.2.2.2.2.2
theorem code_fault (p c : Int) : codeOf (faultV p c) = c := rfl
/-- A token's end lies behind a place. -/
def Ends (s : ByteArray) (p : Nat) (t : TV) : Prop := codeOf t = 0 → kindOf t ≠ 0 → ∃ e : Nat, endOf t = (e : Int) ∧ p < e ∧ e ≤ s.size
theorem ends_fault {s : ByteArray} {p : Nat} {a c : Int} (h : c ≠ 0) : Ends s p (faultV a c) := fun h0 _ => absurd h0 h
theorem ends_mk {s : ByteArray} {p e : Nat} {t : TV} (h : endOf t = (e : Int)) (h1 : p < e) (h2 : e ≤ s.size) : Ends s p t := fun _ _ => ⟨e, h, h1, h2⟩
theorem runE_more {P : Int → Bool} {s : ByteArray} {p : Nat} (h : p < s.size) (hp : P (bt s (p : Int)) = true) : p < runE P s p := by
  rw [runE_yes h hp]
  have := runE_ge P s (p + 1)
  omega
theorem ends_word {s : ByteArray} {p : Nat} (hp : p < s.size) (hl : letterB (bt s (p : Int)) = true) : Ends s p (wordE s p) := by
  unfold wordE
  split
  · exact ends_fault (by decide)
  · have h1 := ownE_on s p ⟨hp, hl⟩
    have h2 : ownE s p ≤ nameE s p := by
      unfold nameE
      rw [if_neg (by omega)]
      exact Nat.le_trans (colE_ge s _) (numE_ge s _)
    exact ends_mk rfl (by omega) (nameE_size s p (by omega))
theorem ends_mark {s : ByteArray} {p : Nat} (hp : p < s.size) : Ends s p (markE s p) := by
  unfold markE
  split
  · exact ends_fault (by decide)
  · split
    · exact ends_fault (by decide)
    · have := ownE_ge s (p + 1)
      exact ends_mk rfl (by omega) (ownE_size s (p + 1) (by omega))
theorem numbE_le {s : ByteArray} {p n e : Nat} (h : numbE s p = some (n, e)) : p < e ∧ (p ≤ s.size → e ≤ s.size) := by
  unfold numbE at h
  split at h
  · next q =>
    simp only [Option.some.injEq, Prod.mk.injEq] at h
    obtain ⟨-, rfl⟩ := h
    exact ⟨q.1, fun hp => runE_size _ _ _ hp⟩
  · cases h
theorem ends_count {s : ByteArray} {p : Nat} (hp : p < s.size) : Ends s p (countE s p) := by
  unfold countE
  split
  · exact ends_fault (by decide)
  · next low k h =>
    have h1 := numbE_le h
    have h2 := h1.2 (by omega)
    split
    · next q =>
      split
      · next q2 => exact ends_mk rfl (by omega) (by omega)
      · split
        · exact ends_fault (by decide)
        · next high m h3 =>
          have h4 := numbE_le h3
          have h5 := h4.2 (by omega)
          split
          · exact ends_fault (by decide)
          · split
            · next q3 => exact ends_mk rfl (by omega) (by omega)
            · exact ends_fault (by decide)
    · split
      · next q => exact ends_mk rfl (by omega) (by omega)
      · exact ends_fault (by decide)
theorem ends_litEnd {s : ByteArray} {p q : Nat} {acc : List Int} (h : p < q) (hq : q < s.size) : Ends s p (litEnd s p acc q) := by
  unfold litEnd
  split
  · next h1 => exact ends_mk rfl (by omega) (by omega)
  · exact ends_mk rfl (by omega) (by omega)
theorem ends_lit {s : ByteArray} {p : Nat} : ∀ (d : Nat) (acc : List Int) (q : Nat), p < q → Ends s p (litE s p d acc q)
  | 0, acc, q, h => ends_fault (by decide)
  | d + 1, acc, q, h => by
    rw [litE]
    split
    · next h1 =>
      split
      · exact ends_litEnd h h1.1
      · split
        · split
          · exact ends_fault (by decide)
          · exact ends_lit d _ _ (by omega)
        · exact ends_lit d _ _ (by omega)
    · exact ends_fault (by decide)
theorem parseF_end {s : ByteArray} {p : Nat} (hp : p < s.size) (h : (parseF s p).2.2.2 = 0) : p < (parseF s p).2.1 ∧ (parseF s p).2.1 ≤ s.size := by
  unfold parseF at h ⊢
  split at h
  · next h1 =>
    rw [if_pos h1]
    dsimp only at h ⊢
    have key : ∀ q, p + 1 ≤ q → q ≤ s.size → (itemsF s p (s.size + 1) q []).2.2.2 = 0 → p < (itemsF s p (s.size + 1) q []).2.1 ∧ (itemsF s p (s.size + 1) q []).2.1 ≤ s.size := fun q hq1 hq2 h0 => by
      obtain ⟨L, m, pl, c, hr⟩ : ∃ L m pl c, itemsF s p (s.size + 1) q [] = (L, m, pl, c) := ⟨_, _, _, _, rfl⟩
      rw [hr] at h0 ⊢
      obtain rfl : c = 0 := h0
      have := itemsF_good (s := s) (t := s) (n := s.size) (Nat.le_refl _) (Nat.le_refl _) (fun _ _ => rfl) _ _ _ _ _ _ hr hq2
      exact ⟨by dsimp only; omega, this.2.1⟩
    by_cases ho : p + 1 < s.size ∧ bat s (p + 1) = 94
    · simp only [if_pos ho] at h ⊢
      by_cases h2 : (itemsF s p (s.size + 1) (p + 2) []).2.2.2 = 0
      · rw [if_pos h2]; exact key _ (by omega) (by omega) h2
      · rw [if_neg h2] at h; exact absurd h h2
    · simp only [if_neg ho] at h ⊢
      by_cases h2 : (itemsF s p (s.size + 1) (p + 1) []).2.2.2 = 0
      · rw [if_pos h2]; exact key _ (by omega) (by omega) h2
      · rw [if_neg h2] at h; exact absurd h h2
  · cases h
theorem ends_class {s : ByteArray} {p : Nat} (hp : p < s.size) : Ends s p (classV s p) := by
  unfold classV
  have e : parseI s (p : Int) = parseF s p := by unfold parseI; rw [if_neg (by omega), Int.toNat_natCast]
  rw [e]
  split
  · next h =>
    have := parseF_end hp (by omega)
    exact ends_mk rfl this.1 this.2
  · next h => exact ends_fault h
theorem ends_tok {s : ByteArray} {p : Nat} : Ends s p (tokE s p) := by
  unfold tokE
  split
  · next hp =>
    split
    · exact ends_mk rfl (by omega) (by omega)
    · split
      · next h => exact ends_word hp h
      · split
        · exact ends_mk rfl (by omega) (by omega)
        · split
          · exact ends_count hp
          · split
            · exact ends_lit _ _ _ (by omega)
            · split
              · exact ends_class hp
              · split
                · exact ends_mark hp
                · exact ends_fault (by decide)
  · exact fun _ h => absurd rfl h
theorem ends_next {s : ByteArray} {p : Nat} (hp : p ≤ s.size) : Ends s p (nextE s (p : Int)) := by
  unfold nextE
  split
  · exact ends_fault (by decide)
  · rw [if_neg (by omega), Int.toNat_natCast]
    have hb := blankE_le s (s.size + 1) p hp
    intro h0 h1
    obtain ⟨e, h2, h3, h4⟩ := ends_tok h0 h1
    exact ⟨e, h2, by omega, h4⟩
/-- All pairs from a place on. -/
def pairsE (s : ByteArray) : Nat → Nat → List TV
  | 0, _ => []
  | d + 1, p => if codeOf (nextE s (p : Int)) = 0 ∧ kindOf (nextE s (p : Int)) ≠ 0 then nextE s (p : Int) :: pairsE s d (endOf (nextE s (p : Int))).toNat else [nextE s (p : Int)]
theorem pairsE_fuel (s : ByteArray) : ∀ (d d' p : Nat), p ≤ s.size → s.size < p + d → s.size < p + d' → pairsE s d p = pairsE s d' p
  | 0, d', p, h, h1, h2 => by omega
  | d + 1, 0, p, h, h1, h2 => by omega
  | d + 1, d' + 1, p, h, h1, h2 => by
    rw [pairsE, pairsE]
    split
    · next q =>
      obtain ⟨e, h3, h4, h5⟩ := ends_next h q.1 q.2
      rw [h3, Int.toNat_natCast, pairsE_fuel s d d' e h5 (by omega) (by omega)]
    · rfl
/-- What lexis.Each goes through. -/
def allE (s : ByteArray) (p : Nat) : List TV := pairsE s (s.size + 1) p
theorem allE_on {s : ByteArray} {p : Nat} (hp : p ≤ s.size) (h0 : codeOf (nextE s (p : Int)) = 0) (h1 : kindOf (nextE s (p : Int)) ≠ 0) : ∃ e : Nat, endOf (nextE s (p : Int)) = (e : Int) ∧ p < e ∧ e ≤ s.size ∧ allE s p = nextE s (p : Int) :: allE s e := by
  obtain ⟨e, h3, h4, h5⟩ := ends_next hp h0 h1
  refine ⟨e, h3, h4, h5, ?_⟩
  unfold allE
  rw [pairsE, if_pos ⟨h0, h1⟩, h3, Int.toNat_natCast, pairsE_fuel s s.size (s.size + 1) e h5 (by omega) (by omega)]
theorem allE_off {s : ByteArray} {p : Nat} (h : ¬ (codeOf (nextE s (p : Int)) = 0 ∧ kindOf (nextE s (p : Int)) ≠ 0)) : allE s p = [nextE s (p : Int)] := by
  unfold allE
  rw [pairsE, if_neg h]
theorem pairsE_last (s : ByteArray) : ∀ (d p : Nat) (pre : List TV) (t : TV), pre ++ [t] <+: pairsE s d p → codeOf t ≠ 0 → pairsE s d p = pre ++ [t]
  | 0, p, pre, t, h, hc => by rw [pairsE] at h; have := h.length_le; simp at this
  | d + 1, p, pre, t, h, hc => by
    rw [pairsE] at h ⊢
    split at h
    · next q =>
      rw [if_pos q]
      cases pre with
      | nil =>
        have := List.cons_prefix_cons.1 h
        rw [this.1] at hc
        exact absurd q.1 hc
      | cons a pre =>
        have h2 := List.cons_prefix_cons.1 h
        rw [pairsE_last s d _ pre t h2.2 hc, ← h2.1]; rfl
    · next q =>
      rw [if_neg q]
      cases pre with
      | nil =>
        have := List.cons_prefix_cons.1 h
        rw [this.1]; rfl
      | cons a pre =>
        have := h.length_le
        simp at this
theorem allE_last {s : ByteArray} {pre : List TV} {t : TV} (h : pre ++ [t] <+: allE s 0) (hc : codeOf t ≠ 0) : allE s 0 = pre ++ [t] := pairsE_last s _ _ pre t h hc
theorem pairsE_len (s : ByteArray) : ∀ (d p : Nat), (pairsE s d p).length ≤ d
  | 0, p => by simp [pairsE]
  | d + 1, p => by
    rw [pairsE]
    split
    · have := pairsE_len s d (endOf (nextE s (p : Int))).toNat
      simp only [List.length_cons]; omega
    · simp
theorem allE_len (s : ByteArray) : (allE s 0).length ≤ 65537 := by
  by_cases h : s.size > 65536
  · rw [allE_off]
    · simp
    · unfold nextE
      rw [if_pos h]
      exact fun q => absurd q.1 (by decide)
  · have := pairsE_len s (s.size + 1) 0
    unfold allE
    omega
theorem allE_ne (s : ByteArray) : allE s 0 ≠ [] := by
  by_cases h : codeOf (nextE s ((0 : Nat) : Int)) = 0 ∧ kindOf (nextE s ((0 : Nat) : Int)) ≠ 0
  · obtain ⟨e, _, _, _, h4⟩ := allE_on (Nat.zero_le _) h.1 h.2
    rw [h4]; simp
  · rw [allE_off h]; simp
end Go.Proofs.YtldjdcdoegjmoaaDoor.P
set_option linter.unusedVariables false
set_option linter.unusedSimpArgs false
namespace Go.Proofs.YtldjdcdoegjmoaaDoor.P
open Go.RowKit Go.Proofs.YtldjdcdoegjmoaaDoorW.PrintWords Go.Proofs.YtldjdcdoegjmoaaDoorW.PrintLast
def atOf (t : TV) : Int := t.2.2.2.2.2.2.2.2.2.2.2.1
/-- A pair is a token, or a fault. -/
def Shaped (t : TV) : Prop := (∃ p c, c ≠ 0 ∧ t = faultV p c) ∨ (atOf t = 0 ∧ codeOf t = 0)
theorem sh_f {p c : Int} (h : c ≠ 0) : Shaped (faultV p c) := .inl ⟨p, c, h, rfl⟩
theorem sh_lit {s : ByteArray} {p : Nat} : ∀ (d : Nat) (acc : List Int) (q : Nat), Shaped (litE s p d acc q)
  | 0, acc, q => sh_f (by decide)
  | d + 1, acc, q => by
    rw [litE]
    split
    · split
      · unfold litEnd; split <;> exact .inr ⟨rfl, rfl⟩
      · split
        · split
          · exact sh_f (by decide)
          · exact sh_lit d _ _
        · exact sh_lit d _ _
    · exact sh_f (by decide)
theorem sh_count {s : ByteArray} {p : Nat} : Shaped (countE s p) := by
  unfold countE
  repeat' split
  all_goals first | exact sh_f (by decide) | exact .inr ⟨rfl, rfl⟩
theorem sh_next (s : ByteArray) (a : Int) : Shaped (nextE s a) := by
  unfold nextE
  split
  · exact sh_f (by decide)
  · split
    · exact sh_f (by decide)
    · unfold tokE
      split
      · split
        · exact .inr ⟨rfl, rfl⟩
        · split
          · unfold wordE; split; exact sh_f (by decide); exact .inr ⟨rfl, rfl⟩
          · split
            · exact .inr ⟨rfl, rfl⟩
            · split
              · exact sh_count
              · split
                · exact sh_lit _ _ _
                · split
                  · unfold classV
                    split
                    · exact .inr ⟨rfl, rfl⟩
                    · next h => exact sh_f h
                  · split
                    · unfold markE
                      split
                      · exact sh_f (by decide)
                      · split
                        · exact sh_f (by decide)
                        · exact .inr ⟨rfl, rfl⟩
                    · exact sh_f (by decide)
      · exact .inr ⟨rfl, rfl⟩
theorem sh_pairs (s : ByteArray) : ∀ (d p : Nat), ∀ t ∈ pairsE s d p, Shaped t
  | 0, p, t, h => by simp [pairsE] at h
  | d + 1, p, t, h => by
    rw [pairsE] at h
    split at h
    · rcases List.mem_cons.1 h with rfl | h
      · exact sh_next _ _
      · exact sh_pairs s d _ t h
    · rw [List.mem_singleton.1 h]; exact sh_next _ _
theorem good_at {t : TV} (h : Shaped t) (hc : codeOf t = 0) : atOf t = 0 := by
  rcases h with ⟨p, c, h1, rfl⟩ | h
  · exact absurd hc h1
  · exact h.1
def goodsE (L : List TV) : List TV := L.filter fun t => codeOf t == 0
def fltE (L : List TV) : Int × Int := match L.getLast? with | some t => (atOf t, codeOf t) | none => (0, 0)
theorem pairs_split (s : ByteArray) : ∀ (d p : Nat), p ≤ s.size → s.size < p + d → ∃ L t, pairsE s d p = L ++ [t] ∧ ∀ u ∈ L, codeOf u = 0
  | 0, p, hp, hd => by omega
  | d + 1, p, hp, hd => by
    rw [pairsE]
    split
    · next q =>
      obtain ⟨e, h3, h4, h5⟩ := ends_next hp q.1 q.2
      obtain ⟨L, t, h, hL⟩ := pairs_split s d e h5 (by omega)
      refine ⟨nextE s (p : Int) :: L, t, by rw [h3, Int.toNat_natCast, h]; rfl, fun u hu => ?_⟩
      rcases List.mem_cons.1 hu with rfl | hu
      · exact q.1
      · exact hL u hu
    · exact ⟨[], _, rfl, fun u hu => by simp at hu⟩
theorem filter_all {L : List TV} (h : ∀ u ∈ L, codeOf u = 0) : goodsE L = L := by
  unfold goodsE
  rw [List.filter_eq_self]
  intro u hu
  simp [h u hu]
theorem all_split (s : ByteArray) : ((fltE (allE s 0)).2 = 0 ∧ goodsE (allE s 0) = allE s 0 ∧ ∀ u ∈ allE s 0, codeOf u = 0 ∧ atOf u = 0) ∨
    (∃ L p c, c ≠ 0 ∧ allE s 0 = L ++ [faultV p c] ∧ goodsE (allE s 0) = L ∧ (fltE (allE s 0)) = (p, c) ∧ ∀ u ∈ L, codeOf u = 0 ∧ atOf u = 0) := by
  have hsh : ∀ u ∈ allE s 0, Shaped u := sh_pairs s _ _
  obtain ⟨L, t, h, hL⟩ := pairs_split s (s.size + 1) 0 (Nat.zero_le _) (by omega)
  have h' : allE s 0 = L ++ [t] := h
  rw [h'] at hsh ⊢
  have hf : fltE (L ++ [t]) = (atOf t, codeOf t) := by unfold fltE; simp
  rw [hf]
  rcases hsh t (by simp) with ⟨p, c, hc, rfl⟩ | ⟨h1, h2⟩
  · refine .inr ⟨L, p, c, hc, rfl, ?_, rfl, fun u hu => ⟨hL u hu, good_at (hsh u (by simp [hu])) (hL u hu)⟩⟩
    have e : goodsE (L ++ [faultV p c]) = goodsE L ++ goodsE [faultV p c] := by unfold goodsE; rw [List.filter_append]
    have e2 : goodsE [faultV p c] = [] := by unfold goodsE; simp [code_fault, hc]
    rw [e, filter_all hL, e2, List.append_nil]
  · have hall : ∀ u ∈ L ++ [t], codeOf u = 0 := fun u hu => by
      rcases List.mem_append.1 hu with hu | hu
      · exact hL u hu
      · rw [List.mem_singleton.1 hu]; exact h2
    exact .inl ⟨h2, filter_all hall, fun u hu => ⟨hall u hu, good_at (hsh u hu) (hall u hu)⟩⟩
end Go.Proofs.YtldjdcdoegjmoaaDoor.P
