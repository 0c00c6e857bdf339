import Derived.Test.YtldjdcdoegjmoaaDoorV15
import Derived.Test.YtldjdcdoegjmoaaDoorV30
set_option linter.unusedVariables false
set_option linter.unusedSimpArgs false
namespace Go.Proofs.YtldjdcdoegjmoaaDoor.P
open Go.RowKit Go.Proofs.YtldjdcdoegjmoaaDoorW.PrintWords Go.Proofs.YtldjdcdoegjmoaaDoorW.PrintLast
/-- A token that was read at a place. -/
def GoodT (p : Nat) (t : TV) : Prop := codeOf t = 0 → t.2.1 = (p : Int) ∧ kindOf t ≠ 0
theorem good_f {p : Nat} {a c : Int} (h : c ≠ 0) : GoodT p (faultV a c) := fun h0 => absurd h0 h
theorem signE_pos {c : Int} (h : 0 ≤ signE c) : signE c ≠ 0 := by
  unfold signE at h ⊢
  repeat' split
  all_goals first | (intro q; cases q; done) | (rename_i q; simp_all)
theorem good_lit {s : ByteArray} {p : Nat} : ∀ (d : Nat) (acc : List Int) (q : Nat), GoodT p (litE s p d acc q)
  | 0, acc, q => good_f (by decide)
  | d + 1, acc, q => by
    rw [litE]
    split
    · split
      · unfold litEnd; split <;> exact fun _ => ⟨rfl, show (14 : Int) ≠ 0 by decide⟩
      · split
        · split
          · exact good_f (by decide)
          · exact good_lit d _ _
        · exact good_lit d _ _
    · exact good_f (by decide)
theorem good_count {s : ByteArray} {p : Nat} : GoodT p (countE s p) := by
  unfold countE
  repeat' split
  all_goals first | exact good_f (by decide) | exact fun _ => ⟨rfl, show (9 : Int) ≠ 0 by decide⟩
theorem good_tok {s : ByteArray} {p : Nat} (hp : p < s.size) : GoodT p (tokE s p) := by
  unfold tokE
  rw [if_pos hp]
  split
  · next h => exact fun _ => ⟨rfl, signE_pos h⟩
  · split
    · unfold wordE; split; exact good_f (by decide); exact fun _ => ⟨rfl, show (1 : Int) ≠ 0 by decide⟩
    · split
      · exact fun _ => ⟨rfl, show (2 : Int) ≠ 0 by decide⟩
      · split
        · exact good_count
        · split
          · exact good_lit _ _ _
          · split
            · unfold classV
              split
              · exact fun _ => ⟨rfl, show (15 : Int) ≠ 0 by decide⟩
              · next h => exact good_f h
            · split
              · unfold markE
                split
                · exact good_f (by decide)
                · split
                  · exact good_f (by decide)
                  · refine fun _ => ⟨rfl, ?_⟩
                    show (if bt s (p : Int) = 94 then (17 : Int) else 16) ≠ 0
                    split <;> decide
              · exact good_f (by decide)
/-- A fault's place lies in the text. -/
def Fp (s : ByteArray) (t : TV) : Prop := 0 ≤ atOf t ∧ atOf t ≤ (s.size : Int)
theorem fp_f {s : ByteArray} {p : Nat} {c : Int} (h : p ≤ s.size) : Fp s (faultV (p : Int) c) := ⟨by show (0 : Int) ≤ (p : Int); omega, by show (p : Int) ≤ _; omega⟩
theorem fp_0 {s : ByteArray} {t : TV} (h : atOf t = 0) : Fp s t := ⟨by rw [h]; decide, by rw [h]; omega⟩
theorem fp_lit {s : ByteArray} {p : Nat} (hp : p ≤ s.size) : ∀ (d : Nat) (acc : List Int) (q : Nat), Fp s (litE s p d acc q)
  | 0, acc, q => fp_f hp
  | d + 1, acc, q => by
    rw [litE]
    split
    · next h1 =>
      split
      · unfold litEnd; split <;> exact fp_0 rfl
      · split
        · split
          · exact fp_f (by omega)
          · exact fp_lit hp d _ _
        · exact fp_lit hp d _ _
    · exact fp_f hp
theorem fp_count {s : ByteArray} {p : Nat} (hp : p ≤ s.size) : Fp s (countE s p) := by
  unfold countE
  repeat' split
  all_goals first | exact fp_f hp | exact fp_0 rfl
theorem itemF_place (s : ByteArray) (b p : Nat) (hb : b ≤ s.size) (hp : p ≤ s.size) : (itemF s b p).2.2.2.1 ≤ s.size := by
  unfold itemF
  split
  · split
    · next q =>
      split
      · exact hp
      · dsimp only; unfold plc; split
        · omega
        · split <;> omega
    · exact Nat.zero_le _
  · dsimp only; unfold plc; split
    · omega
    · split <;> omega
theorem itemsF_place (s : ByteArray) (b : Nat) (hb : b ≤ s.size) : ∀ (k p : Nat) (l : List (Nat × Nat)), p ≤ s.size → (itemsF s b k p l).2.2.1 ≤ s.size
  | 0, p, l, hp => Nat.zero_le _
  | k + 1, p, l, hp => by
    rw [itemsF]
    split
    · exact Nat.zero_le _
    · split
      · exact itemsF_place s b hb k _ _ (itemF_next s b p hp).2
      · exact itemF_place s b p hb hp
theorem parseF_place (s : ByteArray) (p : Nat) (hp : p ≤ s.size) : (parseF s p).2.2.1 ≤ s.size := by
  unfold parseF
  by_cases h : p < s.size ∧ bat s p = 91
  · rw [if_pos h]
    dsimp only
    have key : ∀ (q : Nat) (c : Cls), q ≤ s.size → (if (itemsF s p (s.size + 1) q []).2.2.2 = 0 then (c, (itemsF s p (s.size + 1) q []).2.1, 0, 0) else (Cls.none, 0, (itemsF s p (s.size + 1) q []).2.2.1, (itemsF s p (s.size + 1) q []).2.2.2) : Cls × Nat × Nat × Nat).2.2.1 ≤ s.size := fun q c hq => by
      split
      · exact Nat.zero_le _
      · exact itemsF_place s p hp _ _ _ hq
    by_cases ho : p + 1 < s.size ∧ bat s (p + 1) = 94
    · simp only [if_pos ho]
      exact key _ _ (by omega)
    · simp only [if_neg ho]
      exact key _ _ (by omega)
  · rw [if_neg h]; exact hp
theorem fp_next {s : ByteArray} {p : Nat} (hp : p ≤ s.size) : Fp s (nextE s (p : Int)) := by
  unfold nextE
  split
  · exact fp_f (p := 0) (Nat.zero_le _)
  · rw [if_neg (by omega), Int.toNat_natCast]
    have hb := blankE_le s (s.size + 1) p hp
    generalize blankE s (s.size + 1) p = b at hb
    have hb2 : b ≤ s.size := hb.2
    unfold tokE
    split
    · split
      · exact fp_0 rfl
      · split
        · unfold wordE; split; exact fp_f hb2; exact fp_0 rfl
        · split
          · exact fp_0 rfl
          · split
            · exact fp_count hb2
            · split
              · exact fp_lit hb2 _ _ _
              · split
                · unfold classV
                  have e : parseI s (b : Int) = parseF s b := by unfold parseI; rw [if_neg (by omega), Int.toNat_natCast]
                  rw [e]
                  split
                  · exact fp_0 rfl
                  · exact fp_f (parseF_place s b hb2)
                · split
                  · unfold markE
                    split
                    · exact fp_f hb2
                    · split
                      · exact fp_f hb2
                      · exact fp_0 rfl
                  · exact fp_f hb2
    · exact fp_0 rfl
theorem fp_pairs (s : ByteArray) : ∀ (d p : Nat), p ≤ s.size → ∀ t ∈ pairsE s d p, Fp s t
  | 0, p, hp, t, h => by simp [pairsE] at h
  | d + 1, p, hp, t, h => by
    rw [pairsE] at h
    split at h
    · next q =>
      rcases List.mem_cons.1 h with rfl | h
      · exact fp_next hp
      · obtain ⟨e, h3, h4, h5⟩ := ends_next hp q.1 q.2
        rw [h3, Int.toNat_natCast] at h
        exact fp_pairs s d e h5 t h
    · rw [List.mem_singleton.1 h]; exact fp_next hp
theorem notNL_of {c : Int} (h : ¬ c = 10) : notNL c = true := by unfold notNL; rw [beq_eq_false_iff_ne.2 h]; rfl
theorem next_eq {s : ByteArray} (hs : s.size ≤ 65536) {p : Nat} (hp : p ≤ s.size) : nextE s (p : Int) = tokE s (blankE s (s.size + 1) p) := by
  unfold nextE
  rw [if_neg (by omega), if_neg (by omega), Int.toNat_natCast]
/-- A good token at a place: where it begins and ends. -/
theorem tok_facts {s : ByteArray} (hs : s.size ≤ 65536) {p : Nat} (hp : p ≤ s.size) (hc : codeOf (nextE s (p : Int)) = 0) :
    ∃ b e : Nat, blankE s (s.size + 1) p = b ∧ (nextE s (p : Int)).2.1 = (b : Int) ∧ (nextE s (p : Int)).2.2.1 = (e : Int) ∧ p ≤ b ∧ b ≤ e ∧ e ≤ s.size ∧ (kindOf (nextE s (p : Int)) = 0 → e = b ∧ b = s.size) ∧ (kindOf (nextE s (p : Int)) ≠ 0 → b < e) := by
  have hb := blankE_le s (s.size + 1) p hp
  rw [next_eq hs hp] at hc ⊢
  generalize hbe : blankE s (s.size + 1) p = b at hb hc
  by_cases hlt : b < s.size
  · obtain ⟨h1, h2⟩ := good_tok hlt hc
    obtain ⟨e, h3, h4, h5⟩ := ends_tok hc h2
    exact ⟨b, e, rfl, h1, h3, hb.1, by omega, h5, fun q => absurd q h2, fun _ => h4⟩
  · have e : tokE s b = plainV 0 b b := by unfold tokE; rw [if_neg hlt]
    rw [e]
    exact ⟨b, b, rfl, rfl, rfl, hb.1, Nat.le_refl _, hb.2, fun _ => ⟨rfl, by omega⟩, fun q => absurd rfl q⟩
theorem bt_ext (s : ByteArray) (p b i : Nat) (hb : b ≤ s.size) (hi : p + i < b) : bt (s.extract p b) (i : Int) = bt s ((p + i : Nat) : Int) := by
  rw [bt_nat, bt_nat, dif_pos (show i < (s.extract p b).size by rw [ByteArray.size_extract]; omega), dif_pos (show p + i < s.size by omega)]
  congr 2
  exact ByteArray.getElem_extract ..
theorem size_ext (s : ByteArray) (p b : Nat) (hb : b ≤ s.size) : (s.extract p b).size = b - p := by rw [ByteArray.size_extract]; omega
theorem wr_n {n : Nat} (h : n ≤ 70000) : wrap64 ((n : Int) + 1) = ((n + 1 : Nat) : Int) := by unfold wrap64; omega
section
variable (s : ByteArray) (hs : s.size ≤ 65536) (p b : Nat) (hb : b ≤ s.size) (hpb : p ≤ b)
theorem blank_end (k i : Nat) (hi : b - p ≤ i) (hb : b ≤ s.size) : dowellaw04_blank.l0 (k + 1) (s.extract p b) (i : Int) = some true := by
  rw [dowellaw04_blank.l0, if_neg (by rw [size_ext s p b hb]; omega)]
include hs hb hpb in
theorem blank_l1 : ∀ (m k i : Nat), b - (p + i) ≤ m → p + i ≤ b → 4 * (b - (p + i)) + 4 ≤ k → ∃ k', 4 * (b - (runE notNL s (p + i))) + 2 ≤ k' ∧
    dowellaw04_blank.l1 k (s.extract p b) (i : Int) = if runE notNL s (p + i) < b then dowellaw04_blank.l0 k' (s.extract p b) ((runE notNL s (p + i) + 1 - p : Nat) : Int) else some true
  | 0, k, i, hm, hi, hk => by
    obtain ⟨k, rfl⟩ : ∃ j, k = j + 2 := ⟨k - 2, by omega⟩
    have hr := runE_ge notNL s (p + i)
    refine ⟨4 * (b - (runE notNL s (p + i))) + 2, Nat.le_refl _, ?_⟩
    rw [if_neg (by omega), dowellaw04_blank.l1, if_neg (by rw [size_ext s p b hb]; omega), wr_n (by omega)]
    exact blank_end s p b k (i + 1) (by omega) hb
  | m + 1, k, i, hm, hi, hk => by
    obtain ⟨k, rfl⟩ : ∃ j, k = j + 2 := ⟨k - 2, by omega⟩
    by_cases hlt : p + i < b
    · by_cases h10 : bt s ((p + i : Nat) : Int) = 10
      · have hr : runE notNL s (p + i) = p + i := runE_no (by unfold notNL; rw [h10]; decide)
        rw [hr]
        refine ⟨k + 1, by omega, ?_⟩
        rw [if_pos hlt, dowellaw04_blank.l1, if_pos (by rw [size_ext s p b hb]; omega), if_pos (by omega), bt_ext s p b i hb hlt, if_pos h10, wr_n (by omega), show p + i + 1 - p = i + 1 by omega]
      · have hr : runE notNL s (p + i) = runE notNL s (p + i + 1) := runE_yes (by omega) (by unfold notNL; rw [beq_eq_false_iff_ne.2 h10]; rfl)
        rw [hr]
        obtain ⟨k', hk', h⟩ := blank_l1 m (k + 1) (i + 1) (by omega) (by omega) (by omega)
        refine ⟨k', hk', ?_⟩
        rw [dowellaw04_blank.l1, if_pos (by rw [size_ext s p b hb]; omega), if_pos (by omega), bt_ext s p b i hb hlt, if_neg h10, wr_n (by omega)]
        exact h
    · have hr := runE_ge notNL s (p + i)
      refine ⟨4 * (b - (runE notNL s (p + i))) + 2, Nat.le_refl _, ?_⟩
      rw [if_neg (by omega), dowellaw04_blank.l1, if_neg (by rw [size_ext s p b hb]; omega), wr_n (by omega)]
      exact blank_end s p b k (i + 1) (by omega) hb
include hs hb hpb in
theorem blank_l0 (d : Nat) : ∀ (i k : Nat), blankE s d (p + i) = b → p + i ≤ b → 4 * (b - (p + i)) + 6 ≤ k → dowellaw04_blank.l0 k (s.extract p b) (i : Int) = some true := by
  induction d using Nat.strongRecOn with
  | _ d ih =>
    intro i k hE hi hk
    obtain ⟨k, rfl⟩ : ∃ j, k = j + 1 := ⟨k - 1, by omega⟩
    by_cases hlt : p + i < b
    · cases d with
      | zero => rw [blankE] at hE; omega
      | succ d =>
        rw [blankE, if_pos (by omega)] at hE
        have hbt := bt_ext s p b i hb hlt
        rw [dowellaw04_blank.l0, if_pos (by rw [size_ext s p b hb]; omega), if_pos (by omega), hbt]
        obtain ⟨k, rfl⟩ : ∃ j, k = j + 1 := ⟨k - 1, by omega⟩
        have jt : spaceB (bt s ((p + i : Nat) : Int)) = true → ∀ c, dowellaw04_blank.j1 (k + 1) (s.extract p b) (i : Int) c true = some true := fun hsp c => by
          rw [if_pos hsp] at hE
          rw [dowellaw04_blank.j1, if_pos rfl, wr_n (by omega)]
          exact ih d (by omega) (i + 1) k hE (by have := blankE_le s d (p + i + 1) (by omega); omega) (by omega)
        split
        · next q => rw [q]; exact jt (by rw [q]; decide) _
        · split
          · next q => rw [q]; exact jt (by rw [q]; decide) _
          · split
            · next q => rw [q]; exact jt (by rw [q]; decide) _
            · next q1 q2 q3 =>
              by_cases q4 : bt s ((p + i : Nat) : Int) = 10
              · rw [q4]; exact jt (by rw [q4]; decide) _
              · have hns : ¬ spaceB (bt s ((p + i : Nat) : Int)) = true := fun h => by
                  have := space_not h
                  omega
                rw [if_neg hns] at hE
                by_cases h35 : bt s ((p + i : Nat) : Int) = 35
                · rw [if_pos h35] at hE
                  have hr := runE_ge notNL s (p + i)
                  have hrs := runE_size notNL s (p + i) (by omega)
                  have hrb := blankE_le s d _ hrs
                  obtain ⟨k', hk', h⟩ := blank_l1 s hs p b hb hpb _ k i (Nat.le_refl _) hi (by omega)
                  rw [dowellaw04_blank.j1, if_neg (by rw [beq_eq_false_iff_ne.2 q4]; decide), if_pos h35, h]
                  have hr2 : p + i < runE notNL s (p + i) := by
                    rw [runE_yes (by omega) (by unfold notNL; rw [h35]; decide)]
                    have := runE_ge notNL s (p + i + 1); omega
                  split
                  · next hlt2 =>
                    cases d with
                    | zero => rw [blankE] at hE; omega
                    | succ d =>
                      have h10 : bt s ((runE notNL s (p + i) : Nat) : Int) = 10 := by
                        have hq : ¬ notNL (bt s ((runE notNL s (p + i) : Nat) : Int)) = true := fun hq => by
                          have e1 := runE_on (P := notNL) (s := s) (p := p + i) (runE notNL s (p + i) - (p + i)) (by omega)
                          rw [show p + i + (runE notNL s (p + i) - (p + i)) = runE notNL s (p + i) by omega] at e1
                          rw [runE_yes (by omega) hq] at e1
                          have := runE_ge notNL s (runE notNL s (p + i) + 1)
                          omega
                        exact Classical.byContradiction fun q => hq (notNL_of q)
                      rw [blankE, if_pos (by omega), if_pos (by rw [h10]; decide)] at hE
                      refine ih d (by omega) (runE notNL s (p + i) + 1 - p) k' ?_ (by omega) (by omega)
                      rw [show p + (runE notNL s (p + i) + 1 - p) = runE notNL s (p + i) + 1 by omega]
                      exact hE
                  · rfl
                · rw [if_neg h35] at hE
                  omega
    · exact blank_end s p b k i (by omega) hb
end
theorem blank_f (s : ByteArray) (hs : s.size ≤ 65536) (p : Nat) (hp : p ≤ s.size) (k : Nat) (hk : 4 * s.size + 10 ≤ k) : dowellaw04_blank.f k (s.extract p (blankE s (s.size + 1) p)) = some true := by
  have hb := blankE_le s (s.size + 1) p hp
  unfold dowellaw04_blank.f
  exact blank_l0 s hs p _ hb.2 hb.1 (s.size + 1) 0 k rfl (by omega) (by omega)
end Go.Proofs.YtldjdcdoegjmoaaDoor.P
