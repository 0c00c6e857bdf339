import Derived.Test.YtldjdcdoegjmoaaDoorC24
import Derived.Test.YtldjdcdoegjmoaaDoorC29
set_option linter.unusedVariables false
set_option linter.unusedSimpArgs false
namespace Go.Proofs.YtldjdcdoegjmoaaDoor.P
open Go.RowKit Go.Proofs.YtldjdcdoegjmoaaDoorW.PrintWords Go.Proofs.YtldjdcdoegjmoaaDoorW.PrintLast
/-- A token that was read at a place. -/
def GoodT (p : Nat) (t : TV) : Prop := codeOf t = 0 → t.2.1 = (p : Int) ∧ kindOf t ≠ 0
theorem good_f {p : Nat} {a c : Int} (h : c ≠ 0) : GoodT p (faultV a c) := fun h0 => absurd h0 h
theorem signE_pos {c : Int} (h : 0 ≤ signE c) : signE c ≠ 0 := by
  unfold signE at h ⊢
  repeat' split
  all_goals first | (intro q; cases q; done) | (rename_i q; simp_all)
theorem good_lit {s : ByteArray} {p : Nat} : ∀ (d : Nat) (acc : List Int) (q : Nat), GoodT p (litE s p d acc q)
  | 0, acc, q => good_f (by decide)
  | d + 1, acc, q => by
    rw [litE]
    split
    · split
      · unfold litEnd; split <;> exact fun _ => ⟨rfl, show (14 : Int) ≠ 0 by decide⟩
      · split
        · split
          · exact good_f (by decide)
          · exact good_lit d _ _
        · exact good_lit d _ _
    · exact good_f (by decide)
theorem good_count {s : ByteArray} {p : Nat} : GoodT p (countE s p) := by
  unfold countE
  repeat' split
  all_goals first | exact good_f (by decide) | exact fun _ => ⟨rfl, show (9 : Int) ≠ 0 by decide⟩
theorem good_tok {s : ByteArray} {p : Nat} (hp : p < s.size) : GoodT p (tokE s p) := by
  unfold tokE
  rw [if_pos hp]
  split
  · next h => exact fun _ => ⟨rfl, signE_pos h⟩
  · split
    · unfold wordE; split; exact good_f (by decide); exact fun _ => ⟨rfl, show (1 : Int) ≠ 0 by decide⟩
    · split
      · exact fun _ => ⟨rfl, show (2 : Int) ≠ 0 by decide⟩
      · split
        · exact good_count
        · split
          · exact good_lit _ _ _
          · split
            · unfold classV
              split
              · exact fun _ => ⟨rfl, show (15 : Int) ≠ 0 by decide⟩
              · next h => exact good_f h
            · split
              · unfold markE
                split
                · exact good_f (by decide)
                · split
                  · exact good_f (by decide)
                  · refine fun _ => ⟨rfl, ?_⟩
                    show (if bt s (p : Int) = 94 then (17 : Int) else 16) ≠ 0
                    split <;> decide
              · exact good_f (by decide)
theorem notNL_of {c : Int} (h : ¬ c = 10) : notNL c = true := by unfold notNL; rw [beq_eq_false_iff_ne.2 h]; rfl
theorem next_eq {s : ByteArray} (hs : s.size ≤ 65536) {p : Nat} (hp : p ≤ s.size) : nextE s (p : Int) = tokE s (blankE s (s.size + 1) p) := by
  unfold nextE
  rw [if_neg (by omega), if_neg (by omega), Int.toNat_natCast]
/-- A good token at a place: where it begins and ends. -/
theorem tok_facts {s : ByteArray} (hs : s.size ≤ 65536) {p : Nat} (hp : p ≤ s.size) (hc : codeOf (nextE s (p : Int)) = 0) :
    ∃ b e : Nat, blankE s (s.size + 1) p = b ∧ (nextE s (p : Int)).2.1 = (b : Int) ∧ (nextE s (p : Int)).2.2.1 = (e : Int) ∧ p ≤ b ∧ b ≤ e ∧ e ≤ s.size ∧ (kindOf (nextE s (p : Int)) = 0 → e = b ∧ b = s.size) ∧ (kindOf (nextE s (p : Int)) ≠ 0 → b < e) := by
  have hb := blankE_le s (s.size + 1) p hp
  rw [next_eq hs hp] at hc ⊢
  generalize hbe : blankE s (s.size + 1) p = b at hb hc
  by_cases hlt : b < s.size
  · obtain ⟨h1, h2⟩ := good_tok hlt hc
    obtain ⟨e, h3, h4, h5⟩ := ends_tok hc h2
    exact ⟨b, e, rfl, h1, h3, hb.1, by omega, h5, fun q => absurd q h2, fun _ => h4⟩
  · have e : tokE s b = plainV 0 b b := by unfold tokE; rw [if_neg hlt]
    rw [e]
    exact ⟨b, b, rfl, rfl, rfl, hb.1, Nat.le_refl _, hb.2, fun _ => ⟨rfl, by omega⟩, fun q => absurd rfl q⟩
section
variable (s : ByteArray) (hs : s.size ≤ 65536) (p b : Nat) (hb : b ≤ s.size) (hpb : p ≤ b)
end
end Go.Proofs.YtldjdcdoegjmoaaDoor.P
set_option linter.unusedVariables false
set_option linter.unusedSimpArgs false
namespace Go.Proofs.YtldjdcdoegjmoaaDoor.P
open Go.RowKit Go.Proofs.YtldjdcdoegjmoaaDoorW.PrintWords Go.Proofs.YtldjdcdoegjmoaaDoorW.PrintLast
def blk (c : Int) : Prop := c = 0 ∨ c = 32 ∨ c = 9 ∨ c = 13 ∨ c = 10 ∨ c = 35
/-- The bytes of s from a to n stand in t, m further on; behind them t ends, or a blank stands. -/
structure Sim (s t : ByteArray) (a m n : Nat) : Prop where
  hn : n ≤ s.size
  hm : n + m ≤ t.size
  hb : ∀ i, a ≤ i → i < n → bt t ((i + m : Nat) : Int) = bt s (i : Int)
  hs : blk (bt t ((n + m : Nat) : Int))
theorem blk_letter {c : Int} (h : blk c) : letterB c = false := by
  unfold blk at h
  rcases h with rfl | rfl | rfl | rfl | rfl | rfl <;> decide
theorem blk_digit {c : Int} (h : blk c) : digitB c = false := by
  unfold blk at h
  rcases h with rfl | rfl | rfl | rfl | rfl | rfl <;> decide
theorem blk_alnum {c : Int} (h : blk c) : alnumB c = false := by
  unfold alnumB
  rw [blk_letter h, blk_digit h]
  rfl
theorem blk_ne {c x : Int} (h : blk c) (hx : ¬ blk x) : c ≠ x := fun e => hx (e ▸ h)
section
variable {s t : ByteArray} {a m n : Nat}
theorem Sim.at (S : Sim s t a m n) {i : Nat} (h1 : a ≤ i) (h2 : i < n) : bt t ((i + m : Nat) : Int) = bt s (i : Int) := S.hb i h1 h2
theorem run_sim (S : Sim s t a m n) (P : Int → Bool) (hP : ∀ c, blk c → P c = false) : ∀ (d p : Nat), n - p ≤ d → a ≤ p → p ≤ n → runE P s p ≤ n → runE P t (p + m) = runE P s p + m
  | 0, p, hd, ha, hp, hr => by
    obtain rfl : p = n := by omega
    have h1 := runE_ge P s p
    rw [runE_no (by rw [hP _ S.hs]; decide)]
    omega
  | d + 1, p, hd, ha, hp, hr => by
    have hn := S.hn
    have hm := S.hm
    by_cases hlt : p < n
    · have e := S.at ha hlt
      by_cases h : P (bt s (p : Int)) = true
      · rw [runE_yes (by omega) h] at hr ⊢
        rw [runE_yes (by omega) (by rw [e]; exact h), show p + m + 1 = p + 1 + m by omega]
        exact run_sim S P hP d (p + 1) (by omega) (by omega) (by omega) hr
      · rw [runE_no h, runE_no (by rw [e]; exact h)]
    · obtain rfl : p = n := by omega
      have h1 := runE_ge P s p
      rw [runE_no (by rw [hP _ S.hs]; decide)]
      omega
theorem alnum_sim (S : Sim s t a m n) {p : Nat} (ha : a ≤ p) (hp : p ≤ n) (hr : runE alnumB s p ≤ n) : runE alnumB t (p + m) = runE alnumB s p + m := run_sim S _ (fun _ => blk_alnum) _ p (Nat.le_refl _) ha hp hr
theorem digit_sim (S : Sim s t a m n) {p : Nat} (ha : a ≤ p) (hp : p ≤ n) (hr : runE digitB s p ≤ n) : runE digitB t (p + m) = runE digitB s p + m := run_sim S _ (fun _ => blk_digit) _ p (Nat.le_refl _) ha hp hr
theorem own_sim (S : Sim s t a m n) {p : Nat} (ha : a ≤ p) (hp : p ≤ n) (hr : ownE s p ≤ n) : ownE t (p + m) = ownE s p + m := by
  have hn := S.hn
  have hm := S.hm
  unfold ownE at hr ⊢
  by_cases hlt : p < n
  · have e := S.at ha hlt
    by_cases h : letterB (bt s (p : Int)) = true
    · rw [if_pos ⟨by omega, h⟩] at hr
      rw [if_pos (show p + m < t.size ∧ letterB (bt t ((p + m : Nat) : Int)) = true from ⟨by omega, by rw [e]; exact h⟩), if_pos (show p < s.size ∧ letterB (bt s (p : Int)) = true from ⟨by omega, h⟩)]
      exact alnum_sim S ha hp hr
    · rw [if_neg (show ¬ (p + m < t.size ∧ letterB (bt t ((p + m : Nat) : Int)) = true) from fun q => h (by rw [← e]; exact q.2)), if_neg (show ¬ (p < s.size ∧ letterB (bt s (p : Int)) = true) from fun q => h q.2)]
  · obtain rfl : p = n := by omega
    have hl := blk_letter S.hs
    rw [if_neg (show ¬ (p + m < t.size ∧ letterB (bt t ((p + m : Nat) : Int)) = true) from fun q => by rw [hl] at q; exact absurd q.2 (by decide))]
    by_cases h : p < s.size ∧ letterB (bt s (p : Int)) = true
    · rw [if_pos h] at hr
      have := runE_more (P := alnumB) h.1 (by unfold alnumB; rw [h.2]; rfl)
      omega
    · rw [if_neg h]
/-- What may not follow a token that ends ahead of the cut. -/
structure Ahead (s : ByteArray) (e n : Nat) : Prop where
  h58 : e < n → bt s (e : Int) ≠ 58
  h126 : e < n → bt s (e : Int) ≠ 126
  h105 : e < n → bt s (e : Int) = 105 → e + 1 < s.size → alnumB (bt s ((e + 1 : Nat) : Int)) = true → e + 1 < n
theorem name_sim (S : Sim s t a m n) {p : Nat} (ha : a ≤ p) (hp : p < n) (hr : nameE s p ≤ n) (hA : Ahead s (nameE s p) n) : nameE t (p + m) = nameE s p + m := by
  have hn := S.hn
  have hm := S.hm
  by_cases h0 : ownE s p = p
  · have e : nameE s p = p := by unfold nameE; rw [if_pos h0]
    have ho := own_sim S ha (by omega) (by omega : ownE s p ≤ n)
    rw [e]
    unfold nameE
    rw [if_pos (by rw [ho, h0])]
  · have e : nameE s p = numE s (colE s (ownE s p)) := by unfold nameE; rw [if_neg h0]
    rw [e] at hr hA ⊢
    have g0 := ownE_ge s p
    have g1 := colE_ge s (ownE s p)
    have g2 := numE_ge s (colE s (ownE s p))
    have ho := own_sim S ha (by omega) (by omega : ownE s p ≤ n)
    have e2 : nameE t (p + m) = numE t (colE t (ownE s p + m)) := by unfold nameE; rw [if_neg (by rw [ho]; omega), ho]
    rw [e2]
    generalize hk : ownE s p = k at *
    have hc : colE t (k + m) = colE s k + m := by
      by_cases q : k < colE s k
      · have q' := q
        unfold colE at q
        by_cases c1 : k + 1 < s.size ∧ bt s (k : Int) = 58 ∧ bt s ((k + 1 : Nat) : Int) = 58
        · rw [if_pos c1] at q
          by_cases c2 : k + 2 < ownE s (k + 2)
          · have ec : colE s k = ownE s (k + 2) := by unfold colE; rw [if_pos c1, if_pos c2]
            rw [ec] at g2 hr ⊢
            have b0 := S.at (i := k) (by omega) (by omega)
            have b1 := S.at (i := k + 1) (by omega) (by omega)
            have o2 := own_sim S (p := k + 2) (by omega) (by omega) (by omega)
            rw [show k + 2 + m = k + m + 2 by omega] at o2
            rw [show k + 1 + m = k + m + 1 by omega] at b1
            unfold colE
            rw [if_pos ⟨by omega, by rw [b0]; exact c1.2.1, by rw [b1]; exact c1.2.2⟩, o2, if_pos (by omega)]
          · rw [if_neg c2] at q; omega
        · rw [if_neg c1] at q; omega
      · have ec : colE s k = k := by omega
        rw [ec] at hr hA g2 ⊢
        unfold colE
        by_cases c1 : k + m + 1 < t.size ∧ bt t ((k + m : Nat) : Int) = 58 ∧ bt t ((k + m + 1 : Nat) : Int) = 58
        · exfalso
          rcases Nat.lt_or_ge k n with q1 | q1
          · have b0 := S.at (i := k) (by omega) q1
            have h58 : bt s (k : Int) = 58 := by rw [← b0]; exact c1.2.1
            have en : numE s k = k := by unfold numE; rw [if_neg (by rw [h58]; omega)]
            rw [en] at hA
            exact hA.h58 q1 h58
          · obtain rfl : k = n := by omega
            exact blk_ne S.hs (by unfold blk; decide) c1.2.1
        · rw [if_neg c1]
    rw [hc]
    generalize hk2 : colE s k = k2 at *
    by_cases q : k2 < numE s k2
    · have q' := q
      unfold numE at q
      by_cases c1 : k2 < s.size ∧ bt s (k2 : Int) = 126
      · rw [if_pos c1] at q
        by_cases c2 : k2 + 1 < runE digitB s (k2 + 1) ∧ runE digitB s (k2 + 1) ≤ k2 + 6 ∧ bt s ((k2 + 1 : Nat) : Int) ≠ 48
        · have en : numE s k2 = runE digitB s (k2 + 1) := by unfold numE; rw [if_pos c1, if_pos c2]
          rw [en] at hr ⊢
          have b0 := S.at (i := k2) (by omega) (by omega)
          have b1 := S.at (i := k2 + 1) (by omega) (by omega)
          have d1 := digit_sim S (p := k2 + 1) (by omega) (by omega) hr
          rw [show k2 + 1 + m = k2 + m + 1 by omega] at d1 b1
          unfold numE
          rw [if_pos ⟨by omega, by rw [b0]; exact c1.2⟩, d1, if_pos ⟨by omega, by omega, by rw [b1]; exact c2.2.2⟩]
        · rw [if_neg c2] at q; omega
      · rw [if_neg c1] at q; omega
    · have en : numE s k2 = k2 := by omega
      rw [en] at hr hA ⊢
      unfold numE
      by_cases c1 : k2 + m < t.size ∧ bt t ((k2 + m : Nat) : Int) = 126
      · exfalso
        rcases Nat.lt_or_ge k2 n with q1 | q1
        · have b0 := S.at (i := k2) (by omega) q1
          exact hA.h126 q1 (by rw [← b0]; exact c1.2)
        · obtain rfl : k2 = n := by omega
          exact blk_ne S.hs (by unfold blk; decide) c1.2
      · rw [if_neg c1]
theorem val_sim (S : Sim s t a m n) {p : Nat} (ha : a ≤ p) : ∀ j, p + j ≤ n → valE t (p + m) j = valE s p j
  | 0, _ => rfl
  | j + 1, h => by
    have e := S.at (i := p + j) (by omega) (by omega)
    rw [show p + j + m = p + m + j by omega] at e
    rw [valE, valE, val_sim S ha j (by omega), e]
theorem numb_sim (S : Sim s t a m n) {p v e : Nat} (ha : a ≤ p) (h : numbE s p = some (v, e)) (he : e ≤ n) : numbE t (p + m) = some (v, e + m) := by
  have hx := numbE_le h
  unfold numbE at h
  split at h
  · next q =>
    simp only [Option.some.injEq, Prod.mk.injEq] at h
    obtain ⟨rfl, rfl⟩ := h
    have d := digit_sim S ha (by omega) he
    have b := S.at (i := p) ha (by omega)
    have w := val_sim S ha (runE digitB s p - p) (by omega)
    unfold numbE
    rw [d, show runE digitB s p + m - (p + m) = runE digitB s p - p by omega, w, if_pos ⟨by omega, by omega, fun q2 => q.2.2.1 ⟨by rw [← b]; exact q2.1, by omega⟩, q.2.2.2⟩]
  · cases h
/-- A token, m further on. -/
def shT (m : Nat) (x : TV) : TV := (x.1, x.2.1 + (m : Int), x.2.2.1 + (m : Int), x.2.2.2)
theorem count_sim (S : Sim s t a m n) {p : Nat} (ha : a ≤ p) (hp : p < n) (hc : codeOf (countE s p) = 0) (he : endOf (countE s p) ≤ (n : Int)) : countE t (p + m) = shT m (countE s p) := by
  have hn := S.hn
  have hm := S.hm
  unfold countE at hc he ⊢
  cases h1 : numbE s (p + 1) with
  | none => rw [h1] at hc; exact absurd hc (by show (43 : Int) ≠ 0; decide)
  | some r =>
    obtain ⟨low, k⟩ := r
    rw [h1] at hc he
    have x1 := numbE_le h1
    dsimp only at hc he ⊢
    by_cases c1 : k < s.size ∧ bt s (k : Int) = 44
    · rw [if_pos c1] at hc he ⊢
      by_cases c2 : k + 1 < s.size ∧ bt s ((k + 1 : Nat) : Int) = 125
      · rw [if_pos c2] at hc he ⊢
        have he' : ((k + 2 : Nat) : Int) ≤ (n : Int) := he
        have g := numb_sim S (p := p + 1) (by omega) h1 (by omega)
        have b0 := S.at (i := k) (by omega) (by omega)
        have b1 := S.at (i := k + 1) (by omega) (by omega)
        rw [show p + 1 + m = p + m + 1 by omega] at g
        rw [show k + 1 + m = k + m + 1 by omega] at b1
        rw [g]
        dsimp only
        rw [if_pos ⟨by omega, by rw [b0]; exact c1.2⟩, if_pos ⟨by omega, by rw [b1]; exact c2.2⟩]
        unfold countV shT
        refine Prod.ext rfl (Prod.ext (by show ((p + m : Nat) : Int) = (p : Int) + (m : Int); omega) (Prod.ext (by show ((k + m + 2 : Nat) : Int) = ((k + 2 : Nat) : Int) + (m : Int); omega) rfl))
      · rw [if_neg c2] at hc he ⊢
        cases h2 : numbE s (k + 1) with
        | none => rw [h2] at hc; exact absurd hc (by show (43 : Int) ≠ 0; decide)
        | some r =>
          obtain ⟨high, l⟩ := r
          rw [h2] at hc he
          have x2 := numbE_le h2
          dsimp only at hc he ⊢
          by_cases c3 : high < low
          · rw [if_pos c3] at hc; exact absurd hc (by show (43 : Int) ≠ 0; decide)
          · rw [if_neg c3] at hc he ⊢
            by_cases c4 : l < s.size ∧ bt s (l : Int) = 125
            · rw [if_pos c4] at hc he ⊢
              have he' : ((l + 1 : Nat) : Int) ≤ (n : Int) := he
              have g := numb_sim S (p := p + 1) (by omega) h1 (by omega)
              have g2 := numb_sim S (p := k + 1) (by omega) h2 (by omega)
              have b0 := S.at (i := k) (by omega) (by omega)
              have b1 := S.at (i := k + 1) (by omega) (by omega)
              have b2 := S.at (i := l) (by omega) (by omega)
              rw [show p + 1 + m = p + m + 1 by omega] at g
              rw [show k + 1 + m = k + m + 1 by omega] at b1 g2
              rw [g]
              dsimp only
              rw [if_pos ⟨by omega, by rw [b0]; exact c1.2⟩, if_neg (fun q => c2 ⟨by omega, by rw [← b1]; exact q.2⟩), g2]
              dsimp only
              rw [if_neg c3, if_pos ⟨by omega, by rw [b2]; exact c4.2⟩]
              unfold countV shT
              refine Prod.ext rfl (Prod.ext (by show ((p + m : Nat) : Int) = (p : Int) + (m : Int); omega) (Prod.ext (by show ((l + m + 1 : Nat) : Int) = ((l + 1 : Nat) : Int) + (m : Int); omega) rfl))
            · rw [if_neg c4] at hc; exact absurd hc (by show (43 : Int) ≠ 0; decide)
    · rw [if_neg c1] at hc he ⊢
      by_cases c2 : k < s.size ∧ bt s (k : Int) = 125
      · rw [if_pos c2] at hc he ⊢
        have he' : ((k + 1 : Nat) : Int) ≤ (n : Int) := he
        have g := numb_sim S (p := p + 1) (by omega) h1 (by omega)
        have b0 := S.at (i := k) (by omega) (by omega)
        rw [show p + 1 + m = p + m + 1 by omega] at g
        rw [g]
        dsimp only
        rw [if_neg (fun q => c1 ⟨by omega, by rw [← b0]; exact q.2⟩), if_pos ⟨by omega, by rw [b0]; exact c2.2⟩]
        unfold countV shT
        refine Prod.ext rfl (Prod.ext (by show ((p + m : Nat) : Int) = (p : Int) + (m : Int); omega) (Prod.ext (by show ((k + m + 1 : Nat) : Int) = ((k + 1 : Nat) : Int) + (m : Int); omega) rfl))
      · rw [if_neg c2] at hc; exact absurd hc (by show (43 : Int) ≠ 0; decide)
theorem esc_sim (S : Sim s t a m n) {q c : Nat} {b : Int} (ha : a ≤ q) (h : escE s q = some (b, c)) (he : q + c ≤ n) : escE t (q + m) = some (b, c) := by
  have hn := S.hn
  have hm := S.hm
  have hx := escE_some h
  have b1 := S.at (i := q + 1) (by omega) (by omega)
  rw [show q + 1 + m = q + m + 1 by omega] at b1
  unfold escE at h ⊢
  rw [if_pos (by omega)] at h
  rw [if_pos (by omega), b1]
  by_cases c1 : bt s ((q + 1 : Nat) : Int) = 110
  · rw [if_pos c1] at h ⊢; exact h
  rw [if_neg c1] at h ⊢
  by_cases c2 : bt s ((q + 1 : Nat) : Int) = 114
  · rw [if_pos c2] at h ⊢; exact h
  rw [if_neg c2] at h ⊢
  by_cases c3 : bt s ((q + 1 : Nat) : Int) = 116
  · rw [if_pos c3] at h ⊢; exact h
  rw [if_neg c3] at h ⊢
  by_cases c4 : bt s ((q + 1 : Nat) : Int) = 92 ∨ bt s ((q + 1 : Nat) : Int) = 39 ∨ bt s ((q + 1 : Nat) : Int) = 34
  · rw [if_pos c4] at h ⊢; exact h
  rw [if_neg c4] at h ⊢
  by_cases c5 : bt s ((q + 1 : Nat) : Int) = 120 ∧ q + 3 < s.size ∧ 0 ≤ hexE (bt s ((q + 2 : Nat) : Int)) ∧ 0 ≤ hexE (bt s ((q + 3 : Nat) : Int))
  · rw [if_pos c5] at h
    have hc : c = 4 := by simp only [Option.some.injEq, Prod.mk.injEq] at h; exact h.2.symm
    have b2 := S.at (i := q + 2) (by omega) (by omega)
    have b3 := S.at (i := q + 3) (by omega) (by omega)
    rw [show q + 2 + m = q + m + 2 by omega] at b2
    rw [show q + 3 + m = q + m + 3 by omega] at b3
    rw [b2, b3, if_pos ⟨c5.1, by omega, c5.2.2⟩]
    exact h
  · rw [if_neg c5] at h; cases h
theorem litEnd_sim (S : Sim s t a m n) {p q : Nat} {acc : List Int} (ha : a ≤ q) (hq : q < n) (he : endOf (litEnd s p acc q) ≤ (n : Int)) (hA : ∀ e : Nat, endOf (litEnd s p acc q) = (e : Int) → Ahead s e n) : litEnd t (p + m) acc (q + m) = shT m (litEnd s p acc q) := by
  have hn := S.hn
  have hm := S.hm
  unfold litEnd at he hA ⊢
  by_cases c1 : q + 1 < s.size ∧ bt s ((q + 1 : Nat) : Int) = 105 ∧ ¬ (q + 2 < s.size ∧ alnumB (bt s ((q + 2 : Nat) : Int)) = true)
  · rw [if_pos c1] at he ⊢
    have he' : ((q + 2 : Nat) : Int) ≤ (n : Int) := he
    have b1 := S.at (i := q + 1) (by omega) (by omega)
    rw [show q + 1 + m = q + m + 1 by omega] at b1
    have h2 : ¬ (q + m + 2 < t.size ∧ alnumB (bt t ((q + m + 2 : Nat) : Int)) = true) := fun h => by
      rcases Nat.lt_or_ge (q + 2) n with r | r
      · have b2 := S.at (i := q + 2) (by omega) r
        rw [show q + 2 + m = q + m + 2 by omega] at b2
        exact c1.2.2 ⟨by omega, by rw [← b2]; exact h.2⟩
      · have hs := S.hs
        rw [show n + m = q + m + 2 by omega] at hs
        rw [blk_alnum hs] at h
        exact absurd h.2 (by decide)
    rw [if_pos ⟨by omega, by rw [b1]; exact c1.2.1, h2⟩]
    unfold shT
    exact Prod.ext rfl (Prod.ext (by show ((p + m : Nat) : Int) = (p : Int) + (m : Int); omega) (Prod.ext (by show ((q + m + 2 : Nat) : Int) = ((q + 2 : Nat) : Int) + (m : Int); omega) rfl))
  · rw [if_neg c1] at he hA ⊢
    have hA1 := hA (q + 1) rfl
    have h2 : ¬ (q + m + 1 < t.size ∧ bt t ((q + m + 1 : Nat) : Int) = 105 ∧ ¬ (q + m + 2 < t.size ∧ alnumB (bt t ((q + m + 2 : Nat) : Int)) = true)) := fun h => by
      rcases Nat.lt_or_ge (q + 1) n with r | r
      · have b1 := S.at (i := q + 1) (by omega) r
        rw [show q + 1 + m = q + m + 1 by omega] at b1
        have h105 : bt s ((q + 1 : Nat) : Int) = 105 := by rw [← b1]; exact h.2.1
        have h3 : q + 2 < s.size ∧ alnumB (bt s ((q + 2 : Nat) : Int)) = true := Classical.byContradiction fun h3 => c1 ⟨by omega, h105, h3⟩
        have h4 : q + 2 < n := hA1.h105 r h105 h3.1 h3.2
        have b2 := S.at (i := q + 2) (by omega) h4
        rw [show q + 2 + m = q + m + 2 by omega] at b2
        exact h.2.2 ⟨by omega, by rw [b2]; exact h3.2⟩
      · have hs := S.hs
        rw [show n + m = q + m + 1 by omega] at hs
        exact blk_ne hs (by unfold blk; decide) h.2.1
    rw [if_neg h2]
    unfold shT
    exact Prod.ext rfl (Prod.ext (by show ((p + m : Nat) : Int) = (p : Int) + (m : Int); omega) (Prod.ext (by show ((q + m + 1 : Nat) : Int) = ((q + 1 : Nat) : Int) + (m : Int); omega) rfl))
theorem lit_sim (S : Sim s t a m n) {p : Nat} (ha : a ≤ p) (hp : p < n) : ∀ (d d' : Nat) (acc : List Int) (q : Nat), p < q → codeOf (litE s p d acc q) = 0 → endOf (litE s p d acc q) ≤ (n : Int) → (∀ e : Nat, endOf (litE s p d acc q) = (e : Int) → Ahead s e n) → n < q + d' →
    litE t (p + m) d' acc (q + m) = shT m (litE s p d acc q)
  | 0, d', acc, q, hq, hc, he, hA, hd => absurd hc (by show (41 : Int) ≠ 0; decide)
  | d + 1, d', acc, q, hq, hc, he, hA, hd => by
    have hn := S.hn
    have hm := S.hm
    -- the end lies behind q
    have hqn : q < n := by
      have hk : kindOf (litE s p (d + 1) acc q) ≠ 0 := (good_lit (s := s) (p := p) (d + 1) acc q hc).2
      have key : ∀ (d : Nat) (acc : List Int) (q : Nat), codeOf (litE s p d acc q) = 0 → (q : Int) < endOf (litE s p d acc q) := by
        intro d
        induction d with
        | zero => intro acc q hc; exact absurd hc (by show (41 : Int) ≠ 0; decide)
        | succ d ih =>
          intro acc q hc
          rw [litE] at hc ⊢
          split at hc
          · next h1 =>
            rw [if_pos h1]
            split at hc
            · next h2 =>
              rw [if_pos h2]
              unfold litEnd
              split
              · show (q : Int) < ((q + 2 : Nat) : Int); omega
              · show (q : Int) < ((q + 1 : Nat) : Int); omega
            · next h2 =>
              rw [if_neg h2]
              split at hc
              · next h3 =>
                rw [if_pos h3]
                cases h4 : escE s q with
                | none => rw [h4] at hc; exact absurd hc (by show (42 : Int) ≠ 0; decide)
                | some r => obtain ⟨b, c⟩ := r; rw [h4] at hc; have := ih _ _ hc; dsimp only; omega
              · next h3 => rw [if_neg h3]; have := ih _ _ hc; omega
          · exact absurd hc (by show (41 : Int) ≠ 0; decide)
      have := key (d + 1) acc q hc
      omega
    obtain ⟨d', rfl⟩ : ∃ j, d' = j + 1 := ⟨d' - 1, by omega⟩
    have bq := S.at (i := q) (by omega) hqn
    have bp := S.at (i := p) ha hp
    rw [litE] at hc he hA ⊢
    rw [litE]
    by_cases c1 : q < s.size ∧ ¬ bt s (q : Int) < 32
    · rw [if_pos c1] at hc he hA ⊢
      rw [if_pos ⟨by omega, by rw [bq]; exact c1.2⟩, bq, bp]
      by_cases c2 : bt s (q : Int) = bt s (p : Int)
      · rw [if_pos c2] at hc he hA ⊢
        rw [if_pos c2]
        exact litEnd_sim S (by omega) hqn he hA
      · rw [if_neg c2] at hc he hA ⊢
        rw [if_neg c2]
        by_cases c3 : bt s (q : Int) = 92
        · rw [if_pos c3] at hc he hA ⊢
          rw [if_pos c3]
          cases h4 : escE s q with
          | none => rw [h4] at hc; exact absurd hc (by show (42 : Int) ≠ 0; decide)
          | some r =>
            obtain ⟨b, c⟩ := r
            rw [h4] at hc he hA
            dsimp only at hc he hA ⊢
            have hx := escE_some h4
            have hqc : q + c ≤ n := by
              have key2 : ∀ (d : Nat) (acc : List Int) (q : Nat), codeOf (litE s p d acc q) = 0 → (q : Int) ≤ endOf (litE s p d acc q) := by
                intro d
                induction d with
                | zero => intro acc q hc; exact absurd hc (by show (41 : Int) ≠ 0; decide)
                | succ d ih =>
                  intro acc q hc
                  rw [litE] at hc ⊢
                  split at hc
                  · next h1 =>
                    rw [if_pos h1]
                    split at hc
                    · next h2 =>
                      rw [if_pos h2]
                      unfold litEnd
                      split
                      · show (q : Int) ≤ ((q + 2 : Nat) : Int); omega
                      · show (q : Int) ≤ ((q + 1 : Nat) : Int); omega
                    · next h2 =>
                      rw [if_neg h2]
                      split at hc
                      · next h3 =>
                        rw [if_pos h3]
                        cases h4 : escE s q with
                        | none => rw [h4] at hc; exact absurd hc (by show (42 : Int) ≠ 0; decide)
                        | some r => obtain ⟨b, c⟩ := r; rw [h4] at hc; have := ih _ _ hc; dsimp only; omega
                      · next h3 => rw [if_neg h3]; have := ih _ _ hc; omega
                  · exact absurd hc (by show (41 : Int) ≠ 0; decide)
              have := key2 _ _ _ hc
              omega
            rw [esc_sim S (by omega) h4 hqc]
            dsimp only
            have ih := lit_sim S ha hp d d' (acc ++ [b]) (q + c) (by omega) hc he hA (by omega)
            rw [show q + c + m = q + m + c by omega] at ih
            exact ih
        · rw [if_neg c3] at hc he hA ⊢
          rw [if_neg c3]
          have ih := lit_sim S ha hp d d' (acc ++ [bt s (q : Int)]) (q + 1) (by omega) hc he hA (by omega)
          rw [show q + 1 + m = q + m + 1 by omega] at ih
          exact ih
    · rw [if_neg c1] at hc; exact absurd hc (by show (41 : Int) ≠ 0; decide)
end
end Go.Proofs.YtldjdcdoegjmoaaDoor.P
set_option linter.unusedVariables false
set_option linter.unusedSimpArgs false
namespace Go.Proofs.YtldjdcdoegjmoaaDoor.P
open Go.RowKit Go.Proofs.YtldjdcdoegjmoaaDoorW.PrintWords Go.Proofs.YtldjdcdoegjmoaaDoorW.PrintLast
theorem bt_bat' (s : ByteArray) (i : Nat) (h : i < s.size) : bt s (i : Int) = (bat s i : Int) := by
  rw [bt_nat, dif_pos h, ← bat_eq s i h]
section
variable {s t : ByteArray} {a m n : Nat}
theorem Sim.bat (S : Sim s t a m n) {i : Nat} (h1 : a ≤ i) (h2 : i < n) : bat t (i + m) = bat s i := by
  have e := S.at h1 h2
  have hn := S.hn
  have hm := S.hm
  rw [bt_bat' t (i + m) (by omega), bt_bat' s i (by omega)] at e
  omega
def sh3 (m : Nat) (x : Nat × Nat × Nat) : Nat × Nat × Nat := (x.1, x.2.1 + m, x.2.2)
theorem escF_sim (S : Sim s t a m n) {p : Nat} (ha : a ≤ p) (h0 : (escF s p).2.2 = 0) (hq : (escF s p).2.1 ≤ n) : escF t (p + m) = sh3 m (escF s p) := by
  have hn := S.hn
  have hm := S.hm
  have B := fun i (h1 : a ≤ i) (h2 : i < n) => S.bat h1 h2
  unfold escF at h0 hq ⊢
  by_cases h1 : p + 1 < s.size
  · rw [if_pos h1] at h0 hq
    have hpn : p + 1 < n := by
      by_cases a1 : bat s (p + 1) = 116
      · rw [if_pos a1] at hq; dsimp only at hq; omega
      rw [if_neg a1] at h0 hq
      by_cases a2 : bat s (p + 1) = 110
      · rw [if_pos a2] at hq; dsimp only at hq; omega
      rw [if_neg a2] at h0 hq
      by_cases a3 : bat s (p + 1) = 114
      · rw [if_pos a3] at hq; dsimp only at hq; omega
      rw [if_neg a3] at h0 hq
      by_cases a4 : bat s (p + 1) = 92 ∨ bat s (p + 1) = 93 ∨ bat s (p + 1) = 45 ∨ bat s (p + 1) = 94 ∨ bat s (p + 1) = 39 ∨ bat s (p + 1) = 34
      · rw [if_pos a4] at hq; dsimp only at hq; omega
      rw [if_neg a4] at h0 hq
      by_cases a5 : bat s (p + 1) = 120 ∧ p + 3 < s.size ∧ 0 ≤ hexv (bat s (p + 2)) ∧ 0 ≤ hexv (bat s (p + 3))
      · rw [if_pos a5] at hq; dsimp only at hq; omega
      · rw [if_neg a5] at h0; cases h0
    have b1 := B (p + 1) (by omega) hpn
    rw [show p + 1 + m = p + m + 1 by omega] at b1
    rw [if_pos h1, if_pos (show p + m + 1 < t.size by omega), b1]
    by_cases a1 : bat s (p + 1) = 116
    · rw [if_pos a1, if_pos a1]; unfold sh3; exact Prod.ext rfl (Prod.ext (by dsimp only; omega) rfl)
    rw [if_neg a1] at h0 hq
    rw [if_neg a1, if_neg a1]
    by_cases a2 : bat s (p + 1) = 110
    · rw [if_pos a2, if_pos a2]; unfold sh3; exact Prod.ext rfl (Prod.ext (by dsimp only; omega) rfl)
    rw [if_neg a2] at h0 hq
    rw [if_neg a2, if_neg a2]
    by_cases a3 : bat s (p + 1) = 114
    · rw [if_pos a3, if_pos a3]; unfold sh3; exact Prod.ext rfl (Prod.ext (by dsimp only; omega) rfl)
    rw [if_neg a3] at h0 hq
    rw [if_neg a3, if_neg a3]
    by_cases a4 : bat s (p + 1) = 92 ∨ bat s (p + 1) = 93 ∨ bat s (p + 1) = 45 ∨ bat s (p + 1) = 94 ∨ bat s (p + 1) = 39 ∨ bat s (p + 1) = 34
    · rw [if_pos a4, if_pos a4]; unfold sh3; exact Prod.ext rfl (Prod.ext (by dsimp only; omega) rfl)
    rw [if_neg a4] at h0 hq
    rw [if_neg a4, if_neg a4]
    by_cases a5 : bat s (p + 1) = 120 ∧ p + 3 < s.size ∧ 0 ≤ hexv (bat s (p + 2)) ∧ 0 ≤ hexv (bat s (p + 3))
    · rw [if_pos a5] at hq
      dsimp only at hq
      have b2 := B (p + 2) (by omega) (by omega)
      have b3 := B (p + 3) (by omega) (by omega)
      rw [show p + 2 + m = p + m + 2 by omega] at b2
      rw [show p + 3 + m = p + m + 3 by omega] at b3
      rw [b2, b3, if_pos a5, if_pos ⟨a5.1, by omega, a5.2.2⟩]
      unfold sh3; exact Prod.ext rfl (Prod.ext (by dsimp only; omega) rfl)
    · rw [if_neg a5] at h0; cases h0
  · rw [if_neg h1] at h0; cases h0
theorem byteF_sim (S : Sim s t a m n) {p : Nat} (ha : a ≤ p) (h0 : (byteF s p).2.2 = 0) (hq : (byteF s p).2.1 ≤ n) : byteF t (p + m) = sh3 m (byteF s p) := by
  have hn := S.hn
  have hm := S.hm
  have hs := byteF_strict h0
  have hpn : p < n := by omega
  have e := S.bat ha hpn
  unfold byteF at h0 hq ⊢
  rw [if_pos hs.2] at h0 hq
  rw [if_pos hs.2, if_pos (show p + m < t.size by omega)]
  unfold sayF at h0 hq ⊢
  rw [e]
  by_cases h2 : bat s p = 92
  · rw [if_pos h2] at h0 hq
    rw [if_pos h2, if_pos h2]
    exact escF_sim S ha h0 hq
  · rw [if_neg h2] at h0 hq
    rw [if_neg h2, if_neg h2]
    by_cases h3 : barred (bat s p)
    · rw [if_pos h3] at h0; cases h0
    · rw [if_neg h3, if_neg h3]
      unfold sh3; exact Prod.ext rfl (Prod.ext (by dsimp only; omega) rfl)
theorem itemF_sim (S : Sim s t a m n) {b b' p : Nat} (ha : a ≤ p) (h : (itemF s b p).2.2.2.2 = 0) (hq : (itemF s b p).2.2.1 < n) : itemF t b' (p + m) = ((itemF s b p).1, (itemF s b p).2.1, (itemF s b p).2.2.1 + m, 0, 0) := by
  have hn := S.hn
  have hm := S.hm
  have h0 := itemF_no h
  have hs := itemF_strict h
  have hst := byteF_strict h0
  have e := byteF_sim S ha h0 (by omega)
  have eb := S.bat (i := (byteF s p).2.1) (by omega) (by omega)
  have et : (byteF t (p + m)).2.2 = 0 := by rw [e]; exact h0
  have e1 : (byteF t (p + m)).1 = (byteF s p).1 := by rw [e]; rfl
  have e2 : (byteF t (p + m)).2.1 = (byteF s p).2.1 + m := by rw [e]; rfl
  have hbn : (byteF s p).2.1 < n := by omega
  unfold itemF at h hq ⊢
  rw [if_pos h0] at h hq
  rw [if_pos h0, if_pos et, e1, e2]
  by_cases h2 : (byteF s p).2.1 < s.size ∧ bat s (byteF s p).2.1 = 45
  · rw [if_pos h2] at h hq
    rw [if_pos h2, if_pos (show (byteF s p).2.1 + m < t.size ∧ bat t ((byteF s p).2.1 + m) = 45 from ⟨by omega, by rw [eb]; exact h2.2⟩)]
    by_cases h3 : (byteF s ((byteF s p).2.1 + 1)).2.2 = 0 ∧ (byteF s ((byteF s p).2.1 + 1)).1 < (byteF s p).1
    · rw [if_pos h3] at h; cases h
    · rw [if_neg h3] at h hq
      dsimp only at h hq
      have f := byteF_sim S (p := (byteF s p).2.1 + 1) (by omega) h (by omega)
      rw [show (byteF s p).2.1 + 1 + m = (byteF s p).2.1 + m + 1 by omega] at f
      have f1 : (byteF t ((byteF s p).2.1 + m + 1)).1 = (byteF s ((byteF s p).2.1 + 1)).1 := by rw [f]; rfl
      have f2 : (byteF t ((byteF s p).2.1 + m + 1)).2.1 = (byteF s ((byteF s p).2.1 + 1)).2.1 + m := by rw [f]; rfl
      have f3 : (byteF t ((byteF s p).2.1 + m + 1)).2.2 = 0 := by rw [f]; exact h
      rw [if_neg h3, if_neg (by rw [f1, f3]; rw [h] at h3; exact h3), f1, f2, f3]
      rfl
  · rw [if_neg h2] at hq
    rw [if_neg h2, if_neg (show ¬ ((byteF s p).2.1 + m < t.size ∧ bat t ((byteF s p).2.1 + m) = 45) from fun h3 => h2 ⟨by omega, by rw [← eb]; exact h3.2⟩)]
theorem itemsF_sim (S : Sim s t a m n) {b b' : Nat} : ∀ (k p : Nat) (l L : List (Nat × Nat)) (q pl : Nat), a ≤ p → itemsF s b k p l = (L, q, pl, 0) → p ≤ s.size → q ≤ n → ∀ k', q - p ≤ k' → itemsF t b' k' (p + m) l = (L, q + m, 0, 0) ∧ p < q
  | 0, p, l, L, q, pl, ha, h, hp, hqn, k', hk => by simp [itemsF] at h
  | k + 1, p, l, L, q, pl, ha, h, hp, hqn, k', hk => by
    have hn := S.hn
    have hm := S.hm
    rw [itemsF] at h
    by_cases h1 : p < s.size ∧ bat s p = 93
    · rw [if_pos h1] at h
      simp only [Prod.mk.injEq] at h
      obtain ⟨rfl, rfl, rfl, -⟩ := h
      obtain ⟨j, rfl⟩ : ∃ j, k' = j + 1 := ⟨k' - 1, by omega⟩
      refine ⟨?_, by omega⟩
      rw [itemsF, if_pos ⟨by omega, by rw [S.bat ha (by omega)]; exact h1.2⟩, show p + m + 1 = p + 1 + m by omega]
    · rw [if_neg h1] at h
      by_cases h2 : (itemF s b p).2.2.2.2 = 0
      · rw [if_pos h2] at h
        have hs := itemF_strict h2
        have hx := itemF_next s b p hp
        have hlt : (itemF s b p).2.2.1 < q := by
          have := itemsF_good (s := s) (t := s) (n := s.size) (Nat.le_refl _) (Nat.le_refl _) (fun _ _ => rfl) k _ _ L q pl h hx.2
          exact this.1
        obtain ⟨j, rfl⟩ : ∃ j, k' = j + 1 := ⟨k' - 1, by omega⟩
        have ea := itemF_sim S (b' := b') ha h2 (by omega)
        have ih := itemsF_sim S (b := b) (b' := b') k _ _ L q pl (by omega) h hx.2 hqn j (by omega)
        refine ⟨?_, by omega⟩
        rw [itemsF, if_neg (fun h3 => h1 ⟨by omega, by rw [← S.bat ha (by omega)]; exact h3.2⟩), ea, if_pos rfl]
        exact ih.1
      · rw [if_neg h2] at h
        simp only [Prod.mk.injEq] at h
        exact absurd h.2.2.2 h2
theorem parseF_sim (S : Sim s t a m n) {p : Nat} (ha : a ≤ p) (hp : p < s.size) (h : (parseF s p).2.2.2 = 0) (hq : (parseF s p).2.1 ≤ n) : parseF t (p + m) = ((parseF s p).1, (parseF s p).2.1 + m, 0, 0) := by
  have hn := S.hn
  have hm := S.hm
  unfold parseF at h hq
  by_cases c1 : p < s.size ∧ bat s p = 91
  · rw [if_pos c1] at h hq
    dsimp only at h hq
    have key : ∀ (o : Prop) [Decidable o] (q0 : Nat), (o ↔ (p + 1 < s.size ∧ bat s (p + 1) = 94)) → q0 = (if o then p + 2 else p + 1) → (itemsF s p (s.size + 1) q0 []).2.2.2 = 0 → (itemsF s p (s.size + 1) q0 []).2.1 ≤ n →
        parseF s p = ((if o then (Cls.ofFn (inRanges (itemsF s p (s.size + 1) q0 []).1)).not else Cls.ofFn (inRanges (itemsF s p (s.size + 1) q0 []).1)), (itemsF s p (s.size + 1) q0 []).2.1, 0, 0) →
        parseF t (p + m) = ((parseF s p).1, (parseF s p).2.1 + m, 0, 0) := by
      intro o _ q0 ho hq0 h0 h1 hP
      obtain ⟨L, q, pl, c, hr⟩ : ∃ L q pl c, itemsF s p (s.size + 1) q0 [] = (L, q, pl, c) := ⟨_, _, _, _, rfl⟩
      rw [hr] at h0 h1 hP
      dsimp only at h0 h1 hP
      subst h0
      have hq0s : q0 ≤ s.size := by
        rw [hq0]
        split
        · next ho' => have := ho.1 ho'; omega
        · omega
      have hs := itemsF_sim S (b' := p + m) (s.size + 1) q0 [] L q pl (by rw [hq0]; split <;> omega) hr hq0s h1 (t.size + 1) (by omega)
      have hpn : p + 1 < n ∨ p + 1 = n := by rw [hq0] at hs; split at hs <;> omega
      have b0 := S.bat (i := p) ha (by omega)
      have ho2 : o ↔ (p + m + 1 < t.size ∧ bat t (p + m + 1) = 94) := by
        constructor
        · intro ho'
          have h2 := ho.1 ho'
          rw [if_pos ho'] at hq0
          have b1 := S.bat (i := p + 1) (by omega) (by omega)
          rw [show p + 1 + m = p + m + 1 by omega] at b1
          exact ⟨by omega, by rw [b1]; exact h2.2⟩
        · intro h2
          refine Classical.byContradiction fun hno => ?_
          rw [if_neg hno] at hq0
          have h3 : p + 1 < n := by omega
          have b1 := S.bat (i := p + 1) (by omega) h3
          rw [show p + 1 + m = p + m + 1 by omega] at b1
          exact hno (ho.2 ⟨by omega, by rw [← b1]; exact h2.2⟩)
      rw [hP]
      dsimp only
      unfold parseF
      rw [if_pos ⟨by omega, by rw [b0]; exact c1.2⟩]
      dsimp only
      by_cases ho' : o
      · rw [if_pos ho'] at hq0
        have e : p + m + 2 = q0 + m := by omega
        simp only [if_pos (ho2.1 ho'), if_pos ho', e, hs.1, if_true]
      · rw [if_neg ho'] at hq0
        have e : p + m + 1 = q0 + m := by omega
        have hn2 : ¬ (p + m + 1 < t.size ∧ bat t (p + m + 1) = 94) := fun h => ho' (ho2.2 h)
        simp only [if_neg hn2, if_neg ho']
        rw [e, hs.1]
        rfl
    by_cases o : p + 1 < s.size ∧ bat s (p + 1) = 94
    · simp only [if_pos o] at h hq
      have hI : (itemsF s p (s.size + 1) (p + 2) []).2.2.2 = 0 := by
        by_cases q : (itemsF s p (s.size + 1) (p + 2) []).2.2.2 = 0
        · exact q
        · rw [if_neg q] at h; exact absurd h q
      rw [if_pos hI] at hq
      exact key _ (p + 2) Iff.rfl (if_pos o).symm hI hq (by unfold parseF; rw [if_pos c1]; simp only [if_pos o, if_pos hI])
    · simp only [if_neg o] at h hq
      have hI : (itemsF s p (s.size + 1) (p + 1) []).2.2.2 = 0 := by
        by_cases q : (itemsF s p (s.size + 1) (p + 1) []).2.2.2 = 0
        · exact q
        · rw [if_neg q] at h; exact absurd h q
      rw [if_pos hI] at hq
      exact key _ (p + 1) Iff.rfl (if_neg o).symm hI hq (by unfold parseF; rw [if_pos c1]; simp only [if_neg o, if_pos hI])
  · rw [if_neg c1] at h; cases h
theorem ext_sim (S : Sim s t a m n) {p e : Nat} (ha : a ≤ p) (he : e ≤ n) : t.extract (p + m) (e + m) = s.extract p e := by
  have hn := S.hn
  have hm := S.hm
  apply ByteArray.ext_getElem
  · rw [ByteArray.size_extract, ByteArray.size_extract]; omega
  · intro i h1 h2
    rw [ByteArray.size_extract] at h1 h2
    rw [ByteArray.getElem_extract, ByteArray.getElem_extract]
    have hb := S.bat (i := p + i) (by omega) (by omega)
    have h3 := bat_eq t (p + m + i) (by omega)
    have h4 := bat_eq s (p + i) (by omega)
    rw [show p + i + m = p + m + i by omega] at hb
    exact UInt8.toNat_inj.1 (by rw [h3, h4, hb])
theorem tok_sim (S : Sim s t a m n) {b : Nat} (ha : a ≤ b) (hb : b < n) (hc : codeOf (tokE s b) = 0) (he : endOf (tokE s b) ≤ (n : Int)) (hA : ∀ e : Nat, endOf (tokE s b) = (e : Int) → Ahead s e n) : tokE t (b + m) = shT m (tokE s b) := by
  have hn := S.hn
  have hm := S.hm
  have e0 := S.at ha hb
  unfold tokE at hc he hA ⊢
  rw [if_pos (show b < s.size by omega)] at hc he hA
  rw [if_pos (show b + m < t.size by omega), if_pos (show b < s.size by omega), e0]
  by_cases c1 : 0 ≤ signE (bt s (b : Int))
  · rw [if_pos c1, if_pos c1]
    unfold plainV shT
    exact Prod.ext rfl (Prod.ext (by show ((b + m : Nat) : Int) = (b : Int) + (m : Int); omega) (Prod.ext (by show ((b + m + 1 : Nat) : Int) = ((b + 1 : Nat) : Int) + (m : Int); omega) rfl))
  rw [if_neg c1] at hc he hA
  rw [if_neg c1, if_neg c1]
  by_cases c2 : letterB (bt s (b : Int)) = true
  · rw [if_pos c2] at hc he hA
    rw [if_pos c2, if_pos c2]
    unfold wordE at hc he hA ⊢
    by_cases q : nameE s b - b > 64
    · rw [if_pos q] at hc; exact absurd hc (by show (1 : Int) ≠ 0; decide)
    · rw [if_neg q] at he hA
      have he' : ((nameE s b : Nat) : Int) ≤ (n : Int) := he
      have hN := name_sim S ha hb (by omega) (hA _ rfl)
      rw [if_neg q, if_neg (by rw [hN]; omega), hN, ext_sim S ha (by omega)]
      unfold wordV shT
      exact Prod.ext rfl (Prod.ext (by show ((b + m : Nat) : Int) = (b : Int) + (m : Int); omega) (Prod.ext (by show ((nameE s b + m : Nat) : Int) = ((nameE s b : Nat) : Int) + (m : Int); omega) rfl))
  rw [if_neg c2] at hc he hA
  rw [if_neg c2, if_neg c2]
  by_cases c3 : bt s (b : Int) = 60 ∧ b + 1 < s.size ∧ bt s ((b + 1 : Nat) : Int) = 45
  · rw [if_pos c3] at he
    have he' : ((b + 2 : Nat) : Int) ≤ (n : Int) := he
    have b1 := S.at (i := b + 1) (by omega) (by omega)
    rw [show b + 1 + m = b + m + 1 by omega] at b1
    rw [if_pos c3, if_pos ⟨c3.1, by omega, by rw [b1]; exact c3.2.2⟩]
    unfold plainV shT
    exact Prod.ext rfl (Prod.ext (by show ((b + m : Nat) : Int) = (b : Int) + (m : Int); omega) (Prod.ext (by show ((b + m + 2 : Nat) : Int) = ((b + 2 : Nat) : Int) + (m : Int); omega) rfl))
  rw [if_neg c3] at hc he hA
  rw [if_neg c3]
  have c3t : ¬ (bt s (b : Int) = 60 ∧ b + m + 1 < t.size ∧ bt t ((b + m + 1 : Nat) : Int) = 45) := fun h => by
    -- a lone < is no token
    rw [if_neg (by rw [h.1]; decide), if_neg (by rw [h.1]; decide), if_neg (by rw [h.1]; decide), if_neg (by rw [h.1]; decide)] at hc
    exact absurd hc (by show (40 : Int) ≠ 0; decide)
  rw [if_neg c3t]
  by_cases c4 : bt s (b : Int) = 123
  · rw [if_pos c4] at hc he
    rw [if_pos c4, if_pos c4]
    exact count_sim S ha hb hc he
  rw [if_neg c4] at hc he hA
  rw [if_neg c4, if_neg c4]
  by_cases c5 : bt s (b : Int) = 39 ∨ bt s (b : Int) = 34
  · rw [if_pos c5] at hc he hA
    rw [if_pos c5, if_pos c5]
    have h := lit_sim S ha hb (s.size + 1) (t.size + 1) [] (b + 1) (by omega) hc he hA (by omega)
    rw [show b + 1 + m = b + m + 1 by omega] at h
    exact h
  rw [if_neg c5] at hc he hA
  rw [if_neg c5, if_neg c5]
  by_cases c6 : bt s (b : Int) = 91
  · rw [if_pos c6] at hc he
    rw [if_pos c6, if_pos c6]
    have es : parseI s (b : Int) = parseF s b := by unfold parseI; rw [if_neg (by omega), Int.toNat_natCast]
    have et : parseI t ((b + m : Nat) : Int) = parseF t (b + m) := by unfold parseI; rw [if_neg (by omega), Int.toNat_natCast]
    unfold classV at hc he ⊢
    rw [es] at hc he ⊢
    rw [et]
    by_cases q : (((parseF s b).2.2.2 : Nat) : Int) = 0
    · rw [if_pos q] at he
      have he' : (((parseF s b).2.1 : Nat) : Int) ≤ (n : Int) := he
      have hP := parseF_sim S ha (by omega) (by omega) (by omega : (parseF s b).2.1 ≤ n)
      rw [if_pos q, hP]
      dsimp only
      rw [if_pos (show ((0 : Nat) : Int) = 0 by rfl)]
      unfold shT
      exact Prod.ext rfl (Prod.ext (by show ((b + m : Nat) : Int) = (b : Int) + (m : Int); omega) (Prod.ext (by show (((parseF s b).2.1 + m : Nat) : Int) = (((parseF s b).2.1 : Nat) : Int) + (m : Int); omega) rfl))
    · rw [if_neg q] at hc
      exact absurd hc q
  rw [if_neg c6] at hc he hA
  rw [if_neg c6, if_neg c6]
  by_cases c7 : bt s (b : Int) = 64 ∨ bt s (b : Int) = 94
  · rw [if_pos c7] at hc he hA
    rw [if_pos c7, if_pos c7]
    unfold markE at hc he ⊢
    by_cases q1 : ownE s (b + 1) = b + 1
    · rw [if_pos q1] at hc; exact absurd hc (by show (40 : Int) ≠ 0; decide)
    · rw [if_neg q1] at hc he
      by_cases q2 : ownE s (b + 1) - (b + 1) > 64
      · rw [if_pos q2] at hc; exact absurd hc (by show (1 : Int) ≠ 0; decide)
      · rw [if_neg q2] at he
        have he' : ((ownE s (b + 1) : Nat) : Int) ≤ (n : Int) := he
        have ho := own_sim S (p := b + 1) (by omega) (by omega) (by omega)
        have hx := ext_sim S (p := b + 1) (e := ownE s (b + 1)) (by omega) (by omega)
        rw [show b + 1 + m = b + m + 1 by omega] at ho hx
        rw [if_neg q1, if_neg q2, if_neg (by rw [ho]; omega), if_neg (by rw [ho]; omega), ho, hx, e0]
        unfold wordV shT
        exact Prod.ext rfl (Prod.ext (by show ((b + m : Nat) : Int) = (b : Int) + (m : Int); omega) (Prod.ext (by show ((ownE s (b + 1) + m : Nat) : Int) = ((ownE s (b + 1) : Nat) : Int) + (m : Int); omega) rfl))
  · rw [if_neg c7] at hc; exact absurd hc (by show (40 : Int) ≠ 0; decide)
end
end Go.Proofs.YtldjdcdoegjmoaaDoor.P
set_option linter.unusedVariables false
set_option linter.unusedSimpArgs false
namespace Go.Proofs.YtldjdcdoegjmoaaDoor.P
open Go.RowKit Go.Proofs.YtldjdcdoegjmoaaDoorW.PrintWords Go.Proofs.YtldjdcdoegjmoaaDoorW.PrintLast
theorem bt_out (s : ByteArray) (i : Nat) (h : s.size ≤ i) : bt s (i : Int) = 0 := by rw [bt_nat, dif_neg (by omega)]
theorem run_same {s t : ByteArray} {a m n : Nat} (hn : n ≤ s.size) (hm : n + m ≤ t.size) (hb : ∀ i, a ≤ i → i < n → bt t ((i + m : Nat) : Int) = bt s (i : Int)) (P : Int → Bool) :
    ∀ (d p : Nat), n - p ≤ d → a ≤ p → p ≤ n → (runE P s p < n → runE P t (p + m) = runE P s p + m) ∧ (n ≤ runE P s p → runE P t (p + m) = runE P t (n + m))
  | 0, p, hd, ha, hp => by
    obtain rfl : p = n := by omega
    have := runE_ge P s p
    exact ⟨fun h => by omega, fun _ => rfl⟩
  | d + 1, p, hd, ha, hp => by
    by_cases hlt : p < n
    · have e := hb p ha hlt
      by_cases h : P (bt s (p : Int)) = true
      · have ih := run_same hn hm hb P d (p + 1) (by omega) (by omega) (by omega)
        rw [runE_yes (by omega) h, runE_yes (p := p + m) (by omega) (by rw [e]; exact h), show p + m + 1 = p + 1 + m by omega]
        exact ih
      · rw [runE_no h, runE_no (by rw [e]; exact h)]
        exact ⟨fun _ => rfl, fun h => by omega⟩
    · obtain rfl : p = n := by omega
      have := runE_ge P s p
      exact ⟨fun h => by omega, fun _ => rfl⟩
theorem blank_stop {s : ByteArray} {d p : Nat} (h : ¬ p < s.size ∨ (spaceB (bt s (p : Int)) = false ∧ bt s (p : Int) ≠ 35)) : blankE s d p = p := by
  cases d with
  | zero => rfl
  | succ d =>
    rw [blankE]
    rcases h with h | h
    · rw [if_neg h]
    · by_cases q : p < s.size
      · rw [if_pos q, if_neg (by rw [h.1]; decide), if_neg h.2]
      · rw [if_neg q]
/-- Where a reading of blanks ends, none stands. -/
theorem blank_ends (s : ByteArray) : ∀ (d p : Nat), p ≤ s.size → s.size < p + d → ¬ blankE s d p < s.size ∨ (spaceB (bt s (blankE s d p : Int)) = false ∧ bt s (blankE s d p : Int) ≠ 35)
  | 0, p, hp, hd => by omega
  | d + 1, p, hp, hd => by
    rw [blankE]
    by_cases q : p < s.size
    · rw [if_pos q]
      by_cases h : spaceB (bt s (p : Int)) = true
      · rw [if_pos h]; exact blank_ends s d (p + 1) (by omega) (by omega)
      · rw [if_neg h]
        by_cases h35 : bt s (p : Int) = 35
        · rw [if_pos h35]
          have h2 : p < runE notNL s p := runE_more q (by unfold notNL; rw [h35]; decide)
          exact blank_ends s d _ (runE_size _ _ _ hp) (by omega)
        · rw [if_neg h35]; exact .inr ⟨by simpa using h, h35⟩
    · rw [if_neg q]; exact .inl q
theorem blank_sim {s t : ByteArray} {a m n : Nat} (hn : n ≤ s.size) (hm : n + m ≤ t.size) (hb : ∀ i, a ≤ i → i < n → bt t ((i + m : Nat) : Int) = bt s (i : Int)) :
    ∀ (d d' p : Nat), a ≤ p → p ≤ n → s.size < p + d → t.size < p + m + d' → (blankE s d p < n ∨ (n = s.size ∧ n + m = t.size)) → blankE t d' (p + m) = blankE s d p + m
  | 0, d', p, ha, hp, hd, hd', h => by omega
  | d + 1, d', p, ha, hp, hd, hd', h => by
    obtain ⟨d', rfl⟩ : ∃ j, d' = j + 1 := ⟨d' - 1, by omega⟩
    by_cases hlt : p < n
    · have e := hb p ha hlt
      have es : blankE s (d + 1) p = if spaceB (bt s (p : Int)) = true then blankE s d (p + 1) else if bt s (p : Int) = 35 then blankE s d (runE notNL s p) else p := by rw [blankE, if_pos (show p < s.size by omega)]
      rw [es] at h ⊢
      rw [blankE, if_pos (show p + m < t.size by omega), e]
      by_cases hsp : spaceB (bt s (p : Int)) = true
      · rw [if_pos hsp] at h
        rw [if_pos hsp, if_pos hsp, show p + m + 1 = p + 1 + m by omega]
        exact blank_sim hn hm hb d d' (p + 1) (by omega) (by omega) (by omega) (by omega) h
      · rw [if_neg hsp] at h
        rw [if_neg hsp, if_neg hsp]
        by_cases h35 : bt s (p : Int) = 35
        · rw [if_pos h35] at h
          rw [if_pos h35, if_pos h35]
          have h2 : p < runE notNL s p := runE_more (by omega) (by unfold notNL; rw [h35]; decide)
          have h3 := runE_size notNL s p (by omega)
          have hr := run_same hn hm hb notNL _ p (Nat.le_refl _) ha (by omega)
          have h4 := blankE_le s d _ h3
          rcases Nat.lt_or_ge (runE notNL s p) n with q | q
          · rw [hr.1 q]
            exact blank_sim hn hm hb d d' _ (by omega) (by omega) (by omega) (by omega) h
          · have h5 : n = s.size ∧ n + m = t.size := by
              rcases h with h | h
              · omega
              · exact h
            have e1 : runE notNL s p = n := by omega
            have e2 : runE notNL t (p + m) = n + m := by rw [hr.2 q]; exact runE_end (by omega)
            rw [e1, e2, blank_stop (.inl (by omega)), blank_stop (.inl (by omega))]
        · rw [if_neg h35, if_neg h35]
    · obtain rfl : p = n := by omega
      have h3 := blankE_le s (d + 1) p (by omega)
      have h5 : p = s.size ∧ p + m = t.size := by
        rcases h with h | h
        · omega
        · exact h
      rw [blank_stop (.inl (by omega)), blank_stop (.inl (by omega))]
/-- Are bytes blanks alone? -/
def blankS (u : ByteArray) : Nat → Nat → Bool
  | 0, _ => true
  | d + 1, i => if i < u.size then (if spaceB (bt u (i : Int)) = true then blankS u d (i + 1) else if bt u (i : Int) = 35 then blankS u d (runE notNL u i + 1) else false) else true
/-- Behind a newline blanks go on. -/
theorem blankS_nl (u : ByteArray) : ∀ (d i : Nat), u.size < i + d → i < u.size → blankS u d i = true → ∃ d', u.size < runE notNL u i + 1 + d' ∧ blankS u d' (runE notNL u i + 1) = true
  | 0, i, hd, hi, h => by omega
  | d + 1, i, hd, hi, h => by
    rw [blankS, if_pos hi] at h
    by_cases h10 : bt u (i : Int) = 10
    · have hr : runE notNL u i = i := runE_no (by unfold notNL; rw [h10]; decide)
      rw [h10, if_pos (by decide)] at h
      rw [hr]
      exact ⟨d, by omega, h⟩
    · have hr : runE notNL u i = runE notNL u (i + 1) := runE_yes hi (notNL_of h10)
      by_cases hsp : spaceB (bt u (i : Int)) = true
      · rw [if_pos hsp] at h
        rw [hr]
        rcases Nat.lt_or_ge (i + 1) u.size with q | q
        · exact blankS_nl u d (i + 1) (by omega) q h
        · rw [runE_end (by omega)]
          exact ⟨0, by omega, rfl⟩
      · rw [if_neg hsp] at h
        by_cases h35 : bt u (i : Int) = 35
        · rw [if_pos h35] at h
          have h2 : i < runE notNL u i := runE_more hi (notNL_of h10)
          exact ⟨d, by omega, h⟩
        · rw [if_neg h35] at h; cases h
/-- A text, and another one with a third put into it. -/
structure Put (s t u : ByteArray) (c : Nat) : Prop where
  hc : c ≤ s.size
  hz : t.size = s.size + u.size
  hA : ∀ i, i < c → bt t (i : Int) = bt s (i : Int)
  hP : ∀ i, i < u.size → bt t ((c + i : Nat) : Int) = bt u (i : Int)
  hS : ∀ i, c ≤ i → i < s.size → bt t ((i + u.size : Nat) : Int) = bt s (i : Int)
  h0 : 0 < u.size
  hl : bt u ((u.size - 1 : Nat) : Int) = 10
  hbl : blankS u (u.size + 1) 0 = true
section
variable {s t u : ByteArray} {c : Nat}
theorem Put.run (T : Put s t u c) : ∀ (d i : Nat), u.size - i ≤ d → i < u.size → runE notNL u i < u.size ∧ bt u ((runE notNL u i : Nat) : Int) = 10 ∧ runE notNL t (c + i) = c + runE notNL u i
  | 0, i, hd, hi => by omega
  | d + 1, i, hd, hi => by
    have e := T.hP i hi
    have hz := T.hz
    have hc := T.hc
    by_cases h10 : bt u (i : Int) = 10
    · have hr : runE notNL u i = i := runE_no (by unfold notNL; rw [h10]; decide)
      have hr2 : runE notNL t (c + i) = c + i := runE_no (by rw [e]; unfold notNL; rw [h10]; decide)
      rw [hr, hr2]
      exact ⟨hi, h10, rfl⟩
    · have hr : runE notNL u i = runE notNL u (i + 1) := runE_yes hi (notNL_of h10)
      have hr2 : runE notNL t (c + i) = runE notNL t (c + i + 1) := runE_yes (by omega) (by rw [e]; exact notNL_of h10)
      have hi2 : i + 1 < u.size := by
        rcases Nat.lt_or_ge (i + 1) u.size with q | q
        · exact q
        · exfalso
          have hl := T.hl
          rw [show u.size - 1 = i by omega] at hl
          exact h10 hl
      have ih := T.run d (i + 1) (by omega) hi2
      rw [hr, hr2]
      exact ih
theorem Put.over (T : Put s t u c) (hst : c = s.size ∨ (spaceB (bt s (c : Int)) = false ∧ bt s (c : Int) ≠ 35)) : ∀ (d d' i : Nat), u.size < i + d → i ≤ u.size → blankS u d i = true → t.size < c + i + d' → blankE t d' (c + i) = c + u.size
  | 0, d', i, hd, hi, h, hd' => by omega
  | d + 1, d', i, hd, hi, h, hd' => by
    have hz := T.hz
    have hc := T.hc
    obtain ⟨d', rfl⟩ : ∃ j, d' = j + 1 := ⟨d' - 1, by omega⟩
    by_cases hlt : i < u.size
    · have e := T.hP i hlt
      rw [blankS, if_pos hlt] at h
      rw [blankE, if_pos (by omega), e]
      by_cases hsp : spaceB (bt u (i : Int)) = true
      · rw [if_pos hsp] at h
        rw [if_pos hsp]
        exact T.over hst d d' (i + 1) (by omega) (by omega) h (by omega)
      · rw [if_neg hsp] at h
        rw [if_neg hsp]
        by_cases h35 : bt u (i : Int) = 35
        · rw [if_pos h35] at h
          rw [if_pos h35]
          have hr := T.run _ i (Nat.le_refl _) hlt
          have h2 : i < runE notNL u i := runE_more hlt (by unfold notNL; rw [h35]; decide)
          rw [hr.2.2]
          obtain ⟨d', rfl⟩ : ∃ j, d' = j + 1 := ⟨d' - 1, by omega⟩
          rw [blankE, if_pos (by omega), T.hP _ hr.1, hr.2.1, if_pos (by decide)]
          exact T.over hst d d' (runE notNL u i + 1) (by omega) (by omega) h (by omega)
        · rw [if_neg h35] at h; cases h
    · obtain rfl : i = u.size := by omega
      refine blank_stop ?_
      rcases Nat.lt_or_ge c s.size with q | q
      · have hS := T.hS c (Nat.le_refl _) q
        rcases hst with h3 | h3
        · omega
        · exact .inr (by rw [hS]; exact h3)
      · exact .inl (by omega)
/-- The blanks ahead of the place, and those that were put there. -/
theorem Put.mid (T : Put s t u c) (hst : c = s.size ∨ (spaceB (bt s (c : Int)) = false ∧ bt s (c : Int) ≠ 35)) : ∀ (d d' p : Nat), p ≤ c → s.size < p + d → t.size < p + d' → blankE s d p = c → blankE t d' p = c + u.size
  | 0, d', p, hp, hd, hd', h => by have := T.hc; omega
  | d + 1, d', p, hp, hd, hd', h => by
    have hz := T.hz
    have hc := T.hc
    have h0 := T.h0
    have hov := fun d' (hd' : t.size < c + 0 + d') => T.over hst (u.size + 1) d' 0 (by omega) (by omega) T.hbl hd'
    rcases Nat.lt_or_ge p c with hlt | hge
    · obtain ⟨d', rfl⟩ : ∃ j, d' = j + 1 := ⟨d' - 1, by omega⟩
      have e := T.hA p hlt
      rw [blankE, if_pos (by omega)] at h
      rw [blankE, if_pos (by omega), e]
      by_cases hsp : spaceB (bt s (p : Int)) = true
      · rw [if_pos hsp] at h
        rw [if_pos hsp]
        exact T.mid hst d d' (p + 1) (by omega) (by omega) (by omega) h
      · rw [if_neg hsp] at h
        rw [if_neg hsp]
        by_cases h35 : bt s (p : Int) = 35
        · rw [if_pos h35] at h
          rw [if_pos h35]
          have h2 : p < runE notNL s p := runE_more (by omega) (by unfold notNL; rw [h35]; decide)
          have h3 := runE_size notNL s p (by omega)
          have h4 := blankE_le s d _ h3
          have hr := run_same (s := s) (t := t) (a := 0) (m := 0) (n := c) hc (by omega) (fun i _ hi => T.hA i hi) notNL _ p (Nat.le_refl _) (Nat.zero_le _) (by omega)
          rcases Nat.lt_or_ge (runE notNL s p) c with q | q
          · have e1 := hr.1 q
            simp only [Nat.add_zero] at e1
            rw [e1]
            exact T.mid hst d d' _ (by omega) (by omega) (by omega) h
          · have e1 := hr.2 q
            simp only [Nat.add_zero] at e1
            rw [e1]
            have hR := T.run _ 0 (Nat.le_refl _) h0
            rw [Nat.add_zero] at hR
            obtain ⟨d'', hd'', hb⟩ := blankS_nl u (u.size + 1) 0 (by omega) h0 T.hbl
            rw [hR.2.2]
            obtain ⟨d', rfl⟩ : ∃ j, d' = j + 1 := ⟨d' - 1, by omega⟩
            rw [blankE, if_pos (by omega), T.hP _ hR.1, hR.2.1, if_pos (by decide)]
            exact T.over hst d'' d' (runE notNL u 0 + 1) hd'' (by omega) hb (by omega)
        · rw [if_neg h35] at h; omega
    · obtain rfl : p = c := by omega
      exact hov d' (by omega)
end
end Go.Proofs.YtldjdcdoegjmoaaDoor.P
