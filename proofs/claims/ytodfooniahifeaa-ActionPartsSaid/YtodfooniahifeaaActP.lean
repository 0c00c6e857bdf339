/- The parts of a node: what the code says and what the document says are one. -/
import Derived.Test.YtodfooniahifeaaPActionPartsx3
import Derived.Test.YtodfooniahifeaaPActionPartsx4
import Derived.Test.YtodfooniahifeaaPActionPartsx5
import Derived.Test.YtodfooniahifeaaPActionPartsx6
set_option linter.unusedVariables false
set_option linter.unusedSimpArgs false
namespace Go.Proofs.Ytodfooniahifeaa.Ap
open Go.RowKit Go.Proofs.YtodfooniahifeaaW.PrintWords Go.Proofs.Ytodfooniahifeaa.PActionParts
/-- r parts back from at. -/
def Wk (l : List Int) : Nat → Int → Int
  | 0, at_ => at_
  | r + 1, at_ => if 0 < at_ then Wk l r (l.getD (at_ - 1).toNat 0) else -1
def nOf (b : List S33) (i : Nat) : Int := (rd_T33 b i).f1
def row (b : List S33) (l : List Int) (i : Nat) : Int := if nOf b i < 0 then -1 else Wk l (nOf b i).toNat i
def St (b : List S33) : Nat → List Int
  | 0 => []
  | i + 1 => St b i ++ [row b (St b i) i]
theorem St_len (b : List S33) : ∀ i, (St b i).length = i
  | 0 => rfl
  | i + 1 => by unfold St; simp [St_len b i]
/-- Where extents begin: not behind, or nowhere. -/
def Okl (l : List Int) : Prop := ∀ j : Nat, j < l.length → -1 ≤ l.getD j 0 ∧ l.getD j 0 ≤ (j : Int)
theorem Wk_neg (l : List Int) : ∀ r, Wk l r (-1) = -1
  | 0 => rfl
  | r + 1 => by unfold Wk; simp
theorem Wk_bound {l : List Int} (hl : Okl l) : ∀ (r : Nat) (a : Int), -1 ≤ a → a ≤ l.length → -1 ≤ Wk l r a ∧ Wk l r a ≤ a
  | 0, a, h1, h2 => ⟨h1, Int.le_refl _⟩
  | r + 1, a, h1, h2 => by
    unfold Wk
    by_cases h : 0 < a
    · rw [if_pos h]
      have q := hl (a - 1).toNat (by omega)
      have := Wk_bound hl r _ q.1 (by omega)
      omega
    · rw [if_neg h]; omega
theorem Wk_far {l : List Int} (hl : Okl l) : ∀ (r : Nat) (a : Int), -1 ≤ a → a < r → a ≤ l.length → Wk l r a = -1
  | 0, a, h1, h2, h3 => by unfold Wk; omega
  | r + 1, a, h1, h2, h3 => by
    unfold Wk
    by_cases h : 0 < a
    · rw [if_pos h]
      have q := hl (a - 1).toNat (by omega)
      exact Wk_far hl r _ q.1 (by omega) (by omega)
    · rw [if_neg h]
theorem row_bound {b : List S33} {l : List Int} (hl : Okl l) : -1 ≤ row b l l.length ∧ row b l l.length ≤ (l.length : Int) := by
  unfold row
  split
  · omega
  · exact Wk_bound hl _ _ (by omega) (Int.le_refl _)
theorem St_ok (b : List S33) : ∀ i, Okl (St b i)
  | 0 => fun j hj => by simp [St] at hj
  | i + 1 => fun j hj => by
    have ih := St_ok b i
    have hi := St_len b i
    rw [St_len] at hj
    unfold St
    by_cases h : j < i
    · have e : (St b i ++ [row b (St b i) i]).getD j 0 = (St b i).getD j 0 := by simp [List.getD, List.getElem?_append_left (show j < (St b i).length by omega)]
      rw [e]
      exact ih j (by omega)
    · obtain rfl : j = i := by omega
      have e : (St b j ++ [row b (St b j) j]).getD j 0 = row b (St b j) j := by simp [List.getD, List.getElem?_append_right (show (St b j).length ≤ j by omega), hi]
      rw [e]
      have := row_bound (b := b) ih
      rwa [hi] at this
theorem St_get (b : List S33) {i j : Nat} (h : i ≤ j) : (St b j).take i = St b i := by
  induction j with
  | zero => obtain rfl : i = 0 := by omega
            rfl
  | succ j ih =>
    by_cases q : i = j + 1
    · subst q; rw [List.take_of_length_le (by rw [St_len]; omega)]
    · conv => lhs; unfold St
      rw [List.take_append_of_le_length (by rw [St_len]; omega), ih (by omega)]
theorem wr {x : Int} (h1 : -9223372036854775808 ≤ x) (h2 : x < 9223372036854775808) : wrap64 x = x := by unfold wrap64; omega
theorem rd_eq (l : List Int) (i : Int) : rd l i = l.getD i.toNat 0 := rfl

section
variable {b : List S33} {L x3 : List Int} {i : Nat}
theorem act_l1 (hL : Okl L) (hi : L.length = i) (hlen : i < x3.length) (hsm : x3.length ≤ 35184372088832) (hx : ∀ j, j < i → x3.getD j 0 = L.getD j 0) (N : Int) (x11 : List S33) (x12 f0 : Int) (f2 f3 : ByteArray) (f4 f5 : Int) :
    ∀ (r : Nat) (a x7 : Int), 0 ≤ x7 → r = (N - x7).toNat → -1 ≤ a → a ≤ i → (0 < a → N ≤ 35184372088832) → (0 < a ∨ r = 0 ∨ a = -1) →
      ∃ d, ∀ k, action_begins.l1 (k + d) x3 i a x7 x11 x12 i f0 N f2 f3 f4 f5 = action_begins.l0 k (x3.set i (Wk L r a)) x11 x12 (wrap64 ((i : Int) + 1))
  | 0, a, x7, h7, hr, ha1, ha2, hN, hc => by
    refine ⟨2, fun k => ?_⟩
    rw [action_begins.l1.eq_def]
    simp only []
    rw [if_neg (by omega), action_begins.j4.eq_def]
    simp only []
    rw [if_neg (by simp), if_pos (by omega), if_pos (by omega)]
    simp [Wk]
  | r + 1, a, x7, h7, hr, ha1, ha2, hN, hc => by
    by_cases h : 0 < a
    · have hN := hN h
      have e1 : wrap64 (a - 1) = a - 1 := wr (by omega) (by omega)
      have e2 : wrap64 (x7 + 1) = x7 + 1 := wr (by omega) (by omega)
      have e3 : wrap64 (N - 1) = N - 1 := wr (by omega) (by omega)
      have e4 : rd x3 (a - 1) = L.getD (a - 1).toNat 0 := by rw [rd_eq]; exact hx _ (by omega)
      have q := hL (a - 1).toNat (by omega)
      have hW : Wk L (r + 1) a = Wk L r (L.getD (a - 1).toNat 0) := by conv => lhs; unfold Wk
                                                                       rw [if_pos h]
      rw [hW]
      generalize L.getD (a - 1).toNat 0 = v at e4 q ⊢
      have main : ∀ a', (a' = v ∨ (v = 0 ∧ a' = -1 ∧ r ≠ 0)) → (0 < a' ∨ r = 0 ∨ a' = -1) → ∃ d, ∀ k, action_begins.l1 (k + d) x3 i a' (x7 + 1) x11 x12 i f0 N f2 f3 f4 f5 = action_begins.l0 k (x3.set i (Wk L r v)) x11 x12 (wrap64 ((i : Int) + 1)) := by
        intro a' h1 h2
        obtain ⟨d, hd⟩ := act_l1 hL hi hlen hsm hx N x11 x12 f0 f2 f3 f4 f5 r a' (x7 + 1) (by omega) (by omega) (by omega) (by omega) (fun _ => hN) h2
        refine ⟨d, fun k => ?_⟩
        rw [hd]
        rcases h1 with rfl | ⟨rfl, rfl, h3⟩
        · rfl
        · rw [Wk_neg]
          cases r with
          | zero => omega
          | succ r => unfold Wk; simp
      have go : ∀ a', (∀ k, action_begins.l1 (k + 2) x3 i a x7 x11 x12 i f0 N f2 f3 f4 f5 = action_begins.l1 k x3 i a' (x7 + 1) x11 x12 i f0 N f2 f3 f4 f5) → (a' = v ∨ (v = 0 ∧ a' = -1 ∧ r ≠ 0)) → (0 < a' ∨ r = 0 ∨ a' = -1) → ∃ d, ∀ k, action_begins.l1 (k + d) x3 i a x7 x11 x12 i f0 N f2 f3 f4 f5 = action_begins.l0 k (x3.set i (Wk L r v)) x11 x12 (wrap64 ((i : Int) + 1)) := by
        intro a' h1 h2 h3
        obtain ⟨d, hd⟩ := main a' h2 h3
        exact ⟨d + 2, fun k => by rw [← Nat.add_assoc, h1, hd]⟩
      have st : ∀ k, action_begins.l1 (k + 2) x3 i a x7 x11 x12 i f0 N f2 f3 f4 f5 = if v = 0 then (if x7 < N - 1 then action_begins.l1 k x3 i (-1) (x7 + 1) x11 x12 i f0 N f2 f3 f4 f5 else action_begins.l1 k x3 i v (x7 + 1) x11 x12 i f0 N f2 f3 f4 f5) else action_begins.l1 k x3 i v (x7 + 1) x11 x12 i f0 N f2 f3 f4 f5 := by
        intro k
        rw [action_begins.l1.eq_def]
        simp only []
        rw [if_pos (by omega), action_begins.j4.eq_def]
        simp only [e1, e2, e3, e4]
        rw [if_pos (by simp; omega), if_pos (by omega), if_pos (by omega)]
      by_cases hv : v = 0
      · by_cases h5 : x7 < N - 1
        · exact go (-1) (fun k => by rw [st, if_pos hv, if_pos h5]) (.inr ⟨hv, rfl, by omega⟩) (by omega)
        · exact go v (fun k => by rw [st, if_pos hv, if_neg h5]) (.inl rfl) (by omega)
      · exact go v (fun k => by rw [st, if_neg hv]) (.inl rfl) (by omega)
    · obtain rfl : a = -1 := by omega
      refine ⟨2, fun k => ?_⟩
      rw [Wk_neg, action_begins.l1.eq_def]
      simp only []
      rw [if_pos (by omega), action_begins.j4.eq_def]
      simp only []
      rw [if_neg (by simp), if_pos (by omega), if_pos (by omega)]
      simp
theorem ref_l1 (hL : Okl L) (hi : L.length = i) (hlen : i < x3.length) (hb : b.length = x3.length) (hsm : x3.length ≤ 35184372088832) (hx : ∀ j, j < i → x3.getD j 0 = L.getD j 0) (hset : x3.set i (-1) = x3) :
    ∀ (r : Nat) (a x6 : Int), 0 ≤ x6 → x6 + r = nOf b i → 0 ≤ a → x6 + a ≤ i →
      ∃ d, ∀ k, dowelref24_Begins.l1 (k + d) b x3 i a x6 = dowelref24_Begins.l0 k b (x3.set i (Wk L r a)) (wrap64 ((i : Int) + 1))
  | 0, a, x6, h6, hr, ha1, ha2 => by
    refine ⟨1, fun k => ?_⟩
    unfold nOf at hr
    rw [dowelref24_Begins.l1.eq_def]
    simp only []
    rw [if_pos (by omega), if_pos (by omega), if_neg (by omega), if_pos (by omega), if_pos (by omega)]
    simp [Wk]
  | r + 1, a, x6, h6, hr, ha1, ha2 => by
    have hr' := hr
    unfold nOf at hr'
    by_cases h : 0 < a
    · have e1 : wrap64 (a - 1) = a - 1 := wr (by omega) (by omega)
      have e2 : wrap64 (x6 + 1) = x6 + 1 := wr (by omega) (by omega)
      have e4 : rd x3 (a - 1) = L.getD (a - 1).toNat 0 := by rw [rd_eq]; exact hx _ (by omega)
      have q := hL (a - 1).toNat (by omega)
      have hW : Wk L (r + 1) a = Wk L r (L.getD (a - 1).toNat 0) := by conv => lhs; unfold Wk
                                                                       rw [if_pos h]
      rw [hW]
      generalize L.getD (a - 1).toNat 0 = v at e4 q ⊢
      by_cases hv : v ≥ 0
      · obtain ⟨d, hd⟩ := ref_l1 hL hi hlen hb hsm hx hset r v (x6 + 1) (by omega) (by omega) hv (by omega)
        refine ⟨d + 1, fun k => ?_⟩
        rw [← Nat.add_assoc, dowelref24_Begins.l1.eq_def]
        simp only [e1, e2, e4]
        rw [if_pos (by omega), if_pos (by omega), if_pos (by omega), if_pos (by omega), if_pos (by omega), if_pos (by omega), if_pos hv, hd]
      · refine ⟨1, fun k => ?_⟩
        obtain rfl : v = -1 := by omega
        rw [Wk_neg, hset, dowelref24_Begins.l1.eq_def]
        simp only [e1, e2, e4]
        rw [if_pos (by omega), if_pos (by omega), if_pos (by omega), if_pos (by omega), if_pos (by omega), if_pos (by omega), if_neg hv, if_neg (by omega)]
    · refine ⟨1, fun k => ?_⟩
      have hW : Wk L (r + 1) a = -1 := by unfold Wk; rw [if_neg h]
      rw [hW, hset, dowelref24_Begins.l1.eq_def]
      simp only []
      rw [if_pos (by omega), if_pos (by omega), if_pos (by omega), if_neg (by omega), if_neg (by omega)]
end
theorem take_get {x3 L : List Int} {i : Nat} (h : x3.take i = L) (j : Nat) (hj : j < i) : x3.getD j 0 = L.getD j 0 := by
  rw [← h]; simp [List.getD, List.getElem?_take, hj]
theorem take_set {x3 : List Int} {b : List S33} {i : Nat} (h : x3.take i = St b i) (hi : i < x3.length) : (x3.set i (row b (St b i) i)).take (i + 1) = St b (i + 1) := by
  rw [List.take_add_one, List.take_set_of_le (Nat.le_refl _), h]
  show _ = St b i ++ [row b (St b i) i]
  simp [hi]
theorem act_l0 {b : List S33} (hsm : b.length ≤ 35184372088832) : ∀ (m i : Nat) (x3 : List Int), i + m = b.length → x3.length = b.length → x3.take i = St b i → ∃ d, ∀ k, action_begins.l0 (k + d) x3 b b.length i = some (St b b.length)
  | 0, i, x3, hm, hl, ht => ⟨1, fun k => by
    rw [action_begins.l0.eq_def]
    simp only []
    rw [if_neg (by omega), ← show i = b.length by omega, ← ht, List.take_of_length_le (by omega)]⟩
  | m + 1, i, x3, hm, hl, ht => by
    have hi : i < x3.length := by omega
    have e1 : wrap64 ((i : Int) + 1) = ((i + 1 : Nat) : Int) := by rw [wr (by omega) (by omega)]; omega
    obtain ⟨d1, hd1⟩ := act_l0 hsm m (i + 1) (x3.set i (row b (St b i) i)) (by omega) (by simpa using hl) (take_set ht hi)
    have hok := St_ok b i
    have hsl := St_len b i
    -- the inner loop
    have inner : ∀ a : Int, a = (if nOf b i < 0 ∨ nOf b i > (i : Int) then -1 else (i : Int)) → ∃ d, ∀ k, action_begins.l1 (k + d) x3 i a 0 b b.length i (rd_T33 b i).f0 (nOf b i) (rd_T33 b i).f2 (rd_T33 b i).f3 (rd_T33 b i).f4.f0 (rd_T33 b i).f4.f1 = action_begins.l0 k (x3.set i (row b (St b i) i)) b b.length (wrap64 ((i : Int) + 1)) := by
      intro a ha
      obtain ⟨d, hd⟩ := act_l1 hok hsl hi (by omega) (fun j hj => take_get ht j hj) (nOf b i) b b.length (rd_T33 b i).f0 (rd_T33 b i).f2 (rd_T33 b i).f3 (rd_T33 b i).f4.f0 (rd_T33 b i).f4.f1 (nOf b i).toNat a 0 (by omega) (by simp) (by split at ha <;> omega) (by split at ha <;> omega) (fun h => by split at ha <;> omega) (by split at ha <;> omega)
      refine ⟨d, fun k => ?_⟩
      rw [hd]
      congr 2
      unfold row
      split at ha
      · subst ha
        rw [Wk_neg]
        split
        · rfl
        · rw [Wk_far hok _ _ (by omega) (by omega) (by omega)]
      · subst ha
        rw [if_neg (by omega)]
    obtain ⟨d2, hd2⟩ := inner _ rfl
    refine ⟨d1 + d2 + 3, fun k => ?_⟩
    have hd2' := hd2 (k + d1)
    rw [e1, hd1] at hd2'
    rw [show k + (d1 + d2 + 3) = k + d1 + d2 + 3 by omega, action_begins.l0.eq_def]
    simp only []
    rw [if_pos (by omega), if_pos (by omega), if_pos (by omega)]
    unfold nOf at hd2'
    by_cases h : (rd_T33 b i).f1 < 0
    · rw [if_pos h, action_begins.j1.eq_def]
      simp only []
      rw [if_pos trivial, action_begins.j2.eq_def]
      simp only []
      rw [if_pos (.inl h)] at hd2'
      exact hd2'
    · rw [if_neg h, action_begins.j1.eq_def]
      simp only []
      by_cases h2 : (rd_T33 b i).f1 > (i : Int)
      · rw [if_pos (by simpa using h2), action_begins.j2.eq_def]
        simp only []
        rw [if_pos (.inr h2)] at hd2'
        exact hd2'
      · rw [if_neg (by simpa using h2), action_begins.j2.eq_def]
        simp only []
        rw [if_neg (by omega)] at hd2'
        exact hd2'
theorem ref_l0 {b : List S33} (hsm : b.length ≤ 35184372088832) : ∀ (m i : Nat) (x3 : List Int), i + m = b.length → x3.length = b.length → x3.take i = St b i → ∃ d, ∀ k, dowelref24_Begins.l0 (k + d) b x3 i = some (St b b.length)
  | 0, i, x3, hm, hl, ht => ⟨1, fun k => by
    rw [dowelref24_Begins.l0.eq_def]
    simp only []
    rw [if_neg (by omega), ← show i = b.length by omega, ← ht, List.take_of_length_le (by omega)]⟩
  | m + 1, i, x3, hm, hl, ht => by
    have hi : i < x3.length := by omega
    have e1 : wrap64 ((i : Int) + 1) = ((i + 1 : Nat) : Int) := by rw [wr (by omega) (by omega)]; omega
    obtain ⟨d1, hd1⟩ := ref_l0 hsm m (i + 1) (x3.set i (row b (St b i) i)) (by omega) (by simpa using hl) (take_set ht hi)
    have hok := St_ok b i
    have hsl := St_len b i
    have ht' : (x3.set i (-1)).take i = St b i := by rw [List.take_set_of_le (Nat.le_refl _), ht]
    by_cases h : (rd_T33 b i).f1 < 0
    · refine ⟨d1 + 1, fun k => ?_⟩
      have hr : row b (St b i) i = -1 := by unfold row nOf; rw [if_pos h]
      rw [hr] at hd1
      rw [← Nat.add_assoc, dowelref24_Begins.l0.eq_def]
      simp only [Option.bind_some, e1, Int.toNat_natCast]
      rw [if_pos (by omega), if_pos (by omega), if_pos (by omega), if_pos h, hd1]
    · obtain ⟨d2, hd2⟩ := ref_l1 (b := b) (x3 := x3.set i (-1)) hok hsl (by simpa using hi) (by simpa using hl.symm) (by simp; omega) (fun j hj => take_get ht' j hj) (by simp) (nOf b i).toNat i 0 (by omega) (by unfold nOf; omega) (by omega) (by omega)
      refine ⟨d1 + d2 + 1, fun k => ?_⟩
      have hr : row b (St b i) i = Wk (St b i) (nOf b i).toNat i := by unfold row; rw [if_neg (by exact h)]
      have hd2' := hd2 (k + d1)
      rw [e1, List.set_set, ← hr, hd1] at hd2'
      rw [show k + (d1 + d2 + 1) = k + d1 + d2 + 1 by omega, dowelref24_Begins.l0.eq_def]
      simp only [Option.bind_some, Int.toNat_natCast]
      rw [if_pos (by omega), if_pos (by omega), if_pos (by omega), if_neg h]
      exact hd2'
theorem act_f {b : List S33} (hsm : b.length ≤ 35184372088832) : ∃ d, ∀ k, action_begins.f (k + d) b = some (St b b.length) := by
  obtain ⟨d, hd⟩ := act_l0 hsm b.length 0 (List.replicate b.length 0) (by omega) (by simp) (by simp [St])
  refine ⟨d, fun k => ?_⟩
  unfold action_begins.f
  rw [if_pos (by omega), if_pos (by omega)]
  simpa using hd k
theorem ref_f {b : List S33} (hsm : b.length ≤ 35184372088832) : ∃ d, ∀ k, dowelref24_Begins.f (k + d) b = some (St b b.length) := by
  obtain ⟨d, hd⟩ := ref_l0 hsm b.length 0 (List.replicate b.length 0) (by omega) (by simp) (by simp [St])
  refine ⟨d, fun k => ?_⟩
  unfold dowelref24_Begins.f
  rw [if_pos (by omega), if_pos (by omega)]
  simpa using hd k

def Pt (l : List Int) : Nat → Int → List Int → List Int
  | 0, _, out => out
  | r + 1, a, out => Pt l r (l.getD (a - 1).toNat 0) (out.set r (a - 1))
theorem Pt_len (l : List Int) : ∀ (r : Nat) (a : Int) (out : List Int), (Pt l r a out).length = out.length
  | 0, _, _ => rfl
  | r + 1, a, out => by unfold Pt; rw [Pt_len]; simp
section
variable {L x1 : List Int}
theorem act_parts (hL : Okl L) (hsm : L.length ≤ 35184372088832) (i : Nat) (hi : i < x1.length) (hiL : i ≤ L.length) (hx : ∀ j, j < i → x1.getD j 0 = L.getD j 0) : ∀ (r : Nat) (a : Int) (out : List Int) (k : Nat), 0 ≤ Wk L r a → a ≤ i → r ≤ out.length → r ≤ L.length →
    action_parts.l0 (k + r + 1) x1 out a ((r : Int) - 1) = some (Pt L r a out)
  | 0, a, out, k, hW, ha, hr, hr2 => by
    rw [action_parts.l0.eq_def]
    simp only []
    rw [if_neg (by omega)]
    rfl
  | r + 1, a, out, k, hW, ha, hr, hr2 => by
    unfold Wk at hW
    by_cases h : 0 < a
    · rw [if_pos h] at hW
      have e1 : wrap64 (a - 1) = a - 1 := wr (by omega) (by omega)
      have e2 : wrap64 (((r + 1 : Nat) : Int) - 1 - 1) = (r : Int) - 1 := by rw [wr (by omega) (by omega)]; omega
      have e3 : (((r + 1 : Nat) : Int) - 1).toNat = r := by omega
      have e4 : rd x1 (a - 1) = L.getD (a - 1).toNat 0 := by rw [rd_eq]; exact hx _ (by omega)
      have q := hL (a - 1).toNat (by omega)
      rw [show k + (r + 1) + 1 = k + r + 1 + 1 by omega, action_parts.l0.eq_def]
      simp only [e1, e2, e3, e4]
      rw [if_pos (by omega), if_pos (by omega), if_pos (by omega), if_pos (by omega), if_pos (by omega), act_parts hL hsm i hi hiL hx r _ _ k hW (by omega) (by simp; omega) (by omega)]
      rfl
    · rw [if_neg h] at hW; omega
theorem ref_parts (hL : Okl L) (hsm : L.length ≤ 35184372088832) (i : Nat) (hi : i < x1.length) (hiL : i ≤ L.length) (hx : ∀ j, j < i → x1.getD j 0 = L.getD j 0) : ∀ (r : Nat) (a : Int) (out : List Int) (k : Nat), 0 ≤ Wk L r a → a ≤ i → r ≤ out.length → r ≤ L.length →
    dowelref24_parts.l0 (k + r + 1) x1 out a ((r : Int) - 1) = some (Pt L r a out)
  | 0, a, out, k, hW, ha, hr, hr2 => by
    rw [dowelref24_parts.l0.eq_def]
    simp only []
    rw [if_neg (by omega)]
    rfl
  | r + 1, a, out, k, hW, ha, hr, hr2 => by
    unfold Wk at hW
    by_cases h : 0 < a
    · rw [if_pos h] at hW
      have e1 : wrap64 (a - 1) = a - 1 := wr (by omega) (by omega)
      have e2 : wrap64 (((r + 1 : Nat) : Int) - 1 - 1) = (r : Int) - 1 := by rw [wr (by omega) (by omega)]; omega
      have e3 : (((r + 1 : Nat) : Int) - 1).toNat = r := by omega
      have e4 : rd x1 (a - 1) = L.getD (a - 1).toNat 0 := by rw [rd_eq]; exact hx _ (by omega)
      have q := hL (a - 1).toNat (by omega)
      rw [show k + (r + 1) + 1 = k + r + 1 + 1 by omega, dowelref24_parts.l0.eq_def]
      simp only [e1, e2, e3, e4]
      rw [if_pos (by omega), if_pos (by omega), if_pos (by omega), if_pos (by omega), if_pos (by omega), ref_parts hL hsm i hi hiL hx r _ _ k hW (by omega) (by simp; omega) (by omega)]
      rfl
    · rw [if_neg h] at hW; omega
end
/-- The parts of node i. -/
def Po (b : List S33) (i : Int) : List Int := if i < 0 ∨ (b.length : Int) ≤ i then [] else if row b (St b i.toNat) i.toNat < 0 then [] else Pt (St b i.toNat) (nOf b i.toNat).toNat i (List.replicate (nOf b i.toNat).toNat 0)
theorem St_at (b : List S33) {i n : Nat} (h : i < n) : (St b n).getD i 0 = row b (St b i) i := by
  have h1 := St_get b (i := i + 1) (j := n) (by omega)
  have h2 : (St b n).getD i 0 = ((St b n).take (i + 1)).getD i 0 := by simp [List.getD, List.getElem?_take]
  rw [h2, h1]
  show (St b i ++ [row b (St b i) i]).getD i 0 = _
  simp [List.getD, List.getElem?_append_right (show (St b i).length ≤ i by rw [St_len]; omega), St_len]
theorem St_low (b : List S33) {i n : Nat} (h : i ≤ n) {j : Nat} (hj : j < i) : (St b n).getD j 0 = (St b i).getD j 0 := by
  rw [St_at b hj, St_at b (by omega)]
theorem n_le {b : List S33} {i : Nat} (h : ¬ row b (St b i) i < 0) : 0 ≤ nOf b i ∧ nOf b i ≤ i ∧ 0 ≤ Wk (St b i) (nOf b i).toNat i := by
  unfold row at h
  split at h
  · omega
  · refine ⟨by omega, ?_, by omega⟩
    apply Classical.byContradiction
    intro q
    have := Wk_far (St_ok b i) (nOf b i).toNat (i : Int) (by omega) (by omega) (by rw [St_len]; omega)
    omega
theorem Wk_congr {l l' : List Int} (hl : Okl l) (h : ∀ j, j < l.length → l'.getD j 0 = l.getD j 0) : ∀ (r : Nat) (a : Int), a ≤ l.length → Wk l' r a = Wk l r a
  | 0, a, ha => rfl
  | r + 1, a, ha => by
    unfold Wk
    by_cases q : 0 < a
    · have q2 := hl (a - 1).toNat (by omega)
      rw [if_pos q, if_pos q, h _ (by omega), Wk_congr hl h r _ (by omega)]
    · rw [if_neg q, if_neg q]
/-- A list and its beginning begin alike. -/
theorem nOf_take (b : List S33) {i n : Nat} (h : i < n) : nOf (b.take n) i = nOf b i := by
  unfold nOf rd_T33
  simp [List.getD, List.getElem?_take, h]
theorem St_take (b : List S33) {n : Nat} : ∀ i, i ≤ n → St (b.take n) i = St b i
  | 0, _ => rfl
  | i + 1, h => by
    show St (b.take n) i ++ [row (b.take n) (St (b.take n) i) i] = St b i ++ [row b (St b i) i]
    rw [St_take b i (by omega)]
    unfold row
    rw [nOf_take b (by omega)]
theorem parts_act {b : List S33} (hsm : b.length ≤ 1048576) (i : Int) : ∃ d, ∀ k, action_Parts.f (k + d) b i = some (Po b i) := by
  by_cases h0 : i < 0 ∨ (b.length : Int) ≤ i
  · refine ⟨1, fun k => ?_⟩
    unfold action_Parts.f Po
    rw [if_pos h0]
    by_cases h1 : i < 0
    · rw [if_pos h1, action_Parts.j0.eq_def]
      simp
    · rw [if_neg h1, action_Parts.j0.eq_def]
      simp only []
      rw [if_pos (by simp; omega)]
  · obtain ⟨i, rfl⟩ := Int.eq_ofNat_of_zero_le (show 0 ≤ i by omega)
    have e1 : wrap64 ((i : Int) + 1) = ((i + 1 : Nat) : Int) := by rw [wr (by omega) (by omega)]; omega
    have hlen : (b.take (i + 1)).length = i + 1 := by rw [List.length_take]; omega
    obtain ⟨d, hd⟩ := act_f (b := b.take (i + 1)) (by omega)
    rw [hlen, St_take b (i + 1) (Nat.le_refl _)] at hd
    refine ⟨d + i + 4, fun k => ?_⟩
    unfold action_Parts.f Po
    rw [if_neg (by omega), if_neg h0, show k + (d + i + 4) = (k + i + 3 + d) + 1 by omega, action_Parts.j0.eq_def]
    simp only [e1, Int.toNat_natCast]
    rw [if_neg (by simp; omega), if_pos (by omega), if_pos (by omega), hd, Option.bind_some]
    have hat : rd (St b (i + 1)) (i : Int) = row b (St b i) i := by rw [rd_eq, Int.toNat_natCast, St_at b (by omega)]
    unfold action_parts.f
    rw [if_pos (by omega), if_pos (by rw [St_len]; omega), hat]
    by_cases h2 : row b (St b i) i < 0
    · rw [if_pos h2, if_pos h2, show k + i + 3 + d = (k + i + 2 + d) + 1 by omega, action_parts.j0.eq_def]
      simp
    · rw [if_neg h2, if_neg h2, if_pos (by omega), show k + i + 3 + d = (k + i + 2 + d) + 1 by omega, action_parts.j0.eq_def]
      obtain ⟨n1, n2, n3⟩ := n_le h2
      simp only []
      by_cases h3 : (rd_T33 b i).f1 = 0
      · rw [if_pos (by simpa using h3)]
        have : nOf b i = 0 := h3
        rw [this]
        rfl
      · have n1' := n1; have n2' := n2
        unfold nOf at n1' n2'
        have el : (List.replicate ((rd_T33 b i).f1).toNat (0 : Int)).length = (nOf b i).toNat := by simp [nOf]
        have er : wrap64 (((nOf b i).toNat : Int) - 1) = ((nOf b i).toNat : Int) - 1 := wr (by omega) (by omega)
        rw [if_neg (by simpa using h3), if_pos (by omega), if_pos (by omega), if_pos (by omega), Option.bind_some, el, er]
        obtain ⟨k', hk'⟩ : ∃ k', k + i + 2 + d = k' + (nOf b i).toNat + 1 := ⟨k + i + 1 + d - (nOf b i).toNat, by omega⟩
        rw [hk', act_parts (St_ok b i) (by rw [St_len]; omega) i (by rw [St_len]; omega) (by rw [St_len]; omega) ?hx _ _ _ _ n3 (Int.le_refl _) (by rw [el]; omega) (by rw [St_len]; omega)]
        · rw [if_pos (by omega)]; rfl
        case hx => exact fun j hj => St_low b (by omega) hj
theorem parts_ref {b : List S33} (hsm : b.length ≤ 1048576) (i : Int) : ∃ d, ∀ k, dowelref24_Parts.f (k + d) b i = some (Po b i) := by
  obtain ⟨d, hd⟩ := ref_f (b := b) (by omega)
  refine ⟨d + i.toNat + 4, fun k => ?_⟩
  unfold dowelref24_Parts.f
  rw [show k + (d + i.toNat + 4) = (k + i.toNat + 4) + d by omega, hd, Option.bind_some]
  unfold dowelref24_parts.f Po
  by_cases h0 : i < 0 ∨ (b.length : Int) ≤ i
  · rw [if_pos h0]
    by_cases h1 : i < 0
    · rw [if_pos h1, show k + i.toNat + 4 + d = (k + i.toNat + 3 + d) + 1 by omega, dowelref24_parts.j0.eq_def]
      simp
    · rw [if_neg h1, if_pos (by omega), show k + i.toNat + 4 + d = (k + i.toNat + 3 + d) + 1 by omega, dowelref24_parts.j0.eq_def]
      simp
  · rw [if_neg h0]
    obtain ⟨i, rfl⟩ := Int.eq_ofNat_of_zero_le (show 0 ≤ i by omega)
    have hat : rd (St b b.length) (i : Int) = row b (St b i) i := by rw [rd_eq, Int.toNat_natCast, St_at b (by omega)]
    rw [if_neg (by omega), if_neg (by omega), if_pos (by omega), if_pos (by rw [St_len]; omega), hat, Int.toNat_natCast, show k + i + 4 + d = (k + i + 3 + d) + 1 by omega, dowelref24_parts.j0.eq_def]
    simp only []
    by_cases h2 : row b (St b i) i < 0
    · rw [if_pos (by simpa using h2), if_pos h2]
      simp
    · rw [if_neg (by simpa using h2), if_neg h2]
      obtain ⟨n1, n2, n3⟩ := n_le h2
      have n1' := n1; have n2' := n2
      unfold nOf at n1' n2'
      have el : (List.replicate ((rd_T33 b i).f1).toNat (0 : Int)).length = (nOf b i).toNat := by simp [nOf]
      have er : wrap64 ((rd_T33 b i).f1 - 1) = ((nOf b i).toNat : Int) - 1 := by rw [wr (by omega) (by omega)]; unfold nOf; omega
      rw [if_pos (by omega), if_pos (by omega), if_pos (by omega), if_pos (by omega)]
      try rw [Option.bind_some]
      try rw [if_pos (by omega), if_pos (by omega)]
      rw [er]
      obtain ⟨k', hk'⟩ : ∃ k', k + i + 3 + d = k' + (nOf b i).toNat + 1 := ⟨k + i + 2 + d - (nOf b i).toNat, by omega⟩
      rw [hk', ref_parts (St_ok b i) (by rw [St_len]; omega) i (by rw [St_len]; omega) (by rw [St_len]; omega) ?hx _ _ _ _ n3 (Int.le_refl _) (by rw [el]; omega) (by rw [St_len]; omega)]
      · rfl
      case hx => exact fun j hj => St_low b (by omega) hj
/-- A list is itself. -/
theorem ints_same (l : List Int) (hl : l.length ≤ 35184372088832) : ∃ d, ∀ k, dowelbook_Ints.f (k + d) l l = some true := by
  have h : ∀ m i : Nat, i + m = l.length → ∀ k, dowelbook_Ints.l0 (k + m + 1) l l i = some true := by
    intro m
    induction m with
    | zero => intro i hi k; rw [dowelbook_Ints.l0.eq_def]; simp only []; rw [if_neg (by omega)]
    | succ m ih =>
      intro i hi k
      have e1 : wrap64 ((i : Int) + 1) = ((i + 1 : Nat) : Int) := by rw [wr (by omega) (by omega)]; omega
      rw [dowelbook_Ints.l0.eq_def]
      simp only []
      rw [if_pos (by omega), if_pos (by omega), if_pos (by omega), if_pos trivial, e1]
      exact ih (i + 1) (by omega) k
  refine ⟨l.length + 1, fun k => ?_⟩
  unfold dowelbook_Ints.f
  rw [if_pos rfl]
  exact h l.length 0 (by omega) k
theorem Po_len {b : List S33} (hsm : b.length ≤ 1048576) (i : Int) : (Po b i).length ≤ 1048576 := by
  unfold Po
  split
  · simp
  · split
    · simp
    · rename_i h1 h2
      rw [Pt_len, List.length_replicate]
      have := n_le h2
      omega
/-- A list of nodes is itself. -/
theorem acts_same (l : List S33) (hl : l.length ≤ 35184372088832) : ∃ d, ∀ k, dowelbook_Acts.f (k + d) l l = some true := by
  have h : ∀ m i : Nat, i + m = l.length → ∀ k, dowelbook_Acts.l0 (k + m + 1) l l i = some true := by
    intro m
    induction m with
    | zero => intro i hi k; rw [dowelbook_Acts.l0.eq_def]; simp only []; rw [if_neg (by omega)]
    | succ m ih =>
      intro i hi k
      have e1 : wrap64 ((i : Int) + 1) = ((i + 1 : Nat) : Int) := by rw [wr (by omega) (by omega)]; omega
      rw [dowelbook_Acts.l0.eq_def]
      simp only []
      rw [if_pos (by omega), if_pos (by omega), if_pos (by omega), if_neg (by simp), e1]
      exact ih (i + 1) (by omega) k
  refine ⟨l.length + 1, fun k => ?_⟩
  unfold dowelbook_Acts.f
  rw [if_pos rfl]
  exact h l.length 0 (by omega) k
def lastActs : List S33 := [⟨4, 0, ⟨#[]⟩, ⟨#[]⟩, ⟨0, 0⟩⟩, ⟨7, 1, ⟨#[105, 110, 116]⟩, ⟨#[]⟩, ⟨0, 0⟩⟩]
theorem last_po : Po lastActs 1 = [0] := by kernel_rfl
end Go.Proofs.Ytodfooniahifeaa.Ap
