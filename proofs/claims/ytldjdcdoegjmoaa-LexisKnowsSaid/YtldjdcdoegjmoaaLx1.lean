/- Names of a grammar's text: what the program's functions and the document's come to. -/
import Derived.Test.YtldjdcdoegjmoaaLxPl
import Derived.Test.YtldjdcdoegjmoaaPx3
import Derived.Test.YtldjdcdoegjmoaaPx4
import Derived.Test.YtldjdcdoegjmoaaPx5
namespace Go.Proofs.Ytldjdcdoegjmoaa.P
open Go.RowKit Go.Proofs.YtldjdcdoegjmoaaW.PrintWords Go.Proofs.YtldjdcdoegjmoaaW.PrintLast
theorem lexis_letter_f (c : Int) : lexis_letter.f c = some (letterB c) := by
  unfold lexis_letter.f letterB
  repeat' split
  all_goals (simp only [Option.some.injEq]; rw [Bool.eq_iff_iff]; simp; omega)
theorem lexis_digit_f (c : Int) : lexis_digit.f c = some (digitB c) := by
  unfold lexis_digit.f digitB
  repeat' split
  all_goals (simp only [Option.some.injEq]; rw [Bool.eq_iff_iff]; simp; omega)
theorem refLetter_f (c : Int) : dowelref04_letter.f c = some (letterB c) := by
  unfold dowelref04_letter.f letterB
  repeat' split
  all_goals (simp only [Option.some.injEq]; rw [Bool.eq_iff_iff]; simp; omega)
theorem refDigit_f (c : Int) : dowelref04_digit.f c = some (digitB c) := by
  unfold dowelref04_digit.f digitB
  repeat' split
  all_goals (simp only [Option.some.injEq]; rw [Bool.eq_iff_iff]; simp; omega)
def bnd : Nat := 140737488351232
theorem nat_ok {s : ByteArray} (hs : s.size ≤ bnd) {p : Nat} (h : p ≤ s.size + 100) : wrap64 (p : Int) = (p : Int) := by unfold bnd at hs; exact wr_in (by omega) (by omega)
theorem own_l (s : ByteArray) (hs : s.size ≤ bnd) (p : Nat) : ∀ (d k n : Nat), s.size - (p + n) ≤ d → d < k → 0 < n → p + n ≤ s.size →
    lexis_own.l0 k s (p : Int) (n : Int) = some ((runE alnumB s (p + n) - p : Nat) : Int) := by
  intro d
  induction d with
  | zero =>
    intro k n hd hk hn hp
    obtain ⟨k, rfl⟩ : ∃ m, k = m + 1 := ⟨k - 1, by omega⟩
    have e : wrap64 ((p : Int) + (n : Int)) = ((p + n : Nat) : Int) := by rw [← Int.natCast_add]; exact nat_ok hs (by omega)
    simp only [lexis_own.l0, e]
    rw [if_neg (by omega), runE_end (by omega), Nat.add_sub_cancel_left]
  | succ d ih =>
    intro k n hd hk hn hp
    obtain ⟨k, rfl⟩ : ∃ m, k = m + 1 := ⟨k - 1, by omega⟩
    have e : wrap64 ((p : Int) + (n : Int)) = ((p + n : Nat) : Int) := by rw [← Int.natCast_add]; exact nat_ok hs (by omega)
    have e1 : wrap64 ((n : Int) + 1) = ((n + 1 : Nat) : Int) := by rw [Int.natCast_add]; exact nat_ok hs (p := n + 1) (by omega)
    simp only [lexis_own.l0, e, e1]
    by_cases hlt : p + n < s.size
    · rw [if_pos (by omega), if_pos (by omega), lexis_letter_f, lexis_digit_f]
      simp only [Option.bind_some]
      by_cases hL : letterB (bt s ((p + n : Nat) : Int)) = true
      · rw [if_pos hL, ih k (n + 1) (by omega) (by omega) (by omega) (by omega), runE_yes hlt (by unfold alnumB; rw [hL]; rfl)]; rfl
      · rw [if_neg hL, if_pos (by omega)]
        by_cases hD : digitB (bt s ((p + n : Nat) : Int)) = true
        · rw [if_pos hD, ih k (n + 1) (by omega) (by omega) (by omega) (by omega), runE_yes hlt (by unfold alnumB; rw [hD, Bool.or_true])]; rfl
        · rw [if_neg hD, runE_no (by unfold alnumB; rw [Bool.or_eq_true]; exact fun h => h.elim hL hD), Nat.add_sub_cancel_left]
    · rw [if_neg (by omega), runE_end hlt, Nat.add_sub_cancel_left]
theorem own_f (s : ByteArray) (hs : s.size ≤ bnd) (p k : Nat) (hp : p ≤ s.size) (hk : s.size + 1 < k) : lexis_own.f k s (p : Int) = some ((ownE s p - p : Nat) : Int) := by
  obtain ⟨k, rfl⟩ : ∃ m, k = m + 1 := ⟨k - 1, by omega⟩
  have e : wrap64 ((p : Int) + 0) = (p : Int) := by rw [Int.add_zero]; exact nat_ok hs (by omega)
  unfold lexis_own.f
  simp only [lexis_own.l0, e]
  by_cases hlt : p < s.size
  · rw [if_pos (by omega), if_pos (by omega), lexis_letter_f]
    simp only [Option.bind_some]
    by_cases hL : letterB (bt s (p : Int)) = true
    · rw [if_pos hL, show wrap64 (0 + 1) = ((1 : Nat) : Int) by unfold wrap64; omega, own_l s hs p (s.size - (p + 1)) k 1 (Nat.le_refl _) (by omega) (by omega) (by omega)]
      unfold ownE
      rw [if_pos ⟨hlt, hL⟩, runE_yes hlt (by unfold alnumB; rw [hL]; rfl)]
    · rw [if_neg hL, if_neg (by omega)]
      unfold ownE
      rw [if_neg (fun h => hL h.2), Nat.sub_self]; rfl
  · rw [if_neg (by omega)]
    unfold ownE
    rw [if_neg (fun h => hlt h.1), Nat.sub_self]; rfl
theorem refOwn_l (s : ByteArray) (hs : s.size ≤ bnd) : ∀ (d k p : Nat), s.size - p ≤ d → d < k → p ≤ s.size → dowelref04_own.l0 k s (p : Int) = some ((runE alnumB s p : Nat) : Int) := by
  intro d
  induction d with
  | zero =>
    intro k p hd hk hp
    obtain ⟨k, rfl⟩ : ∃ m, k = m + 1 := ⟨k - 1, by omega⟩
    simp only [dowelref04_own.l0]
    rw [if_neg (by omega), runE_end (by omega)]
  | succ d ih =>
    intro k p hd hk hp
    obtain ⟨k, rfl⟩ : ∃ m, k = m + 1 := ⟨k - 1, by omega⟩
    have e1 : wrap64 ((p : Int) + 1) = ((p + 1 : Nat) : Int) := by rw [Int.natCast_add]; exact nat_ok hs (p := p + 1) (by omega)
    simp only [dowelref04_own.l0, e1]
    by_cases hlt : p < s.size
    · rw [if_pos (by omega), if_pos (by omega), refLetter_f, refDigit_f]
      simp only [Option.bind_some]
      by_cases hL : letterB (bt s (p : Int)) = true
      · rw [if_pos hL, ih k (p + 1) (by omega) (by omega) (by omega), runE_yes hlt (by unfold alnumB; rw [hL]; rfl)]
      · rw [if_neg hL]
        by_cases hD : digitB (bt s (p : Int)) = true
        · rw [if_pos hD, ih k (p + 1) (by omega) (by omega) (by omega), runE_yes hlt (by unfold alnumB; rw [hD, Bool.or_true])]
        · rw [if_neg hD, runE_no (by unfold alnumB; rw [Bool.or_eq_true]; exact fun h => h.elim hL hD)]
    · rw [if_neg (by omega), runE_end hlt]
theorem refOwn_f (s : ByteArray) (hs : s.size ≤ bnd) (p k : Nat) (hp : p ≤ s.size + 8) (hk : s.size + 3 < k) : dowelref04_own.f k s (p : Int) = some ((ownE s p : Nat) : Int) := by
  obtain ⟨k, rfl⟩ : ∃ m, k = m + 1 := ⟨k - 1, by omega⟩
  unfold dowelref04_own.f
  by_cases hlt : p < s.size
  · rw [if_neg (by omega), if_pos (by omega), if_pos (by omega), refLetter_f]
    simp only [Option.bind_some, dowelref04_own.j0]
    unfold ownE
    by_cases hL : letterB (bt s (p : Int)) = true
    · rw [hL, if_neg (by simp), refOwn_l s hs (s.size - p) k p (Nat.le_refl _) (by omega) (by omega), if_pos ⟨hlt, rfl⟩]
    · rw [if_pos (by simpa using hL), if_neg (fun h => hL h.2)]
  · rw [if_pos (by omega)]
    simp only [dowelref04_own.j0]
    unfold ownE
    rw [if_pos trivial, if_neg (fun h => hlt h.1)]
theorem refDigits_l (s : ByteArray) (hs : s.size ≤ bnd) : ∀ (d k p : Nat), s.size - p ≤ d → d < k → p ≤ s.size + 8 → dowelref04_digits.f k s (p : Int) = some ((runE digitB s p : Nat) : Int) := by
  intro d
  induction d with
  | zero =>
    intro k p hd hk hp
    obtain ⟨k, rfl⟩ : ∃ m, k = m + 1 := ⟨k - 1, by omega⟩
    unfold dowelref04_digits.f
    simp only [dowelref04_digits.l0]
    rw [if_neg (by omega), runE_end (by omega)]
  | succ d ih =>
    intro k p hd hk hp
    obtain ⟨k, rfl⟩ : ∃ m, k = m + 1 := ⟨k - 1, by omega⟩
    have e1 : wrap64 ((p : Int) + 1) = ((p + 1 : Nat) : Int) := by rw [Int.natCast_add]; exact nat_ok hs (p := p + 1) (by omega)
    unfold dowelref04_digits.f at ih ⊢
    simp only [dowelref04_digits.l0, e1]
    by_cases hlt : p < s.size
    · rw [if_pos (by omega), if_pos (by omega), refDigit_f]
      simp only [Option.bind_some]
      by_cases hD : digitB (bt s (p : Int)) = true
      · rw [if_pos hD, ih k (p + 1) (by omega) (by omega) (by omega), runE_yes hlt hD]
      · rw [if_neg hD, runE_no hD]
    · rw [if_neg (by omega), runE_end hlt]
theorem refDigits_f (s : ByteArray) (hs : s.size ≤ bnd) (p k : Nat) (hp : p ≤ s.size + 8) (hk : s.size + 1 < k) : dowelref04_digits.f k s (p : Int) = some ((runE digitB s p : Nat) : Int) :=
  refDigits_l s hs s.size k p (by omega) (by omega) hp
theorem num_l (s : ByteArray) (hs : s.size ≤ bnd) : ∀ (d k p : Nat), s.size - p ≤ d → d < k → 1 ≤ p → p ≤ s.size →
    lexis_numbered.l0 k s (p : Int) = some (if 1 < runE digitB s p ∧ runE digitB s p ≤ 6 ∧ bt s 1 ≠ 48 then ((runE digitB s p : Nat) : Int) else 0) := by
  intro d
  induction d with
  | zero =>
    intro k p hd hk h1 hp
    obtain ⟨k, rfl⟩ : ∃ m, k = m + 1 := ⟨k - 1, by omega⟩
    simp only [lexis_numbered.l0]
    rw [if_neg (by omega), runE_end (by omega)]
    by_cases e1 : p = 1
    · rw [if_pos (by omega), if_neg (by omega)]
    · rw [if_neg (by omega)]
      by_cases e6 : p ≤ 6
      · rw [if_neg (by omega), if_pos (by omega)]
        by_cases e0 : bt s 1 = 48
        · rw [if_pos e0, if_neg (fun h => h.2.2 e0)]
        · rw [if_neg e0, if_pos ⟨by omega, e6, e0⟩]
      · rw [if_pos (by omega), if_neg (by omega)]
  | succ d ih =>
    intro k p hd hk h1 hp
    obtain ⟨k, rfl⟩ : ∃ m, k = m + 1 := ⟨k - 1, by omega⟩
    have ee : wrap64 ((p : Int) + 1) = ((p + 1 : Nat) : Int) := by rw [Int.natCast_add]; exact nat_ok hs (p := p + 1) (by omega)
    simp only [lexis_numbered.l0, ee]
    have tail : (if (p : Int) = 1 then some 0 else if (p : Int) > 6 then some 0 else if 1 < (s.size : Int) then (if bt s 1 = 48 then some 0 else some (p : Int)) else none) =
        some (if 1 < p ∧ p ≤ 6 ∧ bt s 1 ≠ 48 then ((p : Nat) : Int) else 0) := by
      by_cases e1 : p = 1
      · rw [if_pos (by omega), if_neg (by omega)]
      · rw [if_neg (by omega)]
        by_cases e6 : p ≤ 6
        · rw [if_neg (by omega), if_pos (by omega)]
          by_cases e0 : bt s 1 = 48
          · rw [if_pos e0, if_neg (fun h => h.2.2 e0)]
          · rw [if_neg e0, if_pos ⟨by omega, e6, e0⟩]
        · rw [if_pos (by omega), if_neg (by omega)]
    by_cases hlt : p < s.size
    · rw [if_pos (by omega), if_pos (by omega), lexis_digit_f]
      simp only [Option.bind_some]
      by_cases hD : digitB (bt s (p : Int)) = true
      · rw [if_pos hD, ih k (p + 1) (by omega) (by omega) (by omega) (by omega), runE_yes hlt hD]
      · rw [if_neg hD, runE_no hD]; exact tail
    · rw [if_neg (by omega), runE_end hlt]; exact tail
theorem toList_nil {s : ByteArray} : s.toList = ([] : List UInt8) ↔ s.size = 0 := by
  rw [show s.toList = s.data.toList from ByteArray.toList_eq s]
  constructor
  · intro h
    have : s.data.toList.length = 0 := by rw [h]; rfl
    rw [Array.length_toList] at this
    exact this
  · intro h
    have : s.data.toList.length = 0 := by rw [Array.length_toList]; exact h
    exact List.eq_nil_of_length_eq_zero this
/-- What numbered tells of the text from a place on. -/
theorem numbered_f (s : ByteArray) (hs : s.size ≤ bnd) (q k : Nat) (hq : q ≤ s.size) (hk : s.size + 4 < k) : lexis_numbered.f k (s.extract q s.size) = some ((numE s q - q : Nat) : Int) := by
  obtain ⟨k, rfl⟩ : ∃ m, k = m + 1 := ⟨k - 1, by omega⟩
  have hz := size_cut s q
  have hb := fun i : Nat => bt_cut s q i
  have hb0 : bt (s.extract q s.size) 0 = bt s (q : Int) := by simpa using hb 0
  have hb1 : bt (s.extract q s.size) 1 = bt s ((q + 1 : Nat) : Int) := by simpa using hb 1
  unfold lexis_numbered.f numE
  by_cases h0 : q < s.size
  · rw [if_neg (by rw [toList_nil]; omega), if_pos (by rw [hz]; omega), hb0]
    simp only [lexis_numbered.j0]
    by_cases h126 : bt s (q : Int) = 126
    · rw [if_neg (by simp [h126]), if_pos ⟨h0, h126⟩, show (1 : Int) = ((1 : Nat) : Int) from rfl, num_l _ (by omega) (s.size) k 1 (by omega) (by omega) (by omega) (by omega), hb1]
      have hr := runE_cut digitB s q (s.size) 1 (by omega)
      have hge := runE_ge digitB (s.extract q s.size) 1
      rw [← hr]
      by_cases hc : 1 < runE digitB (s.extract q s.size) 1 ∧ runE digitB (s.extract q s.size) 1 ≤ 6 ∧ bt s ((q + 1 : Nat) : Int) ≠ 48
      · rw [if_pos hc, if_pos ⟨by omega, by omega, hc.2.2⟩, Nat.add_sub_cancel_left]
      · rw [if_neg hc, if_neg (fun h => hc ⟨by omega, by omega, h.2.2⟩), Nat.sub_self]; rfl
    · rw [if_pos (by simp [h126]), if_neg (fun h => h126 h.2), Nat.sub_self]; rfl
  · rw [if_pos (by rw [toList_nil]; omega)]
    simp only [lexis_numbered.j0]
    rw [if_pos trivial, if_neg (fun h => h0 h.1), Nat.sub_self]; rfl
end Go.Proofs.Ytldjdcdoegjmoaa.P
