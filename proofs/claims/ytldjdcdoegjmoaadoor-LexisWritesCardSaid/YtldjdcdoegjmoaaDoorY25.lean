import Derived.KernelRfl
import Derived.Test.YtldjdcdoegjmoaaDoorY1
import Derived.Test.YtldjdcdoegjmoaaDoorY3
import Derived.Test.YtldjdcdoegjmoaaDoorY4
import Derived.Test.YtldjdcdoegjmoaaDoorY5
import Derived.Test.YtldjdcdoegjmoaaDoorY8
import Derived.Test.YtldjdcdoegjmoaaDoorY12
import Derived.Test.YtldjdcdoegjmoaaDoorY15
import Derived.Test.YtldjdcdoegjmoaaDoorY17
import Derived.Test.YtldjdcdoegjmoaaDoorY21
import Derived.Test.YtldjdcdoegjmoaaDoorY24
namespace Go.Proofs.YtldjdcdoegjmoaaDoor.P
open Go.RowKit Go.Proofs.YtldjdcdoegjmoaaDoorW.PrintWords Go.Proofs.YtldjdcdoegjmoaaDoorW.PrintLast
theorem wr_in {x : Int} (h0 : -9223372036854775808 ≤ x) (h1 : x ≤ 9223372036854775807) : wrap64 x = x := by unfold wrap64; omega
def letterB (c : Int) : Bool := (decide (97 ≤ c) && decide (c ≤ 122)) || (decide (65 ≤ c) && decide (c ≤ 90)) || c == 95
def digitB (c : Int) : Bool := decide (48 ≤ c) && decide (c ≤ 57)
/-- The place behind a run of bytes. -/
def runE (P : Int → Bool) (s : ByteArray) (p : Nat) : Nat := if h : p < s.size then (if P (bt s (p : Int)) = true then runE P s (p + 1) else p) else p
termination_by s.size - p
theorem runE_yes {P : Int → Bool} {s : ByteArray} {p : Nat} (h : p < s.size) (hp : P (bt s (p : Int)) = true) : runE P s p = runE P s (p + 1) := by
  rw [runE, dif_pos h, if_pos hp]
theorem runE_no {P : Int → Bool} {s : ByteArray} {p : Nat} (hp : ¬ P (bt s (p : Int)) = true) : runE P s p = p := by
  rw [runE, if_neg hp]
  split <;> rfl
theorem runE_end {P : Int → Bool} {s : ByteArray} {p : Nat} (h : ¬ p < s.size) : runE P s p = p := by rw [runE, dif_neg h]
theorem runE_le (P : Int → Bool) (s : ByteArray) : ∀ (d p : Nat), s.size - p ≤ d → p ≤ runE P s p ∧ (p ≤ s.size → runE P s p ≤ s.size)
  | 0, p, hd => by rw [runE_end (by omega)]; exact ⟨Nat.le_refl _, id⟩
  | d + 1, p, hd => by
    by_cases h : p < s.size
    · by_cases hp : P (bt s (p : Int)) = true
      · rw [runE_yes h hp]
        have := runE_le P s d (p + 1) (by omega)
        exact ⟨by omega, fun _ => this.2 (by omega)⟩
      · rw [runE_no hp]; exact ⟨Nat.le_refl _, id⟩
    · rw [runE_end h]; exact ⟨Nat.le_refl _, id⟩
theorem runE_ge (P : Int → Bool) (s : ByteArray) (p : Nat) : p ≤ runE P s p := (runE_le P s _ p (Nat.le_refl _)).1
theorem runE_size (P : Int → Bool) (s : ByteArray) (p : Nat) (h : p ≤ s.size) : runE P s p ≤ s.size := (runE_le P s _ p (Nat.le_refl _)).2 h
theorem size_cut (s : ByteArray) (q : Nat) : (s.extract q s.size).size = s.size - q := by simp
theorem bt_nat (s : ByteArray) (i : Nat) : bt s (i : Int) = if h : i < s.size then ((s[i]'h).toNat : Int) else 0 := by unfold bt; simp
theorem bt_cut (s : ByteArray) (q i : Nat) : bt (s.extract q s.size) (i : Int) = bt s ((q + i : Nat) : Int) := by
  rw [bt_nat, bt_nat]
  by_cases h : q + i < s.size
  · rw [dif_pos h, dif_pos (by rw [size_cut]; omega)]
    congr 2
    exact ByteArray.getElem_extract ..
  · rw [dif_neg h, dif_neg (by rw [size_cut]; omega)]
theorem runE_cut (P : Int → Bool) (s : ByteArray) (q : Nat) : ∀ (d i : Nat), s.size - (q + i) ≤ d → q + runE P (s.extract q s.size) i = runE P s (q + i)
  | 0, i, hd => by rw [runE_end (by rw [size_cut]; omega), runE_end (by omega)]
  | d + 1, i, hd => by
    by_cases h : q + i < s.size
    · by_cases hp : P (bt s ((q + i : Nat) : Int)) = true
      · rw [runE_yes h hp, runE_yes (by rw [size_cut]; omega) (by rw [bt_cut]; exact hp), show q + i + 1 = q + (i + 1) by omega]
        exact runE_cut P s q d (i + 1) (by omega)
      · rw [runE_no hp, runE_no (by rw [bt_cut]; exact hp)]
    · rw [runE_end h, runE_end (by rw [size_cut]; omega)]
def alnumB (c : Int) : Bool := letterB c || digitB c
/-- The place behind the own name at a place. -/
def ownE (s : ByteArray) (p : Nat) : Nat := if p < s.size ∧ letterB (bt s (p : Int)) = true then runE alnumB s p else p
theorem ownE_ge (s : ByteArray) (p : Nat) : p ≤ ownE s p := by unfold ownE; split; exact runE_ge _ _ _; exact Nat.le_refl _
theorem ownE_size (s : ByteArray) (p : Nat) (h : p ≤ s.size) : ownE s p ≤ s.size := by unfold ownE; split; exact runE_size _ _ _ h; exact h
/-- The place behind the number of a ~ that stands at a place. -/
def numE (s : ByteArray) (k : Nat) : Nat :=
  if k < s.size ∧ bt s (k : Int) = 126 then (if k + 1 < runE digitB s (k + 1) ∧ runE digitB s (k + 1) ≤ k + 6 ∧ bt s ((k + 1 : Nat) : Int) ≠ 48 then runE digitB s (k + 1) else k) else k
/-- The place behind the two :, and what follows them. -/
def colE (s : ByteArray) (k : Nat) : Nat :=
  if k + 1 < s.size ∧ bt s (k : Int) = 58 ∧ bt s ((k + 1 : Nat) : Int) = 58 then (if k + 2 < ownE s (k + 2) then ownE s (k + 2) else k) else k
def nameE (s : ByteArray) (p : Nat) : Nat := if ownE s p = p then p else numE s (colE s (ownE s p))
theorem colE_ge (s : ByteArray) (k : Nat) : k ≤ colE s k := by unfold colE; split <;> (try split) <;> omega
theorem colE_size (s : ByteArray) (k : Nat) (h : k ≤ s.size) : colE s k ≤ s.size := by
  unfold colE; split
  · split
    · exact ownE_size _ _ (by omega)
    · exact h
  · exact h
theorem numE_ge (s : ByteArray) (k : Nat) : k ≤ numE s k := by unfold numE; split <;> (try split) <;> omega
theorem numE_size (s : ByteArray) (k : Nat) (h : k ≤ s.size) : numE s k ≤ s.size := by
  unfold numE; split
  · split
    · exact runE_size _ _ _ (by omega)
    · exact h
  · exact h
end Go.Proofs.YtldjdcdoegjmoaaDoor.P
namespace Go.Proofs.YtldjdcdoegjmoaaDoor.P
open Go.RowKit Go.Proofs.YtldjdcdoegjmoaaDoorW.PrintWords Go.Proofs.YtldjdcdoegjmoaaDoorW.PrintLast
theorem lexis_letter_f (c : Int) : lexis_letter.f c = some (letterB c) := by
  unfold lexis_letter.f letterB
  repeat' split
  all_goals (simp only [Option.some.injEq]; rw [Bool.eq_iff_iff]; simp; omega)
theorem lexis_digit_f (c : Int) : lexis_digit.f c = some (digitB c) := by
  unfold lexis_digit.f digitB
  repeat' split
  all_goals (simp only [Option.some.injEq]; rw [Bool.eq_iff_iff]; simp; omega)
theorem refLetter_f (c : Int) : dowelref04_letter.f c = some (letterB c) := by
  unfold dowelref04_letter.f letterB
  repeat' split
  all_goals (simp only [Option.some.injEq]; rw [Bool.eq_iff_iff]; simp; omega)
theorem refDigit_f (c : Int) : dowelref04_digit.f c = some (digitB c) := by
  unfold dowelref04_digit.f digitB
  repeat' split
  all_goals (simp only [Option.some.injEq]; rw [Bool.eq_iff_iff]; simp; omega)
def bnd : Nat := 140737488351232
theorem nat_ok {s : ByteArray} (hs : s.size ≤ bnd) {p : Nat} (h : p ≤ s.size + 100) : wrap64 (p : Int) = (p : Int) := by unfold bnd at hs; exact wr_in (by omega) (by omega)
theorem own_l (s : ByteArray) (hs : s.size ≤ bnd) (p : Nat) : ∀ (d k n : Nat), s.size - (p + n) ≤ d → d < k → 0 < n → p + n ≤ s.size →
    lexis_own.l0 k s (p : Int) (n : Int) = some ((runE alnumB s (p + n) - p : Nat) : Int) := by
  intro d
  induction d with
  | zero =>
    intro k n hd hk hn hp
    obtain ⟨k, rfl⟩ : ∃ m, k = m + 1 := ⟨k - 1, by omega⟩
    have e : wrap64 ((p : Int) + (n : Int)) = ((p + n : Nat) : Int) := by rw [← Int.natCast_add]; exact nat_ok hs (by omega)
    simp only [lexis_own.l0, e]
    rw [if_neg (by omega), runE_end (by omega), Nat.add_sub_cancel_left]
  | succ d ih =>
    intro k n hd hk hn hp
    obtain ⟨k, rfl⟩ : ∃ m, k = m + 1 := ⟨k - 1, by omega⟩
    have e : wrap64 ((p : Int) + (n : Int)) = ((p + n : Nat) : Int) := by rw [← Int.natCast_add]; exact nat_ok hs (by omega)
    have e1 : wrap64 ((n : Int) + 1) = ((n + 1 : Nat) : Int) := by rw [Int.natCast_add]; exact nat_ok hs (p := n + 1) (by omega)
    simp only [lexis_own.l0, e, e1]
    by_cases hlt : p + n < s.size
    · rw [if_pos (by omega), if_pos (by omega), lexis_letter_f, lexis_digit_f]
      simp only [Option.bind_some]
      by_cases hL : letterB (bt s ((p + n : Nat) : Int)) = true
      · rw [if_pos hL, ih k (n + 1) (by omega) (by omega) (by omega) (by omega), runE_yes hlt (by unfold alnumB; rw [hL]; rfl)]; rfl
      · rw [if_neg hL, if_pos (by omega)]
        by_cases hD : digitB (bt s ((p + n : Nat) : Int)) = true
        · rw [if_pos hD, ih k (n + 1) (by omega) (by omega) (by omega) (by omega), runE_yes hlt (by unfold alnumB; rw [hD, Bool.or_true])]; rfl
        · rw [if_neg hD, runE_no (by unfold alnumB; rw [Bool.or_eq_true]; exact fun h => h.elim hL hD), Nat.add_sub_cancel_left]
    · rw [if_neg (by omega), runE_end hlt, Nat.add_sub_cancel_left]
theorem own_f (s : ByteArray) (hs : s.size ≤ bnd) (p k : Nat) (hp : p ≤ s.size) (hk : s.size + 1 < k) : lexis_own.f k s (p : Int) = some ((ownE s p - p : Nat) : Int) := by
  obtain ⟨k, rfl⟩ : ∃ m, k = m + 1 := ⟨k - 1, by omega⟩
  have e : wrap64 ((p : Int) + 0) = (p : Int) := by rw [Int.add_zero]; exact nat_ok hs (by omega)
  unfold lexis_own.f
  simp only [lexis_own.l0, e]
  by_cases hlt : p < s.size
  · rw [if_pos (by omega), if_pos (by omega), lexis_letter_f]
    simp only [Option.bind_some]
    by_cases hL : letterB (bt s (p : Int)) = true
    · rw [if_pos hL, show wrap64 (0 + 1) = ((1 : Nat) : Int) by unfold wrap64; omega, own_l s hs p (s.size - (p + 1)) k 1 (Nat.le_refl _) (by omega) (by omega) (by omega)]
      unfold ownE
      rw [if_pos ⟨hlt, hL⟩, runE_yes hlt (by unfold alnumB; rw [hL]; rfl)]
    · rw [if_neg hL, if_neg (by omega)]
      unfold ownE
      rw [if_neg (fun h => hL h.2), Nat.sub_self]; rfl
  · rw [if_neg (by omega)]
    unfold ownE
    rw [if_neg (fun h => hlt h.1), Nat.sub_self]; rfl
theorem refOwn_l (s : ByteArray) (hs : s.size ≤ bnd) : ∀ (d k p : Nat), s.size - p ≤ d → d < k → p ≤ s.size → dowelref04_own.l0 k s (p : Int) = some ((runE alnumB s p : Nat) : Int) := by
  intro d
  induction d with
  | zero =>
    intro k p hd hk hp
    obtain ⟨k, rfl⟩ : ∃ m, k = m + 1 := ⟨k - 1, by omega⟩
    simp only [dowelref04_own.l0]
    rw [if_neg (by omega), runE_end (by omega)]
  | succ d ih =>
    intro k p hd hk hp
    obtain ⟨k, rfl⟩ : ∃ m, k = m + 1 := ⟨k - 1, by omega⟩
    have e1 : wrap64 ((p : Int) + 1) = ((p + 1 : Nat) : Int) := by rw [Int.natCast_add]; exact nat_ok hs (p := p + 1) (by omega)
    simp only [dowelref04_own.l0, e1]
    by_cases hlt : p < s.size
    · rw [if_pos (by omega), if_pos (by omega), refLetter_f, refDigit_f]
      simp only [Option.bind_some]
      by_cases hL : letterB (bt s (p : Int)) = true
      · rw [if_pos hL, ih k (p + 1) (by omega) (by omega) (by omega), runE_yes hlt (by unfold alnumB; rw [hL]; rfl)]
      · rw [if_neg hL]
        by_cases hD : digitB (bt s (p : Int)) = true
        · rw [if_pos hD, ih k (p + 1) (by omega) (by omega) (by omega), runE_yes hlt (by unfold alnumB; rw [hD, Bool.or_true])]
        · rw [if_neg hD, runE_no (by unfold alnumB; rw [Bool.or_eq_true]; exact fun h => h.elim hL hD)]
    · rw [if_neg (by omega), runE_end hlt]
theorem refOwn_f (s : ByteArray) (hs : s.size ≤ bnd) (p k : Nat) (hp : p ≤ s.size + 8) (hk : s.size + 3 < k) : dowelref04_own.f k s (p : Int) = some ((ownE s p : Nat) : Int) := by
  obtain ⟨k, rfl⟩ : ∃ m, k = m + 1 := ⟨k - 1, by omega⟩
  unfold dowelref04_own.f
  by_cases hlt : p < s.size
  · rw [if_neg (by omega), if_pos (by omega), if_pos (by omega), refLetter_f]
    simp only [Option.bind_some, dowelref04_own.j0]
    unfold ownE
    by_cases hL : letterB (bt s (p : Int)) = true
    · rw [hL, if_neg (by simp), refOwn_l s hs (s.size - p) k p (Nat.le_refl _) (by omega) (by omega), if_pos ⟨hlt, rfl⟩]
    · rw [if_pos (by simpa using hL), if_neg (fun h => hL h.2)]
  · rw [if_pos (by omega)]
    simp only [dowelref04_own.j0]
    unfold ownE
    rw [if_pos trivial, if_neg (fun h => hlt h.1)]
theorem refDigits_l (s : ByteArray) (hs : s.size ≤ bnd) : ∀ (d k p : Nat), s.size - p ≤ d → d < k → p ≤ s.size + 8 → dowelref04_digits.f k s (p : Int) = some ((runE digitB s p : Nat) : Int) := by
  intro d
  induction d with
  | zero =>
    intro k p hd hk hp
    obtain ⟨k, rfl⟩ : ∃ m, k = m + 1 := ⟨k - 1, by omega⟩
    unfold dowelref04_digits.f
    simp only [dowelref04_digits.l0]
    rw [if_neg (by omega), runE_end (by omega)]
  | succ d ih =>
    intro k p hd hk hp
    obtain ⟨k, rfl⟩ : ∃ m, k = m + 1 := ⟨k - 1, by omega⟩
    have e1 : wrap64 ((p : Int) + 1) = ((p + 1 : Nat) : Int) := by rw [Int.natCast_add]; exact nat_ok hs (p := p + 1) (by omega)
    unfold dowelref04_digits.f at ih ⊢
    simp only [dowelref04_digits.l0, e1]
    by_cases hlt : p < s.size
    · rw [if_pos (by omega), if_pos (by omega), refDigit_f]
      simp only [Option.bind_some]
      by_cases hD : digitB (bt s (p : Int)) = true
      · rw [if_pos hD, ih k (p + 1) (by omega) (by omega) (by omega), runE_yes hlt hD]
      · rw [if_neg hD, runE_no hD]
    · rw [if_neg (by omega), runE_end hlt]
theorem refDigits_f (s : ByteArray) (hs : s.size ≤ bnd) (p k : Nat) (hp : p ≤ s.size + 8) (hk : s.size + 1 < k) : dowelref04_digits.f k s (p : Int) = some ((runE digitB s p : Nat) : Int) :=
  refDigits_l s hs s.size k p (by omega) (by omega) hp
theorem num_l (s : ByteArray) (hs : s.size ≤ bnd) : ∀ (d k p : Nat), s.size - p ≤ d → d < k → 1 ≤ p → p ≤ s.size →
    lexis_numbered.l0 k s (p : Int) = some (if 1 < runE digitB s p ∧ runE digitB s p ≤ 6 ∧ bt s 1 ≠ 48 then ((runE digitB s p : Nat) : Int) else 0) := by
  intro d
  induction d with
  | zero =>
    intro k p hd hk h1 hp
    obtain ⟨k, rfl⟩ : ∃ m, k = m + 1 := ⟨k - 1, by omega⟩
    simp only [lexis_numbered.l0]
    rw [if_neg (by omega), runE_end (by omega)]
    by_cases e1 : p = 1
    · rw [if_pos (by omega), if_neg (by omega)]
    · rw [if_neg (by omega)]
      by_cases e6 : p ≤ 6
      · rw [if_neg (by omega), if_pos (by omega)]
        by_cases e0 : bt s 1 = 48
        · rw [if_pos e0, if_neg (fun h => h.2.2 e0)]
        · rw [if_neg e0, if_pos ⟨by omega, e6, e0⟩]
      · rw [if_pos (by omega), if_neg (by omega)]
  | succ d ih =>
    intro k p hd hk h1 hp
    obtain ⟨k, rfl⟩ : ∃ m, k = m + 1 := ⟨k - 1, by omega⟩
    have ee : wrap64 ((p : Int) + 1) = ((p + 1 : Nat) : Int) := by rw [Int.natCast_add]; exact nat_ok hs (p := p + 1) (by omega)
    simp only [lexis_numbered.l0, ee]
    have tail : (if (p : Int) = 1 then some 0 else if (p : Int) > 6 then some 0 else if 1 < (s.size : Int) then (if bt s 1 = 48 then some 0 else some (p : Int)) else none) =
        some (if 1 < p ∧ p ≤ 6 ∧ bt s 1 ≠ 48 then ((p : Nat) : Int) else 0) := by
      by_cases e1 : p = 1
      · rw [if_pos (by omega), if_neg (by omega)]
      · rw [if_neg (by omega)]
        by_cases e6 : p ≤ 6
        · rw [if_neg (by omega), if_pos (by omega)]
          by_cases e0 : bt s 1 = 48
          · rw [if_pos e0, if_neg (fun h => h.2.2 e0)]
          · rw [if_neg e0, if_pos ⟨by omega, e6, e0⟩]
        · rw [if_pos (by omega), if_neg (by omega)]
    by_cases hlt : p < s.size
    · rw [if_pos (by omega), if_pos (by omega), lexis_digit_f]
      simp only [Option.bind_some]
      by_cases hD : digitB (bt s (p : Int)) = true
      · rw [if_pos hD, ih k (p + 1) (by omega) (by omega) (by omega) (by omega), runE_yes hlt hD]
      · rw [if_neg hD, runE_no hD]; exact tail
    · rw [if_neg (by omega), runE_end hlt]; exact tail
theorem toList_nil {s : ByteArray} : s.toList = ([] : List UInt8) ↔ s.size = 0 := by
  rw [show s.toList = s.data.toList from ByteArray.toList_eq s]
  constructor
  · intro h
    have : s.data.toList.length = 0 := by rw [h]; rfl
    rw [Array.length_toList] at this
    exact this
  · intro h
    have : s.data.toList.length = 0 := by rw [Array.length_toList]; exact h
    exact List.eq_nil_of_length_eq_zero this
/-- What numbered tells of the text from a place on. -/
theorem numbered_f (s : ByteArray) (hs : s.size ≤ bnd) (q k : Nat) (hq : q ≤ s.size) (hk : s.size + 4 < k) : lexis_numbered.f k (s.extract q s.size) = some ((numE s q - q : Nat) : Int) := by
  obtain ⟨k, rfl⟩ : ∃ m, k = m + 1 := ⟨k - 1, by omega⟩
  have hz := size_cut s q
  have hb := fun i : Nat => bt_cut s q i
  have hb0 : bt (s.extract q s.size) 0 = bt s (q : Int) := by simpa using hb 0
  have hb1 : bt (s.extract q s.size) 1 = bt s ((q + 1 : Nat) : Int) := by simpa using hb 1
  unfold lexis_numbered.f numE
  by_cases h0 : q < s.size
  · rw [if_neg (by rw [toList_nil]; omega), if_pos (by rw [hz]; omega), hb0]
    simp only [lexis_numbered.j0]
    by_cases h126 : bt s (q : Int) = 126
    · rw [if_neg (by simp [h126]), if_pos ⟨h0, h126⟩, show (1 : Int) = ((1 : Nat) : Int) from rfl, num_l _ (by omega) (s.size) k 1 (by omega) (by omega) (by omega) (by omega), hb1]
      have hr := runE_cut digitB s q (s.size) 1 (by omega)
      have hge := runE_ge digitB (s.extract q s.size) 1
      rw [← hr]
      by_cases hc : 1 < runE digitB (s.extract q s.size) 1 ∧ runE digitB (s.extract q s.size) 1 ≤ 6 ∧ bt s ((q + 1 : Nat) : Int) ≠ 48
      · rw [if_pos hc, if_pos ⟨by omega, by omega, hc.2.2⟩, Nat.add_sub_cancel_left]
      · rw [if_neg hc, if_neg (fun h => hc ⟨by omega, by omega, h.2.2⟩), Nat.sub_self]; rfl
    · rw [if_pos (by simp [h126]), if_neg (fun h => h126 h.2), Nat.sub_self]; rfl
  · rw [if_pos (by rw [toList_nil]; omega)]
    simp only [lexis_numbered.j0]
    rw [if_pos trivial, if_neg (fun h => h0 h.1), Nat.sub_self]; rfl
end Go.Proofs.YtldjdcdoegjmoaaDoor.P
namespace Go.Proofs.YtldjdcdoegjmoaaDoor.P
open Go.RowKit Go.Proofs.YtldjdcdoegjmoaaDoorW.PrintWords Go.Proofs.YtldjdcdoegjmoaaDoorW.PrintLast
theorem bt_lt {s : ByteArray} {i : Nat} (h : i < s.size) : bt s (i : Int) = ((s[i]'h).toNat : Int) := by rw [bt_nat, dif_pos h]
theorem two_list (t : ByteArray) (h : 2 ≤ t.size) : (t.extract 0 2).toList = [t[0]'(by omega), t[1]'(by omega)] := by
  rw [ByteArray.toList_eq]
  have hz : (t.extract 0 2).size = 2 := by rw [ByteArray.size_extract]; omega
  apply List.ext_getElem
  · rw [Array.length_toList]; exact hz
  · intro i h1 h2
    have hi : i < 2 := by rw [Array.length_toList] at h1; exact lt_of_lt_of_eq h1 hz
    have e : (t.extract 0 2).data.toList[i] = (t.extract 0 2)[i]'(by omega) := rfl
    rw [e, ByteArray.getElem_extract]
    rcases (by omega : i = 0 ∨ i = 1) with rfl | rfl <;> rfl
def pre2B (s : ByteArray) (q : Nat) (x y : UInt8) : Bool := decide (q + 1 < s.size ∧ bt s (q : Int) = (x.toNat : Int) ∧ bt s ((q + 1 : Nat) : Int) = (y.toNat : Int))
theorem prefix2_f (s : ByteArray) (q : Nat) (x y : UInt8) (hq : q ≤ s.size) :
    strings_HasPrefix.f (s.extract q s.size) ⟨#[x, y]⟩ = some (pre2B s q x y) := by
  unfold pre2B
  have hz := size_cut s q
  have h2 : (⟨#[x, y]⟩ : ByteArray).size = 2 := rfl
  unfold strings_HasPrefix.f stringslite_HasPrefix.f
  rw [h2, hz]
  by_cases h : q + 1 < s.size
  · rw [if_pos (by omega), if_pos (by omega), if_pos (by omega)]
    simp only [Option.bind_some, Option.some.injEq]
    have e : ((((2 : Nat) : Int)).toNat) = 2 := rfl
    rw [e, two_list _ (by omega)]
    have b0 : bt s (q : Int) = (((s.extract q s.size)[0]'(by omega)).toNat : Int) := by
      have := bt_cut s q 0
      rw [bt_lt (by omega)] at this
      exact this.symm
    have b1 : bt s ((q + 1 : Nat) : Int) = (((s.extract q s.size)[1]'(by omega)).toNat : Int) := by
      have := bt_cut s q 1
      rw [bt_lt (by omega)] at this
      exact this.symm
    rw [b0, b1]
    have el : (⟨#[x, y]⟩ : ByteArray).toList = [x, y] := by rw [ByteArray.toList_eq]
    rw [el, Bool.eq_iff_iff, beq_iff_eq, decide_eq_true_iff]
    constructor
    · intro h'
      injection h' with h0 h'
      injection h' with h1 _
      rw [h0, h1]
      exact ⟨h, rfl, rfl⟩
    · rintro ⟨_, h0, h1⟩
      rw [UInt8.toNat_inj.1 (Int.ofNat.inj h0), UInt8.toNat_inj.1 (Int.ofNat.inj h1)]
  · rw [if_neg (by omega)]
    simp only [Option.bind_some, Option.some.injEq]
    rw [decide_eq_false (fun h' => h h'.1)]
theorem named_f (s : ByteArray) (hs : s.size ≤ bnd) (p k : Nat) (hp : p ≤ s.size) (hk : s.size + 6 < k) : lexis_named.f k s (p : Int) = some ((nameE s p - p : Nat) : Int) := by
  have h1 := ownE_ge s p
  have h2 := ownE_size s p hp
  have hs' := hs
  unfold bnd at hs'
  unfold lexis_named.f nameE
  rw [own_f s hs p k hp (by omega)]
  simp only [Option.bind_some]
  by_cases h0 : ownE s p = p
  · rw [if_pos (by omega), if_pos h0, Nat.sub_self]; rfl
  · rw [if_neg (by omega), if_neg h0]
    have e : wrap64 ((p : Int) + ((ownE s p - p : Nat) : Int)) = ((ownE s p : Nat) : Int) := by rw [wr_in (by omega) (by omega)]; omega
    rw [e]; clear e
    rw [if_pos (by omega), if_pos (by omega), Int.toNat_natCast, prefix2_f s _ 58 58 h2]
    simp only [Option.bind_some]
    have g1 := colE_ge s (ownE s p)
    have g2 := colE_size s (ownE s p) h2
    have g3 := numE_ge s (colE s (ownE s p))
    have g4 := numE_size s (colE s (ownE s p)) g2
    by_cases hc : ownE s p + 1 < s.size ∧ bt s ((ownE s p : Nat) : Int) = 58 ∧ bt s ((ownE s p + 1 : Nat) : Int) = 58
    · rw [show pre2B s (ownE s p) 58 58 = true by unfold pre2B; exact decide_eq_true hc, if_pos rfl]
      have e2 : wrap64 (((ownE s p : Nat) : Int) + 2) = ((ownE s p + 2 : Nat) : Int) := by rw [wr_in (by omega) (by omega)]; omega
      rw [e2]; clear e2
      rw [own_f s hs (ownE s p + 2) k (by omega) (by omega)]
      simp only [Option.bind_some]
      have g5 := ownE_ge s (ownE s p + 2)
      have g6 := ownE_size s (ownE s p + 2) (by omega)
      have hcol : colE s (ownE s p) = if ownE s p + 2 < ownE s (ownE s p + 2) then ownE s (ownE s p + 2) else ownE s p := by unfold colE; rw [if_pos hc]
      by_cases hm : ownE s p + 2 < ownE s (ownE s p + 2)
      · rw [if_pos hm] at hcol
        rw [if_pos (by omega)]
        rw [show wrap64 (2 + ((ownE s (ownE s p + 2) - (ownE s p + 2) : Nat) : Int)) = ((ownE s (ownE s p + 2) - ownE s p : Nat) : Int) by rw [wr_in (by omega) (by omega)]; omega]
        rw [show wrap64 (((ownE s p - p : Nat) : Int) + ((ownE s (ownE s p + 2) - ownE s p : Nat) : Int)) = ((ownE s (ownE s p + 2) - p : Nat) : Int) by rw [wr_in (by omega) (by omega)]; omega]
        rw [show wrap64 ((p : Int) + ((ownE s (ownE s p + 2) - p : Nat) : Int)) = ((ownE s (ownE s p + 2) : Nat) : Int) by rw [wr_in (by omega) (by omega)]; omega]
        rw [if_pos (by omega), if_pos (by omega), Int.toNat_natCast, numbered_f s hs _ k g6 (by omega)]
        simp only [Option.bind_some]
        rw [hcol] at g3 g4 ⊢
        rw [wr_in (by omega) (by omega)]
        congr 1
        omega
      · rw [if_neg hm] at hcol
        rw [if_neg (by omega), numbered_f s hs _ k h2 (by omega)]
        simp only [Option.bind_some]
        rw [hcol] at g3 g4 ⊢
        rw [wr_in (by omega) (by omega)]
        congr 1
        omega
    · have hcol : colE s (ownE s p) = ownE s p := by unfold colE; rw [if_neg hc]
      rw [show pre2B s (ownE s p) 58 58 = false by unfold pre2B; exact decide_eq_false hc, if_neg (by simp), numbered_f s hs _ k h2 (by omega)]
      simp only [Option.bind_some]
      rw [hcol] at g3 g4 ⊢
      rw [wr_in (by omega) (by omega)]
      congr 1
      omega
theorem refNamed_j2 (s : ByteArray) (hs : s.size ≤ bnd) (q k : Nat) (hq : q ≤ s.size) (hk : s.size + 3 < k) (b : Bool) :
    dowelref04_named.j2 k s (q : Int) b = some ((if b = true then (if q + 1 < runE digitB s (q + 1) ∧ runE digitB s (q + 1) ≤ q + 6 ∧ bt s ((q + 1 : Nat) : Int) ≠ 48 then runE digitB s (q + 1) else q) else q : Nat) : Int) := by
  obtain ⟨k, rfl⟩ : ∃ m, k = m + 1 := ⟨k - 1, by omega⟩
  have hs' := hs
  unfold bnd at hs'
  have e1 : wrap64 ((q : Int) + 1) = ((q + 1 : Nat) : Int) := by rw [wr_in (by omega) (by omega)]; omega
  have e6 : wrap64 ((q : Int) + 6) = ((q + 6 : Nat) : Int) := by rw [wr_in (by omega) (by omega)]; omega
  simp only [dowelref04_named.j2, e1, e6]
  cases b
  · rw [if_neg (by simp), if_neg (by simp)]
  · rw [if_pos rfl, if_pos rfl, refDigits_f s hs (q + 1) k (by omega) (by omega)]
    simp only [Option.bind_some]
    by_cases c1 : q + 1 < runE digitB s (q + 1)
    · have hlt : q + 1 < s.size := by
        by_cases h : q + 1 < s.size
        · exact h
        · rw [runE_end h] at c1; omega
      rw [if_pos (by omega)]
      by_cases c2 : runE digitB s (q + 1) ≤ q + 6
      · rw [if_pos (by omega), if_pos (by omega), if_pos (by omega)]
        by_cases c3 : bt s ((q + 1 : Nat) : Int) = 48
        · rw [if_pos c3, if_neg (fun h => h.2.2 c3)]
        · rw [if_neg c3, if_pos ⟨c1, c2, c3⟩]
      · rw [if_neg (by omega), if_neg (fun h => c2 h.2.1)]
    · rw [if_neg (by omega), if_neg (fun h => c1 h.1)]
theorem refNamed_j1 (s : ByteArray) (hs : s.size ≤ bnd) (q k : Nat) (hq : q ≤ s.size) (hk : s.size + 4 < k) : dowelref04_named.j1 k s (q : Int) = some ((numE s q : Nat) : Int) := by
  obtain ⟨k, rfl⟩ : ∃ m, k = m + 1 := ⟨k - 1, by omega⟩
  simp only [dowelref04_named.j1]
  unfold numE
  by_cases h : q < s.size
  · rw [if_pos (by omega), if_pos (by omega), refNamed_j2 s hs q k hq (by omega)]
    by_cases h2 : bt s (q : Int) = 126
    · rw [if_pos (by simpa using h2), if_pos (c := q < s.size ∧ _) ⟨h, h2⟩]
    · rw [if_neg (by simpa using h2), if_neg (fun h' => h2 h'.2)]
  · rw [if_neg (by omega), refNamed_j2 s hs q k hq (by omega), if_neg (by simp), if_neg (fun h' => h h'.1)]
theorem refNamed_j0 (s : ByteArray) (hs : s.size ≤ bnd) (q k : Nat) (hq : q ≤ s.size) (hk : s.size + 6 < k) (b : Bool) (hb : b = true → q + 1 < s.size) :
    dowelref04_named.j0 k s (q : Int) b = some ((numE s (if b = true ∧ q + 2 < ownE s (q + 2) then ownE s (q + 2) else q) : Nat) : Int) := by
  obtain ⟨k, rfl⟩ : ∃ m, k = m + 1 := ⟨k - 1, by omega⟩
  have hs' := hs
  unfold bnd at hs'
  have e2 : wrap64 ((q : Int) + 2) = ((q + 2 : Nat) : Int) := by rw [wr_in (by omega) (by omega)]; omega
  simp only [dowelref04_named.j0, e2]
  cases b
  · rw [if_neg (by simp), if_neg (by simp), refNamed_j1 s hs q k hq (by omega)]
  · have := hb rfl
    rw [if_pos rfl, refOwn_f s hs (q + 2) k (by omega) (by omega)]
    simp only [Option.bind_some]
    by_cases c : q + 2 < ownE s (q + 2)
    · rw [if_pos (by omega), if_pos ⟨by trivial, c⟩, refNamed_j1 s hs _ k (ownE_size _ _ (by omega)) (by omega)]
    · rw [if_neg (by omega), if_neg (fun h => c h.2), refNamed_j1 s hs q k hq (by omega)]
theorem refNamed_f (s : ByteArray) (hs : s.size ≤ bnd) (p k : Nat) (hp : p ≤ s.size) (hk : s.size + 6 < k) : dowelref04_named.f k s (p : Int) = some ((nameE s p : Nat) : Int) := by
  have h1 := ownE_ge s p
  have h2 := ownE_size s p hp
  have hs' := hs
  unfold bnd at hs'
  unfold dowelref04_named.f nameE
  rw [refOwn_f s hs p k (by omega) (by omega)]
  simp only [Option.bind_some]
  have e1 : wrap64 (((ownE s p : Nat) : Int) + 1) = ((ownE s p + 1 : Nat) : Int) := by rw [wr_in (by omega) (by omega)]; omega
  rw [e1]
  by_cases h0 : ownE s p = p
  · rw [if_pos (by omega), if_pos h0]
  · rw [if_neg (by omega), if_neg h0]
    unfold colE
    by_cases hc : ownE s p + 1 < s.size
    · rw [if_pos (by omega), if_pos (by omega), if_pos (by omega)]
      by_cases h58 : bt s ((ownE s p : Nat) : Int) = 58
      · rw [if_pos h58, if_pos (by omega), refNamed_j0 s hs _ k h2 (by omega) _ (fun _ => hc)]
        by_cases h59 : bt s ((ownE s p + 1 : Nat) : Int) = 58
        · rw [if_pos (c := ownE s p + 1 < s.size ∧ _) ⟨hc, h58, h59⟩]
          by_cases c : ownE s p + 2 < ownE s (ownE s p + 2)
          · rw [if_pos ⟨by simpa using h59, c⟩, if_pos c]
          · rw [if_neg (fun h => c h.2), if_neg c]
        · rw [if_neg (fun h => h59 (by simpa using h.1)), if_neg (fun h => h59 h.2.2)]
      · rw [if_neg h58, refNamed_j0 s hs _ k h2 (by omega) _ (by simp), if_neg (by simp), if_neg (fun h => h58 h.2.1)]
    · rw [if_neg (by omega), refNamed_j0 s hs _ k h2 (by omega) _ (by simp), if_neg (by simp), if_neg (fun h => hc h.1)]
/-- Is a text a name? -/
def knowsB (s : ByteArray) : Bool := decide (s.size ≠ 0 ∧ s.size ≤ 64 ∧ nameE s 0 = s.size)
theorem Name_f (s : ByteArray) (hs : s.size ≤ bnd) (k : Nat) (hk : s.size + 6 < k) : lexis_Name.f k s = some (knowsB s) := by
  unfold lexis_Name.f knowsB
  by_cases h0 : s.size = 0
  · rw [if_pos (toList_nil.2 h0), decide_eq_false (fun h => h.1 h0)]
  · rw [if_neg (fun h => h0 (toList_nil.1 h))]
    by_cases h1 : s.size ≤ 64
    · rw [if_pos (by omega), show (0 : Int) = ((0 : Nat) : Int) from rfl, named_f s hs 0 k (by omega) hk]
      simp only [Option.bind_some, Option.some.injEq]
      rw [Bool.eq_iff_iff, beq_iff_eq, decide_eq_true_iff]
      constructor
      · intro h; exact ⟨h0, h1, by omega⟩
      · intro h; have := h.2.2; omega
    · rw [if_neg (by omega), decide_eq_false (fun h => h1 h.2.1)]
theorem refName_f (s : ByteArray) (hs : s.size ≤ bnd) (k : Nat) (hk : s.size + 6 < k) : dowelref04_Name.f k s = some (knowsB s) := by
  unfold dowelref04_Name.f knowsB
  by_cases h0 : s.size = 0
  · rw [if_pos (toList_nil.2 h0), decide_eq_false (fun h => h.1 h0)]
  · rw [if_neg (fun h => h0 (toList_nil.1 h))]
    by_cases h1 : s.size ≤ 64
    · rw [if_pos (by omega), show (0 : Int) = ((0 : Nat) : Int) from rfl, refNamed_f s hs 0 k (by omega) hk]
      simp only [Option.bind_some, Option.some.injEq]
      rw [Bool.eq_iff_iff, beq_iff_eq, decide_eq_true_iff]
      constructor
      · intro h; exact ⟨h0, h1, by omega⟩
      · intro h; have := h.2.2; omega
    · rw [if_neg (by omega), decide_eq_false (fun h => h1 h.2.1)]
end Go.Proofs.YtldjdcdoegjmoaaDoor.P
set_option linter.unusedVariables false
set_option linter.unusedSimpArgs false
namespace Go.Proofs.YtldjdcdoegjmoaaDoor.Pure
open Go.RowKit Go.Proofs.YtldjdcdoegjmoaaDoor.P Go.Proofs.YtldjdcdoegjmoaaDoorW.PrintWords Go.Proofs.YtldjdcdoegjmoaaDoorW.PrintLast
def ownB (s : ByteArray) : Bool := if s.toList = ([] : List UInt8) then false else if (s.size : Int) ≤ 64 then ((ownE s 0 : Nat) : Int) == (s.size : Int) else false
theorem ownName_f (s : ByteArray) (hs : s.size ≤ bnd) (k : Nat) (hk : s.size + 6 < k) : lexis_ownName.f k s = some (ownB s) := by
  unfold lexis_ownName.f ownB
  have h := own_f s hs 0 k (by omega) (by omega)
  simp only [Nat.sub_zero] at h
  have h' : lexis_own.f k s 0 = some ((ownE s 0 : Nat) : Int) := h
  split
  · rfl
  · split
    · rw [h', Option.bind_some]
    · rfl
theorem refOwnName_f (s : ByteArray) (hs : s.size ≤ bnd) (k : Nat) (hk : s.size + 6 < k) : dowelref04_Own.f k s = some (ownB s) := by
  unfold dowelref04_Own.f ownB
  have h' : dowelref04_own.f k s 0 = some ((ownE s 0 : Nat) : Int) := refOwn_f s hs 0 k (by omega) (by omega)
  split
  · rfl
  · split
    · rw [h', Option.bind_some]
    · rfl
theorem right_eq (k : Nat) (a0 a1 a2 : Int) (a3 : ByteArray) (a4 : Bool) (a5 a6 a7 a8 a9 a10 : Int) (hs : a3.size ≤ bnd) (hk : a3.size + 8 < k) :
    lexis_right.f k a0 a1 a2 a3 a4 a5 a6 a7 a8 a9 a10 = dowelref04_Right.f k a0 a1 a2 a3 a4 a5 a6 a7 a8 a9 a10 := by
  obtain ⟨k, rfl⟩ : ∃ m, k = m + 1 := ⟨k - 1, by omega⟩
  unfold lexis_right.f dowelref04_Right.f
  rw [Name_f a3 hs _ (by omega), refName_f a3 hs _ (by omega), lexis_right.j0.eq_def, dowelref04_Right.j0.eq_def, lexis_right.j0.eq_def, dowelref04_Right.j0.eq_def]
  simp only []
  rw [ownName_f a3 hs _ (by omega), refOwnName_f a3 hs _ (by omega)]
def Facts (a0 a9 a10 : Int) : Prop := 0 ≤ a0 ∧ a0 ≤ 17 ∧ (a0 = 9 → 0 ≤ a9 ∧ a9 ≤ 255 ∧ (a10 = -1 ∨ (a9 ≤ a10 ∧ a10 ≤ 255)))
theorem right_some (k : Nat) (a0 a1 a2 : Int) (a3 : ByteArray) (a4 : Bool) (a5 a6 a7 a8 a9 a10 : Int) (hs : a3.size ≤ bnd) (hk : a3.size + 8 < k) :
    ∃ b, lexis_right.f k a0 a1 a2 a3 a4 a5 a6 a7 a8 a9 a10 = some b ∧ (b = true → Facts a0 a9 a10) := by
  obtain ⟨k, rfl⟩ : ∃ m, k = m + 1 := ⟨k - 1, by omega⟩
  unfold lexis_right.f
  by_cases c1 : a0 = 1
  · rw [if_pos c1, Name_f a3 hs _ (by omega)]
    split
    · exact ⟨_, rfl, fun _ => ⟨by omega, by omega, fun h => by omega⟩⟩
    · exact ⟨_, rfl, fun h => by cases h⟩
  rw [if_neg c1]
  have main : ∀ x : Bool, (x = true → a0 = 16 ∨ a0 = 17) → ∃ b, lexis_right.j0 (k + 1) a0 x a0 0 0 a3 a4 a5 a6 a7 a8 a9 a10 0 0 0 a3 a4 a5 a6 a7 a8 a9 a10 = some b ∧ (b = true → Facts a0 a9 a10) := by
    intro x hx
    rw [lexis_right.j0.eq_def]
    simp only []
    rw [ownName_f a3 hs _ (by omega)]
    by_cases c2 : x = true
    · rw [if_pos c2]
      have := hx c2
      split
      · exact ⟨_, rfl, fun _ => ⟨by omega, by omega, fun h => by omega⟩⟩
      · exact ⟨_, rfl, fun h => by cases h⟩
    · rw [if_neg c2]
      by_cases c3 : a0 = 9
      · rw [if_pos c3]
        split
        · by_cases d1 : a9 ≥ 0
          · rw [if_pos d1]
            by_cases d2 : a9 ≤ 255
            · rw [if_pos d2]
              by_cases d3 : a10 = -1
              · rw [if_pos d3]; exact ⟨_, rfl, fun _ => ⟨by omega, by omega, fun _ => ⟨by omega, d2, .inl d3⟩⟩⟩
              · rw [if_neg d3]
                by_cases d4 : a10 ≥ a9
                · rw [if_pos d4]; exact ⟨_, rfl, fun h => ⟨by omega, by omega, fun _ => ⟨by omega, d2, .inr ⟨d4, of_decide_eq_true h⟩⟩⟩⟩
                · rw [if_neg d4]; exact ⟨_, rfl, fun h => by cases h⟩
            · rw [if_neg d2]; exact ⟨_, rfl, fun h => by cases h⟩
          · rw [if_neg d1]; exact ⟨_, rfl, fun h => by cases h⟩
        · exact ⟨_, rfl, fun h => by cases h⟩
      · rw [if_neg c3]
        by_cases c4 : a0 = 14
        · rw [if_pos c4]; exact ⟨_, rfl, fun _ => ⟨by omega, by omega, fun h => by omega⟩⟩
        · rw [if_neg c4]
          by_cases c5 : a0 = 15
          · rw [if_pos c5]; exact ⟨_, rfl, fun _ => ⟨by omega, by omega, fun h => by omega⟩⟩
          · rw [if_neg c5]
            by_cases c6 : a0 ≥ 0
            · rw [if_pos c6]
              by_cases c7 : a0 ≤ 17
              · rw [if_pos c7]; exact ⟨_, rfl, fun _ => ⟨c6, c7, fun h => by omega⟩⟩
              · rw [if_neg c7]; exact ⟨_, rfl, fun h => by cases h⟩
            · rw [if_neg c6]; exact ⟨_, rfl, fun h => by cases h⟩
  split
  · rename_i c8
    exact main _ (fun _ => .inl c8)
  · exact main _ (fun h => .inr (by simpa using h))
end Go.Proofs.YtldjdcdoegjmoaaDoor.Pure
set_option linter.unusedVariables false
set_option linter.unusedSimpArgs false
namespace Go.Proofs.YtldjdcdoegjmoaaDoor.P
open Go.RowKit Go.Proofs.YtldjdcdoegjmoaaDoorW.PrintWords Go.Proofs.YtldjdcdoegjmoaaDoorW.PrintLast
def nl (l : List Nat) : List Int := l.map fun (n : Nat) => (n : Int)
def tb (l : List Nat) : ByteArray := ⟨(l.map fun n => UInt8.ofNat n).toArray⟩
theorem tb_append (l m : List Nat) : tb (l ++ m) = tb l ++ tb m := by
  unfold tb
  apply ByteArray.ext
  simp
theorem tb_size (l : List Nat) : (tb l).size = l.length := by simp [tb, ByteArray.size]
theorem nl_append (l m : List Nat) : nl (l ++ m) = nl l ++ nl m := by simp [nl]
theorem nl_len (l : List Nat) : (nl l).length = l.length := by simp [nl]
theorem str_nl (l : List Nat) : strOfNums (nl l) = tb l := by unfold strOfNums nl tb; rw [List.map_map]; rfl
theorem bytes_tb {l : List Nat} (h : ∀ n ∈ l, n < 256) : bytesOf (tb l) = nl l := by
  unfold bytesOf tb nl
  simp only [List.map_map]
  refine List.map_congr_left fun n hn => ?_
  have := h n hn
  simp [Function.comp, Nat.mod_eq_of_lt this]
theorem spelling_all : ∀ b : Fin 256, class_spelling.f 3 (b.val : Int) = some (tb (spellL b.val)) := by decide +kernel
theorem spelledR_all : ∀ b : Fin 256, dowelref03_spelled.f 3 (b.val : Int) = some (tb (spellL b.val)) := by decide +kernel
theorem spell_lt_all : ∀ b : Fin 256, (spellL b.val).all (fun n => decide (n < 256)) = true := by decide +kernel
theorem spelling_f {k b : Nat} (hk : 3 ≤ k) (hb : b < 256) : class_spelling.f k (b : Int) = some (tb (spellL b)) := at_rounds (class_spelling.mono _) hk (spelling_all ⟨b, hb⟩)
theorem spelledR_f {k b : Nat} (hk : 3 ≤ k) (hb : b < 256) : dowelref03_spelled.f k (b : Int) = some (tb (spellL b)) := at_rounds (dowelref03_spelled.mono _) hk (spelledR_all ⟨b, hb⟩)
theorem spell_lt {b : Nat} (hb : b < 256) : ∀ n ∈ spellL b, n < 256 := fun n hn => by simpa using List.all_eq_true.1 (spell_lt_all ⟨b, hb⟩) n hn
theorem spell_len (b : Nat) : (spellL b).length ≤ 4 := by
  unfold spellL
  repeat' split
  all_goals simp
def rS (L : List (Nat × Nat)) : List S83 := L.map fun p => (⟨(p.1 : Int), (p.2 : Int)⟩ : S83)
theorem rS_len (L : List (Nat × Nat)) : (rS L).length = L.length := by simp [rS]
theorem rS_at {L : List (Nat × Nat)} {j : Nat} (hj : j < L.length) : Q32 (rS L) (j : Int) = ⟨((L[j]'hj).1 : Int), ((L[j]'hj).2 : Int)⟩ := by
  show (rS L).getD (Int.toNat (j : Int)) _ = _
  rw [Int.toNat_natCast, List.getD_eq_getElem?_getD]
  unfold rS
  rw [List.getElem?_map, List.getElem?_eq_getElem hj]
  rfl
theorem wr_j {j : Nat} (h : j < 9223372036854775807) : wrap64 ((j : Int) + 1) = ((j + 1 : Nat) : Int) := by unfold wrap64; omega
theorem textR_drop {L : List (Nat × Nat)} {j : Nat} (hj : j < L.length) : textR (L.drop j) = rngT (L[j]'hj) ++ textR (L.drop (j + 1)) := by
  rw [List.drop_eq_getElem_cons hj]
  unfold textR
  rw [List.flatMap_cons]
theorem text_l0 (L : List (Nat × Nat)) (hL : ∀ r ∈ L, r.1 ≤ r.2 ∧ r.2 < 256) (hn : L.length ≤ 256) : ∀ (d k j : Nat) (acc : List Nat), L.length - j = d → j ≤ L.length → d + 5 < k → acc.length + 12 * d < 140737488355320 →
    class_Text.l0 k (nl acc) (rS L) (L.length : Int) (j : Int) = some (tb (acc ++ (textR (L.drop j) ++ [93])))
  | 0, k, j, acc, hd, hj, hk, ha => by
    obtain ⟨k, rfl⟩ : ∃ m, k = m + 1 := ⟨k - 1, by omega⟩
    have e : L.drop j = [] := List.drop_eq_nil_of_le (by omega)
    simp only [class_Text.l0]
    rw [if_neg (by omega), nl_len, if_pos (by omega), e]
    have : nl acc ++ [93] = nl (acc ++ [93]) := by rw [nl_append]; rfl
    rw [this, str_nl]
    rfl
  | d + 1, k, j, acc, hd, hj, hk, ha => by
    obtain ⟨k, rfl⟩ : ∃ m, k = m + 1 := ⟨k - 1, by omega⟩
    have hlt : j < L.length := by omega
    have hr := hL _ (List.getElem_mem hlt)
    have hat := rS_at hlt
    rw [textR_drop hlt]
    generalize L[j]'hlt = r at hr hat
    obtain ⟨lo, hi⟩ := r
    dsimp only at hr hat
    have s1 := spelling_f (k := k) (b := lo) (by omega) (by omega)
    have s2 := spelling_f (k := k) (b := hi) (by omega) (by omega)
    have l1 := spell_len lo
    have l2 := spell_len hi
    have b1 := bytes_tb (spell_lt (b := lo) (by omega))
    have b2 := bytes_tb (spell_lt (b := hi) (by omega))
    have hm : (((hi : Int) - (lo : Int)) % 256) = (hi : Int) - lo := by omega
    simp only [class_Text.l0]
    rw [hat, rS_len]
    dsimp only
    rw [s1, s2, wr_j (by omega), if_pos (by omega), if_pos (by omega), if_pos (by omega), Option.bind_some, tb_size, nl_len, if_pos (by omega), Option.bind_some, b1, ← nl_append, nl_len, hm]
    unfold rngT
    dsimp only
    by_cases h1 : 1 < hi - lo
    · have e45 : nl (acc ++ spellL lo) ++ [45] = nl (acc ++ spellL lo ++ [45]) := by rw [nl_append (acc ++ spellL lo)]; rfl
      rw [if_pos (by omega), List.length_append, if_pos (by omega), Option.bind_some, if_pos (by omega), Option.bind_some, e45, nl_len, tb_size, b2, ← nl_append, List.length_append, List.length_append, List.length_singleton, if_pos (by omega)]
      rw [text_l0 L hL hn d k (j + 1) _ (by omega) (by omega) (by omega) (by simp only [List.length_append, List.length_singleton]; omega), if_pos h1, if_pos (by omega)]
      simp only [List.append_assoc]
    · rw [if_neg (by omega), if_neg h1]
      by_cases h2 : lo < hi
      · rw [if_pos (by omega), Option.bind_some, tb_size, b2, ← nl_append, List.length_append, if_pos (by omega)]
        rw [text_l0 L hL hn d k (j + 1) _ (by omega) (by omega) (by omega) (by simp only [List.length_append]; omega), if_pos h2]
        simp only [List.append_assoc, List.nil_append]
      · rw [if_neg (by omega)]
        rw [text_l0 L hL hn d k (j + 1) _ (by omega) (by omega) (by omega) (by simp only [List.length_append]; omega), if_neg h2]
        simp only [List.append_assoc, List.nil_append, List.append_nil]
theorem textR_l0 (L : List (Nat × Nat)) (hL : ∀ r ∈ L, r.1 ≤ r.2 ∧ r.2 < 256) (hn : L.length ≤ 256) : ∀ (d k j : Nat) (acc : List Nat), L.length - j = d → j ≤ L.length → d + 5 < k → acc.length + 12 * d < 140737488355320 →
    dowelref03_Text.l0 k (tb acc) (rS L) (j : Int) = some (tb (acc ++ (textR (L.drop j) ++ [93])))
  | 0, k, j, acc, hd, hj, hk, ha => by
    obtain ⟨k, rfl⟩ : ∃ m, k = m + 1 := ⟨k - 1, by omega⟩
    have e : L.drop j = [] := List.drop_eq_nil_of_le (by omega)
    simp only [dowelref03_Text.l0]
    rw [rS_len, if_neg (by omega), tb_size, if_pos (by omega), e]
    have : tb acc ++ (⟨#[93]⟩ : ByteArray) = tb (acc ++ [93]) := by rw [tb_append]; rfl
    rw [this]
    rfl
  | d + 1, k, j, acc, hd, hj, hk, ha => by
    obtain ⟨k, rfl⟩ : ∃ m, k = m + 1 := ⟨k - 1, by omega⟩
    have hlt : j < L.length := by omega
    have hr := hL _ (List.getElem_mem hlt)
    have hat := rS_at hlt
    rw [textR_drop hlt]
    generalize L[j]'hlt = r at hr hat
    obtain ⟨lo, hi⟩ := r
    dsimp only at hr hat
    have s1 := spelledR_f (k := k) (b := lo) (by omega) (by omega)
    have s2 := spelledR_f (k := k) (b := hi) (by omega) (by omega)
    have l1 := spell_len lo
    have l2 := spell_len hi
    have hm : (((hi : Int) - (lo : Int)) % 256) = (hi : Int) - lo := by omega
    have e45 : (⟨#[45]⟩ : ByteArray) = tb [45] := rfl
    simp only [dowelref03_Text.l0]
    rw [hat, rS_len]
    dsimp only
    rw [s1, s2, wr_j (by omega), if_pos (by omega), if_pos (by omega), Option.bind_some, tb_size, tb_size, if_pos (by omega), ← tb_append, hm, e45]
    unfold rngT
    dsimp only
    by_cases h1 : 1 < hi - lo
    · rw [if_pos (by omega), tb_size, List.length_append, if_pos (by omega), if_pos (by omega), Option.bind_some, ← tb_append, tb_size, tb_size, List.length_append, List.length_append, List.length_singleton, if_pos (by omega), ← tb_append]
      rw [textR_l0 L hL hn d k (j + 1) _ (by omega) (by omega) (by omega) (by simp only [List.length_append, List.length_singleton]; omega), if_pos h1, if_pos (by omega)]
      simp only [List.append_assoc]
    · rw [if_neg (by omega), if_neg h1]
      by_cases h2 : lo < hi
      · rw [if_pos (by omega), Option.bind_some, tb_size, tb_size, List.length_append, if_pos (by omega), ← tb_append]
        rw [textR_l0 L hL hn d k (j + 1) _ (by omega) (by omega) (by omega) (by simp only [List.length_append]; omega), if_pos h2]
        simp only [List.append_assoc, List.nil_append]
      · rw [if_neg (by omega)]
        rw [textR_l0 L hL hn d k (j + 1) _ (by omega) (by omega) (by omega) (by simp only [List.length_append]; omega), if_neg h2]
        simp only [List.append_assoc, List.nil_append, List.append_nil]
theorem ranges_len (a : Cls) : (rangesL a).length ≤ 256 := by
  have h := rangesOf_len _ (upto a 256) rfl
  have := upto_count a 256
  unfold rangesL
  omega
theorem text_f {a : Cls} (ha : a.ok) {k : Nat} (hk : 300 ≤ k) : class_Text.f k (a.c0 : Int) (a.c1 : Int) (a.c2 : Int) (a.c3 : Int) = some (tb (textC a)) := by
  obtain ⟨k, rfl⟩ : ∃ m, k = m + 1 := ⟨k - 1, by omega⟩
  have go : ∀ (b : Cls) (acc : List Nat), b.ok → acc.length ≤ 2 → class_Text.j0 (k + 1) (nl acc) (b.c0 : Int) (b.c1 : Int) (b.c2 : Int) (b.c3 : Int) = some (tb (acc ++ (textR (rangesL b) ++ [93]))) := by
    intro b acc hb hacc
    have hl := ranges_len b
    have hr : class_Ranges.f (b.c0 : Int) (b.c1 : Int) (b.c2 : Int) (b.c3 : Int) = some (rS (rangesL b)) := by
      unfold class_Ranges.f
      rw [if_pos (c4_ok hb), c4_cI]
      rfl
    simp only [class_Text.j0]
    rw [hr, Option.bind_some, rS_len]
    exact text_l0 (rangesL b) (good_ranges b).le hl (rangesL b).length k 0 acc (by omega) (by omega) (by omega) (by omega)
  have hc : class_Count.f (a.c0 : Int) (a.c1 : Int) (a.c2 : Int) (a.c3 : Int) = some (a.bytes.length : Int) := by
    unfold class_Count.f
    rw [if_pos (c4_ok ha), c4_cI]
  have hn : class_Not.f (a.c0 : Int) (a.c1 : Int) (a.c2 : Int) (a.c3 : Int) = some (c4 a.not) := by
    unfold class_Not.f
    rw [if_pos (c4_ok ha), c4_cI]
  unfold class_Text.f textC
  rw [Option.bind_some, hc, Option.bind_some]
  by_cases h : 128 < a.bytes.length
  · rw [if_pos (by omega), if_pos (by decide), hn, Option.bind_some, if_pos h]
    exact go a.not [91, 94] (Cls.ok_not _) (by decide)
  · rw [if_neg (by omega), if_neg h]
    exact go a [91] ha (by decide)
theorem textRef_f {a : Cls} (ha : a.ok) {k : Nat} (hk : 300 ≤ k) : dowelref03_Text.f k (a.c0 : Int) (a.c1 : Int) (a.c2 : Int) (a.c3 : Int) = some (tb (textC a)) := by
  obtain ⟨k, rfl⟩ : ∃ m, k = m + 1 := ⟨k - 1, by omega⟩
  have go : ∀ (b : Cls) (acc : List Nat), b.ok → acc.length ≤ 2 → dowelref03_Text.j0 (k + 1) (tb acc) (b.c0 : Int) (b.c1 : Int) (b.c2 : Int) (b.c3 : Int) = some (tb (acc ++ (textR (rangesL b) ++ [93]))) := by
    intro b acc hb hacc
    have hl := ranges_len b
    have hr : dowelref03_Ranges.f (b.c0 : Int) (b.c1 : Int) (b.c2 : Int) (b.c3 : Int) = some (rS (rangesL b)) := by
      unfold dowelref03_Ranges.f
      rw [if_pos (c4_ok hb), c4_cI]
      rfl
    simp only [dowelref03_Text.j0]
    rw [hr, Option.bind_some]
    exact textR_l0 (rangesL b) (good_ranges b).le hl (rangesL b).length k 0 acc (by omega) (by omega) (by omega) (by omega)
  have hc : dowelref03_Bytes.f (a.c0 : Int) (a.c1 : Int) (a.c2 : Int) (a.c3 : Int) = some (nl a.bytes) := by
    unfold dowelref03_Bytes.f
    rw [if_pos (c4_ok ha), c4_cI]
    rfl
  have hn : dowelref03_Not.f (a.c0 : Int) (a.c1 : Int) (a.c2 : Int) (a.c3 : Int) = some (c4 a.not) := by
    unfold dowelref03_Not.f
    rw [if_pos (c4_ok ha), c4_cI]
  unfold dowelref03_Text.f textC
  rw [hc, Option.bind_some, nl_len]
  by_cases h : 128 < a.bytes.length
  · rw [if_pos (by omega), hn, Option.bind_some, if_pos h]
    exact go a.not [91, 94] (Cls.ok_not _) (by decide)
  · rw [if_neg (by omega), if_neg h]
    exact go a [91] ha (by decide)
end Go.Proofs.YtldjdcdoegjmoaaDoor.P
