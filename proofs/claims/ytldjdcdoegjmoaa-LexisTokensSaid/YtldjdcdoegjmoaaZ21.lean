import Derived.Test.YtldjdcdoegjmoaaZ0
import Derived.Test.YtldjdcdoegjmoaaZ2
import Derived.Test.YtldjdcdoegjmoaaZ3
import Derived.Test.YtldjdcdoegjmoaaZ4
import Derived.Test.YtldjdcdoegjmoaaZ12
import Derived.Test.YtldjdcdoegjmoaaZ13
import Derived.Test.YtldjdcdoegjmoaaZ14
namespace Go.Proofs.Ytldjdcdoegjmoaa.P
open Go.RowKit Go.Proofs.YtldjdcdoegjmoaaW.PrintWords Go.Proofs.YtldjdcdoegjmoaaW.PrintLast
theorem wr_in {x : Int} (h0 : -9223372036854775808 ≤ x) (h1 : x ≤ 9223372036854775807) : wrap64 x = x := by unfold wrap64; omega
def letterB (c : Int) : Bool := (decide (97 ≤ c) && decide (c ≤ 122)) || (decide (65 ≤ c) && decide (c ≤ 90)) || c == 95
def digitB (c : Int) : Bool := decide (48 ≤ c) && decide (c ≤ 57)
def runE (P : Int → Bool) (s : ByteArray) (p : Nat) : Nat := if h : p < s.size then (if P (bt s (p : Int)) = true then runE P s (p + 1) else p) else p
termination_by s.size - p
theorem runE_yes {P : Int → Bool} {s : ByteArray} {p : Nat} (h : p < s.size) (hp : P (bt s (p : Int)) = true) : runE P s p = runE P s (p + 1) := by
 rw [runE, dif_pos h, if_pos hp]
theorem runE_no {P : Int → Bool} {s : ByteArray} {p : Nat} (hp : ¬ P (bt s (p : Int)) = true) : runE P s p = p := by
 rw [runE, if_neg hp]
 split <;> rfl
theorem runE_end {P : Int → Bool} {s : ByteArray} {p : Nat} (h : ¬ p < s.size) : runE P s p = p := by rw [runE, dif_neg h]
theorem runE_le (P : Int → Bool) (s : ByteArray) : ∀ (d p : Nat), s.size - p ≤ d → p ≤ runE P s p ∧ (p ≤ s.size → runE P s p ≤ s.size)
 | 0, p, hd => by rw [runE_end (by omega)]; exact ⟨Nat.le_refl _, id⟩
 | d + 1, p, hd => by
   by_cases h : p < s.size
   · by_cases hp : P (bt s (p : Int)) = true
     · rw [runE_yes h hp]
       have := runE_le P s d (p + 1) (by omega)
       exact ⟨by omega, fun _ => this.2 (by omega)⟩
     · rw [runE_no hp]; exact ⟨Nat.le_refl _, id⟩
   · rw [runE_end h]; exact ⟨Nat.le_refl _, id⟩
theorem runE_ge (P : Int → Bool) (s : ByteArray) (p : Nat) : p ≤ runE P s p := (runE_le P s _ p (Nat.le_refl _)).1
theorem runE_size (P : Int → Bool) (s : ByteArray) (p : Nat) (h : p ≤ s.size) : runE P s p ≤ s.size := (runE_le P s _ p (Nat.le_refl _)).2 h
theorem size_cut (s : ByteArray) (q : Nat) : (s.extract q s.size).size = s.size - q := by simp
theorem bt_nat (s : ByteArray) (i : Nat) : bt s (i : Int) = if h : i < s.size then ((s[i]'h).toNat : Int) else 0 := by unfold bt; simp
theorem bt_cut (s : ByteArray) (q i : Nat) : bt (s.extract q s.size) (i : Int) = bt s ((q + i : Nat) : Int) := by
 rw [bt_nat, bt_nat]
 by_cases h : q + i < s.size
 · rw [dif_pos h, dif_pos (by rw [size_cut]; omega)]
   congr 2
   exact ByteArray.getElem_extract ..
 · rw [dif_neg h, dif_neg (by rw [size_cut]; omega)]
theorem runE_cut (P : Int → Bool) (s : ByteArray) (q : Nat) : ∀ (d i : Nat), s.size - (q + i) ≤ d → q + runE P (s.extract q s.size) i = runE P s (q + i)
 | 0, i, hd => by rw [runE_end (by rw [size_cut]; omega), runE_end (by omega)]
 | d + 1, i, hd => by
   by_cases h : q + i < s.size
   · by_cases hp : P (bt s ((q + i : Nat) : Int)) = true
     · rw [runE_yes h hp, runE_yes (by rw [size_cut]; omega) (by rw [bt_cut]; exact hp), show q + i + 1 = q + (i + 1) by omega]
       exact runE_cut P s q d (i + 1) (by omega)
     · rw [runE_no hp, runE_no (by rw [bt_cut]; exact hp)]
   · rw [runE_end h, runE_end (by rw [size_cut]; omega)]
def alnumB (c : Int) : Bool := letterB c || digitB c
def ownE (s : ByteArray) (p : Nat) : Nat := if p < s.size ∧ letterB (bt s (p : Int)) = true then runE alnumB s p else p
theorem ownE_ge (s : ByteArray) (p : Nat) : p ≤ ownE s p := by unfold ownE; split; exact runE_ge _ _ _; exact Nat.le_refl _
theorem ownE_size (s : ByteArray) (p : Nat) (h : p ≤ s.size) : ownE s p ≤ s.size := by unfold ownE; split; exact runE_size _ _ _ h; exact h
theorem ownE_on (s : ByteArray) (p : Nat) (h : p < s.size ∧ letterB (bt s (p : Int)) = true) : p < ownE s p := by
 unfold ownE; rw [if_pos h, runE_yes h.1 (by unfold alnumB; rw [h.2]; rfl)]; exact runE_ge _ _ _
def numE (s : ByteArray) (k : Nat) : Nat :=
 if k < s.size ∧ bt s (k : Int) = 126 then (if k + 1 < runE digitB s (k + 1) ∧ runE digitB s (k + 1) ≤ k + 6 ∧ bt s ((k + 1 : Nat) : Int) ≠ 48 then runE digitB s (k + 1) else k) else k
def colE (s : ByteArray) (k : Nat) : Nat :=
 if k + 1 < s.size ∧ bt s (k : Int) = 58 ∧ bt s ((k + 1 : Nat) : Int) = 58 then (if k + 2 < ownE s (k + 2) then ownE s (k + 2) else k) else k
def nameE (s : ByteArray) (p : Nat) : Nat := if ownE s p = p then p else numE s (colE s (ownE s p))
theorem colE_ge (s : ByteArray) (k : Nat) : k ≤ colE s k := by unfold colE; split <;> (try split) <;> omega
theorem colE_size (s : ByteArray) (k : Nat) (h : k ≤ s.size) : colE s k ≤ s.size := by
 unfold colE; split
 · split
   · exact ownE_size _ _ (by omega)
   · exact h
 · exact h
theorem numE_ge (s : ByteArray) (k : Nat) : k ≤ numE s k := by unfold numE; split <;> (try split) <;> omega
theorem numE_size (s : ByteArray) (k : Nat) (h : k ≤ s.size) : numE s k ≤ s.size := by
 unfold numE; split
 · split
   · exact runE_size _ _ _ (by omega)
   · exact h
 · exact h
theorem nameE_ge (s : ByteArray) (p : Nat) : p ≤ nameE s p := by
 unfold nameE; split; omega
 have := ownE_ge s p; have := colE_ge s (ownE s p); have := numE_ge s (colE s (ownE s p)); omega
theorem nameE_size (s : ByteArray) (p : Nat) (h : p ≤ s.size) : nameE s p ≤ s.size := by
 unfold nameE; split; exact h
 exact numE_size _ _ (colE_size _ _ (ownE_size _ _ h))
end Go.Proofs.Ytldjdcdoegjmoaa.P
namespace Go.Proofs.Ytldjdcdoegjmoaa.P
open Go.RowKit Go.Proofs.YtldjdcdoegjmoaaW.PrintWords Go.Proofs.YtldjdcdoegjmoaaW.PrintLast
theorem lexis_letter_f (c : Int) : lexis_letter.f c = some (letterB c) := by
 unfold lexis_letter.f letterB
 repeat' split
 all_goals (simp only [Option.some.injEq]; rw [Bool.eq_iff_iff]; simp; omega)
theorem lexis_digit_f (c : Int) : lexis_digit.f c = some (digitB c) := by
 unfold lexis_digit.f digitB
 repeat' split
 all_goals (simp only [Option.some.injEq]; rw [Bool.eq_iff_iff]; simp; omega)
theorem refLetter_f (c : Int) : dowelref04_letter.f c = some (letterB c) := by
 unfold dowelref04_letter.f letterB
 repeat' split
 all_goals (simp only [Option.some.injEq]; rw [Bool.eq_iff_iff]; simp; omega)
theorem refDigit_f (c : Int) : dowelref04_digit.f c = some (digitB c) := by
 unfold dowelref04_digit.f digitB
 repeat' split
 all_goals (simp only [Option.some.injEq]; rw [Bool.eq_iff_iff]; simp; omega)
def bnd : Nat := 140737488351232
theorem nat_ok {s : ByteArray} (hs : s.size ≤ bnd) {p : Nat} (h : p ≤ s.size + 100) : wrap64 (p : Int) = (p : Int) := by unfold bnd at hs; exact wr_in (by omega) (by omega)
theorem own_l (s : ByteArray) (hs : s.size ≤ bnd) (p : Nat) : ∀ (d k n : Nat), s.size - (p + n) ≤ d → d < k → 0 < n → p + n ≤ s.size →
 lexis_own.l0 k s (p : Int) (n : Int) = some ((runE alnumB s (p + n) - p : Nat) : Int) := by
 intro d
 induction d with
 | zero =>
   intro k n hd hk hn hp
   obtain ⟨k, rfl⟩ : ∃ m, k = m + 1 := ⟨k - 1, by omega⟩
   have e : wrap64 ((p : Int) + (n : Int)) = ((p + n : Nat) : Int) := by rw [← Int.natCast_add]; exact nat_ok hs (by omega)
   simp only [lexis_own.l0, e]
   rw [if_neg (by omega), runE_end (by omega), Nat.add_sub_cancel_left]
 | succ d ih =>
   intro k n hd hk hn hp
   obtain ⟨k, rfl⟩ : ∃ m, k = m + 1 := ⟨k - 1, by omega⟩
   have e : wrap64 ((p : Int) + (n : Int)) = ((p + n : Nat) : Int) := by rw [← Int.natCast_add]; exact nat_ok hs (by omega)
   have e1 : wrap64 ((n : Int) + 1) = ((n + 1 : Nat) : Int) := by rw [Int.natCast_add]; exact nat_ok hs (p := n + 1) (by omega)
   simp only [lexis_own.l0, e, e1]
   by_cases hlt : p + n < s.size
   · rw [if_pos (by omega), if_pos (by omega), lexis_letter_f, lexis_digit_f]
     simp only [Option.bind_some]
     by_cases hL : letterB (bt s ((p + n : Nat) : Int)) = true
     · rw [if_pos hL, ih k (n + 1) (by omega) (by omega) (by omega) (by omega), runE_yes hlt (by unfold alnumB; rw [hL]; rfl)]; rfl
     · rw [if_neg hL, if_pos (by omega)]
       by_cases hD : digitB (bt s ((p + n : Nat) : Int)) = true
       · rw [if_pos hD, ih k (n + 1) (by omega) (by omega) (by omega) (by omega), runE_yes hlt (by unfold alnumB; rw [hD, Bool.or_true])]; rfl
       · rw [if_neg hD, runE_no (by unfold alnumB; rw [Bool.or_eq_true]; exact fun h => h.elim hL hD), Nat.add_sub_cancel_left]
   · rw [if_neg (by omega), runE_end hlt, Nat.add_sub_cancel_left]
theorem own_f (s : ByteArray) (hs : s.size ≤ bnd) (p k : Nat) (hp : p ≤ s.size) (hk : s.size + 1 < k) : lexis_own.f k s (p : Int) = some ((ownE s p - p : Nat) : Int) := by
 obtain ⟨k, rfl⟩ : ∃ m, k = m + 1 := ⟨k - 1, by omega⟩
 have e : wrap64 ((p : Int) + 0) = (p : Int) := by rw [Int.add_zero]; exact nat_ok hs (by omega)
 unfold lexis_own.f
 simp only [lexis_own.l0, e]
 by_cases hlt : p < s.size
 · rw [if_pos (by omega), if_pos (by omega), lexis_letter_f]
   simp only [Option.bind_some]
   by_cases hL : letterB (bt s (p : Int)) = true
   · rw [if_pos hL, show wrap64 (0 + 1) = ((1 : Nat) : Int) by unfold wrap64; omega, own_l s hs p (s.size - (p + 1)) k 1 (Nat.le_refl _) (by omega) (by omega) (by omega)]
     unfold ownE
     rw [if_pos ⟨hlt, hL⟩, runE_yes hlt (by unfold alnumB; rw [hL]; rfl)]
   · rw [if_neg hL, if_neg (by omega)]
     unfold ownE
     rw [if_neg (fun h => hL h.2), Nat.sub_self]; rfl
 · rw [if_neg (by omega)]
   unfold ownE
   rw [if_neg (fun h => hlt h.1), Nat.sub_self]; rfl
theorem refOwn_l (s : ByteArray) (hs : s.size ≤ bnd) : ∀ (d k p : Nat), s.size - p ≤ d → d < k → p ≤ s.size → dowelref04_own.l0 k s (p : Int) = some ((runE alnumB s p : Nat) : Int) := by
 intro d
 induction d with
 | zero =>
   intro k p hd hk hp
   obtain ⟨k, rfl⟩ : ∃ m, k = m + 1 := ⟨k - 1, by omega⟩
   simp only [dowelref04_own.l0]
   rw [if_neg (by omega), runE_end (by omega)]
 | succ d ih =>
   intro k p hd hk hp
   obtain ⟨k, rfl⟩ : ∃ m, k = m + 1 := ⟨k - 1, by omega⟩
   have e1 : wrap64 ((p : Int) + 1) = ((p + 1 : Nat) : Int) := by rw [Int.natCast_add]; exact nat_ok hs (p := p + 1) (by omega)
   simp only [dowelref04_own.l0, e1]
   by_cases hlt : p < s.size
   · rw [if_pos (by omega), if_pos (by omega), refLetter_f, refDigit_f]
     simp only [Option.bind_some]
     by_cases hL : letterB (bt s (p : Int)) = true
     · rw [if_pos hL, ih k (p + 1) (by omega) (by omega) (by omega), runE_yes hlt (by unfold alnumB; rw [hL]; rfl)]
     · rw [if_neg hL]
       by_cases hD : digitB (bt s (p : Int)) = true
       · rw [if_pos hD, ih k (p + 1) (by omega) (by omega) (by omega), runE_yes hlt (by unfold alnumB; rw [hD, Bool.or_true])]
       · rw [if_neg hD, runE_no (by unfold alnumB; rw [Bool.or_eq_true]; exact fun h => h.elim hL hD)]
   · rw [if_neg (by omega), runE_end hlt]
theorem refOwn_f (s : ByteArray) (hs : s.size ≤ bnd) (p k : Nat) (hp : p ≤ s.size + 8) (hk : s.size + 3 < k) : dowelref04_own.f k s (p : Int) = some ((ownE s p : Nat) : Int) := by
 obtain ⟨k, rfl⟩ : ∃ m, k = m + 1 := ⟨k - 1, by omega⟩
 unfold dowelref04_own.f
 by_cases hlt : p < s.size
 · rw [if_neg (by omega), if_pos (by omega), if_pos (by omega), refLetter_f]
   simp only [Option.bind_some, dowelref04_own.j0]
   unfold ownE
   by_cases hL : letterB (bt s (p : Int)) = true
   · rw [hL, if_neg (by simp), refOwn_l s hs (s.size - p) k p (Nat.le_refl _) (by omega) (by omega), if_pos ⟨hlt, rfl⟩]
   · rw [if_pos (by simpa using hL), if_neg (fun h => hL h.2)]
 · rw [if_pos (by omega)]
   simp only [dowelref04_own.j0]
   unfold ownE
   rw [if_pos trivial, if_neg (fun h => hlt h.1)]
theorem refDigits_l (s : ByteArray) (hs : s.size ≤ bnd) : ∀ (d k p : Nat), s.size - p ≤ d → d < k → p ≤ s.size + 8 → dowelref04_digits.f k s (p : Int) = some ((runE digitB s p : Nat) : Int) := by
 intro d
 induction d with
 | zero =>
   intro k p hd hk hp
   obtain ⟨k, rfl⟩ : ∃ m, k = m + 1 := ⟨k - 1, by omega⟩
   unfold dowelref04_digits.f
   simp only [dowelref04_digits.l0]
   rw [if_neg (by omega), runE_end (by omega)]
 | succ d ih =>
   intro k p hd hk hp
   obtain ⟨k, rfl⟩ : ∃ m, k = m + 1 := ⟨k - 1, by omega⟩
   have e1 : wrap64 ((p : Int) + 1) = ((p + 1 : Nat) : Int) := by rw [Int.natCast_add]; exact nat_ok hs (p := p + 1) (by omega)
   unfold dowelref04_digits.f at ih ⊢
   simp only [dowelref04_digits.l0, e1]
   by_cases hlt : p < s.size
   · rw [if_pos (by omega), if_pos (by omega), refDigit_f]
     simp only [Option.bind_some]
     by_cases hD : digitB (bt s (p : Int)) = true
     · rw [if_pos hD, ih k (p + 1) (by omega) (by omega) (by omega), runE_yes hlt hD]
     · rw [if_neg hD, runE_no hD]
   · rw [if_neg (by omega), runE_end hlt]
theorem refDigits_f (s : ByteArray) (hs : s.size ≤ bnd) (p k : Nat) (hp : p ≤ s.size + 8) (hk : s.size + 1 < k) : dowelref04_digits.f k s (p : Int) = some ((runE digitB s p : Nat) : Int) :=
 refDigits_l s hs s.size k p (by omega) (by omega) hp
theorem num_l (s : ByteArray) (hs : s.size ≤ bnd) : ∀ (d k p : Nat), s.size - p ≤ d → d < k → 1 ≤ p → p ≤ s.size →
 lexis_numbered.l0 k s (p : Int) = some (if 1 < runE digitB s p ∧ runE digitB s p ≤ 6 ∧ bt s 1 ≠ 48 then ((runE digitB s p : Nat) : Int) else 0) := by
 intro d
 induction d with
 | zero =>
   intro k p hd hk h1 hp
   obtain ⟨k, rfl⟩ : ∃ m, k = m + 1 := ⟨k - 1, by omega⟩
   simp only [lexis_numbered.l0]
   rw [if_neg (by omega), runE_end (by omega)]
   by_cases e1 : p = 1
   · rw [if_pos (by omega), if_neg (by omega)]
   · rw [if_neg (by omega)]
     by_cases e6 : p ≤ 6
     · rw [if_neg (by omega), if_pos (by omega)]
       by_cases e0 : bt s 1 = 48
       · rw [if_pos e0, if_neg (fun h => h.2.2 e0)]
       · rw [if_neg e0, if_pos ⟨by omega, e6, e0⟩]
     · rw [if_pos (by omega), if_neg (by omega)]
 | succ d ih =>
   intro k p hd hk h1 hp
   obtain ⟨k, rfl⟩ : ∃ m, k = m + 1 := ⟨k - 1, by omega⟩
   have ee : wrap64 ((p : Int) + 1) = ((p + 1 : Nat) : Int) := by rw [Int.natCast_add]; exact nat_ok hs (p := p + 1) (by omega)
   simp only [lexis_numbered.l0, ee]
   have tail : (if (p : Int) = 1 then some 0 else if (p : Int) > 6 then some 0 else if 1 < (s.size : Int) then (if bt s 1 = 48 then some 0 else some (p : Int)) else none) =
    some (if 1 < p ∧ p ≤ 6 ∧ bt s 1 ≠ 48 then ((p : Nat) : Int) else 0) := by
    by_cases e1 : p = 1
    · rw [if_pos (by omega), if_neg (by omega)]
    · rw [if_neg (by omega)]
      by_cases e6 : p ≤ 6
      · rw [if_neg (by omega), if_pos (by omega)]
        by_cases e0 : bt s 1 = 48
        · rw [if_pos e0, if_neg (fun h => h.2.2 e0)]
        · rw [if_neg e0, if_pos ⟨by omega, e6, e0⟩]
      · rw [if_pos (by omega), if_neg (by omega)]
   by_cases hlt : p < s.size
   · rw [if_pos (by omega), if_pos (by omega), lexis_digit_f]
     simp only [Option.bind_some]
     by_cases hD : digitB (bt s (p : Int)) = true
     · rw [if_pos hD, ih k (p + 1) (by omega) (by omega) (by omega) (by omega), runE_yes hlt hD]
     · rw [if_neg hD, runE_no hD]; exact tail
   · rw [if_neg (by omega), runE_end hlt]; exact tail
theorem toList_nil {s : ByteArray} : s.toList = ([] : List UInt8) ↔ s.size = 0 := by
 rw [show s.toList = s.data.toList from ByteArray.toList_eq s]
 constructor
 · intro h
   have : s.data.toList.length = 0 := by rw [h]; rfl
   rw [Array.length_toList] at this
   exact this
 · intro h
   have : s.data.toList.length = 0 := by rw [Array.length_toList]; exact h
   exact List.eq_nil_of_length_eq_zero this
theorem numbered_f (s : ByteArray) (hs : s.size ≤ bnd) (q k : Nat) (hq : q ≤ s.size) (hk : s.size + 4 < k) : lexis_numbered.f k (s.extract q s.size) = some ((numE s q - q : Nat) : Int) := by
 obtain ⟨k, rfl⟩ : ∃ m, k = m + 1 := ⟨k - 1, by omega⟩
 have hz := size_cut s q
 have hb := fun i : Nat => bt_cut s q i
 have hb0 : bt (s.extract q s.size) 0 = bt s (q : Int) := by simpa using hb 0
 have hb1 : bt (s.extract q s.size) 1 = bt s ((q + 1 : Nat) : Int) := by simpa using hb 1
 unfold lexis_numbered.f numE
 by_cases h0 : q < s.size
 · rw [if_neg (by rw [toList_nil]; omega), if_pos (by rw [hz]; omega), hb0]
   simp only [lexis_numbered.j0]
   by_cases h126 : bt s (q : Int) = 126
   · rw [if_neg (by simp [h126]), if_pos ⟨h0, h126⟩, show (1 : Int) = ((1 : Nat) : Int) from rfl, num_l _ (by omega) (s.size) k 1 (by omega) (by omega) (by omega) (by omega), hb1]
     have hr := runE_cut digitB s q (s.size) 1 (by omega)
     have hge := runE_ge digitB (s.extract q s.size) 1
     rw [← hr]
     by_cases hc : 1 < runE digitB (s.extract q s.size) 1 ∧ runE digitB (s.extract q s.size) 1 ≤ 6 ∧ bt s ((q + 1 : Nat) : Int) ≠ 48
     · rw [if_pos hc, if_pos ⟨by omega, by omega, hc.2.2⟩, Nat.add_sub_cancel_left]
     · rw [if_neg hc, if_neg (fun h => hc ⟨by omega, by omega, h.2.2⟩), Nat.sub_self]; rfl
   · rw [if_pos (by simp [h126]), if_neg (fun h => h126 h.2), Nat.sub_self]; rfl
 · rw [if_pos (by rw [toList_nil]; omega)]
   simp only [lexis_numbered.j0]
   rw [if_pos trivial, if_neg (fun h => h0 h.1), Nat.sub_self]; rfl
end Go.Proofs.Ytldjdcdoegjmoaa.P
namespace Go.Proofs.Ytldjdcdoegjmoaa.P
open Go.RowKit Go.Proofs.YtldjdcdoegjmoaaW.PrintWords Go.Proofs.YtldjdcdoegjmoaaW.PrintLast
theorem bt_lt {s : ByteArray} {i : Nat} (h : i < s.size) : bt s (i : Int) = ((s[i]'h).toNat : Int) := by rw [bt_nat, dif_pos h]
theorem two_list (t : ByteArray) (h : 2 ≤ t.size) : (t.extract 0 2).toList = [t[0]'(by omega), t[1]'(by omega)] := by
 rw [ByteArray.toList_eq]
 have hz : (t.extract 0 2).size = 2 := by rw [ByteArray.size_extract]; omega
 apply List.ext_getElem
 · rw [Array.length_toList]; exact hz
 · intro i h1 h2
   have hi : i < 2 := by rw [Array.length_toList] at h1; exact lt_of_lt_of_eq h1 hz
   have e : (t.extract 0 2).data.toList[i] = (t.extract 0 2)[i]'(by omega) := rfl
   rw [e, ByteArray.getElem_extract]
   rcases (by omega : i = 0 ∨ i = 1) with rfl | rfl <;> rfl
def pre2B (s : ByteArray) (q : Nat) (x y : UInt8) : Bool := decide (q + 1 < s.size ∧ bt s (q : Int) = (x.toNat : Int) ∧ bt s ((q + 1 : Nat) : Int) = (y.toNat : Int))
theorem prefix2_f (s : ByteArray) (q : Nat) (x y : UInt8) (hq : q ≤ s.size) :
 strings_HasPrefix.f (s.extract q s.size) ⟨#[x, y]⟩ = some (pre2B s q x y) := by
 unfold pre2B
 have hz := size_cut s q
 have h2 : (⟨#[x, y]⟩ : ByteArray).size = 2 := rfl
 unfold strings_HasPrefix.f stringslite_HasPrefix.f
 rw [h2, hz]
 by_cases h : q + 1 < s.size
 · rw [if_pos (by omega), if_pos (by omega), if_pos (by omega)]
   simp only [Option.bind_some, Option.some.injEq]
   have e : ((((2 : Nat) : Int)).toNat) = 2 := rfl
   rw [e, two_list _ (by omega)]
   have b0 : bt s (q : Int) = (((s.extract q s.size)[0]'(by omega)).toNat : Int) := by
    have := bt_cut s q 0
    rw [bt_lt (by omega)] at this
    exact this.symm
   have b1 : bt s ((q + 1 : Nat) : Int) = (((s.extract q s.size)[1]'(by omega)).toNat : Int) := by
    have := bt_cut s q 1
    rw [bt_lt (by omega)] at this
    exact this.symm
   rw [b0, b1]
   have el : (⟨#[x, y]⟩ : ByteArray).toList = [x, y] := by rw [ByteArray.toList_eq]
   rw [el, Bool.eq_iff_iff, beq_iff_eq, decide_eq_true_iff]
   constructor
   · intro h'
     injection h' with h0 h'
     injection h' with h1 _
     rw [h0, h1]
     exact ⟨h, rfl, rfl⟩
   · rintro ⟨_, h0, h1⟩
     rw [UInt8.toNat_inj.1 (Int.ofNat.inj h0), UInt8.toNat_inj.1 (Int.ofNat.inj h1)]
 · rw [if_neg (by omega)]
   simp only [Option.bind_some, Option.some.injEq]
   rw [decide_eq_false (fun h' => h h'.1)]
theorem named_f (s : ByteArray) (hs : s.size ≤ bnd) (p k : Nat) (hp : p ≤ s.size) (hk : s.size + 6 < k) : lexis_named.f k s (p : Int) = some ((nameE s p - p : Nat) : Int) := by
 have h1 := ownE_ge s p
 have h2 := ownE_size s p hp
 have hs' := hs
 unfold bnd at hs'
 unfold lexis_named.f nameE
 rw [own_f s hs p k hp (by omega)]
 simp only [Option.bind_some]
 by_cases h0 : ownE s p = p
 · rw [if_pos (by omega), if_pos h0, Nat.sub_self]; rfl
 · rw [if_neg (by omega), if_neg h0]
   have e : wrap64 ((p : Int) + ((ownE s p - p : Nat) : Int)) = ((ownE s p : Nat) : Int) := by rw [wr_in (by omega) (by omega)]; omega
   rw [e]; clear e
   rw [if_pos (by omega), if_pos (by omega), Int.toNat_natCast, prefix2_f s _ 58 58 h2]
   simp only [Option.bind_some]
   have g1 := colE_ge s (ownE s p)
   have g2 := colE_size s (ownE s p) h2
   have g3 := numE_ge s (colE s (ownE s p))
   have g4 := numE_size s (colE s (ownE s p)) g2
   by_cases hc : ownE s p + 1 < s.size ∧ bt s ((ownE s p : Nat) : Int) = 58 ∧ bt s ((ownE s p + 1 : Nat) : Int) = 58
   · rw [show pre2B s (ownE s p) 58 58 = true by unfold pre2B; exact decide_eq_true hc, if_pos rfl]
     have e2 : wrap64 (((ownE s p : Nat) : Int) + 2) = ((ownE s p + 2 : Nat) : Int) := by rw [wr_in (by omega) (by omega)]; omega
     rw [e2]; clear e2
     rw [own_f s hs (ownE s p + 2) k (by omega) (by omega)]
     simp only [Option.bind_some]
     have g5 := ownE_ge s (ownE s p + 2)
     have g6 := ownE_size s (ownE s p + 2) (by omega)
     have hcol : colE s (ownE s p) = if ownE s p + 2 < ownE s (ownE s p + 2) then ownE s (ownE s p + 2) else ownE s p := by unfold colE; rw [if_pos hc]
     by_cases hm : ownE s p + 2 < ownE s (ownE s p + 2)
     · rw [if_pos hm] at hcol
       rw [if_pos (by omega)]
       rw [show wrap64 (2 + ((ownE s (ownE s p + 2) - (ownE s p + 2) : Nat) : Int)) = ((ownE s (ownE s p + 2) - ownE s p : Nat) : Int) by rw [wr_in (by omega) (by omega)]; omega]
       rw [show wrap64 (((ownE s p - p : Nat) : Int) + ((ownE s (ownE s p + 2) - ownE s p : Nat) : Int)) = ((ownE s (ownE s p + 2) - p : Nat) : Int) by rw [wr_in (by omega) (by omega)]; omega]
       rw [show wrap64 ((p : Int) + ((ownE s (ownE s p + 2) - p : Nat) : Int)) = ((ownE s (ownE s p + 2) : Nat) : Int) by rw [wr_in (by omega) (by omega)]; omega]
       rw [if_pos (by omega), if_pos (by omega), Int.toNat_natCast, numbered_f s hs _ k g6 (by omega)]
       simp only [Option.bind_some]
       rw [hcol] at g3 g4 ⊢
       rw [wr_in (by omega) (by omega)]
       congr 1
       omega
     · rw [if_neg hm] at hcol
       rw [if_neg (by omega), numbered_f s hs _ k h2 (by omega)]
       simp only [Option.bind_some]
       rw [hcol] at g3 g4 ⊢
       rw [wr_in (by omega) (by omega)]
       congr 1
       omega
   · have hcol : colE s (ownE s p) = ownE s p := by unfold colE; rw [if_neg hc]
     rw [show pre2B s (ownE s p) 58 58 = false by unfold pre2B; exact decide_eq_false hc, if_neg (by simp), numbered_f s hs _ k h2 (by omega)]
     simp only [Option.bind_some]
     rw [hcol] at g3 g4 ⊢
     rw [wr_in (by omega) (by omega)]
     congr 1
     omega
theorem refNamed_j2 (s : ByteArray) (hs : s.size ≤ bnd) (q k : Nat) (hq : q ≤ s.size) (hk : s.size + 3 < k) (b : Bool) :
 dowelref04_named.j2 k s (q : Int) b = some ((if b = true then (if q + 1 < runE digitB s (q + 1) ∧ runE digitB s (q + 1) ≤ q + 6 ∧ bt s ((q + 1 : Nat) : Int) ≠ 48 then runE digitB s (q + 1) else q) else q : Nat) : Int) := by
 obtain ⟨k, rfl⟩ : ∃ m, k = m + 1 := ⟨k - 1, by omega⟩
 have hs' := hs
 unfold bnd at hs'
 have e1 : wrap64 ((q : Int) + 1) = ((q + 1 : Nat) : Int) := by rw [wr_in (by omega) (by omega)]; omega
 have e6 : wrap64 ((q : Int) + 6) = ((q + 6 : Nat) : Int) := by rw [wr_in (by omega) (by omega)]; omega
 simp only [dowelref04_named.j2, e1, e6]
 cases b
 · rw [if_neg (by simp), if_neg (by simp)]
 · rw [if_pos rfl, if_pos rfl, refDigits_f s hs (q + 1) k (by omega) (by omega)]
   simp only [Option.bind_some]
   by_cases c1 : q + 1 < runE digitB s (q + 1)
   · have hlt : q + 1 < s.size := by
      by_cases h : q + 1 < s.size
      · exact h
      · rw [runE_end h] at c1; omega
     rw [if_pos (by omega)]
     by_cases c2 : runE digitB s (q + 1) ≤ q + 6
     · rw [if_pos (by omega), if_pos (by omega), if_pos (by omega)]
       by_cases c3 : bt s ((q + 1 : Nat) : Int) = 48
       · rw [if_pos c3, if_neg (fun h => h.2.2 c3)]
       · rw [if_neg c3, if_pos ⟨c1, c2, c3⟩]
     · rw [if_neg (by omega), if_neg (fun h => c2 h.2.1)]
   · rw [if_neg (by omega), if_neg (fun h => c1 h.1)]
theorem refNamed_j1 (s : ByteArray) (hs : s.size ≤ bnd) (q k : Nat) (hq : q ≤ s.size) (hk : s.size + 4 < k) : dowelref04_named.j1 k s (q : Int) = some ((numE s q : Nat) : Int) := by
 obtain ⟨k, rfl⟩ : ∃ m, k = m + 1 := ⟨k - 1, by omega⟩
 simp only [dowelref04_named.j1]
 unfold numE
 by_cases h : q < s.size
 · rw [if_pos (by omega), if_pos (by omega), refNamed_j2 s hs q k hq (by omega)]
   by_cases h2 : bt s (q : Int) = 126
   · rw [if_pos (by simpa using h2), if_pos (c := q < s.size ∧ _) ⟨h, h2⟩]
   · rw [if_neg (by simpa using h2), if_neg (fun h' => h2 h'.2)]
 · rw [if_neg (by omega), refNamed_j2 s hs q k hq (by omega), if_neg (by simp), if_neg (fun h' => h h'.1)]
theorem refNamed_j0 (s : ByteArray) (hs : s.size ≤ bnd) (q k : Nat) (hq : q ≤ s.size) (hk : s.size + 6 < k) (b : Bool) (hb : b = true → q + 1 < s.size) :
 dowelref04_named.j0 k s (q : Int) b = some ((numE s (if b = true ∧ q + 2 < ownE s (q + 2) then ownE s (q + 2) else q) : Nat) : Int) := by
 obtain ⟨k, rfl⟩ : ∃ m, k = m + 1 := ⟨k - 1, by omega⟩
 have hs' := hs
 unfold bnd at hs'
 have e2 : wrap64 ((q : Int) + 2) = ((q + 2 : Nat) : Int) := by rw [wr_in (by omega) (by omega)]; omega
 simp only [dowelref04_named.j0, e2]
 cases b
 · rw [if_neg (by simp), if_neg (by simp), refNamed_j1 s hs q k hq (by omega)]
 · have := hb rfl
   rw [if_pos rfl, refOwn_f s hs (q + 2) k (by omega) (by omega)]
   simp only [Option.bind_some]
   by_cases c : q + 2 < ownE s (q + 2)
   · rw [if_pos (by omega), if_pos ⟨by trivial, c⟩, refNamed_j1 s hs _ k (ownE_size _ _ (by omega)) (by omega)]
   · rw [if_neg (by omega), if_neg (fun h => c h.2), refNamed_j1 s hs q k hq (by omega)]
theorem refNamed_f (s : ByteArray) (hs : s.size ≤ bnd) (p k : Nat) (hp : p ≤ s.size) (hk : s.size + 6 < k) : dowelref04_named.f k s (p : Int) = some ((nameE s p : Nat) : Int) := by
 have h1 := ownE_ge s p
 have h2 := ownE_size s p hp
 have hs' := hs
 unfold bnd at hs'
 unfold dowelref04_named.f nameE
 rw [refOwn_f s hs p k (by omega) (by omega)]
 simp only [Option.bind_some]
 have e1 : wrap64 (((ownE s p : Nat) : Int) + 1) = ((ownE s p + 1 : Nat) : Int) := by rw [wr_in (by omega) (by omega)]; omega
 rw [e1]
 by_cases h0 : ownE s p = p
 · rw [if_pos (by omega), if_pos h0]
 · rw [if_neg (by omega), if_neg h0]
   unfold colE
   by_cases hc : ownE s p + 1 < s.size
   · rw [if_pos (by omega), if_pos (by omega), if_pos (by omega)]
     by_cases h58 : bt s ((ownE s p : Nat) : Int) = 58
     · rw [if_pos h58, if_pos (by omega), refNamed_j0 s hs _ k h2 (by omega) _ (fun _ => hc)]
       by_cases h59 : bt s ((ownE s p + 1 : Nat) : Int) = 58
       · rw [if_pos (c := ownE s p + 1 < s.size ∧ _) ⟨hc, h58, h59⟩]
         by_cases c : ownE s p + 2 < ownE s (ownE s p + 2)
         · rw [if_pos ⟨by simpa using h59, c⟩, if_pos c]
         · rw [if_neg (fun h => c h.2), if_neg c]
       · rw [if_neg (fun h => h59 (by simpa using h.1)), if_neg (fun h => h59 h.2.2)]
     · rw [if_neg h58, refNamed_j0 s hs _ k h2 (by omega) _ (by simp), if_neg (by simp), if_neg (fun h => h58 h.2.1)]
   · rw [if_neg (by omega), refNamed_j0 s hs _ k h2 (by omega) _ (by simp), if_neg (by simp), if_neg (fun h => hc h.1)]
end Go.Proofs.Ytldjdcdoegjmoaa.P
set_option linter.unusedVariables false
set_option linter.unusedSimpArgs false
namespace Go.Proofs.Ytldjdcdoegjmoaa.P
open Go.RowKit Go.Proofs.YtldjdcdoegjmoaaW.PrintWords Go.Proofs.YtldjdcdoegjmoaaW.PrintLast
abbrev TV := Int × Int × Int × ByteArray × Bool × Int × Int × Int × Int × Int × Int × Int × Int
def faultV (p c : Int) : TV := (0, 0, 0, ⟨#[]⟩, false, 0, 0, 0, 0, 0, 0, p, c)
theorem tv_eta (o : Option TV) : (o.bind fun b => some (b.1, b.2.1, b.2.2.1, b.2.2.2.1, b.2.2.2.2.1, b.2.2.2.2.2.1, b.2.2.2.2.2.2.1, b.2.2.2.2.2.2.2.1, b.2.2.2.2.2.2.2.2.1, b.2.2.2.2.2.2.2.2.2.1, b.2.2.2.2.2.2.2.2.2.2.1, b.2.2.2.2.2.2.2.2.2.2.2.1, b.2.2.2.2.2.2.2.2.2.2.2.2)) = o := by
 cases o <;> rfl
theorem fault_f (p c : Int) : lexis_fault.f p c = some (faultV p c) := rfl
theorem refFault_f (p c : Int) : dowelref04_fault.f p c = some (faultV p c) := rfl
theorem runE_all (P : Int → Bool) (s : ByteArray) : ∀ (d p i : Nat), s.size - p ≤ d → p ≤ i → i < runE P s p → P (bt s (i : Int)) = true
 | 0, p, i, hd, h1, h2 => by rw [runE_end (by omega)] at h2; omega
 | d + 1, p, i, hd, h1, h2 => by
   by_cases h : p < s.size
   · by_cases hp : P (bt s (p : Int)) = true
     · rw [runE_yes h hp] at h2
       by_cases e : i = p
       · rw [e]; exact hp
       · exact runE_all P s d (p + 1) i (by omega) (by omega) h2
     · rw [runE_no hp] at h2; omega
   · rw [runE_end h] at h2; omega
theorem runE_on {P : Int → Bool} {s : ByteArray} {p : Nat} : ∀ (j : Nat), p + j ≤ runE P s p → runE P s (p + j) = runE P s p
 | 0, _ => rfl
 | j + 1, h => by
   have ih := runE_on j (by omega : p + j ≤ runE P s p)
   have hP := runE_all P s _ p (p + j) (Nat.le_refl _) (by omega) (by omega)
   have hlt : p + j < s.size := by
    by_cases q : p + j < s.size
    · exact q
    · rw [runE_end q] at ih; omega
   rw [← ih, runE_yes hlt hP]; rfl
def valE (s : ByteArray) (p : Nat) : Nat → Nat
 | 0 => 0
 | j + 1 => 10 * valE s p j + (bt s ((p + j : Nat) : Int) - 48).toNat
theorem digit_in {c : Int} (h : digitB c = true) : 48 ≤ c ∧ c ≤ 57 := by unfold digitB at h; simpa using h
theorem valE_lt (s : ByteArray) (p : Nat) : ∀ j, p + j ≤ runE digitB s p → valE s p j < 10 ^ j
 | 0, _ => by simp [valE]
 | j + 1, h => by
   have ih := valE_lt s p j (by omega)
   have hd := digit_in (runE_all digitB s _ p (p + j) (Nat.le_refl _) (by omega) (by omega))
   rw [valE, Nat.pow_succ]
   omega
theorem valE_four (s : ByteArray) (p : Nat) (h : p + 4 ≤ runE digitB s p) (h0 : bt s (p : Int) ≠ 48) : 255 < valE s p 4 := by
 have hd := digit_in (runE_all digitB s _ p p (Nat.le_refl _) (Nat.le_refl _) (by omega))
 simp only [valE, Nat.add_zero]
 omega
def numbE (s : ByteArray) (p : Nat) : Option (Nat × Nat) :=
 if p < runE digitB s p ∧ runE digitB s p ≤ p + 3 ∧ ¬ (bt s (p : Int) = 48 ∧ p + 1 < runE digitB s p) ∧ valE s p (runE digitB s p - p) ≤ 255 then some (valE s p (runE digitB s p - p), runE digitB s p) else none
def numbV (s : ByteArray) (p : Nat) (z : Int) : Int × Int := match numbE s p with | some (n, e) => ((n : Int), (e : Int)) | none => (z, (p : Int))
theorem number_end (s : ByteArray) (hs : s.size ≤ bnd) (p j : Nat) (hj : j ≤ 4) (hE : p + j ≤ runE digitB s p) (hm : p + j = runE digitB s p ∨ j = 4) :
 (if ((p + j : Nat) : Int) = (p : Int) then some ((-1 : Int), (p : Int)) else if ((p + j : Nat) : Int) > wrap64 ((p : Int) + 1) then (if 0 ≤ (p : Int) then (if (p : Int) < (s.size : Int) then (if bt s (p : Int) = 48 then some (-1, (p : Int)) else (if ((valE s p j : Nat) : Int) > 255 then some (-1, (p : Int)) else some (((valE s p j : Nat) : Int), ((p + j : Nat) : Int)))) else none) else none) else (if ((valE s p j : Nat) : Int) > 255 then some (-1, (p : Int)) else some (((valE s p j : Nat) : Int), ((p + j : Nat) : Int)))) =
   some (numbV s p (-1)) := by
 have hle := runE_size digitB s p
 have hps : j ≠ 0 → p < s.size := by
  intro h
  by_cases q : p < s.size
  · exact q
  · rw [runE_end q] at hE; omega
 unfold numbV numbE
 by_cases h0 : j = 0
 · subst h0
   rw [if_pos (by omega), if_neg (by omega)]
 · have hp := hps h0
   have hb := hs
   unfold bnd at hb
   rw [if_neg (by omega), wr_in (by omega) (by omega)]
   by_cases h4 : j = 4
   · subst h4
     rw [if_neg (c := p < runE digitB s p ∧ _) (by omega), if_pos (by omega), if_pos (by omega), if_pos (by omega)]
     by_cases h48 : bt s (p : Int) = 48
     · rw [if_pos h48]
     · rw [if_neg h48, if_pos (by have := valE_four s p hE h48; omega)]
   · have hjE : runE digitB s p = p + j := by omega
     rw [hjE, Nat.add_sub_cancel_left]
     by_cases h1 : j = 1
     · subst h1
       rw [if_neg (by omega)]
       by_cases hv : valE s p 1 ≤ 255
       · rw [if_neg (by omega), if_pos ⟨by omega, by omega, by omega, hv⟩]
       · rw [if_pos (by omega), if_neg (by omega)]
     · rw [if_pos (by omega), if_pos (by omega), if_pos (by omega)]
       by_cases h48 : bt s (p : Int) = 48
       · rw [if_pos h48, if_neg (by omega)]
       · rw [if_neg h48]
         by_cases hv : valE s p j ≤ 255
         · rw [if_neg (by omega), if_pos ⟨by omega, by omega, fun h => h48 h.1, hv⟩]
         · rw [if_pos (by omega), if_neg (by omega)]
theorem number_l (s : ByteArray) (hs : s.size ≤ bnd) (p : Nat) (hp : p ≤ s.size) : ∀ (d k j : Nat), 4 - j ≤ d → d + 1 < k → j ≤ 4 → p + j ≤ runE digitB s p →
 lexis_number.l0 k s (p : Int) ((valE s p j : Nat) : Int) ((p + j : Nat) : Int) = some (numbV s p (-1)) := by
 intro d
 have hle := runE_size digitB s p hp
 have hb := hs
 unfold bnd at hb
 induction d with
 | zero =>
   intro k j hd hk hj hE
   obtain ⟨k, rfl⟩ : ∃ m, k = m + 1 := ⟨k - 1, by omega⟩
   obtain rfl : j = 4 := by omega
   simp only [lexis_number.l0]
   by_cases hlt : p + 4 < s.size
   · rw [if_pos (by omega), if_pos (by omega), lexis_digit_f]
     simp only [Option.bind_some]
     have hw : ¬ (((p + 4 : Nat) : Int) < wrap64 ((p : Int) + 4)) := by rw [wr_in (by omega) (by omega)]; omega
     by_cases hD : digitB (bt s ((p + 4 : Nat) : Int)) = true
     · rw [if_pos hD, if_neg hw]
       exact number_end s hs p 4 (Nat.le_refl _) hE (.inr rfl)
     · rw [if_neg hD]
       exact number_end s hs p 4 (Nat.le_refl _) hE (.inr rfl)
   · rw [if_neg (by omega)]
     exact number_end s hs p 4 (Nat.le_refl _) hE (.inr rfl)
 | succ d ih =>
   intro k j hd hk hj hE
   obtain ⟨k, rfl⟩ : ∃ m, k = m + 1 := ⟨k - 1, by omega⟩
   simp only [lexis_number.l0]
   by_cases hlt : p + j < s.size
   · rw [if_pos (by omega), if_pos (by omega), lexis_digit_f]
     simp only [Option.bind_some]
     by_cases hD : digitB (bt s ((p + j : Nat) : Int)) = true
     · rw [if_pos hD]
       by_cases h4 : j < 4
       · have hE' : p + (j + 1) ≤ runE digitB s p := by
          have h1 := runE_on (P := digitB) (s := s) (p := p) j hE
          rw [runE_yes hlt hD] at h1
          have := runE_ge digitB s (p + j + 1)
          omega
         rw [if_pos (by rw [wr_in (by omega) (by omega)]; omega)]
         have hd2 := digit_in hD
         have hv := valE_lt s p j hE
         have hv2 : valE s p j < 10000 := Nat.lt_of_lt_of_le hv (Nat.le_trans (Nat.pow_le_pow_right (by omega) hj) (by decide))
         have e2 : wrap64 (wrap64 (10 * ((valE s p j : Nat) : Int)) + (bt s ((p + j : Nat) : Int) - 48) % 256) = ((valE s p (j + 1) : Nat) : Int) := by
          rw [wr_in (x := 10 * _) (by omega) (by omega), wr_in (by omega) (by omega), valE]
          omega
         have e3 : wrap64 (((p + j : Nat) : Int) + 1) = ((p + (j + 1) : Nat) : Int) := by rw [wr_in (by omega) (by omega)]; omega
         rw [e2, e3]; clear e2 e3
         exact ih k (j + 1) (by omega) (by omega) (by omega) hE'
       · rw [if_neg (by rw [wr_in (by omega) (by omega)]; omega)]
         exact number_end s hs p j hj hE (.inr (by omega))
     · rw [if_neg hD]
       refine number_end s hs p j hj hE (.inl ?_)
       have h1 := runE_on (P := digitB) (s := s) (p := p) j hE
       rw [runE_no hD] at h1
       exact h1
   · rw [if_neg (by omega)]
     exact number_end s hs p j hj hE (.inl (by omega))
theorem number_f (s : ByteArray) (hs : s.size ≤ bnd) (p k : Nat) (hp : p ≤ s.size) (hk : 8 < k) : lexis_number.f k s (p : Int) = some (numbV s p (-1)) :=
 number_l s hs p hp 4 k 0 (by omega) (by omega) (by omega) (runE_ge _ _ _)
theorem refNumber_l (s : ByteArray) (hs : s.size ≤ bnd) (p : Nat) (hp : p ≤ s.size) (hE3 : runE digitB s p ≤ p + 3) : ∀ (d k j : Nat), runE digitB s p - (p + j) ≤ d → d < k → p + j ≤ runE digitB s p →
 dowelref04_number.l0 k s (p : Int) ((runE digitB s p : Nat) : Int) ((valE s p j : Nat) : Int) ((p + j : Nat) : Int) = (if ((valE s p (runE digitB s p - p) : Nat) : Int) > 255 then some (0, (p : Int)) else some (((valE s p (runE digitB s p - p) : Nat) : Int), ((runE digitB s p : Nat) : Int))) := by
 intro d
 have hle := runE_size digitB s p hp
 have hb := hs
 unfold bnd at hb
 induction d with
 | zero =>
   intro k j hd hk hE
   obtain ⟨k, rfl⟩ : ∃ m, k = m + 1 := ⟨k - 1, by omega⟩
   simp only [dowelref04_number.l0]
   rw [if_neg (by omega), show runE digitB s p - p = j by omega]
 | succ d ih =>
   intro k j hd hk hE
   obtain ⟨k, rfl⟩ : ∃ m, k = m + 1 := ⟨k - 1, by omega⟩
   simp only [dowelref04_number.l0]
   by_cases hlt : p + j < runE digitB s p
   · have hd2 := digit_in (runE_all digitB s _ p (p + j) (Nat.le_refl _) (by omega) hlt)
     have hv := valE_lt s p j hE
     have hv2 : valE s p j < 10000 := Nat.lt_of_lt_of_le hv (Nat.le_trans (Nat.pow_le_pow_right (by omega) (show j ≤ 4 by omega)) (by decide))
     rw [if_pos (by omega), if_pos (by omega), if_pos (by omega)]
     have e2 : wrap64 (wrap64 (10 * ((valE s p j : Nat) : Int)) + (bt s ((p + j : Nat) : Int) - 48) % 256) = ((valE s p (j + 1) : Nat) : Int) := by
      rw [wr_in (x := 10 * _) (by omega) (by omega), wr_in (by omega) (by omega), valE]
      omega
     have e3 : wrap64 (((p + j : Nat) : Int) + 1) = ((p + (j + 1) : Nat) : Int) := by rw [wr_in (by omega) (by omega)]; omega
     rw [e2, e3]; clear e2 e3
     exact ih k (j + 1) (by omega) (by omega) (by omega)
   · rw [if_neg (by omega), show runE digitB s p - p = j by omega]
theorem refNumber_f (s : ByteArray) (hs : s.size ≤ bnd) (p k : Nat) (hp : p ≤ s.size) (hk : s.size + 10 < k) : dowelref04_number.f k s (p : Int) = some (numbV s p 0) := by
 have hle := runE_size digitB s p hp
 have hge := runE_ge digitB s p
 have hb := hs
 unfold bnd at hb
 unfold dowelref04_number.f numbV numbE
 rw [refDigits_f s hs p k (by omega) (by omega)]
 simp only [Option.bind_some]
 obtain ⟨k, rfl⟩ : ∃ m, k = m + 1 := ⟨k - 1, by omega⟩
 by_cases h0 : runE digitB s p = p
 · rw [if_pos (by omega), if_neg (by omega)]
   simp only [dowelref04_number.j0]
   rw [if_pos trivial]
 · rw [if_neg (by omega), wr_in (x := (p : Int) + 3) (by omega) (by omega), wr_in (x := (p : Int) + 1) (by omega) (by omega)]
   by_cases h3 : runE digitB s p ≤ p + 3
   · have hl := refNumber_l s hs p hp h3 4 k 0 (by omega) (by omega) (by omega)
     rw [show ((valE s p 0 : Nat) : Int) = 0 from rfl, Nat.add_zero] at hl
     rw [if_neg (by omega), if_pos (by omega), if_pos (by omega)]
     by_cases h48 : bt s (p : Int) = 48
     · rw [if_pos h48]
       simp only [dowelref04_number.j0]
       by_cases h1 : p + 1 < runE digitB s p
       · rw [if_pos (decide_eq_true (by omega)), if_neg (by omega)]
       · rw [if_neg (by rw [decide_eq_true_iff]; omega), hl]
         by_cases hv : valE s p (runE digitB s p - p) ≤ 255
         · rw [if_neg (by omega), if_pos ⟨by omega, h3, fun h => h1 h.2, hv⟩]
         · rw [if_pos (by omega), if_neg (by omega)]
     · rw [if_neg h48]
       simp only [dowelref04_number.j0]
       rw [if_neg (by simp), hl]
       by_cases hv : valE s p (runE digitB s p - p) ≤ 255
       · rw [if_neg (by omega), if_pos ⟨by omega, h3, fun h => h48 h.1, hv⟩]
       · rw [if_pos (by omega), if_neg (by omega)]
   · rw [if_pos (by omega), if_neg (by omega)]
     simp only [dowelref04_number.j0]
     rw [if_pos trivial]
theorem numbE_some {s : ByteArray} {p n e : Nat} (h : numbE s p = some (n, e)) : p < e ∧ e = runE digitB s p ∧ n ≤ 255 := by
 unfold numbE at h
 split at h
 · next q =>
   injection h with h
   injection h with h1 h2
   subst h1 h2
   exact ⟨q.1, rfl, q.2.2.2⟩
 · cases h
end Go.Proofs.Ytldjdcdoegjmoaa.P
set_option linter.unusedVariables false
set_option linter.unusedSimpArgs false
namespace Go.Proofs.Ytldjdcdoegjmoaa.P
open Go.RowKit Go.Proofs.YtldjdcdoegjmoaaW.PrintWords Go.Proofs.YtldjdcdoegjmoaaW.PrintLast
def countV (p e low high : Int) : TV := (9, p, e, ⟨#[]⟩, false, 0, 0, 0, 0, low, high, 0, 0)
def countE (s : ByteArray) (p : Nat) : TV :=
 match numbE s (p + 1) with
 | none => faultV p 43
 | some (low, k) =>
   if k < s.size ∧ bt s (k : Int) = 44 then
    if k + 1 < s.size ∧ bt s ((k + 1 : Nat) : Int) = 125 then countV p ((k + 2 : Nat) : Int) low (-1)
    else match numbE s (k + 1) with
     | none => faultV p 43
     | some (high, m) => if high < low then faultV p 43 else if m < s.size ∧ bt s (m : Int) = 125 then countV p ((m + 1 : Nat) : Int) low high else faultV p 43
   else if k < s.size ∧ bt s (k : Int) = 125 then countV p ((k + 1 : Nat) : Int) low low else faultV p 43
theorem numbV_some {s : ByteArray} {p n e : Nat} {z : Int} (h : numbE s p = some (n, e)) : numbV s p z = ((n : Int), (e : Int)) := by unfold numbV; rw [h]
theorem numbV_none {s : ByteArray} {p : Nat} {z : Int} (h : numbE s p = none) : numbV s p z = (z, (p : Int)) := by unfold numbV; rw [h]
theorem count_j1 (s : ByteArray) (hs : s.size ≤ bnd) (p low k0 k : Nat) (high : Int) (hp : k0 ≤ s.size) (hk : 12 < k) :
 lexis_count.j1 k s (p : Int) (low : Int) (k0 : Int) high true =
  some (match numbE s k0 with | none => faultV p 43 | some (high, m) => if high < low then faultV p 43 else if m < s.size ∧ bt s (m : Int) = 125 then countV p ((m + 1 : Nat) : Int) low high else faultV p 43) := by
 obtain ⟨k, rfl⟩ : ∃ m, k = m + 1 := ⟨k - 1, by omega⟩
 have hb := hs
 unfold bnd at hb
 simp only [lexis_count.j1]
 rw [if_pos trivial, number_f s hs k0 k hp (by omega)]
 simp only [Option.bind_some, tv_eta, fault_f]
 match h : numbE s k0 with
 | none =>
   rw [numbV_none h]
   dsimp only
   rw [if_pos (by omega)]
 | some (n, m) =>
   have hm := numbE_some h
   have hle := runE_size digitB s k0 hp
   rw [numbV_some h]
   dsimp only
   by_cases h1 : n < low
   · rw [if_pos (by omega), if_pos h1]
   · rw [if_neg (by omega), if_neg (by omega), if_neg h1]
     by_cases h2 : m < s.size
     · rw [if_neg (by omega), if_pos (by omega), if_pos (by omega)]
       by_cases h3 : bt s (m : Int) = 125
       · rw [if_pos h3, if_pos ⟨h2, h3⟩, wr_in (by omega) (by omega)]; rfl
       · rw [if_neg h3, if_neg (fun h => h3 h.2)]
     · rw [if_pos (by omega), if_neg (fun h => h2 h.1)]
theorem count_j1f (s : ByteArray) (hs : s.size ≤ bnd) (p low k0 k : Nat) (hp : k0 ≤ s.size) (hk : 0 < k) (high : Int) :
 lexis_count.j1 k s (p : Int) (low : Int) (k0 : Int) high false = some (if k0 < s.size ∧ bt s (k0 : Int) = 125 then countV p ((k0 + 1 : Nat) : Int) low high else faultV p 43) := by
 obtain ⟨k, rfl⟩ : ∃ m, k = m + 1 := ⟨k - 1, by omega⟩
 have hb := hs
 unfold bnd at hb
 simp only [lexis_count.j1]
 rw [if_neg (by simp), if_neg (by omega)]
 simp only [tv_eta, fault_f]
 by_cases h2 : k0 < s.size
 · rw [if_neg (by omega), if_pos (by omega), if_pos (by omega)]
   by_cases h3 : bt s (k0 : Int) = 125
   · rw [if_pos h3, if_pos ⟨h2, h3⟩, wr_in (by omega) (by omega)]; rfl
   · rw [if_neg h3, if_neg (fun h => h3 h.2)]
 · rw [if_pos (by omega), if_neg (fun h => h2 h.1)]
theorem count_f (s : ByteArray) (hs : s.size ≤ bnd) (p k : Nat) (hp : p < s.size) (hk : 20 < k) : lexis_count.f k s (p : Int) = some (countE s p) := by
 have hb := hs
 unfold bnd at hb
 unfold lexis_count.f countE
 rw [show wrap64 ((p : Int) + 1) = ((p + 1 : Nat) : Int) by rw [wr_in (by omega) (by omega)]; omega, number_f s hs (p + 1) k (by omega) (by omega)]
 simp only [Option.bind_some]
 obtain ⟨k, rfl⟩ : ∃ m, k = m + 1 := ⟨k - 1, by omega⟩
 match h : numbE s (p + 1) with
 | none =>
   rw [numbV_none h]
   dsimp only
   rw [if_neg (by omega)]
   simp only [lexis_count.j0, tv_eta, fault_f]
   rw [if_neg (by simp), if_pos (by omega)]
 | some (low, q) =>
   have hm := numbE_some h
   have hle := runE_size digitB s (p + 1) (by omega)
   rw [numbV_some h]
   dsimp only
   rw [if_pos (by omega)]
   have tail : ∀ b, b = false → lexis_count.j0 (k + 1) s (p : Int) (low : Int) (q : Int) (low : Int) b = some (if q < s.size ∧ bt s (q : Int) = 125 then countV p ((q + 1 : Nat) : Int) low low else faultV p 43) := by
    intro b hbf
    subst hbf
    simp only [lexis_count.j0, tv_eta, fault_f]
    rw [if_neg (by simp), if_neg (by omega)]
    by_cases h2 : q < s.size
    · rw [if_neg (by omega), if_pos (by omega), if_pos (by omega)]
      by_cases h3 : bt s (q : Int) = 125
      · rw [if_pos h3, if_pos ⟨h2, h3⟩, wr_in (by omega) (by omega)]; rfl
      · rw [if_neg h3, if_neg (fun h => h3 h.2)]
    · rw [if_pos (by omega), if_neg (fun h => h2 h.1)]
   by_cases hq : q < s.size
   · rw [if_pos (by omega), if_pos (by omega)]
     by_cases h44 : bt s (q : Int) = 44
     · rw [if_pos (c := q < s.size ∧ _) ⟨hq, h44⟩]
       simp only [lexis_count.j0]
       rw [if_pos (by simpa using h44), show wrap64 ((q : Int) + 1) = ((q + 1 : Nat) : Int) by rw [wr_in (by omega) (by omega)]; omega]
       by_cases h5 : q + 1 < s.size
       · rw [if_pos (by omega), if_pos (by omega)]
         by_cases h125 : bt s ((q + 1 : Nat) : Int) = 125
         · rw [show (bt s ((q + 1 : Nat) : Int) != 125) = false by rw [h125]; rfl, count_j1f s hs p low (q + 1) k (by omega) (by omega), if_pos ⟨h5, h125⟩, if_pos ⟨h5, h125⟩]
         · rw [show (bt s ((q + 1 : Nat) : Int) != 125) = true by simpa using h125, count_j1 s hs p low (q + 1) k _ (by omega) (by omega), if_neg (c := q + 1 < s.size ∧ _) (fun h => h125 h.2)]
       · rw [if_neg (by omega), count_j1f s hs p low (q + 1) k (by omega) (by omega), if_neg (fun h => h5 h.1), if_neg (c := q + 1 < s.size ∧ _) (fun h => h5 h.1)]
         have hn : numbE s (q + 1) = none := by unfold numbE; rw [if_neg]; rw [runE_end h5]; omega
         rw [hn]
     · rw [tail _ (by simpa using h44), if_neg (c := q < s.size ∧ bt s (q : Int) = 44) (fun h => h44 h.2)]
   · rw [if_neg (by omega), tail _ rfl, if_neg (c := q < s.size ∧ bt s (q : Int) = 44) (fun h => hq h.1)]
theorem at_f (s : ByteArray) (p : Nat) (c : Int) : dowelref04_at.f s (p : Int) c = some (decide (p < s.size ∧ bt s (p : Int) = c)) := by
 unfold dowelref04_at.f
 by_cases h : p < s.size
 · rw [if_pos (by omega), if_pos (by omega)]
   simp only [Option.some.injEq]
   rw [Bool.eq_iff_iff, beq_iff_eq, decide_eq_true_iff]
   exact ⟨fun h' => ⟨h, h'⟩, fun h' => h'.2⟩
 · rw [if_neg (by omega), decide_eq_false (fun h' => h h'.1)]
theorem refCount_j0 (s : ByteArray) (hs : s.size ≤ bnd) (p low q k : Nat) (high : Int) (hp : q ≤ s.size) (hk : 0 < k) :
 dowelref04_count.j0 k s (p : Int) (low : Int) (q : Int) high = some (if q < s.size ∧ bt s (q : Int) = 125 then countV p ((q + 1 : Nat) : Int) low high else faultV p 43) := by
 obtain ⟨k, rfl⟩ : ∃ m, k = m + 1 := ⟨k - 1, by omega⟩
 have hb := hs
 unfold bnd at hb
 simp only [dowelref04_count.j0, at_f, Option.bind_some, tv_eta, refFault_f]
 by_cases h : q < s.size ∧ bt s (q : Int) = 125
 · rw [if_pos (by simpa using h), if_pos h, wr_in (by omega) (by omega)]; rfl
 · rw [if_neg (by simpa using h), if_neg h]
theorem refCount_f (s : ByteArray) (hs : s.size ≤ bnd) (p k : Nat) (hp : p < s.size) (hk : s.size + 20 < k) : dowelref04_count.f k s (p : Int) = some (countE s p) := by
 have hb := hs
 unfold bnd at hb
 unfold dowelref04_count.f countE
 rw [show wrap64 ((p : Int) + 1) = ((p + 1 : Nat) : Int) by rw [wr_in (by omega) (by omega)]; omega, refNumber_f s hs (p + 1) k (by omega) (by omega)]
 simp only [Option.bind_some, tv_eta, refFault_f]
 match h : numbE s (p + 1) with
 | none =>
   rw [numbV_none h]
   dsimp only
   rw [if_pos rfl]
 | some (low, q) =>
   have hm := numbE_some h
   have hle := runE_size digitB s (p + 1) (by omega)
   rw [numbV_some h]
   dsimp only
   rw [if_neg (by omega), at_f]
   simp only [Option.bind_some]
   by_cases h44 : q < s.size ∧ bt s (q : Int) = 44
   · have := h44.1
     rw [if_pos (by simpa using h44), if_pos h44, show wrap64 ((q : Int) + 1) = ((q + 1 : Nat) : Int) by rw [wr_in (by omega) (by omega)]; omega, at_f]
     simp only [Option.bind_some]
     by_cases h125 : q + 1 < s.size ∧ bt s ((q + 1 : Nat) : Int) = 125
     · rw [if_pos (by simpa using h125), refCount_j0 s hs p low (q + 1) k _ (by omega) (by omega), if_pos h125, if_pos h125]
     · rw [if_neg (by simpa using h125), if_neg h125, refNumber_f s hs (q + 1) k (by omega) (by omega)]
       simp only [Option.bind_some]
       match h2 : numbE s (q + 1) with
       | none =>
         rw [numbV_none h2]
         dsimp only
         rw [if_pos rfl]
       | some (high, m) =>
         have hm2 := numbE_some h2
         have hle2 := runE_size digitB s (q + 1) (by omega)
         rw [numbV_some h2]
         dsimp only
         rw [if_neg (by omega)]
         by_cases h6 : high < low
         · rw [if_pos (by omega), if_pos h6]
         · rw [if_neg (by omega), if_neg h6, refCount_j0 s hs p low m k _ (by omega) (by omega)]
   · rw [if_neg (by simpa using h44), if_neg h44, refCount_j0 s hs p low q k _ (by omega) (by omega)]
def hexE (c : Int) : Int := if digitB c = true then c - 48 else if 97 ≤ c ∧ c ≤ 102 then c - 87 else if 65 ≤ c ∧ c ≤ 70 then c - 55 else -1
theorem hexE_range (c : Int) : -1 ≤ hexE c ∧ hexE c ≤ 15 := by
 unfold hexE digitB
 split
 · next h => simp at h; omega
 · split
   · omega
   · split <;> omega
theorem hex_f (c : Int) (k : Nat) (hk : 0 < k) (h0 : 0 ≤ c) (h1 : c ≤ 255) : lexis_hex.f k c = some (hexE c) := by
 obtain ⟨k, rfl⟩ : ∃ m, k = m + 1 := ⟨k - 1, by omega⟩
 unfold lexis_hex.f hexE
 rw [lexis_digit_f]
 simp only [Option.bind_some, lexis_hex.j0]
 by_cases hD : digitB c = true
 · have := digit_in hD
   rw [if_pos hD, if_pos hD]; congr 1; omega
 · rw [if_neg hD, if_neg hD]
   by_cases a : 97 ≤ c
   · by_cases b : c ≤ 102
     · rw [if_pos (by omega), if_pos (by simpa using b), if_pos ⟨a, b⟩]; congr 1; omega
     · rw [if_pos (by omega), if_neg (by simpa using b), if_pos (show c ≥ 65 by omega), if_neg (show ¬ c ≤ 70 by omega), if_neg (show ¬ (97 ≤ c ∧ c ≤ 102) by omega), if_neg (show ¬ (65 ≤ c ∧ c ≤ 70) by omega)]
   · rw [if_neg (by omega), if_neg (by simp), if_neg (c := 97 ≤ c ∧ _) (by omega)]
     by_cases b : 65 ≤ c
     · rw [if_pos (by omega)]
       by_cases b2 : c ≤ 70
       · rw [if_pos b2, if_pos ⟨b, b2⟩]; congr 1; omega
       · rw [if_neg b2, if_neg (by omega)]
     · rw [if_neg (by omega), if_neg (by omega)]
theorem refDigit3_f (c : Int) (k : Nat) (hk : 1 < k) (h0 : 0 ≤ c) (h1 : c ≤ 255) : dowelref03_Digit.f k c = some (hexE c) := by
 obtain ⟨k, rfl⟩ : ∃ m, k = m + 1 + 1 := ⟨k - 2, by omega⟩
 have hj : dowelref03_Digit.j0 (k + 1 + 1) c false = some (if 97 ≤ c ∧ c ≤ 102 then c - 87 else if 65 ≤ c ∧ c ≤ 70 then c - 55 else -1) := by
  simp only [dowelref03_Digit.j0, dowelref03_Digit.j1]
  rw [if_neg (by simp)]
  by_cases a : 97 ≤ c
  · by_cases b : c ≤ 102
    · rw [if_pos (by omega), if_pos (by simpa using b), if_pos ⟨a, b⟩]; congr 1; omega
    · rw [if_pos (by omega), if_neg (by simpa using b), if_pos (show c ≥ 65 by omega), if_neg (show ¬ c ≤ 70 by omega), if_neg (show ¬ (97 ≤ c ∧ c ≤ 102) by omega), if_neg (show ¬ (65 ≤ c ∧ c ≤ 70) by omega)]
  · rw [if_neg (by omega), if_neg (by simp), if_neg (c := 97 ≤ c ∧ _) (by omega)]
    by_cases b : 65 ≤ c
    · rw [if_pos (by omega)]
      by_cases b2 : c ≤ 70
      · rw [if_pos b2, if_pos ⟨b, b2⟩]; congr 1; omega
      · rw [if_neg b2, if_neg (by omega)]
    · rw [if_neg (by omega), if_neg (by omega)]
 unfold dowelref03_Digit.f hexE digitB
 by_cases a : 48 ≤ c
 · rw [if_pos (by omega)]
   by_cases b : c ≤ 57
   · rw [decide_eq_true b]
     simp only [dowelref03_Digit.j0]
     rw [if_pos trivial, if_pos (by simp [a])]; congr 1; omega
   · rw [decide_eq_false b, hj, if_neg (show ¬ (decide (48 ≤ c) && false) = true by simp)]
 · rw [if_neg (by omega), hj, if_neg (show ¬ (decide (48 ≤ c) && decide (c ≤ 57)) = true by simp [a])]
def escE (s : ByteArray) (p : Nat) : Option (Int × Nat) :=
 if p + 1 < s.size then
  if bt s ((p + 1 : Nat) : Int) = 110 then some (10, 2)
  else if bt s ((p + 1 : Nat) : Int) = 114 then some (13, 2)
  else if bt s ((p + 1 : Nat) : Int) = 116 then some (9, 2)
  else if bt s ((p + 1 : Nat) : Int) = 92 ∨ bt s ((p + 1 : Nat) : Int) = 39 ∨ bt s ((p + 1 : Nat) : Int) = 34 then some (bt s ((p + 1 : Nat) : Int), 2)
  else if bt s ((p + 1 : Nat) : Int) = 120 ∧ p + 3 < s.size ∧ 0 ≤ hexE (bt s ((p + 2 : Nat) : Int)) ∧ 0 ≤ hexE (bt s ((p + 3 : Nat) : Int)) then some (16 * hexE (bt s ((p + 2 : Nat) : Int)) + hexE (bt s ((p + 3 : Nat) : Int)), 4)
  else none
 else none
theorem escE_some {s : ByteArray} {p n : Nat} {b : Int} (h : escE s p = some (b, n)) : 2 ≤ n ∧ p + n ≤ s.size ∧ 0 ≤ b ∧ b ≤ 255 := by
 have hr := bt_range s ((p + 1 : Nat) : Int)
 have h2 := hexE_range (bt s ((p + 2 : Nat) : Int))
 have h3 := hexE_range (bt s ((p + 3 : Nat) : Int))
 unfold escE at h
 split at h
 · split at h
   · injection h with h; injection h with h1 h2; omega
   · split at h
     · injection h with h; injection h with h1 h2; omega
     · split at h
       · injection h with h; injection h with h1 h2; omega
       · split at h
         · injection h with h; injection h with h1 h2; omega
         · split at h
           · injection h with h; injection h with h1 h2; omega
           · cases h
 · cases h
end Go.Proofs.Ytldjdcdoegjmoaa.P
