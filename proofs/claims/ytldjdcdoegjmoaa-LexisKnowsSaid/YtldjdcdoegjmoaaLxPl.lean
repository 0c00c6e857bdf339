/- Names of a grammar's text, plain: letters, digits, the place behind a run of bytes. No program in sight. -/
import Derived.Test.YtldjdcdoegjmoaaWMore
namespace Go.Proofs.Ytldjdcdoegjmoaa.P
open Go.RowKit Go.Proofs.YtldjdcdoegjmoaaW.PrintWords Go.Proofs.YtldjdcdoegjmoaaW.PrintLast
theorem wr_in {x : Int} (h0 : -9223372036854775808 ≤ x) (h1 : x ≤ 9223372036854775807) : wrap64 x = x := by unfold wrap64; omega
def letterB (c : Int) : Bool := (decide (97 ≤ c) && decide (c ≤ 122)) || (decide (65 ≤ c) && decide (c ≤ 90)) || c == 95
def digitB (c : Int) : Bool := decide (48 ≤ c) && decide (c ≤ 57)
/-- The place behind a run of bytes. -/
def runE (P : Int → Bool) (s : ByteArray) (p : Nat) : Nat := if h : p < s.size then (if P (bt s (p : Int)) = true then runE P s (p + 1) else p) else p
termination_by s.size - p
theorem runE_yes {P : Int → Bool} {s : ByteArray} {p : Nat} (h : p < s.size) (hp : P (bt s (p : Int)) = true) : runE P s p = runE P s (p + 1) := by
  rw [runE, dif_pos h, if_pos hp]
theorem runE_no {P : Int → Bool} {s : ByteArray} {p : Nat} (hp : ¬ P (bt s (p : Int)) = true) : runE P s p = p := by
  rw [runE, if_neg hp]
  split <;> rfl
theorem runE_end {P : Int → Bool} {s : ByteArray} {p : Nat} (h : ¬ p < s.size) : runE P s p = p := by rw [runE, dif_neg h]
theorem runE_le (P : Int → Bool) (s : ByteArray) : ∀ (d p : Nat), s.size - p ≤ d → p ≤ runE P s p ∧ (p ≤ s.size → runE P s p ≤ s.size)
  | 0, p, hd => by rw [runE_end (by omega)]; exact ⟨Nat.le_refl _, id⟩
  | d + 1, p, hd => by
    by_cases h : p < s.size
    · by_cases hp : P (bt s (p : Int)) = true
      · rw [runE_yes h hp]
        have := runE_le P s d (p + 1) (by omega)
        exact ⟨by omega, fun _ => this.2 (by omega)⟩
      · rw [runE_no hp]; exact ⟨Nat.le_refl _, id⟩
    · rw [runE_end h]; exact ⟨Nat.le_refl _, id⟩
theorem runE_ge (P : Int → Bool) (s : ByteArray) (p : Nat) : p ≤ runE P s p := (runE_le P s _ p (Nat.le_refl _)).1
theorem runE_size (P : Int → Bool) (s : ByteArray) (p : Nat) (h : p ≤ s.size) : runE P s p ≤ s.size := (runE_le P s _ p (Nat.le_refl _)).2 h
theorem size_cut (s : ByteArray) (q : Nat) : (s.extract q s.size).size = s.size - q := by simp
theorem bt_nat (s : ByteArray) (i : Nat) : bt s (i : Int) = if h : i < s.size then ((s[i]'h).toNat : Int) else 0 := by unfold bt; simp
theorem bt_cut (s : ByteArray) (q i : Nat) : bt (s.extract q s.size) (i : Int) = bt s ((q + i : Nat) : Int) := by
  rw [bt_nat, bt_nat]
  by_cases h : q + i < s.size
  · rw [dif_pos h, dif_pos (by rw [size_cut]; omega)]
    congr 2
    exact ByteArray.getElem_extract ..
  · rw [dif_neg h, dif_neg (by rw [size_cut]; omega)]
theorem runE_cut (P : Int → Bool) (s : ByteArray) (q : Nat) : ∀ (d i : Nat), s.size - (q + i) ≤ d → q + runE P (s.extract q s.size) i = runE P s (q + i)
  | 0, i, hd => by rw [runE_end (by rw [size_cut]; omega), runE_end (by omega)]
  | d + 1, i, hd => by
    by_cases h : q + i < s.size
    · by_cases hp : P (bt s ((q + i : Nat) : Int)) = true
      · rw [runE_yes h hp, runE_yes (by rw [size_cut]; omega) (by rw [bt_cut]; exact hp), show q + i + 1 = q + (i + 1) by omega]
        exact runE_cut P s q d (i + 1) (by omega)
      · rw [runE_no hp, runE_no (by rw [bt_cut]; exact hp)]
    · rw [runE_end h, runE_end (by rw [size_cut]; omega)]
def alnumB (c : Int) : Bool := letterB c || digitB c
/-- The place behind the own name at a place. -/
def ownE (s : ByteArray) (p : Nat) : Nat := if p < s.size ∧ letterB (bt s (p : Int)) = true then runE alnumB s p else p
theorem ownE_ge (s : ByteArray) (p : Nat) : p ≤ ownE s p := by unfold ownE; split; exact runE_ge _ _ _; exact Nat.le_refl _
theorem ownE_size (s : ByteArray) (p : Nat) (h : p ≤ s.size) : ownE s p ≤ s.size := by unfold ownE; split; exact runE_size _ _ _ h; exact h
theorem ownE_on (s : ByteArray) (p : Nat) (h : p < s.size ∧ letterB (bt s (p : Int)) = true) : p < ownE s p := by
  unfold ownE; rw [if_pos h, runE_yes h.1 (by unfold alnumB; rw [h.2]; rfl)]; exact runE_ge _ _ _
/-- The place behind the number of a ~ that stands at a place. -/
def numE (s : ByteArray) (k : Nat) : Nat :=
  if k < s.size ∧ bt s (k : Int) = 126 then (if k + 1 < runE digitB s (k + 1) ∧ runE digitB s (k + 1) ≤ k + 6 ∧ bt s ((k + 1 : Nat) : Int) ≠ 48 then runE digitB s (k + 1) else k) else k
/-- The place behind the two :, and what follows them. -/
def colE (s : ByteArray) (k : Nat) : Nat :=
  if k + 1 < s.size ∧ bt s (k : Int) = 58 ∧ bt s ((k + 1 : Nat) : Int) = 58 then (if k + 2 < ownE s (k + 2) then ownE s (k + 2) else k) else k
def nameE (s : ByteArray) (p : Nat) : Nat := if ownE s p = p then p else numE s (colE s (ownE s p))
theorem colE_ge (s : ByteArray) (k : Nat) : k ≤ colE s k := by unfold colE; split <;> (try split) <;> omega
theorem colE_size (s : ByteArray) (k : Nat) (h : k ≤ s.size) : colE s k ≤ s.size := by
  unfold colE; split
  · split
    · exact ownE_size _ _ (by omega)
    · exact h
  · exact h
theorem numE_ge (s : ByteArray) (k : Nat) : k ≤ numE s k := by unfold numE; split <;> (try split) <;> omega
theorem numE_size (s : ByteArray) (k : Nat) (h : k ≤ s.size) : numE s k ≤ s.size := by
  unfold numE; split
  · split
    · exact runE_size _ _ _ (by omega)
    · exact h
  · exact h
theorem nameE_ge (s : ByteArray) (p : Nat) : p ≤ nameE s p := by
  unfold nameE; split; omega
  have := ownE_ge s p; have := colE_ge s (ownE s p); have := numE_ge s (colE s (ownE s p)); omega
theorem nameE_size (s : ByteArray) (p : Nat) (h : p ≤ s.size) : nameE s p ≤ s.size := by
  unfold nameE; split; exact h
  exact numE_size _ _ (colE_size _ _ (ownE_size _ _ h))
end Go.Proofs.Ytldjdcdoegjmoaa.P
