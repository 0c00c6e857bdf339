import Derived.Test.YtldjdcdoegjmoaaDoorC10
import Derived.Test.YtldjdcdoegjmoaaDoorC15
import Derived.Test.YtldjdcdoegjmoaaDoorC16
import Derived.Test.YtldjdcdoegjmoaaDoorC17
import Derived.Test.YtldjdcdoegjmoaaDoorC18
import Derived.Test.YtldjdcdoegjmoaaDoorC19
import Derived.Test.YtldjdcdoegjmoaaDoorC21
import Derived.Test.YtldjdcdoegjmoaaDoorC22
import Derived.Test.YtldjdcdoegjmoaaDoorC23
set_option linter.unusedVariables false
set_option linter.unusedSimpArgs false
namespace Go.Proofs.YtldjdcdoegjmoaaDoor.P
open Go.RowKit Go.Proofs.YtldjdcdoegjmoaaDoorW.PrintWords Go.Proofs.YtldjdcdoegjmoaaDoorW.PrintLast
abbrev TV := Int × Int × Int × ByteArray × Bool × Int × Int × Int × Int × Int × Int × Int × Int
def faultV (p c : Int) : TV := (0, 0, 0, ⟨#[]⟩, false, 0, 0, 0, 0, 0, 0, p, c)
theorem tv_eta (o : Option TV) : (o.bind fun b => some (b.1, b.2.1, b.2.2.1, b.2.2.2.1, b.2.2.2.2.1, b.2.2.2.2.2.1, b.2.2.2.2.2.2.1, b.2.2.2.2.2.2.2.1, b.2.2.2.2.2.2.2.2.1, b.2.2.2.2.2.2.2.2.2.1, b.2.2.2.2.2.2.2.2.2.2.1, b.2.2.2.2.2.2.2.2.2.2.2.1, b.2.2.2.2.2.2.2.2.2.2.2.2)) = o := by
  cases o <;> rfl
theorem fault_f (p c : Int) : lexis_fault.f p c = some (faultV p c) := rfl
theorem runE_all (P : Int → Bool) (s : ByteArray) : ∀ (d p i : Nat), s.size - p ≤ d → p ≤ i → i < runE P s p → P (bt s (i : Int)) = true
  | 0, p, i, hd, h1, h2 => by rw [runE_end (by omega)] at h2; omega
  | d + 1, p, i, hd, h1, h2 => by
    by_cases h : p < s.size
    · by_cases hp : P (bt s (p : Int)) = true
      · rw [runE_yes h hp] at h2
        by_cases e : i = p
        · rw [e]; exact hp
        · exact runE_all P s d (p + 1) i (by omega) (by omega) h2
      · rw [runE_no hp] at h2; omega
    · rw [runE_end h] at h2; omega
theorem runE_on {P : Int → Bool} {s : ByteArray} {p : Nat} : ∀ (j : Nat), p + j ≤ runE P s p → runE P s (p + j) = runE P s p
  | 0, _ => rfl
  | j + 1, h => by
    have ih := runE_on j (by omega : p + j ≤ runE P s p)
    have hP := runE_all P s _ p (p + j) (Nat.le_refl _) (by omega) (by omega)
    have hlt : p + j < s.size := by
      by_cases q : p + j < s.size
      · exact q
      · rw [runE_end q] at ih; omega
    rw [← ih, runE_yes hlt hP]; rfl
/-- A number's value: so many digits from a place on. -/
def valE (s : ByteArray) (p : Nat) : Nat → Nat
  | 0 => 0
  | j + 1 => 10 * valE s p j + (bt s ((p + j : Nat) : Int) - 48).toNat
theorem digit_in {c : Int} (h : digitB c = true) : 48 ≤ c ∧ c ≤ 57 := by unfold digitB at h; simpa using h
theorem valE_lt (s : ByteArray) (p : Nat) : ∀ j, p + j ≤ runE digitB s p → valE s p j < 10 ^ j
  | 0, _ => by simp [valE]
  | j + 1, h => by
    have ih := valE_lt s p j (by omega)
    have hd := digit_in (runE_all digitB s _ p (p + j) (Nat.le_refl _) (by omega) (by omega))
    rw [valE, Nat.pow_succ]
    omega
theorem valE_four (s : ByteArray) (p : Nat) (h : p + 4 ≤ runE digitB s p) (h0 : bt s (p : Int) ≠ 48) : 255 < valE s p 4 := by
  have hd := digit_in (runE_all digitB s _ p p (Nat.le_refl _) (Nat.le_refl _) (by omega))
  simp only [valE, Nat.add_zero]
  omega
/-- The number at a place, and the place behind it. -/
def numbE (s : ByteArray) (p : Nat) : Option (Nat × Nat) :=
  if p < runE digitB s p ∧ runE digitB s p ≤ p + 3 ∧ ¬ (bt s (p : Int) = 48 ∧ p + 1 < runE digitB s p) ∧ valE s p (runE digitB s p - p) ≤ 255 then some (valE s p (runE digitB s p - p), runE digitB s p) else none
def numbV (s : ByteArray) (p : Nat) (z : Int) : Int × Int := match numbE s p with | some (n, e) => ((n : Int), (e : Int)) | none => (z, (p : Int))
theorem number_end (s : ByteArray) (hs : s.size ≤ bnd) (p j : Nat) (hj : j ≤ 4) (hE : p + j ≤ runE digitB s p) (hm : p + j = runE digitB s p ∨ j = 4) :
    (if ((p + j : Nat) : Int) = (p : Int) then some ((-1 : Int), (p : Int)) else if ((p + j : Nat) : Int) > wrap64 ((p : Int) + 1) then (if 0 ≤ (p : Int) then (if (p : Int) < (s.size : Int) then (if bt s (p : Int) = 48 then some (-1, (p : Int)) else (if ((valE s p j : Nat) : Int) > 255 then some (-1, (p : Int)) else some (((valE s p j : Nat) : Int), ((p + j : Nat) : Int)))) else none) else none) else (if ((valE s p j : Nat) : Int) > 255 then some (-1, (p : Int)) else some (((valE s p j : Nat) : Int), ((p + j : Nat) : Int)))) =
      some (numbV s p (-1)) := by
  have hle := runE_size digitB s p
  have hps : j ≠ 0 → p < s.size := by
    intro h
    by_cases q : p < s.size
    · exact q
    · rw [runE_end q] at hE; omega
  unfold numbV numbE
  by_cases h0 : j = 0
  · subst h0
    rw [if_pos (by omega), if_neg (by omega)]
  · have hp := hps h0
    have hb := hs
    unfold bnd at hb
    rw [if_neg (by omega), wr_in (by omega) (by omega)]
    by_cases h4 : j = 4
    · subst h4
      rw [if_neg (c := p < runE digitB s p ∧ _) (by omega), if_pos (by omega), if_pos (by omega), if_pos (by omega)]
      by_cases h48 : bt s (p : Int) = 48
      · rw [if_pos h48]
      · rw [if_neg h48, if_pos (by have := valE_four s p hE h48; omega)]
    · have hjE : runE digitB s p = p + j := by omega
      rw [hjE, Nat.add_sub_cancel_left]
      by_cases h1 : j = 1
      · subst h1
        rw [if_neg (by omega)]
        by_cases hv : valE s p 1 ≤ 255
        · rw [if_neg (by omega), if_pos ⟨by omega, by omega, by omega, hv⟩]
        · rw [if_pos (by omega), if_neg (by omega)]
      · rw [if_pos (by omega), if_pos (by omega), if_pos (by omega)]
        by_cases h48 : bt s (p : Int) = 48
        · rw [if_pos h48, if_neg (by omega)]
        · rw [if_neg h48]
          by_cases hv : valE s p j ≤ 255
          · rw [if_neg (by omega), if_pos ⟨by omega, by omega, fun h => h48 h.1, hv⟩]
          · rw [if_pos (by omega), if_neg (by omega)]
theorem number_l (s : ByteArray) (hs : s.size ≤ bnd) (p : Nat) (hp : p ≤ s.size) : ∀ (d k j : Nat), 4 - j ≤ d → d + 1 < k → j ≤ 4 → p + j ≤ runE digitB s p →
    lexis_number.l0 k s (p : Int) ((valE s p j : Nat) : Int) ((p + j : Nat) : Int) = some (numbV s p (-1)) := by
  intro d
  have hle := runE_size digitB s p hp
  have hb := hs
  unfold bnd at hb
  induction d with
  | zero =>
    intro k j hd hk hj hE
    obtain ⟨k, rfl⟩ : ∃ m, k = m + 1 := ⟨k - 1, by omega⟩
    obtain rfl : j = 4 := by omega
    simp only [lexis_number.l0]
    by_cases hlt : p + 4 < s.size
    · rw [if_pos (by omega), if_pos (by omega), lexis_digit_f]
      simp only [Option.bind_some]
      have hw : ¬ (((p + 4 : Nat) : Int) < wrap64 ((p : Int) + 4)) := by rw [wr_in (by omega) (by omega)]; omega
      by_cases hD : digitB (bt s ((p + 4 : Nat) : Int)) = true
      · rw [if_pos hD, if_neg hw]
        exact number_end s hs p 4 (Nat.le_refl _) hE (.inr rfl)
      · rw [if_neg hD]
        exact number_end s hs p 4 (Nat.le_refl _) hE (.inr rfl)
    · rw [if_neg (by omega)]
      exact number_end s hs p 4 (Nat.le_refl _) hE (.inr rfl)
  | succ d ih =>
    intro k j hd hk hj hE
    obtain ⟨k, rfl⟩ : ∃ m, k = m + 1 := ⟨k - 1, by omega⟩
    simp only [lexis_number.l0]
    by_cases hlt : p + j < s.size
    · rw [if_pos (by omega), if_pos (by omega), lexis_digit_f]
      simp only [Option.bind_some]
      by_cases hD : digitB (bt s ((p + j : Nat) : Int)) = true
      · rw [if_pos hD]
        by_cases h4 : j < 4
        · have hE' : p + (j + 1) ≤ runE digitB s p := by
            have h1 := runE_on (P := digitB) (s := s) (p := p) j hE
            rw [runE_yes hlt hD] at h1
            have := runE_ge digitB s (p + j + 1)
            omega
          rw [if_pos (by rw [wr_in (by omega) (by omega)]; omega)]
          have hd2 := digit_in hD
          have hv := valE_lt s p j hE
          have hv2 : valE s p j < 10000 := Nat.lt_of_lt_of_le hv (Nat.le_trans (Nat.pow_le_pow_right (by omega) hj) (by decide))
          have e2 : wrap64 (wrap64 (10 * ((valE s p j : Nat) : Int)) + (bt s ((p + j : Nat) : Int) - 48) % 256) = ((valE s p (j + 1) : Nat) : Int) := by
            rw [wr_in (x := 10 * _) (by omega) (by omega), wr_in (by omega) (by omega), valE]
            omega
          have e3 : wrap64 (((p + j : Nat) : Int) + 1) = ((p + (j + 1) : Nat) : Int) := by rw [wr_in (by omega) (by omega)]; omega
          rw [e2, e3]; clear e2 e3
          exact ih k (j + 1) (by omega) (by omega) (by omega) hE'
        · rw [if_neg (by rw [wr_in (by omega) (by omega)]; omega)]
          exact number_end s hs p j hj hE (.inr (by omega))
      · rw [if_neg hD]
        refine number_end s hs p j hj hE (.inl ?_)
        have h1 := runE_on (P := digitB) (s := s) (p := p) j hE
        rw [runE_no hD] at h1
        exact h1
    · rw [if_neg (by omega)]
      exact number_end s hs p j hj hE (.inl (by omega))
theorem number_f (s : ByteArray) (hs : s.size ≤ bnd) (p k : Nat) (hp : p ≤ s.size) (hk : 8 < k) : lexis_number.f k s (p : Int) = some (numbV s p (-1)) :=
  number_l s hs p hp 4 k 0 (by omega) (by omega) (by omega) (runE_ge _ _ _)
theorem numbE_some {s : ByteArray} {p n e : Nat} (h : numbE s p = some (n, e)) : p < e ∧ e = runE digitB s p ∧ n ≤ 255 := by
  unfold numbE at h
  split at h
  · next q =>
    injection h with h
    injection h with h1 h2
    subst h1 h2
    exact ⟨q.1, rfl, q.2.2.2⟩
  · cases h
end Go.Proofs.YtldjdcdoegjmoaaDoor.P
set_option linter.unusedVariables false
set_option linter.unusedSimpArgs false
namespace Go.Proofs.YtldjdcdoegjmoaaDoor.P
open Go.RowKit Go.Proofs.YtldjdcdoegjmoaaDoorW.PrintWords Go.Proofs.YtldjdcdoegjmoaaDoorW.PrintLast
def countV (p e low high : Int) : TV := (9, p, e, ⟨#[]⟩, false, 0, 0, 0, 0, low, high, 0, 0)
def countE (s : ByteArray) (p : Nat) : TV :=
  match numbE s (p + 1) with
  | none => faultV p 43
  | some (low, k) =>
    if k < s.size ∧ bt s (k : Int) = 44 then
      if k + 1 < s.size ∧ bt s ((k + 1 : Nat) : Int) = 125 then countV p ((k + 2 : Nat) : Int) low (-1)
      else match numbE s (k + 1) with
        | none => faultV p 43
        | some (high, m) => if high < low then faultV p 43 else if m < s.size ∧ bt s (m : Int) = 125 then countV p ((m + 1 : Nat) : Int) low high else faultV p 43
    else if k < s.size ∧ bt s (k : Int) = 125 then countV p ((k + 1 : Nat) : Int) low low else faultV p 43
theorem numbV_some {s : ByteArray} {p n e : Nat} {z : Int} (h : numbE s p = some (n, e)) : numbV s p z = ((n : Int), (e : Int)) := by unfold numbV; rw [h]
theorem numbV_none {s : ByteArray} {p : Nat} {z : Int} (h : numbE s p = none) : numbV s p z = (z, (p : Int)) := by unfold numbV; rw [h]
theorem count_j1 (s : ByteArray) (hs : s.size ≤ bnd) (p low k0 k : Nat) (high : Int) (hp : k0 ≤ s.size) (hk : 12 < k) :
    lexis_count.j1 k s (p : Int) (low : Int) (k0 : Int) high true =
      some (match numbE s k0 with | none => faultV p 43 | some (high, m) => if high < low then faultV p 43 else if m < s.size ∧ bt s (m : Int) = 125 then countV p ((m + 1 : Nat) : Int) low high else faultV p 43) := by
  obtain ⟨k, rfl⟩ : ∃ m, k = m + 1 := ⟨k - 1, by omega⟩
  have hb := hs
  unfold bnd at hb
  simp only [lexis_count.j1]
  rw [if_pos trivial, number_f s hs k0 k hp (by omega)]
  simp only [Option.bind_some, tv_eta, fault_f]
  match h : numbE s k0 with
  | none =>
    rw [numbV_none h]
    dsimp only
    rw [if_pos (by omega)]
  | some (n, m) =>
    have hm := numbE_some h
    have hle := runE_size digitB s k0 hp
    rw [numbV_some h]
    dsimp only
    by_cases h1 : n < low
    · rw [if_pos (by omega), if_pos h1]
    · rw [if_neg (by omega), if_neg (by omega), if_neg h1]
      by_cases h2 : m < s.size
      · rw [if_neg (by omega), if_pos (by omega), if_pos (by omega)]
        by_cases h3 : bt s (m : Int) = 125
        · rw [if_pos h3, if_pos ⟨h2, h3⟩, wr_in (by omega) (by omega)]; rfl
        · rw [if_neg h3, if_neg (fun h => h3 h.2)]
      · rw [if_pos (by omega), if_neg (fun h => h2 h.1)]
theorem count_j1f (s : ByteArray) (hs : s.size ≤ bnd) (p low k0 k : Nat) (hp : k0 ≤ s.size) (hk : 0 < k) (high : Int) :
    lexis_count.j1 k s (p : Int) (low : Int) (k0 : Int) high false = some (if k0 < s.size ∧ bt s (k0 : Int) = 125 then countV p ((k0 + 1 : Nat) : Int) low high else faultV p 43) := by
  obtain ⟨k, rfl⟩ : ∃ m, k = m + 1 := ⟨k - 1, by omega⟩
  have hb := hs
  unfold bnd at hb
  simp only [lexis_count.j1]
  rw [if_neg (by simp), if_neg (by omega)]
  simp only [tv_eta, fault_f]
  by_cases h2 : k0 < s.size
  · rw [if_neg (by omega), if_pos (by omega), if_pos (by omega)]
    by_cases h3 : bt s (k0 : Int) = 125
    · rw [if_pos h3, if_pos ⟨h2, h3⟩, wr_in (by omega) (by omega)]; rfl
    · rw [if_neg h3, if_neg (fun h => h3 h.2)]
  · rw [if_pos (by omega), if_neg (fun h => h2 h.1)]
theorem count_f (s : ByteArray) (hs : s.size ≤ bnd) (p k : Nat) (hp : p < s.size) (hk : 20 < k) : lexis_count.f k s (p : Int) = some (countE s p) := by
  have hb := hs
  unfold bnd at hb
  unfold lexis_count.f countE
  rw [show wrap64 ((p : Int) + 1) = ((p + 1 : Nat) : Int) by rw [wr_in (by omega) (by omega)]; omega, number_f s hs (p + 1) k (by omega) (by omega)]
  simp only [Option.bind_some]
  obtain ⟨k, rfl⟩ : ∃ m, k = m + 1 := ⟨k - 1, by omega⟩
  match h : numbE s (p + 1) with
  | none =>
    rw [numbV_none h]
    dsimp only
    rw [if_neg (by omega)]
    simp only [lexis_count.j0, tv_eta, fault_f]
    rw [if_neg (by simp), if_pos (by omega)]
  | some (low, q) =>
    have hm := numbE_some h
    have hle := runE_size digitB s (p + 1) (by omega)
    rw [numbV_some h]
    dsimp only
    rw [if_pos (by omega)]
    have tail : ∀ b, b = false → lexis_count.j0 (k + 1) s (p : Int) (low : Int) (q : Int) (low : Int) b = some (if q < s.size ∧ bt s (q : Int) = 125 then countV p ((q + 1 : Nat) : Int) low low else faultV p 43) := by
      intro b hbf
      subst hbf
      simp only [lexis_count.j0, tv_eta, fault_f]
      rw [if_neg (by simp), if_neg (by omega)]
      by_cases h2 : q < s.size
      · rw [if_neg (by omega), if_pos (by omega), if_pos (by omega)]
        by_cases h3 : bt s (q : Int) = 125
        · rw [if_pos h3, if_pos ⟨h2, h3⟩, wr_in (by omega) (by omega)]; rfl
        · rw [if_neg h3, if_neg (fun h => h3 h.2)]
      · rw [if_pos (by omega), if_neg (fun h => h2 h.1)]
    by_cases hq : q < s.size
    · rw [if_pos (by omega), if_pos (by omega)]
      by_cases h44 : bt s (q : Int) = 44
      · rw [if_pos (c := q < s.size ∧ _) ⟨hq, h44⟩]
        simp only [lexis_count.j0]
        rw [if_pos (by simpa using h44), show wrap64 ((q : Int) + 1) = ((q + 1 : Nat) : Int) by rw [wr_in (by omega) (by omega)]; omega]
        by_cases h5 : q + 1 < s.size
        · rw [if_pos (by omega), if_pos (by omega)]
          by_cases h125 : bt s ((q + 1 : Nat) : Int) = 125
          · rw [show (bt s ((q + 1 : Nat) : Int) != 125) = false by rw [h125]; rfl, count_j1f s hs p low (q + 1) k (by omega) (by omega), if_pos ⟨h5, h125⟩, if_pos ⟨h5, h125⟩]
          · rw [show (bt s ((q + 1 : Nat) : Int) != 125) = true by simpa using h125, count_j1 s hs p low (q + 1) k _ (by omega) (by omega), if_neg (c := q + 1 < s.size ∧ _) (fun h => h125 h.2)]
        · rw [if_neg (by omega), count_j1f s hs p low (q + 1) k (by omega) (by omega), if_neg (fun h => h5 h.1), if_neg (c := q + 1 < s.size ∧ _) (fun h => h5 h.1)]
          have hn : numbE s (q + 1) = none := by unfold numbE; rw [if_neg]; rw [runE_end h5]; omega
          rw [hn]
      · rw [tail _ (by simpa using h44), if_neg (c := q < s.size ∧ bt s (q : Int) = 44) (fun h => h44 h.2)]
    · rw [if_neg (by omega), tail _ rfl, if_neg (c := q < s.size ∧ bt s (q : Int) = 44) (fun h => hq h.1)]
def hexE (c : Int) : Int := if digitB c = true then c - 48 else if 97 ≤ c ∧ c ≤ 102 then c - 87 else if 65 ≤ c ∧ c ≤ 70 then c - 55 else -1
theorem hexE_range (c : Int) : -1 ≤ hexE c ∧ hexE c ≤ 15 := by
  unfold hexE digitB
  split
  · next h => simp at h; omega
  · split
    · omega
    · split <;> omega
theorem hex_f (c : Int) (k : Nat) (hk : 0 < k) (h0 : 0 ≤ c) (h1 : c ≤ 255) : lexis_hex.f k c = some (hexE c) := by
  obtain ⟨k, rfl⟩ : ∃ m, k = m + 1 := ⟨k - 1, by omega⟩
  unfold lexis_hex.f hexE
  rw [lexis_digit_f]
  simp only [Option.bind_some, lexis_hex.j0]
  by_cases hD : digitB c = true
  · have := digit_in hD
    rw [if_pos hD, if_pos hD]; congr 1; omega
  · rw [if_neg hD, if_neg hD]
    by_cases a : 97 ≤ c
    · by_cases b : c ≤ 102
      · rw [if_pos (by omega), if_pos (by simpa using b), if_pos ⟨a, b⟩]; congr 1; omega
      · rw [if_pos (by omega), if_neg (by simpa using b), if_pos (show c ≥ 65 by omega), if_neg (show ¬ c ≤ 70 by omega), if_neg (show ¬ (97 ≤ c ∧ c ≤ 102) by omega), if_neg (show ¬ (65 ≤ c ∧ c ≤ 70) by omega)]
    · rw [if_neg (by omega), if_neg (by simp), if_neg (c := 97 ≤ c ∧ _) (by omega)]
      by_cases b : 65 ≤ c
      · rw [if_pos (by omega)]
        by_cases b2 : c ≤ 70
        · rw [if_pos b2, if_pos ⟨b, b2⟩]; congr 1; omega
        · rw [if_neg b2, if_neg (by omega)]
      · rw [if_neg (by omega), if_neg (by omega)]
def escE (s : ByteArray) (p : Nat) : Option (Int × Nat) :=
  if p + 1 < s.size then
    if bt s ((p + 1 : Nat) : Int) = 110 then some (10, 2)
    else if bt s ((p + 1 : Nat) : Int) = 114 then some (13, 2)
    else if bt s ((p + 1 : Nat) : Int) = 116 then some (9, 2)
    else if bt s ((p + 1 : Nat) : Int) = 92 ∨ bt s ((p + 1 : Nat) : Int) = 39 ∨ bt s ((p + 1 : Nat) : Int) = 34 then some (bt s ((p + 1 : Nat) : Int), 2)
    else if bt s ((p + 1 : Nat) : Int) = 120 ∧ p + 3 < s.size ∧ 0 ≤ hexE (bt s ((p + 2 : Nat) : Int)) ∧ 0 ≤ hexE (bt s ((p + 3 : Nat) : Int)) then some (16 * hexE (bt s ((p + 2 : Nat) : Int)) + hexE (bt s ((p + 3 : Nat) : Int)), 4)
    else none
  else none
theorem escE_some {s : ByteArray} {p n : Nat} {b : Int} (h : escE s p = some (b, n)) : 2 ≤ n ∧ p + n ≤ s.size ∧ 0 ≤ b ∧ b ≤ 255 := by
  have hr := bt_range s ((p + 1 : Nat) : Int)
  have h2 := hexE_range (bt s ((p + 2 : Nat) : Int))
  have h3 := hexE_range (bt s ((p + 3 : Nat) : Int))
  unfold escE at h
  split at h
  · split at h
    · injection h with h; injection h with h1 h2; omega
    · split at h
      · injection h with h; injection h with h1 h2; omega
      · split at h
        · injection h with h; injection h with h1 h2; omega
        · split at h
          · injection h with h; injection h with h1 h2; omega
          · split at h
            · injection h with h; injection h with h1 h2; omega
            · cases h
  · cases h
end Go.Proofs.YtldjdcdoegjmoaaDoor.P
set_option linter.unusedVariables false
set_option linter.unusedSimpArgs false
namespace Go.Proofs.YtldjdcdoegjmoaaDoor.P
open Go.RowKit Go.Proofs.YtldjdcdoegjmoaaDoorW.PrintWords Go.Proofs.YtldjdcdoegjmoaaDoorW.PrintLast
theorem wr1 {s : ByteArray} (hs : s.size ≤ bnd) {p : Nat} (hp : p ≤ s.size + 50) : wrap64 ((p : Int) + 1) = ((p + 1 : Nat) : Int) := by
  unfold bnd at hs
  rw [wr_in (by omega) (by omega)]; omega
theorem wr2 {s : ByteArray} (hs : s.size ≤ bnd) {p : Nat} (hp : p ≤ s.size + 50) : wrap64 ((p : Int) + 2) = ((p + 2 : Nat) : Int) := by
  unfold bnd at hs
  rw [wr_in (by omega) (by omega)]; omega
def escV (s : ByteArray) (p : Nat) : Int × Int := match escE s p with | some (b, n) => (b, (n : Int)) | none => (0, 0)
theorem escV_some {s : ByteArray} {p n : Nat} {b : Int} (h : escE s p = some (b, n)) : escV s p = (b, (n : Int)) := by unfold escV; rw [h]
theorem escV_none {s : ByteArray} {p : Nat} (h : escE s p = none) : escV s p = (0, 0) := by unfold escV; rw [h]
theorem hexs_wrap (a b : Int) (h0 : 0 ≤ a) (h1 : a ≤ 15) (h2 : 0 ≤ b) (h3 : b ≤ 15) : (wrap64 ((wrap64 (16 * a)) + b)) % 256 = 16 * a + b := by
  rw [wr_in (x := 16 * a) (by omega) (by omega), wr_in (by omega) (by omega)]; omega
theorem escape_f (s : ByteArray) (hs : s.size ≤ bnd) (p k : Nat) (hp : p < s.size) (hk : 3 < k) : lexis_escape.f k s (p : Int) = some (escV s p) := by
  have hb := hs
  unfold bnd at hb
  obtain ⟨k, rfl⟩ : ∃ m, k = m + 1 := ⟨k - 1, by omega⟩
  have r2 := bt_range s ((p + 2 : Nat) : Int)
  have r3 := bt_range s ((p + 3 : Nat) : Int)
  have x2 := hexE_range (bt s ((p + 2 : Nat) : Int))
  have x3 := hexE_range (bt s ((p + 3 : Nat) : Int))
  unfold lexis_escape.f escV escE
  rw [show wrap64 ((p : Int) + 1) = ((p + 1 : Nat) : Int) by rw [wr_in (by omega) (by omega)]; omega, show wrap64 ((p : Int) + 2) = ((p + 2 : Nat) : Int) by rw [wr_in (by omega) (by omega)]; omega,
    show wrap64 ((p : Int) + 3) = ((p + 3 : Nat) : Int) by rw [wr_in (by omega) (by omega)]; omega]
  by_cases h : p + 1 < s.size
  · rw [if_neg (by omega), if_pos (by omega), if_pos (by omega), if_pos h]
    by_cases h1 : bt s ((p + 1 : Nat) : Int) = 110
    · rw [if_pos h1, if_pos h1]; rfl
    rw [if_neg h1, if_neg h1]
    by_cases h2 : bt s ((p + 1 : Nat) : Int) = 114
    · rw [if_pos h2, if_pos h2]; rfl
    rw [if_neg h2, if_neg h2]
    by_cases h3 : bt s ((p + 1 : Nat) : Int) = 116
    · rw [if_pos h3, if_pos h3]; rfl
    rw [if_neg h3, if_neg h3]
    by_cases h4 : bt s ((p + 1 : Nat) : Int) = 92
    · rw [if_pos h4, if_pos (.inl h4)]; rfl
    rw [if_neg h4]
    by_cases h5 : bt s ((p + 1 : Nat) : Int) = 39
    · rw [if_pos h5, if_pos (.inr (.inl h5))]; rfl
    rw [if_neg h5]
    by_cases h6 : bt s ((p + 1 : Nat) : Int) = 34
    · rw [if_pos h6, if_pos (.inr (.inr h6))]; rfl
    rw [if_neg h6, if_neg (c := bt s ((p + 1 : Nat) : Int) = 92 ∨ _) (fun q => q.elim h4 (fun q => q.elim h5 h6))]
    by_cases h7 : bt s ((p + 1 : Nat) : Int) = 120
    · rw [if_pos h7]
      by_cases h8 : p + 3 < s.size
      · rw [if_pos (by omega), if_pos (by omega), if_pos (by omega), hex_f _ (k + 1) (by omega) r2.1 r2.2]
        simp only [Option.bind_some]
        by_cases h9 : 0 ≤ hexE (bt s ((p + 2 : Nat) : Int))
        · rw [if_pos h9, if_pos (by omega), hex_f _ (k + 1) (by omega) r3.1 r3.2]
          simp only [Option.bind_some, lexis_escape.j0]
          rw [show wrap64 ((p : Int) + 2) = ((p + 2 : Nat) : Int) by rw [wr_in (by omega) (by omega)]; omega, show wrap64 ((p : Int) + 3) = ((p + 3 : Nat) : Int) by rw [wr_in (by omega) (by omega)]; omega]
          by_cases h10 : 0 ≤ hexE (bt s ((p + 3 : Nat) : Int))
          · rw [if_pos (decide_eq_true h10), if_pos (by omega), if_pos (by omega), hex_f _ k (by omega) r2.1 r2.2, if_pos (c := bt s ((p + 1 : Nat) : Int) = 120 ∧ _) ⟨h7, h8, h9, h10⟩]
            simp only [Option.bind_some]
            rw [if_pos (by omega), if_pos (by omega), hex_f _ k (by omega) r3.1 r3.2]
            simp only [Option.bind_some]
            rw [hexs_wrap _ _ h9 x2.2 h10 x3.2]; rfl
          · rw [if_neg (by simpa using h10), if_neg (fun q => h10 q.2.2.2)]
        · rw [if_neg h9, if_neg (fun q => h9 q.2.2.1)]
          simp only [lexis_escape.j0]
          rw [if_neg (by simp)]
      · rw [if_neg (by omega), if_neg (fun q => h8 q.2.1)]
        simp only [lexis_escape.j0]
        rw [if_neg (by simp)]
    · rw [if_neg h7, if_neg (fun q => h7 q.1)]
  · rw [if_pos (by omega), if_neg h]
def litEnd (s : ByteArray) (p : Nat) (acc : List Int) (q : Nat) : TV :=
  if q + 1 < s.size ∧ bt s ((q + 1 : Nat) : Int) = 105 ∧ ¬ (q + 2 < s.size ∧ alnumB (bt s ((q + 2 : Nat) : Int)) = true) then (14, (p : Int), ((q + 2 : Nat) : Int), strOfNums acc, true, 0, 0, 0, 0, 0, 0, 0, 0)
  else (14, (p : Int), ((q + 1 : Nat) : Int), strOfNums acc, false, 0, 0, 0, 0, 0, 0, 0, 0)
def litE (s : ByteArray) (p : Nat) : Nat → List Int → Nat → TV
  | 0, _, _ => faultV p 41
  | d + 1, acc, q =>
    if q < s.size ∧ ¬ bt s (q : Int) < 32 then
      if bt s (q : Int) = bt s (p : Int) then litEnd s p acc q
      else if bt s (q : Int) = 92 then (match escE s q with | none => faultV q 42 | some (b, n) => litE s p d (acc ++ [b]) (q + n))
      else litE s p d (acc ++ [bt s (q : Int)]) (q + 1)
    else faultV p 41
theorem lit_j2 {s : ByteArray} (hs : s.size ≤ bnd) (k : Nat) (b : Bool) (p : Int) (q : Nat) (t : ByteArray) (hq : q + 1 ≤ s.size + 50) (hk : 0 < k) :
    lexis_literal.j2 k b 14 p ((q + 1 : Nat) : Int) t false 0 0 0 0 0 0 = some (14, p, if b = true then ((q + 2 : Nat) : Int) else ((q + 1 : Nat) : Int), t, b, 0, 0, 0, 0, 0, 0, 0, 0) := by
  obtain ⟨k, rfl⟩ : ∃ m, k = m + 1 := ⟨k - 1, by omega⟩
  have w := wr1 hs hq
  simp only [lexis_literal.j2, w]
  cases b <;> rfl
theorem literal_l (s : ByteArray) (hs : s.size ≤ bnd) (p : Nat) (hp : p < s.size) : ∀ (d k q : Nat) (acc : List Int), s.size < q + d → 2 * d + 9 < k → q ≤ s.size → acc.length ≤ q →
    lexis_literal.l0 k s (p : Int) acc (q : Int) = some (litE s p d acc q) := by
  have hb := hs
  unfold bnd at hb
  intro d
  induction d with
  | zero => intro k q acc hd hk hq hl; omega
  | succ d ih =>
    intro k q acc hd hk hq hl
    obtain ⟨k, rfl⟩ : ∃ m, k = m + 1 + 1 := ⟨k - 2, by omega⟩
    have bad : ∀ b : Bool, b = true → lexis_literal.j1 (k + 1) s (p : Int) acc (q : Int) b = some (faultV p 41) := by
      intro b hb2; subst hb2
      simp only [lexis_literal.j1, tv_eta, fault_f]
      rw [if_pos trivial]
    simp only [lexis_literal.l0, litE]
    by_cases hlt : q < s.size
    · rw [if_neg (by omega), if_pos (by omega), if_pos (by omega)]
      by_cases h32 : bt s (q : Int) < 32
      · rw [bad _ (decide_eq_true h32), if_neg (fun h => h.2 h32)]
      · rw [decide_eq_false h32, if_pos (c := q < s.size ∧ _) ⟨hlt, h32⟩]
        simp only [lexis_literal.j1, tv_eta, fault_f]
        rw [if_neg (by simp), if_pos (by omega), if_pos (by omega), if_pos (by omega), if_pos (by omega)]
        have hq' : q ≤ s.size + 50 := by omega
        have hq1 : q + 1 ≤ s.size + 50 := by omega
        have w1 := wr1 hs hq'
        by_cases hqp : bt s (q : Int) = bt s (p : Int)
        · have w2 := wr2 hs hq'
          rw [if_pos hqp, if_pos hqp, w1, w2]
          clear w1 w2
          unfold litEnd
          by_cases h1 : q + 1 < s.size
          · rw [if_pos (by omega), if_pos (by omega)]
            by_cases h105 : bt s ((q + 1 : Nat) : Int) = 105
            · rw [if_pos h105]
              by_cases h2 : q + 2 < s.size
              · rw [if_neg (by omega), if_pos (by omega), if_pos (by omega), lexis_letter_f, lexis_digit_f]
                simp only [Option.bind_some]
                by_cases hL : letterB (bt s ((q + 2 : Nat) : Int)) = true
                · rw [if_pos hL, if_neg (fun h => h.2.2 ⟨h2, by unfold alnumB; rw [hL]; rfl⟩), lit_j2 hs _ _ _ _ _ hq1 (by omega)]; rfl
                · rw [if_neg hL, lit_j2 hs _ _ _ _ _ hq1 (by omega)]
                  by_cases hD : digitB (bt s ((q + 2 : Nat) : Int)) = true
                  · rw [if_neg (c := q + 1 < s.size ∧ _) (fun h => h.2.2 ⟨h2, by unfold alnumB; rw [hD, Bool.or_true]⟩), hD]; rfl
                  · rw [if_pos (c := q + 1 < s.size ∧ _) ⟨h1, h105, fun h => by have := h.2; unfold alnumB at this; rw [Bool.or_eq_true] at this; exact this.elim hL hD⟩, Bool.eq_false_iff.2 hD]; rfl
              · rw [if_pos (by omega), if_pos ⟨h1, h105, fun h => h2 h.1⟩, lit_j2 hs _ _ _ _ _ hq1 (by omega)]; rfl
            · rw [if_neg h105, if_neg (fun h => h105 h.2.1), lit_j2 hs _ _ _ _ _ hq1 (by omega)]; rfl
          · rw [if_neg (by omega), if_neg (fun h => h1 h.1), lit_j2 hs _ _ _ _ _ hq1 (by omega)]; rfl
        · rw [if_neg hqp, if_neg hqp]
          by_cases h92 : bt s (q : Int) = 92
          · rw [if_pos h92, if_pos h92, escape_f s hs q k hlt (by clear w1; omega)]
            simp only [Option.bind_some]
            clear w1
            match he : escE s q with
            | none =>
              rw [escV_none he]
              dsimp only
              rw [if_pos rfl]
            | some (b, n) =>
              have h3 := escE_some he
              rw [escV_some he]
              dsimp only
              rw [if_neg (by omega), if_pos (by omega), show wrap64 ((q : Int) + (n : Int)) = ((q + n : Nat) : Int) by rw [wr_in (by omega) (by omega)]; omega]
              exact ih k (q + n) _ (by omega) (by omega) (by omega) (by rw [List.length_append, List.length_singleton]; omega)
          · rw [if_neg h92, if_neg h92, w1]
            clear w1
            rw [if_pos (by omega)]
            exact ih k (q + 1) _ (by omega) (by omega) (by omega) (by rw [List.length_append, List.length_singleton]; omega)
    · rw [if_pos (by omega), bad _ rfl, if_neg (fun h => hlt h.1)]
theorem literal_f (s : ByteArray) (hs : s.size ≤ bnd) (p k : Nat) (hp : p < s.size) (hk : 2 * s.size + 20 < k) : lexis_literal.f k s (p : Int) = some (litE s p (s.size + 1) [] (p + 1)) := by
  have hb := hs
  unfold bnd at hb
  unfold lexis_literal.f
  rw [show wrap64 ((p : Int) + 1) = ((p + 1 : Nat) : Int) by rw [wr_in (by omega) (by omega)]; omega]
  exact literal_l s hs p hp (s.size + 1) k (p + 1) [] (by omega) (by omega) (by omega) (by simp)
end Go.Proofs.YtldjdcdoegjmoaaDoor.P
set_option linter.unusedVariables false
set_option linter.unusedSimpArgs false
namespace Go.Proofs.YtldjdcdoegjmoaaDoor.P
open Go.RowKit Go.Proofs.YtldjdcdoegjmoaaDoorW.PrintWords Go.Proofs.YtldjdcdoegjmoaaDoorW.PrintLast
def signE (c : Int) : Int :=
  if c = 47 then 3 else if c = 38 then 4 else if c = 33 then 5 else if c = 63 then 6 else if c = 42 then 7 else if c = 43 then 8 else if c = 40 then 10 else if c = 41 then 11 else if c = 44 then 12 else if c = 46 then 13 else -1
theorem sign_f (c : Int) : lexis_sign.f c = some (signE c) := by
  unfold lexis_sign.f signE
  repeat' split
  all_goals rfl
theorem letter_not {c : Int} (h : letterB c = true) : signE c = -1 ∧ c ≠ 60 ∧ c ≠ 123 ∧ c ≠ 39 ∧ c ≠ 34 ∧ c ≠ 91 ∧ c ≠ 64 ∧ c ≠ 94 := by
  have hc : 97 ≤ c ∧ c ≤ 122 ∨ 65 ≤ c ∧ c ≤ 90 ∨ c = 95 := by unfold letterB at h; simpa [or_assoc] using h
  refine ⟨?_, by omega, by omega, by omega, by omega, by omega, by omega, by omega⟩
  unfold signE
  repeat' split
  all_goals omega
def plainV (k p e : Int) : TV := (k, p, e, ⟨#[]⟩, false, 0, 0, 0, 0, 0, 0, 0, 0)
def wordV (k p e : Int) (t : ByteArray) : TV := (k, p, e, t, false, 0, 0, 0, 0, 0, 0, 0, 0)
def wordE (s : ByteArray) (p : Nat) : TV := if nameE s p - p > 64 then faultV p 1 else wordV 1 p ((nameE s p : Nat) : Int) (s.extract p (nameE s p))
def markE (s : ByteArray) (p : Nat) : TV :=
  if ownE s (p + 1) = p + 1 then faultV p 40 else if ownE s (p + 1) - (p + 1) > 64 then faultV p 1
  else wordV (if bt s (p : Int) = 94 then 17 else 16) p ((ownE s (p + 1) : Nat) : Int) (s.extract (p + 1) (ownE s (p + 1)))
def classV (s : ByteArray) (p : Nat) : TV :=
  if (((parseI s p).2.2.2 : Nat) : Int) = 0 then (15, (p : Int), ((parseI s p).2.1 : Int), ⟨#[]⟩, false, ((parseI s p).1.c0 : Int), ((parseI s p).1.c1 : Int), ((parseI s p).1.c2 : Int), ((parseI s p).1.c3 : Int), 0, 0, 0, 0)
  else faultV ((parseI s p).2.2.1 : Int) ((parseI s p).2.2.2 : Int)
/-- The token at a place at which no blank stands. -/
def tokE (s : ByteArray) (p : Nat) : TV :=
  if p < s.size then
    if 0 ≤ signE (bt s (p : Int)) then plainV (signE (bt s (p : Int))) p ((p + 1 : Nat) : Int)
    else if letterB (bt s (p : Int)) = true then wordE s p
    else if bt s (p : Int) = 60 ∧ p + 1 < s.size ∧ bt s ((p + 1 : Nat) : Int) = 45 then plainV 2 p ((p + 2 : Nat) : Int)
    else if bt s (p : Int) = 123 then countE s p
    else if bt s (p : Int) = 39 ∨ bt s (p : Int) = 34 then litE s p (s.size + 1) [] (p + 1)
    else if bt s (p : Int) = 91 then classV s p
    else if bt s (p : Int) = 64 ∨ bt s (p : Int) = 94 then markE s p
    else faultV p 40
  else plainV 0 p p
theorem word_f (s : ByteArray) (hs : s.size ≤ bnd) (p k : Nat) (hp : p ≤ s.size) (hk : s.size + 6 < k) : lexis_word.f k s (p : Int) = some (wordE s p) := by
  have h1 := nameE_ge s p
  have h2 := nameE_size s p hp
  have hb := hs
  unfold bnd at hb
  unfold lexis_word.f wordE
  rw [named_f s hs p k hp hk]
  simp only [Option.bind_some, tv_eta, fault_f]
  have e : wrap64 ((p : Int) + ((nameE s p - p : Nat) : Int)) = ((nameE s p : Nat) : Int) := by rw [wr_in (by omega) (by omega)]; omega
  rw [e]
  clear e
  by_cases h : nameE s p - p > 64
  · rw [if_pos (by omega), if_pos h]; try rfl
  · rw [if_neg (by omega), if_neg h, if_pos (by omega), if_pos (by omega), if_pos (by omega), Int.toNat_natCast, Int.toNat_natCast]; try rfl
theorem marked_f (s : ByteArray) (hs : s.size ≤ bnd) (p k : Nat) (hp : p < s.size) (hk : s.size + 6 < k) : lexis_marked.f k s (p : Int) = some (markE s p) := by
  have h1 := ownE_ge s (p + 1)
  have h2 := ownE_size s (p + 1) (by omega)
  have hb := hs
  unfold bnd at hb
  unfold lexis_marked.f markE
  rw [wr1 hs (by omega), own_f s hs (p + 1) k (by omega) (by omega)]
  simp only [Option.bind_some, tv_eta, fault_f]
  have e : wrap64 (((p + 1 : Nat) : Int) + ((ownE s (p + 1) - (p + 1) : Nat) : Int)) = ((ownE s (p + 1) : Nat) : Int) := by rw [wr_in (by omega) (by omega)]; omega
  rw [e]
  clear e
  by_cases h0 : ownE s (p + 1) = p + 1
  · rw [if_pos (by omega), if_pos h0]; try rfl
  · rw [if_neg (by omega), if_neg h0]
    by_cases h : ownE s (p + 1) - (p + 1) > 64
    · rw [if_pos (by omega), if_pos h]; try rfl
    · rw [if_neg (by omega), if_neg h, if_pos (by omega), if_pos (by omega)]
      by_cases h94 : bt s (p : Int) = 94
      · rw [if_pos h94, if_pos h94, if_pos (by omega), if_pos (by omega), if_pos (by omega), Int.toNat_natCast, Int.toNat_natCast]; try rfl
      · rw [if_neg h94, if_neg h94, if_pos (by omega), if_pos (by omega), if_pos (by omega), Int.toNat_natCast, Int.toNat_natCast]; try rfl
theorem clsParse_f (s : ByteArray) (hs : s.size ≤ 65536) (p : Nat) (hp : p ≤ s.size) : class_Parse.f s (p : Int) = some (((parseI s p).1.c0 : Int), ((parseI s p).1.c1 : Int), ((parseI s p).1.c2 : Int), ((parseI s p).1.c3 : Int), ((parseI s p).2.1 : Int), ((parseI s p).2.2.1 : Int), ((parseI s p).2.2.2 : Int)) := by
  unfold class_Parse.f smallN
  rw [if_pos ⟨by omega, by omega, by omega⟩]
theorem read_j2 (s : ByteArray) (hs : s.size ≤ bnd) (p k : Nat) (hp : p < s.size) (hk : s.size + 10 < k) (b : Bool) : lexis_read.j2 k s (p : Int) b = some (if b = true then markE s p else faultV p 40) := by
  obtain ⟨k, rfl⟩ : ∃ m, k = m + 1 := ⟨k - 1, by omega⟩
  simp only [lexis_read.j2, tv_eta, fault_f]
  cases b
  · rw [if_neg (by simp), if_neg (by simp)]; try rfl
  · rw [if_pos (by simp), if_pos (by simp), marked_f s hs p k hp (by omega)]
theorem read_j1 (s : ByteArray) (hs : s.size ≤ 65536) (p k : Nat) (hp : p < s.size) (hk : 2 * s.size + 30 < k) (b : Bool) (hb : b = true ↔ (bt s (p : Int) = 39 ∨ bt s (p : Int) = 34)) :
    lexis_read.j1 k s (p : Int) (bt s (p : Int)) b = some (if bt s (p : Int) = 39 ∨ bt s (p : Int) = 34 then litE s p (s.size + 1) [] (p + 1) else if bt s (p : Int) = 91 then classV s p else if bt s (p : Int) = 64 ∨ bt s (p : Int) = 94 then markE s p else faultV p 40) := by
  have hs' : s.size ≤ bnd := by unfold bnd; omega
  obtain ⟨k, rfl⟩ : ∃ m, k = m + 1 := ⟨k - 1, by omega⟩
  simp only [lexis_read.j1, tv_eta]
  by_cases hq : bt s (p : Int) = 39 ∨ bt s (p : Int) = 34
  · rw [if_pos (hb.2 hq), if_pos hq, literal_f s hs' p k hp (by omega)]
  · rw [if_neg (fun h => hq (hb.1 h)), if_neg hq]
    by_cases h91 : bt s (p : Int) = 91
    · rw [if_pos h91, if_pos h91, clsParse_f s hs p (by omega)]
      simp only [Option.bind_some]
      unfold classV
      by_cases h0 : (((parseI s p).2.2.2 : Nat) : Int) = 0
      · rw [if_pos h0, if_pos h0]
      · rw [if_neg h0, if_neg h0]; try rfl
    · rw [if_neg h91, if_neg h91]
      by_cases h64 : bt s (p : Int) = 64
      · rw [if_pos h64, read_j2 s hs' p k hp (by omega), if_pos rfl, if_pos (.inl h64)]
      · rw [if_neg h64, read_j2 s hs' p k hp (by omega)]
        by_cases h94 : bt s (p : Int) = 94
        · rw [if_pos (c := (bt s (p : Int) == 94) = true) (by simpa using h94), if_pos (c := bt s (p : Int) = 64 ∨ _) (.inr h94)]
        · rw [if_neg (c := (bt s (p : Int) == 94) = true) (by simpa using h94), if_neg (c := bt s (p : Int) = 64 ∨ _) (fun h => h.elim h64 h94)]
theorem read_j0 (s : ByteArray) (hs : s.size ≤ 65536) (p k : Nat) (hp : p < s.size) (hk : 2 * s.size + 40 < k) (b : Bool) :
    lexis_read.j0 k s (p : Int) (bt s (p : Int)) b = some (if b = true then plainV 2 p ((p + 2 : Nat) : Int) else if bt s (p : Int) = 123 then countE s p
      else if bt s (p : Int) = 39 ∨ bt s (p : Int) = 34 then litE s p (s.size + 1) [] (p + 1) else if bt s (p : Int) = 91 then classV s p else if bt s (p : Int) = 64 ∨ bt s (p : Int) = 94 then markE s p else faultV p 40) := by
  have hs' : s.size ≤ bnd := by unfold bnd; omega
  obtain ⟨k, rfl⟩ : ∃ m, k = m + 1 := ⟨k - 1, by omega⟩
  simp only [lexis_read.j0, tv_eta]
  cases b
  · rw [if_neg (c := false = true) (by simp), if_neg (c := false = true) (by simp)]
    by_cases h123 : bt s (p : Int) = 123
    · rw [if_pos h123, if_pos h123, count_f s hs' p k hp (by omega)]
    · rw [if_neg h123, if_neg h123]
      by_cases h39 : bt s (p : Int) = 39
      · rw [if_pos h39, read_j1 s hs p k hp (by omega) _ ⟨fun _ => .inl h39, fun _ => rfl⟩]
      · rw [if_neg h39, read_j1 s hs p k hp (by omega) _ ⟨fun h => .inr (by simpa using h), fun h => by simpa using h.resolve_left h39⟩]
  · rw [if_pos (by simp), if_pos (by simp), wr2 hs' (by omega)]; try rfl
theorem read_f (s : ByteArray) (hs : s.size ≤ 65536) (p k : Nat) (hp : p ≤ s.size) (hk : 2 * s.size + 60 < k) : lexis_read.f k s (p : Int) = some (tokE s p) := by
  have hs' : s.size ≤ bnd := by unfold bnd; omega
  unfold lexis_read.f tokE
  by_cases h : p < s.size
  · rw [if_neg (by omega), if_pos (by omega), if_pos (by omega), if_pos h, sign_f]
    simp only [Option.bind_some, tv_eta]
    by_cases hS : 0 ≤ signE (bt s (p : Int))
    · rw [if_pos hS, if_pos hS, wr1 hs' (by omega)]; try rfl
    · rw [if_neg hS, if_neg hS, lexis_letter_f]
      simp only [Option.bind_some]
      by_cases hL : letterB (bt s (p : Int)) = true
      · rw [if_pos hL, if_pos hL, word_f s hs' p k hp (by omega)]
      · rw [if_neg hL, if_neg hL]
        by_cases h60 : bt s (p : Int) = 60
        · rw [if_pos h60, if_pos (by omega), Int.toNat_natCast, prefix2_f s p 60 45 hp]
          simp only [Option.bind_some]
          rw [read_j0 s hs p k h (by omega)]
          by_cases h45 : p + 1 < s.size ∧ bt s ((p + 1 : Nat) : Int) = 45
          · rw [show pre2B s p 60 45 = true by unfold pre2B; exact decide_eq_true ⟨h45.1, h60, h45.2⟩, if_pos rfl, if_pos ⟨h60, h45⟩]
          · rw [show pre2B s p 60 45 = false by unfold pre2B; exact decide_eq_false (fun h' => h45 ⟨h'.1, h'.2.2⟩), if_neg (by simp), if_neg (c := bt s (p : Int) = 60 ∧ _) (fun h' => h45 h'.2)]
        · rw [if_neg h60, read_j0 s hs p k h (by omega), if_neg (by simp), if_neg (c := bt s (p : Int) = 60 ∧ _) (fun h' => h60 h'.1)]
  · obtain rfl : p = s.size := by omega
    rw [if_pos rfl, if_neg h]; try rfl
end Go.Proofs.YtldjdcdoegjmoaaDoor.P
set_option linter.unusedVariables false
set_option linter.unusedSimpArgs false
namespace Go.Proofs.YtldjdcdoegjmoaaDoor.P
open Go.RowKit Go.Proofs.YtldjdcdoegjmoaaDoorW.PrintWords Go.Proofs.YtldjdcdoegjmoaaDoorW.PrintLast
def notNL (c : Int) : Bool := !(c == 10)
def spaceB (c : Int) : Bool := c == 32 || c == 9 || c == 13 || c == 10
/-- The place behind the blanks at a place. -/
def blankE (s : ByteArray) : Nat → Nat → Nat
  | 0, p => p
  | d + 1, p => if p < s.size then (if spaceB (bt s (p : Int)) = true then blankE s d (p + 1) else if bt s (p : Int) = 35 then blankE s d (runE notNL s p) else p) else p
theorem blankE_le (s : ByteArray) : ∀ (d p : Nat), p ≤ s.size → p ≤ blankE s d p ∧ blankE s d p ≤ s.size
  | 0, p, h => ⟨Nat.le_refl _, h⟩
  | d + 1, p, h => by
    rw [blankE]
    split
    · split
      · have := blankE_le s d (p + 1) (by omega); omega
      · split
        · have h1 := runE_ge notNL s p
          have h2 := runE_size notNL s p h
          have := blankE_le s d (runE notNL s p) h2; omega
        · omega
    · omega
theorem index_list (c : UInt8) : ∀ l : List UInt8, (Lib.indexByte l c = -1 ∧ ∀ x ∈ l, x ≠ c) ∨ ∃ i : Nat, Lib.indexByte l c = (i : Int) ∧ i < l.length ∧ l[i]? = some c ∧ ∀ j, j < i → l[j]? ≠ some c
  | [] => .inl ⟨rfl, by simp⟩
  | b :: l => by
    unfold Lib.indexByte
    by_cases h : b = c
    · subst h
      exact .inr ⟨0, by simp, by simp, by simp, by omega⟩
    · have hb : (b == c) = false := by simpa using h
      rw [hb]
      rcases index_list c l with ⟨h1, h2⟩ | ⟨i, h1, h2, h3, h4⟩
      · left
        rw [h1]
        refine ⟨by simp, ?_⟩
        intro x hx
        rcases List.mem_cons.1 hx with rfl | hx
        · exact h
        · exact h2 x hx
      · right
        refine ⟨i + 1, ?_, by simpa using h2, by simpa using h3, ?_⟩
        · rw [h1]
          have : ((i : Int) == -1) = false := by rw [beq_eq_false_iff_ne]; omega
          rw [this]
          simp
        · intro j hj
          cases j with
          | zero => simpa using h
          | succ j => simpa using h4 j (by omega)
theorem byte_of_list (s : ByteArray) (i : Nat) (h : i < s.size) : s.data.toList[i]? = some (s[i]'h) := by
  rw [List.getElem?_eq_getElem (by rw [Array.length_toList]; exact h)]
  rfl
theorem runE_to (P : Int → Bool) (s : ByteArray) : ∀ (n p : Nat), p + n ≤ s.size → (∀ j, j < n → P (bt s ((p + j : Nat) : Int)) = true) → (¬ p + n < s.size ∨ ¬ P (bt s ((p + n : Nat) : Int)) = true) → runE P s p = p + n
  | 0, p, h, _, h2 => by
    rcases h2 with h2 | h2
    · exact runE_end (by simpa using h2)
    · exact runE_no (by simpa using h2)
  | n + 1, p, h, h1, h2 => by
    rw [runE_yes (by omega) (by simpa using h1 0 (by omega)), runE_to P s n (p + 1) (by omega) (fun j hj => by have := h1 (j + 1) (by omega); rwa [show p + (j + 1) = p + 1 + j by omega] at this) (by rwa [show p + (n + 1) = p + 1 + n by omega] at h2)]
    omega
theorem index_f (s : ByteArray) (p : Nat) (hp : p ≤ s.size) : ∃ r : Int, strings_IndexByte.f (s.extract p s.size) 10 = some r ∧ ((r < 0 ∧ runE notNL s p = s.size) ∨ ∃ i : Nat, r = (i : Int) ∧ runE notNL s p = p + i ∧ p + i < s.size) := by
  unfold strings_IndexByte.f
  refine ⟨_, rfl, ?_⟩
  have hz := size_cut s p
  have hc : (10 : Int).toNat.toUInt8 = 10 := rfl
  rw [hc]
  have hn : ∀ i, i < s.size - p → (notNL (bt s ((p + i : Nat) : Int)) = true ↔ (s.extract p s.size).data.toList[i]? ≠ some 10) := by
    intro i hi
    rw [byte_of_list _ i (by omega), ← bt_cut s p i, bt_lt (by omega)]
    unfold notNL
    constructor
    · intro h e
      injection e with e
      rw [e] at h
      simp at h
    · intro h
      simp only [Bool.not_eq_true', beq_eq_false_iff_ne]
      intro e
      exact h (by rw [show (s.extract p s.size)[i]'(by omega) = 10 from UInt8.toNat_inj.1 (Int.ofNat.inj e)])
  rcases index_list 10 (s.extract p s.size).data.toList with ⟨h1, h2⟩ | ⟨i, h1, h2, h3, h4⟩
  · left
    rw [h1]
    refine ⟨by decide, ?_⟩
    have := runE_to notNL s (s.size - p) p (by omega) (fun j hj => (hn j hj).2 (fun e => h2 10 (List.mem_of_getElem? e) rfl)) (.inl (by omega))
    omega
  · right
    rw [Array.length_toList] at h2
    have h2' : i < s.size - p := by rw [← hz]; exact h2
    refine ⟨i, h1, ?_, by omega⟩
    exact runE_to notNL s i p (by omega) (fun j hj => (hn j (by omega)).2 (h4 j hj)) (.inr (fun h => (hn i h2').1 h h3))
theorem space_not {c : Int} (h : spaceB c = true) : c = 32 ∨ c = 9 ∨ c = 13 ∨ c = 10 := by unfold spaceB at h; simpa [or_assoc] using h
theorem blanks_j1 (s : ByteArray) (p k : Nat) (b : Bool) (h35 : ¬ bt s (p : Int) = 35) : lexis_blanks.j1 (k + 1) s (p : Int) (bt s (p : Int)) b = if b = true then lexis_blanks.l0 k s (wrap64 ((p : Int) + 1)) else some (p : Int) := by
  simp only [lexis_blanks.j1]
  cases b
  · rw [if_neg (by simp), if_neg h35, if_neg (by simp)]
  · rw [if_pos rfl, if_pos rfl]
theorem blanks_l (s : ByteArray) (hs : s.size ≤ bnd) : ∀ (d k p : Nat), s.size < p + d → 2 * d + 4 < k → p ≤ s.size → lexis_blanks.l0 k s (p : Int) = some ((blankE s d p : Nat) : Int) := by
  intro d
  induction d with
  | zero => intro k p hd hk hp; omega
  | succ d ih =>
    intro k p hd hk hp
    obtain ⟨k, rfl⟩ : ∃ m, k = m + 1 + 1 := ⟨k - 2, by omega⟩
    have hb := hs
    unfold bnd at hb
    simp only [lexis_blanks.l0, blankE]
    by_cases hlt : p < s.size
    · rw [if_pos (by omega), if_pos (by omega), if_pos hlt]
      by_cases h35 : bt s (p : Int) = 35
      · have hsp : ¬ spaceB (bt s (p : Int)) = true := by rw [h35]; decide
        rw [if_neg (by omega), if_neg (by omega), if_neg (by omega), if_neg hsp, if_pos h35]
        simp only [lexis_blanks.j1]
        rw [if_neg (by rw [h35]; decide), if_pos h35, if_pos (by omega), if_pos (by omega), Int.toNat_natCast]
        obtain ⟨r, h1, h2⟩ := index_f s p hp
        rw [h1]
        simp only [Option.bind_some]
        rcases h2 with ⟨h2, h3⟩ | ⟨i, rfl, h3, h4⟩
        · rw [if_pos h2, h3]
          have := blankE_le s d s.size (Nat.le_refl _)
          rw [show blankE s d s.size = s.size by omega]
        · rw [if_neg (by omega), h3, show wrap64 ((p : Int) + (i : Int)) = ((p + i : Nat) : Int) by rw [wr_in (by omega) (by omega)]; omega]
          by_cases hi : i = 0
          · subst hi
            have h5 := runE_yes hlt (P := notNL) (by rw [h35]; rfl)
            have := runE_ge notNL s (p + 1)
            omega
          · exact ih k (p + i) (by omega) (by omega) (by omega)
      · by_cases hsp : spaceB (bt s (p : Int)) = true
        · rw [if_pos hsp]
          have hnext : lexis_blanks.l0 k s (wrap64 ((p : Int) + 1)) = some ((blankE s d (p + 1) : Nat) : Int) := by rw [wr1 hs (by omega)]; exact ih k (p + 1) (by omega) (by omega) (by omega)
          rw [blanks_j1 s p k _ h35, blanks_j1 s p k _ h35, blanks_j1 s p k _ h35, blanks_j1 s p k _ h35, hnext]
          rcases space_not hsp with h | h | h | h <;> rw [h] <;> rfl
        · rw [if_neg hsp, if_neg h35]
          have e : ¬ bt s (p : Int) = 32 ∧ ¬ bt s (p : Int) = 9 ∧ ¬ bt s (p : Int) = 13 ∧ ¬ bt s (p : Int) = 10 := by unfold spaceB at hsp; simpa [and_assoc] using hsp
          rw [if_neg e.1, if_neg e.2.1, if_neg e.2.2.1, blanks_j1 s p k _ h35, if_neg (by simpa using e.2.2.2)]
    · rw [if_neg (by omega), if_neg hlt]
theorem blanks_f (s : ByteArray) (hs : s.size ≤ bnd) (p k : Nat) (hp : p ≤ s.size) (hk : 2 * s.size + 10 < k) : lexis_blanks.f k s (p : Int) = some ((blankE s (s.size + 1) p : Nat) : Int) :=
  blanks_l s hs (s.size + 1) k p (by omega) (by omega) hp
/-- The token at any place of any text. -/
def nextE (s : ByteArray) (a : Int) : TV :=
  if s.size > 65536 then faultV 0 1 else if a < 0 ∨ (s.size : Int) < a then faultV 0 5 else tokE s (blankE s (s.size + 1) a.toNat)
theorem Next_f (s : ByteArray) (hs : s.size ≤ bnd) (a : Int) (k : Nat) (hk : 4 * s.size + 100 < k) : lexis_Next.f k s a = some (nextE s a) := by
  obtain ⟨k, rfl⟩ : ∃ m, k = m + 1 := ⟨k - 1, by omega⟩
  unfold lexis_Next.f nextE
  by_cases h1 : s.size > 65536
  · rw [if_pos (by omega), if_pos h1]; rfl
  · rw [if_neg (by omega), if_neg h1]
    simp only [lexis_Next.j0, tv_eta]
    by_cases h2 : a < 0
    · rw [if_pos h2, if_pos trivial, if_pos (.inl h2)]; rfl
    · rw [if_neg h2]
      by_cases h3 : (s.size : Int) < a
      · rw [if_pos (decide_eq_true h3), if_pos (.inr h3)]; rfl
      · obtain ⟨p, rfl⟩ : ∃ p : Nat, a = (p : Int) := ⟨a.toNat, by omega⟩
        have hb := blankE_le s (s.size + 1) p (by omega)
        rw [if_neg (by simpa using h3), if_neg (fun h => h.elim h2 h3), blanks_f s hs p k (by omega) (by omega)]
        simp only [Option.bind_some]
        rw [read_f s (by omega) _ k hb.2 (by omega), Int.toNat_natCast]
end Go.Proofs.YtldjdcdoegjmoaaDoor.P
set_option linter.unusedVariables false
namespace Go.Proofs.YtldjdcdoegjmoaaDoor
theorem escF_agr {s t : ByteArray} {p n : Nat} (hn : n ≤ s.size) (hm : n ≤ t.size) (hb : ∀ i, i < n → bat t i = bat s i) (h0 : (escF s p).2.2 = 0) (hq : (escF s p).2.1 ≤ n) : escF t p = escF s p := by
  unfold escF at h0 hq ⊢
  by_cases h1 : p + 1 < s.size
  · rw [if_pos h1] at h0 hq ⊢
    by_cases a1 : bat s (p + 1) = 116
    · rw [if_pos a1] at hq ⊢
      dsimp only at hq
      rw [if_pos (by omega), hb (p + 1) (by omega), if_pos a1]
    · rw [if_neg a1] at h0 hq ⊢
      by_cases a2 : bat s (p + 1) = 110
      · rw [if_pos a2] at hq ⊢
        dsimp only at hq
        rw [if_pos (by omega), hb (p + 1) (by omega), if_neg a1, if_pos a2]
      · rw [if_neg a2] at h0 hq ⊢
        by_cases a3 : bat s (p + 1) = 114
        · rw [if_pos a3] at hq ⊢
          dsimp only at hq
          rw [if_pos (by omega), hb (p + 1) (by omega), if_neg a1, if_neg a2, if_pos a3]
        · rw [if_neg a3] at h0 hq ⊢
          by_cases a4 : bat s (p + 1) = 92 ∨ bat s (p + 1) = 93 ∨ bat s (p + 1) = 45 ∨ bat s (p + 1) = 94 ∨ bat s (p + 1) = 39 ∨ bat s (p + 1) = 34
          · rw [if_pos a4] at hq ⊢
            dsimp only at hq
            rw [if_pos (by omega), hb (p + 1) (by omega), if_neg a1, if_neg a2, if_neg a3, if_pos a4]
          · rw [if_neg a4] at h0 hq ⊢
            by_cases a5 : bat s (p + 1) = 120 ∧ p + 3 < s.size ∧ 0 ≤ hexv (bat s (p + 2)) ∧ 0 ≤ hexv (bat s (p + 3))
            · rw [if_pos a5] at hq ⊢
              dsimp only at hq
              rw [if_pos (by omega), hb (p + 1) (by omega), hb (p + 2) (by omega), hb (p + 3) (by omega), if_neg a1, if_neg a2, if_neg a3, if_neg a4, if_pos ⟨a5.1, by omega, a5.2.2⟩]
            · rw [if_neg a5] at h0
              cases h0
  · rw [if_neg h1] at h0
    cases h0
theorem byteF_strict {s : ByteArray} {p : Nat} (h0 : (byteF s p).2.2 = 0) : p < (byteF s p).2.1 ∧ p < s.size := by
  unfold byteF at h0 ⊢
  by_cases h1 : p < s.size
  · rw [if_pos h1] at h0 ⊢
    unfold sayF at h0 ⊢
    by_cases h2 : bat s p = 92
    · rw [if_pos h2] at h0 ⊢
      refine ⟨?_, h1⟩
      unfold escF at h0 ⊢
      repeat' (split at h0)
      all_goals first | (cases h0; done) | (simp only [*, if_true, if_false, and_self]; repeat' (split)) | skip
      all_goals first | (dsimp only; omega) | (simp_all)
    · rw [if_neg h2] at h0 ⊢
      by_cases h3 : barred (bat s p)
      · rw [if_pos h3] at h0; cases h0
      · rw [if_neg h3]; exact ⟨by dsimp only; omega, h1⟩
  · rw [if_neg h1] at h0
    cases h0
theorem byteF_agr {s t : ByteArray} {p n : Nat} (hn : n ≤ s.size) (hm : n ≤ t.size) (hb : ∀ i, i < n → bat t i = bat s i) (h0 : (byteF s p).2.2 = 0) (hq : (byteF s p).2.1 ≤ n) : byteF t p = byteF s p := by
  have hs := byteF_strict h0
  have e := hb p (by omega)
  have hpt : p < t.size := by omega
  unfold byteF at h0 hq ⊢
  rw [if_pos hs.2] at h0 hq ⊢
  rw [if_pos hpt]
  unfold sayF at h0 hq ⊢
  rw [e]
  by_cases h2 : bat s p = 92
  · rw [if_pos h2] at h0 hq ⊢
    rw [if_pos h2]
    exact escF_agr hn hm hb h0 hq
  · rw [if_neg h2, if_neg h2]
theorem itemF_no {s : ByteArray} {b p : Nat} (h : (itemF s b p).2.2.2.2 = 0) : (byteF s p).2.2 = 0 := by
  by_cases h0 : (byteF s p).2.2 = 0
  · exact h0
  · unfold itemF at h
    rw [if_neg h0] at h
    exact h
theorem itemF_strict {s : ByteArray} {b p : Nat} (h : (itemF s b p).2.2.2.2 = 0) : p < (itemF s b p).2.2.1 ∧ (byteF s p).2.1 ≤ (itemF s b p).2.2.1 := by
  have h0 := itemF_no h
  have h1 := byteF_strict h0
  unfold itemF
  rw [if_pos h0]
  by_cases h2 : (byteF s p).2.1 < s.size ∧ bat s (byteF s p).2.1 = 45
  · rw [if_pos h2]
    have h3 := byteF_next s ((byteF s p).2.1 + 1) (by omega)
    split <;> (dsimp only; omega)
  · rw [if_neg h2]
    dsimp only
    omega
theorem itemF_agr {s t : ByteArray} {b p n : Nat} (hn : n ≤ s.size) (hm : n ≤ t.size) (hb : ∀ i, i < n → bat t i = bat s i) (h : (itemF s b p).2.2.2.2 = 0) (hq : (itemF s b p).2.2.1 < n) : itemF t b p = itemF s b p := by
  have h0 := itemF_no h
  have hs := itemF_strict h
  have e := byteF_agr hn hm hb h0 (by omega)
  have eb := hb (byteF s p).2.1 (by omega)
  have hqn : (byteF s p).2.1 < n := by omega
  unfold itemF at h hq ⊢
  rw [e]
  rw [if_pos h0] at h hq ⊢
  rw [if_pos h0]
  by_cases h2 : (byteF s p).2.1 < s.size ∧ bat s (byteF s p).2.1 = 45
  · rw [if_pos h2] at h hq ⊢
    rw [if_pos (show (byteF s p).2.1 < t.size ∧ bat t (byteF s p).2.1 = 45 from ⟨by omega, by rw [eb]; exact h2.2⟩)]
    by_cases h3 : (byteF s ((byteF s p).2.1 + 1)).2.2 = 0 ∧ (byteF s ((byteF s p).2.1 + 1)).1 < (byteF s p).1
    · rw [if_pos h3] at h; cases h
    · rw [if_neg h3] at h hq
      dsimp only at h hq
      rw [byteF_agr hn hm hb h (by omega)]
  · rw [if_neg h2]
    rw [if_neg (show ¬ ((byteF s p).2.1 < t.size ∧ bat t (byteF s p).2.1 = 45) from fun h3 => h2 ⟨by omega, by rw [← eb]; exact h3.2⟩)]
theorem itemsF_good {s t : ByteArray} {b n : Nat} (hn : n ≤ s.size) (hm : n ≤ t.size) (hb : ∀ i, i < n → bat t i = bat s i) :
    ∀ (k p : Nat) (l L : List (Nat × Nat)) (m pl : Nat), itemsF s b k p l = (L, m, pl, 0) → p ≤ s.size → p < m ∧ m ≤ s.size ∧ pl = 0 ∧ (m ≤ n → ∀ k', m - p ≤ k' → itemsF t b k' p l = (L, m, pl, 0))
  | 0, p, l, L, m, pl, h, hp => by simp [itemsF] at h
  | k + 1, p, l, L, m, pl, h, hp => by
    rw [itemsF] at h
    by_cases h1 : p < s.size ∧ bat s p = 93
    · rw [if_pos h1] at h
      simp only [Prod.mk.injEq] at h
      obtain ⟨rfl, rfl, rfl, -⟩ := h
      refine ⟨by omega, by omega, rfl, fun hmn k' hk => ?_⟩
      obtain ⟨j, rfl⟩ : ∃ j, k' = j + 1 := ⟨k' - 1, by omega⟩
      rw [itemsF, if_pos ⟨by omega, by rw [hb p (by omega)]; exact h1.2⟩]
    · rw [if_neg h1] at h
      by_cases h2 : (itemF s b p).2.2.2.2 = 0
      · rw [if_pos h2] at h
        have hs := itemF_strict h2
        have hx := itemF_next s b p hp
        have ih := itemsF_good hn hm hb k _ _ L m pl h hx.2
        refine ⟨by omega, ih.2.1, ih.2.2.1, fun hmn k' hk => ?_⟩
        obtain ⟨j, rfl⟩ : ∃ j, k' = j + 1 := ⟨k' - 1, by omega⟩
        have ea := itemF_agr hn hm hb h2 (by omega)
        rw [itemsF, if_neg (fun h3 => h1 ⟨by omega, by rw [← hb p (by omega)]; exact h3.2⟩), ea, if_pos h2]
        exact ih.2.2.2 hmn j (by omega)
      · rw [if_neg h2] at h
        simp only [Prod.mk.injEq] at h
        exact absurd h.2.2.2 h2
end Go.Proofs.YtldjdcdoegjmoaaDoor
set_option linter.unusedVariables false
set_option linter.unusedSimpArgs false
namespace Go.Proofs.YtldjdcdoegjmoaaDoor.P
open Go.RowKit Go.Proofs.YtldjdcdoegjmoaaDoorW.PrintWords Go.Proofs.YtldjdcdoegjmoaaDoorW.PrintLast
def kindOf (t : TV) : Int := t.1
def endOf (t : TV) : Int := t.2.2.1
def codeOf (t : TV) : Int := t.2.2.2.2.2.2.2.2.2.2.2.2
/-- A token's end lies behind a place. -/
def Ends (s : ByteArray) (p : Nat) (t : TV) : Prop := codeOf t = 0 → kindOf t ≠ 0 → ∃ e : Nat, endOf t = (e : Int) ∧ p < e ∧ e ≤ s.size
theorem ends_fault {s : ByteArray} {p : Nat} {a c : Int} (h : c ≠ 0) : Ends s p (faultV a c) := fun h0 _ => absurd h0 h
theorem ends_mk {s : ByteArray} {p e : Nat} {t : TV} (h : endOf t = (e : Int)) (h1 : p < e) (h2 : e ≤ s.size) : Ends s p t := fun _ _ => ⟨e, h, h1, h2⟩
theorem runE_more {P : Int → Bool} {s : ByteArray} {p : Nat} (h : p < s.size) (hp : P (bt s (p : Int)) = true) : p < runE P s p := by
  rw [runE_yes h hp]
  have := runE_ge P s (p + 1)
  omega
theorem ends_word {s : ByteArray} {p : Nat} (hp : p < s.size) (hl : letterB (bt s (p : Int)) = true) : Ends s p (wordE s p) := by
  unfold wordE
  split
  · exact ends_fault (by decide)
  · have h1 := ownE_on s p ⟨hp, hl⟩
    have h2 : ownE s p ≤ nameE s p := by
      unfold nameE
      rw [if_neg (by omega)]
      exact Nat.le_trans (colE_ge s _) (numE_ge s _)
    exact ends_mk rfl (by omega) (nameE_size s p (by omega))
theorem ends_mark {s : ByteArray} {p : Nat} (hp : p < s.size) : Ends s p (markE s p) := by
  unfold markE
  split
  · exact ends_fault (by decide)
  · split
    · exact ends_fault (by decide)
    · have := ownE_ge s (p + 1)
      exact ends_mk rfl (by omega) (ownE_size s (p + 1) (by omega))
theorem numbE_le {s : ByteArray} {p n e : Nat} (h : numbE s p = some (n, e)) : p < e ∧ (p ≤ s.size → e ≤ s.size) := by
  unfold numbE at h
  split at h
  · next q =>
    simp only [Option.some.injEq, Prod.mk.injEq] at h
    obtain ⟨-, rfl⟩ := h
    exact ⟨q.1, fun hp => runE_size _ _ _ hp⟩
  · cases h
theorem ends_count {s : ByteArray} {p : Nat} (hp : p < s.size) : Ends s p (countE s p) := by
  unfold countE
  split
  · exact ends_fault (by decide)
  · next low k h =>
    have h1 := numbE_le h
    have h2 := h1.2 (by omega)
    split
    · next q =>
      split
      · next q2 => exact ends_mk rfl (by omega) (by omega)
      · split
        · exact ends_fault (by decide)
        · next high m h3 =>
          have h4 := numbE_le h3
          have h5 := h4.2 (by omega)
          split
          · exact ends_fault (by decide)
          · split
            · next q3 => exact ends_mk rfl (by omega) (by omega)
            · exact ends_fault (by decide)
    · split
      · next q => exact ends_mk rfl (by omega) (by omega)
      · exact ends_fault (by decide)
theorem ends_litEnd {s : ByteArray} {p q : Nat} {acc : List Int} (h : p < q) (hq : q < s.size) : Ends s p (litEnd s p acc q) := by
  unfold litEnd
  split
  · next h1 => exact ends_mk rfl (by omega) (by omega)
  · exact ends_mk rfl (by omega) (by omega)
theorem ends_lit {s : ByteArray} {p : Nat} : ∀ (d : Nat) (acc : List Int) (q : Nat), p < q → Ends s p (litE s p d acc q)
  | 0, acc, q, h => ends_fault (by decide)
  | d + 1, acc, q, h => by
    rw [litE]
    split
    · next h1 =>
      split
      · exact ends_litEnd h h1.1
      · split
        · split
          · exact ends_fault (by decide)
          · exact ends_lit d _ _ (by omega)
        · exact ends_lit d _ _ (by omega)
    · exact ends_fault (by decide)
theorem parseF_end {s : ByteArray} {p : Nat} (hp : p < s.size) (h : (parseF s p).2.2.2 = 0) : p < (parseF s p).2.1 ∧ (parseF s p).2.1 ≤ s.size := by
  unfold parseF at h ⊢
  split at h
  · next h1 =>
    rw [if_pos h1]
    dsimp only at h ⊢
    have key : ∀ q, p + 1 ≤ q → q ≤ s.size → (itemsF s p (s.size + 1) q []).2.2.2 = 0 → p < (itemsF s p (s.size + 1) q []).2.1 ∧ (itemsF s p (s.size + 1) q []).2.1 ≤ s.size := fun q hq1 hq2 h0 => by
      obtain ⟨L, m, pl, c, hr⟩ : ∃ L m pl c, itemsF s p (s.size + 1) q [] = (L, m, pl, c) := ⟨_, _, _, _, rfl⟩
      rw [hr] at h0 ⊢
      obtain rfl : c = 0 := h0
      have := itemsF_good (s := s) (t := s) (n := s.size) (Nat.le_refl _) (Nat.le_refl _) (fun _ _ => rfl) _ _ _ _ _ _ hr hq2
      exact ⟨by dsimp only; omega, this.2.1⟩
    by_cases ho : p + 1 < s.size ∧ bat s (p + 1) = 94
    · simp only [if_pos ho] at h ⊢
      by_cases h2 : (itemsF s p (s.size + 1) (p + 2) []).2.2.2 = 0
      · rw [if_pos h2]; exact key _ (by omega) (by omega) h2
      · rw [if_neg h2] at h; exact absurd h h2
    · simp only [if_neg ho] at h ⊢
      by_cases h2 : (itemsF s p (s.size + 1) (p + 1) []).2.2.2 = 0
      · rw [if_pos h2]; exact key _ (by omega) (by omega) h2
      · rw [if_neg h2] at h; exact absurd h h2
  · cases h
theorem ends_class {s : ByteArray} {p : Nat} (hp : p < s.size) : Ends s p (classV s p) := by
  unfold classV
  have e : parseI s (p : Int) = parseF s p := by unfold parseI; rw [if_neg (by omega), Int.toNat_natCast]
  rw [e]
  split
  · next h =>
    have := parseF_end hp (by omega)
    exact ends_mk rfl this.1 this.2
  · next h => exact ends_fault h
theorem ends_tok {s : ByteArray} {p : Nat} : Ends s p (tokE s p) := by
  unfold tokE
  split
  · next hp =>
    split
    · exact ends_mk rfl (by omega) (by omega)
    · split
      · next h => exact ends_word hp h
      · split
        · exact ends_mk rfl (by omega) (by omega)
        · split
          · exact ends_count hp
          · split
            · exact ends_lit _ _ _ (by omega)
            · split
              · exact ends_class hp
              · split
                · exact ends_mark hp
                · exact ends_fault (by decide)
  · exact fun _ h => absurd rfl h
theorem ends_next {s : ByteArray} {p : Nat} (hp : p ≤ s.size) : Ends s p (nextE s (p : Int)) := by
  unfold nextE
  split
  · exact ends_fault (by decide)
  · rw [if_neg (by omega), Int.toNat_natCast]
    have hb := blankE_le s (s.size + 1) p hp
    intro h0 h1
    obtain ⟨e, h2, h3, h4⟩ := ends_tok h0 h1
    exact ⟨e, h2, by omega, h4⟩
/-- All pairs from a place on. -/
def pairsE (s : ByteArray) : Nat → Nat → List TV
  | 0, _ => []
  | d + 1, p => if codeOf (nextE s (p : Int)) = 0 ∧ kindOf (nextE s (p : Int)) ≠ 0 then nextE s (p : Int) :: pairsE s d (endOf (nextE s (p : Int))).toNat else [nextE s (p : Int)]
theorem pairsE_fuel (s : ByteArray) : ∀ (d d' p : Nat), p ≤ s.size → s.size < p + d → s.size < p + d' → pairsE s d p = pairsE s d' p
  | 0, d', p, h, h1, h2 => by omega
  | d + 1, 0, p, h, h1, h2 => by omega
  | d + 1, d' + 1, p, h, h1, h2 => by
    rw [pairsE, pairsE]
    split
    · next q =>
      obtain ⟨e, h3, h4, h5⟩ := ends_next h q.1 q.2
      rw [h3, Int.toNat_natCast, pairsE_fuel s d d' e h5 (by omega) (by omega)]
    · rfl
/-- What lexis.Each goes through. -/
def allE (s : ByteArray) (p : Nat) : List TV := pairsE s (s.size + 1) p
theorem allE_on {s : ByteArray} {p : Nat} (hp : p ≤ s.size) (h0 : codeOf (nextE s (p : Int)) = 0) (h1 : kindOf (nextE s (p : Int)) ≠ 0) : ∃ e : Nat, endOf (nextE s (p : Int)) = (e : Int) ∧ p < e ∧ e ≤ s.size ∧ allE s p = nextE s (p : Int) :: allE s e := by
  obtain ⟨e, h3, h4, h5⟩ := ends_next hp h0 h1
  refine ⟨e, h3, h4, h5, ?_⟩
  unfold allE
  rw [pairsE, if_pos ⟨h0, h1⟩, h3, Int.toNat_natCast, pairsE_fuel s s.size (s.size + 1) e h5 (by omega) (by omega)]
theorem allE_off {s : ByteArray} {p : Nat} (h : ¬ (codeOf (nextE s (p : Int)) = 0 ∧ kindOf (nextE s (p : Int)) ≠ 0)) : allE s p = [nextE s (p : Int)] := by
  unfold allE
  rw [pairsE, if_neg h]
theorem pairsE_last (s : ByteArray) : ∀ (d p : Nat) (pre : List TV) (t : TV), pre ++ [t] <+: pairsE s d p → codeOf t ≠ 0 → pairsE s d p = pre ++ [t]
  | 0, p, pre, t, h, hc => by rw [pairsE] at h; have := h.length_le; simp at this
  | d + 1, p, pre, t, h, hc => by
    rw [pairsE] at h ⊢
    split at h
    · next q =>
      rw [if_pos q]
      cases pre with
      | nil =>
        have := List.cons_prefix_cons.1 h
        rw [this.1] at hc
        exact absurd q.1 hc
      | cons a pre =>
        have h2 := List.cons_prefix_cons.1 h
        rw [pairsE_last s d _ pre t h2.2 hc, ← h2.1]; rfl
    · next q =>
      rw [if_neg q]
      cases pre with
      | nil =>
        have := List.cons_prefix_cons.1 h
        rw [this.1]; rfl
      | cons a pre =>
        have := h.length_le
        simp at this
theorem allE_last {s : ByteArray} {pre : List TV} {t : TV} (h : pre ++ [t] <+: allE s 0) (hc : codeOf t ≠ 0) : allE s 0 = pre ++ [t] := pairsE_last s _ _ pre t h hc
theorem pairsE_len (s : ByteArray) : ∀ (d p : Nat), (pairsE s d p).length ≤ d
  | 0, p => by simp [pairsE]
  | d + 1, p => by
    rw [pairsE]
    split
    · have := pairsE_len s d (endOf (nextE s (p : Int))).toNat
      simp only [List.length_cons]; omega
    · simp
theorem allE_len (s : ByteArray) : (allE s 0).length ≤ 65537 := by
  by_cases h : s.size > 65536
  · rw [allE_off]
    · simp
    · unfold nextE
      rw [if_pos h]
      exact fun q => absurd q.1 (by decide)
  · have := pairsE_len s (s.size + 1) 0
    unfold allE
    omega
theorem allE_ne (s : ByteArray) : allE s 0 ≠ [] := by
  by_cases h : codeOf (nextE s ((0 : Nat) : Int)) = 0 ∧ kindOf (nextE s ((0 : Nat) : Int)) ≠ 0
  · obtain ⟨e, _, _, _, h4⟩ := allE_on (Nat.zero_le _) h.1 h.2
    rw [h4]; simp
  · rw [allE_off h]; simp
end Go.Proofs.YtldjdcdoegjmoaaDoor.P
