/- Names of a grammar's text, whole; LexisKnows. -/
import Derived.Test.YtldjdcdoegjmoaaLx1
namespace Go.Proofs.Ytldjdcdoegjmoaa.P
open Go.RowKit Go.Proofs.YtldjdcdoegjmoaaW.PrintWords Go.Proofs.YtldjdcdoegjmoaaW.PrintLast
theorem bt_lt {s : ByteArray} {i : Nat} (h : i < s.size) : bt s (i : Int) = ((s[i]'h).toNat : Int) := by rw [bt_nat, dif_pos h]
theorem two_list (t : ByteArray) (h : 2 ≤ t.size) : (t.extract 0 2).toList = [t[0]'(by omega), t[1]'(by omega)] := by
  rw [ByteArray.toList_eq]
  have hz : (t.extract 0 2).size = 2 := by rw [ByteArray.size_extract]; omega
  apply List.ext_getElem
  · rw [Array.length_toList]; exact hz
  · intro i h1 h2
    have hi : i < 2 := by rw [Array.length_toList] at h1; exact lt_of_lt_of_eq h1 hz
    have e : (t.extract 0 2).data.toList[i] = (t.extract 0 2)[i]'(by omega) := rfl
    rw [e, ByteArray.getElem_extract]
    rcases (by omega : i = 0 ∨ i = 1) with rfl | rfl <;> rfl
def pre2B (s : ByteArray) (q : Nat) (x y : UInt8) : Bool := decide (q + 1 < s.size ∧ bt s (q : Int) = (x.toNat : Int) ∧ bt s ((q + 1 : Nat) : Int) = (y.toNat : Int))
theorem prefix2_f (s : ByteArray) (q : Nat) (x y : UInt8) (hq : q ≤ s.size) :
    strings_HasPrefix.f (s.extract q s.size) ⟨#[x, y]⟩ = some (pre2B s q x y) := by
  unfold pre2B
  have hz := size_cut s q
  have h2 : (⟨#[x, y]⟩ : ByteArray).size = 2 := rfl
  unfold strings_HasPrefix.f stringslite_HasPrefix.f
  rw [h2, hz]
  by_cases h : q + 1 < s.size
  · rw [if_pos (by omega), if_pos (by omega), if_pos (by omega)]
    simp only [Option.bind_some, Option.some.injEq]
    have e : ((((2 : Nat) : Int)).toNat) = 2 := rfl
    rw [e, two_list _ (by omega)]
    have b0 : bt s (q : Int) = (((s.extract q s.size)[0]'(by omega)).toNat : Int) := by
      have := bt_cut s q 0
      rw [bt_lt (by omega)] at this
      exact this.symm
    have b1 : bt s ((q + 1 : Nat) : Int) = (((s.extract q s.size)[1]'(by omega)).toNat : Int) := by
      have := bt_cut s q 1
      rw [bt_lt (by omega)] at this
      exact this.symm
    rw [b0, b1]
    have el : (⟨#[x, y]⟩ : ByteArray).toList = [x, y] := by rw [ByteArray.toList_eq]
    rw [el, Bool.eq_iff_iff, beq_iff_eq, decide_eq_true_iff]
    constructor
    · intro h'
      injection h' with h0 h'
      injection h' with h1 _
      rw [h0, h1]
      exact ⟨h, rfl, rfl⟩
    · rintro ⟨_, h0, h1⟩
      rw [UInt8.toNat_inj.1 (Int.ofNat.inj h0), UInt8.toNat_inj.1 (Int.ofNat.inj h1)]
  · rw [if_neg (by omega)]
    simp only [Option.bind_some, Option.some.injEq]
    rw [decide_eq_false (fun h' => h h'.1)]
theorem named_f (s : ByteArray) (hs : s.size ≤ bnd) (p k : Nat) (hp : p ≤ s.size) (hk : s.size + 6 < k) : lexis_named.f k s (p : Int) = some ((nameE s p - p : Nat) : Int) := by
  have h1 := ownE_ge s p
  have h2 := ownE_size s p hp
  have hs' := hs
  unfold bnd at hs'
  unfold lexis_named.f nameE
  rw [own_f s hs p k hp (by omega)]
  simp only [Option.bind_some]
  by_cases h0 : ownE s p = p
  · rw [if_pos (by omega), if_pos h0, Nat.sub_self]; rfl
  · rw [if_neg (by omega), if_neg h0]
    have e : wrap64 ((p : Int) + ((ownE s p - p : Nat) : Int)) = ((ownE s p : Nat) : Int) := by rw [wr_in (by omega) (by omega)]; omega
    rw [e]; clear e
    rw [if_pos (by omega), if_pos (by omega), Int.toNat_natCast, prefix2_f s _ 58 58 h2]
    simp only [Option.bind_some]
    have g1 := colE_ge s (ownE s p)
    have g2 := colE_size s (ownE s p) h2
    have g3 := numE_ge s (colE s (ownE s p))
    have g4 := numE_size s (colE s (ownE s p)) g2
    by_cases hc : ownE s p + 1 < s.size ∧ bt s ((ownE s p : Nat) : Int) = 58 ∧ bt s ((ownE s p + 1 : Nat) : Int) = 58
    · rw [show pre2B s (ownE s p) 58 58 = true by unfold pre2B; exact decide_eq_true hc, if_pos rfl]
      have e2 : wrap64 (((ownE s p : Nat) : Int) + 2) = ((ownE s p + 2 : Nat) : Int) := by rw [wr_in (by omega) (by omega)]; omega
      rw [e2]; clear e2
      rw [own_f s hs (ownE s p + 2) k (by omega) (by omega)]
      simp only [Option.bind_some]
      have g5 := ownE_ge s (ownE s p + 2)
      have g6 := ownE_size s (ownE s p + 2) (by omega)
      have hcol : colE s (ownE s p) = if ownE s p + 2 < ownE s (ownE s p + 2) then ownE s (ownE s p + 2) else ownE s p := by unfold colE; rw [if_pos hc]
      by_cases hm : ownE s p + 2 < ownE s (ownE s p + 2)
      · rw [if_pos hm] at hcol
        rw [if_pos (by omega)]
        rw [show wrap64 (2 + ((ownE s (ownE s p + 2) - (ownE s p + 2) : Nat) : Int)) = ((ownE s (ownE s p + 2) - ownE s p : Nat) : Int) by rw [wr_in (by omega) (by omega)]; omega]
        rw [show wrap64 (((ownE s p - p : Nat) : Int) + ((ownE s (ownE s p + 2) - ownE s p : Nat) : Int)) = ((ownE s (ownE s p + 2) - p : Nat) : Int) by rw [wr_in (by omega) (by omega)]; omega]
        rw [show wrap64 ((p : Int) + ((ownE s (ownE s p + 2) - p : Nat) : Int)) = ((ownE s (ownE s p + 2) : Nat) : Int) by rw [wr_in (by omega) (by omega)]; omega]
        rw [if_pos (by omega), if_pos (by omega), Int.toNat_natCast, numbered_f s hs _ k g6 (by omega)]
        simp only [Option.bind_some]
        rw [hcol] at g3 g4 ⊢
        rw [wr_in (by omega) (by omega)]
        congr 1
        omega
      · rw [if_neg hm] at hcol
        rw [if_neg (by omega), numbered_f s hs _ k h2 (by omega)]
        simp only [Option.bind_some]
        rw [hcol] at g3 g4 ⊢
        rw [wr_in (by omega) (by omega)]
        congr 1
        omega
    · have hcol : colE s (ownE s p) = ownE s p := by unfold colE; rw [if_neg hc]
      rw [show pre2B s (ownE s p) 58 58 = false by unfold pre2B; exact decide_eq_false hc, if_neg (by simp), numbered_f s hs _ k h2 (by omega)]
      simp only [Option.bind_some]
      rw [hcol] at g3 g4 ⊢
      rw [wr_in (by omega) (by omega)]
      congr 1
      omega
theorem refNamed_j2 (s : ByteArray) (hs : s.size ≤ bnd) (q k : Nat) (hq : q ≤ s.size) (hk : s.size + 3 < k) (b : Bool) :
    dowelref04_named.j2 k s (q : Int) b = some ((if b = true then (if q + 1 < runE digitB s (q + 1) ∧ runE digitB s (q + 1) ≤ q + 6 ∧ bt s ((q + 1 : Nat) : Int) ≠ 48 then runE digitB s (q + 1) else q) else q : Nat) : Int) := by
  obtain ⟨k, rfl⟩ : ∃ m, k = m + 1 := ⟨k - 1, by omega⟩
  have hs' := hs
  unfold bnd at hs'
  have e1 : wrap64 ((q : Int) + 1) = ((q + 1 : Nat) : Int) := by rw [wr_in (by omega) (by omega)]; omega
  have e6 : wrap64 ((q : Int) + 6) = ((q + 6 : Nat) : Int) := by rw [wr_in (by omega) (by omega)]; omega
  simp only [dowelref04_named.j2, e1, e6]
  cases b
  · rw [if_neg (by simp), if_neg (by simp)]
  · rw [if_pos rfl, if_pos rfl, refDigits_f s hs (q + 1) k (by omega) (by omega)]
    simp only [Option.bind_some]
    by_cases c1 : q + 1 < runE digitB s (q + 1)
    · have hlt : q + 1 < s.size := by
        by_cases h : q + 1 < s.size
        · exact h
        · rw [runE_end h] at c1; omega
      rw [if_pos (by omega)]
      by_cases c2 : runE digitB s (q + 1) ≤ q + 6
      · rw [if_pos (by omega), if_pos (by omega), if_pos (by omega)]
        by_cases c3 : bt s ((q + 1 : Nat) : Int) = 48
        · rw [if_pos c3, if_neg (fun h => h.2.2 c3)]
        · rw [if_neg c3, if_pos ⟨c1, c2, c3⟩]
      · rw [if_neg (by omega), if_neg (fun h => c2 h.2.1)]
    · rw [if_neg (by omega), if_neg (fun h => c1 h.1)]
theorem refNamed_j1 (s : ByteArray) (hs : s.size ≤ bnd) (q k : Nat) (hq : q ≤ s.size) (hk : s.size + 4 < k) : dowelref04_named.j1 k s (q : Int) = some ((numE s q : Nat) : Int) := by
  obtain ⟨k, rfl⟩ : ∃ m, k = m + 1 := ⟨k - 1, by omega⟩
  simp only [dowelref04_named.j1]
  unfold numE
  by_cases h : q < s.size
  · rw [if_pos (by omega), if_pos (by omega), refNamed_j2 s hs q k hq (by omega)]
    by_cases h2 : bt s (q : Int) = 126
    · rw [if_pos (by simpa using h2), if_pos (c := q < s.size ∧ _) ⟨h, h2⟩]
    · rw [if_neg (by simpa using h2), if_neg (fun h' => h2 h'.2)]
  · rw [if_neg (by omega), refNamed_j2 s hs q k hq (by omega), if_neg (by simp), if_neg (fun h' => h h'.1)]
theorem refNamed_j0 (s : ByteArray) (hs : s.size ≤ bnd) (q k : Nat) (hq : q ≤ s.size) (hk : s.size + 6 < k) (b : Bool) (hb : b = true → q + 1 < s.size) :
    dowelref04_named.j0 k s (q : Int) b = some ((numE s (if b = true ∧ q + 2 < ownE s (q + 2) then ownE s (q + 2) else q) : Nat) : Int) := by
  obtain ⟨k, rfl⟩ : ∃ m, k = m + 1 := ⟨k - 1, by omega⟩
  have hs' := hs
  unfold bnd at hs'
  have e2 : wrap64 ((q : Int) + 2) = ((q + 2 : Nat) : Int) := by rw [wr_in (by omega) (by omega)]; omega
  simp only [dowelref04_named.j0, e2]
  cases b
  · rw [if_neg (by simp), if_neg (by simp), refNamed_j1 s hs q k hq (by omega)]
  · have := hb rfl
    rw [if_pos rfl, refOwn_f s hs (q + 2) k (by omega) (by omega)]
    simp only [Option.bind_some]
    by_cases c : q + 2 < ownE s (q + 2)
    · rw [if_pos (by omega), if_pos ⟨by trivial, c⟩, refNamed_j1 s hs _ k (ownE_size _ _ (by omega)) (by omega)]
    · rw [if_neg (by omega), if_neg (fun h => c h.2), refNamed_j1 s hs q k hq (by omega)]
theorem refNamed_f (s : ByteArray) (hs : s.size ≤ bnd) (p k : Nat) (hp : p ≤ s.size) (hk : s.size + 6 < k) : dowelref04_named.f k s (p : Int) = some ((nameE s p : Nat) : Int) := by
  have h1 := ownE_ge s p
  have h2 := ownE_size s p hp
  have hs' := hs
  unfold bnd at hs'
  unfold dowelref04_named.f nameE
  rw [refOwn_f s hs p k (by omega) (by omega)]
  simp only [Option.bind_some]
  have e1 : wrap64 (((ownE s p : Nat) : Int) + 1) = ((ownE s p + 1 : Nat) : Int) := by rw [wr_in (by omega) (by omega)]; omega
  rw [e1]
  by_cases h0 : ownE s p = p
  · rw [if_pos (by omega), if_pos h0]
  · rw [if_neg (by omega), if_neg h0]
    unfold colE
    by_cases hc : ownE s p + 1 < s.size
    · rw [if_pos (by omega), if_pos (by omega), if_pos (by omega)]
      by_cases h58 : bt s ((ownE s p : Nat) : Int) = 58
      · rw [if_pos h58, if_pos (by omega), refNamed_j0 s hs _ k h2 (by omega) _ (fun _ => hc)]
        by_cases h59 : bt s ((ownE s p + 1 : Nat) : Int) = 58
        · rw [if_pos (c := ownE s p + 1 < s.size ∧ _) ⟨hc, h58, h59⟩]
          by_cases c : ownE s p + 2 < ownE s (ownE s p + 2)
          · rw [if_pos ⟨by simpa using h59, c⟩, if_pos c]
          · rw [if_neg (fun h => c h.2), if_neg c]
        · rw [if_neg (fun h => h59 (by simpa using h.1)), if_neg (fun h => h59 h.2.2)]
      · rw [if_neg h58, refNamed_j0 s hs _ k h2 (by omega) _ (by simp), if_neg (by simp), if_neg (fun h => h58 h.2.1)]
    · rw [if_neg (by omega), refNamed_j0 s hs _ k h2 (by omega) _ (by simp), if_neg (by simp), if_neg (fun h => hc h.1)]
/-- Is a text a name? -/
def knowsB (s : ByteArray) : Bool := decide (s.size ≠ 0 ∧ s.size ≤ 64 ∧ nameE s 0 = s.size)
theorem Name_f (s : ByteArray) (hs : s.size ≤ bnd) (k : Nat) (hk : s.size + 6 < k) : lexis_Name.f k s = some (knowsB s) := by
  unfold lexis_Name.f knowsB
  by_cases h0 : s.size = 0
  · rw [if_pos (toList_nil.2 h0), decide_eq_false (fun h => h.1 h0)]
  · rw [if_neg (fun h => h0 (toList_nil.1 h))]
    by_cases h1 : s.size ≤ 64
    · rw [if_pos (by omega), show (0 : Int) = ((0 : Nat) : Int) from rfl, named_f s hs 0 k (by omega) hk]
      simp only [Option.bind_some, Option.some.injEq]
      rw [Bool.eq_iff_iff, beq_iff_eq, decide_eq_true_iff]
      constructor
      · intro h; exact ⟨h0, h1, by omega⟩
      · intro h; have := h.2.2; omega
    · rw [if_neg (by omega), decide_eq_false (fun h => h1 h.2.1)]
theorem refName_f (s : ByteArray) (hs : s.size ≤ bnd) (k : Nat) (hk : s.size + 6 < k) : dowelref04_Name.f k s = some (knowsB s) := by
  unfold dowelref04_Name.f knowsB
  by_cases h0 : s.size = 0
  · rw [if_pos (toList_nil.2 h0), decide_eq_false (fun h => h.1 h0)]
  · rw [if_neg (fun h => h0 (toList_nil.1 h))]
    by_cases h1 : s.size ≤ 64
    · rw [if_pos (by omega), show (0 : Int) = ((0 : Nat) : Int) from rfl, refNamed_f s hs 0 k (by omega) hk]
      simp only [Option.bind_some, Option.some.injEq]
      rw [Bool.eq_iff_iff, beq_iff_eq, decide_eq_true_iff]
      constructor
      · intro h; exact ⟨h0, h1, by omega⟩
      · intro h; have := h.2.2; omega
    · rw [if_neg (by omega), decide_eq_false (fun h => h1 h.2.1)]
end Go.Proofs.Ytldjdcdoegjmoaa.P
