import Derived.Test.YtldjdcdoegjmoaaDoorZ2
import Derived.Test.YtldjdcdoegjmoaaDoorZ23
import Derived.Test.YtldjdcdoegjmoaaDoorZ24
set_option linter.unusedVariables false
set_option linter.unusedSimpArgs false
namespace Go.Proofs.YtldjdcdoegjmoaaDoor.Pure
open Go.RowKit Go.Proofs.YtldjdcdoegjmoaaDoor.P Go.Proofs.YtldjdcdoegjmoaaDoorW.PrintWords Go.Proofs.YtldjdcdoegjmoaaDoorW.PrintLast
theorem digits_all : ∀ n : Fin 256, dowelref04_Digits.f 5 (n.val : Int) = some ⟨(Lib.itoa (n.val : Int)).toArray⟩ := by decide +kernel
theorem itoa_small : ∀ n : Fin 256, (Lib.itoa (n.val : Int)).length ≤ 3 := by decide +kernel
theorem digits_f {n : Int} (h0 : 0 ≤ n) (h1 : n ≤ 255) {k : Nat} (hk : 5 ≤ k) : dowelref04_Digits.f k n = some ⟨(Lib.itoa n).toArray⟩ := by
  have h := digits_all ⟨n.toNat, by omega⟩
  have e : ((n.toNat : Nat) : Int) = n := by omega
  simp only [e] at h
  exact at_rounds (dowelref04_Digits.mono _) hk h
theorem itoa_len {n : Int} (h0 : 0 ≤ n) (h1 : n ≤ 255) : (⟨(Lib.itoa n).toArray⟩ : ByteArray).size ≤ 3 := by
  have h := itoa_small ⟨n.toNat, by omega⟩
  have e : ((n.toNat : Nat) : Int) = n := by omega
  simp only [e] at h
  simpa [ByteArray.size] using h
theorem itoa_f {n : Int} (h0 : 0 ≤ n) (h1 : n ≤ 255) : strconv_Itoa.f n = some ⟨(Lib.itoa n).toArray⟩ := by
  unfold strconv_Itoa.f
  rw [if_pos ⟨h0, h1⟩]
theorem qS_size {s : ByteArray} (h : s.size ≤ 65536) : (Q.qS s).size ≤ 262146 := by
  have := Q.qL_len s s.size
  show (Q.qL s s.size ++ [39]).toArray.size ≤ _
  simp only [List.size_toArray, List.length_append, List.length_cons, List.length_nil]
  omega
def T3 : ByteArray := ⟨#[125]⟩
theorem ba_assoc (a b c : ByteArray) : (a ++ b) ++ c = a ++ (b ++ c) := by
  apply ByteArray.ext
  simp
theorem text9 (k : Nat) (hk : 30 ≤ k) (a1 a2 : Int) (a3 : ByteArray) (a4 : Bool) (a5 a6 a7 a8 a9 a10 : Int) (h0 : 0 ≤ a9) (h1 : a9 ≤ 255) (h2 : a10 = -1 ∨ (a9 ≤ a10 ∧ a10 ≤ 255)) :
    ∃ t, lexis_text.f k 9 a1 a2 a3 a4 a5 a6 a7 a8 a9 a10 = some t ∧ dowelref04_spelled.f k 9 a1 a2 a3 a4 a5 a6 a7 a8 a9 a10 = some t := by
  have s1 := itoa_len h0 h1
  have f1 := itoa_f h0 h1
  have d1 := digits_f h0 h1 (k := k) (by omega)
  generalize (⟨(Lib.itoa a9).toArray⟩ : ByteArray) = D at s1 f1 d1
  have e1 : (⟨#[123]⟩ : ByteArray).size = 1 := rfl
  have e2 : (⟨#[44]⟩ : ByteArray).size = 1 := rfl
  have e3 : (⟨#[125]⟩ : ByteArray).size = 1 := rfl
  have e4 : (⟨#[44, 125]⟩ : ByteArray).size = 2 := rfl
  have e5 : (⟨#[44]⟩ : ByteArray) ++ (⟨#[125]⟩ : ByteArray) = ⟨#[44, 125]⟩ := by decide
  unfold lexis_text.f dowelref04_spelled.f
  simp only [show ¬ (9 : Int) = 1 by decide, show ¬ (9 : Int) = 16 by decide, show ¬ (9 : Int) = 17 by decide, show ¬ (9 : Int) = 0 by decide, show ¬ (9 : Int) = 2 by decide, show ¬ (9 : Int) = 15 by decide, show ¬ (9 : Int) = 14 by decide, if_true, if_false, f1, d1, Option.bind_some, ByteArray.size_append, e1, e2, e3, e4]
  have k1 : 1 + D.size ≤ 9223372036854775807 := by omega
  have k2 : 1 + D.size + 1 ≤ 9223372036854775807 := by omega
  have k3 : 1 + D.size + 2 ≤ 9223372036854775807 := by omega
  have k4 : 1 + D.size + 1 + 1 ≤ 9223372036854775807 := by omega
  by_cases c1 : a10 = -1
  · subst c1
    have n1 : ¬ (-1 : Int) = a9 := by omega
    simp only [k1, k2, k3, k4, n1, if_true, if_false]
    refine ⟨_, rfl, ?_⟩
    rw [ba_assoc _ (⟨#[44]⟩ : ByteArray), e5]
  · have h3 : a9 ≤ a10 ∧ a10 ≤ 255 := h2.resolve_left c1
    by_cases c2 : a10 = a9
    · have n2 : ¬ a10 > a9 := by omega
      simp only [k1, k2, k3, k4, c1, n2, if_false]
      rw [if_pos c2]
      exact ⟨_, rfl, rfl⟩
    · have s2 := itoa_len (n := a10) (by omega) h3.2
      have f2 := itoa_f (n := a10) (by omega) h3.2
      have d2 := digits_f (n := a10) (by omega) h3.2 (k := k) (by omega)
      generalize (⟨(Lib.itoa a10).toArray⟩ : ByteArray) = E at s2 f2 d2
      have k5 : 1 + E.size ≤ 9223372036854775807 := by omega
      have k6 : 1 + D.size + (1 + E.size) ≤ 9223372036854775807 := by omega
      have k7 : 1 + D.size + (1 + E.size) + 1 ≤ 9223372036854775807 := by omega
      have k8 : 1 + D.size + 1 + E.size ≤ 9223372036854775807 := by omega
      have k9 : 1 + D.size + 1 + E.size + 1 ≤ 9223372036854775807 := by omega
      have n2 : a10 > a9 := by omega
      simp only [f2, d2, Option.bind_some, ByteArray.size_append, e1, e2, e3, k1, k2, k3, k4, k5, k6, k7, k8, k9, c1, c2, n2, if_true, if_false]
      refine ⟨_, rfl, ?_⟩
      simp only [ba_assoc]
theorem plain_all (k : Nat) (hk : 30 ≤ k) (a0 a1 a2 : Int) (a3 : ByteArray) (a4 : Bool) (a5 a6 a7 a8 a9 a10 : Int) (h : a0 = 3 ∨ a0 = 4 ∨ a0 = 5 ∨ a0 = 6 ∨ a0 = 7 ∨ a0 = 8 ∨ a0 = 10 ∨ a0 = 11 ∨ a0 = 12 ∨ a0 = 13) :
    ∃ t, lexis_text.f k a0 a1 a2 a3 a4 a5 a6 a7 a8 a9 a10 = some t ∧ dowelref04_spelled.f k a0 a1 a2 a3 a4 a5 a6 a7 a8 a9 a10 = some t := by
  rcases h with h | h | h | h | h | h | h | h | h | h <;> subst h <;>
    exact ⟨_, rfl, at_rounds (dowelref04_spelled.mono _ _ _ _ _ _ _ _ _ _ _) hk (by kernel_rfl)⟩
theorem text_eq (k : Nat) (hk : 400 ≤ k) (a0 a1 a2 : Int) (a3 : ByteArray) (a4 : Bool) (c : Cls) (hc : c.ok) (a9 a10 : Int) (hs : a3.size ≤ 65536) (hF : Facts a0 a9 a10) :
    ∃ t, lexis_text.f k a0 a1 a2 a3 a4 c.c0 c.c1 c.c2 c.c3 a9 a10 = some t ∧ dowelref04_spelled.f k a0 a1 a2 a3 a4 c.c0 c.c1 c.c2 c.c3 a9 a10 = some t := by
  obtain ⟨h0, h1, h2⟩ := hF
  by_cases q : a0 = 3 ∨ a0 = 4 ∨ a0 = 5 ∨ a0 = 6 ∨ a0 = 7 ∨ a0 = 8 ∨ a0 = 10 ∨ a0 = 11 ∨ a0 = 12 ∨ a0 = 13
  · exact plain_all k (by omega) a0 a1 a2 a3 a4 _ _ _ _ a9 a10 q
  by_cases c9 : a0 = 9
  · subst c9
    have := h2 rfl
    exact text9 k (by omega) a1 a2 a3 a4 _ _ _ _ a9 a10 this.1 this.2.1 this.2.2
  have q2 : a0 = 0 ∨ a0 = 1 ∨ a0 = 2 ∨ a0 = 14 ∨ a0 = 15 ∨ a0 = 16 ∨ a0 = 17 := by omega
  rcases q2 with q2 | q2 | q2 | q2 | q2 | q2 | q2 <;> subst q2
  · exact ⟨_, rfl, rfl⟩
  · exact ⟨_, rfl, rfl⟩
  · exact ⟨_, rfl, rfl⟩
  · have hq := qS_size hs
    unfold lexis_text.f dowelref04_spelled.f lexis_quoted.f dowelref04_Quoted.f
    simp only [show ¬ (14 : Int) = 1 by decide, show ¬ (14 : Int) = 16 by decide, show ¬ (14 : Int) = 17 by decide, show ¬ (14 : Int) = 0 by decide, show ¬ (14 : Int) = 2 by decide, show ¬ (14 : Int) = 15 by decide, show ¬ (14 : Int) = 9 by decide, if_true, if_false, if_pos hs, Option.bind_some]
    have hk1 : (Q.qS a3).size + 1 ≤ 9223372036854775807 := by omega
    simp only [hk1, if_true]
    cases a4 <;> exact ⟨_, rfl, rfl⟩
  · unfold lexis_text.f dowelref04_spelled.f
    simp only [show ¬ (15 : Int) = 1 by decide, show ¬ (15 : Int) = 16 by decide, show ¬ (15 : Int) = 17 by decide, show ¬ (15 : Int) = 0 by decide, show ¬ (15 : Int) = 2 by decide, show ¬ (15 : Int) = 14 by decide, show ¬ (15 : Int) = 9 by decide, if_true, if_false, text_f hc (k := k) (by omega), textRef_f hc (k := k) (by omega), Option.bind_some]
    exact ⟨_, rfl, rfl⟩
  · unfold lexis_text.f dowelref04_spelled.f
    simp only [show ¬ (16 : Int) = 1 by decide, show ¬ (16 : Int) = 0 by decide, show ¬ (16 : Int) = 2 by decide, if_true, if_false]
    rw [if_pos (by omega)]
    exact ⟨_, rfl, rfl⟩
  · unfold lexis_text.f dowelref04_spelled.f
    simp only [show ¬ (17 : Int) = 1 by decide, show ¬ (17 : Int) = 16 by decide, show ¬ (17 : Int) = 0 by decide, show ¬ (17 : Int) = 2 by decide, if_true, if_false]
    rw [if_pos (by omega)]
    exact ⟨_, rfl, rfl⟩
theorem spell_eq (k : Nat) (a0 a1 a2 : Int) (a3 : ByteArray) (a4 : Bool) (c : Cls) (hc : c.ok) (a9 a10 : Int) (hs : a3.size ≤ bnd) (hk : a3.size + 400 ≤ k) :
    ∃ r, lexis_Spell.f k a0 a1 a2 a3 a4 c.c0 c.c1 c.c2 c.c3 a9 a10 = some r ∧ dowelref04_Spell.f k a0 a1 a2 a3 a4 c.c0 c.c1 c.c2 c.c3 a9 a10 = some r := by
  obtain ⟨b, hb, hF⟩ := right_some k a0 a1 a2 a3 a4 c.c0 c.c1 c.c2 c.c3 a9 a10 hs (by omega)
  have hb2 := right_eq k a0 a1 a2 a3 a4 c.c0 c.c1 c.c2 c.c3 a9 a10 hs (by omega)
  rw [hb] at hb2
  unfold lexis_Spell.f dowelref04_Spell.f
  rw [hb, ← hb2, Option.bind_some, Option.bind_some]
  cases b with
  | false => exact ⟨_, rfl, rfl⟩
  | true =>
    simp only [if_true]
    by_cases q : (a3.size : Int) > 65536
    · rw [if_pos q, if_pos q]; exact ⟨_, rfl, rfl⟩
    · rw [if_neg q, if_neg q]
      obtain ⟨t, h1, h2⟩ := text_eq k (by omega) a0 a1 a2 a3 a4 c hc a9 a10 (by omega) (hF rfl)
      rw [h1, h2]
      try simp only [Option.bind_some]
      split
      · exact ⟨_, rfl, rfl⟩
      · exact ⟨_, rfl, rfl⟩
theorem spells_f (k : Nat) (a0 a1 a2 : Int) (a3 : ByteArray) (a4 : Bool) (c : Cls) (hc : c.ok) (a9 a10 : Int) (hs : a3.size ≤ bnd) (hk : a3.size + 400 ≤ k) :
    dowellaw04_LexisSpells.f k a0 a1 a2 a3 a4 c.c0 c.c1 c.c2 c.c3 a9 a10 = some true := by
  obtain ⟨r, h1, h2⟩ := spell_eq k a0 a1 a2 a3 a4 c hc a9 a10 hs hk
  have h3 : lexis_Spell.f k 2 5 (-3) (⟨#[]⟩ : ByteArray) false 0 0 0 0 0 0 = some (⟨#[60, 45]⟩, 0) := at_rounds (lexis_Spell.mono _ _ _ _ _ _ _ _ _ _ _) (k := 10) (by omega) (by kernel_rfl)
  unfold dowellaw04_LexisSpells.f
  rw [h1, h2, h3]
  simp only [Option.bind_some, if_true]
  rw [if_pos (by decide +kernel)]
  rfl
end Go.Proofs.YtldjdcdoegjmoaaDoor.Pure
set_option linter.unusedVariables false
namespace Go.Proofs.YtldjdcdoegjmoaaDoor
open Go.RowKit
theorem lexisSpells_w (a : Tk) (w : World) (h : a.ok) (ht : TabOk w) : Calls Tryd.prog 3 #[a.val] w fun e w' => e = .returned (.bool true) ∧ Below w.heap.size w w' :=
  P.dowellaw04_LexisSpells.calls (a.a3.size + 400) a.a0 a.a1 a.a2 a.a3 a.a4 a.c.c0 a.c.c1 a.c.c2 a.c.c3 a.a9 a.a10 true w (Pure.spells_f _ _ _ _ _ _ _ h.1 _ _ h.2 (Nat.le_refl _)) ht
end Go.Proofs.YtldjdcdoegjmoaaDoor
