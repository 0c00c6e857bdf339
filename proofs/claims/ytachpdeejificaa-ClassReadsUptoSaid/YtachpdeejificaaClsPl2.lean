/- More plain facts on classes: bits put one by one. -/
import Derived.Test.YtachpdeejificaaClsPl
namespace Go.Proofs.Ytachpdeejificaa

theorem bits_put {c : Cls} (hc : c.ok) (k : Nat) : bits .or .u64 (c.word (k / 64) : Int) (IntKind.u64.wrap (2 ^ (k % 64))) = ((c.word (k / 64) ||| 2 ^ (k % 64) : Nat) : Int) := by
  have h : IntKind.u64.wrap ((2 : Int) ^ (k % 64)) = ((2 ^ (k % 64) : Nat) : Int) := by
    have h1 := Cls.two_lt k
    rw [IntKind.wrap_u64, show ((2 : Int) ^ (k % 64)) = ((2 ^ (k % 64) : Nat) : Int) by simp]
    generalize 2 ^ (k % 64) = m at h1 ⊢
    unfold w64 at h1
    omega
  rw [h]
  exact bits_or (Cls.word_lt hc _) (Cls.two_lt k)
theorem Cls.cells_put {c : Cls} {k : Nat} (hk : k < 256) : c.cells.setIfInBounds (k / 64) (.int .u64 ((c.word (k / 64) ||| 2 ^ (k % 64) : Nat) : Int)) = (c.put k).cells := by
  have h : k / 64 = 0 ∨ k / 64 = 1 ∨ k / 64 = 2 ∨ k / 64 = 3 := by omega
  unfold put cells
  rcases h with h | h | h | h <;> rw [h] <;> rfl
theorem Cls.put_step (f : Nat → Bool) (k : Nat) (hk : k < 256) (hf : f k = true) : (ofFn fun j => decide (j < k) && f j).put k = ofFn fun j => decide (j < k + 1) && f j := by
  rw [put_ofFn _ _ hk]
  refine ofFn_congr fun i _ => ?_
  by_cases e : i = k
  · subst e; simp [hf]
  · rw [show decide (i < k) = decide (i < k + 1) by by_cases q : i < k <;> simp [q] <;> omega]
    simp [e]
theorem Cls.skip_step (f : Nat → Bool) (k : Nat) (hf : f k = false) : (ofFn fun j => decide (j < k) && f j) = ofFn fun j => decide (j < k + 1) && f j := by
  refine ofFn_congr fun i _ => ?_
  by_cases e : i = k
  · subst e; simp [hf]
  · rw [show decide (i < k) = decide (i < k + 1) by by_cases q : i < k <;> simp [q] <;> omega]
theorem setCells_turn {f : Nat → Bool} {i : Nat} {g : Nat → Bool} {v : Bool} (h : g i = v) : (setCells (fun j => if j < i then g j else f j)).setIfInBounds i (.bool v) = setCells (fun j => if j < i + 1 then g j else f j) := by
  rw [setCells_set]
  refine setCells_congr fun j _ => ?_
  by_cases e : j = i
  · subst e; simp [h]
  · rw [if_neg e]
    by_cases q : j < i
    · rw [if_pos q, if_pos (by omega)]
    · rw [if_neg q, if_neg (by omega)]
end Go.Proofs.Ytachpdeejificaa
