/- Plain facts on classes: four words of 64 bits as a set of bytes. No program in sight. -/
import Derived.Laws.Bits64
import Derived.Laws.Bits64b
import Derived.Laws.BitsAllLaws
namespace Go.Proofs.Ytachpdeejificaa

/-- Four words. -/
structure Cls where
  c0 : Nat
  c1 : Nat
  c2 : Nat
  c3 : Nat

def w64 : Nat := 18446744073709551616
theorem w64_pow : w64 = 2 ^ 64 := rfl

namespace Cls
def word (c : Cls) (i : Nat) : Nat := if i = 0 then c.c0 else if i = 1 then c.c1 else if i = 2 then c.c2 else c.c3
def ok (c : Cls) : Prop := c.c0 < w64 ∧ c.c1 < w64 ∧ c.c2 < w64 ∧ c.c3 < w64
def mem (c : Cls) (b : Nat) : Bool := (c.word (b / 64)).testBit (b % 64)
def val (c : Cls) : Value := .agg #[.int .u64 (c.c0 : Int), .int .u64 (c.c1 : Int), .int .u64 (c.c2 : Int), .int .u64 (c.c3 : Int)]
def cells (c : Cls) : Array Value := #[.int .u64 (c.c0 : Int), .int .u64 (c.c1 : Int), .int .u64 (c.c2 : Int), .int .u64 (c.c3 : Int)]

theorem word_lt {c : Cls} (h : c.ok) (i : Nat) : c.word i < 2 ^ 64 := by
  unfold word
  have h' := h
  unfold ok at h'
  rw [w64_pow] at h'
  split
  · exact h'.1
  · split
    · exact h'.2.1
    · split
      · exact h'.2.2.1
      · exact h'.2.2.2

theorem ext_words {a b : Cls} (h0 : a.c0 = b.c0) (h1 : a.c1 = b.c1) (h2 : a.c2 = b.c2) (h3 : a.c3 = b.c3) : a = b := by
  cases a; cases b; simp_all

theorem ext_mem {a b : Cls} (ha : a.ok) (hb : b.ok) (h : ∀ i, i < 256 → a.mem i = b.mem i) : a = b := by
  have key : ∀ k, k < 4 → a.word k = b.word k := by
    intro k hk
    apply Nat.eq_of_testBit_eq
    intro i
    by_cases hi : i < 64
    · have := h (64 * k + i) (by omega)
      unfold mem at this
      rw [show (64 * k + i) / 64 = k by omega, show (64 * k + i) % 64 = i by omega] at this
      exact this
    · have h1 : a.word k < 2 ^ i := Nat.lt_of_lt_of_le (word_lt ha k) (Nat.pow_le_pow_right (by omega) (by omega))
      have h2 : b.word k < 2 ^ i := Nat.lt_of_lt_of_le (word_lt hb k) (Nat.pow_le_pow_right (by omega) (by omega))
      rw [Nat.testBit_lt_two_pow h1, Nat.testBit_lt_two_pow h2]
  exact ext_words (key 0 (by omega)) (key 1 (by omega)) (key 2 (by omega)) (key 3 (by omega))

def union (a b : Cls) : Cls := ⟨a.c0 ||| b.c0, a.c1 ||| b.c1, a.c2 ||| b.c2, a.c3 ||| b.c3⟩
def meet (a b : Cls) : Cls := ⟨a.c0 &&& b.c0, a.c1 &&& b.c1, a.c2 &&& b.c2, a.c3 &&& b.c3⟩
def no (a : Nat) : Nat := w64 - 1 - a
def not (a : Cls) : Cls := ⟨no a.c0, no a.c1, no a.c2, no a.c3⟩
def minus (a b : Cls) : Cls := a.meet b.not

theorem no_lt (a : Nat) : no a < w64 := by unfold no w64; omega
theorem testBit_no (a i : Nat) (ha : a < w64) (hi : i < 64) : (no a).testBit i = !a.testBit i := by
  have h : no a = 2 ^ 64 - (a + 1) := by unfold no w64; omega
  rw [h, Nat.testBit_two_pow_sub_succ (by rw [← w64_pow]; exact ha)]
  simp [hi]

theorem or_lt {a b : Nat} (ha : a < w64) (hb : b < w64) : a ||| b < w64 := by rw [w64_pow] at *; exact Nat.or_lt_two_pow ha hb
theorem and_lt {a b : Nat} (ha : a < w64) : a &&& b < w64 := Nat.lt_of_le_of_lt Nat.and_le_left ha

theorem ok_union {a b : Cls} (ha : a.ok) (hb : b.ok) : (a.union b).ok := ⟨or_lt ha.1 hb.1, or_lt ha.2.1 hb.2.1, or_lt ha.2.2.1 hb.2.2.1, or_lt ha.2.2.2 hb.2.2.2⟩
theorem ok_meet {a b : Cls} (ha : a.ok) : (a.meet b).ok := ⟨and_lt ha.1, and_lt ha.2.1, and_lt ha.2.2.1, and_lt ha.2.2.2⟩
theorem ok_not (a : Cls) : a.not.ok := ⟨no_lt _, no_lt _, no_lt _, no_lt _⟩
theorem ok_minus {a b : Cls} (ha : a.ok) : (a.minus b).ok := ok_meet ha

theorem word_union (a b : Cls) (k : Nat) : (a.union b).word k = a.word k ||| b.word k := by unfold word union; split <;> (try split) <;> (try split) <;> rfl
theorem word_meet (a b : Cls) (k : Nat) : (a.meet b).word k = a.word k &&& b.word k := by unfold word meet; split <;> (try split) <;> (try split) <;> rfl
theorem word_not (a : Cls) (k : Nat) : (a.not).word k = no (a.word k) := by unfold word not; split <;> (try split) <;> (try split) <;> rfl
theorem mem_union (a b : Cls) (i : Nat) : (a.union b).mem i = (a.mem i || b.mem i) := by unfold mem; rw [word_union, Nat.testBit_or]
theorem mem_meet (a b : Cls) (i : Nat) : (a.meet b).mem i = (a.mem i && b.mem i) := by unfold mem; rw [word_meet, Nat.testBit_and]
theorem mem_not {a : Cls} (ha : a.ok) (i : Nat) : a.not.mem i = !a.mem i := by
  unfold mem; rw [word_not, testBit_no _ _ (by rw [w64_pow]; exact word_lt ha _) (Nat.mod_lt _ (by omega))]
theorem mem_minus {a b : Cls} (hb : b.ok) (i : Nat) : (a.minus b).mem i = (a.mem i && !b.mem i) := by unfold minus; rw [mem_meet, mem_not hb]

/-- The class of a predicate. -/
def wordOf (f : Nat → Bool) (base : Nat) : Nat → Nat
  | 0 => 0
  | n + 1 => wordOf f base n ||| (if f (base + n) then 2 ^ n else 0)
theorem testBit_wordOf (f : Nat → Bool) (base : Nat) : ∀ (n i : Nat), (wordOf f base n).testBit i = (decide (i < n) && f (base + i))
  | 0, i => by simp [wordOf]
  | n + 1, i => by
    rw [wordOf, Nat.testBit_or, testBit_wordOf f base n i]
    by_cases h : i = n
    · subst h
      by_cases hf : f (base + i) <;> simp [hf, Nat.testBit_two_pow_self]
    · by_cases hf : f (base + n)
      · rw [if_pos hf, Nat.testBit_two_pow_of_ne (fun e => h e.symm)]
        by_cases hi : i < n
        · simp [hi, Nat.lt_succ_of_lt hi]
        · simp [hi, show ¬ i < n + 1 by omega]
      · rw [if_neg hf]
        by_cases hi : i < n
        · simp [hi, Nat.lt_succ_of_lt hi]
        · simp [hi, show ¬ i < n + 1 by omega]
theorem wordOf_lt (f : Nat → Bool) (base : Nat) : ∀ n, wordOf f base n < 2 ^ n
  | 0 => by simp [wordOf]
  | n + 1 => by
    rw [wordOf]
    have h1 : wordOf f base n < 2 ^ (n + 1) := Nat.lt_of_lt_of_le (wordOf_lt f base n) (Nat.pow_le_pow_right (by omega) (by omega))
    refine Nat.or_lt_two_pow h1 ?_
    split
    · exact Nat.pow_lt_pow_right (by omega) (by omega)
    · exact Nat.two_pow_pos _
def ofFn (f : Nat → Bool) : Cls := ⟨wordOf f 0 64, wordOf f 64 64, wordOf f 128 64, wordOf f 192 64⟩
theorem ok_ofFn (f : Nat → Bool) : (ofFn f).ok := ⟨wordOf_lt f 0 64, wordOf_lt f 64 64, wordOf_lt f 128 64, wordOf_lt f 192 64⟩
theorem word_ofFn (f : Nat → Bool) (k : Nat) (hk : k < 4) : (ofFn f).word k = wordOf f (64 * k) 64 := by
  have h : k = 0 ∨ k = 1 ∨ k = 2 ∨ k = 3 := by omega
  rcases h with rfl | rfl | rfl | rfl <;> rfl
theorem mem_ofFn (f : Nat → Bool) (i : Nat) (hi : i < 256) : (ofFn f).mem i = f i := by
  unfold mem
  rw [word_ofFn f _ (by omega), testBit_wordOf, show 64 * (i / 64) + i % 64 = i by omega]
  simp [Nat.mod_lt]
theorem ofFn_mem {c : Cls} (h : c.ok) : ofFn c.mem = c := ext_mem (ok_ofFn _) h fun i hi => mem_ofFn _ i hi
theorem ofFn_congr {f g : Nat → Bool} (h : ∀ i, i < 256 → f i = g i) : ofFn f = ofFn g :=
  ext_mem (ok_ofFn _) (ok_ofFn _) fun i hi => by rw [mem_ofFn f i hi, mem_ofFn g i hi, h i hi]
theorem eq_ofFn {c : Cls} (h : c.ok) {f : Nat → Bool} (hf : ∀ i, i < 256 → c.mem i = f i) : c = ofFn f :=
  ext_mem h (ok_ofFn _) fun i hi => by rw [mem_ofFn f i hi, hf i hi]

/-- One bit more. -/
def put (c : Cls) (n : Nat) : Cls :=
  if n / 64 = 0 then { c with c0 := c.c0 ||| 2 ^ (n % 64) } else if n / 64 = 1 then { c with c1 := c.c1 ||| 2 ^ (n % 64) }
  else if n / 64 = 2 then { c with c2 := c.c2 ||| 2 ^ (n % 64) } else { c with c3 := c.c3 ||| 2 ^ (n % 64) }
theorem two_lt (n : Nat) : 2 ^ (n % 64) < w64 := by rw [w64_pow]; exact Nat.pow_lt_pow_right (by omega) (Nat.mod_lt _ (by omega))
theorem ok_put {c : Cls} (h : c.ok) (n : Nat) : (c.put n).ok := by
  obtain ⟨h0, h1, h2, h3⟩ := h
  unfold put
  split
  · exact ⟨or_lt h0 (two_lt n), h1, h2, h3⟩
  · split
    · exact ⟨h0, or_lt h1 (two_lt n), h2, h3⟩
    · split
      · exact ⟨h0, h1, or_lt h2 (two_lt n), h3⟩
      · exact ⟨h0, h1, h2, or_lt h3 (two_lt n)⟩
theorem word_put (c : Cls) (n k : Nat) (hn : n < 256) (hk : k < 4) : (c.put n).word k = if n / 64 = k then c.word k ||| 2 ^ (n % 64) else c.word k := by
  have h : k = 0 ∨ k = 1 ∨ k = 2 ∨ k = 3 := by omega
  have h' : n / 64 = 0 ∨ n / 64 = 1 ∨ n / 64 = 2 ∨ n / 64 = 3 := by omega
  unfold put
  rcases h' with h' | h' | h' | h' <;> rw [h'] <;> rcases h with rfl | rfl | rfl | rfl <;> simp [word]
theorem mem_put (c : Cls) (n i : Nat) (hn : n < 256) (hi : i < 256) : (c.put n).mem i = (c.mem i || decide (i = n)) := by
  unfold mem
  rw [word_put c n _ hn (by omega)]
  split
  · rename_i h
    rw [Nat.testBit_or]
    by_cases e : i = n
    · subst e
      simp [Nat.testBit_two_pow_self]
    · rw [Nat.testBit_two_pow_of_ne (by omega)]
      simp [e]
  · rename_i h
    have e : ¬ i = n := fun e => h (by rw [e])
    simp [e]
theorem put_ofFn (f : Nat → Bool) (n : Nat) (hn : n < 256) : (ofFn f).put n = ofFn (fun i => f i || decide (i = n)) :=
  eq_ofFn (ok_put (ok_ofFn f) n) fun i hi => by rw [mem_put _ n i hn hi, mem_ofFn f i hi]

/-- No byte. -/
def none : Cls := ⟨0, 0, 0, 0⟩
theorem ok_none : none.ok := by unfold ok none w64; simp
theorem mem_none (i : Nat) : none.mem i = false := by unfold mem none word; simp
theorem none_ofFn : none = ofFn (fun _ => false) := eq_ofFn ok_none fun i _ => mem_none i

end Cls

/-- 256 bools, as cells. -/
def setCells (f : Nat → Bool) : Array Value := ((List.range 256).map fun i => Value.bool (f i)).toArray
def setVal (f : Nat → Bool) : Value := .agg (setCells f)
theorem setCells_size (f : Nat → Bool) : (setCells f).size = 256 := by simp [setCells]
theorem setCells_at (f : Nat → Bool) (i : Nat) (hi : i < 256) : (setCells f)[i]? = some (.bool (f i)) := by simp [setCells, hi]
theorem setCells_one (f : Nat → Bool) : (setCells f).all (·.oneCell') = true := by simp [setCells, Value.oneCell']
theorem setCells_congr {f g : Nat → Bool} (h : ∀ i, i < 256 → f i = g i) : setCells f = setCells g := by
  unfold setCells
  rw [List.map_congr_left (fun i hi => by rw [h i (by simpa using hi)])]
theorem setCells_set (f : Nat → Bool) (n : Nat) (v : Bool) : (setCells f).setIfInBounds n (.bool v) = setCells (fun i => if i = n then v else f i) := by
  apply Array.ext_getElem?
  intro i
  rw [Array.getElem?_setIfInBounds]
  by_cases hi : i < 256
  · rw [setCells_at _ i hi, setCells_at _ i hi, setCells_size]
    by_cases e : n = i
    · subst e; simp [hi]
    · rw [if_neg e, if_neg (fun h => e h.symm)]
  · have h1 : (setCells f)[i]? = Option.none := Array.getElem?_eq_none (by rw [setCells_size]; omega)
    have h2 : (setCells (fun i => if i = n then v else f i))[i]? = Option.none := Array.getElem?_eq_none (by rw [setCells_size]; omega)
    rw [h1, h2, setCells_size]
    by_cases e : n = i
    · subst e; simp [hi]
    · rw [if_neg e]
theorem setCells_false : setCells (fun _ => false) = Array.replicate 256 (.bool false) := by
  apply Array.ext_getElem?
  intro i
  by_cases hi : i < 256
  · rw [setCells_at _ i hi, Array.getElem?_replicate, if_pos hi]
  · rw [Array.getElem?_eq_none (by rw [setCells_size]; omega), Array.getElem?_replicate, if_neg hi]

theorem Cls.list_at (a : Cls) (k : Nat) (hk : k < 4) : [Value.int .u64 (a.c0 : Int), .int .u64 (a.c1 : Int), .int .u64 (a.c2 : Int), .int .u64 (a.c3 : Int)][k]? = some (.int .u64 (a.word k : Int)) := by
  have h : k = 0 ∨ k = 1 ∨ k = 2 ∨ k = 3 := by omega
  rcases h with rfl | rfl | rfl | rfl <;> rfl
theorem Cls.word_le {a : Cls} (h : a.ok) (k : Nat) : (a.word k : Int) < 18446744073709551616 := by
  have := Cls.word_lt h k
  omega

/-! ### The words' bits, as the walk spells them -/
theorem w64_le {a : Nat} (h : a < w64) : a < 18446744073709551616 := h
theorem bits_or {a b : Nat} (ha : a < w64) (hb : b < w64) : bits .or .u64 (a : Int) (b : Int) = ((a ||| b : Nat) : Int) := bits_or_u64_nat a b ha hb
theorem bits_and {a b : Nat} (ha : a < w64) (hb : b < w64) : bits .and .u64 (a : Int) (b : Int) = ((a &&& b : Nat) : Int) := bits_and_u64_nat a b ha hb
theorem bits_minus {a b : Nat} (ha : a < w64) (hb : b < w64) : bits .andNot .u64 (a : Int) (b : Int) = ((a &&& Cls.no b : Nat) : Int) := u64_andNot_nat a b ha hb
theorem xor_all {a : Nat} (ha : a < w64) : 18446744073709551615 ^^^ a = Cls.no a := by
  have hn := Cls.no_lt a
  apply Nat.eq_of_testBit_eq
  intro i
  rw [Nat.testBit_xor]
  by_cases hi : i < 64
  · rw [Cls.testBit_no a i ha hi, show (18446744073709551615 : Nat) = 2 ^ 64 - 1 from rfl, Nat.testBit_two_pow_sub_one]
    simp [hi]
  · have hp : w64 ≤ 2 ^ i := by rw [w64_pow]; exact Nat.pow_le_pow_right (by omega) (by omega)
    have h1 : a < 2 ^ i := Nat.lt_of_lt_of_le ha hp
    have h2 : Cls.no a < 2 ^ i := Nat.lt_of_lt_of_le hn hp
    rw [Nat.testBit_lt_two_pow h1, Nat.testBit_lt_two_pow h2, show (18446744073709551615 : Nat) = 2 ^ 64 - 1 from rfl, Nat.testBit_two_pow_sub_one]
    simp [hi]
theorem bits_not {a : Nat} (ha : a < w64) : bits .xor .u64 IntKind.u64.max (a : Int) = ((Cls.no a : Nat) : Int) := by
  rw [← xor_all ha]
  exact bits_xor_u64_nat 18446744073709551615 a (by omega) ha
theorem bit_cast (n k : Nat) : ((n : Int) / 2 ^ k) = ((n / 2 ^ k : Nat) : Int) := by simp
theorem bits_bit {n : Nat} (hn : n < w64) (k : Nat) : bits .and .u64 ((n : Int) / 2 ^ k) 1 = if n.testBit k then 1 else 0 := by
  rw [bit_cast, show (1 : Int) = ((1 : Nat) : Int) from rfl, bits_and (Nat.lt_of_le_of_lt (Nat.div_le_self _ _) hn) (by unfold w64; omega), Nat.and_one_is_mod, Nat.testBit_eq_decide_div_mod_eq]
  have := Nat.mod_lt (n / 2 ^ k) (show 2 > 0 by omega)
  by_cases h : n / 2 ^ k % 2 = 1
  · simp [h]
  · have h0 : n / 2 ^ k % 2 = 0 := by omega
    simp [h0]
theorem bit_ne {n : Nat} (hn : n < w64) (k : Nat) : (bits .and .u64 ((n : Int) / 2 ^ k) 1 != 0) = n.testBit k := by
  rw [bits_bit hn]; cases n.testBit k <;> rfl
theorem bit_eq {n : Nat} (hn : n < w64) (k : Nat) : (bits .and .u64 ((n : Int) / 2 ^ k) 1 == 1) = n.testBit k := by
  rw [bits_bit hn]; cases n.testBit k <;> rfl

/-! ### Fold -/
def foldG (c : Nat) : Nat := (c / 2 &&& 67108863) ||| (c / 8589934592 &&& 67108863)
def foldWord (c : Nat) : Nat := c ||| (foldG c * 2 % w64 ||| foldG c * 8589934592 % w64)
def Cls.fold (a : Cls) : Cls := { a with c1 := foldWord a.c1 }
theorem mod_lt_w (n : Nat) : n % w64 < w64 := Nat.mod_lt _ (by unfold w64; omega)
theorem Cls.ok_fold {a : Cls} (h : a.ok) : a.fold.ok := ⟨h.1, or_lt h.2.1 (or_lt (mod_lt_w _) (mod_lt_w _)), h.2.2.1, h.2.2.2⟩
theorem testBit_foldG (c i : Nat) : (foldG c).testBit i = (decide (i < 26) && (c.testBit (1 + i) || c.testBit (33 + i))) := by
  unfold foldG
  rw [Nat.testBit_or, Nat.testBit_and, Nat.testBit_and, show (67108863 : Nat) = 2 ^ 26 - 1 from rfl, Nat.testBit_two_pow_sub_one, show c / 2 = c / 2 ^ 1 from rfl, show c / 8589934592 = c / 2 ^ 33 from rfl, Nat.testBit_div_two_pow, Nat.testBit_div_two_pow]
  by_cases h : i < 26 <;> simp [h, Nat.add_comm]
theorem testBit_shl (n k i : Nat) (hi : i < 64) : (n * 2 ^ k % w64).testBit i = (decide (k ≤ i) && n.testBit (i - k)) := by
  rw [w64_pow, Nat.testBit_mod_two_pow, Nat.mul_comm, Nat.testBit_two_pow_mul]
  simp [hi]
theorem testBit_foldWord (c i : Nat) (hi : i < 64) : (foldWord c).testBit i =
    (c.testBit i || ((decide (1 ≤ i) && (decide (i - 1 < 26) && (c.testBit (1 + (i - 1)) || c.testBit (33 + (i - 1))))) || (decide (33 ≤ i) && (decide (i - 33 < 26) && (c.testBit (1 + (i - 33)) || c.testBit (33 + (i - 33))))))) := by
  unfold foldWord
  rw [Nat.testBit_or, Nat.testBit_or, show foldG c * 2 = foldG c * 2 ^ 1 from rfl, show foldG c * 8589934592 = foldG c * 2 ^ 33 from rfl, testBit_shl _ _ _ hi, testBit_shl _ _ _ hi, testBit_foldG, testBit_foldG]
/-- The two of a kind. -/
def other (i : Nat) : Nat := if 65 ≤ i ∧ i ≤ 90 then i + 32 else if 97 ≤ i ∧ i ≤ 122 then i - 32 else i
theorem Cls.mem_fold (a : Cls) (i : Nat) : a.fold.mem i = (a.mem i || a.mem (other i)) := by
  by_cases h1 : i / 64 = 1
  · have e1 : a.fold.mem i = (foldWord a.c1).testBit (i % 64) := by unfold mem; rw [h1]; rfl
    have e2 : ∀ j, j / 64 = 1 → a.mem j = a.c1.testBit (j % 64) := fun j hj => by unfold mem; rw [hj]; rfl
    have ho : other i / 64 = 1 := by unfold other; split <;> (try split) <;> omega
    rw [e1, e2 i h1, e2 _ ho, testBit_foldWord _ _ (Nat.mod_lt _ (by omega))]
    obtain ⟨j, hj, rfl⟩ : ∃ j, j < 64 ∧ i = 64 + j := ⟨i - 64, by omega, by omega⟩
    have em : (64 + j) % 64 = j := by omega
    rw [em]
    unfold other
    by_cases ha : 65 ≤ 64 + j ∧ 64 + j ≤ 90
    · rw [if_pos ha, show (64 + j + 32) % 64 = j + 32 by omega, show 1 + (j - 1) = j by omega, show 33 + (j - 1) = j + 32 by omega]
      simp [show 1 ≤ j by omega, show j - 1 < 26 by omega, show ¬ 33 ≤ j by omega]
    · rw [if_neg ha]
      by_cases hb : 97 ≤ 64 + j ∧ 64 + j ≤ 122
      · rw [if_pos hb, show (64 + j - 32) % 64 = j - 32 by omega, show 1 + (j - 33) = j - 32 by omega, show 33 + (j - 33) = j by omega]
        simp [show 33 ≤ j by omega, show j - 33 < 26 by omega, show ¬ j - 1 < 26 by omega]
        cases a.c1.testBit j <;> simp
      · rw [if_neg hb, em]
        have h2 : (decide (1 ≤ j) && decide (j - 1 < 26)) = false := by
          by_cases q : 1 ≤ j
          · have : ¬ j - 1 < 26 := by omega
            simp [this]
          · simp [q]
        have h3 : (decide (33 ≤ j) && decide (j - 33 < 26)) = false := by
          by_cases q : 33 ≤ j
          · have : ¬ j - 33 < 26 := by omega
            simp [this]
          · simp [q]
        rw [← Bool.and_assoc, ← Bool.and_assoc, h2, h3]
        simp
  · have ho : other i = i := by unfold other; rw [if_neg (by omega), if_neg (by omega)]
    have e1 : a.fold.mem i = a.mem i := by
      unfold mem word fold
      by_cases h0 : i / 64 = 0
      · simp [h0]
      · simp [h0, h1]
    rw [e1, ho, Bool.or_self]

theorem Cls.cells_at (a : Cls) (k : Nat) (hk : k < 4) : a.cells[k]? = some (.int .u64 (a.word k : Int)) := by
  have h := a.list_at k hk
  simpa [Cls.cells] using h
theorem Cls.cells_size (a : Cls) : a.cells.size = 4 := rfl
theorem Cls.cells_one (a : Cls) : a.cells.all (·.oneCell') = true := by simp [Cls.cells, Value.oneCell']
theorem mem_bit {a : Cls} (ha : a.ok) (i : Nat) : (bits .and .u64 ((a.word (i / 64) : Int) / 2 ^ (i % 64)) 1 == 1) = a.mem i := bit_eq (Cls.word_lt ha _) _
theorem setCells_step {f : Nat → Bool} {i : Nat} {v : Bool} (h : f i = v) : (setCells (fun j => decide (j < i) && f j)).setIfInBounds i (.bool v) = setCells (fun j => decide (j < i + 1) && f j) := by
  rw [setCells_set]
  refine setCells_congr fun j _ => ?_
  by_cases e : j = i
  · subst e; simp [h]
  · rw [if_neg e]
    have : decide (j < i) = decide (j < i + 1) := by by_cases q : j < i <;> simp [q] <;> omega
    rw [this]
theorem setCells_zero (f : Nat → Bool) : setCells (fun j => decide (j < 0) && f j) = setCells fun _ => false := setCells_congr fun i _ => by simp
theorem setCells_full (f : Nat → Bool) : setCells (fun j => decide (j < 256) && f j) = setCells f := setCells_congr fun i hi => by simp [hi]
end Go.Proofs.Ytachpdeejificaa
