import Derived.BigQuiet
import Derived.Deep.LoopGhost
import Derived.Deep.QuietTactic
import Derived.Deep.WholeRow
import Derived.KernelRfl
import Derived.Laws.AppendOwn
import Derived.Laws.Bits64
import Derived.Laws.Bits64b
import Derived.Laws.BitsAllLaws
import Derived.Laws.IdiomArrays
import Derived.Laws.ResultCell
import Derived.Lib.BufferOwn
import Derived.Lib.Hide
import Derived.Maps.AppendAt
import Derived.OwnWalk
import Derived.ProofKit
import Derived.Test.YtflkgoggnomehaaProg
import Derived.Test.YtflkgoggnomehaaRows
import Derived.WalkKit
import Derived.WalkLawsBesides
import Derived.WalkSpells
import Derived.Test.YtflkgoggnomehaaZ2
import Derived.Test.YtflkgoggnomehaaZ3
namespace Go.Proofs.Ytflkgoggnomehaa
/-- Four words. -/
structure Cls where
  c0 : Nat
  c1 : Nat
  c2 : Nat
  c3 : Nat
def w64 : Nat := 18446744073709551616
theorem w64_pow : w64 = 2 ^ 64 := rfl
namespace Cls
def word (c : Cls) (i : Nat) : Nat := if i = 0 then c.c0 else if i = 1 then c.c1 else if i = 2 then c.c2 else c.c3
def ok (c : Cls) : Prop := c.c0 < w64 ∧ c.c1 < w64 ∧ c.c2 < w64 ∧ c.c3 < w64
def mem (c : Cls) (b : Nat) : Bool := (c.word (b / 64)).testBit (b % 64)
def val (c : Cls) : Value := .agg #[.int .u64 (c.c0 : Int), .int .u64 (c.c1 : Int), .int .u64 (c.c2 : Int), .int .u64 (c.c3 : Int)]
def cells (c : Cls) : Array Value := #[.int .u64 (c.c0 : Int), .int .u64 (c.c1 : Int), .int .u64 (c.c2 : Int), .int .u64 (c.c3 : Int)]
theorem word_lt {c : Cls} (h : c.ok) (i : Nat) : c.word i < 2 ^ 64 := by
  unfold word
  have h' := h
  unfold ok at h'
  rw [w64_pow] at h'
  split
  · exact h'.1
  · split
    · exact h'.2.1
    · split
      · exact h'.2.2.1
      · exact h'.2.2.2
theorem ext_words {a b : Cls} (h0 : a.c0 = b.c0) (h1 : a.c1 = b.c1) (h2 : a.c2 = b.c2) (h3 : a.c3 = b.c3) : a = b := by
  cases a; cases b; simp_all
theorem ext_mem {a b : Cls} (ha : a.ok) (hb : b.ok) (h : ∀ i, i < 256 → a.mem i = b.mem i) : a = b := by
  have key : ∀ k, k < 4 → a.word k = b.word k := by
    intro k hk
    apply Nat.eq_of_testBit_eq
    intro i
    by_cases hi : i < 64
    · have := h (64 * k + i) (by omega)
      unfold mem at this
      rw [show (64 * k + i) / 64 = k by omega, show (64 * k + i) % 64 = i by omega] at this
      exact this
    · have h1 : a.word k < 2 ^ i := Nat.lt_of_lt_of_le (word_lt ha k) (Nat.pow_le_pow_right (by omega) (by omega))
      have h2 : b.word k < 2 ^ i := Nat.lt_of_lt_of_le (word_lt hb k) (Nat.pow_le_pow_right (by omega) (by omega))
      rw [Nat.testBit_lt_two_pow h1, Nat.testBit_lt_two_pow h2]
  exact ext_words (key 0 (by omega)) (key 1 (by omega)) (key 2 (by omega)) (key 3 (by omega))
def no (a : Nat) : Nat := w64 - 1 - a
def not (a : Cls) : Cls := ⟨no a.c0, no a.c1, no a.c2, no a.c3⟩
theorem no_lt (a : Nat) : no a < w64 := by unfold no w64; omega
theorem testBit_no (a i : Nat) (ha : a < w64) (hi : i < 64) : (no a).testBit i = !a.testBit i := by
  have h : no a = 2 ^ 64 - (a + 1) := by unfold no w64; omega
  rw [h, Nat.testBit_two_pow_sub_succ (by rw [← w64_pow]; exact ha)]
  simp [hi]
theorem or_lt {a b : Nat} (ha : a < w64) (hb : b < w64) : a ||| b < w64 := by rw [w64_pow] at *; exact Nat.or_lt_two_pow ha hb
theorem ok_not (a : Cls) : a.not.ok := ⟨no_lt _, no_lt _, no_lt _, no_lt _⟩
theorem word_not (a : Cls) (k : Nat) : (a.not).word k = no (a.word k) := by unfold word not; split <;> (try split) <;> (try split) <;> rfl
theorem mem_not {a : Cls} (ha : a.ok) (i : Nat) : a.not.mem i = !a.mem i := by
  unfold mem; rw [word_not, testBit_no _ _ (by rw [w64_pow]; exact word_lt ha _) (Nat.mod_lt _ (by omega))]
/-- The class of a predicate. -/
def wordOf (f : Nat → Bool) (base : Nat) : Nat → Nat
  | 0 => 0
  | n + 1 => wordOf f base n ||| (if f (base + n) then 2 ^ n else 0)
theorem testBit_wordOf (f : Nat → Bool) (base : Nat) : ∀ (n i : Nat), (wordOf f base n).testBit i = (decide (i < n) && f (base + i))
  | 0, i => by simp [wordOf]
  | n + 1, i => by
    rw [wordOf, Nat.testBit_or, testBit_wordOf f base n i]
    by_cases h : i = n
    · subst h
      by_cases hf : f (base + i) <;> simp [hf, Nat.testBit_two_pow_self]
    · by_cases hf : f (base + n)
      · rw [if_pos hf, Nat.testBit_two_pow_of_ne (fun e => h e.symm)]
        by_cases hi : i < n
        · simp [hi, Nat.lt_succ_of_lt hi]
        · simp [hi, show ¬ i < n + 1 by omega]
      · rw [if_neg hf]
        by_cases hi : i < n
        · simp [hi, Nat.lt_succ_of_lt hi]
        · simp [hi, show ¬ i < n + 1 by omega]
theorem wordOf_lt (f : Nat → Bool) (base : Nat) : ∀ n, wordOf f base n < 2 ^ n
  | 0 => by simp [wordOf]
  | n + 1 => by
    rw [wordOf]
    have h1 : wordOf f base n < 2 ^ (n + 1) := Nat.lt_of_lt_of_le (wordOf_lt f base n) (Nat.pow_le_pow_right (by omega) (by omega))
    refine Nat.or_lt_two_pow h1 ?_
    split
    · exact Nat.pow_lt_pow_right (by omega) (by omega)
    · exact Nat.two_pow_pos _
def ofFn (f : Nat → Bool) : Cls := ⟨wordOf f 0 64, wordOf f 64 64, wordOf f 128 64, wordOf f 192 64⟩
theorem ok_ofFn (f : Nat → Bool) : (ofFn f).ok := ⟨wordOf_lt f 0 64, wordOf_lt f 64 64, wordOf_lt f 128 64, wordOf_lt f 192 64⟩
theorem word_ofFn (f : Nat → Bool) (k : Nat) (hk : k < 4) : (ofFn f).word k = wordOf f (64 * k) 64 := by
  have h : k = 0 ∨ k = 1 ∨ k = 2 ∨ k = 3 := by omega
  rcases h with rfl | rfl | rfl | rfl <;> rfl
theorem mem_ofFn (f : Nat → Bool) (i : Nat) (hi : i < 256) : (ofFn f).mem i = f i := by
  unfold mem
  rw [word_ofFn f _ (by omega), testBit_wordOf, show 64 * (i / 64) + i % 64 = i by omega]
  simp [Nat.mod_lt]
theorem ofFn_congr {f g : Nat → Bool} (h : ∀ i, i < 256 → f i = g i) : ofFn f = ofFn g :=
  ext_mem (ok_ofFn _) (ok_ofFn _) fun i hi => by rw [mem_ofFn f i hi, mem_ofFn g i hi, h i hi]
theorem eq_ofFn {c : Cls} (h : c.ok) {f : Nat → Bool} (hf : ∀ i, i < 256 → c.mem i = f i) : c = ofFn f :=
  ext_mem h (ok_ofFn _) fun i hi => by rw [mem_ofFn f i hi, hf i hi]
/-- One bit more. -/
def put (c : Cls) (n : Nat) : Cls :=
  if n / 64 = 0 then { c with c0 := c.c0 ||| 2 ^ (n % 64) } else if n / 64 = 1 then { c with c1 := c.c1 ||| 2 ^ (n % 64) }
  else if n / 64 = 2 then { c with c2 := c.c2 ||| 2 ^ (n % 64) } else { c with c3 := c.c3 ||| 2 ^ (n % 64) }
theorem two_lt (n : Nat) : 2 ^ (n % 64) < w64 := by rw [w64_pow]; exact Nat.pow_lt_pow_right (by omega) (Nat.mod_lt _ (by omega))
theorem ok_put {c : Cls} (h : c.ok) (n : Nat) : (c.put n).ok := by
  obtain ⟨h0, h1, h2, h3⟩ := h
  unfold put
  split
  · exact ⟨or_lt h0 (two_lt n), h1, h2, h3⟩
  · split
    · exact ⟨h0, or_lt h1 (two_lt n), h2, h3⟩
    · split
      · exact ⟨h0, h1, or_lt h2 (two_lt n), h3⟩
      · exact ⟨h0, h1, h2, or_lt h3 (two_lt n)⟩
theorem word_put (c : Cls) (n k : Nat) (hn : n < 256) (hk : k < 4) : (c.put n).word k = if n / 64 = k then c.word k ||| 2 ^ (n % 64) else c.word k := by
  have h : k = 0 ∨ k = 1 ∨ k = 2 ∨ k = 3 := by omega
  have h' : n / 64 = 0 ∨ n / 64 = 1 ∨ n / 64 = 2 ∨ n / 64 = 3 := by omega
  unfold put
  rcases h' with h' | h' | h' | h' <;> rw [h'] <;> rcases h with rfl | rfl | rfl | rfl <;> simp [word]
theorem mem_put (c : Cls) (n i : Nat) (hn : n < 256) (hi : i < 256) : (c.put n).mem i = (c.mem i || decide (i = n)) := by
  unfold mem
  rw [word_put c n _ hn (by omega)]
  split
  · rename_i h
    rw [Nat.testBit_or]
    by_cases e : i = n
    · subst e
      simp [Nat.testBit_two_pow_self]
    · rw [Nat.testBit_two_pow_of_ne (by omega)]
      simp [e]
  · rename_i h
    have e : ¬ i = n := fun e => h (by rw [e])
    simp [e]
theorem put_ofFn (f : Nat → Bool) (n : Nat) (hn : n < 256) : (ofFn f).put n = ofFn (fun i => f i || decide (i = n)) :=
  eq_ofFn (ok_put (ok_ofFn f) n) fun i hi => by rw [mem_put _ n i hn hi, mem_ofFn f i hi]
/-- No byte. -/
def none : Cls := ⟨0, 0, 0, 0⟩
theorem ok_none : none.ok := by unfold ok none w64; simp
theorem mem_none (i : Nat) : none.mem i = false := by unfold mem none word; simp
theorem none_ofFn : none = ofFn (fun _ => false) := eq_ofFn ok_none fun i _ => mem_none i
end Cls
/-- 256 bools, as cells. -/
def setCells (f : Nat → Bool) : Array Value := ((List.range 256).map fun i => Value.bool (f i)).toArray
def setVal (f : Nat → Bool) : Value := .agg (setCells f)
theorem setCells_size (f : Nat → Bool) : (setCells f).size = 256 := by simp [setCells]
theorem setCells_at (f : Nat → Bool) (i : Nat) (hi : i < 256) : (setCells f)[i]? = some (.bool (f i)) := by simp [setCells, hi]
theorem setCells_one (f : Nat → Bool) : (setCells f).all (·.oneCell') = true := by simp [setCells, Value.oneCell']
theorem setCells_congr {f g : Nat → Bool} (h : ∀ i, i < 256 → f i = g i) : setCells f = setCells g := by
  unfold setCells
  rw [List.map_congr_left (fun i hi => by rw [h i (by simpa using hi)])]
theorem setCells_set (f : Nat → Bool) (n : Nat) (v : Bool) : (setCells f).setIfInBounds n (.bool v) = setCells (fun i => if i = n then v else f i) := by
  apply Array.ext_getElem?
  intro i
  rw [Array.getElem?_setIfInBounds]
  by_cases hi : i < 256
  · rw [setCells_at _ i hi, setCells_at _ i hi, setCells_size]
    by_cases e : n = i
    · subst e; simp [hi]
    · rw [if_neg e, if_neg (fun h => e h.symm)]
  · have h1 : (setCells f)[i]? = Option.none := Array.getElem?_eq_none (by rw [setCells_size]; omega)
    have h2 : (setCells (fun i => if i = n then v else f i))[i]? = Option.none := Array.getElem?_eq_none (by rw [setCells_size]; omega)
    rw [h1, h2, setCells_size]
    by_cases e : n = i
    · subst e; simp [hi]
    · rw [if_neg e]
theorem setCells_false : setCells (fun _ => false) = Array.replicate 256 (.bool false) := by
  apply Array.ext_getElem?
  intro i
  by_cases hi : i < 256
  · rw [setCells_at _ i hi, Array.getElem?_replicate, if_pos hi]
  · rw [Array.getElem?_eq_none (by rw [setCells_size]; omega), Array.getElem?_replicate, if_neg hi]
theorem Cls.list_at (a : Cls) (k : Nat) (hk : k < 4) : [Value.int .u64 (a.c0 : Int), .int .u64 (a.c1 : Int), .int .u64 (a.c2 : Int), .int .u64 (a.c3 : Int)][k]? = some (.int .u64 (a.word k : Int)) := by
  have h : k = 0 ∨ k = 1 ∨ k = 2 ∨ k = 3 := by omega
  rcases h with rfl | rfl | rfl | rfl <;> rfl
theorem bits_or {a b : Nat} (ha : a < w64) (hb : b < w64) : bits .or .u64 (a : Int) (b : Int) = ((a ||| b : Nat) : Int) := bits_or_u64_nat a b ha hb
theorem bits_and {a b : Nat} (ha : a < w64) (hb : b < w64) : bits .and .u64 (a : Int) (b : Int) = ((a &&& b : Nat) : Int) := bits_and_u64_nat a b ha hb
theorem xor_all {a : Nat} (ha : a < w64) : 18446744073709551615 ^^^ a = Cls.no a := by
  have hn := Cls.no_lt a
  apply Nat.eq_of_testBit_eq
  intro i
  rw [Nat.testBit_xor]
  by_cases hi : i < 64
  · rw [Cls.testBit_no a i ha hi, show (18446744073709551615 : Nat) = 2 ^ 64 - 1 from rfl, Nat.testBit_two_pow_sub_one]
    simp [hi]
  · have hp : w64 ≤ 2 ^ i := by rw [w64_pow]; exact Nat.pow_le_pow_right (by omega) (by omega)
    have h1 : a < 2 ^ i := Nat.lt_of_lt_of_le ha hp
    have h2 : Cls.no a < 2 ^ i := Nat.lt_of_lt_of_le hn hp
    rw [Nat.testBit_lt_two_pow h1, Nat.testBit_lt_two_pow h2, show (18446744073709551615 : Nat) = 2 ^ 64 - 1 from rfl, Nat.testBit_two_pow_sub_one]
    simp [hi]
theorem bits_not {a : Nat} (ha : a < w64) : bits .xor .u64 IntKind.u64.max (a : Int) = ((Cls.no a : Nat) : Int) := by
  rw [← xor_all ha]
  exact bits_xor_u64_nat 18446744073709551615 a (by omega) ha
theorem bit_cast (n k : Nat) : ((n : Int) / 2 ^ k) = ((n / 2 ^ k : Nat) : Int) := by simp
theorem bits_bit {n : Nat} (hn : n < w64) (k : Nat) : bits .and .u64 ((n : Int) / 2 ^ k) 1 = if n.testBit k then 1 else 0 := by
  rw [bit_cast, show (1 : Int) = ((1 : Nat) : Int) from rfl, bits_and (Nat.lt_of_le_of_lt (Nat.div_le_self _ _) hn) (by unfold w64; omega), Nat.and_one_is_mod, Nat.testBit_eq_decide_div_mod_eq]
  have := Nat.mod_lt (n / 2 ^ k) (show 2 > 0 by omega)
  by_cases h : n / 2 ^ k % 2 = 1
  · simp [h]
  · have h0 : n / 2 ^ k % 2 = 0 := by omega
    simp [h0]
theorem bit_ne {n : Nat} (hn : n < w64) (k : Nat) : (bits .and .u64 ((n : Int) / 2 ^ k) 1 != 0) = n.testBit k := by
  rw [bits_bit hn]; cases n.testBit k <;> rfl
theorem bit_eq {n : Nat} (hn : n < w64) (k : Nat) : (bits .and .u64 ((n : Int) / 2 ^ k) 1 == 1) = n.testBit k := by
  rw [bits_bit hn]; cases n.testBit k <;> rfl
/-- The two of a kind. -/
def other (i : Nat) : Nat := if 65 ≤ i ∧ i ≤ 90 then i + 32 else if 97 ≤ i ∧ i ≤ 122 then i - 32 else i
theorem Cls.cells_at (a : Cls) (k : Nat) (hk : k < 4) : a.cells[k]? = some (.int .u64 (a.word k : Int)) := by
  have h := a.list_at k hk
  simpa [Cls.cells] using h
theorem Cls.cells_one (a : Cls) : a.cells.all (·.oneCell') = true := by simp [Cls.cells, Value.oneCell']
theorem mem_bit {a : Cls} (ha : a.ok) (i : Nat) : (bits .and .u64 ((a.word (i / 64) : Int) / 2 ^ (i % 64)) 1 == 1) = a.mem i := bit_eq (Cls.word_lt ha _) _
theorem setCells_step {f : Nat → Bool} {i : Nat} {v : Bool} (h : f i = v) : (setCells (fun j => decide (j < i) && f j)).setIfInBounds i (.bool v) = setCells (fun j => decide (j < i + 1) && f j) := by
  rw [setCells_set]
  refine setCells_congr fun j _ => ?_
  by_cases e : j = i
  · subst e; simp [h]
  · rw [if_neg e]
    have : decide (j < i) = decide (j < i + 1) := by by_cases q : j < i <;> simp [q] <;> omega
    rw [this]
theorem setCells_zero (f : Nat → Bool) : setCells (fun j => decide (j < 0) && f j) = setCells fun _ => false := setCells_congr fun i _ => by simp
theorem setCells_full (f : Nat → Bool) : setCells (fun j => decide (j < 256) && f j) = setCells f := setCells_congr fun i hi => by simp [hi]
end Go.Proofs.Ytflkgoggnomehaa
set_option linter.unusedVariables false
set_option linter.unusedSimpArgs false
namespace Go.Proofs.Ytflkgoggnomehaa
open Go.ChangeShapes Go.WideShapes Go.ChangeAt Go.RowKit
theorem nat_of_u64 {x : Int} (h : (Lit.int .u64 x).wf = true) : ∃ n : Nat, n < w64 ∧ x = (n : Int) := by
  have hmin : IntKind.u64.min = 0 := rfl
  have hmax : IntKind.u64.max = 18446744073709551615 := rfl
  simp only [Lit.wf, Bool.and_eq_true, decide_eq_true_eq, hmin, hmax] at h
  exact ⟨x.toNat, by unfold w64; omega, by omega⟩
theorem cells_u64 : Try.prog.cellsOf 41 = 1 := by kernel_rfl
theorem cells_cls : Try.prog.cellsOf 43 = 4 := by kernel_rfl
end Go.Proofs.Ytflkgoggnomehaa
set_option linter.unusedVariables false
set_option linter.unusedSimpArgs false
namespace Go.Proofs.Ytflkgoggnomehaa.Pt
open Go.RowKit Go.Proofs.Ytflkgoggnomehaa Go.Proofs.YtflkgoggnomehaaW.PrintWords Go.Proofs.YtflkgoggnomehaaW.PrintLast Go.Proofs.YtflkgoggnomehaaW.PrintMore Go.Proofs.Ytflkgoggnomehaa.P
abbrev Cl := S43
abbrev Pt := S45
/-- A pattern's tree. -/
inductive RT where
  | none | empty
  | cls (c : Cl)
  | seq (a b : RT)
  | alt (a b : RT)
  | star (a : RT)
def z4 : Cl := ⟨0, 0, 0, 0⟩
def nd (op : Int) : Pt := ⟨op, z4⟩
/-- Its nodes, each behind its parts. -/
def RT.enc : RT → List Pt
  | .none => [nd 0]
  | .empty => [nd 1]
  | .cls c => [⟨2, c⟩]
  | .seq a b => a.enc ++ (b.enc ++ [nd 3])
  | .alt a b => a.enc ++ (b.enc ++ [nd 4])
  | .star a => a.enc ++ [nd 5]
def RT.top : RT → Int
  | .none => 0 | .empty => 1 | .cls _ => 2 | .seq _ _ => 3 | .alt _ _ => 4 | .star _ => 5
def RT.size : RT → Nat
  | .none => 1 | .empty => 1 | .cls _ => 1 | .seq a b => a.size + b.size + 1 | .alt a b => a.size + b.size + 1 | .star a => a.size + 1
theorem RT.len : ∀ t : RT, t.enc.length = t.size
  | .none => rfl
  | .empty => rfl
  | .cls _ => rfl
  | .seq a b => by simp [RT.enc, RT.size, a.len, b.len]; omega
  | .alt a b => by simp [RT.enc, RT.size, a.len, b.len]; omega
  | .star a => by simp [RT.enc, RT.size, a.len]
theorem RT.pos : ∀ t : RT, 0 < t.size
  | .none => by decide
  | .empty => by decide
  | .cls _ => by simp [RT.size]
  | .seq a b => by simp [RT.size]
  | .alt a b => by simp [RT.size]
  | .star a => by simp [RT.size]
/-- The last node of a tree. -/
def RT.last : RT → Pt
  | .none => nd 0 | .empty => nd 1 | .cls c => ⟨2, c⟩ | .seq _ _ => nd 3 | .alt _ _ => nd 4 | .star _ => nd 5
def RT.body : RT → List Pt
  | .seq a b => a.enc ++ b.enc | .alt a b => a.enc ++ b.enc | .star a => a.enc | _ => []
theorem RT.split_last : ∀ t : RT, t.enc = t.body ++ [t.last]
  | .none => rfl
  | .empty => rfl
  | .cls _ => rfl
  | .seq a b => by simp [RT.enc, RT.body, RT.last]
  | .alt a b => by simp [RT.enc, RT.body, RT.last]
  | .star a => by simp [RT.enc, RT.body, RT.last]
/-- A text of nodes ends in one tree at most. -/
theorem enc_inj : ∀ (t u : RT) (l m : List Pt), l ++ t.enc = m ++ u.enc → l = m ∧ t = u
  | t, u, l, m, h => by
    have h1 : (l ++ t.body) ++ [t.last] = (m ++ u.body) ++ [u.last] := by rw [List.append_assoc, List.append_assoc, ← t.split_last, ← u.split_last, h]
    obtain ⟨hb, hl⟩ := List.append_inj' h1 rfl
    have hl := List.singleton_inj.1 hl
    match t, u, hl, hb with
    | .none, .none, _, hb => exact ⟨by simpa [RT.body] using hb, rfl⟩
    | .empty, .empty, _, hb => exact ⟨by simpa [RT.body] using hb, rfl⟩
    | .cls c, .cls d, hl, hb => 
      have : c = d := by simpa [RT.last] using hl
      exact ⟨by simpa [RT.body] using hb, by rw [this]⟩
    | .seq a b, .seq a' b', _, hb =>
      simp only [RT.body, ← List.append_assoc] at hb
      obtain ⟨h2, h3⟩ := enc_inj b b' _ _ hb
      obtain ⟨h4, h5⟩ := enc_inj a a' _ _ h2
      exact ⟨h4, by rw [h3, h5]⟩
    | .alt a b, .alt a' b', _, hb =>
      simp only [RT.body, ← List.append_assoc] at hb
      obtain ⟨h2, h3⟩ := enc_inj b b' _ _ hb
      obtain ⟨h4, h5⟩ := enc_inj a a' _ _ h2
      exact ⟨h4, by rw [h3, h5]⟩
    | .star a, .star a', _, hb =>
      obtain ⟨h2, h3⟩ := enc_inj a a' _ _ hb
      exact ⟨h2, by rw [h3]⟩
    | .none, .empty, hl, _ => simp [RT.last, nd] at hl
    | .none, .cls _, hl, _ => simp [RT.last, nd] at hl
    | .none, .seq _ _, hl, _ => simp [RT.last, nd] at hl
    | .none, .alt _ _, hl, _ => simp [RT.last, nd] at hl
    | .none, .star _, hl, _ => simp [RT.last, nd] at hl
    | .empty, .none, hl, _ => simp [RT.last, nd] at hl
    | .empty, .cls _, hl, _ => simp [RT.last, nd] at hl
    | .empty, .seq _ _, hl, _ => simp [RT.last, nd] at hl
    | .empty, .alt _ _, hl, _ => simp [RT.last, nd] at hl
    | .empty, .star _, hl, _ => simp [RT.last, nd] at hl
    | .cls _, .none, hl, _ => simp [RT.last, nd] at hl
    | .cls _, .empty, hl, _ => simp [RT.last, nd] at hl
    | .cls _, .seq _ _, hl, _ => simp [RT.last, nd] at hl
    | .cls _, .alt _ _, hl, _ => simp [RT.last, nd] at hl
    | .cls _, .star _, hl, _ => simp [RT.last, nd] at hl
    | .seq _ _, .none, hl, _ => simp [RT.last, nd] at hl
    | .seq _ _, .empty, hl, _ => simp [RT.last, nd] at hl
    | .seq _ _, .cls _, hl, _ => simp [RT.last, nd] at hl
    | .seq _ _, .alt _ _, hl, _ => simp [RT.last, nd] at hl
    | .seq _ _, .star _, hl, _ => simp [RT.last, nd] at hl
    | .alt _ _, .none, hl, _ => simp [RT.last, nd] at hl
    | .alt _ _, .empty, hl, _ => simp [RT.last, nd] at hl
    | .alt _ _, .cls _, hl, _ => simp [RT.last, nd] at hl
    | .alt _ _, .seq _ _, hl, _ => simp [RT.last, nd] at hl
    | .alt _ _, .star _, hl, _ => simp [RT.last, nd] at hl
    | .star _, .none, hl, _ => simp [RT.last, nd] at hl
    | .star _, .empty, hl, _ => simp [RT.last, nd] at hl
    | .star _, .cls _, hl, _ => simp [RT.last, nd] at hl
    | .star _, .seq _ _, hl, _ => simp [RT.last, nd] at hl
    | .star _, .alt _ _, hl, _ => simp [RT.last, nd] at hl
termination_by t => t.size
decreasing_by all_goals (simp only [RT.size]; omega)
/-- How deep brackets stand in a tree's text. -/
def RT.row (t : RT) : Nat := if t.top = 3 ∨ t.top = 4 then 1 else 0
def RT.isAlt (t : RT) : Nat := if t.top = 4 then 1 else 0
def RT.dep : RT → Nat
  | .none => 0 | .empty => 1 | .cls _ => 0
  | .star a => a.dep + a.row
  | .seq a b => max (a.dep + a.row) (b.dep + b.isAlt)
  | .alt a b => max (a.dep + a.isAlt) b.dep
theorem RT.dep_le : ∀ t : RT, t.dep ≤ t.size
  | .none => by simp [RT.dep]
  | .empty => by simp [RT.dep, RT.size]
  | .cls _ => by simp [RT.dep]
  | .star a => by have := a.dep_le; simp only [RT.dep, RT.size, RT.row]; split <;> omega
  | .seq a b => by have := a.dep_le; have := b.dep_le; have := a.pos; have := b.pos; simp only [RT.dep, RT.size, RT.row, RT.isAlt]; split <;> split <;> omega
  | .alt a b => by have := a.dep_le; have := b.dep_le; have := a.pos; have := b.pos; simp only [RT.dep, RT.size, RT.isAlt]; split <;> omega
def z4B (c : Cl) : Bool := c.f0 == 0 && (c.f1 == 0 && (c.f2 == 0 && c.f3 == 0))
theorem z4_eq {c : Cl} (h : z4B c = true) : c = z4 := by
  unfold z4B at h
  simp at h
  obtain ⟨x0, x1, x2, x3⟩ := c
  simp at h
  obtain ⟨rfl, rfl, rfl, rfl⟩ := h
  rfl
/-- May a node bear its class? -/
def bareB (n : Pt) : Bool := n.f0 == 2 || z4B n.f1
/-- One node more on a stack of trees (the last one first). -/
def stp (n : Pt) (st : List RT) : Option (List RT) :=
  if n.f0 = 0 then some (.none :: st) else if n.f0 = 1 then some (.empty :: st) else if n.f0 = 2 then some (.cls n.f1 :: st)
  else if n.f0 = 5 then (match st with | a :: r => some (.star a :: r) | _ => none)
  else if n.f0 = 3 then (match st with | b :: a :: r => some (.seq a b :: r) | _ => none)
  else if n.f0 = 4 then (match st with | b :: a :: r => some (.alt a b :: r) | _ => none)
  else none
def run : List Pt → List RT → Option (List RT)
  | [], st => some st
  | n :: l, st => if bareB n = true then (stp n st).bind (run l) else none
theorem run_app : ∀ (l m : List Pt) (st : List RT), run (l ++ m) st = (run l st).bind (run m)
  | [], m, st => rfl
  | n :: l, m, st => by
    show run (n :: (l ++ m)) st = (run (n :: l) st).bind (run m)
    unfold run
    by_cases h : bareB n = true
    · rw [if_pos h, if_pos h]
      cases stp n st with
      | none => rfl
      | some s => exact run_app l m s
    · rw [if_neg h, if_neg h]; rfl
theorem run_one (n : Pt) (st : List RT) : run [n] st = if bareB n = true then stp n st else none := by
  unfold run
  split
  · cases stp n st <;> rfl
  · rfl
theorem run_enc : ∀ (t : RT) (st : List RT), run t.enc st = some (t :: st)
  | .none, st => rfl
  | .empty, st => rfl
  | .cls c, st => rfl
  | .seq a b, st => by
    unfold RT.enc
    rw [run_app, run_enc a, Option.bind_some, run_app, run_enc b, Option.bind_some]
    rfl
  | .alt a b, st => by
    unfold RT.enc
    rw [run_app, run_enc a, Option.bind_some, run_app, run_enc b, Option.bind_some]
    rfl
  | .star a, st => by
    unfold RT.enc
    rw [run_app, run_enc a, Option.bind_some]
    rfl
/-- What a stack's trees are in nodes. -/
def encs_ : List RT → List Pt
  | [] => []
  | t :: r => encs_ r ++ t.enc
theorem bare_op {n : Pt} (h : bareB n = true) (h2 : n.f0 ≠ 2) : n = nd n.f0 := by
  have hz : z4B n.f1 = true := by
    unfold bareB at h
    simp only [Bool.or_eq_true, beq_iff_eq] at h
    exact h.resolve_left h2
  obtain ⟨x0, x1⟩ := n
  have := z4_eq hz
  dsimp only at this
  rw [this]; rfl
theorem stp_enc {n : Pt} {st s : List RT} (hb : bareB n = true) (h : stp n st = some s) : encs_ s = encs_ st ++ [n] := by
  unfold stp at h
  by_cases h0 : n.f0 = 0
  · rw [if_pos h0] at h
    obtain rfl := Option.some.inj h
    rw [bare_op hb (by omega), h0]; rfl
  rw [if_neg h0] at h
  by_cases h1 : n.f0 = 1
  · rw [if_pos h1] at h
    obtain rfl := Option.some.inj h
    rw [bare_op hb (by omega), h1]; rfl
  rw [if_neg h1] at h
  by_cases h2 : n.f0 = 2
  · rw [if_pos h2] at h
    obtain rfl := Option.some.inj h
    obtain ⟨x0, x1⟩ := n
    dsimp only at h2 ⊢
    subst h2; rfl
  rw [if_neg h2] at h
  have hn := bare_op hb h2
  by_cases h5 : n.f0 = 5
  · rw [if_pos h5] at h
    match st, h with
    | a :: r, h =>
      obtain rfl := Option.some.inj h
      rw [hn, h5]
      simp [encs_, RT.enc]
  rw [if_neg h5] at h
  by_cases h3 : n.f0 = 3
  · rw [if_pos h3] at h
    match st, h with
    | b :: a :: r, h =>
      obtain rfl := Option.some.inj h
      rw [hn, h3]
      simp [encs_, RT.enc]
  rw [if_neg h3] at h
  by_cases h4 : n.f0 = 4
  · rw [if_pos h4] at h
    match st, h with
    | b :: a :: r, h =>
      obtain rfl := Option.some.inj h
      rw [hn, h4]
      simp [encs_, RT.enc]
  rw [if_neg h4] at h
  cases h
theorem run_encs : ∀ (l : List Pt) (st s : List RT), run l st = some s → encs_ s = encs_ st ++ l
  | [], st, s, h => by
    obtain rfl := Option.some.inj h
    simp
  | n :: l, st, s, h => by
    unfold run at h
    split at h
    · next hb =>
      cases q : stp n st with
      | none => rw [q] at h; cases h
      | some s1 =>
        rw [q, Option.bind_some] at h
        rw [run_encs l s1 s h, stp_enc hb q]
        simp
    · cases h
/-- A text of nodes is a tree's just if the stack ends with it alone. -/
theorem run_iff {p : List Pt} {t : RT} : run p [] = some [t] ↔ p = t.enc := by
  constructor
  · intro h
    have := run_encs p [] [t] h
    simpa [encs_] using this.symm
  · rintro rfl
    exact run_enc t []
/-- Is a pattern right? -/
def chk (p : List Pt) : Int := if p.length > 4096 then 1 else match run p [] with
  | some [t] => if t.dep > 100 then 3 else 0
  | _ => 6
end Go.Proofs.Ytflkgoggnomehaa.Pt
set_option linter.unusedVariables false
set_option linter.unusedSimpArgs false
namespace Go.Proofs.Ytflkgoggnomehaa
open Go.RowKit
abbrev V4 (a : Cls) : Value := .agg #[.int .u64 a.c0, .int .u64 a.c1, .int .u64 a.c2, .int .u64 a.c3]
theorem ret_bool {a b : Bool} (h : a = b) : Ending.returned (.bool a) = .returned (.bool b) := by rw [h]
theorem ret_v {a b : Value} (h : a = b) : Ending.returned a = .returned b := by rw [h]
theorem V4_mk {x0 x1 x2 x3 : Int} {c : Cls} (h0 : x0 = c.c0) (h1 : x1 = c.c1) (h2 : x2 = c.c2) (h3 : x3 = c.c3) : Ending.returned (.agg #[.int .u64 x0, .int .u64 x1, .int .u64 x2, .int .u64 x3]) = .returned (V4 c) := by
  subst h0 h1 h2 h3; rfl
set_option maxRecDepth 100000 in
theorem has_c (a : Cls) (ha : a.ok) (x : Nat) (hx : x < 256) (w : World) : Calls Try.prog 36 #[V4 a, .int .u8 (x : Int)] w fun e w' => e = .returned (.bool (a.mem x)) ∧ Below w.heap.size w w' := by
  have hc := a.list_at (x / 64) (by omega)
  have hw := Cls.word_lt ha (x / 64)
  have H := Lib.hid hw; clear hw ha
  go_enter Try.func36, Try.ntmps36
  go_wp2
  go_ret
  exact ⟨ret_bool (bit_ne H.out _), (Below.refl _ _).alloc (Nat.le_refl _) _⟩
set_option maxRecDepth 100000 in
theorem not_c (a : Cls) (ha : a.ok) (w : World) : Calls Try.prog 91 #[V4 a] w fun e w' => e = .returned (V4 a.not) ∧ Below w.heap.size w w' := by
  have HA := Lib.hid ha; clear ha
  go_enter Try.func91, Try.ntmps91
  go_wp2
  refine wp_loop_rounds 5 ?_
  rw [rounds_succ]; go_wp2
  rw [rounds_succ]; go_wp2
  rw [rounds_succ]; go_wp2
  rw [rounds_succ]; go_wp2
  rw [rounds_succ]; go_wp2
  refine bodyPost_ret (v := .agg #[.int .u64 _, .int .u64 _, .int .u64 _, .int .u64 _]) (by simp [results, Try.results91, go_sem]) rfl ⟨V4_mk (bits_not HA.out.1) (bits_not HA.out.2.1) (bits_not HA.out.2.2.1) (bits_not HA.out.2.2.2), ?_⟩
  exact ((Below.refl _ _).alloc (Nat.le_refl _) _).alloc (by simp) _
end Go.Proofs.Ytflkgoggnomehaa
namespace Go.Proofs.Ytflkgoggnomehaa
theorem bits_put {c : Cls} (hc : c.ok) (k : Nat) : bits .or .u64 (c.word (k / 64) : Int) (IntKind.u64.wrap (2 ^ (k % 64))) = ((c.word (k / 64) ||| 2 ^ (k % 64) : Nat) : Int) := by
  have h : IntKind.u64.wrap ((2 : Int) ^ (k % 64)) = ((2 ^ (k % 64) : Nat) : Int) := by
    have h1 := Cls.two_lt k
    rw [IntKind.wrap_u64, show ((2 : Int) ^ (k % 64)) = ((2 ^ (k % 64) : Nat) : Int) by simp]
    generalize 2 ^ (k % 64) = m at h1 ⊢
    unfold w64 at h1
    omega
  rw [h]
  exact bits_or (Cls.word_lt hc _) (Cls.two_lt k)
theorem Cls.cells_put {c : Cls} {k : Nat} (hk : k < 256) : c.cells.setIfInBounds (k / 64) (.int .u64 ((c.word (k / 64) ||| 2 ^ (k % 64) : Nat) : Int)) = (c.put k).cells := by
  have h : k / 64 = 0 ∨ k / 64 = 1 ∨ k / 64 = 2 ∨ k / 64 = 3 := by omega
  unfold put cells
  rcases h with h | h | h | h <;> rw [h] <;> rfl
theorem Cls.put_step (f : Nat → Bool) (k : Nat) (hk : k < 256) (hf : f k = true) : (ofFn fun j => decide (j < k) && f j).put k = ofFn fun j => decide (j < k + 1) && f j := by
  rw [put_ofFn _ _ hk]
  refine ofFn_congr fun i _ => ?_
  by_cases e : i = k
  · subst e; simp [hf]
  · rw [show decide (i < k) = decide (i < k + 1) by by_cases q : i < k <;> simp [q] <;> omega]
    simp [e]
theorem Cls.skip_step (f : Nat → Bool) (k : Nat) (hf : f k = false) : (ofFn fun j => decide (j < k) && f j) = ofFn fun j => decide (j < k + 1) && f j := by
  refine ofFn_congr fun i _ => ?_
  by_cases e : i = k
  · subst e; simp [hf]
  · rw [show decide (i < k) = decide (i < k + 1) by by_cases q : i < k <;> simp [q] <;> omega]
theorem setCells_turn {f : Nat → Bool} {i : Nat} {g : Nat → Bool} {v : Bool} (h : g i = v) : (setCells (fun j => if j < i then g j else f j)).setIfInBounds i (.bool v) = setCells (fun j => if j < i + 1 then g j else f j) := by
  rw [setCells_set]
  refine setCells_congr fun j _ => ?_
  by_cases e : j = i
  · subst e; simp [h]
  · rw [if_neg e]
    by_cases q : j < i
    · rw [if_pos q, if_pos (by omega)]
    · rw [if_neg q, if_neg (by omega)]
end Go.Proofs.Ytflkgoggnomehaa
set_option linter.unusedVariables false
set_option linter.unusedSimpArgs false
namespace Go.Proofs.Ytflkgoggnomehaa
open Go.RowKit
theorem zeroSet : (∀ w, (zeroValue 168).run Try.prog w = .ok (.agg (Array.replicate 256 (.bool false))) w) ∧ (Try.prog.info? 168).map (·.size) = some 256 := zero_of_info (by kernel_rfl)
theorem infoSet (f : Nat → Bool) : (Try.prog.info? 168).map (·.size) = some (setCells f).size := by rw [setCells_size]; exact zeroSet.2
theorem infoCls (a : Cls) : (Try.prog.info? 43).map (·.size) = some a.cells.size := by kernel_rfl
set_option maxRecDepth 100000 in
theorem open_c (a : Cls) (ha : a.ok) (w : World) : Calls Try.prog 114 #[V4 a] w fun e w' => e = .returned (setVal a.mem) ∧ Below w.heap.size w w' := by
  have HA := Lib.hid ha; clear ha
  have hv := zeroSet.1
  go_enter Try.func114, Try.ntmps114
  go_wp2
  go_loopw [4] (fun i wr => ∃ k : Nat, k ≤ 256 ∧ i = .int .i64 k ∧ Below w.heap.size w wr ∧ wr.heap[w.heap.size]? = some (.cells a.cells 43 (0, 0)) ∧
      wr.heap[w.heap.size + 1]? = some (.cells (setCells fun _ => false) 168 (0, 0)) ∧ wr.heap[w.heap.size + 1 + 1]? = some (.cells (setCells fun j => decide (j < k) && a.mem j) 168 (0, 0))) (fun i _ => 256 - (intOf i).toNat)
  case atStart =>
    refine ⟨0, by omega, rfl, ((((Below.refl _ _).alloc (Nat.le_refl _) _).alloc (by simp) _).alloc (by simp; omega) _), heap_keep (heap_keep (heap_new _ _)), ?_, ?_⟩
    · rw [setCells_false]; exact heap_keep (heap_new1 _ _ _)
    · rw [setCells_zero, setCells_false]; exact heap_new2 _ _ _ _
  case round =>
    obtain ⟨k, hk, rfl, hB, h0, h1, h2⟩ := hrel
    by_cases hlt : k < 256
    · have c0 : wr.cell? ⟨w.heap.size, k / 64, none⟩ = some (.int .u64 (a.word (k / 64))) := by rw [cell_of_row _ _ _ _ _ _ h0]; exact a.cells_at (k / 64) (by omega)
      have c2 : wr.cell? ⟨w.heap.size + 1 + 1, k, none⟩ = some (.bool (decide (k < k) && a.mem k)) := by rw [cell_of_row _ _ _ _ _ _ h2]; exact setCells_at _ _ hlt
      have f2 : wr.frozen? ⟨w.heap.size + 1 + 1, k, none⟩ = false := frozen_of_row _ _ _ _ _ h2
      have H0 := Lib.hid h0; have H1 := Lib.hid h1; have H2 := Lib.hid h2; clear h0 h1 h2
      go_wp2
      go_roundw
      case rel =>
        refine ⟨k + 1, by omega, by go_num, hB.setCell (by simp; omega) _, heap_other (by dsimp only; omega) H0.out, heap_other (by dsimp only; omega) H1.out, ?_⟩
        rw [heap_put H2.out, mem_bit HA.out, setCells_step (f := a.mem) (i := k) rfl]
      case measure => simp [intOf]; omega
    · obtain rfl : k = 256 := by omega
      have H0 := Lib.hid h0; have H1 := Lib.hid h1; have H2 := Lib.hid h2; clear h0 h1 h2
      go_wp2_with (first | (refine wpList_load_row rfl 168 _ rfl _ rfl _ _ _ _ H2.out Try.underlying168 rfl (infoSet _) ?_) | (refine wpList_store_row rfl 168 _ _ rfl _ _ rfl rfl _ _ H1.out (infoSet _) (by rw [setCells_size, setCells_size]) (setCells_one _) ?_))
      have H3 := Lib.hid (setRow_heap wr (w.heap.size + 1) _ (setCells fun j => decide (j < 256) && a.mem j) 168 (0, 0) H1.out)
      refine bodyPost_ret (v := setVal fun j => decide (j < 256) && a.mem j) (results_cell_row Try.results114 _ _ _ _ _ _ _ rfl H3.out Try.underlying168 rfl (infoSet _)) rfl ⟨?_, below_setRow hB (by omega) _⟩
      unfold setVal
      rw [setCells_full]
set_option maxRecDepth 100000 in
theorem close_c (f : Nat → Bool) (w : World) : Calls Try.prog 125 #[setVal f] w fun e w' => e = .returned (V4 (Cls.ofFn f)) ∧ Below w.heap.size w w' := by
  unfold setVal
  go_enter Try.func125, Try.ntmps125
  go_wp2
  go_loopw [4] (fun i wr => ∃ k : Nat, k ≤ 256 ∧ i = .int .i64 k ∧ Below w.heap.size w wr ∧ wr.heap[w.heap.size]? = some (.cells (setCells f) 168 (0, 0)) ∧
      wr.heap[w.heap.size + 1]? = some (.cells Cls.none.cells 43 (0, 0)) ∧ wr.heap[w.heap.size + 1 + 1]? = some (.cells (Cls.ofFn fun j => decide (j < k) && f j).cells 43 (0, 0))) (fun i _ => 256 - (intOf i).toNat)
  case atStart =>
    refine ⟨0, by omega, rfl, ((((Below.refl _ _).alloc (Nat.le_refl _) _).alloc (by simp) _).alloc (by simp; omega) _), heap_keep (heap_keep (heap_new _ _)), ?_, ?_⟩
    · exact heap_keep (heap_new1 _ _ _)
    · rw [show (Cls.ofFn fun j => decide (j < 0) && f j) = Cls.none by rw [Cls.none_ofFn]; exact Cls.ofFn_congr fun i _ => by simp]; exact heap_new2 _ _ _ _
  case round =>
    obtain ⟨k, hk, rfl, hB, h0, h1, h2⟩ := hrel
    by_cases hlt : k < 256
    · have c0 : wr.cell? ⟨w.heap.size, k, none⟩ = some (.bool (f k)) := by rw [cell_of_row _ _ _ _ _ _ h0]; exact setCells_at _ _ hlt
      have c2 : wr.cell? ⟨w.heap.size + 1 + 1, k / 64, none⟩ = some (.int .u64 ((Cls.ofFn fun j => decide (j < k) && f j).word (k / 64))) := by rw [cell_of_row _ _ _ _ _ _ h2]; exact Cls.cells_at _ (k / 64) (by omega)
      have f2 : wr.frozen? ⟨w.heap.size + 1 + 1, k / 64, none⟩ = false := frozen_of_row _ _ _ _ _ h2
      have H0 := Lib.hid h0; have H1 := Lib.hid h1; have H2 := Lib.hid h2; clear h0 h1 h2
      cases hf : f k
      · rw [hf] at c0
        have HF := Lib.hid hf; clear hf
        go_wp2
        go_roundw
        case rel => exact ⟨k + 1, by omega, by go_num, hB, H0.out, H1.out, by rw [H2.out, Cls.skip_step f k HF.out]⟩
        case measure => simp [intOf]; omega
      · rw [hf] at c0
        have HF := Lib.hid hf; clear hf
        go_wp2
        go_region
        go_wp2
        go_roundw
        case rel =>
          refine ⟨k + 1, by omega, by go_num, (hB.setCell (by simp; omega) _).drew, heap_drew' (heap_other (by dsimp only; omega) H0.out), heap_drew' (heap_other (by dsimp only; omega) H1.out), heap_drew' ?_⟩
          rw [heap_put H2.out, bits_put (Cls.ok_ofFn _), Cls.cells_put hlt, Cls.put_step f k hlt HF.out]
        case measure => simp [intOf]; omega
    · obtain rfl : k = 256 := by omega
      have H0 := Lib.hid h0; have H1 := Lib.hid h1; have H2 := Lib.hid h2; clear h0 h1 h2
      go_wp2_with (first | (refine wpList_load_row rfl 43 _ rfl _ rfl _ _ _ _ H2.out Try.underlying43 rfl (infoCls _) ?_) | (refine wpList_store_row rfl 43 _ _ rfl _ _ rfl rfl _ _ H1.out (infoCls _) rfl (Cls.cells_one _) ?_))
      have H3 := Lib.hid (setRow_heap wr (w.heap.size + 1) _ (Cls.ofFn fun j => decide (j < 256) && f j).cells 43 (0, 0) H1.out)
      refine bodyPost_ret (v := V4 (Cls.ofFn fun j => decide (j < 256) && f j)) (results_cell_row Try.results125 _ _ _ _ _ _ _ rfl H3.out Try.underlying43 rfl (infoCls _)) rfl ⟨?_, below_setRow hB (by omega) _⟩
      rw [Cls.ofFn_congr (g := f) fun i hi => by simp [hi]]
end Go.Proofs.Ytflkgoggnomehaa
set_option linter.unusedVariables false
set_option linter.unusedSimpArgs false
namespace Go.Proofs.Ytflkgoggnomehaa
open Go.RowKit
/-- A text's byte at a place; 0: there is none. -/
def bat (s : ByteArray) (i : Nat) : Nat := (s.data.toList.getD i 0).toNat
end Go.Proofs.Ytflkgoggnomehaa
set_option linter.unusedVariables false
set_option linter.unusedSimpArgs false
namespace Go.Proofs.Ytflkgoggnomehaa
open Go.RowKit
/-- A class's reader: its cells. -/
def rdCells (s : ByteArray) (b p : Nat) : Array Value := #[.string s, .int .i64 (b : Int), .int .i64 (p : Int)]
def RdAt (w : World) (g : Nat) (s : ByteArray) (b p : Nat) : Prop := w.heap[g]? = some (.cells (rdCells s b p) 184 (0, 0))
theorem RdAt.c0 {w : World} {g : Nat} {s : ByteArray} {b p : Nat} (h : RdAt w g s b p) : w.cell? ⟨g, 0, none⟩ = some (.string s) := by rw [cell_of_row _ _ _ _ _ _ h]; rfl
theorem RdAt.c1 {w : World} {g : Nat} {s : ByteArray} {b p : Nat} (h : RdAt w g s b p) : w.cell? ⟨g, 1, none⟩ = some (.int .i64 (b : Int)) := by rw [cell_of_row _ _ _ _ _ _ h]; rfl
theorem RdAt.c2 {w : World} {g : Nat} {s : ByteArray} {b p : Nat} (h : RdAt w g s b p) : w.cell? ⟨g, 2, none⟩ = some (.int .i64 (p : Int)) := by rw [cell_of_row _ _ _ _ _ _ h]; rfl
theorem RdAt.f2 {w : World} {g : Nat} {s : ByteArray} {b p : Nat} (h : RdAt w g s b p) : w.frozen? ⟨g, 2, none⟩ = false := frozen_of_row _ _ _ _ _ h
end Go.Proofs.Ytflkgoggnomehaa
set_option linter.unusedVariables false
set_option linter.unusedSimpArgs false
namespace Go.Proofs.Ytflkgoggnomehaa
open Go.RowKit
theorem RdAt.new {w : World} {g : Nat} {s : ByteArray} {b p : Nat} (h : RdAt w g s b p) (a : Addr) (v : Value) (ha : g ≠ a.block) : RdAt (w.setCell a v) g s b p := heap_other ha h
theorem RdAt.drewN {w : World} {g : Nat} {s : ByteArray} {b p n : Nat} (h : RdAt w g s b p) : RdAt (w.drewN n) g s b p := h
theorem RdAt.drew {w : World} {g : Nat} {s : ByteArray} {b p : Nat} (h : RdAt w g s b p) : RdAt w.drew g s b p := h
theorem RdAt.alloc {w : World} {g : Nat} {s : ByteArray} {b p : Nat} (h : RdAt w g s b p) (o : Obj) : RdAt (w.alloc o) g s b p := heap_keep h
end Go.Proofs.Ytflkgoggnomehaa
set_option linter.unusedVariables false
set_option linter.unusedSimpArgs false
namespace Go.Proofs.Ytflkgoggnomehaa
open Go.RowKit
/-- What stands for no byte unless it is escaped. -/
def barred (c : Nat) : Prop := c < 32 ∨ 126 < c ∨ c = 93 ∨ c = 45 ∨ c = 94
instance (c : Nat) : Decidable (barred c) := by unfold barred; infer_instance
end Go.Proofs.Ytflkgoggnomehaa
set_option linter.unusedVariables false
set_option linter.unusedSimpArgs false
namespace Go.Proofs.Ytflkgoggnomehaa
open Go.RowKit
set_option maxRecDepth 100000 in
theorem notR_c (a : Cls) (ha : a.ok) (w : World) : Calls Try.prog 117 #[V4 a] w fun e w' => e = .returned (V4 a.not) ∧ Below w.heap.size w w' := by
  have HA := Lib.hid ha; clear ha
  have hv := zeroSet.1
  go_enter Try.func117, Try.ntmps117
  go_wp2_with (first | (go_at_call 114; refine (open_c a HA.out _).mono ?_; rintro e w1 ⟨rfl, hb1⟩; unfold setVal) | (refine wpList_store_row rfl 168 _ _ rfl _ _ rfl rfl _ _ (heap_new _ _) (infoSet _) (by rw [setCells_size]; rfl) (setCells_one _) ?_))
  have hz := hb1.size
  have hs1 := heap_same hb1 (heap_new1 _ _ _)
  have hb := (((Below.refl _ _).alloc (Nat.le_refl _) _).alloc (by simp) _).trans (hb1.mono (by simp; omega))
  simp only [World.size_alloc] at hz
  have HB1 := Lib.hid hb; have HS1 := Lib.hid hs1; clear hb1 hb hs1
  go_loopw [4] (fun i wr => ∃ k : Nat, k ≤ 256 ∧ i = .int .i64 k ∧ Below w.heap.size w wr ∧ w.heap.size + 1 < w1.heap.size ∧
      wr.heap[w.heap.size + 1]? = some (.cells Cls.none.cells 43 (0, 0)) ∧ wr.heap[w1.heap.size]? = some (.cells (setCells fun j => if j < k then !a.mem j else a.mem j) 168 (0, 0))) (fun i _ => 256 - (intOf i).toNat)
  case atStart =>
    exact ⟨0, by omega, rfl, below_setRow (HB1.out.alloc (by omega) _) (by omega) _, by omega, heap_row_other (by omega) (heap_keep HS1.out), by
      rw [setCells_congr (g := a.mem) (fun i _ => by simp)]; exact setRow_heap _ _ _ _ _ _ (heap_new _ _)⟩
  case round =>
    obtain ⟨k, hk, rfl, hB, hlt1, h1, h2⟩ := hrel
    by_cases hlt : k < 256
    · have c2 : wr.cell? ⟨w1.heap.size, k, none⟩ = some (.bool (a.mem k)) := by rw [cell_of_row _ _ _ _ _ _ h2, setCells_at _ _ hlt]; simp
      have f2 : wr.frozen? ⟨w1.heap.size, k, none⟩ = false := frozen_of_row _ _ _ _ _ h2
      have H1 := Lib.hid h1; have H2 := Lib.hid h2; clear h1 h2
      go_wp2
      go_roundw
      case rel => exact ⟨k + 1, by omega, by go_num, hB.setCell (by dsimp only; omega) _, hlt1, heap_other (by dsimp only; omega) H1.out, by
        rw [heap_put H2.out, setCells_turn (g := fun j => !a.mem j) (i := k) rfl]⟩
      case measure => simp [intOf]; omega
    · obtain rfl : k = 256 := by omega
      have H1 := Lib.hid h1; have H2 := Lib.hid h2; clear h1 h2
      have hc := close_c (fun j => if j < 256 then !a.mem j else a.mem j)
      unfold setVal at hc
      have HC := Lib.hid hc; clear hc
      go_wp2_with (first | (refine wpList_load_row rfl 168 _ rfl _ rfl _ _ _ _ H2.out Try.underlying168 rfl (infoSet _) ?_) | (go_at_call 125; refine (HC.out _).mono ?_; rintro e w2 ⟨rfl, hb2⟩) | (refine wpList_store_row rfl 43 _ _ rfl _ _ rfl rfl _ _ (heap_same hb2 H1.out) (infoCls _) rfl (Cls.cells_one (Cls.ofFn _)) ?_))
      have H3 := Lib.hid (setRow_heap w2 (w.heap.size + 1) _ (Cls.ofFn fun j => if j < 256 then !a.mem j else a.mem j).cells 43 (0, 0) (heap_same hb2 H1.out))
      refine bodyPost_ret (v := V4 (Cls.ofFn fun j => if j < 256 then !a.mem j else a.mem j)) (results_cell_row Try.results117 _ _ _ _ _ _ _ rfl H3.out Try.underlying43 rfl (infoCls _)) rfl ⟨?_, below_setRow (hB.trans (hb2.mono hB.size)) (by omega) _⟩
      rw [← Cls.eq_ofFn (Cls.ok_not a) fun i hi => by rw [Cls.mem_not HA.out]; simp [hi]]
end Go.Proofs.Ytflkgoggnomehaa
set_option linter.unusedVariables false
set_option linter.unusedSimpArgs false
namespace Go.Proofs.Ytflkgoggnomehaa
open Go.RowKit
theorem own_base {w : World} {base : Nat} {e : TypeId} {size n : Nat} {v : Value} {xs : List Value} (h : w.ownsRow base e size v n xs) (k : Nat) (hk : v.ownBlock = some k) : base ≤ k := by
  rcases h.2 with ⟨rfl, _⟩ | ⟨g, cap, cur, rfl, hb, _⟩
  · simp [Value.ownBlock] at hk
  · have : g = k := by simpa [Value.ownBlock] using hk
    omega
theorem own_ne {w : World} {base : Nat} {e : TypeId} {size n : Nat} {v : Value} {xs : List Value} (h : w.ownsRow base e size v n xs) {g : Nat} {cs : Array Value} {t : TypeId} {fr : Nat × Nat} (hg : w.heap[g]? = some (.cells cs t fr)) (hne : t ≠ e) : v.ownBlock ≠ some g := by
  rcases h.2 with ⟨rfl, _⟩ | ⟨g', cap, cur, rfl, hb, hh, _⟩
  · simp [Value.ownBlock]
  · intro hk
    have : g' = g := by simpa [Value.ownBlock] using hk
    subst this
    rw [hh] at hg
    injection hg with hg
    injection hg with _ ht
    exact hne ht.symm
theorem own_below {w w1 : World} {base : Nat} {e : TypeId} {size n : Nat} {v : Value} {xs : List Value} (h : w.ownsRow base e size v n xs) (hb : Below w.heap.size w w1) : w1.ownsRow base e size v n xs := by
  obtain ⟨h1, h2⟩ := h
  refine ⟨h1, ?_⟩
  rcases h2 with h2 | ⟨g, cap, cur, hv, hg, hh, r⟩
  · exact .inl h2
  · exact .inr ⟨g, cap, cur, hv, hg, heap_same hb hh, r⟩
section
variable {P : Program} {ops : Array Oper} {rest : List Oper} {o : Oper} {a : Act} {Q : Exit → Act → World → Prop}
/-- append(v, y), y one element: behind the literal's block. -/
theorem app1 {w0 W : World} (base : Nat) (hgd : o.guard = none) (s x : Operand) (t e : TypeId) (z : Value) (size bytes : Nat)
    (ho : o.op = .call { callee := .builtin .append, args := #[s, x], argTypes := #[t, t] })
    (ht : P.underlying t = some (.slice e)) (hinfo : (P.info? e).map (fun i => (i.zero, i.size, i.bytes)) = some (some z, size, bytes)) (hz : z.cells.size = size) (hsz : 0 < size)
    (v : Value) (n : Nat) (xs : List Value) (y : Array Value) (hy : y.size = size) (h1 : ∀ u ∈ y.toList, u.oneCell' = true) (hs : a.eval s = v) (hx : a.eval x = .slice (some ⟨W.heap.size, 0, none⟩) 1 1)
    (HO : W.ownsRow base e size v n xs) (HB : Below base w0 W) (hbase : base ≤ W.heap.size) (hn : n + 1 ≤ 9223372036854775807) (hl : (n + 1) * bytes ≤ 140737488355328)
    (h : ∀ g c w1, w1.ownsRow base e size (.slice (some ⟨g, 0, none⟩) (n + 1) c) (n + 1) (xs ++ y.toList) → Below base w0 w1 → (∀ k b, W.heap[k]? = some b → v.ownBlock ≠ some k → w1.heap[k]? = some b) → W.heap.size ≤ w1.heap.size →
      wpList P ops Q rest (a.put o.dst (.slice (some ⟨g, 0, none⟩) (n + 1) c)) w1) :
    wpList P ops Q (o :: rest) a (W.alloc (.cells y e)) := by
  obtain ⟨i0, hi, hz0, hz1, hz2⟩ := info_parts hinfo
  refine wpList_append_own _ hgd s x t ho base e i0 z size bytes ht hi hz0 hz1 hz2 hz hsz v n xs hs (HO.alloc _) ⟨W.heap.size, 0, none⟩ 1 1 y.toList hx (by simp [hy]) ?_ h1 (by simpa [maxLen] using hn) hl (by simp; omega) ?_
  · intro j u hj
    have ha : (⟨W.heap.size, 0, none⟩ : Addr).add j = ⟨W.heap.size, j, none⟩ := by unfold Addr.add; split <;> simp_all
    rw [ha, cell_of_row _ _ _ _ _ _ (heap_new W _)]
    simpa using hj
  · intro v1 w1 hown hg _
    have hown' := hown
    rcases hown.2 with ⟨rfl, h0⟩ | ⟨g, cap, cur, rfl, _⟩
    · omega
    · refine h g cap w1 hown' ((HB.alloc hbase _).grown hg (by simp; omega) (own_base HO)) ?_ (by have := hg.size; simp at this; omega)
      intro k b hk hne
      rw [hg.block k (by have := heap_lt hk; simp; omega) (fun e => hne e.symm)]
      exact heap_keep hk
end
end Go.Proofs.Ytflkgoggnomehaa
set_option linter.unusedVariables false
set_option linter.unusedSimpArgs false
namespace Go.Proofs.Ytflkgoggnomehaa
open Go.RowKit
/-- The bytes below k that are in. -/
def Cls.below (a : Cls) (k : Nat) : List Nat := (List.range k).filter a.mem
def Cls.bytes (a : Cls) : List Nat := a.below 256
def u8s (l : List Nat) : List Value := l.map fun (b : Nat) => Value.int .u8 (b : Int)
theorem Cls.below_yes {a : Cls} {k : Nat} (h : a.mem k = true) : a.below (k + 1) = a.below k ++ [k] := by
  unfold below; rw [List.range_succ, List.filter_append]; simp [h]
theorem Cls.below_no {a : Cls} {k : Nat} (h : a.mem k = false) : a.below (k + 1) = a.below k := by
  unfold below; rw [List.range_succ, List.filter_append]; simp [h]
theorem Cls.below_le (a : Cls) (k : Nat) : (a.below k).length ≤ k := by
  unfold below
  exact Nat.le_trans (List.length_filter_le _ _) (by simp)
theorem u8s_snoc (l : List Nat) (k : Nat) : u8s (l ++ [k]) = u8s l ++ [.int .u8 (k : Int)] := by simp [u8s]
theorem infoU8 : (Try.prog.info? 5).map (fun i => (i.zero, i.size, i.bytes)) = some (some (.int .u8 0), 1, 1) := by kernel_rfl
def OwnU8 (w : World) (l : List Nat) (e : Ending) (w' : World) : Prop := ∃ v, e = .returned v ∧ w'.ownsRow w.heap.size 5 1 v l.length (u8s l) ∧ Below w.heap.size w w'
set_option maxRecDepth 100000 in
theorem bytes_c (a : Cls) (ha : a.ok) (w : World) : Calls Try.prog 94 #[V4 a] w (OwnU8 w a.bytes) := by
  have HA := Lib.hid ha; clear ha
  have hv := zeroSet.1
  go_enter Try.func94, Try.ntmps94
  go_wp2_with (first | (go_at_call 114; refine (open_c a HA.out _).mono ?_; rintro e w1 ⟨rfl, hb1⟩; unfold setVal) | (refine wpList_store_row rfl 168 _ _ rfl w1.heap.size (setCells a.mem) rfl rfl _ _ (heap_new _ _) (infoSet _) (by rw [setCells_size]; rfl) (setCells_one _) ?_; rw [World.setRow_alloc_new]))
  have hz := hb1.size
  have hb := ((Below.refl _ _).alloc (Nat.le_refl _) _).trans (hb1.mono (by simp))
  simp only [World.size_alloc] at hz
  have HB1 := Lib.hid hb; clear hb1 hb
  go_loopw [4, 5] (fun v i wr => ∃ k : Nat, k ≤ 256 ∧ i = .int .i64 k ∧ Below w.heap.size w wr ∧ w.heap.size < w1.heap.size ∧
      wr.heap[w1.heap.size]? = some (.cells (setCells a.mem) 168 (0, 0)) ∧ wr.ownsRow w.heap.size 5 1 v (a.below k).length (u8s (a.below k))) (fun _ i _ => 256 - (intOf i).toNat)
  case atStart =>
    exact ⟨0, by omega, rfl, HB1.out.alloc (by omega) _, by omega, heap_new _ _, by rw [show a.below 0 = [] from rfl]; exact World.ownsRow_nil _ _ _ _⟩
  case round =>
    obtain ⟨k, hk, rfl, hB, hl, h2, hO⟩ := hrel
    by_cases hlt : k < 256
    · have c2 : wr.cell? ⟨w1.heap.size, k, none⟩ = some (.bool (a.mem k)) := by rw [cell_of_row _ _ _ _ _ _ h2, setCells_at _ _ hlt]
      have H2 := Lib.hid h2; have HO := Lib.hid hO; have HB := Lib.hid hB; have hs := hB.size; clear h2 hO hB
      cases hf : a.mem k
      · rw [hf] at c2
        have HF := Lib.hid hf; clear hf
        go_wp2
        go_roundw
        case rel => exact ⟨k + 1, by omega, by go_num, HB.out, hl, H2.out, by rw [Cls.below_no HF.out]; exact HO.out⟩
        case measure => simp [intOf]; omega
      · rw [hf] at c2
        have HF := Lib.hid hf; clear hf
        have hle := a.below_le k
        go_wp2_with (at_builtin; go_must (refine app1 w.heap.size rfl (.tmp 15) (.tmp 18) 71 5 (.int .u8 0) 1 1 rfl Try.underlying71 infoU8 rfl (by decide) _ _ _ #[.int .u8 (k : Int)] rfl (by simp [Value.oneCell']) rfl rfl HO.out HB.out hs (by omega) (by omega) ?_); intro g c w2 hO2 hB2 hk2 hs2)
        go_roundw
        case rel =>
          refine ⟨k + 1, by omega, by go_num, hB2, hl, hk2 _ _ H2.out (own_ne HO.out H2.out (by decide)), ?_⟩
          rw [Cls.below_yes HF.out, u8s_snoc, List.length_append]
          exact hO2
        case measure => simp [intOf]; omega
    · obtain rfl : k = 256 := by omega
      have H2 := Lib.hid h2; have HO := Lib.hid hO; have HB := Lib.hid hB; have hs := hB.size; clear h2 hO hB
      go_wp2
      go_ret
      exact ⟨_, rfl, HO.out, HB.out⟩
end Go.Proofs.Ytflkgoggnomehaa
namespace Go.Proofs.Ytflkgoggnomehaa
/-- How many of the first n fit. -/
def cnt (p : Nat → Bool) (n : Nat) : Nat := ((List.range n).filter p).length
theorem cnt_add (p : Nat → Bool) (a b : Nat) : cnt p (a + b) = cnt p a + cnt (fun j => p (a + j)) b := by
  unfold cnt
  rw [List.range_add, List.filter_append, List.length_append, List.filter_map, List.length_map]
  rfl
theorem cnt_congr {p q : Nat → Bool} {n : Nat} (h : ∀ i, i < n → p i = q i) : cnt p n = cnt q n := by
  unfold cnt
  rw [List.filter_congr (fun x hx => h x (by simpa using hx))]
theorem and_split (Q R M m : Nat) (hR : R < 256) (hm : m < 256) : (256 * Q + R) &&& (256 * M + m) = 256 * (Q &&& M) + (R &&& m) := by
  have hRm : R &&& m < 256 := Nat.lt_of_le_of_lt Nat.and_le_left hR
  apply Nat.eq_of_testBit_eq
  intro i
  rw [Nat.testBit_and, show 256 = 2 ^ 8 from rfl, Nat.testBit_two_pow_mul_add _ hR, Nat.testBit_two_pow_mul_add _ hm, Nat.testBit_two_pow_mul_add _ hRm]
  by_cases h : i < 8
  · simp [h]
  · simp [h]
def on1 (x : Nat) : Nat := (x / 2 &&& 6148914691236517205) + (x &&& 6148914691236517205)
def on2 (x : Nat) : Nat := (x / 4 &&& 3689348814741910323) + (x &&& 3689348814741910323)
def on3 (x : Nat) : Nat := (x / 16 + x) &&& 1085102592571150095
def on4 (x : Nat) : Nat := x + x / 256
def on5 (x : Nat) : Nat := x + x / 65536
def on6 (x : Nat) : Nat := x + x / 4294967296
/-- One byte's. -/
def by1 (r : Nat) : Nat := (r / 2 &&& 85) + (r &&& 85)
def by2 (u : Nat) : Nat := (u / 4 &&& 51) + (u &&& 51)
/-- The masks of n bytes. -/
def mask (m : Nat) : Nat → Nat
  | 0 => 0
  | n + 1 => 256 * mask m n + m
def s1 (n x : Nat) : Nat := (x / 2 &&& mask 85 n) + (x &&& mask 85 n)
def s2 (n x : Nat) : Nat := (x / 4 &&& mask 51 n) + (x &&& mask 51 n)
theorem low1 : ∀ (c : Fin 2) (r : Fin 256), (128 * c.val + r.val / 2) &&& 85 = r.val / 2 &&& 85 := by decide +kernel
theorem low2 : ∀ (c : Fin 4) (r : Fin 256), (64 * c.val + r.val / 4) &&& 51 = r.val / 4 &&& 51 := by decide +kernel
theorem s1_step (n q r : Nat) (hr : r < 256) : s1 (n + 1) (256 * q + r) = 256 * s1 n q + by1 r := by
  unfold s1 by1
  rw [show mask 85 (n + 1) = 256 * mask 85 n + 85 from rfl]
  have e : (256 * q + r) / 2 = 256 * (q / 2) + (128 * (q % 2) + r / 2) := by omega
  rw [e, and_split _ _ _ _ (by omega) (by omega), and_split _ _ _ _ hr (by omega)]
  have l := low1 ⟨q % 2, by omega⟩ ⟨r, hr⟩
  simp only at l
  rw [l]
  omega
theorem s2_step (n q r : Nat) (hr : r < 256) : s2 (n + 1) (256 * q + r) = 256 * s2 n q + by2 r := by
  unfold s2 by2
  rw [show mask 51 (n + 1) = 256 * mask 51 n + 51 from rfl]
  have e : (256 * q + r) / 4 = 256 * (q / 4) + (64 * (q % 4) + r / 4) := by omega
  rw [e, and_split _ _ _ _ (by omega) (by omega), and_split _ _ _ _ hr (by omega)]
  have l := low2 ⟨q % 4, by omega⟩ ⟨r, hr⟩
  simp only at l
  rw [l]
  omega
theorem by_facts : ∀ r : Fin 256, by1 r.val < 256 ∧ by2 (by1 r.val) < 256 ∧ by2 (by1 r.val) % 16 ≤ 4 ∧ by2 (by1 r.val) / 16 ≤ 4 ∧ by2 (by1 r.val) / 16 + by2 (by1 r.val) % 16 = cnt r.val.testBit 8 := by decide +kernel
/-- The bytes, the lowest first, put together. -/
def join : List Nat → Nat
  | [] => 0
  | b :: l => 256 * join l + b
theorem s2s1_join : ∀ (l : List Nat), (∀ b ∈ l, b < 256) → s2 l.length (s1 l.length (join l)) = join (l.map fun b => by2 (by1 b))
  | [], _ => by simp [s1, s2, join, mask]
  | b :: l, h => by
    have hb : b < 256 := h b (by simp)
    have ih := s2s1_join l (fun x hx => h x (by simp [hx]))
    rw [List.length_cons, List.map_cons, join, join, s1_step _ _ _ hb, s2_step _ _ _ (by_facts ⟨b, hb⟩).1, ih]
theorem and15 (n : Nat) : n &&& 15 = n % 16 := Nat.and_two_pow_sub_one_eq_mod n 4
theorem s3_join : ∀ (l : List Nat), (∀ c ∈ l, c % 16 ≤ 4 ∧ c / 16 ≤ 4) → (join l / 16 + join l) &&& mask 15 l.length = join (l.map fun c => c / 16 + c % 16) ∧ join l % 16 ≤ 4
  | [], _ => by simp [join, mask]
  | c :: l, h => by
    obtain ⟨h1, h2⟩ := h c (by simp)
    obtain ⟨ih, hl⟩ := s3_join l (fun x hx => h x (by simp [hx]))
    rw [List.length_cons, List.map_cons]
    simp only [join, mask]
    have e : (256 * join l + c) / 16 + (256 * join l + c) = 256 * (join l / 16 + join l) + (16 * (join l % 16) + c / 16 + c) := by omega
    refine ⟨?_, by omega⟩
    rw [e, and_split _ _ _ _ (by omega) (by omega), ih, and15]
    omega
theorem on_sum (c0 c1 c2 c3 c4 c5 c6 c7 : Nat) (h0 : c0 ≤ 8) (h1 : c1 ≤ 8) (h2 : c2 ≤ 8) (h3 : c3 ≤ 8) (h4 : c4 ≤ 8) (h5 : c5 ≤ 8) (h6 : c6 ≤ 8) (h7 : c7 ≤ 8) :
    on6 (on5 (on4 (join [c0, c1, c2, c3, c4, c5, c6, c7]))) % 128 = c0 + c1 + c2 + c3 + c4 + c5 + c6 + c7 := by
  have ej : join [c0, c1, c2, c3, c4, c5, c6, c7] = 256 * (256 * (256 * (256 * (256 * (256 * (256 * c7 + c6) + c5) + c4) + c3) + c2) + c1) + c0 := by simp [join]
  have e4 : on4 (join [c0, c1, c2, c3, c4, c5, c6, c7]) = 256 * (256 * (256 * (256 * (256 * (256 * (256 * c7 + (c6 + c7)) + (c5 + c6)) + (c4 + c5)) + (c3 + c4)) + (c2 + c3)) + (c1 + c2)) + (c0 + c1) := by
    rw [ej]; unfold on4
    rw [Nat.mul_add_div (by omega), Nat.div_eq_of_lt (show c0 < 256 by omega)]
    omega
  have e5 : on5 (on4 (join [c0, c1, c2, c3, c4, c5, c6, c7])) = 65536 * (65536 * (65536 * (256 * c7 + (c6 + c7)) + (256 * (c5 + c6 + c7) + (c4 + c5 + c6 + c7))) + (256 * (c3 + c4 + c5 + c6) + (c2 + c3 + c4 + c5))) + (256 * (c1 + c2 + c3 + c4) + (c0 + c1 + c2 + c3)) := by
    rw [e4]; unfold on5
    have hA : 256 * (256 * (256 * (256 * (256 * (256 * (256 * c7 + (c6 + c7)) + (c5 + c6)) + (c4 + c5)) + (c3 + c4)) + (c2 + c3)) + (c1 + c2)) + (c0 + c1) = 65536 * (256 * (256 * (256 * (256 * (256 * c7 + (c6 + c7)) + (c5 + c6)) + (c4 + c5)) + (c3 + c4)) + (c2 + c3)) + (256 * (c1 + c2) + (c0 + c1)) := by omega
    rw [hA, Nat.mul_add_div (by omega), Nat.div_eq_of_lt (show 256 * (c1 + c2) + (c0 + c1) < 65536 by omega)]
    omega
  rw [e5]
  unfold on6
  have hB : 65536 * (65536 * (65536 * (256 * c7 + (c6 + c7)) + (256 * (c5 + c6 + c7) + (c4 + c5 + c6 + c7))) + (256 * (c3 + c4 + c5 + c6) + (c2 + c3 + c4 + c5))) + (256 * (c1 + c2 + c3 + c4) + (c0 + c1 + c2 + c3)) = 4294967296 * (65536 * (256 * c7 + (c6 + c7)) + (256 * (c5 + c6 + c7) + (c4 + c5 + c6 + c7))) + (65536 * (256 * (c3 + c4 + c5 + c6) + (c2 + c3 + c4 + c5)) + (256 * (c1 + c2 + c3 + c4) + (c0 + c1 + c2 + c3))) := by omega
  rw [hB, Nat.mul_add_div (by omega), Nat.div_eq_of_lt (show 65536 * (256 * (c3 + c4 + c5 + c6) + (c2 + c3 + c4 + c5)) + (256 * (c1 + c2 + c3 + c4) + (c0 + c1 + c2 + c3)) < 4294967296 by omega)]
  omega
theorem mask85 : mask 85 8 = 6148914691236517205 := by simp [mask]
theorem mask51 : mask 51 8 = 3689348814741910323 := by simp [mask]
theorem mask15 : mask 15 8 = 1085102592571150095 := by simp [mask]
theorem on_join (b0 b1 b2 b3 b4 b5 b6 b7 : Nat) (h0 : b0 < 256) (h1 : b1 < 256) (h2 : b2 < 256) (h3 : b3 < 256) (h4 : b4 < 256) (h5 : b5 < 256) (h6 : b6 < 256) (h7 : b7 < 256) :
    on6 (on5 (on4 (on3 (on2 (on1 (join [b0, b1, b2, b3, b4, b5, b6, b7])))))) % 128 =
      cnt b0.testBit 8 + cnt b1.testBit 8 + cnt b2.testBit 8 + cnt b3.testBit 8 + cnt b4.testBit 8 + cnt b5.testBit 8 + cnt b6.testBit 8 + cnt b7.testBit 8 := by
  have hb : ∀ b ∈ [b0, b1, b2, b3, b4, b5, b6, b7], b < 256 := by simp; omega
  have hs := s2s1_join [b0, b1, b2, b3, b4, b5, b6, b7] hb
  have e2 : on2 (on1 (join [b0, b1, b2, b3, b4, b5, b6, b7])) = join ([b0, b1, b2, b3, b4, b5, b6, b7].map fun b => by2 (by1 b)) := by
    rw [← hs]; unfold on2 on1 s2 s1; simp only [List.length_cons, List.length_nil, Nat.reduceAdd, mask85, mask51]
  have h3' := (s3_join ([b0, b1, b2, b3, b4, b5, b6, b7].map fun b => by2 (by1 b)) (fun c hc => by
    obtain ⟨b, hm, rfl⟩ := List.mem_map.1 hc
    have f := by_facts ⟨b, hb b hm⟩
    exact ⟨f.2.2.1, f.2.2.2.1⟩)).1
  have e3 : on3 (on2 (on1 (join [b0, b1, b2, b3, b4, b5, b6, b7]))) = join (([b0, b1, b2, b3, b4, b5, b6, b7].map fun b => by2 (by1 b)).map fun c => c / 16 + c % 16) := by
    rw [e2, ← h3']; unfold on3; simp only [List.length_map, List.length_cons, List.length_nil, Nat.reduceAdd, mask15]
  have hm : ∀ b, b < 256 → by2 (by1 b) / 16 + by2 (by1 b) % 16 = cnt b.testBit 8 ∧ by2 (by1 b) / 16 + by2 (by1 b) % 16 ≤ 8 := fun b h => by
    have f := by_facts ⟨b, h⟩
    exact ⟨f.2.2.2.2, by have := f.2.2.1; have := f.2.2.2.1; simp only at *; omega⟩
  rw [e3]
  simp only [List.map_cons, List.map_nil]
  rw [(hm b0 h0).1, (hm b1 h1).1, (hm b2 h2).1, (hm b3 h3).1, (hm b4 h4).1, (hm b5 h5).1, (hm b6 h6).1, (hm b7 h7).1]
  exact on_sum _ _ _ _ _ _ _ _ ((hm b0 h0).1 ▸ (hm b0 h0).2) ((hm b1 h1).1 ▸ (hm b1 h1).2) ((hm b2 h2).1 ▸ (hm b2 h2).2) ((hm b3 h3).1 ▸ (hm b3 h3).2) ((hm b4 h4).1 ▸ (hm b4 h4).2) ((hm b5 h5).1 ▸ (hm b5 h5).2) ((hm b6 h6).1 ▸ (hm b6 h6).2) ((hm b7 h7).1 ▸ (hm b7 h7).2)
/-- The bytes of a number below 2 to the 64. -/
theorem ones_eq {x : Nat} (hx : x < w64) : on6 (on5 (on4 (on3 (on2 (on1 x))))) % 128 = cnt x.testBit 64 := by
  unfold w64 at hx
  have hj : x = join [x % 256, x / 256 % 256, x / 65536 % 256, x / 16777216 % 256, x / 4294967296 % 256, x / 1099511627776 % 256, x / 281474976710656 % 256, x / 72057594037927936 % 256] := by
    simp only [join]; omega
  have hb : ∀ i j, j < 8 → x.testBit (8 * i + j) = (x / 2 ^ (8 * i) % 256).testBit j := by
    intro i j h
    rw [show 256 = 2 ^ 8 from rfl, Nat.testBit_mod_two_pow, Nat.testBit_div_two_pow]
    simp [h, Nat.add_comm]
  have hc : ∀ i, cnt (fun j => x.testBit (8 * i + j)) 8 = cnt (x / 2 ^ (8 * i) % 256).testBit 8 := fun i => cnt_congr fun j h => hb i j h
  have h64 : cnt x.testBit 64 = cnt (x % 256).testBit 8 + cnt (x / 256 % 256).testBit 8 + cnt (x / 65536 % 256).testBit 8 + cnt (x / 16777216 % 256).testBit 8 + cnt (x / 4294967296 % 256).testBit 8 + cnt (x / 1099511627776 % 256).testBit 8 + cnt (x / 281474976710656 % 256).testBit 8 + cnt (x / 72057594037927936 % 256).testBit 8 := by
    rw [show 64 = 56 + 8 from rfl, cnt_add, show 56 = 48 + 8 from rfl, cnt_add, show 48 = 40 + 8 from rfl, cnt_add, show 40 = 32 + 8 from rfl, cnt_add, show 32 = 24 + 8 from rfl, cnt_add, show 24 = 16 + 8 from rfl, cnt_add, show 16 = 8 + 8 from rfl, cnt_add]
    have g0 := hc 0; have g1 := hc 1; have g2 := hc 2; have g3 := hc 3; have g4 := hc 4; have g5 := hc 5; have g6 := hc 6; have g7 := hc 7
    simp only [Nat.mul_zero, Nat.zero_add, Nat.pow_zero, Nat.div_one, Nat.reduceMul, Nat.reducePow, Nat.reduceAdd] at *
    rw [g0, g1, g2, g3, g4, g5, g6, g7]
  rw [h64]
  conv => lhs; rw [hj]
  exact on_join _ _ _ _ _ _ _ _ (by omega) (by omega) (by omega) (by omega) (by omega) (by omega) (by omega) (by omega)
end Go.Proofs.Ytflkgoggnomehaa
set_option linter.unusedVariables false
set_option linter.unusedSimpArgs false
namespace Go.Proofs.Ytflkgoggnomehaa
open Go.RowKit
theorem and_le' (a : Nat) {m : Nat} : a &&& m ≤ m := Nat.and_le_right
theorem o1_int {x : Nat} (hx : x < w64) : IntKind.u64.wrap (bits .and .u64 ((x : Int) / 2) 6148914691236517205 + bits .and .u64 (x : Int) 6148914691236517205) = ((on1 x : Nat) : Int) := by
  have hm : (6148914691236517205 : Nat) < w64 := by unfold w64; omega
  rw [show ((x : Int) / 2) = ((x / 2 : Nat) : Int) by omega, show (6148914691236517205 : Int) = ((6148914691236517205 : Nat) : Int) from rfl, bits_and (Nat.lt_of_le_of_lt (Nat.div_le_self _ _) hx) hm, bits_and hx hm, IntKind.wrap_u64]
  have h1 := and_le' (x / 2) (m := 6148914691236517205); have h2 := and_le' x (m := 6148914691236517205)
  unfold on1
  omega
theorem o2_int {x : Nat} (hx : x < w64) : IntKind.u64.wrap (bits .and .u64 ((x : Int) / 4) 3689348814741910323 + bits .and .u64 (x : Int) 3689348814741910323) = ((on2 x : Nat) : Int) := by
  have hm : (3689348814741910323 : Nat) < w64 := by unfold w64; omega
  rw [show ((x : Int) / 4) = ((x / 4 : Nat) : Int) by omega, show (3689348814741910323 : Int) = ((3689348814741910323 : Nat) : Int) from rfl, bits_and (Nat.lt_of_le_of_lt (Nat.div_le_self _ _) hx) hm, bits_and hx hm, IntKind.wrap_u64]
  have h1 := and_le' (x / 4) (m := 3689348814741910323); have h2 := and_le' x (m := 3689348814741910323)
  unfold on2
  omega
theorem on1_lt (x : Nat) : on1 x < w64 := by
  have h1 := and_le' (x / 2) (m := 6148914691236517205); have h2 := and_le' x (m := 6148914691236517205)
  unfold on1 w64; omega
theorem on2_le (x : Nat) : on2 x ≤ 7378697629483820646 := by
  have h1 := and_le' (x / 4) (m := 3689348814741910323); have h2 := and_le' x (m := 3689348814741910323)
  unfold on2; omega
theorem o3_int {x : Nat} (hx : x ≤ 7378697629483820646) : bits .and .u64 (IntKind.u64.wrap ((x : Int) / 16 + (x : Int))) 1085102592571150095 = ((on3 x : Nat) : Int) := by
  have hm : (1085102592571150095 : Nat) < w64 := by unfold w64; omega
  rw [show IntKind.u64.wrap ((x : Int) / 16 + (x : Int)) = ((x / 16 + x : Nat) : Int) by rw [IntKind.wrap_u64]; omega, show (1085102592571150095 : Int) = ((1085102592571150095 : Nat) : Int) from rfl, bits_and (by unfold w64; omega) hm]
  rfl
theorem on3_le (x : Nat) : on3 x ≤ 1085102592571150095 := and_le' _
theorem o4_int {x : Nat} (hx : x ≤ 1085102592571150095) : IntKind.u64.wrap ((x : Int) + (x : Int) / 256) = ((on4 x : Nat) : Int) := by rw [IntKind.wrap_u64]; unfold on4; omega
theorem on4_le {x : Nat} (hx : x ≤ 1085102592571150095) : on4 x ≤ 1090000000000000000 := by unfold on4; omega
theorem o5_int {x : Nat} (hx : x ≤ 1090000000000000000) : IntKind.u64.wrap ((x : Int) + (x : Int) / 65536) = ((on5 x : Nat) : Int) := by rw [IntKind.wrap_u64]; unfold on5; omega
theorem on5_le {x : Nat} (hx : x ≤ 1090000000000000000) : on5 x ≤ 1100000000000000000 := by unfold on5; omega
theorem o6_int {x : Nat} (hx : x ≤ 1100000000000000000) : IntKind.u64.wrap ((x : Int) + (x : Int) / 4294967296) = ((on6 x : Nat) : Int) := by rw [IntKind.wrap_u64]; unfold on6; omega
theorem on6_le {x : Nat} (hx : x ≤ 1100000000000000000) : on6 x ≤ 1200000000000000000 := by unfold on6; omega
theorem ones_c (x : Nat) (hx : x < w64) (w : World) : Calls Try.prog 88 #[.int .u64 x] w fun e w' => e = .returned (.int .i64 (cnt x.testBit 64)) ∧ w = w' := by
  have H := Lib.hid hx; clear hx
  go_enter Try.func88, Try.ntmps88
  go_wp2
  go_ret
  refine ⟨ret_v ?_, rfl⟩
  rw [← ones_eq H.out]
  have hx := H.out
  simp only [Array.getD_eq_getD_getElem?, List.getElem?_toArray, List.getElem?_cons_succ, List.getElem?_cons_zero, Option.getD_some]
  rw [o1_int hx, o2_int (on1_lt x), o3_int (on2_le _), o4_int (on3_le _), o5_int (on4_le (on3_le _)), o6_int (on5_le (on4_le (on3_le _)))]
  have hl := on6_le (on5_le (on4_le (on3_le (on2 (on1 x)))))
  generalize on6 (on5 (on4 (on3 (on2 (on1 x))))) = n at hl ⊢
  have e1 : wrap64 (n : Int) = (n : Int) := by unfold wrap64; omega
  rw [e1, show (127 : Int) = ((127 : Nat) : Int) from rfl, (bits_nat .i64 62 (by decide) (fun m h0 h1 => by rw [IntKind.wrap_i64]; omega) n 127 (by omega) (by omega)).1]
  exact congrArg (fun z : Nat => Value.int .i64 (z : Int)) (Nat.and_two_pow_sub_one_eq_mod n 7)
theorem Cls.count_eq (a : Cls) : a.bytes.length = cnt a.c0.testBit 64 + cnt a.c1.testBit 64 + cnt a.c2.testBit 64 + cnt a.c3.testBit 64 := by
  show cnt a.mem 256 = _
  have h : ∀ k, k < 4 → cnt (fun j => a.mem (64 * k + j)) 64 = cnt (a.word k).testBit 64 := fun k hk => cnt_congr fun j hj => by
    unfold Cls.mem
    rw [show (64 * k + j) / 64 = k by omega, show (64 * k + j) % 64 = j by omega]
  have h0 := h 0 (by omega); have h1 := h 1 (by omega); have h2 := h 2 (by omega); have h3 := h 3 (by omega)
  rw [show 256 = 192 + 64 from rfl, cnt_add, show 192 = 128 + 64 from rfl, cnt_add, show 128 = 64 + 64 from rfl, cnt_add]
  simp only [Nat.mul_zero, Nat.zero_add, Nat.reduceMul] at h0 h1 h2 h3
  rw [show cnt a.mem 64 = cnt a.c0.testBit 64 from h0]
  have g1 : cnt (fun j => a.mem (64 + j)) 64 = cnt a.c1.testBit 64 := h1
  have g2 : cnt (fun j => a.mem (64 + 64 + j)) 64 = cnt a.c2.testBit 64 := h2
  have g3 : cnt (fun j => a.mem (128 + 64 + j)) 64 = cnt a.c3.testBit 64 := h3
  rw [g1, g2, g3]
set_option maxRecDepth 100000 in
theorem count_c (a : Cls) (ha : a.ok) (w : World) : Calls Try.prog 63 #[V4 a] w fun e w' => e = .returned (.int .i64 a.bytes.length) ∧ Below w.heap.size w w' := by
  have HA := Lib.hid ha; clear ha
  have i0 : ∀ w, (Instr.index 43 (V4 a) (.int .i64 0)).run Try.prog w = .ok (.int .u64 a.c0) w := fun _ => by kernel_rfl
  have i1 : ∀ w, (Instr.index 43 (V4 a) (.int .i64 1)).run Try.prog w = .ok (.int .u64 a.c1) w := fun _ => by kernel_rfl
  have i2 : ∀ w, (Instr.index 43 (V4 a) (.int .i64 2)).run Try.prog w = .ok (.int .u64 a.c2) w := fun _ => by kernel_rfl
  have i3 : ∀ w, (Instr.index 43 (V4 a) (.int .i64 3)).run Try.prog w = .ok (.int .u64 a.c3) w := fun _ => by kernel_rfl
  have l0 : cnt a.c0.testBit 64 ≤ 64 := Nat.le_trans (List.length_filter_le _ _) (by simp)
  have l1 : cnt a.c1.testBit 64 ≤ 64 := Nat.le_trans (List.length_filter_le _ _) (by simp)
  have l2 : cnt a.c2.testBit 64 ≤ 64 := Nat.le_trans (List.length_filter_le _ _) (by simp)
  have l3 : cnt a.c3.testBit 64 ≤ 64 := Nat.le_trans (List.length_filter_le _ _) (by simp)
  go_enter Try.func63, Try.ntmps63
  go_wp2_with fail
  refine wp_loop_rounds 5 ?_
  rw [rounds_succ]
  go_wp2_with (go_at_call 88; refine (ones_c a.c0 HA.out.1 _).mono ?_; rintro e w' ⟨rfl, rfl⟩)
  rw [rounds_succ]
  go_wp2_with (go_at_call 88; refine (ones_c a.c1 HA.out.2.1 _).mono ?_; rintro e w' ⟨rfl, rfl⟩)
  rw [rounds_succ]
  go_wp2_with (go_at_call 88; refine (ones_c a.c2 HA.out.2.2.1 _).mono ?_; rintro e w' ⟨rfl, rfl⟩)
  rw [rounds_succ]
  go_wp2_with (go_at_call 88; refine (ones_c a.c3 HA.out.2.2.2 _).mono ?_; rintro e w' ⟨rfl, rfl⟩)
  rw [rounds_succ]
  go_wp2_with fail
  go_ret
  refine ⟨ret_v ?_, (Below.refl _ _).alloc (Nat.le_refl _) _⟩
  rw [Cls.count_eq]
  exact congrArg (Value.int .i64) (by omega)
theorem put_c (a : Cls) (ha : a.ok) (x : Nat) (hx : x < 256) (g : Nat) (w : World) (hc : w.heap[g]? = some (.cells a.cells 43 (0, 0))) :
    Calls Try.prog 143 #[.pointer (some ⟨g, 0, none⟩), .int .u8 (x : Int)] w fun e w' => e = .returned (.tuple #[]) ∧ w' = (w.setCell ⟨g, x / 64, none⟩ (.int .u64 ((a.word (x / 64) ||| 2 ^ (x % 64) : Nat) : Int))).drew := by
  have c0 : w.cell? ⟨g, x / 64, none⟩ = some (.int .u64 (a.word (x / 64))) := by rw [cell_of_row _ _ _ _ _ _ hc]; exact a.cells_at (x / 64) (by omega)
  have f0 : w.frozen? ⟨g, x / 64, none⟩ = false := frozen_of_row _ _ _ _ _ hc
  have HC := Lib.hid hc; have HA := Lib.hid ha; clear hc ha
  go_enter Try.func143, Try.ntmps143
  go_wp2
  go_region
  go_wp2
  go_end0
  exact ⟨rfl, by rw [bits_put HA.out]⟩
end Go.Proofs.Ytflkgoggnomehaa
set_option linter.unusedVariables false
set_option linter.unusedSimpArgs false
namespace Go.Proofs.Ytflkgoggnomehaa
open Go.RowKit
/-- Is a byte in one of some ranges? -/
def inRanges (l : List (Nat × Nat)) (i : Nat) : Bool := l.any fun p => decide (p.1 ≤ i) && decide (i ≤ p.2)
end Go.Proofs.Ytflkgoggnomehaa
