import Derived.Below
import Derived.ChangeArms
import Derived.ChangeOld
import Derived.Deep.Draws
import Derived.Laws.Bits64
import Derived.Laws.Bits64b
import Derived.Laws.BitsAllLaws
import Derived.Laws.IdiomArrays
import Derived.Laws.Rows
import Derived.Laws.StructEq
import Derived.Laws.Tables
import Derived.Lib.Hide
import Derived.Lib.LaidTab
import Derived.OpenShut
import Derived.ProofKit
import Derived.Shelf.LaysM
import Derived.Shelf.Strconv.Itoa3
import Derived.Shelf.Strings.Builder1
import Derived.Shelf.Strings.BuilderF
import Derived.Shelf.Strings.BuilderK
import Derived.SizedLaws
import Derived.Test.YtldjdcdoegjmoaaDoorProg
import Derived.Test.YtldjdcdoegjmoaaDoorRows
import Derived.WalkKit
import Derived.WideShapes
namespace Go.Proofs.YtldjdcdoegjmoaaDoor
/-- Four words. -/
structure Cls where
  c0 : Nat
  c1 : Nat
  c2 : Nat
  c3 : Nat
def w64 : Nat := 18446744073709551616
theorem w64_pow : w64 = 2 ^ 64 := rfl
namespace Cls
def word (c : Cls) (i : Nat) : Nat := if i = 0 then c.c0 else if i = 1 then c.c1 else if i = 2 then c.c2 else c.c3
def ok (c : Cls) : Prop := c.c0 < w64 ∧ c.c1 < w64 ∧ c.c2 < w64 ∧ c.c3 < w64
def mem (c : Cls) (b : Nat) : Bool := (c.word (b / 64)).testBit (b % 64)
def val (c : Cls) : Value := .agg #[.int .u64 (c.c0 : Int), .int .u64 (c.c1 : Int), .int .u64 (c.c2 : Int), .int .u64 (c.c3 : Int)]
def cells (c : Cls) : Array Value := #[.int .u64 (c.c0 : Int), .int .u64 (c.c1 : Int), .int .u64 (c.c2 : Int), .int .u64 (c.c3 : Int)]
theorem word_lt {c : Cls} (h : c.ok) (i : Nat) : c.word i < 2 ^ 64 := by
  unfold word
  have h' := h
  unfold ok at h'
  rw [w64_pow] at h'
  split
  · exact h'.1
  · split
    · exact h'.2.1
    · split
      · exact h'.2.2.1
      · exact h'.2.2.2
theorem ext_words {a b : Cls} (h0 : a.c0 = b.c0) (h1 : a.c1 = b.c1) (h2 : a.c2 = b.c2) (h3 : a.c3 = b.c3) : a = b := by
  cases a; cases b; simp_all
theorem ext_mem {a b : Cls} (ha : a.ok) (hb : b.ok) (h : ∀ i, i < 256 → a.mem i = b.mem i) : a = b := by
  have key : ∀ k, k < 4 → a.word k = b.word k := by
    intro k hk
    apply Nat.eq_of_testBit_eq
    intro i
    by_cases hi : i < 64
    · have := h (64 * k + i) (by omega)
      unfold mem at this
      rw [show (64 * k + i) / 64 = k by omega, show (64 * k + i) % 64 = i by omega] at this
      exact this
    · have h1 : a.word k < 2 ^ i := Nat.lt_of_lt_of_le (word_lt ha k) (Nat.pow_le_pow_right (by omega) (by omega))
      have h2 : b.word k < 2 ^ i := Nat.lt_of_lt_of_le (word_lt hb k) (Nat.pow_le_pow_right (by omega) (by omega))
      rw [Nat.testBit_lt_two_pow h1, Nat.testBit_lt_two_pow h2]
  exact ext_words (key 0 (by omega)) (key 1 (by omega)) (key 2 (by omega)) (key 3 (by omega))
def no (a : Nat) : Nat := w64 - 1 - a
def not (a : Cls) : Cls := ⟨no a.c0, no a.c1, no a.c2, no a.c3⟩
theorem no_lt (a : Nat) : no a < w64 := by unfold no w64; omega
theorem testBit_no (a i : Nat) (ha : a < w64) (hi : i < 64) : (no a).testBit i = !a.testBit i := by
  have h : no a = 2 ^ 64 - (a + 1) := by unfold no w64; omega
  rw [h, Nat.testBit_two_pow_sub_succ (by rw [← w64_pow]; exact ha)]
  simp [hi]
theorem or_lt {a b : Nat} (ha : a < w64) (hb : b < w64) : a ||| b < w64 := by rw [w64_pow] at *; exact Nat.or_lt_two_pow ha hb
theorem ok_not (a : Cls) : a.not.ok := ⟨no_lt _, no_lt _, no_lt _, no_lt _⟩
theorem word_not (a : Cls) (k : Nat) : (a.not).word k = no (a.word k) := by unfold word not; split <;> (try split) <;> (try split) <;> rfl
theorem mem_not {a : Cls} (ha : a.ok) (i : Nat) : a.not.mem i = !a.mem i := by
  unfold mem; rw [word_not, testBit_no _ _ (by rw [w64_pow]; exact word_lt ha _) (Nat.mod_lt _ (by omega))]
/-- The class of a predicate. -/
def wordOf (f : Nat → Bool) (base : Nat) : Nat → Nat
  | 0 => 0
  | n + 1 => wordOf f base n ||| (if f (base + n) then 2 ^ n else 0)
theorem testBit_wordOf (f : Nat → Bool) (base : Nat) : ∀ (n i : Nat), (wordOf f base n).testBit i = (decide (i < n) && f (base + i))
  | 0, i => by simp [wordOf]
  | n + 1, i => by
    rw [wordOf, Nat.testBit_or, testBit_wordOf f base n i]
    by_cases h : i = n
    · subst h
      by_cases hf : f (base + i) <;> simp [hf, Nat.testBit_two_pow_self]
    · by_cases hf : f (base + n)
      · rw [if_pos hf, Nat.testBit_two_pow_of_ne (fun e => h e.symm)]
        by_cases hi : i < n
        · simp [hi, Nat.lt_succ_of_lt hi]
        · simp [hi, show ¬ i < n + 1 by omega]
      · rw [if_neg hf]
        by_cases hi : i < n
        · simp [hi, Nat.lt_succ_of_lt hi]
        · simp [hi, show ¬ i < n + 1 by omega]
theorem wordOf_lt (f : Nat → Bool) (base : Nat) : ∀ n, wordOf f base n < 2 ^ n
  | 0 => by simp [wordOf]
  | n + 1 => by
    rw [wordOf]
    have h1 : wordOf f base n < 2 ^ (n + 1) := Nat.lt_of_lt_of_le (wordOf_lt f base n) (Nat.pow_le_pow_right (by omega) (by omega))
    refine Nat.or_lt_two_pow h1 ?_
    split
    · exact Nat.pow_lt_pow_right (by omega) (by omega)
    · exact Nat.two_pow_pos _
def ofFn (f : Nat → Bool) : Cls := ⟨wordOf f 0 64, wordOf f 64 64, wordOf f 128 64, wordOf f 192 64⟩
theorem ok_ofFn (f : Nat → Bool) : (ofFn f).ok := ⟨wordOf_lt f 0 64, wordOf_lt f 64 64, wordOf_lt f 128 64, wordOf_lt f 192 64⟩
theorem word_ofFn (f : Nat → Bool) (k : Nat) (hk : k < 4) : (ofFn f).word k = wordOf f (64 * k) 64 := by
  have h : k = 0 ∨ k = 1 ∨ k = 2 ∨ k = 3 := by omega
  rcases h with rfl | rfl | rfl | rfl <;> rfl
theorem mem_ofFn (f : Nat → Bool) (i : Nat) (hi : i < 256) : (ofFn f).mem i = f i := by
  unfold mem
  rw [word_ofFn f _ (by omega), testBit_wordOf, show 64 * (i / 64) + i % 64 = i by omega]
  simp [Nat.mod_lt]
theorem ofFn_congr {f g : Nat → Bool} (h : ∀ i, i < 256 → f i = g i) : ofFn f = ofFn g :=
  ext_mem (ok_ofFn _) (ok_ofFn _) fun i hi => by rw [mem_ofFn f i hi, mem_ofFn g i hi, h i hi]
theorem eq_ofFn {c : Cls} (h : c.ok) {f : Nat → Bool} (hf : ∀ i, i < 256 → c.mem i = f i) : c = ofFn f :=
  ext_mem h (ok_ofFn _) fun i hi => by rw [mem_ofFn f i hi, hf i hi]
/-- One bit more. -/
def put (c : Cls) (n : Nat) : Cls :=
  if n / 64 = 0 then { c with c0 := c.c0 ||| 2 ^ (n % 64) } else if n / 64 = 1 then { c with c1 := c.c1 ||| 2 ^ (n % 64) }
  else if n / 64 = 2 then { c with c2 := c.c2 ||| 2 ^ (n % 64) } else { c with c3 := c.c3 ||| 2 ^ (n % 64) }
theorem two_lt (n : Nat) : 2 ^ (n % 64) < w64 := by rw [w64_pow]; exact Nat.pow_lt_pow_right (by omega) (Nat.mod_lt _ (by omega))
theorem ok_put {c : Cls} (h : c.ok) (n : Nat) : (c.put n).ok := by
  obtain ⟨h0, h1, h2, h3⟩ := h
  unfold put
  split
  · exact ⟨or_lt h0 (two_lt n), h1, h2, h3⟩
  · split
    · exact ⟨h0, or_lt h1 (two_lt n), h2, h3⟩
    · split
      · exact ⟨h0, h1, or_lt h2 (two_lt n), h3⟩
      · exact ⟨h0, h1, h2, or_lt h3 (two_lt n)⟩
theorem word_put (c : Cls) (n k : Nat) (hn : n < 256) (hk : k < 4) : (c.put n).word k = if n / 64 = k then c.word k ||| 2 ^ (n % 64) else c.word k := by
  have h : k = 0 ∨ k = 1 ∨ k = 2 ∨ k = 3 := by omega
  have h' : n / 64 = 0 ∨ n / 64 = 1 ∨ n / 64 = 2 ∨ n / 64 = 3 := by omega
  unfold put
  rcases h' with h' | h' | h' | h' <;> rw [h'] <;> rcases h with rfl | rfl | rfl | rfl <;> simp [word]
theorem mem_put (c : Cls) (n i : Nat) (hn : n < 256) (hi : i < 256) : (c.put n).mem i = (c.mem i || decide (i = n)) := by
  unfold mem
  rw [word_put c n _ hn (by omega)]
  split
  · rename_i h
    rw [Nat.testBit_or]
    by_cases e : i = n
    · subst e
      simp [Nat.testBit_two_pow_self]
    · rw [Nat.testBit_two_pow_of_ne (by omega)]
      simp [e]
  · rename_i h
    have e : ¬ i = n := fun e => h (by rw [e])
    simp [e]
theorem put_ofFn (f : Nat → Bool) (n : Nat) (hn : n < 256) : (ofFn f).put n = ofFn (fun i => f i || decide (i = n)) :=
  eq_ofFn (ok_put (ok_ofFn f) n) fun i hi => by rw [mem_put _ n i hn hi, mem_ofFn f i hi]
/-- No byte. -/
def none : Cls := ⟨0, 0, 0, 0⟩
theorem ok_none : none.ok := by unfold ok none w64; simp
theorem mem_none (i : Nat) : none.mem i = false := by unfold mem none word; simp
theorem none_ofFn : none = ofFn (fun _ => false) := eq_ofFn ok_none fun i _ => mem_none i
end Cls
/-- 256 bools, as cells. -/
def setCells (f : Nat → Bool) : Array Value := ((List.range 256).map fun i => Value.bool (f i)).toArray
def setVal (f : Nat → Bool) : Value := .agg (setCells f)
theorem setCells_size (f : Nat → Bool) : (setCells f).size = 256 := by simp [setCells]
theorem setCells_at (f : Nat → Bool) (i : Nat) (hi : i < 256) : (setCells f)[i]? = some (.bool (f i)) := by simp [setCells, hi]
theorem setCells_one (f : Nat → Bool) : (setCells f).all (·.oneCell') = true := by simp [setCells, Value.oneCell']
theorem setCells_congr {f g : Nat → Bool} (h : ∀ i, i < 256 → f i = g i) : setCells f = setCells g := by
  unfold setCells
  rw [List.map_congr_left (fun i hi => by rw [h i (by simpa using hi)])]
theorem setCells_set (f : Nat → Bool) (n : Nat) (v : Bool) : (setCells f).setIfInBounds n (.bool v) = setCells (fun i => if i = n then v else f i) := by
  apply Array.ext_getElem?
  intro i
  rw [Array.getElem?_setIfInBounds]
  by_cases hi : i < 256
  · rw [setCells_at _ i hi, setCells_at _ i hi, setCells_size]
    by_cases e : n = i
    · subst e; simp [hi]
    · rw [if_neg e, if_neg (fun h => e h.symm)]
  · have h1 : (setCells f)[i]? = Option.none := Array.getElem?_eq_none (by rw [setCells_size]; omega)
    have h2 : (setCells (fun i => if i = n then v else f i))[i]? = Option.none := Array.getElem?_eq_none (by rw [setCells_size]; omega)
    rw [h1, h2, setCells_size]
    by_cases e : n = i
    · subst e; simp [hi]
    · rw [if_neg e]
theorem setCells_false : setCells (fun _ => false) = Array.replicate 256 (.bool false) := by
  apply Array.ext_getElem?
  intro i
  by_cases hi : i < 256
  · rw [setCells_at _ i hi, Array.getElem?_replicate, if_pos hi]
  · rw [Array.getElem?_eq_none (by rw [setCells_size]; omega), Array.getElem?_replicate, if_neg hi]
theorem Cls.list_at (a : Cls) (k : Nat) (hk : k < 4) : [Value.int .u64 (a.c0 : Int), .int .u64 (a.c1 : Int), .int .u64 (a.c2 : Int), .int .u64 (a.c3 : Int)][k]? = some (.int .u64 (a.word k : Int)) := by
  have h : k = 0 ∨ k = 1 ∨ k = 2 ∨ k = 3 := by omega
  rcases h with rfl | rfl | rfl | rfl <;> rfl
theorem bits_or {a b : Nat} (ha : a < w64) (hb : b < w64) : bits .or .u64 (a : Int) (b : Int) = ((a ||| b : Nat) : Int) := bits_or_u64_nat a b ha hb
theorem bits_and {a b : Nat} (ha : a < w64) (hb : b < w64) : bits .and .u64 (a : Int) (b : Int) = ((a &&& b : Nat) : Int) := bits_and_u64_nat a b ha hb
theorem xor_all {a : Nat} (ha : a < w64) : 18446744073709551615 ^^^ a = Cls.no a := by
  have hn := Cls.no_lt a
  apply Nat.eq_of_testBit_eq
  intro i
  rw [Nat.testBit_xor]
  by_cases hi : i < 64
  · rw [Cls.testBit_no a i ha hi, show (18446744073709551615 : Nat) = 2 ^ 64 - 1 from rfl, Nat.testBit_two_pow_sub_one]
    simp [hi]
  · have hp : w64 ≤ 2 ^ i := by rw [w64_pow]; exact Nat.pow_le_pow_right (by omega) (by omega)
    have h1 : a < 2 ^ i := Nat.lt_of_lt_of_le ha hp
    have h2 : Cls.no a < 2 ^ i := Nat.lt_of_lt_of_le hn hp
    rw [Nat.testBit_lt_two_pow h1, Nat.testBit_lt_two_pow h2, show (18446744073709551615 : Nat) = 2 ^ 64 - 1 from rfl, Nat.testBit_two_pow_sub_one]
    simp [hi]
theorem bits_not {a : Nat} (ha : a < w64) : bits .xor .u64 IntKind.u64.max (a : Int) = ((Cls.no a : Nat) : Int) := by
  rw [← xor_all ha]
  exact bits_xor_u64_nat 18446744073709551615 a (by omega) ha
theorem bit_cast (n k : Nat) : ((n : Int) / 2 ^ k) = ((n / 2 ^ k : Nat) : Int) := by simp
theorem bits_bit {n : Nat} (hn : n < w64) (k : Nat) : bits .and .u64 ((n : Int) / 2 ^ k) 1 = if n.testBit k then 1 else 0 := by
  rw [bit_cast, show (1 : Int) = ((1 : Nat) : Int) from rfl, bits_and (Nat.lt_of_le_of_lt (Nat.div_le_self _ _) hn) (by unfold w64; omega), Nat.and_one_is_mod, Nat.testBit_eq_decide_div_mod_eq]
  have := Nat.mod_lt (n / 2 ^ k) (show 2 > 0 by omega)
  by_cases h : n / 2 ^ k % 2 = 1
  · simp [h]
  · have h0 : n / 2 ^ k % 2 = 0 := by omega
    simp [h0]
theorem bit_ne {n : Nat} (hn : n < w64) (k : Nat) : (bits .and .u64 ((n : Int) / 2 ^ k) 1 != 0) = n.testBit k := by
  rw [bits_bit hn]; cases n.testBit k <;> rfl
theorem bit_eq {n : Nat} (hn : n < w64) (k : Nat) : (bits .and .u64 ((n : Int) / 2 ^ k) 1 == 1) = n.testBit k := by
  rw [bits_bit hn]; cases n.testBit k <;> rfl
theorem Cls.cells_at (a : Cls) (k : Nat) (hk : k < 4) : a.cells[k]? = some (.int .u64 (a.word k : Int)) := by
  have h := a.list_at k hk
  simpa [Cls.cells] using h
theorem Cls.cells_one (a : Cls) : a.cells.all (·.oneCell') = true := by simp [Cls.cells, Value.oneCell']
theorem mem_bit {a : Cls} (ha : a.ok) (i : Nat) : (bits .and .u64 ((a.word (i / 64) : Int) / 2 ^ (i % 64)) 1 == 1) = a.mem i := bit_eq (Cls.word_lt ha _) _
theorem setCells_step {f : Nat → Bool} {i : Nat} {v : Bool} (h : f i = v) : (setCells (fun j => decide (j < i) && f j)).setIfInBounds i (.bool v) = setCells (fun j => decide (j < i + 1) && f j) := by
  rw [setCells_set]
  refine setCells_congr fun j _ => ?_
  by_cases e : j = i
  · subst e; simp [h]
  · rw [if_neg e]
    have : decide (j < i) = decide (j < i + 1) := by by_cases q : j < i <;> simp [q] <;> omega
    rw [this]
theorem setCells_zero (f : Nat → Bool) : setCells (fun j => decide (j < 0) && f j) = setCells fun _ => false := setCells_congr fun i _ => by simp
theorem setCells_full (f : Nat → Bool) : setCells (fun j => decide (j < 256) && f j) = setCells f := setCells_congr fun i hi => by simp [hi]
end Go.Proofs.YtldjdcdoegjmoaaDoor
set_option linter.unusedVariables false
set_option linter.unusedSimpArgs false
namespace Go.Proofs.YtldjdcdoegjmoaaDoor
open Go.ChangeShapes Go.WideShapes Go.ChangeAt Go.RowKit
theorem nat_of_u64 {x : Int} (h : (Lit.int .u64 x).wf = true) : ∃ n : Nat, n < w64 ∧ x = (n : Int) := by
  have hmin : IntKind.u64.min = 0 := rfl
  have hmax : IntKind.u64.max = 18446744073709551615 := rfl
  simp only [Lit.wf, Bool.and_eq_true, decide_eq_true_eq, hmin, hmax] at h
  exact ⟨x.toNat, by unfold w64; omega, by omega⟩
theorem cells_u64 : Tryd.prog.cellsOf 22 = 1 := by kernel_rfl
theorem cells_cls : Tryd.prog.cellsOf 24 = 4 := by kernel_rfl
end Go.Proofs.YtldjdcdoegjmoaaDoor
set_option linter.unusedVariables false
set_option linter.unusedSimpArgs false
namespace Go.Proofs.YtldjdcdoegjmoaaDoor
open Go.ChangeShapes Go.WideShapes Go.ChangeAt Go.RowKit
/-- A token of the program's. -/
structure Tk where
  a0 : Int
  a1 : Int
  a2 : Int
  a3 : ByteArray
  a4 : Bool
  c : Cls
  a9 : Int
  a10 : Int
def Tk.cells (p : Tk) : List Value := [.int .i64 p.a0, .int .i64 p.a1, .int .i64 p.a2, .string p.a3, .bool p.a4, .int .u64 p.c.c0, .int .u64 p.c.c1, .int .u64 p.c.c2, .int .u64 p.c.c3, .int .i64 p.a9, .int .i64 p.a10]
abbrev Tk.val (p : Tk) : Value := .agg #[.int .i64 p.a0, .int .i64 p.a1, .int .i64 p.a2, .string p.a3, .bool p.a4, .int .u64 p.c.c0, .int .u64 p.c.c1, .int .u64 p.c.c2, .int .u64 p.c.c3, .int .i64 p.a9, .int .i64 p.a10]
def Tk.ok (p : Tk) : Prop := p.c.ok ∧ p.a3.size ≤ 140737488351232
theorem list11 {α : Type} (l : List α) (h : l.length = 11) : ∃ a b c d e f g i j k m, l = [a, b, c, d, e, f, g, i, j, k, m] := by
  match l, h with
  | [a, b, c, d, e, f, g, i, j, k, m], _ => exact ⟨a, b, c, d, e, f, g, i, j, k, m, rfl⟩
theorem cells_tok : Tryd.prog.cellsOf 26 = 11 := by kernel_rfl
set_option maxRecDepth 100000 in
theorem tok_cells {H : Type} {enc : TypeId × Value → H} {W : World} {base m : Nat} {spare : Nat → Bool} {held : Bool} {cs : List Value} {y : DataW H × List MemPlace} (h : DataW.trod enc Tryd.prog W base spare held m 26 cs = some y)
    (hz : (y.1.weights Tryd.prog 26).all (· ≤ reachBytes) = true) : ∃ p : Tk, cs = p.cells ∧ p.ok := by
  obtain ⟨xs, n, _, rfl, hlen, hl, hf⟩ := DataW.trod_struct Tryd.underlying26 h
  rw [cells_tok] at hlen
  obtain ⟨c0, c1, c2, c3, c4, c5, c6, c7, c8, c9, c10, rfl⟩ := list11 cs hlen
  have k3 : Tryd.prog.cellsOf 3 = 1 := by kernel_rfl
  have k9 : Tryd.prog.cellsOf 9 = 1 := by kernel_rfl
  have k4 : Tryd.prog.cellsOf 4 = 1 := by kernel_rfl
  have g : ∀ i, i < 8 → ∃ z, xs[i]? = some z := fun i hi => ⟨_, List.getElem?_eq_getElem (by rw [hl]; exact hi)⟩
  obtain ⟨z0, e0⟩ := g 0 (by omega)
  obtain ⟨z1, e1⟩ := g 1 (by omega)
  obtain ⟨z2, e2⟩ := g 2 (by omega)
  obtain ⟨z3, e3⟩ := g 3 (by omega)
  obtain ⟨z4, e4⟩ := g 4 (by omega)
  obtain ⟨z5, e5⟩ := g 5 (by omega)
  obtain ⟨z6, e6⟩ := g 6 (by omega)
  obtain ⟨z7, e7⟩ := g 7 (by omega)
  have h0 := (hf 0 _ rfl).trans e0
  have h1 := (hf 1 _ rfl).trans e1
  have h2 := (hf 2 _ rfl).trans e2
  have h3 := (hf 3 _ rfl).trans e3
  have h4 := (hf 4 _ rfl).trans e4
  have h5 := (hf 5 _ rfl).trans e5
  have h6 := (hf 6 _ rfl).trans e6
  have h7 := (hf 7 _ rfl).trans e7
  obtain ⟨x0, q0, _, _⟩ := DataW.trod_int Tryd.underlying3 h0
  obtain ⟨x1, q1, _, _⟩ := DataW.trod_int Tryd.underlying3 h1
  obtain ⟨x2, q2, _, _⟩ := DataW.trod_int Tryd.underlying3 h2
  obtain ⟨x3, q3, r3, _⟩ := DataW.trod_string Tryd.underlying9 h3
  obtain ⟨x4, q4, _⟩ := DataW.trod_bool Tryd.underlying4 h4
  obtain ⟨x6, q6, _, _⟩ := DataW.trod_int Tryd.underlying3 h6
  obtain ⟨x7, q7, _, _⟩ := DataW.trod_int Tryd.underlying3 h7
  simp [k3, k9, k4] at q0 q1 q2 q3 q4 q6 q7
  subst q0 q1 q2 q3 q4 q6 q7
  simp [cells_cls] at h5
  obtain ⟨y0, y1, y2, y3, m, hx, hy0, hy1, hy2, hy3⟩ := trod_array4 Tryd.underlying24 cells_u64 h5
  obtain ⟨u0, f0, _, w0⟩ := DataW.trod_int Tryd.underlying22 hy0
  obtain ⟨u1, f1, _, w1⟩ := DataW.trod_int Tryd.underlying22 hy1
  obtain ⟨u2, f2, _, w2⟩ := DataW.trod_int Tryd.underlying22 hy2
  obtain ⟨u3, f3, _, w3⟩ := DataW.trod_int Tryd.underlying22 hy3
  simp at f0 f1 f2 f3
  subst f0 f1 f2 f3
  obtain ⟨n0, l0, rfl⟩ := nat_of_u64 w0
  obtain ⟨n1, l1, rfl⟩ := nat_of_u64 w1
  obtain ⟨n2, l2, rfl⟩ := nat_of_u64 w2
  obtain ⟨n3, l3, rfl⟩ := nat_of_u64 w3
  refine ⟨⟨x0, x1, x2, x3, x4, ⟨n0, n1, n2, n3⟩, x6, x7⟩, rfl, ⟨⟨l0, l1, l2, l3⟩, ?_⟩⟩
  have hw : (DataW.weightsEach Tryd.prog [3, 3, 3, 9, 4, 24, 3, 3] (xs.map (·.1))).all (· ≤ reachBytes) = true := by
    have q := hz
    simp only [DataW.weights, Tryd.underlying26] at q
    exact q
  have z := sized_string hw (j := 3) (t := 9) rfl (by rw [List.getElem?_map, e3, r3]; rfl)
  rw [Array.length_toList] at z
  exact z
set_option maxRecDepth 100000 in
theorem open_tok {H : Type} {enc : TypeId × Value → H} {W : World} {base : Nat} {v : Value} {d : DataW H} {ps : List MemPlace} {ts : List TypeId} {ds : List (DataW H)}
    (hsz : (DataW.weightsEach Tryd.prog ts ds).all (· ≤ reachBytes) = true) {j : Nat} (hts : ts[j]? = some 26) (hds : ds[j]? = some d)
    (hv : Value.okWide Tryd.prog W .any base 26 v) (h : DataW.Trod enc Tryd.prog W 0 (fun _ => true) true 26 v d ps) : ∃ a : Tk, a.ok ∧ v = a.val := by
  obtain ⟨cs, rfl, _⟩ := okWide_struct Tryd.underlying26 hv
  obtain ⟨fuel, hf⟩ := h
  have hz : (d.weights Tryd.prog 26).all (· ≤ reachBytes) = true := List.all_eq_true.2 fun n hn => List.all_eq_true.1 hsz n (DataW.weights_mem_each hts hds n hn)
  obtain ⟨p, hp, hk⟩ := tok_cells hf hz
  refine ⟨p, hk, ?_⟩
  obtain ⟨l⟩ := cs
  obtain rfl : l = p.cells := hp
  rfl
end Go.Proofs.YtldjdcdoegjmoaaDoor
namespace Go.Proofs
open Go.Shelf
def Tryd.lays167_ren : Go.Shelf.Ren := ⟨fun | 240 => 45 | 276 => 71 | 167 => 25 | 166 => 26 | n => n, fun | 0 => 0 | 3 => 3 | 4 => 4 | 5 => 5 | 9 => 9 | 20 => 20 | 37 => 52 | 70 => 51 | 72 => 54 | 75 => 56 | 80 => 61 | 164 => 87 | n => n, fun | n => n⟩
theorem Tryd.lays167 : Go.Proofs.Lays.n167 Tryd.prog Tryd.lays167_ren := {
  mixed := by kernel_rfl
  f167 := Tryd.func25.trans (congrArg some (by kernel_rfl))
  f240 := Tryd.func45.trans (congrArg some (by kernel_rfl))
  f276 := Tryd.func71.trans (congrArg some (by kernel_rfl))
  t0 := Tryd.underlying0
  a0 := Tryd.isAgg0
  z0 := Tryd.sizeOf0
  v0 := Tryd.zeroValue0
  t4 := Tryd.underlying4
  a4 := Tryd.isAgg4
  z4 := Tryd.sizeOf4
  v4 := Tryd.zeroValue4
  t5 := Tryd.underlying5
  a5 := Tryd.isAgg5
  z5 := Tryd.sizeOf5
  v5 := Tryd.zeroValue5
  t9 := Tryd.underlying9
  a9 := Tryd.isAgg9
  z9 := Tryd.sizeOf9
  v9 := Tryd.zeroValue9
  t20 := Tryd.underlying20
  a20 := Tryd.isAgg20
  z20 := Tryd.sizeOf20
  v20 := Tryd.zeroValue20
  t37 := Tryd.underlying52
  a37 := Tryd.isAgg52
  z37 := Tryd.sizeOf52
  v37 := Tryd.zeroValue52
  t70 := Tryd.underlying51
  a70 := Tryd.isAgg51
  z70 := Tryd.sizeOf51
  v70 := Tryd.zeroValue51
  t72 := Tryd.underlying54
  a72 := Tryd.isAgg54
  z72 := Tryd.sizeOf54
  v72 := Tryd.zeroValue54
  t75 := Tryd.underlying56
  a75 := Tryd.isAgg56
  z75 := Tryd.sizeOf56
  v75 := Tryd.zeroValue56
  t164 := Tryd.underlying87
  a164 := Tryd.isAgg87
  z164 := Tryd.sizeOf87
  v164 := Tryd.zeroValue87 }
theorem Tryd.Builder_Extra_167 : Builder.Extra Tryd.prog Tryd.lays167_ren where
  sizeBuilder := by kernel_rfl
  liesBuilder := by kernel_rfl
  t5 := Tryd.underlying5
  a5 := Tryd.isAgg5
  z5 := Tryd.sizeOf5
  v5 := Tryd.zeroValue5
  infoByte := by kernel_rfl
  cellsByte := by kernel_rfl
  sizeByte := by kernel_rfl
  neB5 := by decide
open Go.RowKit in
/-- (*strings.Builder).WriteByte: "WriteByte appends the byte c to b's buffer. The returned error is always nil.": UNDER Go's OWN LIMIT: the new length takes at most 2^47 bytes. (LAID: no walk: one application.) -/
theorem Tryd.Builder_WriteByte (B b : Nat) (bs : List Value) (c : Int) (w : World) (h : Lib.IsBuilder 54 5 B b bs w) (hlen : bs.length + 1 ≤ 140737488355328) (hBw : B ≤ w.heap.size) :
    Calls Tryd.prog 25 #[.pointer (some ⟨b, 0, none⟩), .int .u8 c] w fun e w' => e = .returned .nilIface ∧ (Lib.BuilderAt 54 5 B b (.pointer (some ⟨b, 0, none⟩)) (bs ++ [.int .u8 c]) w' ∧ Below B w w') := Any.Builder_WriteByte Tryd.lays167 Tryd.Builder_Extra_167 B b bs c w h hlen hBw
open Go.RowKit in
/-- (*strings.Builder).WriteByte: "WriteByte appends the byte c to b's buffer. The returned error is always nil.": UNDER Go's OWN LIMIT: the new length takes at most 2^47 bytes. (LAID: no walk: one application.) -/
theorem Tryd.Builder_WriteByte_k (B b : Nat) (bs : List Value) (c : Int) (w : World) (h : Lib.IsBuilderF 54 5 B b bs w) (hlen : bs.length + 1 ≤ 140737488355328) (hBw : B ≤ w.heap.size) :
    Calls Tryd.prog 25 #[.pointer (some ⟨b, 0, none⟩), .int .u8 c] w fun e w' => e = .returned .nilIface ∧ (Lib.BuilderAtF 54 5 B b (.pointer (some ⟨b, 0, none⟩)) (bs ++ [.int .u8 c]) w' ∧ Below B w w' ∧ Lib.OthersKept 5 (some b) w w') := Any.Builder_WriteByte_k Tryd.lays167 Tryd.Builder_Extra_167 B b bs c w h hlen hBw
def Tryd.lays166_ren : Go.Shelf.Ren := ⟨fun | 240 => 45 | 276 => 71 | 167 => 25 | 166 => 26 | n => n, fun | 0 => 0 | 3 => 3 | 4 => 4 | 5 => 5 | 9 => 9 | 20 => 20 | 37 => 52 | 70 => 51 | 72 => 54 | 75 => 56 | 80 => 61 | 164 => 87 | n => n, fun | n => n⟩
theorem Tryd.lays166 : Go.Proofs.Lays.n166 Tryd.prog Tryd.lays166_ren := {
  mixed := by kernel_rfl
  f166 := Tryd.func26.trans (congrArg some (by kernel_rfl))
  f240 := Tryd.func45.trans (congrArg some (by kernel_rfl))
  f276 := Tryd.func71.trans (congrArg some (by kernel_rfl))
  t0 := Tryd.underlying0
  a0 := Tryd.isAgg0
  z0 := Tryd.sizeOf0
  v0 := Tryd.zeroValue0
  t3 := Tryd.underlying3
  a3 := Tryd.isAgg3
  z3 := Tryd.sizeOf3
  v3 := Tryd.zeroValue3
  t4 := Tryd.underlying4
  a4 := Tryd.isAgg4
  z4 := Tryd.sizeOf4
  v4 := Tryd.zeroValue4
  t9 := Tryd.underlying9
  a9 := Tryd.isAgg9
  z9 := Tryd.sizeOf9
  v9 := Tryd.zeroValue9
  t20 := Tryd.underlying20
  a20 := Tryd.isAgg20
  z20 := Tryd.sizeOf20
  v20 := Tryd.zeroValue20
  t37 := Tryd.underlying52
  a37 := Tryd.isAgg52
  z37 := Tryd.sizeOf52
  v37 := Tryd.zeroValue52
  t70 := Tryd.underlying51
  a70 := Tryd.isAgg51
  z70 := Tryd.sizeOf51
  v70 := Tryd.zeroValue51
  t72 := Tryd.underlying54
  a72 := Tryd.isAgg54
  z72 := Tryd.sizeOf54
  v72 := Tryd.zeroValue54
  t75 := Tryd.underlying56
  a75 := Tryd.isAgg56
  z75 := Tryd.sizeOf56
  v75 := Tryd.zeroValue56
  t164 := Tryd.underlying87
  a164 := Tryd.isAgg87
  z164 := Tryd.sizeOf87
  v164 := Tryd.zeroValue87 }
theorem Tryd.Builder_Extra_166 : Builder.Extra Tryd.prog Tryd.lays166_ren where
  sizeBuilder := by kernel_rfl
  liesBuilder := by kernel_rfl
  t5 := Tryd.underlying5
  a5 := Tryd.isAgg5
  z5 := Tryd.sizeOf5
  v5 := Tryd.zeroValue5
  infoByte := by kernel_rfl
  cellsByte := by kernel_rfl
  sizeByte := by kernel_rfl
  neB5 := by decide
open Go.RowKit in
/-- (*strings.Builder).WriteString: "WriteString appends the contents of s to b's buffer. It returns the length of s and a nil error.": UNDER Go's OWN LIMIT: the new length takes at most 2^47 bytes. (LAID: no walk: one application.) -/
theorem Tryd.Builder_WriteString (B b : Nat) (bs : List Value) (s : ByteArray) (w : World) (h : Lib.IsBuilder 54 5 B b bs w) (hlen : bs.length + s.size ≤ 140737488355328) (hBw : B ≤ w.heap.size) :
    Calls Tryd.prog 26 #[.pointer (some ⟨b, 0, none⟩), .string s] w fun e w' => e = .returned (.tuple #[.int .i64 s.size, .nilIface]) ∧ (Lib.BuilderAt 54 5 B b (.pointer (some ⟨b, 0, none⟩)) (bs ++ Lib.strCells s) w' ∧ Below B w w') := Any.Builder_WriteString Tryd.lays166 Tryd.Builder_Extra_166 B b bs s w h hlen hBw
open Go.RowKit in
/-- (*strings.Builder).WriteString: "WriteString appends the contents of s to b's buffer. It returns the length of s and a nil error.": UNDER Go's OWN LIMIT: the new length takes at most 2^47 bytes. THE FORM '_k': OVER 'Lib.IsBuilderF' (a builder that 'String()' may have read), AND WITH THE FRAME THAT REACHES ABOVE THE BUILDER: 'Lib.OthersKept': every block that is not b and is no row of uint8's stands as it stood: the iterator of a range among them.' HAS READ, TOO: the bytes go in BEHIND what is frozen, or, where there is no room, all goes over into a new row.) (LAID: no walk: one application.) -/
theorem Tryd.Builder_WriteString_k (B b : Nat) (bs : List Value) (s : ByteArray) (w : World) (h : Lib.IsBuilderF 54 5 B b bs w) (hlen : bs.length + s.size ≤ 140737488355328) (hBw : B ≤ w.heap.size) :
    Calls Tryd.prog 26 #[.pointer (some ⟨b, 0, none⟩), .string s] w fun e w' => e = .returned (.tuple #[.int .i64 s.size, .nilIface]) ∧ (Lib.BuilderAtF 54 5 B b (.pointer (some ⟨b, 0, none⟩)) (bs ++ Lib.strCells s) w' ∧ Below B w w' ∧ Lib.OthersKept 5 (some b) w w') := Any.Builder_WriteString_k Tryd.lays166 Tryd.Builder_Extra_166 B b bs s w h hlen hBw
def Tryd.lays169_ren : Go.Shelf.Ren := ⟨fun | 169 => 28 | n => n, fun | 70 => 51 | 9 => 9 | 0 => 0 | 72 => 54 | 37 => 52 | 127 => 70 | 3 => 3 | 5 => 5 | n => n, fun | n => n⟩
theorem Tryd.lays169 : Go.Proofs.Lays.n169 Tryd.prog Tryd.lays169_ren := {
  mixed := by kernel_rfl
  f169 := Tryd.func28.trans (congrArg some (by kernel_rfl))
  t0 := Tryd.underlying0
  a0 := Tryd.isAgg0
  z0 := Tryd.sizeOf0
  v0 := Tryd.zeroValue0
  t3 := Tryd.underlying3
  a3 := Tryd.isAgg3
  z3 := Tryd.sizeOf3
  v3 := Tryd.zeroValue3
  t9 := Tryd.underlying9
  a9 := Tryd.isAgg9
  z9 := Tryd.sizeOf9
  v9 := Tryd.zeroValue9
  t37 := Tryd.underlying52
  a37 := Tryd.isAgg52
  z37 := Tryd.sizeOf52
  v37 := Tryd.zeroValue52
  t70 := Tryd.underlying51
  a70 := Tryd.isAgg51
  z70 := Tryd.sizeOf51
  v70 := Tryd.zeroValue51
  t72 := Tryd.underlying54
  a72 := Tryd.isAgg54
  z72 := Tryd.sizeOf54
  v72 := Tryd.zeroValue54
  t127 := Tryd.underlying70
  a127 := Tryd.isAgg70
  z127 := Tryd.sizeOf70
  v127 := Tryd.zeroValue70 }
theorem Tryd.Builder_Extra_169 : Builder.Extra Tryd.prog Tryd.lays169_ren := {
  sizeBuilder := by kernel_rfl
  liesBuilder := by kernel_rfl
  t5 := Tryd.underlying5
  a5 := Tryd.isAgg5
  z5 := Tryd.sizeOf5
  v5 := Tryd.zeroValue5
  infoByte := by kernel_rfl
  cellsByte := by kernel_rfl
  sizeByte := by kernel_rfl
  neB5 := by decide }
open Go.RowKit in
/-- (*strings.Builder).String: "String returns the accumulated string.": WHATEVER THE BUILDER HOLDS. (LAID: no walk: one application.) -/
theorem Tryd.Builder_String_any (B b : Nat) (l : List UInt8) (w : World) (h : Lib.IsBuilder 54 5 B b (Lib.byteCells l) w) (hBw : B ≤ w.heap.size) :
    Calls Tryd.prog 28 #[.pointer (some ⟨b, 0, none⟩)] w fun e w' => e = .returned (.string ⟨l.toArray⟩) ∧ Below B w w' := Any.Builder_String_any Tryd.lays169 Tryd.Builder_Extra_169 B b l w h hBw
open Go.RowKit in
/-- (*strings.Builder).String: "String returns the accumulated string.": WHATEVER THE BUILDER HOLDS; THE FORM '_k': OVER 'Lib.IsBuilderF' (a builder that 'String()' may have read), AND WITH THE FRAME THAT REACHES ABOVE THE BUILDER: 'Lib.OthersKept': every block that is not b and is no row of uint8's stands as it stood: the iterator of a range among them. (LAID: no walk: one application.) -/
theorem Tryd.Builder_String_any_k (B b : Nat) (l : List UInt8) (w : World) (h : Lib.IsBuilderF 54 5 B b (Lib.byteCells l) w) (hBw : B ≤ w.heap.size) :
    Calls Tryd.prog 28 #[.pointer (some ⟨b, 0, none⟩)] w fun e w' => e = .returned (.string ⟨l.toArray⟩) ∧ (Lib.IsBuilderF 54 5 B b (Lib.byteCells l) w' ∧ Below B w w' ∧ Lib.OthersKept 5 (some b) w w') := Any.Builder_String_any_k Tryd.lays169 Tryd.Builder_Extra_169 B b l w h hBw
def Tryd.laysM171_ren : Go.Shelf.Ren := ⟨fun | 171 => 35 | 243 => 59 | 246 => 81 | 283 => 93 | 284 => 94 | 285 => 95 | 286 => 96 | 129 => 101 | 317 => 100 | 318 => 102 | 319 => 103 | 320 => 104 | 337 => 106 | 338 => 107 | n => n, fun | 3 => 3 | 9 => 9 | 2 => 2 | 4 => 4 | 171 => 113 | 0 => 0 | 53 => 22 | 37 => 52 | 5 => 5 | 173 => 115 | 212 => 120 | 51 => 121 | 20 => 20 | 213 => 122 | 46 => 85 | 232 => 126 | 233 => 127 | n => n, fun | 17 => 1 | 18 => 2 | 19 => 3 | n => n⟩
theorem Tryd.laysM171 : Go.Proofs.LaysM.n171 Tryd.prog Tryd.laysM171_ren := {
  mixed := by kernel_rfl
  f129 := Tryd.func101.trans (congrArg some (by kernel_rfl))
  f171 := Tryd.func35.trans (congrArg some (by kernel_rfl))
  f243 := Tryd.func59.trans (congrArg some (by kernel_rfl))
  f246 := Tryd.func81.trans (congrArg some (by kernel_rfl))
  f283 := Tryd.func93.trans (congrArg some (by kernel_rfl))
  f284 := Tryd.func94.trans (congrArg some (by kernel_rfl))
  f285 := Tryd.func95.trans (congrArg some (by kernel_rfl))
  f286 := Tryd.func96.trans (congrArg some (by kernel_rfl))
  f317 := Tryd.func100.trans (congrArg some (by kernel_rfl))
  f318 := Tryd.func102.trans (congrArg some (by kernel_rfl))
  f319 := Tryd.func103.trans (congrArg some (by kernel_rfl))
  f320 := Tryd.func104.trans (congrArg some (by kernel_rfl))
  f337 := Tryd.func106.trans (congrArg some (by kernel_rfl))
  f338 := Tryd.func107.trans (congrArg some (by kernel_rfl))
  t0 := Tryd.underlying0
  a0 := Tryd.isAgg0
  z0 := Tryd.sizeOf0
  v0 := Tryd.zeroValue0
  t2 := Tryd.underlying2
  a2 := Tryd.isAgg2
  z2 := Tryd.sizeOf2
  v2 := Tryd.zeroValue2
  t3 := Tryd.underlying3
  a3 := Tryd.isAgg3
  z3 := Tryd.sizeOf3
  v3 := Tryd.zeroValue3
  t4 := Tryd.underlying4
  a4 := Tryd.isAgg4
  z4 := Tryd.sizeOf4
  v4 := Tryd.zeroValue4
  t5 := Tryd.underlying5
  a5 := Tryd.isAgg5
  z5 := Tryd.sizeOf5
  v5 := Tryd.zeroValue5
  t9 := Tryd.underlying9
  a9 := Tryd.isAgg9
  z9 := Tryd.sizeOf9
  v9 := Tryd.zeroValue9
  t20 := Tryd.underlying20
  a20 := Tryd.isAgg20
  z20 := Tryd.sizeOf20
  v20 := Tryd.zeroValue20
  t37 := Tryd.underlying52
  a37 := Tryd.isAgg52
  z37 := Tryd.sizeOf52
  v37 := Tryd.zeroValue52
  t46 := Tryd.underlying85
  a46 := Tryd.isAgg85
  z46 := Tryd.sizeOf85
  v46 := Tryd.zeroValue85
  t51 := Tryd.underlying121
  a51 := Tryd.isAgg121
  z51 := Tryd.sizeOf121
  v51 := Tryd.zeroValue121
  t53 := Tryd.underlying22
  a53 := Tryd.isAgg22
  z53 := Tryd.sizeOf22
  v53 := Tryd.zeroValue22
  t171 := Tryd.underlying113
  a171 := Tryd.isAgg113
  z171 := Tryd.sizeOf113
  v171 := Tryd.zeroValue113
  t173 := Tryd.underlying115
  a173 := Tryd.isAgg115
  z173 := Tryd.sizeOf115
  v173 := Tryd.zeroValue115
  t212 := Tryd.underlying120
  a212 := Tryd.isAgg120
  z212 := Tryd.sizeOf120
  v212 := Tryd.zeroValue120
  t213 := Tryd.underlying122
  a213 := Tryd.isAgg122
  z213 := Tryd.sizeOf122
  t232 := Tryd.underlying126
  a232 := Tryd.isAgg126
  z232 := Tryd.sizeOf126
  v232 := Tryd.zeroValue126
  t233 := Tryd.underlying127
  a233 := Tryd.isAgg127
  z233 := Tryd.sizeOf127
  v233 := Tryd.zeroValue127
  g17 := by kernel_rfl
  g18 := by kernel_rfl
  g19 := by kernel_rfl
  i0 := by kernel_rfl
  i2 := by kernel_rfl
  i3 := by kernel_rfl
  i4 := by kernel_rfl
  i5 := by kernel_rfl
  i9 := by kernel_rfl
  i20 := by kernel_rfl
  i37 := by kernel_rfl
  i46 := by kernel_rfl
  i51 := by kernel_rfl
  i53 := by kernel_rfl
  i171 := by kernel_rfl
  i173 := by kernel_rfl
  i212 := by kernel_rfl
  i232 := by kernel_rfl
  i233 := by kernel_rfl
  m17 := by kernel_rfl
  m18 := by kernel_rfl
  m19 := by kernel_rfl }
open Go.RowKit Go.Sort Go.Lib in
/-- strconv.Itoa: "Itoa is equivalent to FormatInt(int64(i), 10).": i's DECIMAL NUMERAL ('Lib.itoa': a '-' where i is negative, then the digits), FOR EVERY int. The world behind the call: the world before it, new blocks behind the heap (the library's 'var a [24]byte'), draws. (LAID: no walk: one application.) -/
theorem Tryd.strconv_Itoa (n : Int) (h0 : -9223372036854775808 ≤ n) (h1 : n ≤ 9223372036854775807) (w : World) (htab : Lib.TabIs Tryd.prog w "internal/strconv.uint64pow10" .u64 Lib.pow10Tab) :
    Calls Tryd.prog 35 #[.int .i64 n] w fun e w' => e = .returned (.string ⟨(Lib.itoa n).toArray⟩) ∧ ∃ k os, w' = grow (w.drewN k) os := Any.strconv_Itoa Tryd.laysM171 n h0 h1 w htab
end Go.Proofs
set_option linter.unusedVariables false
namespace Go.Proofs.YtldjdcdoegjmoaaDoor
open Go.RowKit Go.Sort Go.Lib
def TabOk (w : World) : Prop := Lib.TabIs Tryd.prog w "internal/strconv.uint64pow10" .u64 Lib.pow10Tab
theorem tab_below {w W : World} (h : TabOk w) (hb : Below w.heap.size w W) : TabOk W := by
  unfold TabOk Lib.TabIs World.var? at h ⊢
  obtain ⟨g, hg, h⟩ := Option.bind_eq_some_iff.1 h
  rw [hg, Option.bind_some]
  have hlt : g < w.heap.size := by
    rcases Nat.lt_or_ge g w.heap.size with q | q
    · exact q
    · rw [Array.getElem?_eq_none q] at h; cases h
  rw [hb.block g hlt]
  exact h
theorem itoa_c (n : Int) (h0 : 0 ≤ n) (h1 : n ≤ 255) (w : World) (ht : TabOk w) :
    Calls Tryd.prog 35 #[.int .i64 n] w fun e w' => e = .returned (.string ⟨(Lib.itoa n).toArray⟩) ∧ Below w.heap.size w w' := by
  refine (Tryd.strconv_Itoa n (by omega) (by omega) w ht).mono ?_
  rintro e w' ⟨rfl, k, os, rfl⟩
  exact ⟨rfl, ⟨rfl, rfl, rfl, by unfold grow; simp, fun i hi => by unfold grow; simp [Array.getElem?_append, hi]⟩⟩
end Go.Proofs.YtldjdcdoegjmoaaDoor
set_option linter.unusedVariables false
set_option linter.unusedSimpArgs false
namespace Go.Proofs.YtldjdcdoegjmoaaDoor
open Go.RowKit
section
variable {P : Program} (w : World)
theorem run_part (e : TypeId) (i : TypeInfo) (hi : P.info? e = some i) (hz : i.size = 1) (ha : ∀ w, (isAgg e).run P w = .ok false w) (xs : Array Value) (k : Nat) (v : Value) (hv : xs[k]? = some v) :
    (part e xs k).run P w = .ok v w := by
  simp [part, sizeOf, typeInfo, hi, hz, ha, hv]
theorem run_equalIn_arr4 (d : Nat) (t e : TypeId) (hz : (P.info? e).map (·.size) = some 1) (x0 x1 x2 x3 y0 y1 y2 y3 : Int) (ht : P.underlying t = some (.array 4 e)) (he : P.underlying e = some (.int .u64)) (ha : ∀ w, (isAgg e).run P w = .ok false w) :
    (Op.equalIn (d + 2) t (.agg #[.int .u64 x0, .int .u64 x1, .int .u64 x2, .int .u64 x3]) (.agg #[.int .u64 y0, .int .u64 y1, .int .u64 y2, .int .u64 y3])).run P w =
      .ok (x0 == y0 && (x1 == y1 && (x2 == y2 && x3 == y3))) w := by
  obtain ⟨i, hi, hz⟩ := Option.map_eq_some_iff.1 hz
  have hp : ∀ (xs : Array Value) (k : Nat) (v : Value), xs[k]? = some v → (part e xs k).run P w = .ok v w := fun xs k v hv => run_part w e i hi hz ha xs k v hv
  have hq : ∀ (a b : Int), (Op.equalIn (d + 1) e (.int .u64 a) (.int .u64 b)).run P w = .ok (a == b) w := fun a b => run_equalIn_int w d e .u64 .u64 a b he
  unfold Op.equalIn
  simp [run_underlying ht, sizeOf, typeInfo, hi, hz, Std.Legacy.Range.forIn_eq_forIn_range']
  have hr : List.range' 0 4 = [0, 1, 2, 3] := rfl
  rw [hr]
  have px0 : (part e #[Value.int .u64 x0, .int .u64 x1, .int .u64 x2, .int .u64 x3] 0).run P w = .ok (.int .u64 x0) w := hp _ 0 _ rfl
  have py0 : (part e #[Value.int .u64 y0, .int .u64 y1, .int .u64 y2, .int .u64 y3] 0).run P w = .ok (.int .u64 y0) w := hp _ 0 _ rfl
  have px1 : (part e #[Value.int .u64 x0, .int .u64 x1, .int .u64 x2, .int .u64 x3] 1).run P w = .ok (.int .u64 x1) w := hp _ 1 _ rfl
  have py1 : (part e #[Value.int .u64 y0, .int .u64 y1, .int .u64 y2, .int .u64 y3] 1).run P w = .ok (.int .u64 y1) w := hp _ 1 _ rfl
  have px2 : (part e #[Value.int .u64 x0, .int .u64 x1, .int .u64 x2, .int .u64 x3] 2).run P w = .ok (.int .u64 x2) w := hp _ 2 _ rfl
  have py2 : (part e #[Value.int .u64 y0, .int .u64 y1, .int .u64 y2, .int .u64 y3] 2).run P w = .ok (.int .u64 y2) w := hp _ 2 _ rfl
  have px3 : (part e #[Value.int .u64 x0, .int .u64 x1, .int .u64 x2, .int .u64 x3] 3).run P w = .ok (.int .u64 x3) w := hp _ 3 _ rfl
  have py3 : (part e #[Value.int .u64 y0, .int .u64 y1, .int .u64 y2, .int .u64 y3] 3).run P w = .ok (.int .u64 y3) w := hp _ 3 _ rfl
  simp only [List.forIn_cons, List.forIn_nil, Sem.run_bind, px0, py0, px1, py1, px2, py2, px3, py3, Result.andThen_ok, hq, Sem.run_ite, Sem.run_pure]
  cases h0 : (x0 == y0) <;> cases h1 : (x1 == y1) <;> cases h2 : (x2 == y2) <;> cases h3 : (x3 == y3) <;> simp [px1, py1, px2, py2, px3, py3, hq, h1, h2, h3]
end
/-- Two steps, the second one seen from the first one's world. -/
theorem below_then {w w1 w2 : World} (h : Below w.heap.size w w1) (k : Below w1.heap.size w1 w2) : Below w.heap.size w w2 :=
  h.trans (k.mono h.size)
theorem below_drew {B : Nat} {w W : World} (h : Below B w W) : Below B w W.drew := h.drew
theorem heap_keep {w : World} {o : Obj} {i : Nat} {x : Obj} (h : w.heap[i]? = some x) : (w.alloc o).heap[i]? = some x := by
  rw [Below.heap_alloc _ _ _ (Array.getElem?_eq_some_iff.1 h).1]; exact h
theorem heap_new (w : World) (o : Obj) : (w.alloc o).heap[w.heap.size]? = some o := heap_alloc_new w o
theorem heap_new1 (w : World) (a b : Obj) : ((w.alloc a).alloc b).heap[w.heap.size + 1]? = some b := by
  have h := heap_alloc_new (w.alloc a) b
  rwa [World.size_alloc] at h
theorem heap_new2 (w : World) (a b c : Obj) : (((w.alloc a).alloc b).alloc c).heap[w.heap.size + 1 + 1]? = some c := by
  have h := heap_alloc_new ((w.alloc a).alloc b) c
  rwa [World.size_alloc, World.size_alloc] at h
theorem below_setRow {B : Nat} {a w : World} (h : Below B a w) {g : Nat} (hg : B ≤ g) (cs : Array Value) : Below B a (w.setRow g cs) :=
  h.trans ⟨rfl, rfl, rfl, by simp [World.setRow], fun k hk => setRow_other w g k cs (by omega)⟩
/-- A block that lay below stays. -/
theorem heap_below {B : Nat} {w w1 : World} (hb : Below B w w1) {i : Nat} (hi : i < B) {x : Obj} (h : w.heap[i]? = some x) : w1.heap[i]? = some x := (hb.block i hi).trans h
theorem heap_lt {w : World} {i : Nat} {x : Obj} (h : w.heap[i]? = some x) : i < w.heap.size := (Array.getElem?_eq_some_iff.1 h).1
theorem heap_same {w w1 : World} (hb : Below w.heap.size w w1) {i : Nat} {x : Obj} (h : w.heap[i]? = some x) : w1.heap[i]? = some x := heap_below hb (heap_lt h) h
theorem heap_put {w : World} {g i : Nat} {cs : Array Value} {t : TypeId} {v : Value} (h : w.heap[g]? = some (.cells cs t (0, 0))) : (w.setCell ⟨g, i, none⟩ v).heap[g]? = some (.cells (cs.setIfInBounds i v) t (0, 0)) := heap_setCell_same w g i cs t v h
theorem heap_other {w : World} {a : Addr} {k : Nat} {v : Value} {x : Obj} (h : k ≠ a.block) (hk : w.heap[k]? = some x) : (w.setCell a v).heap[k]? = some x := by exact (Below.heap_setCell _ _ _ _ h).trans hk
theorem heap_row_other {w : World} {g k : Nat} {cs : Array Value} {x : Obj} (h : k ≠ g) (hk : w.heap[k]? = some x) : (w.setRow g cs).heap[k]? = some x := by rw [setRow_other _ _ _ _ h]; exact hk
theorem heap_drew' {w : World} {k : Nat} {x : Obj} (hk : w.heap[k]? = some x) : w.drew.heap[k]? = some x := hk
end Go.Proofs.YtldjdcdoegjmoaaDoor
