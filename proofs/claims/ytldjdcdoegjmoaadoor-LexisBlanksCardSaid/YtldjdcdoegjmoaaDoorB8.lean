import Derived.BigQuiet
import Derived.Deep.LoopGhost
import Derived.Deep.QuietTactic
import Derived.Deep.WholeRow
import Derived.KernelRfl
import Derived.Laws.Bits64
import Derived.Laws.Bits64b
import Derived.Laws.BitsAllLaws
import Derived.Laws.ResultCell
import Derived.Lib.BufferOwn
import Derived.Lib.Hide
import Derived.Test.YtldjdcdoegjmoaaDoorProg
import Derived.WalkLawsBesides
import Derived.WalkSpells
import Derived.Test.YtldjdcdoegjmoaaDoorB2
namespace Go.Proofs.YtldjdcdoegjmoaaDoor
/-- Four words. -/
structure Cls where
  c0 : Nat
  c1 : Nat
  c2 : Nat
  c3 : Nat
def w64 : Nat := 18446744073709551616
theorem w64_pow : w64 = 2 ^ 64 := rfl
namespace Cls
def word (c : Cls) (i : Nat) : Nat := if i = 0 then c.c0 else if i = 1 then c.c1 else if i = 2 then c.c2 else c.c3
def ok (c : Cls) : Prop := c.c0 < w64 ∧ c.c1 < w64 ∧ c.c2 < w64 ∧ c.c3 < w64
def mem (c : Cls) (b : Nat) : Bool := (c.word (b / 64)).testBit (b % 64)
def val (c : Cls) : Value := .agg #[.int .u64 (c.c0 : Int), .int .u64 (c.c1 : Int), .int .u64 (c.c2 : Int), .int .u64 (c.c3 : Int)]
def cells (c : Cls) : Array Value := #[.int .u64 (c.c0 : Int), .int .u64 (c.c1 : Int), .int .u64 (c.c2 : Int), .int .u64 (c.c3 : Int)]
theorem word_lt {c : Cls} (h : c.ok) (i : Nat) : c.word i < 2 ^ 64 := by
  unfold word
  have h' := h
  unfold ok at h'
  rw [w64_pow] at h'
  split
  · exact h'.1
  · split
    · exact h'.2.1
    · split
      · exact h'.2.2.1
      · exact h'.2.2.2
theorem ext_words {a b : Cls} (h0 : a.c0 = b.c0) (h1 : a.c1 = b.c1) (h2 : a.c2 = b.c2) (h3 : a.c3 = b.c3) : a = b := by
  cases a; cases b; simp_all
theorem ext_mem {a b : Cls} (ha : a.ok) (hb : b.ok) (h : ∀ i, i < 256 → a.mem i = b.mem i) : a = b := by
  have key : ∀ k, k < 4 → a.word k = b.word k := by
    intro k hk
    apply Nat.eq_of_testBit_eq
    intro i
    by_cases hi : i < 64
    · have := h (64 * k + i) (by omega)
      unfold mem at this
      rw [show (64 * k + i) / 64 = k by omega, show (64 * k + i) % 64 = i by omega] at this
      exact this
    · have h1 : a.word k < 2 ^ i := Nat.lt_of_lt_of_le (word_lt ha k) (Nat.pow_le_pow_right (by omega) (by omega))
      have h2 : b.word k < 2 ^ i := Nat.lt_of_lt_of_le (word_lt hb k) (Nat.pow_le_pow_right (by omega) (by omega))
      rw [Nat.testBit_lt_two_pow h1, Nat.testBit_lt_two_pow h2]
  exact ext_words (key 0 (by omega)) (key 1 (by omega)) (key 2 (by omega)) (key 3 (by omega))
def no (a : Nat) : Nat := w64 - 1 - a
def not (a : Cls) : Cls := ⟨no a.c0, no a.c1, no a.c2, no a.c3⟩
theorem no_lt (a : Nat) : no a < w64 := by unfold no w64; omega
theorem testBit_no (a i : Nat) (ha : a < w64) (hi : i < 64) : (no a).testBit i = !a.testBit i := by
  have h : no a = 2 ^ 64 - (a + 1) := by unfold no w64; omega
  rw [h, Nat.testBit_two_pow_sub_succ (by rw [← w64_pow]; exact ha)]
  simp [hi]
theorem or_lt {a b : Nat} (ha : a < w64) (hb : b < w64) : a ||| b < w64 := by rw [w64_pow] at *; exact Nat.or_lt_two_pow ha hb
/-- The class of a predicate. -/
def wordOf (f : Nat → Bool) (base : Nat) : Nat → Nat
  | 0 => 0
  | n + 1 => wordOf f base n ||| (if f (base + n) then 2 ^ n else 0)
theorem testBit_wordOf (f : Nat → Bool) (base : Nat) : ∀ (n i : Nat), (wordOf f base n).testBit i = (decide (i < n) && f (base + i))
  | 0, i => by simp [wordOf]
  | n + 1, i => by
    rw [wordOf, Nat.testBit_or, testBit_wordOf f base n i]
    by_cases h : i = n
    · subst h
      by_cases hf : f (base + i) <;> simp [hf, Nat.testBit_two_pow_self]
    · by_cases hf : f (base + n)
      · rw [if_pos hf, Nat.testBit_two_pow_of_ne (fun e => h e.symm)]
        by_cases hi : i < n
        · simp [hi, Nat.lt_succ_of_lt hi]
        · simp [hi, show ¬ i < n + 1 by omega]
      · rw [if_neg hf]
        by_cases hi : i < n
        · simp [hi, Nat.lt_succ_of_lt hi]
        · simp [hi, show ¬ i < n + 1 by omega]
theorem wordOf_lt (f : Nat → Bool) (base : Nat) : ∀ n, wordOf f base n < 2 ^ n
  | 0 => by simp [wordOf]
  | n + 1 => by
    rw [wordOf]
    have h1 : wordOf f base n < 2 ^ (n + 1) := Nat.lt_of_lt_of_le (wordOf_lt f base n) (Nat.pow_le_pow_right (by omega) (by omega))
    refine Nat.or_lt_two_pow h1 ?_
    split
    · exact Nat.pow_lt_pow_right (by omega) (by omega)
    · exact Nat.two_pow_pos _
def ofFn (f : Nat → Bool) : Cls := ⟨wordOf f 0 64, wordOf f 64 64, wordOf f 128 64, wordOf f 192 64⟩
theorem ok_ofFn (f : Nat → Bool) : (ofFn f).ok := ⟨wordOf_lt f 0 64, wordOf_lt f 64 64, wordOf_lt f 128 64, wordOf_lt f 192 64⟩
theorem word_ofFn (f : Nat → Bool) (k : Nat) (hk : k < 4) : (ofFn f).word k = wordOf f (64 * k) 64 := by
  have h : k = 0 ∨ k = 1 ∨ k = 2 ∨ k = 3 := by omega
  rcases h with rfl | rfl | rfl | rfl <;> rfl
theorem mem_ofFn (f : Nat → Bool) (i : Nat) (hi : i < 256) : (ofFn f).mem i = f i := by
  unfold mem
  rw [word_ofFn f _ (by omega), testBit_wordOf, show 64 * (i / 64) + i % 64 = i by omega]
  simp [Nat.mod_lt]
theorem ofFn_congr {f g : Nat → Bool} (h : ∀ i, i < 256 → f i = g i) : ofFn f = ofFn g :=
  ext_mem (ok_ofFn _) (ok_ofFn _) fun i hi => by rw [mem_ofFn f i hi, mem_ofFn g i hi, h i hi]
theorem eq_ofFn {c : Cls} (h : c.ok) {f : Nat → Bool} (hf : ∀ i, i < 256 → c.mem i = f i) : c = ofFn f :=
  ext_mem h (ok_ofFn _) fun i hi => by rw [mem_ofFn f i hi, hf i hi]
/-- One bit more. -/
def put (c : Cls) (n : Nat) : Cls :=
  if n / 64 = 0 then { c with c0 := c.c0 ||| 2 ^ (n % 64) } else if n / 64 = 1 then { c with c1 := c.c1 ||| 2 ^ (n % 64) }
  else if n / 64 = 2 then { c with c2 := c.c2 ||| 2 ^ (n % 64) } else { c with c3 := c.c3 ||| 2 ^ (n % 64) }
theorem two_lt (n : Nat) : 2 ^ (n % 64) < w64 := by rw [w64_pow]; exact Nat.pow_lt_pow_right (by omega) (Nat.mod_lt _ (by omega))
theorem ok_put {c : Cls} (h : c.ok) (n : Nat) : (c.put n).ok := by
  obtain ⟨h0, h1, h2, h3⟩ := h
  unfold put
  split
  · exact ⟨or_lt h0 (two_lt n), h1, h2, h3⟩
  · split
    · exact ⟨h0, or_lt h1 (two_lt n), h2, h3⟩
    · split
      · exact ⟨h0, h1, or_lt h2 (two_lt n), h3⟩
      · exact ⟨h0, h1, h2, or_lt h3 (two_lt n)⟩
theorem word_put (c : Cls) (n k : Nat) (hn : n < 256) (hk : k < 4) : (c.put n).word k = if n / 64 = k then c.word k ||| 2 ^ (n % 64) else c.word k := by
  have h : k = 0 ∨ k = 1 ∨ k = 2 ∨ k = 3 := by omega
  have h' : n / 64 = 0 ∨ n / 64 = 1 ∨ n / 64 = 2 ∨ n / 64 = 3 := by omega
  unfold put
  rcases h' with h' | h' | h' | h' <;> rw [h'] <;> rcases h with rfl | rfl | rfl | rfl <;> simp [word]
theorem mem_put (c : Cls) (n i : Nat) (hn : n < 256) (hi : i < 256) : (c.put n).mem i = (c.mem i || decide (i = n)) := by
  unfold mem
  rw [word_put c n _ hn (by omega)]
  split
  · rename_i h
    rw [Nat.testBit_or]
    by_cases e : i = n
    · subst e
      simp [Nat.testBit_two_pow_self]
    · rw [Nat.testBit_two_pow_of_ne (by omega)]
      simp [e]
  · rename_i h
    have e : ¬ i = n := fun e => h (by rw [e])
    simp [e]
theorem put_ofFn (f : Nat → Bool) (n : Nat) (hn : n < 256) : (ofFn f).put n = ofFn (fun i => f i || decide (i = n)) :=
  eq_ofFn (ok_put (ok_ofFn f) n) fun i hi => by rw [mem_put _ n i hn hi, mem_ofFn f i hi]
/-- No byte. -/
def none : Cls := ⟨0, 0, 0, 0⟩
theorem ok_none : none.ok := by unfold ok none w64; simp
theorem mem_none (i : Nat) : none.mem i = false := by unfold mem none word; simp
theorem none_ofFn : none = ofFn (fun _ => false) := eq_ofFn ok_none fun i _ => mem_none i
end Cls
theorem Cls.list_at (a : Cls) (k : Nat) (hk : k < 4) : [Value.int .u64 (a.c0 : Int), .int .u64 (a.c1 : Int), .int .u64 (a.c2 : Int), .int .u64 (a.c3 : Int)][k]? = some (.int .u64 (a.word k : Int)) := by
  have h : k = 0 ∨ k = 1 ∨ k = 2 ∨ k = 3 := by omega
  rcases h with rfl | rfl | rfl | rfl <;> rfl
theorem bits_or {a b : Nat} (ha : a < w64) (hb : b < w64) : bits .or .u64 (a : Int) (b : Int) = ((a ||| b : Nat) : Int) := bits_or_u64_nat a b ha hb
theorem bits_and {a b : Nat} (ha : a < w64) (hb : b < w64) : bits .and .u64 (a : Int) (b : Int) = ((a &&& b : Nat) : Int) := bits_and_u64_nat a b ha hb
theorem xor_all {a : Nat} (ha : a < w64) : 18446744073709551615 ^^^ a = Cls.no a := by
  have hn := Cls.no_lt a
  apply Nat.eq_of_testBit_eq
  intro i
  rw [Nat.testBit_xor]
  by_cases hi : i < 64
  · rw [Cls.testBit_no a i ha hi, show (18446744073709551615 : Nat) = 2 ^ 64 - 1 from rfl, Nat.testBit_two_pow_sub_one]
    simp [hi]
  · have hp : w64 ≤ 2 ^ i := by rw [w64_pow]; exact Nat.pow_le_pow_right (by omega) (by omega)
    have h1 : a < 2 ^ i := Nat.lt_of_lt_of_le ha hp
    have h2 : Cls.no a < 2 ^ i := Nat.lt_of_lt_of_le hn hp
    rw [Nat.testBit_lt_two_pow h1, Nat.testBit_lt_two_pow h2, show (18446744073709551615 : Nat) = 2 ^ 64 - 1 from rfl, Nat.testBit_two_pow_sub_one]
    simp [hi]
theorem bits_not {a : Nat} (ha : a < w64) : bits .xor .u64 IntKind.u64.max (a : Int) = ((Cls.no a : Nat) : Int) := by
  rw [← xor_all ha]
  exact bits_xor_u64_nat 18446744073709551615 a (by omega) ha
theorem bit_cast (n k : Nat) : ((n : Int) / 2 ^ k) = ((n / 2 ^ k : Nat) : Int) := by simp
theorem bits_bit {n : Nat} (hn : n < w64) (k : Nat) : bits .and .u64 ((n : Int) / 2 ^ k) 1 = if n.testBit k then 1 else 0 := by
  rw [bit_cast, show (1 : Int) = ((1 : Nat) : Int) from rfl, bits_and (Nat.lt_of_le_of_lt (Nat.div_le_self _ _) hn) (by unfold w64; omega), Nat.and_one_is_mod, Nat.testBit_eq_decide_div_mod_eq]
  have := Nat.mod_lt (n / 2 ^ k) (show 2 > 0 by omega)
  by_cases h : n / 2 ^ k % 2 = 1
  · simp [h]
  · have h0 : n / 2 ^ k % 2 = 0 := by omega
    simp [h0]
theorem bit_ne {n : Nat} (hn : n < w64) (k : Nat) : (bits .and .u64 ((n : Int) / 2 ^ k) 1 != 0) = n.testBit k := by
  rw [bits_bit hn]; cases n.testBit k <;> rfl
theorem Cls.cells_at (a : Cls) (k : Nat) (hk : k < 4) : a.cells[k]? = some (.int .u64 (a.word k : Int)) := by
  have h := a.list_at k hk
  simpa [Cls.cells] using h
theorem Cls.cells_one (a : Cls) : a.cells.all (·.oneCell') = true := by simp [Cls.cells, Value.oneCell']
end Go.Proofs.YtldjdcdoegjmoaaDoor
set_option linter.unusedVariables false
set_option linter.unusedSimpArgs false
namespace Go.Proofs.YtldjdcdoegjmoaaDoor
open Go.RowKit
abbrev V4 (a : Cls) : Value := .agg #[.int .u64 a.c0, .int .u64 a.c1, .int .u64 a.c2, .int .u64 a.c3]
theorem ret_bool {a b : Bool} (h : a = b) : Ending.returned (.bool a) = .returned (.bool b) := by rw [h]
theorem ret_v {a b : Value} (h : a = b) : Ending.returned a = .returned b := by rw [h]
theorem V4_mk {x0 x1 x2 x3 : Int} {c : Cls} (h0 : x0 = c.c0) (h1 : x1 = c.c1) (h2 : x2 = c.c2) (h3 : x3 = c.c3) : Ending.returned (.agg #[.int .u64 x0, .int .u64 x1, .int .u64 x2, .int .u64 x3]) = .returned (V4 c) := by
  subst h0 h1 h2 h3; rfl
set_option maxRecDepth 100000 in
theorem has_c (a : Cls) (ha : a.ok) (x : Nat) (hx : x < 256) (w : World) : Calls Tryd.prog 98 #[V4 a, .int .u8 (x : Int)] w fun e w' => e = .returned (.bool (a.mem x)) ∧ Below w.heap.size w w' := by
  have hc := a.list_at (x / 64) (by omega)
  have hw := Cls.word_lt ha (x / 64)
  have H := Lib.hid hw; clear hw ha
  go_enter Tryd.func98, Tryd.ntmps98
  go_wp2
  go_ret
  exact ⟨ret_bool (bit_ne H.out _), (Below.refl _ _).alloc (Nat.le_refl _) _⟩
set_option maxRecDepth 100000 in
theorem not_c (a : Cls) (ha : a.ok) (w : World) : Calls Tryd.prog 61 #[V4 a] w fun e w' => e = .returned (V4 a.not) ∧ Below w.heap.size w w' := by
  have HA := Lib.hid ha; clear ha
  go_enter Tryd.func61, Tryd.ntmps61
  go_wp2
  refine wp_loop_rounds 5 ?_
  rw [rounds_succ]; go_wp2
  rw [rounds_succ]; go_wp2
  rw [rounds_succ]; go_wp2
  rw [rounds_succ]; go_wp2
  rw [rounds_succ]; go_wp2
  refine bodyPost_ret (v := .agg #[.int .u64 _, .int .u64 _, .int .u64 _, .int .u64 _]) (by simp [results, Tryd.results61, go_sem]) rfl ⟨V4_mk (bits_not HA.out.1) (bits_not HA.out.2.1) (bits_not HA.out.2.2.1) (bits_not HA.out.2.2.2), ?_⟩
  exact ((Below.refl _ _).alloc (Nat.le_refl _) _).alloc (by simp) _
end Go.Proofs.YtldjdcdoegjmoaaDoor
namespace Go.Proofs.YtldjdcdoegjmoaaDoor
theorem bits_put {c : Cls} (hc : c.ok) (k : Nat) : bits .or .u64 (c.word (k / 64) : Int) (IntKind.u64.wrap (2 ^ (k % 64))) = ((c.word (k / 64) ||| 2 ^ (k % 64) : Nat) : Int) := by
  have h : IntKind.u64.wrap ((2 : Int) ^ (k % 64)) = ((2 ^ (k % 64) : Nat) : Int) := by
    have h1 := Cls.two_lt k
    rw [IntKind.wrap_u64, show ((2 : Int) ^ (k % 64)) = ((2 ^ (k % 64) : Nat) : Int) by simp]
    generalize 2 ^ (k % 64) = m at h1 ⊢
    unfold w64 at h1
    omega
  rw [h]
  exact bits_or (Cls.word_lt hc _) (Cls.two_lt k)
theorem Cls.cells_put {c : Cls} {k : Nat} (hk : k < 256) : c.cells.setIfInBounds (k / 64) (.int .u64 ((c.word (k / 64) ||| 2 ^ (k % 64) : Nat) : Int)) = (c.put k).cells := by
  have h : k / 64 = 0 ∨ k / 64 = 1 ∨ k / 64 = 2 ∨ k / 64 = 3 := by omega
  unfold put cells
  rcases h with h | h | h | h <;> rw [h] <;> rfl
end Go.Proofs.YtldjdcdoegjmoaaDoor
set_option linter.unusedVariables false
set_option linter.unusedSimpArgs false
namespace Go.Proofs.YtldjdcdoegjmoaaDoor
open Go.RowKit
theorem infoCls (a : Cls) : (Tryd.prog.info? 24).map (·.size) = some a.cells.size := by kernel_rfl
end Go.Proofs.YtldjdcdoegjmoaaDoor
set_option linter.unusedVariables false
set_option linter.unusedSimpArgs false
namespace Go.Proofs.YtldjdcdoegjmoaaDoor
open Go.RowKit
/-- A text's byte at a place; 0: there is none. -/
def bat (s : ByteArray) (i : Nat) : Nat := (s.data.toList.getD i 0).toNat
theorem bat_lt (s : ByteArray) (i : Nat) : bat s i < 256 := (s.data.toList.getD i 0).toNat_lt
theorem bat_eq (s : ByteArray) (i : Nat) (h : i < s.size) : (s[i]'h).toNat = bat s i := by
  unfold bat
  rw [List.getD_eq_getElem?_getD, List.getElem?_eq_getElem (by simpa using h)]
  rfl
/-- What a hexadecimal digit is worth; -1: it is none. -/
def hexv (c : Nat) : Int := if 48 ≤ c ∧ c ≤ 57 then (c : Int) - 48 else if 97 ≤ c ∧ c ≤ 102 then (c : Int) - 87 else if 65 ≤ c ∧ c ≤ 70 then (c : Int) - 55 else -1
theorem hexv_hi (c : Nat) : hexv c ≤ 15 := by unfold hexv; split <;> (try split) <;> (try split) <;> omega
set_option maxRecDepth 100000 in
theorem or32 : ∀ c : Fin 256, bits .or .u8 ((c.val : Nat) : Int) 32 = if c.val / 32 % 2 = 1 then ((c.val : Nat) : Int) else ((c.val : Nat) : Int) + 32 := by decide +kernel
theorem ret_int {k : IntKind} {a b : Int} (h : a = b) : Ending.returned (.int k a) = .returned (.int k b) := by rw [h]
theorem digit_c (c : Nat) (hc : c < 256) (w : World) : Calls Tryd.prog 105 #[.int .u8 (c : Int)] w fun e w' => e = .returned (.int .i64 (hexv c)) ∧ w' = w := by
  have hx := or32 ⟨c, hc⟩
  dsimp only at hx
  go_enter Tryd.func105, Tryd.ntmps105
  go_wp2
  all_goals go_ret
  all_goals refine ⟨ret_int ?_, rfl⟩
  all_goals unfold hexv
  all_goals split at hx <;> split <;> (try split) <;> (try split) <;> omega
end Go.Proofs.YtldjdcdoegjmoaaDoor
set_option linter.unusedVariables false
set_option linter.unusedSimpArgs false
namespace Go.Proofs.YtldjdcdoegjmoaaDoor
open Go.RowKit
theorem gb_drew {w w' : World} {row : Option Nat} (h : w.grownBy w' row) : w.grownBy w'.drew row := ⟨h.os, h.tape, h.output, h.size, h.block⟩
theorem gb_drewN {w w' : World} {n : Nat} {row : Option Nat} (h : w.grownBy w' row) : w.grownBy (w'.drewN n) row := ⟨h.os, h.tape, h.output, h.size, h.block⟩
theorem gb_refl (w : World) (row : Option Nat) : w.grownBy w row := World.grownBy.refl w row
/-- A class's reader: its cells. -/
def rdCells (s : ByteArray) (b p : Nat) : Array Value := #[.string s, .int .i64 (b : Int), .int .i64 (p : Int)]
def RdAt (w : World) (g : Nat) (s : ByteArray) (b p : Nat) : Prop := w.heap[g]? = some (.cells (rdCells s b p) 96 (0, 0))
def bigN : Nat := 4611686018427387904
theorem RdAt.c0 {w : World} {g : Nat} {s : ByteArray} {b p : Nat} (h : RdAt w g s b p) : w.cell? ⟨g, 0, none⟩ = some (.string s) := by rw [cell_of_row _ _ _ _ _ _ h]; rfl
theorem RdAt.c1 {w : World} {g : Nat} {s : ByteArray} {b p : Nat} (h : RdAt w g s b p) : w.cell? ⟨g, 1, none⟩ = some (.int .i64 (b : Int)) := by rw [cell_of_row _ _ _ _ _ _ h]; rfl
theorem RdAt.c2 {w : World} {g : Nat} {s : ByteArray} {b p : Nat} (h : RdAt w g s b p) : w.cell? ⟨g, 2, none⟩ = some (.int .i64 (p : Int)) := by rw [cell_of_row _ _ _ _ _ _ h]; rfl
theorem RdAt.f2 {w : World} {g : Nat} {s : ByteArray} {b p : Nat} (h : RdAt w g s b p) : w.frozen? ⟨g, 2, none⟩ = false := frozen_of_row _ _ _ _ _ h
theorem RdAt.moved {w : World} {g : Nat} {s : ByteArray} {b p : Nat} (h : RdAt w g s b p) (q : Nat) : RdAt (w.setCell ⟨g, 2, none⟩ (.int .i64 (q : Int))) g s b q := heap_put h
def Skipped (s : ByteArray) (b p g x : Nat) (w : World) (e : Ending) (w' : World) : Prop :=
  e = .returned (.bool (decide (p < s.size ∧ bat s p = x))) ∧ w.grownBy w' (some g) ∧ RdAt w' g s b (if p < s.size ∧ bat s p = x then p + 1 else p)
set_option maxRecDepth 100000 in
theorem skip_c (s : ByteArray) (hs : s.size ≤ bigN) (b p g x : Nat) (hx : x < 256) (hp : p ≤ s.size) (w : World) (H : RdAt w g s b p) : Calls Tryd.prog 77 #[.pointer (some ⟨g, 0, none⟩), .int .u8 (x : Int)] w (Skipped s b p g x w) := by
  have c0 := H.c0; have c2 := H.c2; have f2 := H.f2
  unfold bigN at hs
  go_enter Tryd.func77, Tryd.ntmps77
  by_cases hlt : p < s.size
  · have hb := bat_eq s p hlt
    by_cases he : bat s p = x
    · have hd : decide (((bat s p : Nat) : Int) = (x : Int)) = true := by simp [he]
      rw [← hb] at hd
      go_wp2
      go_quiet (fail)
      go_wp2
      go_ret
      unfold Skipped
      rw [decide_eq_true ⟨hlt, he⟩, if_pos ⟨hlt, he⟩]
      exact ⟨rfl, Go.Lib.grownBy_setB (gb_drewN (gb_refl _ _)) _ _, H.moved _⟩
    · have hd : decide (((bat s p : Nat) : Int) = (x : Int)) = false := by simp; omega
      rw [← hb] at hd
      go_wp2
      go_quiet (fail)
      go_wp2
      go_ret
      unfold Skipped
      rw [decide_eq_false (fun h => he h.2), if_neg (fun h => he h.2)]
      exact ⟨rfl, gb_drewN (gb_refl _ _), H⟩
  · go_wp2
    go_quiet (fail)
    go_wp2
    go_ret
    unfold Skipped
    rw [decide_eq_false (fun h => hlt h.1), if_neg (fun h => hlt h.1)]
    exact ⟨rfl, gb_drewN (gb_refl _ _), H⟩
end Go.Proofs.YtldjdcdoegjmoaaDoor
set_option linter.unusedVariables false
set_option linter.unusedSimpArgs false
namespace Go.Proofs.YtldjdcdoegjmoaaDoor
open Go.RowKit
/-- What an escape says: the byte, the place behind it, what is wrong. -/
def escF (s : ByteArray) (p : Nat) : Nat × Nat × Nat :=
  if p + 1 < s.size then
    if bat s (p + 1) = 116 then (9, p + 2, 0) else if bat s (p + 1) = 110 then (10, p + 2, 0) else if bat s (p + 1) = 114 then (13, p + 2, 0)
    else if bat s (p + 1) = 92 ∨ bat s (p + 1) = 93 ∨ bat s (p + 1) = 45 ∨ bat s (p + 1) = 94 ∨ bat s (p + 1) = 39 ∨ bat s (p + 1) = 34 then (bat s (p + 1), p + 2, 0)
    else if bat s (p + 1) = 120 ∧ p + 3 < s.size ∧ 0 ≤ hexv (bat s (p + 2)) ∧ 0 ≤ hexv (bat s (p + 3)) then ((16 * hexv (bat s (p + 2)) + hexv (bat s (p + 3))).toNat, p + 4, 0)
    else (0, p, 42)
  else (0, p, 42)
/-- A fault at a place, or none. -/
def fv (p c : Nat) : Value := if c = 0 then .agg #[.int .i64 0, .int .i64 0] else .agg #[.int .i64 (p : Int), .int .i64 (c : Int)]
def Escaped (s : ByteArray) (b p g : Nat) (f : Nat × Nat × Nat) (w : World) (e : Ending) (w' : World) : Prop :=
  e = .returned (.tuple #[.int .u8 (f.1 : Int), fv p f.2.2]) ∧ w.grownBy w' (some g) ∧ RdAt w' g s b f.2.1
theorem gb_new {w w' : World} {row : Option Nat} (h : w.grownBy w' row) (a : Addr) (ha : w.heap.size ≤ a.block) (v : Value) : w.grownBy (w'.setCell a v) row :=
  ⟨by simpa [World.setCell] using h.os, by simpa [World.setCell] using h.tape, by simpa [World.setCell] using h.output, by rw [size_setCell]; exact h.size, fun k hk hr => (Below.heap_setCell _ _ _ _ (by omega)).trans (h.block k hk hr)⟩
theorem RdAt.new {w : World} {g : Nat} {s : ByteArray} {b p : Nat} (h : RdAt w g s b p) (a : Addr) (v : Value) (ha : g ≠ a.block) : RdAt (w.setCell a v) g s b p := heap_other ha h
theorem RdAt.drewN {w : World} {g : Nat} {s : ByteArray} {b p n : Nat} (h : RdAt w g s b p) : RdAt (w.drewN n) g s b p := h
theorem RdAt.drew {w : World} {g : Nat} {s : ByteArray} {b p : Nat} (h : RdAt w g s b p) : RdAt w.drew g s b p := h
theorem RdAt.alloc {w : World} {g : Nat} {s : ByteArray} {b p : Nat} (h : RdAt w g s b p) (o : Obj) : RdAt (w.alloc o) g s b p := heap_keep h
theorem RdAt.moved1 {w : World} {g : Nat} {s : ByteArray} {b p : Nat} (h : RdAt w g s b p) : RdAt (w.setCell ⟨g, 2, none⟩ (.int .i64 ((p : Int) + 1))) g s b (p + 1) := h.moved (p + 1)
theorem RdAt.moved2 {w : World} {g : Nat} {s : ByteArray} {b p : Nat} (h : RdAt w g s b p) : RdAt (w.setCell ⟨g, 2, none⟩ (.int .i64 ((p : Int) + 2))) g s b (p + 2) := h.moved (p + 2)
theorem RdAt.moved4 {w : World} {g : Nat} {s : ByteArray} {b p : Nat} (h : RdAt w g s b p) : RdAt (w.setCell ⟨g, 2, none⟩ (.int .i64 ((p : Int) + 4))) g s b (p + 4) := h.moved (p + 4)
theorem esc_ok {s : ByteArray} {b p g x q : Nat} {w w' : World} {X : Value} {f : Nat × Nat × Nat} (hf : f = (x, q, 0)) (hX : X = .int .u8 (x : Int)) (hw : w.grownBy w' (some g)) (h : RdAt w' g s b q) :
    Escaped s b p g f w (.returned (.tuple #[X, .agg #[.int .i64 0, .int .i64 0]])) w' := by subst hf; exact ⟨by rw [hX]; rfl, hw, h⟩
theorem esc_bad {s : ByteArray} {b p g a c : Nat} {w w' : World} {f : Nat × Nat × Nat} (hf : f = (0, p, c)) (hc : c ≠ 0) {C : Int} (hC : C = (c : Int)) (ha : a = p) (hw : w.grownBy w' (some g)) (h : RdAt w' g s b p) :
    Escaped s b a g f w (.returned (.tuple #[.int .u8 0, .agg #[.int .i64 (p : Int), .int .i64 C]])) w' := by subst hf; exact ⟨by unfold fv; rw [if_neg hc, hC, ha]; rfl, hw, h⟩
theorem escF_end {s : ByteArray} {p : Nat} (h : ¬ p + 1 < s.size) : escF s p = (0, p, 42) := by unfold escF; rw [if_neg h]
theorem escF_t {s : ByteArray} {p : Nat} (h : p + 1 < s.size) (hd : bat s (p + 1) = 116) : escF s p = (9, p + 2, 0) := by unfold escF; rw [if_pos h, if_pos hd]
theorem escF_n {s : ByteArray} {p : Nat} (h : p + 1 < s.size) (hd : bat s (p + 1) = 110) : escF s p = (10, p + 2, 0) := by unfold escF; rw [if_pos h, if_neg (by omega), if_pos hd]
theorem escF_r {s : ByteArray} {p : Nat} (h : p + 1 < s.size) (hd : bat s (p + 1) = 114) : escF s p = (13, p + 2, 0) := by unfold escF; rw [if_pos h, if_neg (by omega), if_neg (by omega), if_pos hd]
theorem escF_q {s : ByteArray} {p : Nat} (h : p + 1 < s.size) (hd : bat s (p + 1) = 92 ∨ bat s (p + 1) = 93 ∨ bat s (p + 1) = 45 ∨ bat s (p + 1) = 94 ∨ bat s (p + 1) = 39 ∨ bat s (p + 1) = 34) : escF s p = (bat s (p + 1), p + 2, 0) := by
  unfold escF; rw [if_pos h, if_neg (by omega), if_neg (by omega), if_neg (by omega), if_pos hd]
theorem escF_x {s : ByteArray} {p : Nat} (h : p + 3 < s.size) (hd : bat s (p + 1) = 120) (h0 : 0 ≤ hexv (bat s (p + 2))) (h1 : 0 ≤ hexv (bat s (p + 3))) : escF s p = ((16 * hexv (bat s (p + 2)) + hexv (bat s (p + 3))).toNat, p + 4, 0) := by
  unfold escF; rw [if_pos (by omega), if_neg (by omega), if_neg (by omega), if_neg (by omega), if_neg (by omega), if_pos ⟨hd, h, h0, h1⟩]
theorem escF_no {s : ByteArray} {p : Nat} (h1 : bat s (p + 1) ≠ 116) (h2 : bat s (p + 1) ≠ 110) (h3 : bat s (p + 1) ≠ 114) (h4 : ¬ (bat s (p + 1) = 92 ∨ bat s (p + 1) = 93 ∨ bat s (p + 1) = 45 ∨ bat s (p + 1) = 94 ∨ bat s (p + 1) = 39 ∨ bat s (p + 1) = 34))
    (h5 : bat s (p + 1) = 120 → p + 3 < s.size → 0 ≤ hexv (bat s (p + 2)) → 0 ≤ hexv (bat s (p + 3)) → False) : escF s p = (0, p, 42) := by
  unfold escF; split
  · rw [if_neg (fun h => h5 h.1 h.2.1 h.2.2.1 h.2.2.2)]
  · rfl
theorem qa_same {P : Program} {f : FuncId} {args : Array Value} {w : World} {a n : Nat} {v : Value} (h : Calls P f args (w.drewN (a + n)) fun e w' => e = .returned v ∧ w' = w.drewN (a + n)) :
    Calls P f args (w.drewN (a + n)) fun e w' => e = .returned v ∧ ∃ m, w' = w.drewN (a + m) := h.mono fun _ _ q => ⟨q.1, n, q.2⟩
theorem hex_or : ∀ a b : Fin 16, IntKind.u8.wrap (bits .or .i64 (((a.val : Nat) : Int) * 16) ((b.val : Nat) : Int)) = 16 * ((a.val : Nat) : Int) + ((b.val : Nat) : Int) := by decide +kernel
set_option maxRecDepth 100000 in
set_option maxHeartbeats 1000000 in
theorem escape_c (s : ByteArray) (hs : s.size ≤ bigN) (b p g : Nat) (hp : p < s.size) (w : World) (H : RdAt w g s b p) : Calls Tryd.prog 99 #[.pointer (some ⟨g, 0, none⟩)] w (Escaped s b p g (escF s p) w) := by
  have c0 := H.c0; have c2 := H.c2; have f2 := H.f2; have hg := heap_lt H
  unfold bigN at hs
  go_enter Tryd.func99, Tryd.ntmps99
  by_cases hlt : p + 1 < s.size
  · have hb := bat_eq s (p + 1) hlt
    go_wp2
    go_quiet (fail)
    go_wp2
    go_quiet (fail)
    have HB := Lib.hid hb; clear hb
    by_cases d1 : bat s (p + 1) = 116
    · have hd : (s[p + 1]'hlt).toNat = 116 := HB.out.trans d1
      have HF := Lib.hid (escF_t hlt d1)
      go_wp2
      refine bodyPost_ret (v := .tuple #[.int .u8 9, .agg #[.int .i64 0, .int .i64 0]]) (by simp [results, Tryd.results99, go_sem]) rfl (esc_ok HF.out ?_ ?_ ?_)
      · first | rfl | (simp [*]; done)
      · (repeat (first | with_reducible exact gb_refl _ _ | with_reducible apply gb_drewN | with_reducible apply gb_drew | with_reducible apply Go.Lib.grownBy_allocR | (with_reducible refine gb_new ?_ _ (by dsimp only; omega) _) | with_reducible apply Go.Lib.grownBy_setB))
      · ((repeat (first | with_reducible apply RdAt.drewN | with_reducible apply RdAt.drew | with_reducible apply RdAt.alloc | with_reducible apply RdAt.moved2 | with_reducible apply RdAt.moved4 | with_reducible apply RdAt.moved1 | (with_reducible refine RdAt.new ?_ _ _ (by dsimp only; omega)))); exact H)
    by_cases d2 : bat s (p + 1) = 110
    · have hd : (s[p + 1]'hlt).toNat = 110 := HB.out.trans d2
      have HF := Lib.hid (escF_n hlt d2)
      go_wp2
      refine bodyPost_ret (v := .tuple #[.int .u8 10, .agg #[.int .i64 0, .int .i64 0]]) (by simp [results, Tryd.results99, go_sem]) rfl (esc_ok HF.out ?_ ?_ ?_)
      · first | rfl | (simp [*]; done)
      · (repeat (first | with_reducible exact gb_refl _ _ | with_reducible apply gb_drewN | with_reducible apply gb_drew | with_reducible apply Go.Lib.grownBy_allocR | (with_reducible refine gb_new ?_ _ (by dsimp only; omega) _) | with_reducible apply Go.Lib.grownBy_setB))
      · ((repeat (first | with_reducible apply RdAt.drewN | with_reducible apply RdAt.drew | with_reducible apply RdAt.alloc | with_reducible apply RdAt.moved2 | with_reducible apply RdAt.moved4 | with_reducible apply RdAt.moved1 | (with_reducible refine RdAt.new ?_ _ _ (by dsimp only; omega)))); exact H)
    by_cases d3 : bat s (p + 1) = 114
    · have hd : (s[p + 1]'hlt).toNat = 114 := HB.out.trans d3
      have HF := Lib.hid (escF_r hlt d3)
      go_wp2
      refine bodyPost_ret (v := .tuple #[.int .u8 13, .agg #[.int .i64 0, .int .i64 0]]) (by simp [results, Tryd.results99, go_sem]) rfl (esc_ok HF.out ?_ ?_ ?_)
      · first | rfl | (simp [*]; done)
      · (repeat (first | with_reducible exact gb_refl _ _ | with_reducible apply gb_drewN | with_reducible apply gb_drew | with_reducible apply Go.Lib.grownBy_allocR | (with_reducible refine gb_new ?_ _ (by dsimp only; omega) _) | with_reducible apply Go.Lib.grownBy_setB))
      · ((repeat (first | with_reducible apply RdAt.drewN | with_reducible apply RdAt.drew | with_reducible apply RdAt.alloc | with_reducible apply RdAt.moved2 | with_reducible apply RdAt.moved4 | with_reducible apply RdAt.moved1 | (with_reducible refine RdAt.new ?_ _ _ (by dsimp only; omega)))); exact H)
    have hb := HB.out
    have n1 : ¬ (s[p + 1]'hlt).toNat = 116 := by omega
    have n2 : ¬ (s[p + 1]'hlt).toNat = 110 := by omega
    have n3 : ¬ (s[p + 1]'hlt).toNat = 114 := by omega
    by_cases d4 : bat s (p + 1) = 92 ∨ bat s (p + 1) = 93 ∨ bat s (p + 1) = 45 ∨ bat s (p + 1) = 94 ∨ bat s (p + 1) = 39 ∨ bat s (p + 1) = 34
    · have HF := Lib.hid (escF_q hlt d4)
      rw [← HB.out] at d4
      rcases d4 with d4 | d4 | d4 | d4 | d4 | d4
      all_goals go_wp2
      all_goals
        refine bodyPost_ret (v := .tuple #[.int .u8 ((bat s (p + 1) : Nat) : Int), .agg #[.int .i64 0, .int .i64 0]]) (by simp [results, Tryd.results99, go_sem]) rfl (esc_ok HF.out ?_ ?_ ?_)
        · first | rfl | (simp [*]; done)
        · (repeat (first | with_reducible exact gb_refl _ _ | with_reducible apply gb_drewN | with_reducible apply gb_drew | with_reducible apply Go.Lib.grownBy_allocR | (with_reducible refine gb_new ?_ _ (by dsimp only; omega) _) | with_reducible apply Go.Lib.grownBy_setB))
        · ((repeat (first | with_reducible apply RdAt.drewN | with_reducible apply RdAt.drew | with_reducible apply RdAt.alloc | with_reducible apply RdAt.moved2 | with_reducible apply RdAt.moved4 | with_reducible apply RdAt.moved1 | (with_reducible refine RdAt.new ?_ _ _ (by dsimp only; omega)))); exact H)
    have n4 : ¬ (s[p + 1]'hlt).toNat = 92 := by omega
    have n5 : ¬ (s[p + 1]'hlt).toNat = 93 := by omega
    have n6 : ¬ (s[p + 1]'hlt).toNat = 45 := by omega
    have n7 : ¬ (s[p + 1]'hlt).toNat = 94 := by omega
    have n8 : ¬ (s[p + 1]'hlt).toNat = 39 := by omega
    have n9 : ¬ (s[p + 1]'hlt).toNat = 34 := by omega
    by_cases d5 : bat s (p + 1) = 120
    · have hd : (s[p + 1]'hlt).toNat = 120 := HB.out.trans d5
      by_cases hl3 : p + 3 < s.size
      · have hl2 : p + 2 < s.size := by omega
        have hz2 : (0 : Int) ≤ (p : Int) + 2 ∧ (p : Int) + 2 < (s.size : Int) := ⟨by omega, by omega⟩
        have hz3 : (0 : Int) ≤ (p : Int) + 3 ∧ (p : Int) + 3 < (s.size : Int) := ⟨by omega, by omega⟩
        have hb2 := bat_eq s (p + 2) hl2
        have hb3 := bat_eq s (p + 3) hl3
        go_wp2
        go_quiet (fail)
        go_wp2
        go_quiet ((go_at_call 105; first | exact Calls.quiet_of_same (digit_c _ (bat_lt s _) _) | exact qa_same (digit_c _ (bat_lt s _) _)))
        by_cases h0 : 0 ≤ hexv (bat s (p + 2))
        · obtain ⟨x, hx⟩ := Int.eq_ofNat_of_zero_le h0
          have hx2 := hexv_hi (bat s (p + 2))
          by_cases h1 : 0 ≤ hexv (bat s (p + 3))
          · obtain ⟨y, hy⟩ := Int.eq_ofNat_of_zero_le h1
            have hy2 := hexv_hi (bat s (p + 3))
            have HF := Lib.hid (escF_x hl3 d5 h0 h1)
            rw [hx, hy] at HF
            go_wp2
            refine bodyPost_ret (v := .tuple #[.int .u8 (16 * (x : Int) + (y : Int)), .agg #[.int .i64 0, .int .i64 0]]) (by simp [results, Tryd.results99, go_sem]; exact hex_or ⟨x, by omega⟩ ⟨y, by omega⟩) rfl (esc_ok HF.out ?_ ?_ ?_)
            · congr 1
            · (repeat (first | with_reducible exact gb_refl _ _ | with_reducible apply gb_drewN | with_reducible apply gb_drew | with_reducible apply Go.Lib.grownBy_allocR | (with_reducible refine gb_new ?_ _ (by dsimp only; omega) _) | with_reducible apply Go.Lib.grownBy_setB))
            · ((repeat (first | with_reducible apply RdAt.drewN | with_reducible apply RdAt.drew | with_reducible apply RdAt.alloc | with_reducible apply RdAt.moved2 | with_reducible apply RdAt.moved4 | with_reducible apply RdAt.moved1 | (with_reducible refine RdAt.new ?_ _ _ (by dsimp only; omega)))); exact H)
          · have HF := Lib.hid (escF_no d1 d2 d3 d4 (fun _ _ _ h => absurd h h1))
            go_wp2
            go_region
            go_wp2
            refine bodyPost_ret (v := .tuple #[.int .u8 0, .agg #[.int .i64 (p : Int), .int .i64 42]]) (by simp [results, Tryd.results99, go_sem]) rfl (esc_bad HF.out (by decide) rfl rfl ?_ ?_)
            · (repeat (first | with_reducible exact gb_refl _ _ | with_reducible apply gb_drewN | with_reducible apply gb_drew | with_reducible apply Go.Lib.grownBy_allocR | (with_reducible refine gb_new ?_ _ (by dsimp only; omega) _) | with_reducible apply Go.Lib.grownBy_setB))
            · ((repeat (first | with_reducible apply RdAt.drewN | with_reducible apply RdAt.drew | with_reducible apply RdAt.alloc | with_reducible apply RdAt.moved2 | with_reducible apply RdAt.moved4 | with_reducible apply RdAt.moved1 | (with_reducible refine RdAt.new ?_ _ _ (by dsimp only; omega)))); exact H)
        · have HF := Lib.hid (escF_no d1 d2 d3 d4 (fun _ _ h _ => absurd h h0))
          go_wp2
          go_region
          go_wp2
          refine bodyPost_ret (v := .tuple #[.int .u8 0, .agg #[.int .i64 (p : Int), .int .i64 42]]) (by simp [results, Tryd.results99, go_sem]) rfl (esc_bad HF.out (by decide) rfl rfl ?_ ?_)
          · (repeat (first | with_reducible exact gb_refl _ _ | with_reducible apply gb_drewN | with_reducible apply gb_drew | with_reducible apply Go.Lib.grownBy_allocR | (with_reducible refine gb_new ?_ _ (by dsimp only; omega) _) | with_reducible apply Go.Lib.grownBy_setB))
          · ((repeat (first | with_reducible apply RdAt.drewN | with_reducible apply RdAt.drew | with_reducible apply RdAt.alloc | with_reducible apply RdAt.moved2 | with_reducible apply RdAt.moved4 | with_reducible apply RdAt.moved1 | (with_reducible refine RdAt.new ?_ _ _ (by dsimp only; omega)))); exact H)
      · have HF := Lib.hid (escF_no d1 d2 d3 d4 (fun _ h => absurd h hl3))
        go_wp2
        go_quiet (fail)
        go_wp2
        go_region
        go_wp2
        refine bodyPost_ret (v := .tuple #[.int .u8 0, .agg #[.int .i64 (p : Int), .int .i64 42]]) (by simp [results, Tryd.results99, go_sem]) rfl (esc_bad HF.out (by decide) rfl rfl ?_ ?_)
        · (repeat (first | with_reducible exact gb_refl _ _ | with_reducible apply gb_drewN | with_reducible apply gb_drew | with_reducible apply Go.Lib.grownBy_allocR | (with_reducible refine gb_new ?_ _ (by dsimp only; omega) _) | with_reducible apply Go.Lib.grownBy_setB))
        · ((repeat (first | with_reducible apply RdAt.drewN | with_reducible apply RdAt.drew | with_reducible apply RdAt.alloc | with_reducible apply RdAt.moved2 | with_reducible apply RdAt.moved4 | with_reducible apply RdAt.moved1 | (with_reducible refine RdAt.new ?_ _ _ (by dsimp only; omega)))); exact H)
    · have n0 : ¬ (s[p + 1]'hlt).toNat = 120 := by omega
      have HF := Lib.hid (escF_no d1 d2 d3 d4 (fun h => absurd h d5))
      go_wp2
      go_region
      go_wp2
      refine bodyPost_ret (v := .tuple #[.int .u8 0, .agg #[.int .i64 (p : Int), .int .i64 42]]) (by simp [results, Tryd.results99, go_sem]) rfl (esc_bad HF.out (by decide) rfl rfl ?_ ?_)
      · (repeat (first | with_reducible exact gb_refl _ _ | with_reducible apply gb_drewN | with_reducible apply gb_drew | with_reducible apply Go.Lib.grownBy_allocR | (with_reducible refine gb_new ?_ _ (by dsimp only; omega) _) | with_reducible apply Go.Lib.grownBy_setB))
      · ((repeat (first | with_reducible apply RdAt.drewN | with_reducible apply RdAt.drew | with_reducible apply RdAt.alloc | with_reducible apply RdAt.moved2 | with_reducible apply RdAt.moved4 | with_reducible apply RdAt.moved1 | (with_reducible refine RdAt.new ?_ _ _ (by dsimp only; omega)))); exact H)
  · have HF := Lib.hid (escF_end hlt)
    go_wp2
    go_quiet (fail)
    go_wp2
    go_region
    go_wp2
    refine bodyPost_ret (v := .tuple #[.int .u8 0, .agg #[.int .i64 (p : Int), .int .i64 42]]) (by simp [results, Tryd.results99, go_sem]) rfl (esc_bad HF.out (by decide) rfl rfl ?_ ?_)
    · (repeat (first | with_reducible exact gb_refl _ _ | with_reducible apply gb_drewN | with_reducible apply gb_drew | with_reducible apply Go.Lib.grownBy_allocR | (with_reducible refine gb_new ?_ _ (by dsimp only; omega) _) | with_reducible apply Go.Lib.grownBy_setB))
    · ((repeat (first | with_reducible apply RdAt.drewN | with_reducible apply RdAt.drew | with_reducible apply RdAt.alloc | with_reducible apply RdAt.moved2 | with_reducible apply RdAt.moved4 | with_reducible apply RdAt.moved1 | (with_reducible refine RdAt.new ?_ _ _ (by dsimp only; omega)))); exact H)
end Go.Proofs.YtldjdcdoegjmoaaDoor
set_option linter.unusedVariables false
set_option linter.unusedSimpArgs false
namespace Go.Proofs.YtldjdcdoegjmoaaDoor
open Go.RowKit
/-- What stands for no byte unless it is escaped. -/
def barred (c : Nat) : Prop := c < 32 ∨ 126 < c ∨ c = 93 ∨ c = 45 ∨ c = 94
instance (c : Nat) : Decidable (barred c) := by unfold barred; infer_instance
/-- What is said at a place of a text: the byte, the place behind it, what is wrong. -/
def sayF (s : ByteArray) (p : Nat) : Nat × Nat × Nat := if bat s p = 92 then escF s p else if barred (bat s p) then (0, p, 30) else (bat s p, p + 1, 0)
def byteF (s : ByteArray) (p : Nat) : Nat × Nat × Nat := if p < s.size then sayF s p else (0, p, 41)
/-- A fault, told at a place, at the beginning, or none. -/
def fv2 (b p c : Nat) : Value := if c = 41 then .agg #[.int .i64 (b : Int), .int .i64 41] else fv p c
theorem fv_ex (p c : Nat) : ∃ x y : Int, fv p c = .agg #[.int .i64 x, .int .i64 y] := by
  unfold fv; split
  · exact ⟨_, _, rfl⟩
  · exact ⟨_, _, rfl⟩
theorem escF_42 (s : ByteArray) (p : Nat) : (escF s p).2.2 = 0 ∨ (escF s p).2.2 = 42 := by
  unfold escF
  repeat' (split)
  all_goals first | exact .inl rfl | exact .inr rfl
def Byted (s : ByteArray) (b p g : Nat) (f : Nat × Nat × Nat) (w : World) (e : Ending) (w' : World) : Prop :=
  e = .returned (.tuple #[.int .u8 (f.1 : Int), fv2 b p f.2.2]) ∧ w.grownBy w' (some g) ∧ RdAt w' g s b f.2.1
theorem byt_ok {s : ByteArray} {b p g x q : Nat} {w w' : World} {X : Value} {f : Nat × Nat × Nat} (hf : f = (x, q, 0)) (hX : X = .int .u8 (x : Int)) (hw : w.grownBy w' (some g)) (h : RdAt w' g s b q) :
    Byted s b p g f w (.returned (.tuple #[X, .agg #[.int .i64 0, .int .i64 0]])) w' := by subst hf; exact ⟨by rw [hX]; rfl, hw, h⟩
theorem byt_bad {s : ByteArray} {b p g c : Nat} {w w' : World} {f : Nat × Nat × Nat} (hf : f = (0, p, c)) (hc : c ≠ 0) (hc2 : c ≠ 41) {C : Int} (hC : C = (c : Int)) (hw : w.grownBy w' (some g)) (h : RdAt w' g s b p) :
    Byted s b p g f w (.returned (.tuple #[.int .u8 0, .agg #[.int .i64 (p : Int), .int .i64 C]])) w' := by subst hf; exact ⟨by unfold fv2 fv; rw [if_neg hc2, if_neg hc, hC]; rfl, hw, h⟩
theorem byt_end {s : ByteArray} {b p g : Nat} {w w' : World} {f : Nat × Nat × Nat} (hf : f = (0, p, 41)) (hw : w.grownBy w' (some g)) (h : RdAt w' g s b p) :
    Byted s b p g f w (.returned (.tuple #[.int .u8 0, .agg #[.int .i64 (b : Int), .int .i64 41]])) w' := by subst hf; exact ⟨rfl, hw, h⟩
theorem sayF_bar {s : ByteArray} {p : Nat} (h : ¬ bat s p = 92) (h2 : barred (bat s p)) : sayF s p = (0, p, 30) := by unfold sayF; rw [if_neg h, if_pos h2]
theorem sayF_ok {s : ByteArray} {p : Nat} (h : ¬ bat s p = 92) (h2 : ¬ barred (bat s p)) : sayF s p = (bat s p, p + 1, 0) := by unfold sayF; rw [if_neg h, if_neg h2]
theorem byt_esc {s : ByteArray} {b p g : Nat} {w w' : World} {f q : Nat × Nat × Nat} {X Y : Int} (hf : f = q) (hX : fv p q.2.2 = .agg #[.int .i64 X, .int .i64 Y]) (hc : q.2.2 ≠ 41) (hw : w.grownBy w' (some g)) (h : RdAt w' g s b q.2.1) :
    Byted s b p g f w (.returned (.tuple #[.int .u8 (q.1 : Int), .agg #[.int .i64 X, .int .i64 Y]])) w' := by subst hf; exact ⟨by unfold fv2; rw [if_neg hc, hX], hw, h⟩
theorem set_two {w : World} {k : Nat} {u v x y : Value} {t : TypeId} (h : w.heap[k]? = some (.cells #[u, v] t (0, 0))) : (w.setCell ⟨k, 0, none⟩ x).cell? ⟨k, 0, none⟩ = some x ∧ ((w.setCell ⟨k, 0, none⟩ x).setCell ⟨k, 1, none⟩ y).cell? ⟨k, 1, none⟩ = some y ∧ ((w.setCell ⟨k, 0, none⟩ x).setCell ⟨k, 1, none⟩ y).heap[k]? = some (.cells #[x, y] t (0, 0)) :=
  ⟨by rw [cell_of_row _ _ _ _ _ _ (heap_put h)]; rfl, by rw [cell_of_row _ _ _ _ _ _ (heap_put (heap_put h))]; rfl, heap_put (heap_put h)⟩
theorem gb_heap {w w' : World} {g k : Nat} {o : Obj} (h : w.grownBy w' (some g)) (hk : w.heap[k]? = some o) (hne : k ≠ g) : w'.heap[k]? = some o := (h.block k (heap_lt hk) (fun e => hne (by cases e; rfl))).trans hk
theorem two_cells {w : World} {k : Nat} {u v : Value} {t : TypeId} (h : w.heap[k]? = some (.cells #[u, v] t (0, 0))) : w.cell? ⟨k, 0, none⟩ = some u ∧ w.cell? ⟨k, 1, none⟩ = some v ∧ w.frozen? ⟨k, 0, none⟩ = false ∧ w.frozen? ⟨k, 1, none⟩ = false :=
  ⟨by rw [cell_of_row _ _ _ _ _ _ h]; rfl, by rw [cell_of_row _ _ _ _ _ _ h]; rfl, frozen_of_row _ _ _ _ _ h, frozen_of_row _ _ _ _ _ h⟩
set_option maxRecDepth 100000 in
set_option maxHeartbeats 1000000 in
theorem byte_c (s : ByteArray) (hs : s.size ≤ bigN) (b p g : Nat) (hp : p ≤ s.size) (w : World) (H : RdAt w g s b p) : Calls Tryd.prog 90 #[.pointer (some ⟨g, 0, none⟩)] w (Byted s b p g (byteF s p) w) := by
  have c0 := H.c0; have c1 := H.c1; have c2 := H.c2; have f2 := H.f2; have hg := heap_lt H
  unfold bigN at hs
  go_enter Tryd.func90, Tryd.ntmps90
  by_cases hlt : p < s.size
  · have hb := bat_eq s p hlt
    have hF : byteF s p = sayF s p := if_pos hlt
    go_wp2
    go_quiet (fail)
    go_wp2
    go_quiet (fail)
    by_cases d1 : bat s p = 92
    · have HF : Hid (byteF s p = escF s p) := Lib.hid (by rw [hF]; unfold sayF; rw [if_pos d1])
      go_wp2_with (go_at_call 99; refine (escape_c s (by unfold bigN; exact hs) b p g hlt _ (by (repeat (first | with_reducible apply RdAt.drewN | with_reducible apply RdAt.drew | with_reducible apply RdAt.alloc | with_reducible apply RdAt.moved2 | with_reducible apply RdAt.moved4 | with_reducible apply RdAt.moved1 | (with_reducible refine RdAt.new ?_ _ _ (by dsimp only; omega)))); exact H)).mono ?_; rintro e w' ⟨he, hgb, hr⟩; obtain ⟨X, Y, hf⟩ := fv_ex p (escF s p).2.2; rw [hf] at he; subst he; have h3 := gb_heap (k := w.heap.size) (o := .cells #[.int .i64 0, .int .i64 0] 41 (0, 0)) hgb (heap_new _ _) (by omega); obtain ⟨k0, k1, k2, k3⟩ := two_cells h3; have c2' := hr.c2)
      have H42 := escF_42 s p
      have HQ := Lib.hid hf; clear hf
      obtain ⟨r0, r1, _⟩ := set_two (x := .int .i64 X) (y := .int .i64 Y) h3
      refine bodyPost_ret (v := .tuple #[.int .u8 ((escF s p).1 : Int), .agg #[.int .i64 X, .int .i64 Y]]) (by simp [results, Tryd.results90, go_sem, r0, r1]) rfl (byt_esc HF.out HQ.out (by omega) ?_ ?_)
      · refine gb_new (gb_new (Go.Lib.grownBy_trans ?_ hgb) _ (Nat.le_refl _) _) _ (Nat.le_refl _) _
        (repeat (first | with_reducible exact gb_refl _ _ | with_reducible apply gb_drewN | with_reducible apply gb_drew | with_reducible apply Go.Lib.grownBy_allocR | (with_reducible refine gb_new ?_ _ (by dsimp only; omega) _) | with_reducible apply Go.Lib.grownBy_setB))
      · exact (hr.new _ _ (by dsimp only; omega)).new _ _ (by dsimp only; omega)
    · have HB := Lib.hid hb; have HF := Lib.hid hF; clear hF
      go_wp2
      all_goals first
        | (go_region
           go_wp2
           refine bodyPost_ret (v := .tuple #[.int .u8 0, .agg #[.int .i64 (p : Int), .int .i64 30]]) (by simp [results, Tryd.results90, go_sem]) rfl (byt_bad (HF.out.trans (sayF_bar d1 ?_)) (by decide) (by decide) rfl ?_ ?_)
           · (simp only [beq_iff_eq, beq_eq_false_iff_ne, ne_eq] at *; unfold barred; omega)
           · (repeat (first | with_reducible exact gb_refl _ _ | with_reducible apply gb_drewN | with_reducible apply gb_drew | with_reducible apply Go.Lib.grownBy_allocR | (with_reducible refine gb_new ?_ _ (by dsimp only; omega) _) | with_reducible apply Go.Lib.grownBy_setB))
           · ((repeat (first | with_reducible apply RdAt.drewN | with_reducible apply RdAt.drew | with_reducible apply RdAt.alloc | with_reducible apply RdAt.moved2 | with_reducible apply RdAt.moved4 | with_reducible apply RdAt.moved1 | (with_reducible refine RdAt.new ?_ _ _ (by dsimp only; omega)))); exact H))
        | (refine bodyPost_ret (v := .tuple #[.int .u8 ((bat s p : Nat) : Int), .agg #[.int .i64 0, .int .i64 0]]) (by simp [results, Tryd.results90, go_sem]) rfl (byt_ok (HF.out.trans (sayF_ok d1 ?_)) rfl ?_ ?_)
           · (simp only [beq_iff_eq, beq_eq_false_iff_ne, ne_eq] at *; unfold barred; omega)
           · (repeat (first | with_reducible exact gb_refl _ _ | with_reducible apply gb_drewN | with_reducible apply gb_drew | with_reducible apply Go.Lib.grownBy_allocR | (with_reducible refine gb_new ?_ _ (by dsimp only; omega) _) | with_reducible apply Go.Lib.grownBy_setB))
           · ((repeat (first | with_reducible apply RdAt.drewN | with_reducible apply RdAt.drew | with_reducible apply RdAt.alloc | with_reducible apply RdAt.moved2 | with_reducible apply RdAt.moved4 | with_reducible apply RdAt.moved1 | (with_reducible refine RdAt.new ?_ _ _ (by dsimp only; omega)))); exact H))
  · have HF : Hid (byteF s p = (0, p, 41)) := Lib.hid (if_neg hlt)
    go_wp2
    go_quiet (fail)
    go_wp2
    go_region
    go_wp2
    refine bodyPost_ret (v := .tuple #[.int .u8 0, .agg #[.int .i64 (b : Int), .int .i64 41]]) (by simp [results, Tryd.results90, go_sem]) rfl (byt_end HF.out ?_ ?_)
    · (repeat (first | with_reducible exact gb_refl _ _ | with_reducible apply gb_drewN | with_reducible apply gb_drew | with_reducible apply Go.Lib.grownBy_allocR | (with_reducible refine gb_new ?_ _ (by dsimp only; omega) _) | with_reducible apply Go.Lib.grownBy_setB))
    · ((repeat (first | with_reducible apply RdAt.drewN | with_reducible apply RdAt.drew | with_reducible apply RdAt.alloc | with_reducible apply RdAt.moved2 | with_reducible apply RdAt.moved4 | with_reducible apply RdAt.moved1 | (with_reducible refine RdAt.new ?_ _ _ (by dsimp only; omega)))); exact H)
end Go.Proofs.YtldjdcdoegjmoaaDoor
