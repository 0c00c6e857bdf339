import Derived.Deep.Draws
import Derived.Laws.Bits64
import Derived.Laws.Bits64b
import Derived.Laws.BitsAllLaws
import Derived.Laws.IdiomArrays
import Derived.Laws.Rows
import Derived.Laws.StructEq
import Derived.Laws.Tables
import Derived.Lib.Hide
import Derived.ProofKit
import Derived.Test.YtachpdeejificaaRows
import Derived.WalkKit
namespace Go.Proofs.Ytachpdeejificaa
/-- Four words. -/
structure Cls where
  c0 : Nat
  c1 : Nat
  c2 : Nat
  c3 : Nat
def w64 : Nat := 18446744073709551616
theorem w64_pow : w64 = 2 ^ 64 := rfl
namespace Cls
def word (c : Cls) (i : Nat) : Nat := if i = 0 then c.c0 else if i = 1 then c.c1 else if i = 2 then c.c2 else c.c3
def ok (c : Cls) : Prop := c.c0 < w64 ∧ c.c1 < w64 ∧ c.c2 < w64 ∧ c.c3 < w64
def mem (c : Cls) (b : Nat) : Bool := (c.word (b / 64)).testBit (b % 64)
def val (c : Cls) : Value := .agg #[.int .u64 (c.c0 : Int), .int .u64 (c.c1 : Int), .int .u64 (c.c2 : Int), .int .u64 (c.c3 : Int)]
def cells (c : Cls) : Array Value := #[.int .u64 (c.c0 : Int), .int .u64 (c.c1 : Int), .int .u64 (c.c2 : Int), .int .u64 (c.c3 : Int)]
theorem word_lt {c : Cls} (h : c.ok) (i : Nat) : c.word i < 2 ^ 64 := by
  unfold word
  have h' := h
  unfold ok at h'
  rw [w64_pow] at h'
  split
  · exact h'.1
  · split
    · exact h'.2.1
    · split
      · exact h'.2.2.1
      · exact h'.2.2.2
theorem ext_words {a b : Cls} (h0 : a.c0 = b.c0) (h1 : a.c1 = b.c1) (h2 : a.c2 = b.c2) (h3 : a.c3 = b.c3) : a = b := by
  cases a; cases b; simp_all
theorem ext_mem {a b : Cls} (ha : a.ok) (hb : b.ok) (h : ∀ i, i < 256 → a.mem i = b.mem i) : a = b := by
  have key : ∀ k, k < 4 → a.word k = b.word k := by
    intro k hk
    apply Nat.eq_of_testBit_eq
    intro i
    by_cases hi : i < 64
    · have := h (64 * k + i) (by omega)
      unfold mem at this
      rw [show (64 * k + i) / 64 = k by omega, show (64 * k + i) % 64 = i by omega] at this
      exact this
    · have h1 : a.word k < 2 ^ i := Nat.lt_of_lt_of_le (word_lt ha k) (Nat.pow_le_pow_right (by omega) (by omega))
      have h2 : b.word k < 2 ^ i := Nat.lt_of_lt_of_le (word_lt hb k) (Nat.pow_le_pow_right (by omega) (by omega))
      rw [Nat.testBit_lt_two_pow h1, Nat.testBit_lt_two_pow h2]
  exact ext_words (key 0 (by omega)) (key 1 (by omega)) (key 2 (by omega)) (key 3 (by omega))
def no (a : Nat) : Nat := w64 - 1 - a
def not (a : Cls) : Cls := ⟨no a.c0, no a.c1, no a.c2, no a.c3⟩
theorem no_lt (a : Nat) : no a < w64 := by unfold no w64; omega
theorem testBit_no (a i : Nat) (ha : a < w64) (hi : i < 64) : (no a).testBit i = !a.testBit i := by
  have h : no a = 2 ^ 64 - (a + 1) := by unfold no w64; omega
  rw [h, Nat.testBit_two_pow_sub_succ (by rw [← w64_pow]; exact ha)]
  simp [hi]
theorem or_lt {a b : Nat} (ha : a < w64) (hb : b < w64) : a ||| b < w64 := by rw [w64_pow] at *; exact Nat.or_lt_two_pow ha hb
theorem ok_not (a : Cls) : a.not.ok := ⟨no_lt _, no_lt _, no_lt _, no_lt _⟩
theorem word_not (a : Cls) (k : Nat) : (a.not).word k = no (a.word k) := by unfold word not; split <;> (try split) <;> (try split) <;> rfl
theorem mem_not {a : Cls} (ha : a.ok) (i : Nat) : a.not.mem i = !a.mem i := by
  unfold mem; rw [word_not, testBit_no _ _ (by rw [w64_pow]; exact word_lt ha _) (Nat.mod_lt _ (by omega))]
/-- The class of a predicate. -/
def wordOf (f : Nat → Bool) (base : Nat) : Nat → Nat
  | 0 => 0
  | n + 1 => wordOf f base n ||| (if f (base + n) then 2 ^ n else 0)
theorem testBit_wordOf (f : Nat → Bool) (base : Nat) : ∀ (n i : Nat), (wordOf f base n).testBit i = (decide (i < n) && f (base + i))
  | 0, i => by simp [wordOf]
  | n + 1, i => by
    rw [wordOf, Nat.testBit_or, testBit_wordOf f base n i]
    by_cases h : i = n
    · subst h
      by_cases hf : f (base + i) <;> simp [hf, Nat.testBit_two_pow_self]
    · by_cases hf : f (base + n)
      · rw [if_pos hf, Nat.testBit_two_pow_of_ne (fun e => h e.symm)]
        by_cases hi : i < n
        · simp [hi, Nat.lt_succ_of_lt hi]
        · simp [hi, show ¬ i < n + 1 by omega]
      · rw [if_neg hf]
        by_cases hi : i < n
        · simp [hi, Nat.lt_succ_of_lt hi]
        · simp [hi, show ¬ i < n + 1 by omega]
theorem wordOf_lt (f : Nat → Bool) (base : Nat) : ∀ n, wordOf f base n < 2 ^ n
  | 0 => by simp [wordOf]
  | n + 1 => by
    rw [wordOf]
    have h1 : wordOf f base n < 2 ^ (n + 1) := Nat.lt_of_lt_of_le (wordOf_lt f base n) (Nat.pow_le_pow_right (by omega) (by omega))
    refine Nat.or_lt_two_pow h1 ?_
    split
    · exact Nat.pow_lt_pow_right (by omega) (by omega)
    · exact Nat.two_pow_pos _
def ofFn (f : Nat → Bool) : Cls := ⟨wordOf f 0 64, wordOf f 64 64, wordOf f 128 64, wordOf f 192 64⟩
theorem ok_ofFn (f : Nat → Bool) : (ofFn f).ok := ⟨wordOf_lt f 0 64, wordOf_lt f 64 64, wordOf_lt f 128 64, wordOf_lt f 192 64⟩
theorem word_ofFn (f : Nat → Bool) (k : Nat) (hk : k < 4) : (ofFn f).word k = wordOf f (64 * k) 64 := by
  have h : k = 0 ∨ k = 1 ∨ k = 2 ∨ k = 3 := by omega
  rcases h with rfl | rfl | rfl | rfl <;> rfl
theorem mem_ofFn (f : Nat → Bool) (i : Nat) (hi : i < 256) : (ofFn f).mem i = f i := by
  unfold mem
  rw [word_ofFn f _ (by omega), testBit_wordOf, show 64 * (i / 64) + i % 64 = i by omega]
  simp [Nat.mod_lt]
theorem ofFn_congr {f g : Nat → Bool} (h : ∀ i, i < 256 → f i = g i) : ofFn f = ofFn g :=
  ext_mem (ok_ofFn _) (ok_ofFn _) fun i hi => by rw [mem_ofFn f i hi, mem_ofFn g i hi, h i hi]
theorem eq_ofFn {c : Cls} (h : c.ok) {f : Nat → Bool} (hf : ∀ i, i < 256 → c.mem i = f i) : c = ofFn f :=
  ext_mem h (ok_ofFn _) fun i hi => by rw [mem_ofFn f i hi, hf i hi]
/-- One bit more. -/
def put (c : Cls) (n : Nat) : Cls :=
  if n / 64 = 0 then { c with c0 := c.c0 ||| 2 ^ (n % 64) } else if n / 64 = 1 then { c with c1 := c.c1 ||| 2 ^ (n % 64) }
  else if n / 64 = 2 then { c with c2 := c.c2 ||| 2 ^ (n % 64) } else { c with c3 := c.c3 ||| 2 ^ (n % 64) }
theorem two_lt (n : Nat) : 2 ^ (n % 64) < w64 := by rw [w64_pow]; exact Nat.pow_lt_pow_right (by omega) (Nat.mod_lt _ (by omega))
theorem ok_put {c : Cls} (h : c.ok) (n : Nat) : (c.put n).ok := by
  obtain ⟨h0, h1, h2, h3⟩ := h
  unfold put
  split
  · exact ⟨or_lt h0 (two_lt n), h1, h2, h3⟩
  · split
    · exact ⟨h0, or_lt h1 (two_lt n), h2, h3⟩
    · split
      · exact ⟨h0, h1, or_lt h2 (two_lt n), h3⟩
      · exact ⟨h0, h1, h2, or_lt h3 (two_lt n)⟩
theorem word_put (c : Cls) (n k : Nat) (hn : n < 256) (hk : k < 4) : (c.put n).word k = if n / 64 = k then c.word k ||| 2 ^ (n % 64) else c.word k := by
  have h : k = 0 ∨ k = 1 ∨ k = 2 ∨ k = 3 := by omega
  have h' : n / 64 = 0 ∨ n / 64 = 1 ∨ n / 64 = 2 ∨ n / 64 = 3 := by omega
  unfold put
  rcases h' with h' | h' | h' | h' <;> rw [h'] <;> rcases h with rfl | rfl | rfl | rfl <;> simp [word]
theorem mem_put (c : Cls) (n i : Nat) (hn : n < 256) (hi : i < 256) : (c.put n).mem i = (c.mem i || decide (i = n)) := by
  unfold mem
  rw [word_put c n _ hn (by omega)]
  split
  · rename_i h
    rw [Nat.testBit_or]
    by_cases e : i = n
    · subst e
      simp [Nat.testBit_two_pow_self]
    · rw [Nat.testBit_two_pow_of_ne (by omega)]
      simp [e]
  · rename_i h
    have e : ¬ i = n := fun e => h (by rw [e])
    simp [e]
theorem put_ofFn (f : Nat → Bool) (n : Nat) (hn : n < 256) : (ofFn f).put n = ofFn (fun i => f i || decide (i = n)) :=
  eq_ofFn (ok_put (ok_ofFn f) n) fun i hi => by rw [mem_put _ n i hn hi, mem_ofFn f i hi]
/-- No byte. -/
def none : Cls := ⟨0, 0, 0, 0⟩
theorem ok_none : none.ok := by unfold ok none w64; simp
theorem mem_none (i : Nat) : none.mem i = false := by unfold mem none word; simp
theorem none_ofFn : none = ofFn (fun _ => false) := eq_ofFn ok_none fun i _ => mem_none i
end Cls
theorem Cls.list_at (a : Cls) (k : Nat) (hk : k < 4) : [Value.int .u64 (a.c0 : Int), .int .u64 (a.c1 : Int), .int .u64 (a.c2 : Int), .int .u64 (a.c3 : Int)][k]? = some (.int .u64 (a.word k : Int)) := by
  have h : k = 0 ∨ k = 1 ∨ k = 2 ∨ k = 3 := by omega
  rcases h with rfl | rfl | rfl | rfl <;> rfl
theorem bits_or {a b : Nat} (ha : a < w64) (hb : b < w64) : bits .or .u64 (a : Int) (b : Int) = ((a ||| b : Nat) : Int) := bits_or_u64_nat a b ha hb
theorem bits_and {a b : Nat} (ha : a < w64) (hb : b < w64) : bits .and .u64 (a : Int) (b : Int) = ((a &&& b : Nat) : Int) := bits_and_u64_nat a b ha hb
theorem xor_all {a : Nat} (ha : a < w64) : 18446744073709551615 ^^^ a = Cls.no a := by
  have hn := Cls.no_lt a
  apply Nat.eq_of_testBit_eq
  intro i
  rw [Nat.testBit_xor]
  by_cases hi : i < 64
  · rw [Cls.testBit_no a i ha hi, show (18446744073709551615 : Nat) = 2 ^ 64 - 1 from rfl, Nat.testBit_two_pow_sub_one]
    simp [hi]
  · have hp : w64 ≤ 2 ^ i := by rw [w64_pow]; exact Nat.pow_le_pow_right (by omega) (by omega)
    have h1 : a < 2 ^ i := Nat.lt_of_lt_of_le ha hp
    have h2 : Cls.no a < 2 ^ i := Nat.lt_of_lt_of_le hn hp
    rw [Nat.testBit_lt_two_pow h1, Nat.testBit_lt_two_pow h2, show (18446744073709551615 : Nat) = 2 ^ 64 - 1 from rfl, Nat.testBit_two_pow_sub_one]
    simp [hi]
theorem bits_not {a : Nat} (ha : a < w64) : bits .xor .u64 IntKind.u64.max (a : Int) = ((Cls.no a : Nat) : Int) := by
  rw [← xor_all ha]
  exact bits_xor_u64_nat 18446744073709551615 a (by omega) ha
theorem bit_cast (n k : Nat) : ((n : Int) / 2 ^ k) = ((n / 2 ^ k : Nat) : Int) := by simp
theorem bits_bit {n : Nat} (hn : n < w64) (k : Nat) : bits .and .u64 ((n : Int) / 2 ^ k) 1 = if n.testBit k then 1 else 0 := by
  rw [bit_cast, show (1 : Int) = ((1 : Nat) : Int) from rfl, bits_and (Nat.lt_of_le_of_lt (Nat.div_le_self _ _) hn) (by unfold w64; omega), Nat.and_one_is_mod, Nat.testBit_eq_decide_div_mod_eq]
  have := Nat.mod_lt (n / 2 ^ k) (show 2 > 0 by omega)
  by_cases h : n / 2 ^ k % 2 = 1
  · simp [h]
  · have h0 : n / 2 ^ k % 2 = 0 := by omega
    simp [h0]
theorem bit_ne {n : Nat} (hn : n < w64) (k : Nat) : (bits .and .u64 ((n : Int) / 2 ^ k) 1 != 0) = n.testBit k := by
  rw [bits_bit hn]; cases n.testBit k <;> rfl
theorem Cls.cells_at (a : Cls) (k : Nat) (hk : k < 4) : a.cells[k]? = some (.int .u64 (a.word k : Int)) := by
  have h := a.list_at k hk
  simpa [Cls.cells] using h
theorem Cls.cells_one (a : Cls) : a.cells.all (·.oneCell') = true := by simp [Cls.cells, Value.oneCell']
end Go.Proofs.Ytachpdeejificaa
set_option linter.unusedVariables false
set_option linter.unusedSimpArgs false
namespace Go.Proofs.Ytachpdeejificaa
open Go.ChangeShapes Go.WideShapes Go.ChangeAt Go.RowKit
theorem list4 {α : Type} (l : List α) (h : (⟨l⟩ : Array α).size = 4) : ∃ a b c d, l = [a, b, c, d] := by
  match l, h with
  | [a, b, c, d], _ => exact ⟨a, b, c, d, rfl⟩
theorem nat_of_u64 {x : Int} (h : (Lit.int .u64 x).wf = true) : ∃ n : Nat, n < w64 ∧ x = (n : Int) := by
  have hmin : IntKind.u64.min = 0 := rfl
  have hmax : IntKind.u64.max = 18446744073709551615 := rfl
  simp only [Lit.wf, Bool.and_eq_true, decide_eq_true_eq, hmin, hmax] at h
  exact ⟨x.toNat, by unfold w64; omega, by omega⟩
theorem cells_u64 : Try.prog.cellsOf 22 = 1 := by kernel_rfl
theorem cells_cls : Try.prog.cellsOf 24 = 4 := by kernel_rfl
theorem open_cls {H : Type} {enc : TypeId × Value → H} {W : World} {base : Nat} {spare : Nat → Bool} {held : Bool} {v : Value} {d : DataW H} {ps : List MemPlace}
    (hv : Value.okWide Try.prog W .any base 24 v) (h : DataW.Trod enc Try.prog W 0 spare held 24 v d ps) : ∃ a : Cls, a.ok ∧ v = .agg #[.int .u64 a.c0, .int .u64 a.c1, .int .u64 a.c2, .int .u64 a.c3] := by
  obtain ⟨cs, rfl, hsz, _⟩ : ∃ cs, v = .agg cs ∧ cs.size = Try.prog.cellsOf 24 ∧ Row.okWide Try.prog W .any base 24 cs := by
    simpa [Value.okWide, Try.underlying24] using hv
  rw [cells_cls] at hsz
  obtain ⟨l⟩ := cs
  obtain ⟨c0, c1, c2, c3, rfl⟩ := list4 l hsz
  obtain ⟨fuel, hf⟩ := h
  obtain ⟨y0, y1, y2, y3, m, hx, hy0, hy1, hy2, hy3⟩ := trod_array4 Try.underlying24 cells_u64 hf
  obtain ⟨x0, e0, rfl, w0⟩ := DataW.trod_int Try.underlying22 hy0
  obtain ⟨x1, e1, rfl, w1⟩ := DataW.trod_int Try.underlying22 hy1
  obtain ⟨x2, e2, rfl, w2⟩ := DataW.trod_int Try.underlying22 hy2
  obtain ⟨x3, e3, rfl, w3⟩ := DataW.trod_int Try.underlying22 hy3
  simp at e0 e1 e2 e3
  subst e0 e1 e2 e3
  obtain ⟨n0, l0, rfl⟩ := nat_of_u64 w0
  obtain ⟨n1, l1, rfl⟩ := nat_of_u64 w1
  obtain ⟨n2, l2, rfl⟩ := nat_of_u64 w2
  obtain ⟨n3, l3, rfl⟩ := nat_of_u64 w3
  exact ⟨⟨n0, n1, n2, n3⟩, ⟨l0, l1, l2, l3⟩, rfl⟩
end Go.Proofs.Ytachpdeejificaa
set_option linter.unusedVariables false
set_option linter.unusedSimpArgs false
namespace Go.Proofs.Ytachpdeejificaa
open Go.RowKit
section
variable {P : Program} (w : World)
theorem run_part (e : TypeId) (i : TypeInfo) (hi : P.info? e = some i) (hz : i.size = 1) (ha : ∀ w, (isAgg e).run P w = .ok false w) (xs : Array Value) (k : Nat) (v : Value) (hv : xs[k]? = some v) :
    (part e xs k).run P w = .ok v w := by
  simp [part, sizeOf, typeInfo, hi, hz, ha, hv]
theorem run_equalIn_arr4 (d : Nat) (t e : TypeId) (hz : (P.info? e).map (·.size) = some 1) (x0 x1 x2 x3 y0 y1 y2 y3 : Int) (ht : P.underlying t = some (.array 4 e)) (he : P.underlying e = some (.int .u64)) (ha : ∀ w, (isAgg e).run P w = .ok false w) :
    (Op.equalIn (d + 2) t (.agg #[.int .u64 x0, .int .u64 x1, .int .u64 x2, .int .u64 x3]) (.agg #[.int .u64 y0, .int .u64 y1, .int .u64 y2, .int .u64 y3])).run P w =
      .ok (x0 == y0 && (x1 == y1 && (x2 == y2 && x3 == y3))) w := by
  obtain ⟨i, hi, hz⟩ := Option.map_eq_some_iff.1 hz
  have hp : ∀ (xs : Array Value) (k : Nat) (v : Value), xs[k]? = some v → (part e xs k).run P w = .ok v w := fun xs k v hv => run_part w e i hi hz ha xs k v hv
  have hq : ∀ (a b : Int), (Op.equalIn (d + 1) e (.int .u64 a) (.int .u64 b)).run P w = .ok (a == b) w := fun a b => run_equalIn_int w d e .u64 .u64 a b he
  unfold Op.equalIn
  simp [run_underlying ht, sizeOf, typeInfo, hi, hz, Std.Legacy.Range.forIn_eq_forIn_range']
  have hr : List.range' 0 4 = [0, 1, 2, 3] := rfl
  rw [hr]
  have px0 : (part e #[Value.int .u64 x0, .int .u64 x1, .int .u64 x2, .int .u64 x3] 0).run P w = .ok (.int .u64 x0) w := hp _ 0 _ rfl
  have py0 : (part e #[Value.int .u64 y0, .int .u64 y1, .int .u64 y2, .int .u64 y3] 0).run P w = .ok (.int .u64 y0) w := hp _ 0 _ rfl
  have px1 : (part e #[Value.int .u64 x0, .int .u64 x1, .int .u64 x2, .int .u64 x3] 1).run P w = .ok (.int .u64 x1) w := hp _ 1 _ rfl
  have py1 : (part e #[Value.int .u64 y0, .int .u64 y1, .int .u64 y2, .int .u64 y3] 1).run P w = .ok (.int .u64 y1) w := hp _ 1 _ rfl
  have px2 : (part e #[Value.int .u64 x0, .int .u64 x1, .int .u64 x2, .int .u64 x3] 2).run P w = .ok (.int .u64 x2) w := hp _ 2 _ rfl
  have py2 : (part e #[Value.int .u64 y0, .int .u64 y1, .int .u64 y2, .int .u64 y3] 2).run P w = .ok (.int .u64 y2) w := hp _ 2 _ rfl
  have px3 : (part e #[Value.int .u64 x0, .int .u64 x1, .int .u64 x2, .int .u64 x3] 3).run P w = .ok (.int .u64 x3) w := hp _ 3 _ rfl
  have py3 : (part e #[Value.int .u64 y0, .int .u64 y1, .int .u64 y2, .int .u64 y3] 3).run P w = .ok (.int .u64 y3) w := hp _ 3 _ rfl
  simp only [List.forIn_cons, List.forIn_nil, Sem.run_bind, px0, py0, px1, py1, px2, py2, px3, py3, Result.andThen_ok, hq, Sem.run_ite, Sem.run_pure]
  cases h0 : (x0 == y0) <;> cases h1 : (x1 == y1) <;> cases h2 : (x2 == y2) <;> cases h3 : (x3 == y3) <;> simp [px1, py1, px2, py2, px3, py3, hq, h1, h2, h3]
end
/-- Two steps, the second one seen from the first one's world. -/
theorem below_then {w w1 w2 : World} (h : Below w.heap.size w w1) (k : Below w1.heap.size w1 w2) : Below w.heap.size w w2 :=
  h.trans (k.mono h.size)
theorem below_drew {B : Nat} {w W : World} (h : Below B w W) : Below B w W.drew := h.drew
theorem heap_keep {w : World} {o : Obj} {i : Nat} {x : Obj} (h : w.heap[i]? = some x) : (w.alloc o).heap[i]? = some x := by
  rw [Below.heap_alloc _ _ _ (Array.getElem?_eq_some_iff.1 h).1]; exact h
theorem heap_new (w : World) (o : Obj) : (w.alloc o).heap[w.heap.size]? = some o := heap_alloc_new w o
theorem heap_new1 (w : World) (a b : Obj) : ((w.alloc a).alloc b).heap[w.heap.size + 1]? = some b := by
  have h := heap_alloc_new (w.alloc a) b
  rwa [World.size_alloc] at h
theorem heap_new2 (w : World) (a b c : Obj) : (((w.alloc a).alloc b).alloc c).heap[w.heap.size + 1 + 1]? = some c := by
  have h := heap_alloc_new ((w.alloc a).alloc b) c
  rwa [World.size_alloc, World.size_alloc] at h
theorem below_setRow {B : Nat} {a w : World} (h : Below B a w) {g : Nat} (hg : B ≤ g) (cs : Array Value) : Below B a (w.setRow g cs) :=
  h.trans ⟨rfl, rfl, rfl, by simp [World.setRow], fun k hk => setRow_other w g k cs (by omega)⟩
theorem size_setCell (w : World) (p : Addr) (v : Value) : (w.setCell p v).heap.size = w.heap.size := by simp [World.setCell]
/-- A block that lay below stays. -/
theorem heap_below {B : Nat} {w w1 : World} (hb : Below B w w1) {i : Nat} (hi : i < B) {x : Obj} (h : w.heap[i]? = some x) : w1.heap[i]? = some x := (hb.block i hi).trans h
theorem heap_lt {w : World} {i : Nat} {x : Obj} (h : w.heap[i]? = some x) : i < w.heap.size := (Array.getElem?_eq_some_iff.1 h).1
theorem heap_same {w w1 : World} (hb : Below w.heap.size w w1) {i : Nat} {x : Obj} (h : w.heap[i]? = some x) : w1.heap[i]? = some x := heap_below hb (heap_lt h) h
theorem heap_put {w : World} {g i : Nat} {cs : Array Value} {t : TypeId} {v : Value} (h : w.heap[g]? = some (.cells cs t (0, 0))) : (w.setCell ⟨g, i, none⟩ v).heap[g]? = some (.cells (cs.setIfInBounds i v) t (0, 0)) := heap_setCell_same w g i cs t v h
theorem heap_other {w : World} {a : Addr} {k : Nat} {v : Value} {x : Obj} (h : k ≠ a.block) (hk : w.heap[k]? = some x) : (w.setCell a v).heap[k]? = some x := by exact (Below.heap_setCell _ _ _ _ h).trans hk
theorem heap_drew' {w : World} {k : Nat} {x : Obj} (hk : w.heap[k]? = some x) : w.drew.heap[k]? = some x := hk
end Go.Proofs.Ytachpdeejificaa
