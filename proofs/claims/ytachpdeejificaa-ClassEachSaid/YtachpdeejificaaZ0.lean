import Derived.BigQuiet
import Derived.Deep.AppendLies
import Derived.Deep.Draws
import Derived.Deep.LoopGhost
import Derived.Deep.QuietTactic
import Derived.Deep.WholeRow
import Derived.KernelRfl
import Derived.Laws.AppendOwn
import Derived.Laws.Bits64
import Derived.Laws.Bits64b
import Derived.Laws.BitsAllLaws
import Derived.Laws.ResultCell
import Derived.Laws.Rows
import Derived.Laws.StructEq
import Derived.Laws.Tables
import Derived.Lib.BufferOwn
import Derived.Lib.Hide
import Derived.LoopIn
import Derived.LoopNIn
import Derived.Maps.AppendAt
import Derived.OwnWalk
import Derived.OwnWalkIn
import Derived.RangeFuncBound
import Derived.RangeFuncBox
import Derived.RangeFuncCalls
import Derived.RangeFuncLeaves
import Derived.RangeFuncNested
import Derived.Shelf.Abstract
import Derived.TacticsInMore
import Derived.Test.YtachpdeejificaaProg
import Derived.WalkKit
import Derived.WalkLawsBesides
import Derived.WalkSpells
namespace Go.Proofs.Ytachpdeejificaa
/-- Four words. -/
structure Cls where
  c0 : Nat
  c1 : Nat
  c2 : Nat
  c3 : Nat
def w64 : Nat := 18446744073709551616
theorem w64_pow : w64 = 2 ^ 64 := rfl
namespace Cls
def word (c : Cls) (i : Nat) : Nat := if i = 0 then c.c0 else if i = 1 then c.c1 else if i = 2 then c.c2 else c.c3
def ok (c : Cls) : Prop := c.c0 < w64 ∧ c.c1 < w64 ∧ c.c2 < w64 ∧ c.c3 < w64
def mem (c : Cls) (b : Nat) : Bool := (c.word (b / 64)).testBit (b % 64)
def val (c : Cls) : Value := .agg #[.int .u64 (c.c0 : Int), .int .u64 (c.c1 : Int), .int .u64 (c.c2 : Int), .int .u64 (c.c3 : Int)]
def cells (c : Cls) : Array Value := #[.int .u64 (c.c0 : Int), .int .u64 (c.c1 : Int), .int .u64 (c.c2 : Int), .int .u64 (c.c3 : Int)]
theorem word_lt {c : Cls} (h : c.ok) (i : Nat) : c.word i < 2 ^ 64 := by
  unfold word
  have h' := h
  unfold ok at h'
  rw [w64_pow] at h'
  split
  · exact h'.1
  · split
    · exact h'.2.1
    · split
      · exact h'.2.2.1
      · exact h'.2.2.2
def no (a : Nat) : Nat := w64 - 1 - a
/-- One bit more. -/
def put (c : Cls) (n : Nat) : Cls :=
  if n / 64 = 0 then { c with c0 := c.c0 ||| 2 ^ (n % 64) } else if n / 64 = 1 then { c with c1 := c.c1 ||| 2 ^ (n % 64) }
  else if n / 64 = 2 then { c with c2 := c.c2 ||| 2 ^ (n % 64) } else { c with c3 := c.c3 ||| 2 ^ (n % 64) }
/-- No byte. -/
def none : Cls := ⟨0, 0, 0, 0⟩
end Cls
/-- 256 bools, as cells. -/
def setCells (f : Nat → Bool) : Array Value := ((List.range 256).map fun i => Value.bool (f i)).toArray
def setVal (f : Nat → Bool) : Value := .agg (setCells f)
theorem setCells_size (f : Nat → Bool) : (setCells f).size = 256 := by simp [setCells]
theorem setCells_at (f : Nat → Bool) (i : Nat) (hi : i < 256) : (setCells f)[i]? = some (.bool (f i)) := by simp [setCells, hi]
theorem setCells_one (f : Nat → Bool) : (setCells f).all (·.oneCell') = true := by simp [setCells, Value.oneCell']
theorem setCells_congr {f g : Nat → Bool} (h : ∀ i, i < 256 → f i = g i) : setCells f = setCells g := by
  unfold setCells
  rw [List.map_congr_left (fun i hi => by rw [h i (by simpa using hi)])]
theorem setCells_set (f : Nat → Bool) (n : Nat) (v : Bool) : (setCells f).setIfInBounds n (.bool v) = setCells (fun i => if i = n then v else f i) := by
  apply Array.ext_getElem?
  intro i
  rw [Array.getElem?_setIfInBounds]
  by_cases hi : i < 256
  · rw [setCells_at _ i hi, setCells_at _ i hi, setCells_size]
    by_cases e : n = i
    · subst e; simp [hi]
    · rw [if_neg e, if_neg (fun h => e h.symm)]
  · have h1 : (setCells f)[i]? = Option.none := Array.getElem?_eq_none (by rw [setCells_size]; omega)
    have h2 : (setCells (fun i => if i = n then v else f i))[i]? = Option.none := Array.getElem?_eq_none (by rw [setCells_size]; omega)
    rw [h1, h2, setCells_size]
    by_cases e : n = i
    · subst e; simp [hi]
    · rw [if_neg e]
theorem setCells_false : setCells (fun _ => false) = Array.replicate 256 (.bool false) := by
  apply Array.ext_getElem?
  intro i
  by_cases hi : i < 256
  · rw [setCells_at _ i hi, Array.getElem?_replicate, if_pos hi]
  · rw [Array.getElem?_eq_none (by rw [setCells_size]; omega), Array.getElem?_replicate, if_neg hi]
theorem Cls.list_at (a : Cls) (k : Nat) (hk : k < 4) : [Value.int .u64 (a.c0 : Int), .int .u64 (a.c1 : Int), .int .u64 (a.c2 : Int), .int .u64 (a.c3 : Int)][k]? = some (.int .u64 (a.word k : Int)) := by
  have h : k = 0 ∨ k = 1 ∨ k = 2 ∨ k = 3 := by omega
  rcases h with rfl | rfl | rfl | rfl <;> rfl
theorem bits_and {a b : Nat} (ha : a < w64) (hb : b < w64) : bits .and .u64 (a : Int) (b : Int) = ((a &&& b : Nat) : Int) := bits_and_u64_nat a b ha hb
theorem bit_cast (n k : Nat) : ((n : Int) / 2 ^ k) = ((n / 2 ^ k : Nat) : Int) := by simp
theorem bits_bit {n : Nat} (hn : n < w64) (k : Nat) : bits .and .u64 ((n : Int) / 2 ^ k) 1 = if n.testBit k then 1 else 0 := by
  rw [bit_cast, show (1 : Int) = ((1 : Nat) : Int) from rfl, bits_and (Nat.lt_of_le_of_lt (Nat.div_le_self _ _) hn) (by unfold w64; omega), Nat.and_one_is_mod, Nat.testBit_eq_decide_div_mod_eq]
  have := Nat.mod_lt (n / 2 ^ k) (show 2 > 0 by omega)
  by_cases h : n / 2 ^ k % 2 = 1
  · simp [h]
  · have h0 : n / 2 ^ k % 2 = 0 := by omega
    simp [h0]
theorem bit_ne {n : Nat} (hn : n < w64) (k : Nat) : (bits .and .u64 ((n : Int) / 2 ^ k) 1 != 0) = n.testBit k := by
  rw [bits_bit hn]; cases n.testBit k <;> rfl
theorem bit_eq {n : Nat} (hn : n < w64) (k : Nat) : (bits .and .u64 ((n : Int) / 2 ^ k) 1 == 1) = n.testBit k := by
  rw [bits_bit hn]; cases n.testBit k <;> rfl
/-- The two of a kind. -/
def other (i : Nat) : Nat := if 65 ≤ i ∧ i ≤ 90 then i + 32 else if 97 ≤ i ∧ i ≤ 122 then i - 32 else i
theorem Cls.cells_at (a : Cls) (k : Nat) (hk : k < 4) : a.cells[k]? = some (.int .u64 (a.word k : Int)) := by
  have h := a.list_at k hk
  simpa [Cls.cells] using h
theorem mem_bit {a : Cls} (ha : a.ok) (i : Nat) : (bits .and .u64 ((a.word (i / 64) : Int) / 2 ^ (i % 64)) 1 == 1) = a.mem i := bit_eq (Cls.word_lt ha _) _
theorem setCells_step {f : Nat → Bool} {i : Nat} {v : Bool} (h : f i = v) : (setCells (fun j => decide (j < i) && f j)).setIfInBounds i (.bool v) = setCells (fun j => decide (j < i + 1) && f j) := by
  rw [setCells_set]
  refine setCells_congr fun j _ => ?_
  by_cases e : j = i
  · subst e; simp [h]
  · rw [if_neg e]
    have : decide (j < i) = decide (j < i + 1) := by by_cases q : j < i <;> simp [q] <;> omega
    rw [this]
theorem setCells_zero (f : Nat → Bool) : setCells (fun j => decide (j < 0) && f j) = setCells fun _ => false := setCells_congr fun i _ => by simp
theorem setCells_full (f : Nat → Bool) : setCells (fun j => decide (j < 256) && f j) = setCells f := setCells_congr fun i hi => by simp [hi]
end Go.Proofs.Ytachpdeejificaa
set_option linter.unusedVariables false
set_option linter.unusedSimpArgs false
namespace Go.Proofs.Ytachpdeejificaa
open Go.RowKit
section
variable {P : Program} (w : World)
end
theorem heap_keep {w : World} {o : Obj} {i : Nat} {x : Obj} (h : w.heap[i]? = some x) : (w.alloc o).heap[i]? = some x := by
  rw [Below.heap_alloc _ _ _ (Array.getElem?_eq_some_iff.1 h).1]; exact h
theorem heap_new (w : World) (o : Obj) : (w.alloc o).heap[w.heap.size]? = some o := heap_alloc_new w o
theorem heap_new1 (w : World) (a b : Obj) : ((w.alloc a).alloc b).heap[w.heap.size + 1]? = some b := by
  have h := heap_alloc_new (w.alloc a) b
  rwa [World.size_alloc] at h
theorem heap_new2 (w : World) (a b c : Obj) : (((w.alloc a).alloc b).alloc c).heap[w.heap.size + 1 + 1]? = some c := by
  have h := heap_alloc_new ((w.alloc a).alloc b) c
  rwa [World.size_alloc, World.size_alloc] at h
theorem heap_new3 (w : World) (a b c d : Obj) : ((((w.alloc a).alloc b).alloc c).alloc d).heap[w.heap.size + 1 + 1 + 1]? = some d := by
  have h := heap_alloc_new (((w.alloc a).alloc b).alloc c) d
  rwa [World.size_alloc, World.size_alloc, World.size_alloc] at h
theorem below_setRow {B : Nat} {a w : World} (h : Below B a w) {g : Nat} (hg : B ≤ g) (cs : Array Value) : Below B a (w.setRow g cs) :=
  h.trans ⟨rfl, rfl, rfl, by simp [World.setRow], fun k hk => setRow_other w g k cs (by omega)⟩
/-- A block that lay below stays. -/
theorem heap_below {B : Nat} {w w1 : World} (hb : Below B w w1) {i : Nat} (hi : i < B) {x : Obj} (h : w.heap[i]? = some x) : w1.heap[i]? = some x := (hb.block i hi).trans h
theorem heap_lt {w : World} {i : Nat} {x : Obj} (h : w.heap[i]? = some x) : i < w.heap.size := (Array.getElem?_eq_some_iff.1 h).1
theorem heap_same {w w1 : World} (hb : Below w.heap.size w w1) {i : Nat} {x : Obj} (h : w.heap[i]? = some x) : w1.heap[i]? = some x := heap_below hb (heap_lt h) h
theorem heap_put {w : World} {g i : Nat} {cs : Array Value} {t : TypeId} {v : Value} (h : w.heap[g]? = some (.cells cs t (0, 0))) : (w.setCell ⟨g, i, none⟩ v).heap[g]? = some (.cells (cs.setIfInBounds i v) t (0, 0)) := heap_setCell_same w g i cs t v h
theorem heap_other {w : World} {a : Addr} {k : Nat} {v : Value} {x : Obj} (h : k ≠ a.block) (hk : w.heap[k]? = some x) : (w.setCell a v).heap[k]? = some x := by exact (Below.heap_setCell _ _ _ _ h).trans hk
end Go.Proofs.Ytachpdeejificaa
set_option linter.unusedVariables false
set_option linter.unusedSimpArgs false
namespace Go.Proofs.Ytachpdeejificaa
open Go.RowKit
abbrev V4 (a : Cls) : Value := .agg #[.int .u64 a.c0, .int .u64 a.c1, .int .u64 a.c2, .int .u64 a.c3]
theorem ret_bool {a b : Bool} (h : a = b) : Ending.returned (.bool a) = .returned (.bool b) := by rw [h]
set_option maxRecDepth 100000 in
theorem has_c (a : Cls) (ha : a.ok) (x : Nat) (hx : x < 256) (w : World) : Calls Try.prog 15 #[V4 a, .int .u8 (x : Int)] w fun e w' => e = .returned (.bool (a.mem x)) ∧ Below w.heap.size w w' := by
  have hc := a.list_at (x / 64) (by omega)
  have hw := Cls.word_lt ha (x / 64)
  have H := Lib.hid hw; clear hw ha
  go_enter Try.func15, Try.ntmps15
  go_wp2
  go_ret
  exact ⟨ret_bool (bit_ne H.out _), (Below.refl _ _).alloc (Nat.le_refl _) _⟩
end Go.Proofs.Ytachpdeejificaa
set_option linter.unusedVariables false
set_option linter.unusedSimpArgs false
namespace Go.Proofs.Ytachpdeejificaa
open Go.RowKit
theorem zeroSet : (∀ w, (zeroValue 62).run Try.prog w = .ok (.agg (Array.replicate 256 (.bool false))) w) ∧ (Try.prog.info? 62).map (·.size) = some 256 := zero_of_info (by kernel_rfl)
theorem infoSet (f : Nat → Bool) : (Try.prog.info? 62).map (·.size) = some (setCells f).size := by rw [setCells_size]; exact zeroSet.2
set_option maxRecDepth 100000 in
theorem open_c (a : Cls) (ha : a.ok) (w : World) : Calls Try.prog 35 #[V4 a] w fun e w' => e = .returned (setVal a.mem) ∧ Below w.heap.size w w' := by
  have HA := Lib.hid ha; clear ha
  have hv := zeroSet.1
  go_enter Try.func35, Try.ntmps35
  go_wp2
  go_loopw [4] (fun i wr => ∃ k : Nat, k ≤ 256 ∧ i = .int .i64 k ∧ Below w.heap.size w wr ∧ wr.heap[w.heap.size]? = some (.cells a.cells 24 (0, 0)) ∧
      wr.heap[w.heap.size + 1]? = some (.cells (setCells fun _ => false) 62 (0, 0)) ∧ wr.heap[w.heap.size + 1 + 1]? = some (.cells (setCells fun j => decide (j < k) && a.mem j) 62 (0, 0))) (fun i _ => 256 - (intOf i).toNat)
  case atStart =>
    refine ⟨0, by omega, rfl, ((((Below.refl _ _).alloc (Nat.le_refl _) _).alloc (by simp) _).alloc (by simp; omega) _), heap_keep (heap_keep (heap_new _ _)), ?_, ?_⟩
    · rw [setCells_false]; exact heap_keep (heap_new1 _ _ _)
    · rw [setCells_zero, setCells_false]; exact heap_new2 _ _ _ _
  case round =>
    obtain ⟨k, hk, rfl, hB, h0, h1, h2⟩ := hrel
    by_cases hlt : k < 256
    · have c0 : wr.cell? ⟨w.heap.size, k / 64, none⟩ = some (.int .u64 (a.word (k / 64))) := by rw [cell_of_row _ _ _ _ _ _ h0]; exact a.cells_at (k / 64) (by omega)
      have c2 : wr.cell? ⟨w.heap.size + 1 + 1, k, none⟩ = some (.bool (decide (k < k) && a.mem k)) := by rw [cell_of_row _ _ _ _ _ _ h2]; exact setCells_at _ _ hlt
      have f2 : wr.frozen? ⟨w.heap.size + 1 + 1, k, none⟩ = false := frozen_of_row _ _ _ _ _ h2
      have H0 := Lib.hid h0; have H1 := Lib.hid h1; have H2 := Lib.hid h2; clear h0 h1 h2
      go_wp2
      go_roundw
      case rel =>
        refine ⟨k + 1, by omega, by go_num, hB.setCell (by simp; omega) _, heap_other (by dsimp only; omega) H0.out, heap_other (by dsimp only; omega) H1.out, ?_⟩
        rw [heap_put H2.out, mem_bit HA.out, setCells_step (f := a.mem) (i := k) rfl]
      case measure => simp [intOf]; omega
    · obtain rfl : k = 256 := by omega
      have H0 := Lib.hid h0; have H1 := Lib.hid h1; have H2 := Lib.hid h2; clear h0 h1 h2
      go_wp2_with (first | (refine wpList_load_row rfl 62 _ rfl _ rfl _ _ _ _ H2.out Try.underlying62 rfl (infoSet _) ?_) | (refine wpList_store_row rfl 62 _ _ rfl _ _ rfl rfl _ _ H1.out (infoSet _) (by rw [setCells_size, setCells_size]) (setCells_one _) ?_))
      have H3 := Lib.hid (setRow_heap wr (w.heap.size + 1) _ (setCells fun j => decide (j < 256) && a.mem j) 62 (0, 0) H1.out)
      refine bodyPost_ret (v := setVal fun j => decide (j < 256) && a.mem j) (results_cell_row Try.results35 _ _ _ _ _ _ _ rfl H3.out Try.underlying62 rfl (infoSet _)) rfl ⟨?_, below_setRow hB (by omega) _⟩
      unfold setVal
      rw [setCells_full]
end Go.Proofs.Ytachpdeejificaa
set_option linter.unusedVariables false
set_option linter.unusedSimpArgs false
namespace Go.Proofs.Ytachpdeejificaa
open Go.RowKit
/-- A class's reader: its cells. -/
def rdCells (s : ByteArray) (b p : Nat) : Array Value := #[.string s, .int .i64 (b : Int), .int .i64 (p : Int)]
def RdAt (w : World) (g : Nat) (s : ByteArray) (b p : Nat) : Prop := w.heap[g]? = some (.cells (rdCells s b p) 73 (0, 0))
theorem RdAt.c0 {w : World} {g : Nat} {s : ByteArray} {b p : Nat} (h : RdAt w g s b p) : w.cell? ⟨g, 0, none⟩ = some (.string s) := by rw [cell_of_row _ _ _ _ _ _ h]; rfl
theorem RdAt.c1 {w : World} {g : Nat} {s : ByteArray} {b p : Nat} (h : RdAt w g s b p) : w.cell? ⟨g, 1, none⟩ = some (.int .i64 (b : Int)) := by rw [cell_of_row _ _ _ _ _ _ h]; rfl
theorem RdAt.c2 {w : World} {g : Nat} {s : ByteArray} {b p : Nat} (h : RdAt w g s b p) : w.cell? ⟨g, 2, none⟩ = some (.int .i64 (p : Int)) := by rw [cell_of_row _ _ _ _ _ _ h]; rfl
theorem RdAt.f2 {w : World} {g : Nat} {s : ByteArray} {b p : Nat} (h : RdAt w g s b p) : w.frozen? ⟨g, 2, none⟩ = false := frozen_of_row _ _ _ _ _ h
end Go.Proofs.Ytachpdeejificaa
set_option linter.unusedVariables false
set_option linter.unusedSimpArgs false
namespace Go.Proofs.Ytachpdeejificaa
open Go.RowKit
theorem RdAt.new {w : World} {g : Nat} {s : ByteArray} {b p : Nat} (h : RdAt w g s b p) (a : Addr) (v : Value) (ha : g ≠ a.block) : RdAt (w.setCell a v) g s b p := heap_other ha h
theorem RdAt.drewN {w : World} {g : Nat} {s : ByteArray} {b p n : Nat} (h : RdAt w g s b p) : RdAt (w.drewN n) g s b p := h
theorem RdAt.drew {w : World} {g : Nat} {s : ByteArray} {b p : Nat} (h : RdAt w g s b p) : RdAt w.drew g s b p := h
theorem RdAt.alloc {w : World} {g : Nat} {s : ByteArray} {b p : Nat} (h : RdAt w g s b p) (o : Obj) : RdAt (w.alloc o) g s b p := heap_keep h
end Go.Proofs.Ytachpdeejificaa
set_option linter.unusedVariables false
set_option linter.unusedSimpArgs false
namespace Go.Proofs.Ytachpdeejificaa
open Go.RowKit
/-- What stands for no byte unless it is escaped. -/
def barred (c : Nat) : Prop := c < 32 ∨ 126 < c ∨ c = 93 ∨ c = 45 ∨ c = 94
instance (c : Nat) : Decidable (barred c) := by unfold barred; infer_instance
end Go.Proofs.Ytachpdeejificaa
set_option linter.unusedVariables false
set_option linter.unusedSimpArgs false
namespace Go.Proofs.Ytachpdeejificaa
open Go.RowKit
theorem own_base {w : World} {base : Nat} {e : TypeId} {size n : Nat} {v : Value} {xs : List Value} (h : w.ownsRow base e size v n xs) (k : Nat) (hk : v.ownBlock = some k) : base ≤ k := by
  rcases h.2 with ⟨rfl, _⟩ | ⟨g, cap, cur, rfl, hb, _⟩
  · simp [Value.ownBlock] at hk
  · have : g = k := by simpa [Value.ownBlock] using hk
    omega
theorem own_ne {w : World} {base : Nat} {e : TypeId} {size n : Nat} {v : Value} {xs : List Value} (h : w.ownsRow base e size v n xs) {g : Nat} {cs : Array Value} {t : TypeId} {fr : Nat × Nat} (hg : w.heap[g]? = some (.cells cs t fr)) (hne : t ≠ e) : v.ownBlock ≠ some g := by
  rcases h.2 with ⟨rfl, _⟩ | ⟨g', cap, cur, rfl, hb, hh, _⟩
  · simp [Value.ownBlock]
  · intro hk
    have : g' = g := by simpa [Value.ownBlock] using hk
    subst this
    rw [hh] at hg
    injection hg with hg
    injection hg with _ ht
    exact hne ht.symm
section
variable {P : Program} {ops : Array Oper} {rest : List Oper} {o : Oper} {a : Act} {Q : Exit → Act → World → Prop}
/-- append(v, y), y one element: behind the literal's block. -/
theorem app1 {w0 W : World} (base : Nat) (hgd : o.guard = none) (s x : Operand) (t e : TypeId) (z : Value) (size bytes : Nat)
    (ho : o.op = .call { callee := .builtin .append, args := #[s, x], argTypes := #[t, t] })
    (ht : P.underlying t = some (.slice e)) (hinfo : (P.info? e).map (fun i => (i.zero, i.size, i.bytes)) = some (some z, size, bytes)) (hz : z.cells.size = size) (hsz : 0 < size)
    (v : Value) (n : Nat) (xs : List Value) (y : Array Value) (hy : y.size = size) (h1 : ∀ u ∈ y.toList, u.oneCell' = true) (hs : a.eval s = v) (hx : a.eval x = .slice (some ⟨W.heap.size, 0, none⟩) 1 1)
    (HO : W.ownsRow base e size v n xs) (HB : Below base w0 W) (hbase : base ≤ W.heap.size) (hn : n + 1 ≤ 9223372036854775807) (hl : (n + 1) * bytes ≤ 140737488355328)
    (h : ∀ g c w1, w1.ownsRow base e size (.slice (some ⟨g, 0, none⟩) (n + 1) c) (n + 1) (xs ++ y.toList) → Below base w0 w1 → (∀ k b, W.heap[k]? = some b → v.ownBlock ≠ some k → w1.heap[k]? = some b) → W.heap.size ≤ w1.heap.size →
      wpList P ops Q rest (a.put o.dst (.slice (some ⟨g, 0, none⟩) (n + 1) c)) w1) :
    wpList P ops Q (o :: rest) a (W.alloc (.cells y e)) := by
  obtain ⟨i0, hi, hz0, hz1, hz2⟩ := info_parts hinfo
  refine wpList_append_own _ hgd s x t ho base e i0 z size bytes ht hi hz0 hz1 hz2 hz hsz v n xs hs (HO.alloc _) ⟨W.heap.size, 0, none⟩ 1 1 y.toList hx (by simp [hy]) ?_ h1 (by simpa [maxLen] using hn) hl (by simp; omega) ?_
  · intro j u hj
    have ha : (⟨W.heap.size, 0, none⟩ : Addr).add j = ⟨W.heap.size, j, none⟩ := by unfold Addr.add; split <;> simp_all
    rw [ha, cell_of_row _ _ _ _ _ _ (heap_new W _)]
    simpa using hj
  · intro v1 w1 hown hg _
    have hown' := hown
    rcases hown.2 with ⟨rfl, h0⟩ | ⟨g, cap, cur, rfl, _⟩
    · omega
    · refine h g cap w1 hown' ((HB.alloc hbase _).grown hg (by simp; omega) (own_base HO)) ?_ (by have := hg.size; simp at this; omega)
      intro k b hk hne
      rw [hg.block k (by have := heap_lt hk; simp; omega) (fun e => hne e.symm)]
      exact heap_keep hk
theorem own_form {w : World} {base : Nat} {e : TypeId} {size n : Nat} {v : Value} {xs : List Value} (h : w.ownsRow base e size v n xs) : ∃ A c, v = .slice A n c := by
  rcases h.2 with ⟨rfl, rfl⟩ | ⟨g, cap, cur, rfl, _⟩
  · exact ⟨none, 0, rfl⟩
  · exact ⟨_, cap, rfl⟩
end
end Go.Proofs.Ytachpdeejificaa
set_option linter.unusedVariables false
set_option linter.unusedSimpArgs false
namespace Go.Proofs.Ytachpdeejificaa
open Go.RowKit
/-- The bytes below k that are in. -/
def Cls.below (a : Cls) (k : Nat) : List Nat := (List.range k).filter a.mem
def Cls.bytes (a : Cls) : List Nat := a.below 256
def u8s (l : List Nat) : List Value := l.map fun (b : Nat) => Value.int .u8 (b : Int)
theorem Cls.below_yes {a : Cls} {k : Nat} (h : a.mem k = true) : a.below (k + 1) = a.below k ++ [k] := by
  unfold below; rw [List.range_succ, List.filter_append]; simp [h]
theorem Cls.below_no {a : Cls} {k : Nat} (h : a.mem k = false) : a.below (k + 1) = a.below k := by
  unfold below; rw [List.range_succ, List.filter_append]; simp [h]
theorem Cls.below_le (a : Cls) (k : Nat) : (a.below k).length ≤ k := by
  unfold below
  exact Nat.le_trans (List.length_filter_le _ _) (by simp)
theorem u8s_snoc (l : List Nat) (k : Nat) : u8s (l ++ [k]) = u8s l ++ [.int .u8 (k : Int)] := by simp [u8s]
theorem infoU8 : (Try.prog.info? 5).map (fun i => (i.zero, i.size, i.bytes)) = some (some (.int .u8 0), 1, 1) := by kernel_rfl
def OwnU8 (w : World) (l : List Nat) (e : Ending) (w' : World) : Prop := ∃ v, e = .returned v ∧ w'.ownsRow w.heap.size 5 1 v l.length (u8s l) ∧ Below w.heap.size w w'
set_option maxRecDepth 100000 in
theorem bytes_c (a : Cls) (ha : a.ok) (w : World) : Calls Try.prog 11 #[V4 a] w (OwnU8 w a.bytes) := by
  have HA := Lib.hid ha; clear ha
  have hv := zeroSet.1
  go_enter Try.func11, Try.ntmps11
  go_wp2_with (first | (go_at_call 35; refine (open_c a HA.out _).mono ?_; rintro e w1 ⟨rfl, hb1⟩; unfold setVal) | (refine wpList_store_row rfl 62 _ _ rfl w1.heap.size (setCells a.mem) rfl rfl _ _ (heap_new _ _) (infoSet _) (by rw [setCells_size]; rfl) (setCells_one _) ?_; rw [World.setRow_alloc_new]))
  have hz := hb1.size
  have hb := ((Below.refl _ _).alloc (Nat.le_refl _) _).trans (hb1.mono (by simp))
  simp only [World.size_alloc] at hz
  have HB1 := Lib.hid hb; clear hb1 hb
  go_loopw [4, 5] (fun v i wr => ∃ k : Nat, k ≤ 256 ∧ i = .int .i64 k ∧ Below w.heap.size w wr ∧ w.heap.size < w1.heap.size ∧
      wr.heap[w1.heap.size]? = some (.cells (setCells a.mem) 62 (0, 0)) ∧ wr.ownsRow w.heap.size 5 1 v (a.below k).length (u8s (a.below k))) (fun _ i _ => 256 - (intOf i).toNat)
  case atStart =>
    exact ⟨0, by omega, rfl, HB1.out.alloc (by omega) _, by omega, heap_new _ _, by rw [show a.below 0 = [] from rfl]; exact World.ownsRow_nil _ _ _ _⟩
  case round =>
    obtain ⟨k, hk, rfl, hB, hl, h2, hO⟩ := hrel
    by_cases hlt : k < 256
    · have c2 : wr.cell? ⟨w1.heap.size, k, none⟩ = some (.bool (a.mem k)) := by rw [cell_of_row _ _ _ _ _ _ h2, setCells_at _ _ hlt]
      have H2 := Lib.hid h2; have HO := Lib.hid hO; have HB := Lib.hid hB; have hs := hB.size; clear h2 hO hB
      cases hf : a.mem k
      · rw [hf] at c2
        have HF := Lib.hid hf; clear hf
        go_wp2
        go_roundw
        case rel => exact ⟨k + 1, by omega, by go_num, HB.out, hl, H2.out, by rw [Cls.below_no HF.out]; exact HO.out⟩
        case measure => simp [intOf]; omega
      · rw [hf] at c2
        have HF := Lib.hid hf; clear hf
        have hle := a.below_le k
        go_wp2_with (at_builtin; go_must (refine app1 w.heap.size rfl (.tmp 15) (.tmp 18) 26 5 (.int .u8 0) 1 1 rfl Try.underlying26 infoU8 rfl (by decide) _ _ _ #[.int .u8 (k : Int)] rfl (by simp [Value.oneCell']) rfl rfl HO.out HB.out hs (by omega) (by omega) ?_); intro g c w2 hO2 hB2 hk2 hs2)
        go_roundw
        case rel =>
          refine ⟨k + 1, by omega, by go_num, hB2, hl, hk2 _ _ H2.out (own_ne HO.out H2.out (by decide)), ?_⟩
          rw [Cls.below_yes HF.out, u8s_snoc, List.length_append]
          exact hO2
        case measure => simp [intOf]; omega
    · obtain rfl : k = 256 := by omega
      have H2 := Lib.hid h2; have HO := Lib.hid hO; have HB := Lib.hid hB; have hs := hB.size; clear h2 hO hB
      go_wp2
      go_ret
      exact ⟨_, rfl, HO.out, HB.out⟩
end Go.Proofs.Ytachpdeejificaa
set_option linter.unusedVariables false
set_option linter.unusedSimpArgs false
namespace Go.Proofs.Ytachpdeejificaa
def dstOf (ops : Array Oper) (i : Nat) : Option Tmp := (ops[i]?).bind (·.dst)
def written (ops : Array Oper) (t : Tmp) : Bool := (List.range ops.size).any fun i => dstOf ops i == some t
/-- The values laid into their slots, in the text's order. -/
def putAll (ops : Array Oper) (f : Nat → Value) (a : Act) : Nat → Act
  | 0 => a
  | n + 1 => (putAll ops f a n).put (dstOf ops n) (f n)
section
variable {P : Program} {ops : Array Oper} {Q : Exit → Act → World → Prop}
/-- What an operation may lean on: the slots that it waits for, and those that the region leaves alone. -/
def Leans (ops : Array Oper) (V : Nat → Value → Prop) (a0 : Act) (o : Oper) (a : Act) : Prop :=
  (∀ e ∈ o.after, Region.binds .any e = true → ∀ t, dstOf ops e.on = some t → ∃ v, a.tmps[t]? = some v ∧ V e.on v) ∧ (∀ t, written ops t = false → a.tmps[t]? = a0.tmps[t]?)
theorem Leans.wanted {V : Nat → Value → Prop} {a0 : Act} {o : Oper} {a : Act} (h : Leans ops V a0 o a) (j : Nat) (t : Tmp) (b : Bool) (hg : o.guard = some (j, b)) (hj : (o.after.any fun e => e.on == j && Region.binds .any e) = true) (ht : dstOf ops j = some t) (hv : ∀ v, V j v → v = .bool b) : Region.wanted o (yielded ops a.tmps) = true := by
  rw [← Array.any_toList, List.any_eq_true] at hj
  obtain ⟨e, he, hh⟩ := hj
  have he := Array.mem_toList_iff.1 he
  simp only [Bool.and_eq_true, beq_iff_eq] at hh
  obtain ⟨rfl, hb⟩ := hh
  obtain ⟨v, h1, h2⟩ := h.1 e he hb t ht
  have := hv v h2
  subst this
  unfold Region.wanted yielded
  unfold dstOf at ht
  rw [hg]
  dsimp only
  rw [ht]
  simp [h1]
end
end Go.Proofs.Ytachpdeejificaa
set_option linter.unusedVariables false
set_option linter.unusedSimpArgs false
namespace Go.Proofs.Ytachpdeejificaa
open Go.RowKit
theorem four_cells {w : World} {k : Nat} {u v x y : Value} {t : TypeId} (h : w.heap[k]? = some (.cells #[u, v, x, y] t (0, 0))) : (w.cell? ⟨k, 0, none⟩ = some u ∧ w.cell? ⟨k, 1, none⟩ = some v ∧ w.cell? ⟨k, 2, none⟩ = some x ∧ w.cell? ⟨k, 3, none⟩ = some y) ∧ (w.frozen? ⟨k, 0, none⟩ = false ∧ w.frozen? ⟨k, 1, none⟩ = false ∧ w.frozen? ⟨k, 2, none⟩ = false ∧ w.frozen? ⟨k, 3, none⟩ = false) :=
  ⟨⟨by rw [cell_of_row _ _ _ _ _ _ h]; rfl, by rw [cell_of_row _ _ _ _ _ _ h]; rfl, by rw [cell_of_row _ _ _ _ _ _ h]; rfl, by rw [cell_of_row _ _ _ _ _ _ h]; rfl⟩, frozen_of_row _ _ _ _ _ h, frozen_of_row _ _ _ _ _ h, frozen_of_row _ _ _ _ _ h, frozen_of_row _ _ _ _ _ h⟩
end Go.Proofs.Ytachpdeejificaa
set_option linter.unusedVariables false
set_option linter.unusedSimpArgs false
namespace Go.Proofs.Ytachpdeejificaa
open Go.RowKit Go.Shelf
attribute [local go_sem] Oper.semAt_some
/-- A class's bytes below k, rising. -/
def upto (a : Cls) : Nat → List (Fin 256)
  | 0 => []
  | k + 1 => if h : k < 256 then (if a.mem k = true then upto a k ++ [⟨k, h⟩] else upto a k) else upto a k
theorem upto_yes (a : Cls) (k : Nat) (hk : k < 256) (h : a.mem k = true) : upto a (k + 1) = upto a k ++ [⟨k, hk⟩] := by rw [upto, dif_pos hk, if_pos h]
theorem upto_no (a : Cls) (k : Nat) (h : a.mem k = false) : upto a (k + 1) = upto a k := by
  rw [upto]
  split
  · rw [if_neg (by simp [h])]
  · rfl
theorem upto_pre (a : Cls) : ∀ (n k : Nat), upto a k <+: upto a (k + n)
  | 0, k => List.prefix_refl _
  | n + 1, k => by
    refine (upto_pre a n k).trans ?_
    rw [show k + (n + 1) = k + n + 1 by omega, upto]
    split
    · split
      · exact List.prefix_append _ _
      · exact List.prefix_refl _
    · exact List.prefix_refl _
theorem upto_all (a : Cls) (k : Nat) (hk : k < 256) (h : a.mem k = true) : (upto a k).length < (upto a 256).length := by
  have h1 := (upto_pre a (256 - (k + 1)) (k + 1)).length_le
  rw [show k + 1 + (256 - (k + 1)) = 256 by omega, upto_yes a k hk h, List.length_append, List.length_singleton] at h1
  omega
theorem grow_below {w w' : World} (h : Below w.heap.size w w') : w.grownBy w' none := ⟨h.os, h.tape, h.output, h.size, fun k hk _ => h.block k hk⟩
/-- A block stays as it is. -/
def KpB (b : Nat) (o : Obj) (W W' : World) : Prop := W.heap[b]? = some o → W'.heap[b]? = some o
theorem kpB_t {b : Nat} {o : Obj} {A B C : World} (h : KpB b o A B) (k : KpB b o B C) : KpB b o A C := fun x => k (h x)
theorem kpB_b {b : Nat} {o : Obj} {w : World} (hb : b < w.heap.size) (W : World) (l : Nat) (x y : Obj) (hl : w.heap.size ≤ l) (h : W.heap[l]? = some x) (_ : x.isCells = false) (_ : x.isWalk = false) : KpB b o W (W.putObj l y) :=
  fun hk => ((grownBy_putObj' W l y).block b (heap_lt hk) (fun e => by cases e; omega)).trans hk
set_option maxRecDepth 100000 in
set_option maxHeartbeats 4000000 in
theorem each1_in (n : Nat) (hn : 1 ≤ n) (l Bs : Nat) (a : Cls) (ha : a.ok) (J Jx : List (Fin 256) → World → Prop)
    (B : Nat) (hJ : AbidesFrom B J) (hBs0 : Bs < B)
    (hY : ∀ pre (x : Fin 256) W, J pre W → pre.length < (upto a 256).length → YieldAt Fence.wide (n - 1) Try.prog l #[.int .u8 ((x.val : Nat) : Int)] W fun e W' =>
      (e = .returned (.bool true) ∧ J (pre ++ [x]) W' ∧ KpB Bs (.cells a.cells 24 (0, 0)) W W') ∨ (e = .returned (.bool false) ∧ Jx (pre ++ [x]) W'))
    (W : World) (hBs : W.heap[Bs]? = some (.cells a.cells 24 (0, 0))) (h0 : J [] W) :
    CallsIn Fence.wide n Try.prog 36 #[.func (.yield l) #[] #[], .pointer (some ⟨Bs, 0, none⟩)] W fun e W' => (∃ v, e = .returned v) ∧
      ((∃ ys, ys = upto a 256 ∧ J ys W') ∨ (∃ pre, pre <+: upto a 256 ∧ Jx pre W')) := by
  refine callsIn_of_wp Try.func36 rfl trivial ?_ rfl
  simp only [Try.ntmps36, List.size_toArray, List.length_cons, List.length_nil, Nat.reduceAdd, Nat.reduceSub, Array.replicate_succ, Array.replicate_zero, List.push_toArray, List.append_toArray, List.nil_append, List.cons_append]
  gi_wp2
  gi_loopw [4] (fun i wr => ∃ k : Nat, k ≤ 256 ∧ i = .int .i64 k ∧ J (upto a k) wr ∧ wr.heap[Bs]? = some (.cells a.cells 24 (0, 0)))
    (fun i _ => 256 - (intOf i).toNat)
  case atStart => exact ⟨0, Nat.zero_le _, rfl, h0, hBs⟩
  case round =>
    obtain ⟨k, hk, rfl, hJs, hnx⟩ := hrel
    by_cases hlt : k < 256
    · obtain ⟨⟨c0, c1, c2, c3⟩, f0, f1, f2, f3⟩ := four_cells (show wr.heap[Bs]? = some (.cells #[.int .u64 (a.c0 : Int), .int .u64 (a.c1 : Int), .int .u64 (a.c2 : Int), .int .u64 (a.c3 : Int)] 24 (0, 0)) from hnx)
      have hH := has_c a ha k hlt
      have HX := Lib.hid hnx; clear hnx
      cases hm : a.mem k
      · rw [hm] at hH
        have HH := Lib.hid hH; clear hH
        have HM := Lib.hid hm; clear hm
        gi_wp2_with (refine ⟨trivial, ?_⟩; gi_at_call 15; refine (callsIn_wide.2 (HH.out _)).mono ?_; rintro e w2 ⟨rfl, hb2⟩)
        refine ⟨fun _ h => (by cases h), ?_⟩
        gi_wp2
        go_roundw
        case rel => exact ⟨k + 1, by omega, by simp, by rw [upto_no a k HM.out]; exact hJ _ _ _ none hJs (grow_below hb2) (by simp), heap_same hb2 HX.out⟩
        case measure => simp [intOf]; omega
      · rw [hm] at hH
        have HH := Lib.hid hH; clear hH
        have HM := Lib.hid hm; clear hm
        gi_wp2_with (refine ⟨trivial, ?_⟩; gi_at_call 15; refine (callsIn_wide.2 (HH.out _)).mono ?_; rintro e w2 ⟨rfl, hb2⟩; have HB2 := Lib.hid hb2; clear hb2; obtain ⟨fn, tmps, assign, body, hy, hR⟩ := hY _ ⟨k, hlt⟩ w2 (hJ _ _ _ none hJs (grow_below HB2.out) (by simp)) (upto_all a k hlt HM.out); dsimp only at hy)
        refine hR.mono ?_
        rintro e W3 (⟨rfl, hJ3, hk3⟩ | ⟨rfl, hJx3⟩)
        · gi_wp2
          go_roundw
          case rel => exact ⟨k + 1, by omega, by simp, by rw [upto_yes a k hlt HM.out]; exact hJ3, hk3 (heap_same HB2.out HX.out)⟩
          case measure => simp [intOf]; omega
        · gi_wp2
          refine bodyPost_ret (results_none rfl _ _ _) rfl ?_
          refine ⟨⟨_, rfl⟩, .inr ⟨_, ?_, hJx3⟩⟩
          have h5 := upto_pre a (256 - (k + 1)) (k + 1)
          rw [show k + 1 + (256 - (k + 1)) = 256 by omega, upto_yes a k hlt HM.out] at h5
          exact h5
    · obtain rfl : k = 256 := by omega
      gi_wp2
      go_end0
      exact ⟨⟨_, rfl⟩, .inl ⟨_, rfl, hJs⟩⟩
set_option maxHeartbeats 1000000 in
theorem each_in (n : Nat) (a : Cls) (w : World) : CallsIn Fence.wide n Try.prog 12 #[V4 a] w fun e w' => e = .returned (.func (.func 36) #[] #[.pointer (some ⟨w.heap.size, 0, none⟩)]) ∧ w' = w.alloc (.cells a.cells 24) := by
  refine callsIn_of_wp Try.func12 rfl trivial ?_ rfl
  simp only [Try.ntmps12, List.size_toArray, List.length_cons, List.length_nil, Nat.reduceAdd, Nat.reduceSub, Array.replicate_succ, Array.replicate_zero, List.push_toArray, List.append_toArray, List.nil_append, List.cons_append]
  gi_wp2
  go_ret
  exact ⟨rfl, rfl⟩
/-- What class.Each hands back goes through a class's bytes, rising. -/
theorem each_stops (n : Nat) (hn : 1 ≤ n) (Bs : Nat) (a : Cls) (ha : a.ok) (w : World) (hBs : Bs < w.heap.size) (hc : w.heap[Bs]? = some (.cells a.cells 24 (0, 0))) :
    SeqStopsK Fence.wide n Try.prog 36 #[.pointer (some ⟨Bs, 0, none⟩)] (fun x : Fin 256 => #[Value.int .u8 ((x.val : Nat) : Int)]) (KpB Bs (.cells a.cells 24 (0, 0))) (fun ys => ys = upto a 256) (fun pre => pre <+: upto a 256) (upto a 256).length w :=
  fun l J Jx W hW hJ _ hY h0 => each1_in n hn l Bs a ha J Jx W.heap.size hJ (Nat.lt_of_lt_of_le hBs hW.size) hY W (heap_below hW hBs hc) h0
end Go.Proofs.Ytachpdeejificaa
set_option linter.unusedVariables false
set_option linter.unusedSimpArgs false
namespace Go.Proofs.Ytachpdeejificaa
open Go.RowKit Go.Shelf
attribute [local go_sem] Oper.semAt_some
theorem upto_count (a : Cls) : ∀ k, (upto a k).length ≤ k
  | 0 => by simp [upto]
  | k + 1 => by
    have := upto_count a k
    rw [upto]
    split
    · split
      · rw [List.length_append, List.length_singleton]; omega
      · omega
    · omega
end Go.Proofs.Ytachpdeejificaa
set_option linter.unusedVariables false
set_option linter.unusedSimpArgs false
namespace Go.Proofs.Ytachpdeejificaa
open Go.RowKit Go.Shelf
attribute [local go_sem] Oper.semAt_some
theorem upto_below (a : Cls) : ∀ k, k ≤ 256 → (upto a k).map (fun x => (x.val : Nat)) = a.below k
  | 0, _ => rfl
  | k + 1, h => by
    have ih := upto_below a k (by omega)
    unfold Cls.below at ih ⊢
    rw [List.range_succ, List.filter_append, ← ih]
    cases hm : a.mem k
    · rw [upto_no a k hm]; simp [hm]
    · rw [upto_yes a k (by omega) hm]; simp [hm]
theorem upto_len (a : Cls) : (upto a 256).length = a.bytes.length := by
  have h := congrArg List.length (upto_below a 256 (Nat.le_refl _))
  rw [List.length_map] at h
  exact h
theorem upto_at (a : Cls) {i : Nat} {x : Fin 256} (h : (upto a 256)[i]? = some x) : a.bytes[i]? = some x.val := by
  have e : a.bytes = (upto a 256).map (fun x => (x.val : Nat)) := (upto_below a 256 (Nat.le_refl _)).symm
  rw [e, List.getElem?_map, h]; rfl
theorem pre_at {α : Type} {L pre : List α} {y : α} (h : pre ++ [y] <+: L) : L[pre.length]? = some y := by
  obtain ⟨t, rfl⟩ := h
  simp
theorem block_own' (b : Nat) (cs : Array Value) (t : TypeId) {X Y : World} {row : Option Nat} (hx : X.heap[b]? = some (.cells cs t (0, 0))) (hg : X.grownBy Y row) (hrow : ∀ r, row = some r → ∃ o : Obj, X.heap[r]? = some o ∧ o.isCells = false) : Y.heap[b]? = some (.cells cs t (0, 0)) := by
  refine (hg.block b (heap_lt hx) (fun e => ?_)).trans hx
  obtain ⟨o, ho, hc⟩ := hrow b e.symm
  rw [hx] at ho; cases ho; cases hc
theorem cell_alloc {W : World} {p : Addr} {v : Value} (h : W.cell? p = some v) (o : Obj) : (W.alloc o).cell? p = some v := cell_kept h (World.grownBy_alloc W o none) (fun r e => by cases e)
theorem cell_other {W : World} {g i b : Nat} {v u : Value} (h : W.cell? ⟨g, i, none⟩ = some v) (hne : g ≠ b) : (W.setCell ⟨b, 0, none⟩ u).cell? ⟨g, i, none⟩ = some v := (World.cell?_of_block (a := ⟨g, i, none⟩) (Below.heap_setCell _ _ _ g hne)).trans h
@[local go_sem] theorem run_store_func (P : Program) (w : World) (p : Addr) (m : Mode) (f : Fn) (c l : Array Value) : (store p (.func f c l) m).run P w = stored P w p (.func f c l) m := run_store P w p _ m rfl
@[local go_sem] theorem eql_func_nil (f : Fn) (c l : Array Value) (w : World) : (binOp .eql 29 (.func f c l) .nilFunc).run Try.prog w = .ok (.bool false) w := by kernel_rfl
/-- What lies in memory while the law walks. -/
structure EachS (w : World) (a : Cls) (stop inner : Int) (B0 bw ba bs bk : Nat) (k : Int) (A : Option Addr) (len cap : Nat) (ds : List Nat) (W : World) : Prop where
  bel : Below w.heap.size w W
  st : Boxed W (w.heap.size + 1) 3 (.int .i64 stop)
  inn : Boxed W (w.heap.size + 1 + 1) 3 (.int .i64 inner)
  rs : Boxed W (w.heap.size + 1 + 1 + 1) 4 (.bool false)
  wa : Boxed W bw 26 (.slice A len cap)
  al : Boxed W ba 29 (.func (.func 36) #[] #[.pointer (some ⟨bs, 0, none⟩)])
  kb : Boxed W bk 3 (.int .i64 k)
  cl : W.heap[bs]? = some (.cells a.cells 24 (0, 0))
  rd : ∀ (i : Nat) (x : Fin 256), (upto a 256)[i]? = some x → ∃ g, A = some ⟨g, 0, none⟩ ∧ g < B0 ∧ W.cell? ⟨g, i, none⟩ = some (.int .u8 ((x.val : Nat) : Int))
  mks : ∀ D ∈ ds, W.heap[D]? = some (.deferred (some []))
section
variable {w W : World} {a : Cls} {stop inner k : Int} {B0 bw ba bs bk : Nat} {A : Option Addr} {len cap : Nat} {ds : List Nat}
theorem EachS.own {β : Type} {B : Nat} (hB : w.heap.size ≤ B) (hD : ∀ D ∈ ds, D < B) : OwnFrom B (fun (_ : β) W => EachS w a stop inner B0 bw ba bs bk k A len cap ds W) := by
  intro s X Y row h hg hr
  have hr' := fun r e => (hr r e).2
  have bx : ∀ {b : Nat} {t : TypeId} {v : Value}, Boxed X b t v → Boxed Y b t v := fun {b t v} hb => boxed_own b t (fun (_ : Unit) => v) () X Y row hb hg hr'
  exact ⟨ownFrom_below (β := Unit) (Nat.le_refl _) hB () X Y row h.bel hg hr, bx h.st, bx h.inn, bx h.rs, bx h.wa, bx h.al, bx h.kb, block_own' bs a.cells 24 h.cl hg hr',
    fun i x hx => by obtain ⟨g, e, hg0, hc⟩ := h.rd i x hx; exact ⟨g, e, hg0, cell_kept hc hg hr'⟩,
    fun D hd => (hg.block D (Array.getElem?_eq_some_iff.1 (h.mks D hd)).1 (fun e => by have := (hr D e.symm).1; have := hD D hd; omega)).trans (h.mks D hd)⟩
theorem EachS.lay (h : EachS w a stop inner B0 bw ba bs bk k A len cap ds W) (o : Obj) : EachS w a stop inner B0 bw ba bs bk k A len cap ds (W.alloc o) :=
  ⟨h.bel.alloc h.bel.size _, h.st.alloc _, h.inn.alloc _, h.rs.alloc _, h.wa.alloc _, h.al.alloc _, h.kb.alloc _, heap_keep h.cl, fun i x hx => by obtain ⟨g, e, hg0, hc⟩ := h.rd i x hx; exact ⟨g, e, hg0, cell_alloc hc _⟩, fun D hd => heap_keep (h.mks D hd)⟩
/-- Another variable's box is written. -/
theorem EachS.put (h : EachS w a stop inner B0 bw ba bs bk k A len cap ds W) (hs : w.heap.size + 1 + 1 + 1 < B0 ∧ bw < B0 ∧ ba < B0 ∧ bs < B0) {b : Nat} (hb : B0 ≤ b) (hk : bk ≠ b) (v : Value) : EachS w a stop inner B0 bw ba bs bk k A len cap ds (W.setCell ⟨b, 0, none⟩ v) :=
  ⟨h.bel.setCell (by dsimp only; omega) _, h.st.other (by omega) _, h.inn.other (by omega) _, h.rs.other (by omega) _, h.wa.other (by omega) _, h.al.other (by omega) _, h.kb.other hk _, heap_other (by dsimp only; omega) h.cl,
    fun i x hx => by obtain ⟨g, e, hg0, hc⟩ := h.rd i x hx; exact ⟨g, e, hg0, cell_other hc (by omega)⟩, fun D hd => (KeepsOthers.setCell _ _ _).same D _ (h.mks D hd) rfl⟩
theorem EachS.newk (h : EachS w a stop inner B0 bw ba bs bk k A len cap ds W) (k' : Int) : EachS w a stop inner B0 bw ba bs W.heap.size k' A len cap ds (W.alloc (.cells #[.int .i64 k'] 3)) :=
  have h' := h.lay (.cells #[.int .i64 k'] 3)
  ⟨h'.bel, h'.st, h'.inn, h'.rs, h'.wa, h'.al, Boxed.new W 3 _, h'.cl, h'.rd, h'.mks⟩
theorem EachS.mark (h : EachS w a stop inner B0 bw ba bs bk k A len cap ds W) {D : Nat} (hD : W.heap[D]? = some (.deferred (some []))) : EachS w a stop inner B0 bw ba bs bk k A len cap (D :: ds) W :=
  ⟨h.bel, h.st, h.inn, h.rs, h.wa, h.al, h.kb, h.cl, h.rd, fun d hd => by rcases List.mem_cons.1 hd with rfl | hd; exact hD; exact h.mks d hd⟩
end
/-- How a round of the law's walk over the class may be left. -/
def EachX (w : World) (a : Cls) (stop inner : Int) (B0 bw ba bs bk : Nat) (k : Nat) (A : Option Addr) (len cap : Nat) (ds : List Nat) (bn : Nat) (co : Code) (pre : List (Fin 256)) (W : World) : Prop :=
  (co = .exit 2 ∧ k = 0 ∧ (pre.length : Int) = stop + 1 ∧ EachS w a stop inner B0 bw ba bs bk (k : Int) A len cap ds W ∧ Boxed W bn 3 (.int .i64 (pre.length : Int))) ∨ (co = .ret ∧ ¬ pre <+: upto a 256)
def EachY (a : Cls) (co : Code) (pre : List (Fin 256)) : Prop := co = .ret ∧ ¬ pre <+: upto a 256
def markOf (D : Nat) : Deferred := { target := .collected D, args := #[] }
/-- Between two rounds of the law's loop. -/
def EachI (w : World) (a : Cls) (stop inner : Int) (B0 bw ba bs : Nat) (A : Option Addr) (len cap : Nat) (act : Act) (W : World) : Prop :=
  ∃ (k bk : Nat) (ds : List Nat) (u10 u11 u12 u13 u20 u21 u22 u23 u24 u25 u26 u27 u28 u29 u30 u31 u32 u33 u34 u35 u36 u37 u38 u39 u40 u41 u42 u43 u44 u45 u46 u47 u48 u49 u50 u51 u52 u53 u54 u55 u56 u57 u58 u59 u60 u61 u62 u63 u64 u65 u66 u67 u68 u69 u70 u71 u72 u73 u74 u75 u76 u77 u78 u79 u80 u81 u82 u83 u84 u85 u86 : Value), k ≤ 2 ∧ B0 ≤ bk ∧ bk < W.heap.size ∧ ds.Nodup ∧ (∀ D ∈ ds, w.heap.size ≤ D) ∧ EachS w a stop inner B0 bw ba bs bk (k : Int) A len cap ds W ∧ act = { tmps := #[V4 a, .int .i64 stop, .int .i64 inner, .pointer (some ⟨w.heap.size, 0, none⟩), .pointer (some ⟨w.heap.size + 1, 0, none⟩), .pointer (some ⟨w.heap.size + 1 + 1, 0, none⟩), .pointer (some ⟨w.heap.size + 1 + 1 + 1, 0, none⟩), .pointer (some ⟨bw, 0, none⟩), .pointer (some ⟨ba, 0, none⟩), .pointer (some ⟨bk, 0, none⟩), u10, u11, u12, u13, V4 a, .slice A len cap, V4 a, .func (.func 36) #[] #[.pointer (some ⟨bs, 0, none⟩)], .func (.func 36) #[] #[.pointer (some ⟨bs, 0, none⟩)], .bool false, u20, u21, u22, u23, u24, u25, u26, u27, u28, u29, u30, u31, u32, u33, u34, u35, u36, u37, u38, u39, u40, u41, u42, u43, u44, u45, u46, u47, u48, u49, u50, u51, u52, u53, u54, u55, u56, u57, u58, u59, u60, u61, u62, u63, u64, u65, u66, u67, u68, u69, u70, u71, u72, u73, u74, u75, u76, u77, u78, u79, u80, u81, u82, u83, u84, u85, u86], defers := ds.map markOf }
def kOf (act : Act) (W : World) : Nat := match act.tmps[9]?.getD undef with | .pointer (some p) => (match W.cell? p with | some v => (intOf v).toNat | none => 0) | _ => 0
theorem kOf_eq {act : Act} {W : World} {bk k : Nat} (h : act.tmps[9]? = some (.pointer (some ⟨bk, 0, none⟩))) (hb : Boxed W bk 3 (.int .i64 (k : Int))) : kOf act W = k := by
  unfold kOf
  rw [h]
  dsimp only [Option.getD_some]
  rw [hb.cell]
  simp [intOf]
theorem kOf_eq2 {act : Act} {W : World} {bk k : Nat} (h : act.tmps[9]? = some (.pointer (some ⟨bk, 0, none⟩))) (hb : Boxed W bk 3 (.int .i64 ((k : Int) + 1))) : kOf act W = k + 1 := kOf_eq h (by rw [show (((k + 1 : Nat)) : Int) = (k : Int) + 1 from by omega]; exact hb)
/-- The marks are taken over, one by one. -/
theorem leaves_marks {F : Fence} {n : Nat} {P : Program} {fn : Func} {tmps : Array Value} {w : World} : ∀ (ds : List Nat) (W : World), ds.Nodup → (∀ D ∈ ds, w.heap.size ≤ D) → (∀ D ∈ ds, W.heap[D]? = some (.deferred (some []))) → Below w.heap.size w W → W.heap[w.heap.size + 1 + 1 + 1]? = some (.cells #[.bool true] 4 (0, 0)) →
    (∀ W' : World, W'.heap[w.heap.size + 1 + 1 + 1]? = some (.cells #[.bool true] 4 (0, 0)) → (results fn tmps).run P W' = .ok (.bool true) W') →
    LeavesInM F n P fn tmps (fun e W' => e = .returned (.bool true) ∧ Below w.heap.size w W') (ds.map markOf) .returning W
  | [], W, _, _, _, hB, hc, hr => ⟨_, hr W hc, rfl, hB⟩
  | D :: ds, W, hn, hge, hm, hB, hc, hr => by
    have hD := hm D (by simp)
    refine ⟨by simp, .inl ⟨D, _, rfl, run_takeDeferred hD, ?_⟩⟩
    refine leaves_marks ds _ (List.nodup_cons.1 hn).2 (fun d hd => hge d (by simp [hd])) (fun d hd => ?_) (hB.trans (belowK_b (w := w) (Nat.le_refl _) W D _ _ (hge D (by simp)) hD rfl rfl)) ?_ hr
    · exact (World.putObj_heap_other (fun e => (List.nodup_cons.1 hn).1 (by rw [← e]; exact hd))).trans (hm d (by simp [hd]))
    · refine (World.putObj_heap_other (fun e => ?_)).trans hc
      rw [← e, hc] at hD; cases hD
set_option maxRecDepth 100000 in
set_option maxHeartbeats 4000000 in
theorem classEach_in (n : Nat) (hn : 8 ≤ n) (a : Cls) (ha : a.ok) (stop inner : Int) (hs0 : -9223372036854775808 ≤ stop ∧ stop ≤ 9223372036854775807) (w : World) :
    CallsIn Fence.wide n Try.prog 4 #[V4 a, .int .i64 stop, .int .i64 inner] w fun e W' => e = .returned (.bool true) ∧ Below w.heap.size w W' := by
  have h1 : 1 ≤ n := by omega
  have HA := Lib.hid ha; have HS := Lib.hid hs0; clear ha hs0
  refine callsIn_of_wp_marks Try.func4 rfl trivial ?_ rfl
  simp only [Try.ntmps4, List.size_toArray, List.length_cons, List.length_nil, Nat.reduceAdd, Nat.reduceSub, Array.replicate_succ, Array.replicate_zero, List.push_toArray, List.append_toArray, List.nil_append, List.cons_append]
  gi_wp2_with (first | (refine ⟨trivial, ?_⟩; gi_at_call 11; refine (callsIn_wide.2 (bytes_c a HA.out _)).mono ?_; rintro e w1 ⟨v, rfl, hown, hb1⟩; obtain ⟨A, c, rfl⟩ := own_form hown; have hc0 := heap_same hb1 (heap_keep (heap_keep (heap_keep (heap_new w (.cells a.cells 24))))); obtain ⟨⟨k0, k1, k2, k3⟩, l0, l1, l2, l3⟩ := four_cells hc0; have m0 := cell_alloc k0 (.cells #[.slice A a.bytes.length c] 26); have m1 := cell_alloc k1 (.cells #[.slice A a.bytes.length c] 26); have m2 := cell_alloc k2 (.cells #[.slice A a.bytes.length c] 26); have m3 := cell_alloc k3 (.cells #[.slice A a.bytes.length c] 26); have HO := Lib.hid hown; have HB := Lib.hid hb1; have HC := Lib.hid hc0; clear hown hb1 hc0) | (refine ⟨trivial, ?_⟩; gi_at_call 12; refine (each_in _ a _).mono ?_; rintro e w2 ⟨rfl, rfl⟩))
  have hz3 := heap_same HB.out (heap_new3 w (.cells a.cells 24) (.cells #[.int .i64 stop] 3) (.cells #[.int .i64 inner] 3) (.cells #[.bool false] 4))
  have hE : EachS w a stop inner (w1.heap.size + 1 + 1 + 1) w1.heap.size (w1.heap.size + 1 + 1) (w1.heap.size + 1) (w1.heap.size + 1 + 1 + 1) ((0 : Nat) : Int) A a.bytes.length c [] ((((w1.alloc (.cells #[.slice A a.bytes.length c] 26)).alloc (.cells a.cells 24)).alloc (.cells #[.func (.func 36) #[] #[.pointer (some ⟨w1.heap.size + 1, 0, none⟩)]] 29)).alloc (.cells #[.int .i64 ((0 : Nat) : Int)] 3)) := by
    have hsz := HB.out.size
    simp only [World.size_alloc] at hsz
    refine ⟨(((((((((Below.refl _ w).alloc (Nat.le_refl _) _).alloc (by simp) _).alloc (by simp; omega) _).alloc (by simp; omega) _).trans (HB.out.mono (by simp; omega))).alloc (by omega) _).alloc (by simp; omega) _).alloc (by simp; omega) _).alloc (by simp; omega) _, ?_, ?_, heap_keep (heap_keep (heap_keep (heap_keep hz3))), heap_keep (heap_keep (heap_keep (heap_new _ _))), heap_keep (heap_new2 _ _ _ _), heap_new3 _ _ _ _ _, heap_keep (heap_keep (heap_new1 _ _ _)), ?_, fun D hd => by simp at hd⟩
    · exact heap_keep (heap_keep (heap_keep (heap_keep (heap_same HB.out (heap_keep (heap_keep (heap_new1 w (.cells a.cells 24) (.cells #[.int .i64 stop] 3))))))))
    · exact heap_keep (heap_keep (heap_keep (heap_keep (heap_same HB.out (heap_keep (heap_new2 w (.cells a.cells 24) (.cells #[.int .i64 stop] 3) (.cells #[.int .i64 inner] 3)))))))
    · intro i x hx
      have hlt : i < a.bytes.length := by rw [← upto_len]; exact (List.getElem?_eq_some_iff.1 hx).1
      have hO := HO.out
      obtain ⟨m, hm⟩ : ∃ m, a.bytes.length = m + 1 := ⟨a.bytes.length - 1, by omega⟩
      rw [hm] at hO
      obtain ⟨g, cap, e⟩ := ownsRow_succ hO
      cases e
      have hg : g < w1.heap.size := by
        rcases hO.2 with ⟨h, _⟩ | ⟨g', cap', cur, h, h2, h3, _⟩
        · cases h
        · cases h; exact heap_lt h3
      refine ⟨g, rfl, by omega, cell_alloc (cell_alloc (cell_alloc (cell_alloc ((hO.cellAt i (by omega)).trans ?_) _) _) _) _⟩
      unfold u8s
      rw [List.getElem?_map, upto_at a hx]; rfl
  have hlen := upto_len a
  rw [← hlen] at hE
  have hlt1 := heap_lt hz3
  obtain ⟨bw, hbw⟩ : ∃ bw, bw = w1.heap.size := ⟨_, rfl⟩
  have hst : w.heap.size + 1 + 1 + 1 < bw + 1 + 1 + 1 ∧ bw < bw + 1 + 1 + 1 ∧ bw + 1 + 1 < bw + 1 + 1 + 1 ∧ bw + 1 < bw + 1 + 1 + 1 := ⟨by omega, by omega, by omega, by omega⟩
  have hbsz : bw + 1 + 1 + 1 < ((((w1.alloc (.cells #[.slice A a.bytes.length c] 26)).alloc (.cells a.cells 24)).alloc (.cells #[.func (.func 36) #[] #[.pointer (some ⟨bw + 1, 0, none⟩)]] 29)).alloc (.cells #[.int .i64 0] 3)).heap.size := by simp; omega
  have HE := Lib.hid hE; have HST := Lib.hid hst
  clear hE hst hz3
  clear k0 k1 k2 k3 l0 l1 l2 l3 m0 m1 m2 m3
  obtain ⟨len, hlen'⟩ : ∃ len, len = (upto a 256).length := ⟨_, rfl⟩
  rw [← hlen, ← hlen']
  rw [← hlen'] at HE
  rw [← hlen, ← hlen'] at hbsz
  rw [← hbw] at HE ⊢
  have HL := Lib.hid hlen'
  clear hlen hlen' hbw
  refine wpIn_loop (EachI w a stop inner (bw + 1 + 1 + 1) bw (bw + 1 + 1) (bw + 1) A len c) (fun a' W' => 2 - kOf a' W') ⟨0, bw + 1 + 1 + 1, [], _, _, _, _, _, _, _, _, _, _, _, _, _, _, _, _, _, _, _, _, _, _, _, _, _, _, _, _, _, _, _, _, _, _, _, _, _, _, _, _, _, _, _, _, _, _, _, _, _, _, _, _, _, _, _, _, _, _, _, _, _, _, _, _, _, _, _, _, _, _, _, by decide, Nat.le_refl _, hbsz, by simp, by simp, HE.out, rfl⟩ ?_
  rintro _ W ⟨k, bk, ds, u10, u11, u12, u13, u20, u21, u22, u23, u24, u25, u26, u27, u28, u29, u30, u31, u32, u33, u34, u35, u36, u37, u38, u39, u40, u41, u42, u43, u44, u45, u46, u47, u48, u49, u50, u51, u52, u53, u54, u55, u56, u57, u58, u59, u60, u61, u62, u63, u64, u65, u66, u67, u68, u69, u70, u71, u72, u73, u74, u75, u76, u77, u78, u79, u80, u81, u82, u83, u84, u85, u86, hk2, hbk0, hbkW, hnd, hge, hE, rfl⟩
  clear HE HO HB HC hlt1 hbsz
  have hkb := hE.kb.cell
  have hmu : kOf { tmps := #[V4 a, .int .i64 stop, .int .i64 inner, .pointer (some ⟨w.heap.size, 0, none⟩), .pointer (some ⟨w.heap.size + 1, 0, none⟩), .pointer (some ⟨w.heap.size + 1 + 1, 0, none⟩), .pointer (some ⟨w.heap.size + 1 + 1 + 1, 0, none⟩), .pointer (some ⟨bw, 0, none⟩), .pointer (some ⟨bw + 1 + 1, 0, none⟩), .pointer (some ⟨bk, 0, none⟩), u10, u11, u12, u13, V4 a, .slice A len c, V4 a, .func (.func 36) #[] #[.pointer (some ⟨bw + 1, 0, none⟩)], .func (.func 36) #[] #[.pointer (some ⟨bw + 1, 0, none⟩)], .bool false, u20, u21, u22, u23, u24, u25, u26, u27, u28, u29, u30, u31, u32, u33, u34, u35, u36, u37, u38, u39, u40, u41, u42, u43, u44, u45, u46, u47, u48, u49, u50, u51, u52, u53, u54, u55, u56, u57, u58, u59, u60, u61, u62, u63, u64, u65, u66, u67, u68, u69, u70, u71, u72, u73, u74, u75, u76, u77, u78, u79, u80, u81, u82, u83, u84, u85, u86], defers := ds.map markOf } W = k := kOf_eq rfl hE.kb
  rw [hmu]
  clear hmu
  by_cases hk : k < 2
  · have hk' : (k : Int) < 2 := by omega
    have hal := (hE.al.alloc (.cells #[.int .i64 0] 3)).cell
    have hbn := Boxed.new W 3 (.int .i64 0)
    have hEn := hE.lay (.cells #[.int .i64 0] 3)
    have HE := Lib.hid hE
    clear hE
    gi_wp2_with fail
    have hbwn : W.heap.size < (W.alloc (.cells #[.int .i64 0] 3)).heap.size := by simp
    have hwB : w.heap.size ≤ (W.alloc (.cells #[.int .i64 0] 3)).heap.size := hEn.bel.size
    have hDB : ∀ D ∈ ds, D < (W.alloc (.cells #[.int .i64 0] 3)).heap.size := fun D hd => heap_lt (hEn.mks D hd)
    have hbsl : bw + 1 < (W.alloc (.cells #[.int .i64 0] 3)).heap.size := heap_lt hEn.cl
    obtain ⟨bn, hbn0⟩ : ∃ bn, bn = W.heap.size := ⟨_, rfl⟩
    generalize hW0 : W.alloc (.cells #[.int .i64 0] 3) = W0 at hEn hbn hbwn hwB hDB hbsl ⊢
    rw [← hbn0] at hbn hbwn ⊢
    have hbkn : bk < bn := by omega
    have HBN := Lib.hid hbn0
    clear hW0 hbn0 hkb hal hbkW
    refine wpIn_rangeFunc_ownH rfl h1 (gf := 36) (lb := #[.pointer (some ⟨bw + 1, 0, none⟩)]) rfl trivial (enters_of Try.func36 (by kernel_rfl) rfl)
      (each_stops (n - 1) (by omega) (bw + 1) a HA.out W0 hbsl hEn.cl) kpB_t (kpB_b hbsl) (Below.refl _ _) (fun _ => rfl)
      (fun pre W' => EachS w a stop inner (bw + 1 + 1 + 1) bw (bw + 1 + 1) (bw + 1) bk (k : Int) A len c ds W' ∧ Boxed W' bn 3 (.int .i64 (pre.length : Int)))
      (EachX w a stop inner (bw + 1 + 1 + 1) bw (bw + 1 + 1) (bw + 1) bk k A len c ds bn)
      (OwnFrom.and (EachS.own hwB hDB) (Own.from (boxed_own _ _ _) _))
      (fun co s X Y row h hg hr => by
        rcases h with ⟨e, k0, e2, hS, hb⟩ | h
        · exact .inl ⟨e, k0, e2, EachS.own (β := Unit) hwB hDB () X Y row hS hg hr, boxed_own bn 3 (fun (_ : Unit) => _) () X Y row hb hg (fun r e => (hr r e).2)⟩
        · exact .inr h)
      ⟨hEn, hbn⟩
      (fun x a' _ => a' = { tmps := #[V4 a, .int .i64 stop, .int .i64 inner, .pointer (some ⟨w.heap.size, 0, none⟩), .pointer (some ⟨w.heap.size + 1, 0, none⟩), .pointer (some ⟨w.heap.size + 1 + 1, 0, none⟩), .pointer (some ⟨w.heap.size + 1 + 1 + 1, 0, none⟩), .pointer (some ⟨bw, 0, none⟩), .pointer (some ⟨bw + 1 + 1, 0, none⟩), .pointer (some ⟨bk, 0, none⟩), .pointer (some ⟨bn, 0, none⟩), .int .u8 ((x.val : Nat) : Int), u12, u13, V4 a, .slice A len c, V4 a, .func (.func 36) #[] #[.pointer (some ⟨bw + 1, 0, none⟩)], .func (.func 36) #[] #[.pointer (some ⟨bw + 1, 0, none⟩)], .bool false, .int .i64 (k : Int), .bool true, u22, u23, .func (.func 36) #[] #[.pointer (some ⟨bw + 1, 0, none⟩)], .int .u8 ((x.val : Nat) : Int), u26, u27, u28, u29, u30, u31, u32, u33, u34, u35, u36, u37, u38, u39, u40, u41, u42, u43, u44, u45, u46, u47, u48, u49, u50, u51, u52, u53, u54, u55, u56, u57, u58, u59, u60, u61, u62, u63, u64, u65, u66, u67, u68, u69, u70, u71, u72, u73, u74, u75, u76, u77, u78, u79, u80, u81, u82, u83, u84, u85, u86], defers := [] })
      (fun _ _ _ _ _ _ hs _ _ => hs) ?assign ?body ?done ?stop
    case assign =>
      rintro l pre x W' K hi hK
      gi_wp2
      exact hK _ _ (KeepsFrom.refl _ _) (fun h => h) hi rfl
    case body =>
      rintro l pre x a' W1 hl ⟨r, hr⟩ ⟨hS, hn1⟩ rfl hlt
      obtain ⟨x', hx'⟩ : ∃ x', (upto a 256)[pre.length]? = some x' := ⟨_, List.getElem?_eq_getElem hlt⟩
      obtain ⟨g, rfl, hg0, hcell⟩ := hS.rd _ _ hx'
      have hn1c := hn1.cell; have hn1f := hn1.frozen; have hwc := hS.wa.cell; have hic := hS.inn.cell; have hstc := hS.st.cell; have hrc := hS.rs.cell; have hrf := hS.rs.frozen; have hkc := hS.kb.cell
      have hlt' : (pre.length : Int) < (len : Int) := by have := HL.out; omega
      have hcnt := upto_count a 256
      have hp256 : pre.length < 256 := by omega
      have hS1 := hS; have HS := Lib.hid hS; have HN := Lib.hid hn1; have HX := Lib.hid hx'; clear hS hn1 hx' hcnt hlt
      by_cases hxx : x = x'
      · subst hxx
        by_cases hin : (pre.length : Int) = inner
        · have hib : ((pre.length : Int) == inner) = true := by rw [beq_iff_eq]; exact hin
          have HIN := Lib.hid hin; clear hin
          have hal1 := (hS1.al.alloc (.cells #[.int .i64 0] 3)).cell
          gi_wp2_with fail
          have hbm := Boxed.new W1 3 (.int .i64 0)
          have hSm := hS1.lay (.cells #[.int .i64 0] 3)
          have hNm := HN.out.alloc (.cells #[.int .i64 0] 3)
          have hr2 : (W1.alloc (.cells #[.int .i64 0] 3)).heap[l]? = some (.loop r) := heap_keep hr
          have hKm : KeepsFrom W0.heap.size W1 (W1.alloc (.cells #[.int .i64 0] 3)) := (KeepsOthers.alloc _ _).from _
          have hle2 : W1.heap.size ≤ (W1.alloc (.cells #[.int .i64 0] 3)).heap.size := by simp
          have hbm2 : W1.heap.size < (W1.alloc (.cells #[.int .i64 0] 3)).heap.size := by simp
          have hbnm : bn < W1.heap.size := HN.out.lt
          have hbkm : bk < W1.heap.size := hS1.kb.lt
          obtain ⟨bm, hbm0⟩ : ∃ bm, bm = W1.heap.size := ⟨_, rfl⟩
          generalize hW2 : W1.alloc (.cells #[.int .i64 0] 3) = W2 at hbm hSm hNm hr2 hKm hle2 hbm2 ⊢
          rw [← hbm0] at hbm hbm2 hbnm hbkm ⊢
          have hwB2 : w.heap.size ≤ W2.heap.size := hSm.bel.size
          have hDB2 : ∀ D ∈ ds, D < W2.heap.size := fun D hd => heap_lt (hSm.mks D hd)
          have hbsl2 : bw + 1 < W2.heap.size := heap_lt hSm.cl
          have h1' : 1 ≤ n - 1 - 1 := by omega
          have h0 : 0 ≤ bm := Nat.zero_le _
          have HR := Lib.hid hr2
          clear hW2 hbm0 hal1 hn1c hn1f hwc hic hstc hrc hrf hkc hS1 hcell hib
          refine wpIn_rangeFunc_ownN (l₀ := l) (r₀ := r) rfl HR.out h1' (gf := 36) (lb := #[.pointer (some ⟨bw + 1, 0, none⟩)]) rfl trivial (enters_of Try.func36 (by kernel_rfl) rfl)
            ((each_stops (n - 1 - 1 - 1) (by omega) (bw + 1) a HA.out W2 hbsl2 hSm.cl).inRound l) kpB_t (kpB_b hbsl2) (Below.refl _ _) (fun _ => rfl)
            (fun pre' W' => ((EachS w a stop inner (bw + 1 + 1 + 1) bw (bw + 1 + 1) (bw + 1) bk (k : Int) (some ⟨g, 0, none⟩) len c ds W' ∧ Boxed W' bn 3 (.int .i64 (pre.length : Int))) ∧ Boxed W' bm 3 (.int .i64 (pre'.length : Int))) ∧ KeepsFrom W0.heap.size W1 W')
            (fun co pre' _ => EachY a co pre')
            (OwnFrom.and (OwnFrom.and (OwnFrom.and (EachS.own hwB2 hDB2) (Own.from (boxed_own _ _ _) _)) (Own.from (boxed_own _ _ _) _)) (ownFrom_keepsFrom hle2))
            (fun _ _ _ _ _ hs _ _ => hs)
            ⟨⟨⟨hSm, hNm⟩, hbm⟩, hKm⟩
            (fun y a'' _ => a'' = { tmps := #[V4 a, .int .i64 stop, .int .i64 inner, .pointer (some ⟨w.heap.size, 0, none⟩), .pointer (some ⟨w.heap.size + 1, 0, none⟩), .pointer (some ⟨w.heap.size + 1 + 1, 0, none⟩), .pointer (some ⟨w.heap.size + 1 + 1 + 1, 0, none⟩), .pointer (some ⟨bw, 0, none⟩), .pointer (some ⟨bw + 1 + 1, 0, none⟩), .pointer (some ⟨bk, 0, none⟩), .pointer (some ⟨bn, 0, none⟩), .int .u8 ((x.val : Nat) : Int), .pointer (some ⟨bm, 0, none⟩), .int .u8 ((y.val : Nat) : Int), V4 a, .slice (some ⟨g, 0, none⟩) len c, V4 a, .func (.func 36) #[] #[.pointer (some ⟨bw + 1, 0, none⟩)], .func (.func 36) #[] #[.pointer (some ⟨bw + 1, 0, none⟩)], .bool false, .int .i64 (k : Int), .bool true, u22, u23, .func (.func 36) #[] #[.pointer (some ⟨bw + 1, 0, none⟩)], .int .u8 ((x.val : Nat) : Int), .int .i64 (pre.length : Int), .slice (some ⟨g, 0, none⟩) len c, .int .i64 (len : Int), .bool false, .bool false, .int .u8 ((x.val : Nat) : Int), .slice (some ⟨g, 0, none⟩) len c, .int .i64 (pre.length : Int), .pointer (some ⟨g, pre.length, none⟩), .int .u8 ((x.val : Nat) : Int), .bool false, .bool false, .int .i64 (pre.length : Int), .int .i64 inner, .bool true, .func (.func 36) #[] #[.pointer (some ⟨bw + 1, 0, none⟩)], .int .u8 ((y.val : Nat) : Int), u43, u44, u45, u46, u47, u48, u49, u50, u51, u52, u53, u54, u55, u56, u57, u58, u59, u60, u61, u62, u63, u64, u65, u66, u67, u68, u69, u70, u71, u72, u73, u74, u75, u76, u77, u78, u79, u80, u81, u82, u83, u84, u85, u86], defers := [] })
            (fun _ _ _ _ _ _ hs _ _ => hs) ?assign2 ?body2 ?done2 ?stop2
          case assign2 =>
            rintro l2 pre' y W' K hi hK
            gi_wp2
            exact hK _ _ (KeepsFrom.refl _ _) (fun h => h) hi rfl
          case body2 =>
            rintro l2 pre' y a'' W' _ _ ⟨⟨⟨hS2, hN2⟩, hM2⟩, hKF⟩ rfl hlt2
            obtain ⟨y', hy'⟩ : ∃ y', (upto a 256)[pre'.length]? = some y' := ⟨_, List.getElem?_eq_getElem hlt2⟩
            obtain ⟨g', hg', _, hcell2⟩ := hS2.rd _ _ hy'
            cases hg'
            have hm2c := hM2.cell; have hm2f := hM2.frozen; have hwc := hS2.wa.cell; have hrc := hS2.rs.cell; have hrf := hS2.rs.frozen
            have hlt3 : (pre'.length : Int) < (len : Int) := by have := HL.out; omega
            have hcnt := upto_count a 256
            have hp256' : pre'.length < 256 := by omega
            have HS2 := Lib.hid hS2; have HN2 := Lib.hid hN2; have HM2 := Lib.hid hM2; have HY := Lib.hid hy'; have HKF := Lib.hid hKF; clear hS2 hN2 hM2 hy' hcnt hlt2 hKF
            by_cases hyy : y = y'
            · subst hyy
              gi_wp2
              exact ⟨(KeepsOthers.setCell _ _ _).from _, fun _ => (HS2.out.put HST.out (b := bm) (by omega) (by omega) _).cl, ⟨⟨HS2.out.put HST.out (by omega) (by omega) _, HN2.out.other (by omega) _⟩, by have := HM2.out.set (.int .i64 ((pre'.length : Int) + 1)); simpa using this⟩, HKF.out.trans ((KeepsOthers.setCell _ _ _).from _)⟩
            · have hby : (((y.val : Nat) : Int) == ((y'.val : Nat) : Int)) = false := by rw [beq_eq_false_iff_ne]; intro e; exact hyy (Fin.ext (by omega))
              have hby2 : (((y.val : Nat) : Int) != ((y'.val : Nat) : Int)) = true := by rw [bne, hby]; rfl
              have HYY := Lib.hid hyy; clear hyy
              gi_wp2
              exact ⟨(KeepsOthers.setCell _ _ _).from _, rfl, fun hp => HYY.out (Option.some.inj ((pre_at hp).symm.trans HY.out))⟩
          case done2 =>
            rintro xs W3 rfl ⟨⟨⟨hS2, hN2⟩, hM2⟩, hKF⟩
            rw [← HL.out] at hM2
            have hm2c := hM2.cell; have hwc := hS2.wa.cell; have hrc := hS2.rs.cell; have hrf := hS2.rs.frozen; have hn1c := hN2.cell; have hn1f := hN2.frozen; have hstc := hS2.st.cell; have hkc := hS2.kb.cell
            have HS2 := Lib.hid hS2; have HN2 := Lib.hid hN2; have HKF := Lib.hid hKF; clear hS2 hN2 hM2 hKF hSm hNm hbm
            have hput := HS2.out.put HST.out (b := bn) (by omega) (by omega) (.int .i64 ((pre.length : Int) + 1))
            have hset : Boxed (W3.setCell ⟨bn, 0, none⟩ (.int .i64 ((pre.length : Int) + 1))) bn 3 (.int .i64 (((pre ++ [x]).length : Nat) : Int)) := by have := HN2.out.set (.int .i64 ((pre.length : Int) + 1)); simpa using this
            have HP := Lib.hid hput; have HQ := Lib.hid hset; clear hput hset
            by_cases hk0 : k = 0
            · subst hk0
              by_cases hs : (pre.length : Int) = stop
              · have hsb : ((pre.length : Int) == stop) = true := by rw [beq_iff_eq]; exact hs
                have HSS := Lib.hid hs; clear hs
                gi_wp2
                exact ⟨(HKF.out.trans ((KeepsOthers.setCell _ _ _).from _)), .inl ⟨rfl, rfl, by have := HSS.out; simp; omega, HP.out, HQ.out⟩⟩
              · have hsb : ((pre.length : Int) == stop) = false := by rw [beq_eq_false_iff_ne]; exact hs
                have HSS := Lib.hid hs; clear hs
                gi_wp2
                exact ⟨(HKF.out.trans ((KeepsOthers.setCell _ _ _).from _)), fun _ => HP.out.cl, HP.out, HQ.out⟩
            · obtain rfl : k = 1 := by omega
              gi_wp2
              exact ⟨(HKF.out.trans ((KeepsOthers.setCell _ _ _).from _)), fun _ => HP.out.cl, HP.out, HQ.out⟩
          case stop2 =>
            rintro c2 pre' W3 hSp hY
            exact absurd hSp hY.2
        · have hib : ((pre.length : Int) == inner) = false := by rw [beq_eq_false_iff_ne]; exact hin
          have HIN := Lib.hid hin; clear hin hS1
          have hput := HS.out.put HST.out (b := bn) (by omega) (by omega) (.int .i64 ((pre.length : Int) + 1))
          have hset : Boxed (W1.setCell ⟨bn, 0, none⟩ (.int .i64 ((pre.length : Int) + 1))) bn 3 (.int .i64 (((pre ++ [x]).length : Nat) : Int)) := by have := HN.out.set (.int .i64 ((pre.length : Int) + 1)); simpa using this
          have HP := Lib.hid hput; have HQ := Lib.hid hset; clear hput hset
          by_cases hk0 : k = 0
          · subst hk0
            by_cases hs : (pre.length : Int) = stop
            · have hsb : ((pre.length : Int) == stop) = true := by rw [beq_iff_eq]; exact hs
              have HSS := Lib.hid hs; clear hs
              gi_wp2
              exact ⟨(KeepsOthers.setCell _ _ _).from _, .inl ⟨rfl, rfl, by have := HSS.out; simp; omega, HP.out, HQ.out⟩⟩
            · have hsb : ((pre.length : Int) == stop) = false := by rw [beq_eq_false_iff_ne]; exact hs
              have HSS := Lib.hid hs; clear hs
              gi_wp2
              exact ⟨(KeepsOthers.setCell _ _ _).from _, fun _ => HP.out.cl, HP.out, HQ.out⟩
          · obtain rfl : k = 1 := by omega
            gi_wp2
            exact ⟨(KeepsOthers.setCell _ _ _).from _, fun _ => HP.out.cl, HP.out, HQ.out⟩
      · have hbx : (((x.val : Nat) : Int) == ((x'.val : Nat) : Int)) = false := by rw [beq_eq_false_iff_ne]; intro e; exact hxx (Fin.ext (by omega))
        have hbx2 : (((x.val : Nat) : Int) != ((x'.val : Nat) : Int)) = true := by rw [bne, hbx]; rfl
        have HXX := Lib.hid hxx; clear hxx
        gi_wp2
        exact ⟨(KeepsOthers.setCell _ _ _).from _, .inr ⟨rfl, fun hp => HXX.out (Option.some.inj ((pre_at hp).symm.trans HX.out))⟩⟩
    case done =>
      rintro D xs W2 hD rfl ⟨hS, hn1⟩ hK
      rw [← HL.out] at hn1
      have hnc := hn1.cell; have hwc := hS.wa.cell; have hkc := hS.kb.cell; have hkf := hS.kb.frozen; have hstc := hS.st.cell; have hrc := hS.rs.cell; have hrf := hS.rs.frozen
      have HM := Lib.hid (hS.mark hK); clear hS hn1 hK
      gi_wp2
      refine ⟨⟨k + 1, W2.heap.size, D :: ds, _, _, _, _, _, _, _, _, _, _, _, _, _, _, _, _, _, _, _, _, _, _, _, _, _, _, _, _, _, _, _, _, _, _, _, _, _, _, _, _, _, _, _, _, _, _, _, _, _, _, _, _, _, _, _, _, _, _, _, _, _, _, _, _, _, _, _, _, _, _, _, by omega, ?_, ?_, List.nodup_cons.2 ⟨fun hd => ?_, hnd⟩, ?_, (by rw [show (((k + 1 : Nat)) : Int) = (k : Int) + 1 from by omega]; exact HM.out.newk _), rfl⟩, ?_⟩
      · have := heap_lt HM.out.cl; have := HM.out.kb.lt; omega
      · simp
      · have := hDB D hd; omega
      · intro d hd
        rcases List.mem_cons.1 hd with rfl | hd
        · exact Nat.le_trans hwB hD
        · exact hge d hd
      · refine Nat.lt_of_le_of_lt (Nat.le_of_eq (congrArg (fun x => 2 - x) (kOf_eq2 (bk := W2.heap.size) (k := k) rfl (Boxed.new W2 3 _)))) (by omega)
    case stop =>
      rintro D co pre W2 hD hSp hX hK
      rcases hX with ⟨rfl, rfl, hpl, hS, hn1⟩ | ⟨rfl, hno⟩
      · have hcnt := upto_count a 256
        have hpc := hSp.length_le
        have hnc := hn1.cell; have hwc := hS.wa.cell; have hkc := hS.kb.cell; have hkf := hS.kb.frozen; have hstc := hS.st.cell; have hrc := hS.rs.cell; have hrf := hS.rs.frozen
        have HM := Lib.hid (hS.mark hK); clear hS hn1 hK
        have hsw : IntKind.i64.wrap (stop + 1) = (pre.length : Int) := by rw [IntKind.wrap_i64]; omega
        have HPL := Lib.hid hpl; clear hpl
        by_cases hpe : (pre.length : Int) = (len : Int)
        · have hpb : ((pre.length : Int) != (len : Int)) = false := by rw [hpe]; simp
          have HPE := Lib.hid hpe; clear hpe
          gi_wp2
          refine ⟨⟨0 + 1, W2.heap.size, D :: ds, _, _, _, _, _, _, _, _, _, _, _, _, _, _, _, _, _, _, _, _, _, _, _, _, _, _, _, _, _, _, _, _, _, _, _, _, _, _, _, _, _, _, _, _, _, _, _, _, _, _, _, _, _, _, _, _, _, _, _, _, _, _, _, _, _, _, _, _, _, _, _, by omega, ?_, ?_, List.nodup_cons.2 ⟨fun hd => ?_, hnd⟩, ?_, (HM.out.newk _), rfl⟩, ?_⟩
          · have := heap_lt HM.out.cl; have := HM.out.kb.lt; omega
          · simp
          · have := hDB D hd; omega
          · intro d hd
            rcases List.mem_cons.1 hd with rfl | hd
            · exact Nat.le_trans hwB hD
            · exact hge d hd
          · refine Nat.lt_of_le_of_lt (Nat.le_of_eq (congrArg (fun x => 2 - x) (kOf_eq2 (bk := W2.heap.size) (k := 0) rfl (Boxed.new W2 3 _)))) (by omega)
        · have hpb : ((pre.length : Int) != (len : Int)) = true := by simp [bne]; omega
          have HPE := Lib.hid hpe; clear hpe
          gi_wp2
          refine ⟨⟨0 + 1, W2.heap.size, D :: ds, _, _, _, _, _, _, _, _, _, _, _, _, _, _, _, _, _, _, _, _, _, _, _, _, _, _, _, _, _, _, _, _, _, _, _, _, _, _, _, _, _, _, _, _, _, _, _, _, _, _, _, _, _, _, _, _, _, _, _, _, _, _, _, _, _, _, _, _, _, _, _, by omega, ?_, ?_, List.nodup_cons.2 ⟨fun hd => ?_, hnd⟩, ?_, (HM.out.newk _), rfl⟩, ?_⟩
          · have := heap_lt HM.out.cl; have := HM.out.kb.lt; omega
          · simp
          · have := hDB D hd; omega
          · intro d hd
            rcases List.mem_cons.1 hd with rfl | hd
            · exact Nat.le_trans hwB hD
            · exact hge d hd
          · refine Nat.lt_of_le_of_lt (Nat.le_of_eq (congrArg (fun x => 2 - x) (kOf_eq2 (bk := W2.heap.size) (k := 0) rfl (Boxed.new W2 3 _)))) (by omega)
      · exact absurd hSp hno
  · obtain rfl : k = 2 := by omega
    have hrc := hE.rs.cell
    have hrf := hE.rs.frozen
    have HE := Lib.hid hE
    clear hE
    gi_wp2
    refine leaves_marks (w := w) ds _ hnd hge (fun D hd => (KeepsOthers.setCell _ _ _).same D _ (HE.out.mks D hd) rfl) (HE.out.bel.setCell (by dsimp only; omega) _) (heap_put HE.out.rs) ?_
    intro W' hW'
    have hc' : W'.cell? ⟨w.heap.size + 1 + 1 + 1, 0, none⟩ = some (.bool true) := (show Boxed W' (w.heap.size + 1 + 1 + 1) 4 (.bool true) from hW').cell
    simp [results, Try.results4, go_sem, hc']
theorem classEach_w (a : Cls) (stop inner : Int) (w : World) (ha : a.ok) (hs : (Lit.int .i64 stop).wf = true) (hi : (Lit.int .i64 inner).wf = true) :
    Calls Try.prog 4 #[V4 a, .int .i64 stop, .int .i64 inner] w fun e w' => e = .returned (.bool true) ∧ Below w.heap.size w w' := by
  have h : IntKind.i64.min ≤ stop ∧ stop ≤ IntKind.i64.max := by simpa [Lit.wf] using hs
  have h0 : IntKind.i64.min = -9223372036854775808 := rfl
  have h1 : IntKind.i64.max = 9223372036854775807 := rfl
  rw [h0, h1] at h
  exact callsIn_wide.1 (classEach_in 8 (Nat.le_refl _) a ha stop inner h w)
end Go.Proofs.Ytachpdeejificaa
