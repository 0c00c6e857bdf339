import Derived.Deep.Draws
import Derived.Laws.Rows
import Derived.Laws.StructEq
import Derived.Laws.Tables
import Derived.Lib.Hide
import Derived.WalkKit
set_option linter.unusedVariables false
set_option linter.unusedSimpArgs false
namespace Go.Proofs.Ytflkgoggnomehaa
open Go.RowKit
section
variable {P : Program} (w : World)
theorem run_part (e : TypeId) (i : TypeInfo) (hi : P.info? e = some i) (hz : i.size = 1) (ha : ∀ w, (isAgg e).run P w = .ok false w) (xs : Array Value) (k : Nat) (v : Value) (hv : xs[k]? = some v) :
    (part e xs k).run P w = .ok v w := by
  simp [part, sizeOf, typeInfo, hi, hz, ha, hv]
theorem run_equalIn_arr4 (d : Nat) (t e : TypeId) (hz : (P.info? e).map (·.size) = some 1) (x0 x1 x2 x3 y0 y1 y2 y3 : Int) (ht : P.underlying t = some (.array 4 e)) (he : P.underlying e = some (.int .u64)) (ha : ∀ w, (isAgg e).run P w = .ok false w) :
    (Op.equalIn (d + 2) t (.agg #[.int .u64 x0, .int .u64 x1, .int .u64 x2, .int .u64 x3]) (.agg #[.int .u64 y0, .int .u64 y1, .int .u64 y2, .int .u64 y3])).run P w =
      .ok (x0 == y0 && (x1 == y1 && (x2 == y2 && x3 == y3))) w := by
  obtain ⟨i, hi, hz⟩ := Option.map_eq_some_iff.1 hz
  have hp : ∀ (xs : Array Value) (k : Nat) (v : Value), xs[k]? = some v → (part e xs k).run P w = .ok v w := fun xs k v hv => run_part w e i hi hz ha xs k v hv
  have hq : ∀ (a b : Int), (Op.equalIn (d + 1) e (.int .u64 a) (.int .u64 b)).run P w = .ok (a == b) w := fun a b => run_equalIn_int w d e .u64 .u64 a b he
  unfold Op.equalIn
  simp [run_underlying ht, sizeOf, typeInfo, hi, hz, Std.Legacy.Range.forIn_eq_forIn_range']
  have hr : List.range' 0 4 = [0, 1, 2, 3] := rfl
  rw [hr]
  have px0 : (part e #[Value.int .u64 x0, .int .u64 x1, .int .u64 x2, .int .u64 x3] 0).run P w = .ok (.int .u64 x0) w := hp _ 0 _ rfl
  have py0 : (part e #[Value.int .u64 y0, .int .u64 y1, .int .u64 y2, .int .u64 y3] 0).run P w = .ok (.int .u64 y0) w := hp _ 0 _ rfl
  have px1 : (part e #[Value.int .u64 x0, .int .u64 x1, .int .u64 x2, .int .u64 x3] 1).run P w = .ok (.int .u64 x1) w := hp _ 1 _ rfl
  have py1 : (part e #[Value.int .u64 y0, .int .u64 y1, .int .u64 y2, .int .u64 y3] 1).run P w = .ok (.int .u64 y1) w := hp _ 1 _ rfl
  have px2 : (part e #[Value.int .u64 x0, .int .u64 x1, .int .u64 x2, .int .u64 x3] 2).run P w = .ok (.int .u64 x2) w := hp _ 2 _ rfl
  have py2 : (part e #[Value.int .u64 y0, .int .u64 y1, .int .u64 y2, .int .u64 y3] 2).run P w = .ok (.int .u64 y2) w := hp _ 2 _ rfl
  have px3 : (part e #[Value.int .u64 x0, .int .u64 x1, .int .u64 x2, .int .u64 x3] 3).run P w = .ok (.int .u64 x3) w := hp _ 3 _ rfl
  have py3 : (part e #[Value.int .u64 y0, .int .u64 y1, .int .u64 y2, .int .u64 y3] 3).run P w = .ok (.int .u64 y3) w := hp _ 3 _ rfl
  simp only [List.forIn_cons, List.forIn_nil, Sem.run_bind, px0, py0, px1, py1, px2, py2, px3, py3, Result.andThen_ok, hq, Sem.run_ite, Sem.run_pure]
  cases h0 : (x0 == y0) <;> cases h1 : (x1 == y1) <;> cases h2 : (x2 == y2) <;> cases h3 : (x3 == y3) <;> simp [px1, py1, px2, py2, px3, py3, hq, h1, h2, h3]
end
theorem bcell {W w1 : World} (hb : Below W.heap.size W w1) : (∀ b o, b < W.heap.size → w1.cell? ⟨b, o, none⟩ = W.cell? ⟨b, o, none⟩) ∧ (∀ b o, b < W.heap.size → w1.frozen? ⟨b, o, none⟩ = W.frozen? ⟨b, o, none⟩) :=
  ⟨fun b o h => hb.cell (p := ⟨b, o, none⟩) h, fun b o h => hb.frozen (p := ⟨b, o, none⟩) h⟩
/-- Two steps, the second one seen from the first one's world. -/
theorem below_then {w w1 w2 : World} (h : Below w.heap.size w w1) (k : Below w1.heap.size w1 w2) : Below w.heap.size w w2 :=
  h.trans (k.mono h.size)
theorem below_drew {B : Nat} {w W : World} (h : Below B w W) : Below B w W.drew := h.drew
theorem heap_keep {w : World} {o : Obj} {i : Nat} {x : Obj} (h : w.heap[i]? = some x) : (w.alloc o).heap[i]? = some x := by
  rw [Below.heap_alloc _ _ _ (Array.getElem?_eq_some_iff.1 h).1]; exact h
theorem heap_new (w : World) (o : Obj) : (w.alloc o).heap[w.heap.size]? = some o := heap_alloc_new w o
theorem heap_new1 (w : World) (a b : Obj) : ((w.alloc a).alloc b).heap[w.heap.size + 1]? = some b := by
  have h := heap_alloc_new (w.alloc a) b
  rwa [World.size_alloc] at h
theorem heap_new2 (w : World) (a b c : Obj) : (((w.alloc a).alloc b).alloc c).heap[w.heap.size + 1 + 1]? = some c := by
  have h := heap_alloc_new ((w.alloc a).alloc b) c
  rwa [World.size_alloc, World.size_alloc] at h
theorem below_setRow {B : Nat} {a w : World} (h : Below B a w) {g : Nat} (hg : B ≤ g) (cs : Array Value) : Below B a (w.setRow g cs) :=
  h.trans ⟨rfl, rfl, rfl, by simp [World.setRow], fun k hk => setRow_other w g k cs (by omega)⟩
/-- A block that lay below stays. -/
theorem heap_below {B : Nat} {w w1 : World} (hb : Below B w w1) {i : Nat} (hi : i < B) {x : Obj} (h : w.heap[i]? = some x) : w1.heap[i]? = some x := (hb.block i hi).trans h
theorem heap_lt {w : World} {i : Nat} {x : Obj} (h : w.heap[i]? = some x) : i < w.heap.size := (Array.getElem?_eq_some_iff.1 h).1
theorem heap_same {w w1 : World} (hb : Below w.heap.size w w1) {i : Nat} {x : Obj} (h : w.heap[i]? = some x) : w1.heap[i]? = some x := heap_below hb (heap_lt h) h
theorem heap_put {w : World} {g i : Nat} {cs : Array Value} {t : TypeId} {v : Value} (h : w.heap[g]? = some (.cells cs t (0, 0))) : (w.setCell ⟨g, i, none⟩ v).heap[g]? = some (.cells (cs.setIfInBounds i v) t (0, 0)) := heap_setCell_same w g i cs t v h
theorem heap_other {w : World} {a : Addr} {k : Nat} {v : Value} {x : Obj} (h : k ≠ a.block) (hk : w.heap[k]? = some x) : (w.setCell a v).heap[k]? = some x := by exact (Below.heap_setCell _ _ _ _ h).trans hk
theorem heap_row_other {w : World} {g k : Nat} {cs : Array Value} {x : Obj} (h : k ≠ g) (hk : w.heap[k]? = some x) : (w.setRow g cs).heap[k]? = some x := by rw [setRow_other _ _ _ _ h]; exact hk
theorem heap_drew' {w : World} {k : Nat} {x : Obj} (hk : w.heap[k]? = some x) : w.drew.heap[k]? = some x := hk
end Go.Proofs.Ytflkgoggnomehaa
