/- Laws of the walk that hold over any program: arrays of four words compared; small steps on worlds. -/
import Derived.Laws.StructEq
import Derived.WalkKit
set_option linter.unusedVariables false
set_option linter.unusedSimpArgs false
namespace Go.Proofs.Ytachpdeejificaa
open Go.RowKit
section
variable {P : Program} (w : World)
theorem run_part (e : TypeId) (i : TypeInfo) (hi : P.info? e = some i) (hz : i.size = 1) (ha : ∀ w, (isAgg e).run P w = .ok false w) (xs : Array Value) (k : Nat) (v : Value) (hv : xs[k]? = some v) :
    (part e xs k).run P w = .ok v w := by
  simp [part, sizeOf, typeInfo, hi, hz, ha, hv]
theorem run_equalIn_arr4 (d : Nat) (t e : TypeId) (hz : (P.info? e).map (·.size) = some 1) (x0 x1 x2 x3 y0 y1 y2 y3 : Int) (ht : P.underlying t = some (.array 4 e)) (he : P.underlying e = some (.int .u64)) (ha : ∀ w, (isAgg e).run P w = .ok false w) :
    (Op.equalIn (d + 2) t (.agg #[.int .u64 x0, .int .u64 x1, .int .u64 x2, .int .u64 x3]) (.agg #[.int .u64 y0, .int .u64 y1, .int .u64 y2, .int .u64 y3])).run P w =
      .ok (x0 == y0 && (x1 == y1 && (x2 == y2 && x3 == y3))) w := by
  obtain ⟨i, hi, hz⟩ := Option.map_eq_some_iff.1 hz
  have hp : ∀ (xs : Array Value) (k : Nat) (v : Value), xs[k]? = some v → (part e xs k).run P w = .ok v w := fun xs k v hv => run_part w e i hi hz ha xs k v hv
  have hq : ∀ (a b : Int), (Op.equalIn (d + 1) e (.int .u64 a) (.int .u64 b)).run P w = .ok (a == b) w := fun a b => run_equalIn_int w d e .u64 .u64 a b he
  unfold Op.equalIn
  simp [run_underlying ht, sizeOf, typeInfo, hi, hz, Std.Legacy.Range.forIn_eq_forIn_range']
  have hr : List.range' 0 4 = [0, 1, 2, 3] := rfl
  rw [hr]
  have px0 : (part e #[Value.int .u64 x0, .int .u64 x1, .int .u64 x2, .int .u64 x3] 0).run P w = .ok (.int .u64 x0) w := hp _ 0 _ rfl
  have py0 : (part e #[Value.int .u64 y0, .int .u64 y1, .int .u64 y2, .int .u64 y3] 0).run P w = .ok (.int .u64 y0) w := hp _ 0 _ rfl
  have px1 : (part e #[Value.int .u64 x0, .int .u64 x1, .int .u64 x2, .int .u64 x3] 1).run P w = .ok (.int .u64 x1) w := hp _ 1 _ rfl
  have py1 : (part e #[Value.int .u64 y0, .int .u64 y1, .int .u64 y2, .int .u64 y3] 1).run P w = .ok (.int .u64 y1) w := hp _ 1 _ rfl
  have px2 : (part e #[Value.int .u64 x0, .int .u64 x1, .int .u64 x2, .int .u64 x3] 2).run P w = .ok (.int .u64 x2) w := hp _ 2 _ rfl
  have py2 : (part e #[Value.int .u64 y0, .int .u64 y1, .int .u64 y2, .int .u64 y3] 2).run P w = .ok (.int .u64 y2) w := hp _ 2 _ rfl
  have px3 : (part e #[Value.int .u64 x0, .int .u64 x1, .int .u64 x2, .int .u64 x3] 3).run P w = .ok (.int .u64 x3) w := hp _ 3 _ rfl
  have py3 : (part e #[Value.int .u64 y0, .int .u64 y1, .int .u64 y2, .int .u64 y3] 3).run P w = .ok (.int .u64 y3) w := hp _ 3 _ rfl
  simp only [List.forIn_cons, List.forIn_nil, Sem.run_bind, px0, py0, px1, py1, px2, py2, px3, py3, Result.andThen_ok, hq, Sem.run_ite, Sem.run_pure]
  cases h0 : (x0 == y0) <;> cases h1 : (x1 == y1) <;> cases h2 : (x2 == y2) <;> cases h3 : (x3 == y3) <;> simp [px1, py1, px2, py2, px3, py3, hq, h1, h2, h3]
end

theorem bcell {W w1 : World} (hb : Below W.heap.size W w1) : (∀ b o, b < W.heap.size → w1.cell? ⟨b, o, none⟩ = W.cell? ⟨b, o, none⟩) ∧ (∀ b o, b < W.heap.size → w1.frozen? ⟨b, o, none⟩ = W.frozen? ⟨b, o, none⟩) :=
  ⟨fun b o h => hb.cell (p := ⟨b, o, none⟩) h, fun b o h => hb.frozen (p := ⟨b, o, none⟩) h⟩
/-- Two steps, the second one seen from the first one's world. -/
theorem below_then {w w1 w2 : World} (h : Below w.heap.size w w1) (k : Below w1.heap.size w1 w2) : Below w.heap.size w w2 :=
  h.trans (k.mono h.size)
theorem below_drew {B : Nat} {w W : World} (h : Below B w W) : Below B w W.drew := h.drew
end Go.Proofs.Ytachpdeejificaa
