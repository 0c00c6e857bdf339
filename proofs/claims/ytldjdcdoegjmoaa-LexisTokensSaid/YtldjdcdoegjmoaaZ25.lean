import Derived.Test.YtldjdcdoegjmoaaZ23
import Derived.Test.YtldjdcdoegjmoaaZ24
set_option linter.unusedVariables false
set_option linter.unusedSimpArgs false
namespace Go.Proofs.Ytldjdcdoegjmoaa
open Go.RowKit Go.Shelf
attribute [local go_sem] Oper.semAt_some
@[local go_sem] theorem run_store_func (P : Program) (w : World) (p : Addr) (m : Mode) (f : Fn) (c l : Array Value) : (store p (.func f c l) m).run P w = stored P w p (.func f c l) m := run_store P w p _ m rfl
@[local go_sem] theorem eql_func_nil (f : Fn) (c l : Array Value) (w : World) : (binOp .eql 42 (.func f c l) .nilFunc).run Try.prog w = .ok (.bool false) w := by kernel_rfl
theorem cell_other {W : World} {g i b j : Nat} {v u : Value} (h : W.cell? ⟨g, i, none⟩ = some v) (hne : g ≠ b) : (W.setCell ⟨b, j, none⟩ u).cell? ⟨g, i, none⟩ = some v := (World.cell?_of_block (a := ⟨g, i, none⟩) (Below.heap_setCell _ _ _ g hne)).trans h
theorem cell_same {W W' : World} (hb : Below W.heap.size W W') {p : Addr} {v : Value} (h : W.cell? p = some v) : W'.cell? p = some v := (World.cell?_of_block (hb.block _ (World.block_lt_of_cell? W p h))).trans h
structure WkS (w : World) (s : ByteArray) (stop inner depth : Int) (b N : Nat) (A : Option Addr) (c : Nat) (W : World) : Prop where
 bel : Below w.heap.size w W
 tx : Boxed W w.heap.size 9 (.string s)
 st : Boxed W (w.heap.size + 1) 3 (.int .i64 stop)
 inn : Boxed W (w.heap.size + 1 + 1) 3 (.int .i64 inner)
 dp : Boxed W (w.heap.size + 1 + 1 + 1) 3 (.int .i64 depth)
 rs : Boxed W (w.heap.size + 1 + 1 + 1 + 1) 4 (.bool false)
 li : Boxed W b 45 (.slice A (goods s).length c)
 fl : W.heap[b + 1]? = some (.cells #[.int .i64 (flt1 s), .int .i64 (flt2 s)] 35 (0, 0))
 al : Boxed W (b + 1 + 1 + 1) 3 (.int .i64 (N : Int))
 ct : Boxed W (b + 1 + 1 + 1 + 1) 9 (.string s)
 rd : ∀ (i : Nat) (t : TV), (goods s)[i]? = some t → ∃ g, A = some ⟨g, 0, none⟩ ∧ g < b ∧ ∀ j v, (tvals t)[j]? = some v → W.cell? ⟨g, i * 11 + j, none⟩ = some v
section
variable {w W : World} {s : ByteArray} {stop inner depth : Int} {b N : Nat} {A : Option Addr} {c : Nat}
theorem WkS.own {β : Type} {B : Nat} (hB : w.heap.size ≤ B) : OwnFrom B (fun (_ : β) W => WkS w s stop inner depth b N A c W) := by
 intro q X Y row h hg hr
 have hr' := fun r e => (hr r e).2
 have bx : ∀ {b : Nat} {t : TypeId} {v : Value}, Boxed X b t v → Boxed Y b t v := fun {b t v} hb => boxed_own b t (fun (_ : Unit) => v) () X Y row hb hg hr'
 exact ⟨ownFrom_below (β := Unit) (Nat.le_refl _) hB () X Y row h.bel hg hr, bx h.tx, bx h.st, bx h.inn, bx h.dp, bx h.rs, bx h.li, block_own2 (β := Unit) (b + 1) _ _ () X Y row h.fl hg hr', bx h.al, bx h.ct,
  fun i t hi => by obtain ⟨g, e, hg0, hc⟩ := h.rd i t hi; exact ⟨g, e, hg0, fun j v hj => cell_kept (hc j v hj) hg hr'⟩⟩
theorem WkS.below (h : WkS w s stop inner depth b N A c W) {W' : World} (hb : Below W.heap.size W W') : WkS w s stop inner depth b N A c W' :=
 ⟨h.bel.trans (hb.mono h.bel.size), heap_same hb h.tx, heap_same hb h.st, heap_same hb h.inn, heap_same hb h.dp, heap_same hb h.rs, heap_same hb h.li, heap_same hb h.fl, heap_same hb h.al, heap_same hb h.ct,
  fun i t hi => by obtain ⟨g, e, hg0, hc⟩ := h.rd i t hi; exact ⟨g, e, hg0, fun j v hj => cell_same hb (hc j v hj)⟩⟩
theorem WkS.put (h : WkS w s stop inner depth b N A c W) (hb : w.heap.size + 1 + 1 + 1 + 1 < b) (v : Value) : WkS w s stop inner depth b N A c (W.setCell ⟨b + 1 + 1, 0, none⟩ v) :=
 ⟨h.bel.setCell (by dsimp only; omega) _, h.tx.other (by omega) _, h.st.other (by omega) _, h.inn.other (by omega) _, h.dp.other (by omega) _, h.rs.other (by omega) _, h.li.other (by omega) _, heap_other (by dsimp only; omega) h.fl, h.al.other (by omega) _, h.ct.other (by omega) _,
  fun i t hi => by obtain ⟨g, e, hg0, hc⟩ := h.rd i t hi; exact ⟨g, e, hg0, fun j v hj => cell_other (hc j v hj) (by omega)⟩⟩
end
def neqTok (x y : TV) : Bool := !(x.1 == y.1 && (x.2.1 == y.2.1 && (x.2.2.1 == y.2.2.1 && (x.2.2.2.1.toList == y.2.2.2.1.toList && (x.2.2.2.2.1 == y.2.2.2.2.1 && ((x.2.2.2.2.2.1 == y.2.2.2.2.2.1 && (x.2.2.2.2.2.2.1 == y.2.2.2.2.2.2.1 && (x.2.2.2.2.2.2.2.1 == y.2.2.2.2.2.2.2.1 && (x.2.2.2.2.2.2.2.2.1 == y.2.2.2.2.2.2.2.2.1)))) && (x.2.2.2.2.2.2.2.2.2.1 == y.2.2.2.2.2.2.2.2.2.1 && (x.2.2.2.2.2.2.2.2.2.2.1 == y.2.2.2.2.2.2.2.2.2.2.1))))))))
def neqFlt (a b c d : Int) : Bool := !(a == c && b == d)
def difFlt (a b c d : Int) : Bool := !(if a = c then b == d else false)
theorem same_c (f1 f2 g1 g2 : Int) (w : World) : Calls Try.prog 12 #[.agg #[.int .i64 f1, .int .i64 f2], .agg #[.int .i64 g1, .int .i64 g2]] w fun e w' => e = .returned (.bool (!difFlt f1 f2 g1 g2)) ∧ Below w.heap.size w w' := by
 refine P.dowellaw04_same.calls f1 f2 g1 g2 _ w ?_
 unfold P.dowellaw04_same.f difFlt
 split <;> simp
section
attribute [local go_sem high] P.eqA28
theorem neq28_run (w : World) (x0 y0 x1 y1 x2 y2 : Int) (x3 y3 : ByteArray) (x4 y4 : Bool) (x5 y5 x6 y6 x7 y7 x8 y8 x9 y9 x10 y10 : Int) :
 (binOp .neq 28 (.agg #[.int .i64 x0, .int .i64 x1, .int .i64 x2, .string x3, .bool x4, .int .u64 x5, .int .u64 x6, .int .u64 x7, .int .u64 x8, .int .i64 x9, .int .i64 x10]) (.agg #[.int .i64 y0, .int .i64 y1, .int .i64 y2, .string y3, .bool y4, .int .u64 y5, .int .u64 y6, .int .u64 y7, .int .u64 y8, .int .i64 y9, .int .i64 y10])).run Try.prog w = .ok (.bool (neqTok (x0, x1, x2, x3, x4, x5, x6, x7, x8, x9, x10, 0, 0) (y0, y1, y2, y3, y4, y5, y6, y7, y8, y9, y10, 0, 0))) w := by
 go_simp
 first | rfl | (unfold neqTok; rfl) | (unfold neqTok; simp; done)
end
theorem neq31_run (w : World) (x0 y0 x1 y1 : Int) : (binOp .neq 31 (.agg #[.int .i64 x0, .int .i64 x1]) (.agg #[.int .i64 y0, .int .i64 y1])).run Try.prog w = .ok (.bool (neqFlt x0 x1 y0 y1)) w := by
 go_simp
 unfold neqFlt
 by_cases h0 : x0 = y0 <;> by_cases h1 : x1 = y1 <;> simp [h0, h1]
attribute [local go_sem high] neq28_run neq31_run
end Go.Proofs.Ytldjdcdoegjmoaa
