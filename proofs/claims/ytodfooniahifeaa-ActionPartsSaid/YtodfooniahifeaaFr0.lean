/- Rows that share no memory, written over and grown: what of the world stays. -/
import Derived.WalkKit
import Derived.Below
import Derived.Deep.AppendLies
import Derived.Laws.AppendOwn
import Derived.Laws.OwnMore
import Derived.Lib.Hide
import Derived.Deep.Draws
import Derived.OwnWalk
set_option linter.unusedVariables false
set_option linter.unusedSimpArgs false
namespace Go.Proofs.Ytodfooniahifeaa.Fr
open Go.RowKit
variable {W W' w : World} {base : Nat} {e : TypeId} {size : Nat} {v x : Value} {n m : Nat} {xs ys : List Value}
/-- A slice's cells as they are told: nil, or the head of a block. -/
def Told (W : World) (base : Nat) (e : TypeId) (size : Nat) (v : Value) (n : Nat) (xs : List Value) : Prop :=
  xs.length = n * size ∧ ((v = .slice none 0 0 ∧ n = 0) ∨ ∃ g cap cur, v = .slice (some ⟨g, 0, none⟩) n cap ∧ n ≤ cap ∧ base ≤ g ∧ W.heap[g]? = some (.cells cur e (0, 0)) ∧ cur.toList.take (n * size) = xs)
theorem told_own (h : W.ownsRow base e size v n xs) : Told W base e size v n xs := by
  refine ⟨h.1, ?_⟩
  rcases h.2 with q | ⟨g, cap, cur, hv, hb, hg, hn, _, _, ht⟩
  · exact .inl q
  · exact .inr ⟨g, cap, cur, hv, hn, hb, hg, ht⟩
theorem Told.move (h : Told W base e size v n xs) (hm : ∀ g, v.ownBlock = some g → W'.heap[g]? = W.heap[g]?) : Told W' base e size v n xs := by
  refine ⟨h.1, ?_⟩
  rcases h.2 with q | ⟨g, cap, cur, hv, hn, hb, hg, ht⟩
  · exact .inl q
  · exact .inr ⟨g, cap, cur, hv, hn, hb, (hm g (by rw [hv]; rfl)).trans hg, ht⟩
theorem own_move (h : W.ownsRow base e size v n xs) (hm : ∀ g, v.ownBlock = some g → W'.heap[g]? = W.heap[g]?) : W'.ownsRow base e size v n xs := by
  refine ⟨h.1, ?_⟩
  rcases h.2 with q | ⟨g, cap, cur, hv, hb, hg, r⟩
  · exact .inl q
  · exact .inr ⟨g, cap, cur, hv, hb, (hm g (by rw [hv]; rfl)).trans hg, r⟩
theorem Told.lt (h : Told W base e size v n xs) {g : Nat} (hg : v.ownBlock = some g) : base ≤ g ∧ g < W.heap.size ∧ ∃ cur, W.heap[g]? = some (.cells cur e (0, 0)) := by
  rcases h.2 with ⟨rfl, _⟩ | ⟨g', cap, cur, rfl, _, hb, hh, _⟩
  · simp [Value.ownBlock] at hg
  · obtain rfl : g' = g := by simpa [Value.ownBlock] using hg
    refine ⟨hb, ?_, cur, hh⟩
    rcases Nat.lt_or_ge g' W.heap.size with q | q
    · exact q
    · simp [Array.getElem?_eq_none q] at hh
theorem Told.form (h : Told W base e size v n xs) : ∃ A c, v = .slice A n c := by
  rcases h.2 with ⟨rfl, rfl⟩ | ⟨g, cap, cur, rfl, _⟩
  · exact ⟨_, _, rfl⟩
  · exact ⟨_, _, rfl⟩
theorem Told.cons (h : Told W base e size v n xs) (hn : 0 < n) : ∃ g c, v = .slice (some ⟨g, 0, none⟩) n c ∧ n ≤ c := by
  rcases h.2 with ⟨_, rfl⟩ | ⟨g, cap, cur, rfl, hc, _⟩
  · omega
  · exact ⟨g, cap, rfl, hc⟩
theorem Told.cell {g c : Nat} (h : Told W base e size (.slice (some ⟨g, 0, none⟩) n c) n xs) (j : Nat) (hj : j < n * size) : W.cell? ⟨g, j, none⟩ = xs[j]? := by
  rcases h.2 with ⟨h', _⟩ | ⟨g', cap', cur, h', _, _, hg, htake⟩
  · simp at h'
  · simp only [Value.slice.injEq, Option.some.injEq, Addr.mk.injEq, and_true, true_and] at h'
    obtain ⟨rfl, rfl⟩ := h'
    rw [cell_of_row W g j cur e (0, 0) hg, ← htake, List.getElem?_take, if_pos hj]
    simp
/-- What is appended onto a row leaves its beginning as it was. -/
theorem told_prefix {b' : Nat} {W0 : World} (hv : Told W0 base e size v n xs) (hx : W.ownsRow b' e size x m (xs ++ ys)) (hb : v.ownBlock = x.ownBlock) : Told W base e size v n xs := by
  refine ⟨hv.1, ?_⟩
  rcases hv.2 with q | ⟨g, cap, cur, rfl, hn, hbg, hg, ht⟩
  · exact .inl q
  · rcases hx.2 with ⟨rfl, _⟩ | ⟨g', cap', cur', rfl, _, hg', _, _, _, ht'⟩
    · simp [Value.ownBlock] at hb
    · obtain rfl : g = g' := by simpa [Value.ownBlock] using hb
      refine .inr ⟨g, cap, cur', rfl, hn, hbg, hg', ?_⟩
      have e2 : cur'.toList.take (n * size) = (cur'.toList.take (m * size)).take (n * size) := by
        rw [List.take_take, Nat.min_eq_left]
        have h1 := hv.1
        have h2 := hx.1
        rw [List.length_append] at h2
        omega
      rw [e2, ht', ← hv.1, List.take_left]
/-- Some elements, one behind the other. -/
def reps (n : Nat) (c : List Value) : List Value := (List.replicate n c).flatten
theorem reps_len (n : Nat) (c : List Value) : (reps n c).length = n * c.length := by unfold reps; simp
theorem reps_succ (n : Nat) (c : List Value) : reps (n + 1) c = reps n c ++ c := by unfold reps; rw [List.replicate_succ', List.flatten_append]; simp
theorem reps_at {n : Nat} {c : List Value} {k t : Nat} (hk : k < n) (ht : t < c.length) : (reps n c)[k * c.length + t]? = c[t]? := by
  induction n with
  | zero => omega
  | succ n ih =>
    rw [reps_succ]
    by_cases h : k < n
    · have hlt : k * c.length + t < n * c.length := by
        have : (k + 1) * c.length ≤ n * c.length := Nat.mul_le_mul_right _ h
        rw [Nat.add_mul] at this; omega
      rw [List.getElem?_append_left (by rw [reps_len]; exact hlt), ih h]
    · obtain rfl : k = n := by omega
      rw [List.getElem?_append_right (by rw [reps_len]; omega), reps_len]
      congr 1; omega
/-- All but some blocks stay. -/
structure Oth (S : Nat → Prop) (w W : World) : Prop where
  os : W.os = w.os
  tape : W.tape = w.tape
  output : W.output = w.output
  size : w.heap.size ≤ W.heap.size
  block : ∀ b, b < w.heap.size → ¬ S b → W.heap[b]? = w.heap[b]?
theorem Oth.refl (S : Nat → Prop) (w : World) : Oth S w w := ⟨rfl, rfl, rfl, Nat.le_refl _, fun _ _ _ => rfl⟩
theorem Oth.trans {S : Nat → Prop} {a b c : World} (h : Oth S a b) (k : Oth S b c) : Oth S a c :=
  ⟨k.os.trans h.os, k.tape.trans h.tape, k.output.trans h.output, Nat.le_trans h.size k.size, fun i hi hs => (k.block i (Nat.lt_of_lt_of_le hi h.size) hs).trans (h.block i hi hs)⟩
theorem Oth.alloc {S : Nat → Prop} {a b : World} (h : Oth S a b) (o : Obj) : Oth S a (b.alloc o) :=
  ⟨h.os, h.tape, h.output, Nat.le_trans h.size (by simp), fun i hi hs => ((World.grownBy_alloc b o none).block i (Nat.lt_of_lt_of_le hi h.size) (by simp)).trans (h.block i hi hs)⟩
theorem Oth.drew {S : Nat → Prop} {a b : World} (h : Oth S a b) : Oth S a b.drew := ⟨h.os, h.tape, h.output, h.size, h.block⟩
theorem Oth.drewN {S : Nat → Prop} {a b : World} (h : Oth S a b) (n : Nat) : Oth S a (b.drewN n) := ⟨h.os, h.tape, h.output, h.size, h.block⟩
theorem Oth.set {S : Nat → Prop} {a b : World} (h : Oth S a b) {p : Addr} (hp : S p.block ∨ a.heap.size ≤ p.block) (u : Value) : Oth S a (b.setCell p u) :=
  ⟨h.os, h.tape, h.output, by have := h.size; simpa using this, fun i hi hs => (heap_setCell_other b p i u (fun e => by rcases hp with q | q; exact hs (by rw [e]; exact q); omega)).trans (h.block i hi hs)⟩
theorem Oth.grown {S : Nat → Prop} {a b c : World} (h : Oth S a b) {row : Option Nat} (hg : b.grownBy c row) (hr : ∀ k, row = some k → S k ∨ a.heap.size ≤ k) : Oth S a c :=
  ⟨hg.os.trans h.os, hg.tape.trans h.tape, hg.output.trans h.output, Nat.le_trans h.size hg.size, fun i hi hs => (hg.block i (Nat.lt_of_lt_of_le hi h.size) (fun e => by rcases hr i e.symm with q | q; exact hs q; omega)).trans (h.block i hi hs)⟩
theorem Oth.below {S : Nat → Prop} {a b c : World} (h : Oth S a b) (hb : Below b.heap.size b c) : Oth S a c :=
  ⟨hb.os.trans h.os, hb.tape.trans h.tape, hb.output.trans h.output, Nat.le_trans h.size hb.size, fun i hi hs => (hb.block i (Nat.lt_of_lt_of_le hi h.size)).trans (h.block i hi hs)⟩
theorem Oth.to {S : Nat → Prop} {a b : World} {B : Nat} (h : Oth S a b) (hS : ∀ k, S k → B ≤ k) (hB : B ≤ a.heap.size) : Below B a b :=
  ⟨h.os, h.tape, h.output, h.size, fun i hi => h.block i (Nat.lt_of_lt_of_le hi hB) (fun hs => by have := hS i hs; omega)⟩
theorem Oth.mono {S T : Nat → Prop} {a b : World} (h : Oth S a b) (hS : ∀ k, S k → T k) : Oth T a b := ⟨h.os, h.tape, h.output, h.size, fun i hi hs => h.block i hi (fun q => hs (hS i q))⟩
end Go.Proofs.Ytodfooniahifeaa.Fr
