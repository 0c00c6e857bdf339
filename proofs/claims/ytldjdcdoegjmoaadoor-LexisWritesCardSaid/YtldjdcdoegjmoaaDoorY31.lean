import Derived.Below
import Derived.Deep.AppendLies
import Derived.Deep.Draws
import Derived.Laws.AppendOwn
import Derived.Laws.CopyOwn
import Derived.Laws.CopyRow
import Derived.Laws.OwnMore
import Derived.Lib.Hide
import Derived.OwnWalk
import Derived.WalkKit
import Derived.Test.YtldjdcdoegjmoaaDoorY27
import Derived.Test.YtldjdcdoegjmoaaDoorY30
set_option linter.unusedVariables false
set_option linter.unusedSimpArgs false
namespace Go.Proofs.YtldjdcdoegjmoaaDoor.Fr
open Go.RowKit
variable {W W' w : World} {base : Nat} {e : TypeId} {size : Nat} {v x : Value} {n m : Nat} {xs ys : List Value}
/-- A slice's cells as they are told: nil, or the head of a block. -/
def Told (W : World) (base : Nat) (e : TypeId) (size : Nat) (v : Value) (n : Nat) (xs : List Value) : Prop :=
  xs.length = n * size ∧ ((v = .slice none 0 0 ∧ n = 0) ∨ ∃ g cap cur, v = .slice (some ⟨g, 0, none⟩) n cap ∧ n ≤ cap ∧ base ≤ g ∧ W.heap[g]? = some (.cells cur e (0, 0)) ∧ cur.toList.take (n * size) = xs)
theorem told_own (h : W.ownsRow base e size v n xs) : Told W base e size v n xs := by
  refine ⟨h.1, ?_⟩
  rcases h.2 with q | ⟨g, cap, cur, hv, hb, hg, hn, _, _, ht⟩
  · exact .inl q
  · exact .inr ⟨g, cap, cur, hv, hn, hb, hg, ht⟩
theorem Told.move (h : Told W base e size v n xs) (hm : ∀ g, v.ownBlock = some g → W'.heap[g]? = W.heap[g]?) : Told W' base e size v n xs := by
  refine ⟨h.1, ?_⟩
  rcases h.2 with q | ⟨g, cap, cur, hv, hn, hb, hg, ht⟩
  · exact .inl q
  · exact .inr ⟨g, cap, cur, hv, hn, hb, (hm g (by rw [hv]; rfl)).trans hg, ht⟩
theorem own_move (h : W.ownsRow base e size v n xs) (hm : ∀ g, v.ownBlock = some g → W'.heap[g]? = W.heap[g]?) : W'.ownsRow base e size v n xs := by
  refine ⟨h.1, ?_⟩
  rcases h.2 with q | ⟨g, cap, cur, hv, hb, hg, r⟩
  · exact .inl q
  · exact .inr ⟨g, cap, cur, hv, hb, (hm g (by rw [hv]; rfl)).trans hg, r⟩
theorem Told.lt (h : Told W base e size v n xs) {g : Nat} (hg : v.ownBlock = some g) : base ≤ g ∧ g < W.heap.size ∧ ∃ cur, W.heap[g]? = some (.cells cur e (0, 0)) := by
  rcases h.2 with ⟨rfl, _⟩ | ⟨g', cap, cur, rfl, _, hb, hh, _⟩
  · simp [Value.ownBlock] at hg
  · obtain rfl : g' = g := by simpa [Value.ownBlock] using hg
    refine ⟨hb, ?_, cur, hh⟩
    rcases Nat.lt_or_ge g' W.heap.size with q | q
    · exact q
    · simp [Array.getElem?_eq_none q] at hh
theorem Told.form (h : Told W base e size v n xs) : ∃ A c, v = .slice A n c := by
  rcases h.2 with ⟨rfl, rfl⟩ | ⟨g, cap, cur, rfl, _⟩
  · exact ⟨_, _, rfl⟩
  · exact ⟨_, _, rfl⟩
theorem Told.cons (h : Told W base e size v n xs) (hn : 0 < n) : ∃ g c, v = .slice (some ⟨g, 0, none⟩) n c ∧ n ≤ c := by
  rcases h.2 with ⟨_, rfl⟩ | ⟨g, cap, cur, rfl, hc, _⟩
  · omega
  · exact ⟨g, cap, rfl, hc⟩
theorem Told.cell {g c : Nat} (h : Told W base e size (.slice (some ⟨g, 0, none⟩) n c) n xs) (j : Nat) (hj : j < n * size) : W.cell? ⟨g, j, none⟩ = xs[j]? := by
  rcases h.2 with ⟨h', _⟩ | ⟨g', cap', cur, h', _, _, hg, htake⟩
  · simp at h'
  · simp only [Value.slice.injEq, Option.some.injEq, Addr.mk.injEq, and_true, true_and] at h'
    obtain ⟨rfl, rfl⟩ := h'
    rw [cell_of_row W g j cur e (0, 0) hg, ← htake, List.getElem?_take, if_pos hj]
    simp
/-- Some elements, one behind the other. -/
def reps (n : Nat) (c : List Value) : List Value := (List.replicate n c).flatten
/-- All but some blocks stay. -/
structure Oth (S : Nat → Prop) (w W : World) : Prop where
  os : W.os = w.os
  tape : W.tape = w.tape
  output : W.output = w.output
  size : w.heap.size ≤ W.heap.size
  block : ∀ b, b < w.heap.size → ¬ S b → W.heap[b]? = w.heap[b]?
theorem Oth.refl (S : Nat → Prop) (w : World) : Oth S w w := ⟨rfl, rfl, rfl, Nat.le_refl _, fun _ _ _ => rfl⟩
theorem Oth.trans {S : Nat → Prop} {a b c : World} (h : Oth S a b) (k : Oth S b c) : Oth S a c :=
  ⟨k.os.trans h.os, k.tape.trans h.tape, k.output.trans h.output, Nat.le_trans h.size k.size, fun i hi hs => (k.block i (Nat.lt_of_lt_of_le hi h.size) hs).trans (h.block i hi hs)⟩
theorem Oth.alloc {S : Nat → Prop} {a b : World} (h : Oth S a b) (o : Obj) : Oth S a (b.alloc o) :=
  ⟨h.os, h.tape, h.output, Nat.le_trans h.size (by simp), fun i hi hs => ((World.grownBy_alloc b o none).block i (Nat.lt_of_lt_of_le hi h.size) (by simp)).trans (h.block i hi hs)⟩
theorem Oth.drew {S : Nat → Prop} {a b : World} (h : Oth S a b) : Oth S a b.drew := ⟨h.os, h.tape, h.output, h.size, h.block⟩
theorem Oth.drewN {S : Nat → Prop} {a b : World} (h : Oth S a b) (n : Nat) : Oth S a (b.drewN n) := ⟨h.os, h.tape, h.output, h.size, h.block⟩
theorem Oth.set {S : Nat → Prop} {a b : World} (h : Oth S a b) {p : Addr} (hp : S p.block ∨ a.heap.size ≤ p.block) (u : Value) : Oth S a (b.setCell p u) :=
  ⟨h.os, h.tape, h.output, by have := h.size; simpa using this, fun i hi hs => (heap_setCell_other b p i u (fun e => by rcases hp with q | q; exact hs (by rw [e]; exact q); omega)).trans (h.block i hi hs)⟩
theorem Oth.grown {S : Nat → Prop} {a b c : World} (h : Oth S a b) {row : Option Nat} (hg : b.grownBy c row) (hr : ∀ k, row = some k → S k ∨ a.heap.size ≤ k) : Oth S a c :=
  ⟨hg.os.trans h.os, hg.tape.trans h.tape, hg.output.trans h.output, Nat.le_trans h.size hg.size, fun i hi hs => (hg.block i (Nat.lt_of_lt_of_le hi h.size) (fun e => by rcases hr i e.symm with q | q; exact hs q; omega)).trans (h.block i hi hs)⟩
theorem Oth.below {S : Nat → Prop} {a b c : World} (h : Oth S a b) (hb : Below b.heap.size b c) : Oth S a c :=
  ⟨hb.os.trans h.os, hb.tape.trans h.tape, hb.output.trans h.output, Nat.le_trans h.size hb.size, fun i hi hs => (hb.block i (Nat.lt_of_lt_of_le hi h.size)).trans (h.block i hi hs)⟩
theorem Oth.to {S : Nat → Prop} {a b : World} {B : Nat} (h : Oth S a b) (hS : ∀ k, S k → B ≤ k) (hB : B ≤ a.heap.size) : Below B a b :=
  ⟨h.os, h.tape, h.output, h.size, fun i hi => h.block i (Nat.lt_of_lt_of_le hi hB) (fun hs => by have := hS i hs; omega)⟩
theorem Oth.mono {S T : Nat → Prop} {a b : World} (h : Oth S a b) (hS : ∀ k, S k → T k) : Oth T a b := ⟨h.os, h.tape, h.output, h.size, fun i hi hs => h.block i hi (fun q => hs (hS i q))⟩
end Go.Proofs.YtldjdcdoegjmoaaDoor.Fr
set_option linter.unusedVariables false
set_option linter.unusedSimpArgs false
namespace Go.Proofs.YtldjdcdoegjmoaaDoor.Fr
open Go.RowKit
theorem bcell {W w1 : World} (hb : Below W.heap.size W w1) : (∀ b o, b < W.heap.size → w1.cell? ⟨b, o, none⟩ = W.cell? ⟨b, o, none⟩) ∧ (∀ b o, b < W.heap.size → w1.frozen? ⟨b, o, none⟩ = W.frozen? ⟨b, o, none⟩) :=
  ⟨fun b o h => hb.cell (p := ⟨b, o, none⟩) h, fun b o h => hb.frozen (p := ⟨b, o, none⟩) h⟩
/-- An append leads to the row that was, or leaves all blocks as they were. -/
theorem run_append_two {P : Program} (w : World) (base : Nat) (t ty e : TypeId) (i : TypeInfo) (z : Value) (size bytes : Nat) (ht : P.underlying t = some (.slice e)) (hi : P.info? e = some i) (hz : i.zero = some z)
    (hsize : i.size = size) (hby : i.bytes = bytes) (v : Value) (n : Nat) (xs : List Value) (hown : w.ownsRow base e size v n xs)
    (a : Addr) (m c : Nat) (news : List Value) (hl : news.length = m * size) (hnews : ∀ j u, news[j]? = some u → w.cell? (a.add j) = some u) (h1 : ∀ u ∈ news, u.oneCell' = true)
    (hm : 0 < m) (h63 : n + m ≤ maxLen) (hbytes : (n + m) * bytes ≤ 140737488355328) {v' : Value} {w' : World} (hrun : (Builtin.append_ #[t, t] ty #[v, .slice (some a) m c]).run P w = .ok v' w') : v'.ownBlock = v.ownBlock ∨ (w.grownBy w' none ∧ ∀ k, v'.ownBlock = some k → w.heap.size ≤ k) := by
  subst hsize
  subst hby
  have hsmall : n + m ≤ 9223372036854775807 := by simp only [maxLen] at h63; omega
  rcases hown.2 with ⟨rfl, rfl⟩ | ⟨g, cap, cur, rfl, hbg, hg, hnc, hcm, hcs, htake⟩
  · have hr := run_append_nil (P := P) w t ty e i z ht hi hz a m c news hl hnews (by omega) (by omega) (by have hb := hbytes; simp only [Nat.zero_add] at hb; omega)
    rw [hr] at hrun
    cases hrun
    exact .inr ⟨⟨rfl, rfl, rfl, by simp, fun k hk _ => (World.grownBy_alloc w.drew _ none).block k hk (by simp)⟩, fun k hk => by simp [Value.ownBlock] at hk; omega⟩
  · by_cases hroom : n + m ≤ cap
    · have hfit : n * i.size + news.length ≤ cur.size := by rw [hl, hcs, ← Nat.add_mul]; exact Nat.mul_le_mul_right _ hroom
      have hr := run_append_room (P := P) w t ty e i ht hi g n cap cur hg a m c news hl hnews h1 hroom hfit
      rw [hr] at hrun
      cases hrun
      exact .inl rfl
    · have holds : ∀ j u, xs[j]? = some u → w.cell? ((⟨g, 0, none⟩ : Addr).add j) = some u := hown.cells (g := g) rfl
      have hr := run_append_grow (P := P) w t ty e i z ht hi hz ⟨g, 0, none⟩ n cap xs hown.1 holds a m c news hl hnews (by omega) (by omega) (growslice_fits (by omega) hbytes)
      rw [hr] at hrun
      cases hrun
      exact .inr ⟨⟨rfl, rfl, rfl, by simp, fun k hk _ => (World.grownBy_alloc w.drew _ none).block k hk (by simp)⟩, fun k hk => by simp [Value.ownBlock] at hk; omega⟩
theorem cell_list (W : World) (xs : List Value) (t : TypeId) : ∀ j x, xs[j]? = some x → (W.alloc (.cells xs.toArray t)).cell? ((⟨W.heap.size, 0, none⟩ : Addr).add j) = some x := by
  have h := World.news_of_block (w := W.alloc (.cells xs.toArray t)) (cs := xs.toArray) (t := t) (fr := (0, 0)) (heap_alloc_new W (.cells xs.toArray t))
  simpa using h
theorem own_form' {W : World} {base : Nat} {e : TypeId} {size n : Nat} {v : Value} {xs : List Value} (h : W.ownsRow base e size v n xs) (hn : 0 < n) : ∃ g c, v = .slice (some ⟨g, 0, none⟩) n c := by
  obtain ⟨g, c, hv, _⟩ := (told_own h).cons hn
  exact ⟨g, c, hv⟩
/-- append(v, y), y one element, behind the literal's block. -/
theorem wpList_append_two {P : Program} {W : World} {ops : Array Oper} {rest : List Oper} {o : Oper} {a : Act} {Q : Exit → Act → World → Prop} (base : Nat)
    (hgd : o.guard = none) (s x : Operand) (t e : TypeId) (z : Value) (size bytes : Nat) (ho : o.op = .call { callee := .builtin .append, args := #[s, x], argTypes := #[t, t] })
    (ht : P.underlying t = some (.slice e)) (hinfo : (P.info? e).map (fun i => (i.zero, i.size, i.bytes)) = some (some z, size, bytes)) (hz : z.cells.size = size) (hsz : 0 < size)
    (v : Value) (n : Nat) (xs : List Value) (y : List Value) (hy : y.length = size) (h1 : ∀ u ∈ y, u.oneCell' = true) (hs : a.eval s = v) (hx : a.eval x = .slice (some ⟨W.heap.size, 0, none⟩) 1 1)
    (HO : W.ownsRow base e size v n xs) (hbase : base ≤ W.heap.size) (hn : n + 1 ≤ 9223372036854775807) (hl : (n + 1) * bytes ≤ 140737488355328)
    (h : ∀ g c w1, w1.ownsRow base e size (.slice (some ⟨g, 0, none⟩) (n + 1) c) (n + 1) (xs ++ y) → (W.alloc (.cells y.toArray e)).grownBy w1 v.ownBlock → (some g = v.ownBlock ∨ ((W.alloc (.cells y.toArray e)).grownBy w1 none ∧ W.heap.size ≤ g)) →
      wpList P ops Q rest (a.put o.dst (.slice (some ⟨g, 0, none⟩) (n + 1) c)) w1) :
    wpList P ops Q (o :: rest) a (W.alloc (.cells y.toArray e)) := by
  obtain ⟨i0, hi, hz0, hz1, hz2⟩ := info_parts hinfo
  obtain ⟨v', w', hrun, r1, r2, r3⟩ := run_append_own (P := P) (W.alloc (.cells y.toArray e)) base t o.type e i0 z size bytes ht hi hz0 hz1 hz2 hz hsz v n xs (HO.alloc _) ⟨W.heap.size, 0, none⟩ 1 1 y (by omega) (cell_list W y e) h1 (by simpa [maxLen] using hn) hl (by simp; omega)
  have r4 := run_append_two (P := P) (W.alloc (.cells y.toArray e)) base t o.type e i0 z size bytes ht hi hz0 hz1 hz2 v n xs (HO.alloc _) ⟨W.heap.size, 0, none⟩ 1 1 y (by omega) (cell_list W y e) h1 (by omega) (by simpa [maxLen] using hn) hl hrun
  obtain ⟨g, c, rfl⟩ := own_form' r1 (by omega)
  refine wpList_plain hgd fun K hK => ?_
  unfold Oper.wp execOp
  simp only [ho, resolve, invoke, builtin, Sem.run_bind, Sem.run_pure, Result.andThen_ok, List.map_toArray, List.map_cons, List.map_nil, hs, hx, hrun]
  refine hK _ _ (h g c w' r1 r2 ?_)
  rcases r4 with q | ⟨q1, q2⟩
  · exact .inl q
  · exact .inr ⟨q1, by have := q2 g rfl; simp at this; omega⟩
/-- Cells stored one behind the other. -/
def setL (g : Nat) : World → Nat → List Value → World
  | W, _, [] => W
  | W, o, u :: us => setL g (W.setCell ⟨g, o, none⟩ u) (o + 1) us
def setList (xs : List Value) : Nat → List Value → List Value
  | _, [] => xs
  | o, u :: us => setList (xs.set o u) (o + 1) us
theorem setL_own {B : Nat} {e : TypeId} {size n c g : Nat} : ∀ (us : List Value) (o : Nat) (W : World) (xs : List Value), W.ownsRow B e size (.slice (some ⟨g, 0, none⟩) n c) n xs →
    (setL g W o us).ownsRow B e size (.slice (some ⟨g, 0, none⟩) n c) n (setList xs o us) ∧ W.grownBy (setL g W o us) (some g)
  | [], o, W, xs, h => ⟨h, World.grownBy.refl _ _⟩
  | u :: us, o, W, xs, h => by
    have h1 := h.stored o u
    have h2 := setL_own us (o + 1) _ _ h1.1
    exact ⟨h2.1, ⟨h2.2.os.trans h1.2.os, h2.2.tape.trans h1.2.tape, h2.2.output.trans h1.2.output, Nat.le_trans h1.2.size h2.2.size, fun k hk hs => (h2.2.block k (Nat.lt_of_lt_of_le hk h1.2.size) hs).trans (h1.2.block k hk hs)⟩⟩
theorem setList_mid : ∀ (us ls bs cs : List Value) (o : Nat), o = ls.length → bs.length = us.length → setList (ls ++ (bs ++ cs)) o us = ls ++ (us ++ cs)
  | [], ls, bs, cs, o, ho, hb => by rw [List.eq_nil_of_length_eq_zero hb]; rfl
  | u :: us, ls, [], cs, o, ho, hb => by simp at hb
  | u :: us, ls, b :: bs, cs, o, ho, hb => by
    subst ho
    have e : (ls ++ (b :: bs ++ cs)).set ls.length u = (ls ++ [u]) ++ (bs ++ cs) := by
      rw [List.set_append_right _ _ (Nat.le_refl _)]
      simp
    unfold setList
    rw [e, setList_mid us (ls ++ [u]) bs cs _ (by simp) (by simpa using hb)]
    simp
section
variable {w : World} {m B : Nat} {e : TypeId} {size : Nat} {rv : Nat → Value} {rn : Nat → Nat} {mk mo : Nat → List Value}
/-- The rows' blocks. -/
def Sr (m : Nat) (rv : Nat → Value) (b : Nat) : Prop := ∃ j, j < m ∧ (rv j).ownBlock = some b
/-- Rows below i have been grown; ys are their copies. -/
structure Grown (w : World) (m B : Nat) (e t : TypeId) (size N : Nat) (rv : Nat → Value) (rn : Nat → Nat) (mk mo : Nat → List Value) (i : Nat) (gv : Value) (ys : List Value) (W : World) : Prop where
  oth : Oth (Sr m rv) w W
  rest : ∀ j, i ≤ j → j < m → W.ownsRow B e size (rv j) (rn j) (reps (rn j) (mk j))
  told : ∀ j, j < i → j < m → Told W B e size (rv j) (rn j) (reps (rn j) (mk j))
  copy : ∀ j y, ys[j]? = some y → Told W B e size y (rn j + N) (reps (rn j) (mk j) ++ reps N (mo j)) ∧ ∀ b, y.ownBlock = some b → ∀ j', i ≤ j' → j' < m → (rv j').ownBlock ≠ some b
  all : W.ownsRow w.heap.size t 1 gv ys.length ys
  len : ys.length = i
end
end Go.Proofs.YtldjdcdoegjmoaaDoor.Fr
set_option linter.unusedVariables false
set_option linter.unusedSimpArgs false
namespace Go.Proofs.YtldjdcdoegjmoaaDoor.Ap
open Go.RowKit Go.Proofs.YtldjdcdoegjmoaaDoor Go.Proofs.YtldjdcdoegjmoaaDoorW.PrintWords Go.Proofs.YtldjdcdoegjmoaaDoorW.PrintLast Go.Proofs.YtldjdcdoegjmoaaDoorW.PrintMore Go.Proofs.YtldjdcdoegjmoaaDoor.P
def enc (x : S26) : List Value := [.int .i64 x.f0, .int .i64 x.f1, .int .i64 x.f2, .string x.f3, .bool x.f4, .int .u64 x.f5.f0, .int .u64 x.f5.f1, .int .u64 x.f5.f2, .int .u64 x.f5.f3, .int .i64 x.f6, .int .i64 x.f7]
def flat (l : List S26) : List Value := l.flatMap enc
theorem flat_len : ∀ l : List S26, (flat l).length = l.length * 11
  | [] => rfl
  | x :: l => by show (enc x ++ flat l).length = _; rw [List.length_append, flat_len l]; simp [enc]; omega
theorem flat_at (l : List S26) : ∀ (j : Nat) (x : S26) (i : Nat), l[j]? = some x → i < 11 → (flat l)[j * 11 + i]? = (enc x)[i]? := by
  induction l with
  | nil => intro j x i h; simp at h
  | cons y l ih =>
    intro j x i h hi
    show (enc y ++ flat l)[_]? = _
    have hl : (enc y).length = 11 := rfl
    cases j with
    | zero =>
      obtain rfl : y = x := by simpa using h
      rw [List.getElem?_append_left (by omega)]; simp
    | succ j =>
      rw [List.getElem?_append_right (by omega), hl, show (j + 1) * 11 + i - 11 = j * 11 + i by omega]
      exact ih j x i (by simpa using h) hi
theorem flat_one (l : List S26) : ∀ u ∈ flat l, u.oneCell' = true := by
  intro u hu
  obtain ⟨x, _, hx⟩ := List.mem_flatMap.1 hu
  simp only [enc, List.mem_cons, List.not_mem_nil, or_false] at hx
  rcases hx with rfl | rfl | rfl | rfl | rfl | rfl | rfl | rfl | rfl | rfl | rfl <;> rfl
/-- A row read is its cells, one behind the other. -/
theorem flat_cells {w : World} {A : Option Addr} {l : List S26} (h : Kd.C k26 w A l.length l) (h0 : 0 < l.length) : ∃ ad, A = some ad ∧ ∀ j v, (flat l)[j]? = some v → w.cell? (ad.add j) = some v := by
  obtain ⟨ad, e, hc⟩ := h.2.2 h0
  refine ⟨ad, e, fun j v hv => ?_⟩
  have hj : j < (flat l).length := by
    rcases Nat.lt_or_ge j (flat l).length with q | q
    · exact q
    · rw [List.getElem?_eq_none q] at hv; cases hv
  rw [flat_len] at hj
  have hd : j / 11 < l.length := by omega
  obtain ⟨c, hcl, hK, hcc⟩ := hc (j / 11) l[j / 11] (List.getElem?_eq_getElem hd)
  obtain rfl := k26_open hK
  have q := flat_at l (j / 11) l[j / 11] (j % 11) (List.getElem?_eq_getElem hd) (Nat.mod_lt _ (by omega))
  have e1 : j / 11 * 11 + j % 11 = j := by omega
  rw [e1, hv] at q
  have := hcc (j % 11) v q.symm
  rwa [show j / 11 * k26.sz + j % 11 = j from e1] at this
/-- copy(v, y) over elements of more than one cell. -/
theorem wpList_copy_many {P : Program} {w : World} {ops : Array Oper} {rest : List Oper} {o : Oper} {a : Act} {Q : Exit → Act → World → Prop} (hgd : o.guard = none) (d s : Operand) (dT sT : TypeId)
    (ho : o.op = .call { callee := .builtin .copy, args := #[d, s], argTypes := #[dT, sT] }) (elem : TypeId) (hu : P.underlying dT = some (.slice elem)) (size : Nat) (hsz : (P.info? elem).map (·.size) = some size)
    (g dLen dCap : Nat) (A : Option Addr) (sLen sCap : Nat) (hd : a.eval d = .slice (some ⟨g, 0, none⟩) dLen dCap) (hs : a.eval s = .slice A sLen sCap)
    (cur : Array Value) (t : TypeId) (hg : w.heap[g]? = some (.cells cur t (0, 0))) (cs : List Value) (hle : sLen ≤ dLen) (hn : cs.length = sLen * size)
    (hsrc : 0 < sLen → ∃ ad, A = some ad ∧ ∀ j v, cs[j]? = some v → w.cell? (ad.add j) = some v) (hA : sLen = 0 → A = none ∨ ∃ ad, A = some ad) (hfit : cs.length ≤ cur.size) (h1 : ∀ v ∈ cs, v.oneCell' = true)
    (h : wpList P ops Q rest (a.put o.dst (goInt sLen)) (w.setRow g (cs ++ cur.toList.drop cs.length).toArray)) : wpList P ops Q (o :: rest) a w := by
  refine wpList_plain hgd fun K hK => ?_
  have hmin : Nat.min sLen dLen = sLen := Nat.min_eq_left hle
  have hst := run_storeCells_at P g 0 t cs 0 cur w hg (by simpa using hfit) h1
  have hrun : (Builtin.copy_ #[dT, sT] o.type #[.slice (some ⟨g, 0, none⟩) dLen dCap, .slice A sLen sCap]).run P w = .ok (goInt sLen) (w.setRow g (cs ++ cur.toList.drop cs.length).toArray) := by
    cases hq : P.info? elem with
    | none => simp [hq] at hsz
    | some i =>
      have hi : i.size = size := by simpa [hq] using hsz
      by_cases h0 : 0 < sLen
      · obtain ⟨ad, rfl, hc⟩ := hsrc h0
        have hl := run_loadCells_list (P := P) w ad cs hc
        rw [hn] at hl
        simp [Builtin.copy_, run_underlying hu, Builtin.lenOf, Builtin.firstCells, sizeOf, typeInfo, hq, hi, hmin, hl, hst]
      · obtain rfl : sLen = 0 := by omega
        obtain rfl : cs = [] := List.eq_nil_of_length_eq_zero (by simpa using hn)
        have hl : ∀ (x : Addr), (loadCells x 0).run P w = .ok #[] w := fun x => by simpa using run_loadCells_list (P := P) w x [] (by simp)
        cases A <;> simp [Builtin.copy_, run_underlying hu, Builtin.lenOf, Builtin.firstCells, sizeOf, typeInfo, hq, hi, storeCells, hl, setRow_self w g cur t (0, 0) hg]
  unfold Oper.wp
  simp [execOp, ho, resolve, invoke, builtin, hd, hs, hrun, Result.andThen]
  exact hK _ _ h
def mk77 : S26 := ⟨-78, 0, 0, ⟨#[]⟩, false, ⟨0, 0, 0, 0⟩, 0, 0⟩
def mo77 : S26 := ⟨-100077, 0, 0, ⟨#[]⟩, false, ⟨0, 0, 0, 0⟩, 0, 0⟩
theorem row_owned {w : World} {B g c m : Nat} (l : List S26) (more xs : List Value) (h : w.ownsRow B 26 11 (.slice (some ⟨g, 0, none⟩) m c) m xs) (hx : xs = flat l ++ more) (hm : l.length ≤ m) (hn : l.length ≤ 9223372036854775807) : Kd.C k26 w (some ⟨g, 0, none⟩) l.length l := by
  refine ⟨rfl, hn, fun _ => ⟨⟨g, 0, none⟩, rfl, fun j p hp => ⟨enc p, rfl, k26_mk w p, fun i u hu => ?_⟩⟩⟩
  have hi : i < 11 := by
    rcases Nat.lt_or_ge i 11 with q | q
    · exact q
    · rw [List.getElem?_eq_none (by simp [enc]; omega)] at hu; cases hu
  have hj : j < l.length := by
    rcases Nat.lt_or_ge j l.length with q | q
    · exact q
    · rw [List.getElem?_eq_none q] at hp; cases hp
  have e : ((⟨g, 0, none⟩ : Addr).add (j * k26.sz + i)) = ⟨g, j * 11 + i, none⟩ := by show (⟨g, 0, none⟩ : Addr).add (j * 11 + i) = _; unfold Addr.add; split <;> simp_all
  rw [e, World.ownsRow.cellAt h _ (by omega), ← hu, ← flat_at l j p i hp hi, hx, List.getElem?_append_left (by rw [flat_len]; omega)]
theorem own_copied {W : World} {B e size n g c : Nat} {xs cs : List Value} {cur : Array Value} (h : W.ownsRow B e size (.slice (some ⟨g, 0, none⟩) n c) n xs) (hg : W.heap[g]? = some (.cells cur e (0, 0))) (hc : cs.length ≤ n * size) :
    (W.setRow g (cs ++ cur.toList.drop cs.length).toArray).ownsRow B e size (.slice (some ⟨g, 0, none⟩) n c) n (cs ++ xs.drop cs.length) := by
  have h1 := h.1
  refine ⟨by simp; omega, .inr ?_⟩
  rcases h.2 with ⟨q, _⟩ | ⟨g', cap, cur', hv, hb, hh, r1, r2, r3, r4⟩
  · cases q
  · injection hv with hv1 _ hv3
    obtain rfl : g = g' := by simpa using hv1
    subst hv3
    rw [hg] at hh
    cases hh
    have hcs : n * size ≤ cur.size := by rw [r3]; exact Nat.mul_le_mul_right _ r1
    refine ⟨g, c, _, rfl, hb, setRow_heap W g cur _ e (0, 0) hg, r1, r2, ?_, ?_⟩
    · simp; omega
    · rw [List.take_append, List.take_of_length_le hc, List.take_drop, ← r4]
      congr 1
      rw [show cs.length + (n * size - cs.length) = n * size by omega]
theorem mark_c (w : World) : Calls Tryd.prog 23 #[.int .i64 77] w fun e w' => e = .returned (.agg (enc mk77).toArray) ∧ Below w.heap.size w w' := by
  refine (dowelbook_tokensMark.calls 77 (-78) 0 0 ⟨#[]⟩ false 0 0 0 0 0 0 w (by kernel_rfl)).mono ?_
  rintro e w' ⟨h1, h2⟩
  exact ⟨h1, h2⟩
theorem more_c (w : World) : Calls Tryd.prog 24 #[.int .i64 77] w fun e w' => e = .returned (.agg (enc mo77).toArray) ∧ Below w.heap.size w w' := by
  refine (dowelbook_tokensMore.calls 77 (-100077) 0 0 ⟨#[]⟩ false 0 0 0 0 0 0 w (by kernel_rfl)).mono ?_
  rintro e w' ⟨h1, h2⟩
  exact ⟨h1, h2⟩
theorem info26' : (Tryd.prog.info? 26).map (·.size) = some 11 := by kernel_rfl
theorem own_cells {W : World} {B g n c t : Nat} {xs : List Value} (h : W.ownsRow B 26 11 (.slice (some ⟨g, 0, none⟩) n c) n xs) (ht : t < n) : ∃ u0 u1 u2 u3 u4 u5 u6 u7 u8 u9 u10 : Value,
    (W.cell? ⟨g, t * 11, none⟩ = some u0 ∧ W.cell? ⟨g, t * 11 + 1, none⟩ = some u1 ∧ W.cell? ⟨g, t * 11 + 2, none⟩ = some u2 ∧ W.cell? ⟨g, t * 11 + 3, none⟩ = some u3 ∧ W.cell? ⟨g, t * 11 + 4, none⟩ = some u4 ∧ W.cell? ⟨g, t * 11 + 5, none⟩ = some u5 ∧ W.cell? ⟨g, t * 11 + 6, none⟩ = some u6 ∧ W.cell? ⟨g, t * 11 + 7, none⟩ = some u7 ∧ W.cell? ⟨g, t * 11 + 8, none⟩ = some u8 ∧ W.cell? ⟨g, t * 11 + 9, none⟩ = some u9 ∧ W.cell? ⟨g, t * 11 + 10, none⟩ = some u10) := by
  have hl := h.1
  have hk : ∀ j, j < 11 → ∃ u, W.cell? ⟨g, t * 11 + j, none⟩ = some u := fun j hj => by
    have hlt : t * 11 + j < n * 11 := by omega
    exact ⟨xs[t * 11 + j]'(by omega), by rw [World.ownsRow.cellAt h _ hlt, List.getElem?_eq_getElem]⟩
  obtain ⟨u0, h0⟩ := hk 0 (by omega); obtain ⟨u1, h1⟩ := hk 1 (by omega); obtain ⟨u2, h2⟩ := hk 2 (by omega); obtain ⟨u3, h3⟩ := hk 3 (by omega); obtain ⟨u4, h4⟩ := hk 4 (by omega); obtain ⟨u5, h5⟩ := hk 5 (by omega); obtain ⟨u6, h6⟩ := hk 6 (by omega); obtain ⟨u7, h7⟩ := hk 7 (by omega); obtain ⟨u8, h8⟩ := hk 8 (by omega); obtain ⟨u9, h9⟩ := hk 9 (by omega); obtain ⟨u10, h10⟩ := hk 10 (by omega)
  exact ⟨u0, u1, u2, u3, u4, u5, u6, u7, u8, u9, u10, h0, h1, h2, h3, h4, h5, h6, h7, h8, h9, h10⟩
theorem below_grown' {B : Nat} {w0 w1 w2 : World} {g : Nat} (hb : Below B w0 w1) (hB : B ≤ w1.heap.size) (h : w1.grownBy w2 (some g)) (hg : B ≤ g) : Below B w0 w2 :=
  ⟨h.os.trans hb.os, h.tape.trans hb.tape, h.output.trans hb.output, Nat.le_trans hb.size h.size, fun k hk => (h.block k (by omega) (by simp; omega)).trans (hb.block k hk)⟩
theorem two_set (l : List S26) (R : List Value) (hR : R.length = 22) : Fr.setList (Fr.setList (flat l ++ R) (l.length * 11) (enc mk77)) ((l.length + 1) * 11) (enc mo77) = flat (l ++ [mk77, mo77]) := by
  have e1 : R = R.take 11 ++ R.drop 11 := (List.take_append_drop 11 R).symm
  have e2 : (R.drop 11).length = 11 := by simp [hR]
  have e3 : (R.take 11).length = 11 := by simp [hR]
  generalize R.take 11 = R1 at e1 e3
  generalize R.drop 11 = R2 at e1 e2
  subst e1
  rw [Fr.setList_mid _ _ _ _ _ (flat_len l).symm (by rw [e3]; rfl), ← List.append_assoc, ← List.append_nil R2, Fr.setList_mid _ _ _ _ _ (by rw [List.length_append, flat_len]; show _ = l.length * 11 + 11; omega) (by rw [e2]; rfl)]
  unfold flat
  simp
theorem made {w1 : World} {base n : Nat} {ok : Nat → Prop} {v1 : Value} (h : Kd.R k26 26 w1 base ok v1 (List.replicate ((n : Int) + 2).toNat z26)) :
    ∃ g c' inner cur, v1 = .slice (some ⟨g, 0, none⟩) (n + 2) c' ∧ n + 2 ≤ c' ∧ base ≤ g ∧ w1.heap[g]? = some (.cells cur 26 (0, 0)) ∧ (n + 2) * 11 ≤ cur.size ∧ w1.ownsRow base 26 11 (.slice (some ⟨g, 0, none⟩) (n + 2) c') (n + 2) inner := by
  obtain ⟨_, inner, ho, _⟩ := h
  have e : (List.replicate ((n : Int) + 2).toNat z26).length = n + 2 := by rw [List.length_replicate]; omega
  rw [e] at ho
  rcases ho.2 with ⟨_, q⟩ | ⟨g, cap, cur, rfl, hb, hh, r1, r2, r3, r4⟩
  · omega
  · exact ⟨g, cap, inner, cur, rfl, r1, hb, hh, by rw [r3]; exact Nat.mul_le_mul_right _ r1, ho⟩
set_option maxRecDepth 100000 in
set_option maxHeartbeats 2000000 in
theorem lend_c (A : Option Addr) (c : Nat) (l : List S26) (w : World) (hr : Kd.C k26 w A l.length l) (hc : l.length ≤ c) (hsm : l.length ≤ 1048576) :
    Calls Tryd.prog 10 #[.slice A l.length c] w fun e w' => ∃ g c', e = .returned (.slice (some ⟨g, 0, none⟩) l.length c') ∧ l.length + 2 ≤ c' ∧ w'.ownsRow w.heap.size 26 11 (.slice (some ⟨g, 0, none⟩) (l.length + 2) c') (l.length + 2) (flat (l ++ [mk77, mo77])) ∧ Below w.heap.size w w' := by
  have HR := Lib.hid hr; clear hr
  go_enter Tryd.func10, Tryd.ntmps10
  go_wp2_with (first | ((with_reducible refine gate_dst (N := 7) rfl ?_); refine Kd.R_make k26 w.heap.size 26 rfl (N := 7) rfl 33 _ _ rfl ((l.length : Int) + 2) rfl rfl Tryd.underlying33 (.agg #[(.int .i64 0), (.int .i64 0), (.int .i64 0), (.string ⟨#[]⟩), (.bool false), (.int .u64 0), (.int .u64 0), (.int .u64 0), (.int .u64 0), (.int .i64 0), (.int .i64 0)]) 96 info26 rfl (by decide) (by omega) z26 (ok := fun _ => True) (okp := fun _ => True) (k26_mkM _ _ _ z26) (fun _ hk => hk) trivial (by omega) (by omega) (Below.refl _ _) (Nat.le_refl _) ?_; intro v1 w1 hR hb hg hnew; obtain ⟨g, c', inner, cur, hv, hc', hbg, hh, hsz, hown⟩ := made hR; subst hv; have HB1 := Lib.hid hb; have HH1 := Lib.hid hh; have HO1 := Lib.hid hown; have HI0 := Lib.hid hown.1; clear hR hb hg hnew hh hown) | ((with_reducible refine gate_dst (N := 10) rfl ?_); refine wpList_copy_many rfl (.tmp 8) (.tmp 9) 33 33 rfl 26 Tryd.underlying33 11 info26' g (l.length + 2) c' A l.length c rfl rfl cur 26 HH1.out (flat l) (by omega) (flat_len l) (fun h0 => flat_cells (Kd.C_below HR.out HB1.out) h0) (fun _ => by cases A <;> simp) (by rw [flat_len]; omega) (flat_one l) ?_; have HO2 := Lib.hid (own_copied HO1.out HH1.out (cs := flat l) (by rw [flat_len]; omega)); have HB2 := Lib.hid (below_setRow HB1.out hbg (flat l ++ cur.toList.drop (flat l).length).toArray); generalize w1.setRow g (flat l ++ cur.toList.drop (flat l).length).toArray = w2 at HO2 HB2 ⊢; clear HH1 HO1 HB1))
  obtain ⟨u0, u1, u2, u3, u4, u5, u6, u7, u8, u9, u10, f0, f1, f2, f3, f4, f5, f6, f7, f8, f9, f10⟩ := own_cells HO2.out (t := l.length) (by omega)
  have hf := fun j => World.ownsRow.frozenAt HO2.out j
  have hgl : g < w2.heap.size := ((Fr.told_own HO2.out).lt rfl).2.1
  have hz : (0 : Int) ≤ (l.length : Int) ∧ (l.length : Int) < ((l.length + 2 : Nat) : Int) := by omega
  have hz2 : (0 : Int) ≤ (l.length : Int) ∧ (l.length : Int) < (l.length : Int) + 2 := by omega
  refine (mark_c _).mono ?_
  rintro e w3 ⟨rfl, hb3⟩
  obtain ⟨hc1, hf1⟩ := Fr.bcell hb3
  have p0 := (hc1 _ _ hgl).trans f0
  have p1 := (hc1 _ _ hgl).trans f1
  have p2 := (hc1 _ _ hgl).trans f2
  have p3 := (hc1 _ _ hgl).trans f3
  have p4 := (hc1 _ _ hgl).trans f4
  have p5 := (hc1 _ _ hgl).trans f5
  have p6 := (hc1 _ _ hgl).trans f6
  have p7 := (hc1 _ _ hgl).trans f7
  have p8 := (hc1 _ _ hgl).trans f8
  have p9 := (hc1 _ _ hgl).trans f9
  have p10 := (hc1 _ _ hgl).trans f10
  have q0 := (hf1 _ _ hgl).trans (hf (l.length * 11))
  have q1 := (hf1 _ _ hgl).trans (hf (l.length * 11 + 1))
  have q2 := (hf1 _ _ hgl).trans (hf (l.length * 11 + 2))
  have q3 := (hf1 _ _ hgl).trans (hf (l.length * 11 + 3))
  have q4 := (hf1 _ _ hgl).trans (hf (l.length * 11 + 4))
  have q5 := (hf1 _ _ hgl).trans (hf (l.length * 11 + 5))
  have q6 := (hf1 _ _ hgl).trans (hf (l.length * 11 + 6))
  have q7 := (hf1 _ _ hgl).trans (hf (l.length * 11 + 7))
  have q8 := (hf1 _ _ hgl).trans (hf (l.length * 11 + 8))
  have q9 := (hf1 _ _ hgl).trans (hf (l.length * 11 + 9))
  have q10 := (hf1 _ _ hgl).trans (hf (l.length * 11 + 10))
  have HO3 := Lib.hid (Fr.setL_own (enc mk77) (l.length * 11) w3 _ (Fr.own_move HO2.out fun b hb => hb3.block b ((Fr.told_own HO2.out).lt hb).2.1))
  have HB3 := Lib.hid (HB2.out.trans (hb3.mono HB2.out.size))
  clear hc1 hf1 f0 f1 f2 f3 f4 f5 f6 f7 f8 f9 f10 hf
  unfold enc mk77
  go_wp2_with fail
  change Calls Tryd.prog 24 _ (Fr.setL g w3 (l.length * 11) (enc mk77)) _
  have HO4 := Lib.hid HO3.out.1
  have HB4 := Lib.hid (below_grown' HB3.out (Nat.le_trans (Nat.le_refl _) HB3.out.size) HO3.out.2 hbg)
  clear HO3 HB3 HO2 HB2 p0 p1 p2 p3 p4 p5 p6 p7 p8 p9 p10 q0 q1 q2 q3 q4 q5 q6 q7 q8 q9 q10 hb3
  generalize Fr.setL g w3 (l.length * 11) (enc mk77) = w4 at HO4 HB4 ⊢
  obtain ⟨u0, u1, u2, u3, u4, u5, u6, u7, u8, u9, u10, f0, f1, f2, f3, f4, f5, f6, f7, f8, f9, f10⟩ := own_cells HO4.out (t := l.length + 1) (by omega)
  have hf := fun j => World.ownsRow.frozenAt HO4.out j
  have hgl : g < w4.heap.size := ((Fr.told_own HO4.out).lt rfl).2.1
  have hz3 : (0 : Int) ≤ (l.length : Int) + 1 ∧ (l.length : Int) + 1 < (l.length : Int) + 2 := by omega
  refine (more_c _).mono ?_
  rintro e w5 ⟨rfl, hb3⟩
  obtain ⟨hc1, hf1⟩ := Fr.bcell hb3
  have p0 := (hc1 _ _ hgl).trans f0
  have p1 := (hc1 _ _ hgl).trans f1
  have p2 := (hc1 _ _ hgl).trans f2
  have p3 := (hc1 _ _ hgl).trans f3
  have p4 := (hc1 _ _ hgl).trans f4
  have p5 := (hc1 _ _ hgl).trans f5
  have p6 := (hc1 _ _ hgl).trans f6
  have p7 := (hc1 _ _ hgl).trans f7
  have p8 := (hc1 _ _ hgl).trans f8
  have p9 := (hc1 _ _ hgl).trans f9
  have p10 := (hc1 _ _ hgl).trans f10
  have q0 := (hf1 _ _ hgl).trans (hf ((l.length + 1) * 11))
  have q1 := (hf1 _ _ hgl).trans (hf ((l.length + 1) * 11 + 1))
  have q2 := (hf1 _ _ hgl).trans (hf ((l.length + 1) * 11 + 2))
  have q3 := (hf1 _ _ hgl).trans (hf ((l.length + 1) * 11 + 3))
  have q4 := (hf1 _ _ hgl).trans (hf ((l.length + 1) * 11 + 4))
  have q5 := (hf1 _ _ hgl).trans (hf ((l.length + 1) * 11 + 5))
  have q6 := (hf1 _ _ hgl).trans (hf ((l.length + 1) * 11 + 6))
  have q7 := (hf1 _ _ hgl).trans (hf ((l.length + 1) * 11 + 7))
  have q8 := (hf1 _ _ hgl).trans (hf ((l.length + 1) * 11 + 8))
  have q9 := (hf1 _ _ hgl).trans (hf ((l.length + 1) * 11 + 9))
  have q10 := (hf1 _ _ hgl).trans (hf ((l.length + 1) * 11 + 10))
  have HO5 := Lib.hid (Fr.setL_own (enc mo77) ((l.length + 1) * 11) w5 _ (Fr.own_move HO4.out fun b hb => hb3.block b ((Fr.told_own HO4.out).lt hb).2.1))
  have HB5 := Lib.hid (HB4.out.trans (hb3.mono HB4.out.size))
  have HI : inner.length = (l.length + 2) * 11 := HI0.out
  clear hc1 hf1 f0 f1 f2 f3 f4 f5 f6 f7 f8 f9 f10 hf
  unfold enc mo77
  have hroom : l.length ≤ c' := by omega
  go_wp2
  go_ret
  refine ⟨g, c', rfl, hc', ?_, below_grown' HB5.out (Nat.le_trans (Nat.le_refl _) HB5.out.size) HO5.out.2 hbg⟩
  have h := HO5.out.1
  rw [two_set l _ (by rw [List.length_drop, flat_len, HI]; omega)] at h
  exact h
end Go.Proofs.YtldjdcdoegjmoaaDoor.Ap
