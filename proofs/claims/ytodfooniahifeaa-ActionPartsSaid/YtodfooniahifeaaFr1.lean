/- Rows written over and grown: the steps. -/
import Derived.Test.YtodfooniahifeaaFr0
set_option linter.unusedVariables false
set_option linter.unusedSimpArgs false
namespace Go.Proofs.Ytodfooniahifeaa.Fr
open Go.RowKit
theorem heap_lt' {W : World} {b : Nat} {o : Obj} (h : W.heap[b]? = some o) : b < W.heap.size := by
  rcases Nat.lt_or_ge b W.heap.size with q | q
  · exact q
  · simp [Array.getElem?_eq_none q] at h
theorem bcell {W w1 : World} (hb : Below W.heap.size W w1) : (∀ b o, b < W.heap.size → w1.cell? ⟨b, o, none⟩ = W.cell? ⟨b, o, none⟩) ∧ (∀ b o, b < W.heap.size → w1.frozen? ⟨b, o, none⟩ = W.frozen? ⟨b, o, none⟩) :=
  ⟨fun b o h => hb.cell (p := ⟨b, o, none⟩) h, fun b o h => hb.frozen (p := ⟨b, o, none⟩) h⟩
/-- An append leads to the row that was, or leaves all blocks as they were. -/
theorem run_append_two {P : Program} (w : World) (base : Nat) (t ty e : TypeId) (i : TypeInfo) (z : Value) (size bytes : Nat) (ht : P.underlying t = some (.slice e)) (hi : P.info? e = some i) (hz : i.zero = some z)
    (hsize : i.size = size) (hby : i.bytes = bytes) (v : Value) (n : Nat) (xs : List Value) (hown : w.ownsRow base e size v n xs)
    (a : Addr) (m c : Nat) (news : List Value) (hl : news.length = m * size) (hnews : ∀ j u, news[j]? = some u → w.cell? (a.add j) = some u) (h1 : ∀ u ∈ news, u.oneCell' = true)
    (hm : 0 < m) (h63 : n + m ≤ maxLen) (hbytes : (n + m) * bytes ≤ 140737488355328) {v' : Value} {w' : World} (hrun : (Builtin.append_ #[t, t] ty #[v, .slice (some a) m c]).run P w = .ok v' w') : v'.ownBlock = v.ownBlock ∨ (w.grownBy w' none ∧ ∀ k, v'.ownBlock = some k → w.heap.size ≤ k) := by
  subst hsize
  subst hby
  have hsmall : n + m ≤ 9223372036854775807 := by simp only [maxLen] at h63; omega
  rcases hown.2 with ⟨rfl, rfl⟩ | ⟨g, cap, cur, rfl, hbg, hg, hnc, hcm, hcs, htake⟩
  · have hr := run_append_nil (P := P) w t ty e i z ht hi hz a m c news hl hnews (by omega) (by omega) (by have hb := hbytes; simp only [Nat.zero_add] at hb; omega)
    rw [hr] at hrun
    cases hrun
    exact .inr ⟨⟨rfl, rfl, rfl, by simp, fun k hk _ => (World.grownBy_alloc w.drew _ none).block k hk (by simp)⟩, fun k hk => by simp [Value.ownBlock] at hk; omega⟩
  · by_cases hroom : n + m ≤ cap
    · have hfit : n * i.size + news.length ≤ cur.size := by rw [hl, hcs, ← Nat.add_mul]; exact Nat.mul_le_mul_right _ hroom
      have hr := run_append_room (P := P) w t ty e i ht hi g n cap cur hg a m c news hl hnews h1 hroom hfit
      rw [hr] at hrun
      cases hrun
      exact .inl rfl
    · have holds : ∀ j u, xs[j]? = some u → w.cell? ((⟨g, 0, none⟩ : Addr).add j) = some u := hown.cells (g := g) rfl
      have hr := run_append_grow (P := P) w t ty e i z ht hi hz ⟨g, 0, none⟩ n cap xs hown.1 holds a m c news hl hnews (by omega) (by omega) (growslice_fits (by omega) hbytes)
      rw [hr] at hrun
      cases hrun
      exact .inr ⟨⟨rfl, rfl, rfl, by simp, fun k hk _ => (World.grownBy_alloc w.drew _ none).block k hk (by simp)⟩, fun k hk => by simp [Value.ownBlock] at hk; omega⟩
theorem cell_list (W : World) (xs : List Value) (t : TypeId) : ∀ j x, xs[j]? = some x → (W.alloc (.cells xs.toArray t)).cell? ((⟨W.heap.size, 0, none⟩ : Addr).add j) = some x := by
  have h := World.news_of_block (w := W.alloc (.cells xs.toArray t)) (cs := xs.toArray) (t := t) (fr := (0, 0)) (heap_alloc_new W (.cells xs.toArray t))
  simpa using h
theorem own_form' {W : World} {base : Nat} {e : TypeId} {size n : Nat} {v : Value} {xs : List Value} (h : W.ownsRow base e size v n xs) (hn : 0 < n) : ∃ g c, v = .slice (some ⟨g, 0, none⟩) n c := by
  obtain ⟨g, c, hv, _⟩ := (told_own h).cons hn
  exact ⟨g, c, hv⟩
/-- append(v, y), y one element, behind the literal's block. -/
theorem wpList_append_two {P : Program} {W : World} {ops : Array Oper} {rest : List Oper} {o : Oper} {a : Act} {Q : Exit → Act → World → Prop} (base : Nat)
    (hgd : o.guard = none) (s x : Operand) (t e : TypeId) (z : Value) (size bytes : Nat) (ho : o.op = .call { callee := .builtin .append, args := #[s, x], argTypes := #[t, t] })
    (ht : P.underlying t = some (.slice e)) (hinfo : (P.info? e).map (fun i => (i.zero, i.size, i.bytes)) = some (some z, size, bytes)) (hz : z.cells.size = size) (hsz : 0 < size)
    (v : Value) (n : Nat) (xs : List Value) (y : List Value) (hy : y.length = size) (h1 : ∀ u ∈ y, u.oneCell' = true) (hs : a.eval s = v) (hx : a.eval x = .slice (some ⟨W.heap.size, 0, none⟩) 1 1)
    (HO : W.ownsRow base e size v n xs) (hbase : base ≤ W.heap.size) (hn : n + 1 ≤ 9223372036854775807) (hl : (n + 1) * bytes ≤ 140737488355328)
    (h : ∀ g c w1, w1.ownsRow base e size (.slice (some ⟨g, 0, none⟩) (n + 1) c) (n + 1) (xs ++ y) → (W.alloc (.cells y.toArray e)).grownBy w1 v.ownBlock → (some g = v.ownBlock ∨ ((W.alloc (.cells y.toArray e)).grownBy w1 none ∧ W.heap.size ≤ g)) →
      wpList P ops Q rest (a.put o.dst (.slice (some ⟨g, 0, none⟩) (n + 1) c)) w1) :
    wpList P ops Q (o :: rest) a (W.alloc (.cells y.toArray e)) := by
  obtain ⟨i0, hi, hz0, hz1, hz2⟩ := info_parts hinfo
  obtain ⟨v', w', hrun, r1, r2, r3⟩ := run_append_own (P := P) (W.alloc (.cells y.toArray e)) base t o.type e i0 z size bytes ht hi hz0 hz1 hz2 hz hsz v n xs (HO.alloc _) ⟨W.heap.size, 0, none⟩ 1 1 y (by omega) (cell_list W y e) h1 (by simpa [maxLen] using hn) hl (by simp; omega)
  have r4 := run_append_two (P := P) (W.alloc (.cells y.toArray e)) base t o.type e i0 z size bytes ht hi hz0 hz1 hz2 v n xs (HO.alloc _) ⟨W.heap.size, 0, none⟩ 1 1 y (by omega) (cell_list W y e) h1 (by omega) (by simpa [maxLen] using hn) hl hrun
  obtain ⟨g, c, rfl⟩ := own_form' r1 (by omega)
  refine wpList_plain hgd fun K hK => ?_
  unfold Oper.wp execOp
  simp only [ho, resolve, invoke, builtin, Sem.run_bind, Sem.run_pure, Result.andThen_ok, List.map_toArray, List.map_cons, List.map_nil, hs, hx, hrun]
  refine hK _ _ (h g c w' r1 r2 ?_)
  rcases r4 with q | ⟨q1, q2⟩
  · exact .inl q
  · exact .inr ⟨q1, by have := q2 g rfl; simp at this; omega⟩
/-- Cells stored one behind the other. -/
def setL (g : Nat) : World → Nat → List Value → World
  | W, _, [] => W
  | W, o, u :: us => setL g (W.setCell ⟨g, o, none⟩ u) (o + 1) us
def setList (xs : List Value) : Nat → List Value → List Value
  | _, [] => xs
  | o, u :: us => setList (xs.set o u) (o + 1) us
theorem setL_own {B : Nat} {e : TypeId} {size n c g : Nat} : ∀ (us : List Value) (o : Nat) (W : World) (xs : List Value), W.ownsRow B e size (.slice (some ⟨g, 0, none⟩) n c) n xs →
    (setL g W o us).ownsRow B e size (.slice (some ⟨g, 0, none⟩) n c) n (setList xs o us) ∧ W.grownBy (setL g W o us) (some g)
  | [], o, W, xs, h => ⟨h, World.grownBy.refl _ _⟩
  | u :: us, o, W, xs, h => by
    have h1 := h.stored o u
    have h2 := setL_own us (o + 1) _ _ h1.1
    exact ⟨h2.1, ⟨h2.2.os.trans h1.2.os, h2.2.tape.trans h1.2.tape, h2.2.output.trans h1.2.output, Nat.le_trans h1.2.size h2.2.size, fun k hk hs => (h2.2.block k (Nat.lt_of_lt_of_le hk h1.2.size) hs).trans (h1.2.block k hk hs)⟩⟩
theorem setList_mid : ∀ (us ls bs cs : List Value) (o : Nat), o = ls.length → bs.length = us.length → setList (ls ++ (bs ++ cs)) o us = ls ++ (us ++ cs)
  | [], ls, bs, cs, o, ho, hb => by rw [List.eq_nil_of_length_eq_zero hb]; rfl
  | u :: us, ls, [], cs, o, ho, hb => by simp at hb
  | u :: us, ls, b :: bs, cs, o, ho, hb => by
    subst ho
    have e : (ls ++ (b :: bs ++ cs)).set ls.length u = (ls ++ [u]) ++ (bs ++ cs) := by
      rw [List.set_append_right _ _ (Nat.le_refl _)]
      simp
    unfold setList
    rw [e, setList_mid us (ls ++ [u]) bs cs _ (by simp) (by simpa using hb)]
    simp
section
variable {w : World} {m B : Nat} {e : TypeId} {size : Nat} {rv : Nat → Value} {rn : Nat → Nat} {mk mo : Nat → List Value}
/-- The rows' blocks. -/
def Sr (m : Nat) (rv : Nat → Value) (b : Nat) : Prop := ∃ j, j < m ∧ (rv j).ownBlock = some b
def Apart (m : Nat) (rv : Nat → Value) : Prop := ∀ i j g, i < m → j < m → i ≠ j → (rv i).ownBlock = some g → (rv j).ownBlock ≠ some g
/-- Rows below i hold their marks, the others something. -/
def Marked (w : World) (m B : Nat) (e : TypeId) (size : Nat) (rv : Nat → Value) (rn : Nat → Nat) (mk : Nat → List Value) (i : Nat) (W : World) : Prop :=
  Oth (Sr m rv) w W ∧ (∀ j, j < i → j < m → W.ownsRow B e size (rv j) (rn j) (reps (rn j) (mk j))) ∧ (∀ j, i ≤ j → j < m → ∃ xs, W.ownsRow B e size (rv j) (rn j) xs)
/-- Row i holds t marks, and something. -/
def Marking (w : World) (m B : Nat) (e : TypeId) (size : Nat) (rv : Nat → Value) (rn : Nat → Nat) (mk : Nat → List Value) (i t : Nat) (W : World) : Prop :=
  Oth (Sr m rv) w W ∧ (∀ j, j < i → j < m → W.ownsRow B e size (rv j) (rn j) (reps (rn j) (mk j))) ∧ (∀ j, i < j → j < m → ∃ xs, W.ownsRow B e size (rv j) (rn j) xs) ∧ ∃ ys, W.ownsRow B e size (rv i) (rn i) (reps t (mk i) ++ ys)
theorem marking_start {i : Nat} {W : World} (h : Marked w m B e size rv rn mk i W) (hi : i < m) : Marking w m B e size rv rn mk i 0 W :=
  ⟨h.1, h.2.1, fun j h1 h2 => h.2.2 j (by omega) h2, h.2.2 i (Nat.le_refl _) hi⟩
theorem marking_done {i : Nat} {W : World} (h : Marking w m B e size rv rn mk i (rn i) W) (hl : (mk i).length = size) : Marked w m B e size rv rn mk (i + 1) W := by
  refine ⟨h.1, fun j h1 h2 => ?_, fun j h1 h2 => h.2.2.1 j (by omega) h2⟩
  by_cases q : j = i
  · subst q
    obtain ⟨ys, hy⟩ := h.2.2.2
    have hl2 := hy.1
    rw [List.length_append, reps_len, hl] at hl2
    have : ys = [] := List.eq_nil_of_length_eq_zero (by omega)
    rw [this, List.append_nil] at hy
    exact hy
  · exact h.2.1 j (by omega) h2
theorem marking_step {i t g c : Nat} {wi w1 : World} (h : Marking w m B e size rv rn mk i t wi) (hi : i < m) (ht : t < rn i) (hv : rv i = .slice (some ⟨g, 0, none⟩) (rn i) c) (hap : Apart m rv) (hl : (mk i).length = size) (hb : Below wi.heap.size wi w1) :
    Marking w m B e size rv rn mk i (t + 1) (setL g w1 (t * size) (mk i)) := by
  have low : ∀ {j : Nat} {xs : List Value}, wi.ownsRow B e size (rv j) (rn j) xs → w1.ownsRow B e size (rv j) (rn j) xs := fun {j xs} hx => own_move hx fun b hb' => hb.block b (((told_own hx).lt hb').2.1)
  obtain ⟨ys, hy⟩ := h.2.2.2
  have hy1 := low hy
  rw [hv] at hy1
  have hs := setL_own (mk i) (t * size) w1 _ hy1
  have oth : ∀ {j : Nat} {xs : List Value}, j < m → j ≠ i → wi.ownsRow B e size (rv j) (rn j) xs → (setL g w1 (t * size) (mk i)).ownsRow B e size (rv j) (rn j) xs := fun {j xs} hj hji hx =>
    own_move (low hx) fun b hb' => hs.2.block b ((told_own (low hx)).lt hb').2.1 (fun q => hap i j g hi hj (Ne.symm hji) (by rw [hv]; rfl) (by rw [hb', q]))
  refine ⟨(h.1.below hb).grown hs.2 (fun k hk => by cases hk; exact .inl ⟨i, hi, by rw [hv]; rfl⟩), fun j h1 h2 => oth h2 (by omega) (h.2.1 j h1 h2), fun j h1 h2 => ?_, ?_⟩
  · obtain ⟨xs, hx⟩ := h.2.2.1 j h1 h2
    exact ⟨xs, oth h2 (by omega) hx⟩
  · have hlen := hy.1
    rw [List.length_append, reps_len, hl] at hlen
    have hge : size ≤ ys.length := by
      have : (t + 1) * size ≤ rn i * size := Nat.mul_le_mul_right _ ht
      rw [Nat.add_mul] at this; omega
    have e1 : reps t (mk i) ++ ys = reps t (mk i) ++ (ys.take size ++ ys.drop size) := by rw [List.take_append_drop]
    have hs1 := hs.1
    rw [e1, setList_mid _ _ _ _ _ (by rw [reps_len, hl]) (by rw [List.length_take, hl]; omega)] at hs1
    refine ⟨ys.drop size, ?_⟩
    rw [hv, reps_succ, List.append_assoc]
    exact hs1
/-- Row i's copy x grows. -/
def Growing (B : Nat) (e : TypeId) (size : Nat) (rv : Nat → Value) (rn : Nat → Nat) (mk mo : Nat → List Value) (i t : Nat) (wo : World) (x : Value) (W : World) : Prop :=
  Oth (fun b => (rv i).ownBlock = some b) wo W ∧ W.ownsRow B e size x (rn i + t) (reps (rn i) (mk i) ++ reps t (mo i)) ∧ (∀ b, x.ownBlock = some b → (rv i).ownBlock = some b ∨ wo.heap.size ≤ b) ∧ Told W B e size (rv i) (rn i) (reps (rn i) (mk i))
theorem growing_start {i : Nat} {wo : World} (h : wo.ownsRow B e size (rv i) (rn i) (reps (rn i) (mk i))) : Growing B e size rv rn mk mo i 0 wo (rv i) wo :=
  ⟨Oth.refl _ _, by unfold reps at h ⊢; simpa using h, fun b hb => .inl hb, told_own h⟩
theorem growing_step {i t g c : Nat} {wo wi w1 w2 : World} {x : Value} (h : Growing B e size rv rn mk mo i t wo x wi) (hb : Below wi.heap.size wi w1)
    (h1 : w2.ownsRow B e size (.slice (some ⟨g, 0, none⟩) (rn i + t + 1) c) (rn i + t + 1) (reps (rn i) (mk i) ++ reps t (mo i) ++ mo i)) (h2 : (w1.alloc (.cells (mo i).toArray e)).grownBy w2 x.ownBlock)
    (h3 : some g = x.ownBlock ∨ ((w1.alloc (.cells (mo i).toArray e)).grownBy w2 none ∧ w1.heap.size ≤ g)) : Growing B e size rv rn mk mo i (t + 1) wo (.slice (some ⟨g, 0, none⟩) (rn i + (t + 1)) c) w2 := by
  have hsz := h.1.size
  have hbs := hb.size
  have e1 : reps (rn i) (mk i) ++ reps t (mo i) ++ mo i = reps (rn i) (mk i) ++ reps (t + 1) (mo i) := by rw [reps_succ, List.append_assoc]
  rw [e1] at h1
  have ht1 : Told (w1.alloc (.cells (mo i).toArray e)) B e size (rv i) (rn i) (reps (rn i) (mk i)) := h.2.2.2.move fun b hb' => by
    have q := h.2.2.2.lt hb'
    rw [(World.grownBy_alloc w1 _ none).block b (by omega) (by simp), hb.block b q.2.1]
  have hsz2 : w1.heap.size < (w1.alloc (.cells (mo i).toArray e)).heap.size := by simp
  refine ⟨((h.1.below hb).alloc _).grown h2 h.2.2.1, h1, fun b hb' => ?_, ?_⟩
  · obtain rfl : g = b := by simpa [Value.ownBlock] using hb'
    rcases h3 with q | q
    · exact h.2.2.1 g q.symm
    · exact .inr (by omega)
  · rcases h3 with q | q
    · by_cases hx : (rv i).ownBlock = some g
      · exact told_prefix ht1 h1 hx
      · exact ht1.move fun b hb' => h2.block b (ht1.lt hb').2.1 (fun q2 => hx (by rw [hb', q2, ← q]))
    · exact ht1.move fun b hb' => q.1.block b (ht1.lt hb').2.1 (by simp)
/-- Rows below i have been grown; ys are their copies. -/
structure Grown (w : World) (m B : Nat) (e t : TypeId) (size N : Nat) (rv : Nat → Value) (rn : Nat → Nat) (mk mo : Nat → List Value) (i : Nat) (gv : Value) (ys : List Value) (W : World) : Prop where
  oth : Oth (Sr m rv) w W
  rest : ∀ j, i ≤ j → j < m → W.ownsRow B e size (rv j) (rn j) (reps (rn j) (mk j))
  told : ∀ j, j < i → j < m → Told W B e size (rv j) (rn j) (reps (rn j) (mk j))
  copy : ∀ j y, ys[j]? = some y → Told W B e size y (rn j + N) (reps (rn j) (mk j) ++ reps N (mo j)) ∧ ∀ b, y.ownBlock = some b → ∀ j', i ≤ j' → j' < m → (rv j').ownBlock ≠ some b
  all : W.ownsRow w.heap.size t 1 gv ys.length ys
  len : ys.length = i
theorem grown_start {N : Nat} {t : TypeId} {W : World} (h : Marked w m B e size rv rn mk m W) : Grown w m B e t size N rv rn mk mo 0 (.slice none 0 0) [] W :=
  ⟨h.1, fun j _ h2 => h.2.1 j h2 h2, fun j h1 => by omega, fun j y hy => by simp at hy, World.ownsRow_nil _ _ _ _, rfl⟩
theorem grown_all {N i : Nat} {t : TypeId} {gv x : Value} {ys : List Value} {wo wi : World} (h : Grown w m B e t size N rv rn mk mo i gv ys wo) (hte : t ≠ e) (hi : i < m) (hx : Growing B e size rv rn mk mo i N wo x wi) : wi.ownsRow w.heap.size t 1 gv ys.length ys :=
  own_move h.all fun b hb => hx.1.block b ((told_own h.all).lt hb).2.1 (fun q => by
    obtain ⟨_, _, cur, hc⟩ := (told_own h.all).lt hb
    obtain ⟨_, _, cur2, hc2⟩ := (told_own (h.rest i (Nat.le_refl _) hi)).lt q
    rw [hc2] at hc
    cases hc
    exact hte rfl)
theorem grown_step {N i g c : Nat} {t : TypeId} (hte : t ≠ e) {gv x : Value} {ys : List Value} {wo wi w2 : World} (h : Grown w m B e t size N rv rn mk mo i gv ys wo) (hi : i < m) (hap : Apart m rv) (hx : Growing B e size rv rn mk mo i N wo x wi)
    (h1 : w2.ownsRow w.heap.size t 1 (.slice (some ⟨g, 0, none⟩) (ys.length + 1) c) (ys.length + 1) (ys ++ [x])) (h2 : (wi.alloc (.cells #[x] t)).grownBy w2 gv.ownBlock) :
    Grown w m B e t size N rv rn mk mo (i + 1) (.slice (some ⟨g, 0, none⟩) (ys.length + 1) c) (ys ++ [x]) w2 := by
  have hsz := hx.1.size
  -- a row of elements that stands at wi stands at w2
  have up : ∀ {v : Value} {n : Nat} {xs : List Value}, Told wi B e size v n xs → ∀ b, v.ownBlock = some b → w2.heap[b]? = wi.heap[b]? := fun {v n xs} hv b hb => by
    obtain ⟨_, hlt, cur, hc⟩ := hv.lt hb
    rw [h2.block b (by simp; omega) ?_, (World.grownBy_alloc wi _ none).block b hlt (by simp)]
    intro q
    have hg := h.all
    obtain ⟨_, hlt2, cur2, hc2⟩ := (told_own hg).lt q.symm
    have : ¬ (fun b => (rv i).ownBlock = some b) b := fun q2 => by
      obtain ⟨_, _, cur3, hc3⟩ := (told_own (h.rest i (Nat.le_refl _) hi)).lt q2
      rw [hc3] at hc2
      cases hc2
      exact hte rfl
    rw [hx.1.block b hlt2 this, hc2] at hc
    cases hc
    exact hte rfl
  have mid : ∀ {v : Value} {n : Nat} {xs : List Value}, Told wo B e size v n xs → (∀ b, v.ownBlock = some b → (rv i).ownBlock ≠ some b) → ∀ b, v.ownBlock = some b → wi.heap[b]? = wo.heap[b]? := fun {v n xs} hv hne b hb => hx.1.block b (hv.lt hb).2.1 (hne b hb)
  have both : ∀ {v : Value} {n : Nat} {xs : List Value}, Told wo B e size v n xs → (∀ b, v.ownBlock = some b → (rv i).ownBlock ≠ some b) → ∀ b, v.ownBlock = some b → w2.heap[b]? = wo.heap[b]? := fun {v n xs} hv hne b hb => (up (hv.move (mid hv hne)) b hb).trans (mid hv hne b hb)
  refine ⟨?_, fun j hj1 hj2 => ?_, fun j hj1 hj2 => ?_, fun j y hy => ?_, by rw [List.length_append]; exact h1, by rw [List.length_append, h.len]; rfl⟩
  · refine ((h.oth.trans (hx.1.mono fun b hb => ⟨i, hi, hb⟩)).alloc _).grown h2 fun k hk => ?_
    exact .inr ((told_own h.all).lt hk).1
  · have hr := h.rest j (by omega) hj2
    exact own_move hr (both (told_own hr) fun b hb q => hap j i b hj2 hi (by omega) hb q)
  · by_cases q : j = i
    · subst q
      exact hx.2.2.2.move (up hx.2.2.2)
    · have hr := h.told j (by omega) hj2
      exact hr.move (both hr fun b hb q2 => hap j i b hj2 hi q hb q2)
  · by_cases q : j < ys.length
    · rw [List.getElem?_append_left q] at hy
      obtain ⟨c1, c2⟩ := h.copy j y hy
      exact ⟨c1.move (both c1 fun b hb => c2 b hb i (Nat.le_refl _) hi), fun b hb j' h3 h4 => c2 b hb j' (by omega) h4⟩
    · have hj : j = ys.length := by
        rcases Nat.lt_or_ge j (ys ++ [x]).length with q2 | q2
        · rw [List.length_append] at q2; simp at q2; omega
        · rw [List.getElem?_eq_none q2] at hy; cases hy
      rw [hj, List.getElem?_append_right (Nat.le_refl _), Nat.sub_self] at hy
      obtain rfl : x = y := by simpa using hy
      rw [hj, h.len]
      refine ⟨(told_own hx.2.1).move (up (told_own hx.2.1)), fun b hb j' h3 h4 q2 => ?_⟩
      rcases hx.2.2.1 b hb with q3 | q3
      · exact hap i j' b hi h4 (by omega) q3 q2
      · have := ((told_own (h.rest j' (by omega) h4)).lt q2).2.1
        omega
end
end Go.Proofs.Ytodfooniahifeaa.Fr
