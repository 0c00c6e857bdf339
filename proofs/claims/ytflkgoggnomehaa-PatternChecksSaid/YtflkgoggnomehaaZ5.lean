import Derived.Below
import Derived.BigQuiet
import Derived.Deep.AppendLies
import Derived.KernelRfl
import Derived.Laws.AppendOwn
import Derived.Lib.Bytealg
import Derived.Lib.Hide
import Derived.Lib.Slices
import Derived.Lib.Strings
import Derived.Lib.Walk
import Derived.LoopIn
import Derived.LoopNIn
import Derived.OwnWalkIn
import Derived.RangeFuncBound
import Derived.RangeFuncBox
import Derived.RangeFuncCalls
import Derived.RangeFuncLeaves
import Derived.RangeFuncNested
import Derived.Shelf.Abstract
import Derived.TacticsInMore
import Derived.Test.YtflkgoggnomehaaProg
import Derived.WalkKit
import Derived.Test.YtflkgoggnomehaaZ1
import Derived.Test.YtflkgoggnomehaaZ3
import Derived.Test.YtflkgoggnomehaaZ4
set_option linter.unusedVariables false
set_option linter.unusedSimpArgs false
namespace Go.Proofs.Ytflkgoggnomehaa
open Go.RowKit
/-- A list of ranges: its cells. -/
def rcells (l : List (Nat × Nat)) : List Value := l.flatMap fun p => [.int .u8 (p.1 : Int), .int .u8 (p.2 : Int)]
theorem rcells_snoc (l : List (Nat × Nat)) (a b : Nat) : rcells (l ++ [(a, b)]) = rcells l ++ [.int .u8 (a : Int), .int .u8 (b : Int)] := by unfold rcells; simp
theorem rcells_at : ∀ (l : List (Nat × Nat)) (j : Nat), j < l.length → (rcells l)[j * 2]? = some (.int .u8 ((l.getD j (0, 0)).1 : Int)) ∧ (rcells l)[j * 2 + 1]? = some (.int .u8 ((l.getD j (0, 0)).2 : Int))
  | [], j, h => by simp at h
  | p :: l, 0, _ => ⟨rfl, rfl⟩
  | p :: l, j + 1, h => by
    have ih := rcells_at l j (by simpa using h)
    have e : rcells (p :: l) = .int .u8 (p.1 : Int) :: .int .u8 (p.2 : Int) :: rcells l := by simp [rcells]
    rw [e, show (j + 1) * 2 = j * 2 + 1 + 1 by omega]
    exact ih
theorem infoRng : (Try.prog.info? 158).map (fun i => (i.zero, i.size, i.bytes)) = some (some (.agg #[.int .u8 0, .int .u8 0]), 2, 2) := by kernel_rfl
def lenOf (v : Value) : Nat := match v with | .slice _ n _ => n | _ => 0
end Go.Proofs.Ytflkgoggnomehaa
set_option linter.unusedVariables false
set_option linter.unusedSimpArgs false
namespace Go.Proofs.Ytflkgoggnomehaa
def dstOf (ops : Array Oper) (i : Nat) : Option Tmp := (ops[i]?).bind (·.dst)
def written (ops : Array Oper) (t : Tmp) : Bool := (List.range ops.size).any fun i => dstOf ops i == some t
/-- The values laid into their slots, in the text's order. -/
def putAll (ops : Array Oper) (f : Nat → Value) (a : Act) : Nat → Act
  | 0 => a
  | n + 1 => (putAll ops f a n).put (dstOf ops n) (f n)
section
variable {P : Program} {ops : Array Oper} {Q : Exit → Act → World → Prop}
/-- What an operation may lean on: the slots that it waits for, and those that the region leaves alone. -/
def Leans (ops : Array Oper) (V : Nat → Value → Prop) (a0 : Act) (o : Oper) (a : Act) : Prop :=
  (∀ e ∈ o.after, Region.binds .any e = true → ∀ t, dstOf ops e.on = some t → ∃ v, a.tmps[t]? = some v ∧ V e.on v) ∧ (∀ t, written ops t = false → a.tmps[t]? = a0.tmps[t]?)
theorem Leans.dep {V : Nat → Value → Prop} {a0 : Act} {o : Oper} {a : Act} (h : Leans ops V a0 o a) (j : Nat) (t : Tmp) (hj : (o.after.any fun e => e.on == j && Region.binds .any e) = true) (ht : dstOf ops j = some t) : ∃ v, a.tmps[t]?.getD undef = v ∧ V j v := by
  rw [← Array.any_toList, List.any_eq_true] at hj
  obtain ⟨e, he, hh⟩ := hj
  have he := Array.mem_toList_iff.1 he
  simp only [Bool.and_eq_true, beq_iff_eq] at hh
  obtain ⟨rfl, hb⟩ := hh
  obtain ⟨v, h1, h2⟩ := h.1 e he hb t ht
  exact ⟨v, by rw [h1, Option.getD_some], h2⟩
theorem Leans.free {V : Nat → Value → Prop} {a0 : Act} {o : Oper} {a : Act} (h : Leans ops V a0 o a) (t : Tmp) (ht : written ops t = false) : a.tmps[t]?.getD undef = a0.tmps[t]?.getD undef := by
  rw [h.2 t ht]
theorem Leans.wanted {V : Nat → Value → Prop} {a0 : Act} {o : Oper} {a : Act} (h : Leans ops V a0 o a) (j : Nat) (t : Tmp) (b : Bool) (hg : o.guard = some (j, b)) (hj : (o.after.any fun e => e.on == j && Region.binds .any e) = true) (ht : dstOf ops j = some t) (hv : ∀ v, V j v → v = .bool b) : Region.wanted o (yielded ops a.tmps) = true := by
  rw [← Array.any_toList, List.any_eq_true] at hj
  obtain ⟨e, he, hh⟩ := hj
  have he := Array.mem_toList_iff.1 he
  simp only [Bool.and_eq_true, beq_iff_eq] at hh
  obtain ⟨rfl, hb⟩ := hh
  obtain ⟨v, h1, h2⟩ := h.1 e he hb t ht
  have := hv v h2
  subst this
  unfold Region.wanted yielded
  unfold dstOf at ht
  rw [hg]
  dsimp only
  rw [ht]
  simp [h1]
end
end Go.Proofs.Ytflkgoggnomehaa
set_option linter.unusedVariables false
set_option linter.unusedSimpArgs false
namespace Go.Proofs.Ytflkgoggnomehaa
open Go.RowKit
theorem below_drewN' {B : Nat} {w w' : World} {n : Nat} (h : Below B w w') : Below B w (w'.drewN n) := below_drewN h _
end Go.Proofs.Ytflkgoggnomehaa
set_option linter.unusedVariables false
set_option linter.unusedSimpArgs false
namespace Go.Proofs.Ytflkgoggnomehaa
open Go.RowKit
theorem four_cells {w : World} {k : Nat} {u v x y : Value} {t : TypeId} (h : w.heap[k]? = some (.cells #[u, v, x, y] t (0, 0))) : (w.cell? ⟨k, 0, none⟩ = some u ∧ w.cell? ⟨k, 1, none⟩ = some v ∧ w.cell? ⟨k, 2, none⟩ = some x ∧ w.cell? ⟨k, 3, none⟩ = some y) ∧ (w.frozen? ⟨k, 0, none⟩ = false ∧ w.frozen? ⟨k, 1, none⟩ = false ∧ w.frozen? ⟨k, 2, none⟩ = false ∧ w.frozen? ⟨k, 3, none⟩ = false) :=
  ⟨⟨by rw [cell_of_row _ _ _ _ _ _ h]; rfl, by rw [cell_of_row _ _ _ _ _ _ h]; rfl, by rw [cell_of_row _ _ _ _ _ _ h]; rfl, by rw [cell_of_row _ _ _ _ _ _ h]; rfl⟩, frozen_of_row _ _ _ _ _ h, frozen_of_row _ _ _ _ _ h, frozen_of_row _ _ _ _ _ h, frozen_of_row _ _ _ _ _ h⟩
end Go.Proofs.Ytflkgoggnomehaa
set_option linter.unusedVariables false
set_option linter.unusedSimpArgs false
namespace Go.Proofs.Ytflkgoggnomehaa
open Go.RowKit Go.Shelf
attribute [local go_sem] Oper.semAt_some
/-- A class's bytes below k, rising. -/
def upto (a : Cls) : Nat → List (Fin 256)
  | 0 => []
  | k + 1 => if h : k < 256 then (if a.mem k = true then upto a k ++ [⟨k, h⟩] else upto a k) else upto a k
theorem upto_yes (a : Cls) (k : Nat) (hk : k < 256) (h : a.mem k = true) : upto a (k + 1) = upto a k ++ [⟨k, hk⟩] := by rw [upto, dif_pos hk, if_pos h]
theorem upto_no (a : Cls) (k : Nat) (h : a.mem k = false) : upto a (k + 1) = upto a k := by
  rw [upto]
  split
  · rw [if_neg (by simp [h])]
  · rfl
theorem upto_pre (a : Cls) : ∀ (n k : Nat), upto a k <+: upto a (k + n)
  | 0, k => List.prefix_refl _
  | n + 1, k => by
    refine (upto_pre a n k).trans ?_
    rw [show k + (n + 1) = k + n + 1 by omega, upto]
    split
    · split
      · exact List.prefix_append _ _
      · exact List.prefix_refl _
    · exact List.prefix_refl _
theorem upto_all (a : Cls) (k : Nat) (hk : k < 256) (h : a.mem k = true) : (upto a k).length < (upto a 256).length := by
  have h1 := (upto_pre a (256 - (k + 1)) (k + 1)).length_le
  rw [show k + 1 + (256 - (k + 1)) = 256 by omega, upto_yes a k hk h, List.length_append, List.length_singleton] at h1
  omega
theorem grow_below {w w' : World} (h : Below w.heap.size w w') : w.grownBy w' none := ⟨h.os, h.tape, h.output, h.size, fun k hk _ => h.block k hk⟩
/-- A block stays as it is. -/
def KpB (b : Nat) (o : Obj) (W W' : World) : Prop := W.heap[b]? = some o → W'.heap[b]? = some o
theorem kpB_t {b : Nat} {o : Obj} {A B C : World} (h : KpB b o A B) (k : KpB b o B C) : KpB b o A C := fun x => k (h x)
theorem kpB_b {b : Nat} {o : Obj} {w : World} (hb : b < w.heap.size) (W : World) (l : Nat) (x y : Obj) (hl : w.heap.size ≤ l) (h : W.heap[l]? = some x) (_ : x.isCells = false) (_ : x.isWalk = false) : KpB b o W (W.putObj l y) :=
  fun hk => ((grownBy_putObj' W l y).block b (heap_lt hk) (fun e => by cases e; omega)).trans hk
set_option maxRecDepth 100000 in
set_option maxHeartbeats 4000000 in
theorem each1_in (n : Nat) (hn : 1 ≤ n) (l Bs : Nat) (a : Cls) (ha : a.ok) (J Jx : List (Fin 256) → World → Prop)
    (B : Nat) (hJ : AbidesFrom B J) (hBs0 : Bs < B)
    (hY : ∀ pre (x : Fin 256) W, J pre W → pre.length < (upto a 256).length → YieldAt Fence.wide (n - 1) Try.prog l #[.int .u8 ((x.val : Nat) : Int)] W fun e W' =>
      (e = .returned (.bool true) ∧ J (pre ++ [x]) W' ∧ KpB Bs (.cells a.cells 43 (0, 0)) W W') ∨ (e = .returned (.bool false) ∧ Jx (pre ++ [x]) W'))
    (W : World) (hBs : W.heap[Bs]? = some (.cells a.cells 43 (0, 0))) (h0 : J [] W) :
    CallsIn Fence.wide n Try.prog 89 #[.func (.yield l) #[] #[], .pointer (some ⟨Bs, 0, none⟩)] W fun e W' => (∃ v, e = .returned v) ∧
      ((∃ ys, ys = upto a 256 ∧ J ys W') ∨ (∃ pre, pre <+: upto a 256 ∧ Jx pre W')) := by
  refine callsIn_of_wp Try.func89 rfl trivial ?_ rfl
  simp only [Try.ntmps89, List.size_toArray, List.length_cons, List.length_nil, Nat.reduceAdd, Nat.reduceSub, Array.replicate_succ, Array.replicate_zero, List.push_toArray, List.append_toArray, List.nil_append, List.cons_append]
  gi_wp2
  gi_loopw [4] (fun i wr => ∃ k : Nat, k ≤ 256 ∧ i = .int .i64 k ∧ J (upto a k) wr ∧ wr.heap[Bs]? = some (.cells a.cells 43 (0, 0)))
    (fun i _ => 256 - (intOf i).toNat)
  case atStart => exact ⟨0, Nat.zero_le _, rfl, h0, hBs⟩
  case round =>
    obtain ⟨k, hk, rfl, hJs, hnx⟩ := hrel
    by_cases hlt : k < 256
    · obtain ⟨⟨c0, c1, c2, c3⟩, f0, f1, f2, f3⟩ := four_cells (show wr.heap[Bs]? = some (.cells #[.int .u64 (a.c0 : Int), .int .u64 (a.c1 : Int), .int .u64 (a.c2 : Int), .int .u64 (a.c3 : Int)] 43 (0, 0)) from hnx)
      have hH := has_c a ha k hlt
      have HX := Lib.hid hnx; clear hnx
      cases hm : a.mem k
      · rw [hm] at hH
        have HH := Lib.hid hH; clear hH
        have HM := Lib.hid hm; clear hm
        gi_wp2_with (refine ⟨trivial, ?_⟩; gi_at_call 36; refine (callsIn_wide.2 (HH.out _)).mono ?_; rintro e w2 ⟨rfl, hb2⟩)
        refine ⟨fun _ h => (by cases h), ?_⟩
        gi_wp2
        go_roundw
        case rel => exact ⟨k + 1, by omega, by simp, by rw [upto_no a k HM.out]; exact hJ _ _ _ none hJs (grow_below hb2) (by simp), heap_same hb2 HX.out⟩
        case measure => simp [intOf]; omega
      · rw [hm] at hH
        have HH := Lib.hid hH; clear hH
        have HM := Lib.hid hm; clear hm
        gi_wp2_with (refine ⟨trivial, ?_⟩; gi_at_call 36; refine (callsIn_wide.2 (HH.out _)).mono ?_; rintro e w2 ⟨rfl, hb2⟩; have HB2 := Lib.hid hb2; clear hb2; obtain ⟨fn, tmps, assign, body, hy, hR⟩ := hY _ ⟨k, hlt⟩ w2 (hJ _ _ _ none hJs (grow_below HB2.out) (by simp)) (upto_all a k hlt HM.out); dsimp only at hy)
        refine hR.mono ?_
        rintro e W3 (⟨rfl, hJ3, hk3⟩ | ⟨rfl, hJx3⟩)
        · gi_wp2
          go_roundw
          case rel => exact ⟨k + 1, by omega, by simp, by rw [upto_yes a k hlt HM.out]; exact hJ3, hk3 (heap_same HB2.out HX.out)⟩
          case measure => simp [intOf]; omega
        · gi_wp2
          refine bodyPost_ret (results_none rfl _ _ _) rfl ?_
          refine ⟨⟨_, rfl⟩, .inr ⟨_, ?_, hJx3⟩⟩
          have h5 := upto_pre a (256 - (k + 1)) (k + 1)
          rw [show k + 1 + (256 - (k + 1)) = 256 by omega, upto_yes a k hlt HM.out] at h5
          exact h5
    · obtain rfl : k = 256 := by omega
      gi_wp2
      go_end0
      exact ⟨⟨_, rfl⟩, .inl ⟨_, rfl, hJs⟩⟩
set_option maxHeartbeats 1000000 in
theorem each_in (n : Nat) (a : Cls) (w : World) : CallsIn Fence.wide n Try.prog 64 #[V4 a] w fun e w' => e = .returned (.func (.func 89) #[] #[.pointer (some ⟨w.heap.size, 0, none⟩)]) ∧ w' = w.alloc (.cells a.cells 43) := by
  refine callsIn_of_wp Try.func64 rfl trivial ?_ rfl
  simp only [Try.ntmps64, List.size_toArray, List.length_cons, List.length_nil, Nat.reduceAdd, Nat.reduceSub, Array.replicate_succ, Array.replicate_zero, List.push_toArray, List.append_toArray, List.nil_append, List.cons_append]
  gi_wp2
  go_ret
  exact ⟨rfl, rfl⟩
/-- What class.Each hands back goes through a class's bytes, rising. -/
theorem each_stops (n : Nat) (hn : 1 ≤ n) (Bs : Nat) (a : Cls) (ha : a.ok) (w : World) (hBs : Bs < w.heap.size) (hc : w.heap[Bs]? = some (.cells a.cells 43 (0, 0))) :
    SeqStopsK Fence.wide n Try.prog 89 #[.pointer (some ⟨Bs, 0, none⟩)] (fun x : Fin 256 => #[Value.int .u8 ((x.val : Nat) : Int)]) (KpB Bs (.cells a.cells 43 (0, 0))) (fun ys => ys = upto a 256) (fun pre => pre <+: upto a 256) (upto a 256).length w :=
  fun l J Jx W hW hJ _ hY h0 => each1_in n hn l Bs a ha J Jx W.heap.size hJ (Nat.lt_of_lt_of_le hBs hW.size) hY W (heap_below hW hBs hc) h0
end Go.Proofs.Ytflkgoggnomehaa
set_option linter.unusedVariables false
set_option linter.unusedSimpArgs false
namespace Go.Proofs.Ytflkgoggnomehaa
open Go.RowKit Go.Shelf
attribute [local go_sem] Oper.semAt_some
/-- One byte more to ranges that rise. -/
def stepR (l : List (Nat × Nat)) (b : Nat) : List (Nat × Nat) :=
  match l.getLast? with
  | some p => if p.2 + 1 = b then l.dropLast ++ [(p.1, b)] else l ++ [(b, b)]
  | none => [(b, b)]
def rangesOf (xs : List (Fin 256)) : List (Nat × Nat) := xs.foldl (fun l x => stepR l x.val) []
theorem rangesOf_snoc (xs : List (Fin 256)) (x : Fin 256) : rangesOf (xs ++ [x]) = stepR (rangesOf xs) x.val := by unfold rangesOf; rw [List.foldl_append]; rfl
theorem stepR_nil (b : Nat) : stepR [] b = [(b, b)] := rfl
theorem stepR_yes (l : List (Nat × Nat)) (lo hi b : Nat) (h : hi + 1 = b) : stepR (l ++ [(lo, hi)]) b = l ++ [(lo, b)] := by unfold stepR; simp [h]
theorem stepR_no (l : List (Nat × Nat)) (lo hi b : Nat) (h : ¬ hi + 1 = b) : stepR (l ++ [(lo, hi)]) b = l ++ [(lo, hi)] ++ [(b, b)] := by unfold stepR; simp [h]
theorem snoc_or (l : List (Nat × Nat)) : l = [] ∨ ∃ l' lo hi, l = l' ++ [(lo, hi)] := by
  rcases List.eq_nil_or_concat l with h | ⟨l', p, h⟩
  · exact .inl h
  · exact .inr ⟨l', p.1, p.2, by simpa using h⟩
theorem stepR_len (l : List (Nat × Nat)) (b : Nat) : (stepR l b).length ≤ l.length + 1 := by
  rcases snoc_or l with rfl | ⟨l', lo, hi, rfl⟩
  · simp [stepR_nil]
  · by_cases h : hi + 1 = b
    · rw [stepR_yes _ _ _ _ h]; simp
    · rw [stepR_no _ _ _ _ h]; simp
theorem rangesOf_len : ∀ (n : Nat) (xs : List (Fin 256)), xs.length = n → (rangesOf xs).length ≤ n
  | 0, xs, h => by rw [List.eq_nil_of_length_eq_zero h]; simp [rangesOf]
  | n + 1, xs, h => by
    rcases List.eq_nil_or_concat xs with rfl | ⟨ys, y, rfl⟩
    · simp at h
    · simp at h
      rw [List.concat_eq_append, rangesOf_snoc]
      have := rangesOf_len n ys h
      have := stepR_len (rangesOf ys) y.val
      omega
theorem upto_count (a : Cls) : ∀ k, (upto a k).length ≤ k
  | 0 => by simp [upto]
  | k + 1 => by
    have := upto_count a k
    rw [upto]
    split
    · split
      · rw [List.length_append, List.length_singleton]; omega
      · omega
    · omega
theorem rcells_len (l : List (Nat × Nat)) : (rcells l).length = l.length * 2 := by
  induction l with
  | nil => rfl
  | cons p l ih =>
    have e : rcells (p :: l) = .int .u8 (p.1 : Int) :: .int .u8 (p.2 : Int) :: rcells l := by simp [rcells]
    rw [e, List.length_cons, List.length_cons, ih, List.length_cons]; omega
theorem rcells_last (l : List (Nat × Nat)) (lo hi : Nat) : (rcells (l ++ [(lo, hi)]))[l.length * 2 + 1]? = some (.int .u8 (hi : Int)) := by
  have h := rcells_at (l ++ [(lo, hi)]) l.length (by simp)
  rw [h.2]; simp
theorem rcells_set (l : List (Nat × Nat)) (lo hi b : Nat) : (rcells (l ++ [(lo, hi)])).set (l.length * 2 + 1) (.int .u8 (b : Int)) = rcells (l ++ [(lo, b)]) := by
  rw [rcells_snoc, rcells_snoc, List.set_append_right _ _ (by rw [rcells_len]; omega), rcells_len]
  congr 1
  rw [show l.length * 2 + 1 - l.length * 2 = 1 by omega]; rfl
theorem rangesOf_lt : ∀ (n : Nat) (xs : List (Fin 256)), xs.length = n → ∀ p ∈ rangesOf xs, p.1 < 256 ∧ p.2 < 256
  | 0, xs, h, p, hp => by rw [List.eq_nil_of_length_eq_zero h] at hp; simp [rangesOf] at hp
  | n + 1, xs, h, p, hp => by
    rcases List.eq_nil_or_concat xs with rfl | ⟨ys, y, rfl⟩
    · simp at h
    · simp at h
      have hy := y.isLt
      rw [List.concat_eq_append, rangesOf_snoc] at hp
      have ih := rangesOf_lt n ys h
      rcases snoc_or (rangesOf ys) with e | ⟨l', lo, hi, e⟩
      · rw [e, stepR_nil] at hp
        simp at hp
        subst hp
        exact ⟨hy, hy⟩
      · rw [e] at ih hp
        have hl := ih (lo, hi) (by simp)
        by_cases hb : hi + 1 = y.val
        · rw [stepR_yes _ _ _ _ hb] at hp
          rcases List.mem_append.1 hp with hp | hp
          · exact ih p (by simp [hp])
          · simp at hp; subst hp; exact ⟨hl.1, hy⟩
        · rw [stepR_no _ _ _ _ hb] at hp
          rcases List.mem_append.1 hp with hp | hp
          · exact ih p hp
          · simp at hp; subst hp; exact ⟨hy, hy⟩
theorem not_row' {W : World} {B : Nat} {t e : TypeId} {cs : Array Value} {fr : Nat × Nat} (h : W.heap[B]? = some (.cells cs t fr)) (hte : t ≠ e) {base size k : Nat} {v : Value} {xs : List Value} (hr : W.ownsRow base e size v k xs) : some B ≠ v.ownBlock := by
  rcases hr.2 with ⟨rfl, _⟩ | ⟨g, cap, cur, rfl, _, hgb, _⟩
  · simp [Value.ownBlock]
  · intro e'
    obtain rfl : B = g := by simpa [Value.ownBlock] using e'
    have := h.symm.trans hgb
    simp at this
    exact hte this.2.1
theorem block_own {β : Type} (b : Nat) (cs : Array Value) (t : TypeId) : Own (fun (_ : β) W => W.heap[b]? = some (.cells cs t (0, 0))) := by
  intro s X Y row hx hg hrow
  refine (hg.block b (heap_lt hx) (fun e => ?_)).trans hx
  obtain ⟨o, ho, hc⟩ := hrow b e.symm
  rw [hx] at ho; cases ho; cases hc
theorem cell_two_new (W : World) (u v : Value) (t : TypeId) : ∀ j x, [u, v][j]? = some x → (W.alloc (.cells #[u, v] t)).cell? ((⟨W.heap.size, 0, none⟩ : Addr).add j) = some x := by
  simpa using World.news_of_block (cs := #[u, v]) (t := t) (fr := (0, 0)) (heap_alloc_new W (.cells #[u, v] t))
theorem ranges_put {a : Cls} {w W w1 : World} {v v' : Value} {k m : Nat} {xs ys : List Value} {pre : List (Fin 256)} {tmp : Obj} (hv : Boxed W (w.heap.size + 1) 155 v) (hC : W.heap[w.heap.size + 2]? = some (.cells a.cells 43 (0, 0))) (hB : Below w.heap.size w W)
    (hrow : W.ownsRow w.heap.size 158 2 v k xs) (hown' : w1.ownsRow w.heap.size 158 2 v' m ys) (hgrow : (W.alloc tmp).grownBy w1 v.ownBlock) (hm : m = (rangesOf pre).length) (hy : ys = rcells (rangesOf pre)) {B : Nat} :
    KeepsFrom B W (w1.setCell ⟨w.heap.size + 1, 0, none⟩ v') ∧ KpB (w.heap.size + 2) (.cells a.cells 43 (0, 0)) W (w1.setCell ⟨w.heap.size + 1, 0, none⟩ v') ∧
      ((∃ v, Boxed (w1.setCell ⟨w.heap.size + 1, 0, none⟩ v') (w.heap.size + 1) 155 v ∧ (w1.setCell ⟨w.heap.size + 1, 0, none⟩ v').ownsRow w.heap.size 158 2 v (rangesOf pre).length (rcells (rangesOf pre)) ∧ True) ∧
        (w1.setCell ⟨w.heap.size + 1, 0, none⟩ v').heap[w.heap.size + 2]? = some (.cells a.cells 43 (0, 0))) ∧ Below w.heap.size w (w1.setCell ⟨w.heap.size + 1, 0, none⟩ v') := by
  obtain ⟨hv1, hv2, hr2, hk2, hb2⟩ := hv.appended (by decide) hrow hB.size (by omega) hown' hgrow
  have hne := not_row' hC (by decide) hrow
  have hh : (w1.setCell ⟨w.heap.size + 1, 0, none⟩ v').heap[w.heap.size + 2]? = some (.cells a.cells 43 (0, 0)) :=
    heap_other (by dsimp only; omega) ((hgrow.block _ (heap_lt (heap_keep hC)) hne).trans (heap_keep hC))
  subst hm hy
  exact ⟨hk2.from _, fun _ => hh, ⟨⟨_, hv2, hr2, trivial⟩, hh⟩, hB.trans hb2⟩
/-- A class's ranges. -/
def rangesL (a : Cls) : List (Nat × Nat) := rangesOf (upto a 256)
set_option maxRecDepth 100000 in
set_option maxHeartbeats 4000000 in
theorem ranges_in (n : Nat) (hn : 3 ≤ n) (a : Cls) (ha : a.ok) (w : World) :
    CallsIn Fence.wide n Try.prog 92 #[V4 a] w fun e W' => ∃ v, e = .returned v ∧ W'.ownsRow w.heap.size 158 2 v (rangesL a).length (rcells (rangesL a)) ∧ Below w.heap.size w W' := by
  have h1 : 1 ≤ n := by omega
  obtain ⟨i0, hi1, hz0, hz1, hz2⟩ := info_parts infoRng
  refine callsIn_of_wp_marks Try.func92 rfl trivial ?_ rfl
  simp only [Try.ntmps92, List.size_toArray, List.length_cons, List.length_nil, Nat.reduceAdd, Nat.reduceSub, Array.replicate_succ, Array.replicate_zero, List.push_toArray, List.append_toArray, List.nil_append, List.cons_append]
  gi_wp2_with (refine ⟨trivial, ?_⟩; gi_at_call 64; refine (each_in (n - 1) a _).mono ?_; rintro e w' ⟨rfl, rfl⟩)
  have hcell : (((w.alloc (.cells #[.int .u64 (a.c0 : Int), .int .u64 (a.c1 : Int), .int .u64 (a.c2 : Int), .int .u64 (a.c3 : Int)] 43)).alloc (.cells #[.slice none 0 0] 155)).alloc (.cells a.cells 43)).heap[w.heap.size + 2]? = some (.cells a.cells 43 (0, 0)) := heap_new2 _ _ _ _
  have bL : Boxed (((w.alloc (.cells #[.int .u64 (a.c0 : Int), .int .u64 (a.c1 : Int), .int .u64 (a.c2 : Int), .int .u64 (a.c3 : Int)] 43)).alloc (.cells #[.slice none 0 0] 155)).alloc (.cells a.cells 43)) (w.heap.size + 1) 155 (.slice none 0 0) := heap_keep (heap_new1 _ _ _)
  have hB0 : Below w.heap.size w (((w.alloc (.cells #[.int .u64 (a.c0 : Int), .int .u64 (a.c1 : Int), .int .u64 (a.c2 : Int), .int .u64 (a.c3 : Int)] 43)).alloc (.cells #[.slice none 0 0] 155)).alloc (.cells a.cells 43)) := (((Below.refl _ w).alloc (Nat.le_refl _) _).alloc (by simp) _).alloc (by simp; omega) _
  refine wpIn_rangeFunc_ownG rfl h1 (gf := 89) (lb := #[.pointer (some ⟨w.heap.size + 2, 0, none⟩)]) rfl trivial (enters_of Try.func89 (by kernel_rfl) rfl)
    (each_stops (n - 1) (by omega) (w.heap.size + 2) a ha _ (by simp) hcell) kpB_t (kpB_b (by simp)) (Below.refl _ _) (fun _ => rfl)
    (fun pre W => ((∃ v, Boxed W (w.heap.size + 1) 155 v ∧ W.ownsRow w.heap.size 158 2 v (rangesOf pre).length (rcells (rangesOf pre)) ∧ True) ∧ W.heap[w.heap.size + 2]? = some (.cells a.cells 43 (0, 0))) ∧ Below w.heap.size w W)
    (fun _ _ _ => False)
    (OwnFrom.and (OwnFrom.and (Own.from (holdsRow_own w.heap.size (w.heap.size + 1) 155 158 2 (fun pre => (rangesOf pre).length) (fun pre => rcells (rangesOf pre)) (fun pre v => True)) _) (Own.from (block_own _ _ _) _)) (ownFrom_below (Nat.le_refl _) (by simp; omega)))
    (fun _ _ _ _ _ hs _ _ => hs)
    ⟨⟨⟨_, bL, World.ownsRow_nil _ _ _ _, trivial⟩, hcell⟩, hB0⟩
    (fun x => { tmps := #[V4 a, .pointer (some ⟨w.heap.size, 0, none⟩), .slice none 0 0, .pointer (some ⟨w.heap.size + 1, 0, none⟩), .int .u8 ((x.val : Nat) : Int), undef, V4 a, .func (.func 89) #[] #[.pointer (some ⟨w.heap.size + 1 + 1, 0, none⟩)], .int .u8 ((x.val : Nat) : Int), undef, undef, undef, undef, undef, undef, undef, undef, undef, undef, undef, undef, undef, undef, undef, undef, undef, undef, undef, undef, undef, undef, undef, undef, undef, undef, undef, undef, undef, undef], defers := [] }) ?assign ?body ?done ?stop
  case assign =>
    intro l x W K hK
    gi_wp2
    exact hK
  case body =>
    rintro l pre x W ⟨⟨⟨v, hv, hrow, _⟩, hC⟩, hB⟩ hlt
    have hx := x.isLt
    have hlen := rangesOf_len pre.length pre rfl
    have hc := hv.cell
    have hf := hv.frozen
    have hcnt := upto_count a 256
    obtain ⟨L, hL⟩ : ∃ L, L = rangesOf pre := ⟨_, rfl⟩
    have hst := rangesOf_snoc pre x
    rw [← hL] at hrow hst hlen
    rcases snoc_or L with rfl | ⟨L', lo, hi, rfl⟩
    · obtain ⟨A, c, rfl⟩ : ∃ A c, v = .slice A 0 c := by
        rcases hrow.2 with ⟨rfl, _⟩ | ⟨g, cap, cur, rfl, _⟩
        · exact ⟨_, _, rfl⟩
        · exact ⟨_, _, rfl⟩
      rw [List.length_nil] at hrow
      have hR := Lib.hid hrow; clear hrow
      have hSt := Lib.hid hst; clear hst
      have HC := Lib.hid hC; clear hC
      clear hL
      gi_wp2_with (gi_at_builtin; refine wpListIn_append_own _ rfl _ _ 155 rfl w.heap.size 158 i0 (.agg #[.int .u8 0, .int .u8 0]) 2 2 Try.underlying155 hi1 hz0 hz1 hz2 rfl (by decide) _ _ _ rfl (hR.out.alloc _) ⟨W.heap.size, 0, none⟩ 1 1 [.int .u8 ((x.val : Nat) : Int), .int .u8 ((x.val : Nat) : Int)] rfl rfl (cell_two_new _ _ _ _) (by simp [Value.oneCell']) (by unfold maxLen; omega) (by omega) (by have := hB.size; simp; omega) ?_; intro v' w1 hown' hgrow _; obtain ⟨g', cap', rfl⟩ := ownsRow_succ hown'; have HW := Lib.hid hown'; have HG := Lib.hid hgrow; have hc1 := ((hv.alloc _).kept hgrow (hv.not_row (by decide) hR.out)).cell; have hf1 := ((hv.alloc _).kept hgrow (hv.not_row (by decide) hR.out)).frozen; clear hown' hgrow)
      exact ranges_put hv HC.out hB hR.out HW.out HG.out (by rw [hSt.out, stepR_nil]; rfl) (by rw [hSt.out, stepR_nil]; rfl)
    · rw [List.length_append, List.length_singleton] at hrow hlen
      obtain ⟨g, cap, rfl⟩ := ownsRow_succ hrow
      have hne := not_row' hC (by decide) hrow
      have hge : w.heap.size ≤ g := by
        rcases hrow.2 with ⟨h, _⟩ | ⟨g', cap', cur, h, h2, _⟩
        · cases h
        · cases h; exact h2
      have hhi : hi < 256 := (rangesOf_lt pre.length pre rfl (lo, hi) (by rw [← hL]; simp)).2
      have hgn : g ≠ w.heap.size + 2 := fun e => hne (by rw [← e]; rfl)
      have hcl := (hrow.cellAt (L'.length * 2 + 1) (by omega)).trans (rcells_last L' lo hi)
      have hfl := hrow.frozenAt (L'.length * 2 + 1)
      have hR := Lib.hid hrow; clear hrow hne
      have HC := Lib.hid hC; clear hC
      have hSt := Lib.hid hst; clear hst
      clear hL
      by_cases hb : hi + 1 = x.val
      · have hbi : ((hi : Int) + 1 == ((x.val : Nat) : Int)) = true := by rw [beq_iff_eq]; omega
        have HB := Lib.hid hb; clear hb
        gi_wp2
        have hst := hR.out.stored (L'.length * 2 + 1) (.int .u8 ((x.val : Nat) : Int))
        refine ⟨(KeepsOthers.setCell _ _ _).from _, fun hk => heap_other (fun e => hgn e.symm) hk, ⟨⟨_, hv.kept hst.2 (hv.not_row (by decide) hR.out), ?_, trivial⟩, heap_other (fun e => hgn e.symm) HC.out⟩, hB.setCell hge _⟩
        rw [hSt.out, stepR_yes _ _ _ _ HB.out, ← rcells_set L' lo hi x.val]
        simpa using hst.1
      · have hbi : ((hi : Int) + 1 == ((x.val : Nat) : Int)) = false := by rw [beq_eq_false_iff_ne]; omega
        have HB := Lib.hid hb; clear hb
        gi_wp2_with (gi_at_builtin; refine wpListIn_append_own _ rfl _ _ 155 rfl w.heap.size 158 i0 (.agg #[.int .u8 0, .int .u8 0]) 2 2 Try.underlying155 hi1 hz0 hz1 hz2 rfl (by decide) _ _ _ rfl (hR.out.alloc _) ⟨W.heap.size, 0, none⟩ 1 1 [.int .u8 ((x.val : Nat) : Int), .int .u8 ((x.val : Nat) : Int)] rfl rfl (cell_two_new _ _ _ _) (by simp [Value.oneCell']) (by unfold maxLen; omega) (by omega) (by have := hB.size; simp; omega) ?_; intro v' w1 hown' hgrow _; obtain ⟨g', cap', rfl⟩ := ownsRow_succ hown'; have HW := Lib.hid hown'; have HG := Lib.hid hgrow; have hc1 := ((hv.alloc _).kept hgrow (hv.not_row (by decide) hR.out)).cell; have hf1 := ((hv.alloc _).kept hgrow (hv.not_row (by decide) hR.out)).frozen; clear hown' hgrow)
        exact ranges_put hv HC.out hB hR.out HW.out HG.out (by rw [hSt.out, stepR_no _ _ _ _ HB.out]; simp only [List.length_append, List.length_singleton]) (by rw [hSt.out, stepR_no _ _ _ _ HB.out, rcells_snoc (L' ++ [(lo, hi)])])
  case done =>
    rintro D ys W hD rfl ⟨⟨⟨v, hv, hrow, _⟩, hC⟩, hB⟩ hK
    have hc := hv.cell
    gi_wp2
    refine ⟨by simp, .inl ⟨_, _, rfl, run_takeDeferred hK, ?_⟩⟩
    exact ⟨_, results_tmp rfl _ _ _, v, rfl, ownsRow_putObj hrow _ hK rfl, hB.trans (belowK_b (w := w) (Nat.le_refl _) W D _ _ (by simp at hD; omega) hK rfl rfl)⟩
  case stop =>
    rintro D c pre W _ _ h _
    exact h.elim
end Go.Proofs.Ytflkgoggnomehaa
set_option linter.unusedVariables false
set_option linter.unusedSimpArgs false
namespace Go.Proofs.Ytflkgoggnomehaa
/-- A byte's own text. -/
def hexd (d : Nat) : Nat := if d < 10 then 48 + d else 87 + d
def spellL (b : Nat) : List Nat :=
  if b = 9 then [92, 116] else if b = 10 then [92, 110] else if b = 13 then [92, 114] else if b = 92 ∨ b = 93 ∨ b = 45 ∨ b = 94 then [92, b]
  else if b < 32 ∨ 126 < b then [92, 120, hexd (b / 16), hexd (b % 16)] else [b]
/-- The bytes of a text at a place. -/
def BAt (s : ByteArray) (p : Nat) (l : List Nat) : Prop := p + l.length ≤ s.size ∧ ∀ i, i < l.length → bat s (p + i) = l.getD i 0
theorem BAt.right {s : ByteArray} {p : Nat} {l m : List Nat} (h : BAt s p (l ++ m)) : BAt s (p + l.length) m := by
  refine ⟨by have := h.1; rw [List.length_append] at this; omega, fun i hi => ?_⟩
  rw [Nat.add_assoc, h.2 (l.length + i) (by rw [List.length_append]; omega), List.getD_eq_getElem?_getD, List.getElem?_append_right (by omega), ← List.getD_eq_getElem?_getD]
  congr 1; omega
theorem BAt.head {s : ByteArray} {p c : Nat} {t : List Nat} (h : BAt s p (c :: t)) : p < s.size ∧ bat s p = c := by
  have h1 := h.1; have h2 := h.2 0 (by simp)
  simp at h1 h2
  exact ⟨by omega, h2⟩
/-- A range's own text; what is read of it. -/
def rngT (r : Nat × Nat) : List Nat := spellL r.1 ++ ((if 1 < r.2 - r.1 then [45] else []) ++ (if r.1 < r.2 then spellL r.2 else []))
def textR (l : List (Nat × Nat)) : List Nat := l.flatMap rngT
theorem cnt_yes {p : Nat → Bool} {k : Nat} (h : p k = true) : cnt p (k + 1) = cnt p k + 1 := by unfold cnt; rw [List.range_succ, List.filter_append]; simp [h]
theorem cnt_no {p : Nat → Bool} {k : Nat} (h : p k = false) : cnt p (k + 1) = cnt p k := by unfold cnt; rw [List.range_succ, List.filter_append]; simp [h]
/-- Ranges that rise, do not touch, and hold what a set holds below a number. -/
structure Good (l : List (Nat × Nat)) (k : Nat) (p : Nat → Bool) : Prop where
  le : ∀ r ∈ l, r.1 ≤ r.2 ∧ r.2 < k
  up : l.Pairwise fun r q => r.2 + 1 < q.1
  mem : ∀ j, j < k → inRanges l j = p j
  sum : (l.map fun r => r.2 - r.1 + 1).sum = cnt p k
theorem inRanges_snoc (l : List (Nat × Nat)) (lo hi j : Nat) : inRanges (l ++ [(lo, hi)]) j = (inRanges l j || (decide (lo ≤ j) && decide (j ≤ hi))) := by unfold inRanges; rw [List.any_append]; simp
theorem inRanges_far {l : List (Nat × Nat)} {k j : Nat} (h : ∀ r ∈ l, r.2 < k) (hj : k ≤ j) : inRanges l j = false := by
  unfold inRanges
  rw [List.any_eq_false]
  intro r hr
  have := h r hr
  simp
  omega
theorem good_nil (p : Nat → Bool) : Good [] 0 p := ⟨fun r hr => by simp at hr, List.Pairwise.nil, fun j hj => by omega, rfl⟩
theorem good_no {l : List (Nat × Nat)} {k : Nat} {p : Nat → Bool} (g : Good l k p) (h : p k = false) : Good l (k + 1) p :=
  ⟨fun r hr => ⟨(g.le r hr).1, by have := (g.le r hr).2; omega⟩, g.up, fun j hj => by
    by_cases e : j = k
    · subst e; rw [h]; exact inRanges_far (fun r hr => (g.le r hr).2) (Nat.le_refl _)
    · exact g.mem j (by omega), by rw [cnt_no h]; exact g.sum⟩
theorem good_one {l : List (Nat × Nat)} {k : Nat} {p : Nat → Bool} (g : Good l k p) (h : p k = true) (hfar : ∀ r ∈ l, r.2 + 1 < k) : Good (l ++ [(k, k)]) (k + 1) p := by
  refine ⟨fun r hr => ?_, ?_, fun j hj => ?_, ?_⟩
  · rcases List.mem_append.1 hr with hr | hr
    · exact ⟨(g.le r hr).1, by have := (g.le r hr).2; omega⟩
    · rw [List.mem_singleton.1 hr]; exact ⟨Nat.le_refl _, by dsimp only; omega⟩
  · rw [List.pairwise_append]
    refine ⟨g.up, List.pairwise_singleton _ _, fun r hr q hq => ?_⟩
    rw [List.mem_singleton.1 hq]
    exact hfar r hr
  · rw [inRanges_snoc]
    by_cases e : j = k
    · subst e; simp [h]
    · rw [g.mem j (by omega)]; simp; omega
  · rw [cnt_yes h, List.map_append, List.sum_append, g.sum]; simp
theorem good_step {l : List (Nat × Nat)} {k : Nat} {p : Nat → Bool} (g : Good l k p) (h : p k = true) : Good (stepR l k) (k + 1) p := by
  rcases snoc_or l with rfl | ⟨l', lo, hi, rfl⟩
  · rw [stepR_nil]
    exact good_one (l := []) g h fun r hr => by simp at hr
  · have hlast := g.le (lo, hi) (by simp)
    have hup := List.pairwise_append.1 g.up
    have hfl : ∀ r ∈ l', r.2 + 1 < lo := fun r hr => hup.2.2 r hr (lo, hi) (by simp)
    dsimp only at hlast
    by_cases e : hi + 1 = k
    · rw [stepR_yes _ _ _ _ e]
      refine ⟨fun r hr => ?_, ?_, fun j hj => ?_, ?_⟩
      · rcases List.mem_append.1 hr with hr | hr
        · have := g.le r (by simp [hr]); exact ⟨this.1, by omega⟩
        · rw [List.mem_singleton.1 hr]; exact ⟨by dsimp only; omega, by dsimp only; omega⟩
      · rw [List.pairwise_append]
        refine ⟨hup.1, List.pairwise_singleton _ _, fun r hr q hq => ?_⟩
        rw [List.mem_singleton.1 hq]
        exact hfl r hr
      · rw [inRanges_snoc]
        by_cases e2 : j = k
        · subst e2; rw [h]; simp; right; omega
        · have := g.mem j (by omega)
          rw [inRanges_snoc] at this
          rw [← this]
          congr 2
          by_cases q : j ≤ hi
          · simp [q]; omega
          · exfalso; omega
      · have hs := g.sum
        rw [List.map_append, List.sum_append] at hs ⊢
        rw [cnt_yes h, ← hs]
        simp
        omega
    · rw [stepR_no _ _ _ _ e]
      refine good_one g h fun r hr => ?_
      rcases List.mem_append.1 hr with hr | hr
      · have := hfl r hr; omega
      · rw [List.mem_singleton.1 hr]; dsimp only; omega
/-- Two lists of ranges that rise and do not touch, and hold the same, are one. -/
def Up (l : List (Nat × Nat)) : Prop := (∀ r ∈ l, r.1 ≤ r.2) ∧ l.Pairwise fun r q => r.2 + 1 < q.1
theorem Up.tail {r : Nat × Nat} {l : List (Nat × Nat)} (h : Up (r :: l)) : Up l := ⟨fun q hq => h.1 q (by simp [hq]), (List.pairwise_cons.1 h.2).2⟩
theorem inRanges_cons (r : Nat × Nat) (l : List (Nat × Nat)) (j : Nat) : inRanges (r :: l) j = ((decide (r.1 ≤ j) && decide (j ≤ r.2)) || inRanges l j) := rfl
theorem inRanges_ex {l : List (Nat × Nat)} {j : Nat} (h : inRanges l j = true) : ∃ r ∈ l, r.1 ≤ j ∧ j ≤ r.2 := by
  unfold inRanges at h
  rw [List.any_eq_true] at h
  obtain ⟨r, hr, h⟩ := h
  simp at h
  exact ⟨r, hr, h⟩
theorem inRanges_mem {l : List (Nat × Nat)} {j : Nat} {r : Nat × Nat} (hr : r ∈ l) (h1 : r.1 ≤ j) (h2 : j ≤ r.2) : inRanges l j = true := by
  unfold inRanges
  rw [List.any_eq_true]
  exact ⟨r, hr, by simp [h1, h2]⟩
theorem Up.behind {r : Nat × Nat} {l : List (Nat × Nat)} (h : Up (r :: l)) {j : Nat} (hj : j ≤ r.2 + 1) : inRanges l j = false := by
  rcases q : inRanges l j
  · rfl
  · obtain ⟨x, hx, h1, h2⟩ := inRanges_ex q
    have := (List.pairwise_cons.1 h.2).1 x hx
    omega
theorem up_uniq : ∀ (l m : List (Nat × Nat)), Up l → Up m → (∀ j, inRanges l j = inRanges m j) → l = m
  | [], [], _, _, _ => rfl
  | [], r :: m, _, hm, h => by
    have := h r.1
    rw [inRanges_mem (l := r :: m) (by simp) (Nat.le_refl _) (hm.1 r (by simp))] at this
    cases this
  | r :: l, [], hl, _, h => by
    have := h r.1
    rw [inRanges_mem (l := r :: l) (by simp) (Nat.le_refl _) (hl.1 r (by simp))] at this
    cases this
  | (a, b) :: l, (c, d) :: m, hl, hm, h => by
    have hab : a ≤ b := hl.1 (a, b) (by simp)
    have hcd : c ≤ d := hm.1 (c, d) (by simp)
    have low : ∀ {a b c d : Nat} {l m : List (Nat × Nat)}, a ≤ b → c ≤ d → Up ((a, b) :: l) → Up ((c, d) :: m) → (∀ j, inRanges ((a, b) :: l) j = inRanges ((c, d) :: m) j) → c ≤ a := by
      intro a b c d l m hab hcd hl hm h
      have e := h a
      rw [inRanges_mem (l := (a, b) :: l) (r := (a, b)) (by simp) (Nat.le_refl _) hab] at e
      obtain ⟨x, hx, h1, h2⟩ := inRanges_ex e.symm
      rcases List.mem_cons.1 hx with rfl | hx
      · exact h1
      · have := (List.pairwise_cons.1 hm.2).1 x hx
        dsimp only at this
        omega
    have e1 : a = c := Nat.le_antisymm (low hcd hab hm hl fun j => (h j).symm) (low hab hcd hl hm h)
    subst e1
    have high : ∀ {a b d : Nat} {l m : List (Nat × Nat)}, a ≤ b → Up ((a, b) :: l) → Up ((a, d) :: m) → (∀ j, inRanges ((a, b) :: l) j = inRanges ((a, d) :: m) j) → d ≤ b := by
      intro a b d l m hab hl hm h
      rcases Nat.lt_or_ge b d with hlt | hge
      · exfalso
        have e := h (b + 1)
        rw [inRanges_mem (l := (a, d) :: m) (r := (a, d)) (by simp) (by dsimp only; omega) hlt, inRanges_cons, hl.behind (Nat.le_refl _)] at e
        simp at e
        omega
      · exact hge
    have e2 : b = d := Nat.le_antisymm (high hcd hm hl fun j => (h j).symm) (high hab hl hm h)
    subst e2
    congr 1
    refine up_uniq l m hl.tail hm.tail fun j => ?_
    by_cases q : j ≤ b + 1
    · rw [hl.behind q, hm.behind q]
    · have e := h j
      rw [inRanges_cons, inRanges_cons] at e
      have z : (decide (a ≤ j) && decide (j ≤ b)) = false := by simp; omega
      rw [z, Bool.false_or, Bool.false_or] at e
      exact e
/-- The runs of a set that begin below a number. -/
structure Runs (l : List (Nat × Nat)) (i : Nat) (p : Nat → Bool) : Prop where
  run : ∀ r ∈ l, r.1 < i ∧ r.1 ≤ r.2 ∧ r.2 < 256 ∧ (∀ j, r.1 ≤ j → j ≤ r.2 → p j = true) ∧ (r.2 = 255 ∨ p (r.2 + 1) = false)
  up : l.Pairwise fun r q => r.2 + 1 < q.1
  all : ∀ s, s < i → p s = true → (s = 0 ∨ p (s - 1) = false) → ∃ r ∈ l, r.1 = s
theorem runs_nil (p : Nat → Bool) : Runs [] 0 p := ⟨fun r h => by simp at h, List.Pairwise.nil, fun s hs => by omega⟩
theorem runs_no {l : List (Nat × Nat)} {i : Nat} {p : Nat → Bool} (h : Runs l i p) (hn : p i = false ∨ (i ≠ 0 ∧ p (i - 1) = true)) : Runs l (i + 1) p :=
  ⟨fun r hr => ⟨by have := (h.run r hr).1; omega, (h.run r hr).2⟩, h.up, fun s hs h1 h2 => by
    by_cases e : s = i
    · subst e
      rcases hn with hn | ⟨hn, hn2⟩
      · rw [hn] at h1; cases h1
      · rcases h2 with h2 | h2
        · exact absurd h2 hn
        · rw [hn2] at h2; cases h2
    · exact h.all s (by omega) h1 h2⟩
theorem runs_yes {l : List (Nat × Nat)} {i k : Nat} {p : Nat → Bool} (h : Runs l i p) (hi : i = 0 ∨ p (i - 1) = false) (hk : i ≤ k) (hk2 : k < 256) (ha : ∀ j, i ≤ j → j ≤ k → p j = true) (he : k = 255 ∨ p (k + 1) = false) : Runs (l ++ [(i, k)]) (i + 1) p := by
  refine ⟨fun r hr => ?_, ?_, fun s hs h1 h2 => ?_⟩
  · rcases List.mem_append.1 hr with hr | hr
    · exact ⟨by have := (h.run r hr).1; omega, (h.run r hr).2⟩
    · rw [List.mem_singleton.1 hr]; exact ⟨Nat.lt_succ_self _, hk, hk2, ha, he⟩
  · rw [List.pairwise_append]
    refine ⟨h.up, List.pairwise_singleton _ _, fun r hr q hq => ?_⟩
    rw [List.mem_singleton.1 hq]
    dsimp only
    have g := h.run r hr
    rcases hi with rfl | hi
    · omega
    · have q1 : r.2 < i - 1 := by
        rcases Nat.lt_or_ge r.2 (i - 1) with q | q
        · exact q
        · have := g.2.2.2.1 (i - 1) (by omega) q
          rw [hi] at this; cases this
      omega
  · by_cases e : s = i
    · subst e; exact ⟨(s, k), by simp, rfl⟩
    · obtain ⟨r, hr, e2⟩ := h.all s (by omega) h1 h2
      exact ⟨r, by simp [hr], e2⟩
theorem run_start (p : Nat → Bool) : ∀ j, p j = true → ∃ s, s ≤ j ∧ (∀ t, s ≤ t → t ≤ j → p t = true) ∧ (s = 0 ∨ p (s - 1) = false)
  | 0, h => ⟨0, Nat.le_refl _, fun t _ h2 => (show t = 0 by omega) ▸ h, .inl rfl⟩
  | j + 1, h => by
    rcases q : p j
    · exact ⟨j + 1, Nat.le_refl _, fun t h1 h2 => (show t = j + 1 by omega) ▸ h, .inr (by simpa using q)⟩
    · obtain ⟨s, h1, h2, h3⟩ := run_start p j q
      refine ⟨s, by omega, fun t h4 h5 => ?_, h3⟩
      by_cases e : t = j + 1
      · subst e; exact h
      · exact h2 t h4 (by omega)
theorem runs_mem {l : List (Nat × Nat)} {p : Nat → Bool} (h : Runs l 256 p) (j : Nat) (hj : j < 256) : inRanges l j = p j := by
  rcases q : p j
  · rcases q2 : inRanges l j
    · rfl
    · obtain ⟨r, hr, h1, h2⟩ := inRanges_ex q2
      rw [(h.run r hr).2.2.2.1 j h1 h2] at q; cases q
  · obtain ⟨s, h1, h2, h3⟩ := run_start p j q
    obtain ⟨r, hr, e⟩ := h.all s (by omega) (h2 s (Nat.le_refl _) h1) h3
    have g := h.run r hr
    refine inRanges_mem hr (by omega) ?_
    rcases Nat.lt_or_ge r.2 j with q3 | q3
    · exfalso
      rcases g.2.2.2.2 with g | g
      · omega
      · rw [h2 (r.2 + 1) (by omega) (by omega)] at g; cases g
    · exact q3
theorem runs_good {l m : List (Nat × Nat)} {p : Nat → Bool} (h : Runs l 256 p) (g : Good m 256 p) : l = m := by
  refine up_uniq l m ⟨fun r hr => (h.run r hr).2.1, h.up⟩ ⟨fun r hr => (g.le r hr).1, g.up⟩ fun j => ?_
  by_cases q : j < 256
  · rw [runs_mem h j q, g.mem j q]
  · rw [inRanges_far (k := 256) (fun r hr => (h.run r hr).2.2.1) (by omega), inRanges_far (k := 256) (fun r hr => (g.le r hr).2) (by omega)]
theorem good_upto (a : Cls) : ∀ k, k ≤ 256 → Good (rangesOf (upto a k)) k a.mem
  | 0, _ => good_nil _
  | k + 1, h => by
    have ih := good_upto a k (by omega)
    by_cases q : a.mem k = true
    · rw [upto_yes a k (by omega) q, rangesOf_snoc]; exact good_step ih q
    · rw [upto_no a k (by simpa using q)]; exact good_no ih (by simpa using q)
theorem good_ranges (a : Cls) : Good (rangesL a) 256 a.mem := good_upto a 256 (Nat.le_refl _)
/-- A class's own text. -/
def textC (a : Cls) : List Nat := if 128 < a.bytes.length then 91 :: 94 :: (textR (rangesL a.not) ++ [93]) else 91 :: (textR (rangesL a) ++ [93])
end Go.Proofs.Ytflkgoggnomehaa
set_option linter.unusedVariables false
set_option linter.unusedSimpArgs false
namespace Go.Proofs.Ytflkgoggnomehaa.Sp
open Go.RowKit Go.Proofs.Ytflkgoggnomehaa
def special : List Nat := [92, 124, 42, 43, 63, 40, 41, 91, 93, 46, 126]
def hx (n : Nat) : Nat := if n < 10 then 48 + n else 87 + n
def spL (c : Nat) : List Nat := if c = 10 then [92, 110] else if c = 13 then [92, 114] else if c = 9 then [92, 116] else if c ∈ special then [92, c] else if 32 ≤ c ∧ c ≤ 126 then [c] else [92, 120, hx (c / 16), hx (c % 16)]
def by_ (l : List Nat) : ByteArray := ⟨(l.map fun n => UInt8.ofNat n).toArray⟩
def spellF (a : Int) : ByteArray := by_ (spL a.toNat)
def spB : ByteArray := ⟨#[92, 124, 42, 43, 63, 40, 41, 91, 93, 46, 126]⟩
theorem index_all : ∀ c : Fin 256, decide (0 ≤ Lib.indexByte spB.data.toList c.val.toUInt8) = decide (c.val ∈ special) := by decide +kernel
theorem index_in {c : Nat} (hc : c < 256) : decide (0 ≤ Lib.indexByte spB.data.toList (c : Int).toNat.toUInt8) = decide (c ∈ special) := index_all ⟨c, hc⟩
theorem special_lt {c : Nat} (h : c ∈ special) : 40 ≤ c ∧ c < 127 := by
  unfold special at h
  simp at h
  omega
end Go.Proofs.Ytflkgoggnomehaa.Sp
set_option linter.unusedVariables false
set_option linter.unusedSimpArgs false
namespace Go.Proofs.Ytflkgoggnomehaa.Sp
open Go.RowKit Go.Proofs.Ytflkgoggnomehaa
set_option maxHeartbeats 1000000 in
set_option maxRecDepth 100000 in
theorem sl_c (s : ByteArray) (c : Int) (w : World) :
    Calls Try.prog 113 #[.string s, .int .u8 c] w fun e w' => e = .returned (.int .i64 (Lib.indexByte s.data.toList c.toNat.toUInt8)) ∧ w' = w := by
  go_enter Try.func113, Try.ntmps113
  go_wp2
  rw [run_callFunc_extern Try.func124 (by kernel_rfl) (by kernel_rfl) (by kernel_rfl) (e := Extern.BytealgIndexByte.indexByte) (by kernel_rfl), Lib.run_indexByteString]
  simp only [Result.andThen]
  rw [Oper.upon_value]
  go_wp2
  go_ret
  exact ⟨rfl, rfl⟩
set_option maxHeartbeats 1000000 in
theorem index_c (s : ByteArray) (c : Int) (w : World) : Calls Try.prog 90 #[.string s, .int .u8 c] w fun e w' => e = .returned (.int .i64 (Lib.indexByte s.data.toList c.toNat.toUInt8)) ∧ w' = w := by
  go_enter Try.func90, Try.ntmps90
  go_wp2_with (go_at_call 113; refine (sl_c _ _ _).mono ?_; rintro e w' ⟨rfl, rfl⟩)
  go_ret
  exact ⟨rfl, rfl⟩
theorem index_yes (c : Nat) (hc : c < 256) (h : c ∈ special) (w : World) : Calls Try.prog 90 #[.string ⟨#[92, 124, 42, 43, 63, 40, 41, 91, 93, 46, 126]⟩, .int .u8 (c : Int)] w fun e w' => ∃ r : Int, e = .returned (.int .i64 r) ∧ decide (0 ≤ r) = true ∧ w' = w :=
  (index_c _ _ w).mono fun e w' ⟨h1, h2⟩ => ⟨_, h1, (index_in hc).trans (decide_eq_true h), h2⟩
theorem index_no (c : Nat) (hc : c < 256) (h : ¬ c ∈ special) (w : World) : Calls Try.prog 90 #[.string ⟨#[92, 124, 42, 43, 63, 40, 41, 91, 93, 46, 126]⟩, .int .u8 (c : Int)] w fun e w' => ∃ r : Int, e = .returned (.int .i64 r) ∧ decide (0 ≤ r) = false ∧ w' = w :=
  (index_c _ _ w).mono fun e w' ⟨h1, h2⟩ => ⟨_, h1, (index_in hc).trans (decide_eq_false h), h2⟩
theorem below_drewN_self (w : World) (n : Nat) : Below w.heap.size w (w.drewN n) := ⟨rfl, rfl, rfl, Nat.le_refl _, fun _ _ => rfl⟩
theorem hex_all : ∀ c : Fin 256, ((⟨#[92, 120]⟩ : ByteArray) ++ (⟨#[48, 49, 50, 51, 52, 53, 54, 55, 56, 57, 97, 98, 99, 100, 101, 102]⟩ : ByteArray).extract (c.val / 16) (c.val / 16 + 1) ++ (⟨#[48, 49, 50, 51, 52, 53, 54, 55, 56, 57, 97, 98, 99, 100, 101, 102]⟩ : ByteArray).extract (c.val % 16) (c.val % 16 + 1)).data.toList = (by_ [92, 120, hx (c.val / 16), hx (c.val % 16)]).data.toList := by decide +kernel
theorem hex_text {c : Nat} (hc : c < 256) : (⟨#[92, 120]⟩ : ByteArray) ++ (⟨#[48, 49, 50, 51, 52, 53, 54, 55, 56, 57, 97, 98, 99, 100, 101, 102]⟩ : ByteArray).extract (c / 16) (c / 16 + 1) ++ (⟨#[48, 49, 50, 51, 52, 53, 54, 55, 56, 57, 97, 98, 99, 100, 101, 102]⟩ : ByteArray).extract (c % 16) (c % 16 + 1) = by_ [92, 120, hx (c / 16), hx (c % 16)] :=
  ByteArray.ext (Array.toList_inj.1 (hex_all ⟨c, hc⟩))
theorem enc_one {c : Nat} (hc : c < 128) : Utf8.encode (c : Int) = by_ [c] := by
  have hv : Utf8.valid (c : Int) = true := by unfold Utf8.valid; simp; omega
  unfold Utf8.encode
  simp only [hv, if_true, Int.toNat_natCast]
  rw [if_pos hc]
  rfl
theorem conv2 (c : Nat) (hc : c < 128) (w : World) : (convert 21 9 (.int .i32 (c : Int))).run Try.prog w = .ok (.string (by_ [c])) w := by
  unfold convert
  simp [run_underlying Try.underlying21, run_underlying Try.underlying9, Conv.intToString, enc_one hc]
set_option maxHeartbeats 1000000 in
set_option maxRecDepth 100000 in
theorem spell_c (c : Nat) (hc : c < 256) (w : World) : Calls Try.prog 65 #[.int .u8 (c : Int)] w fun e w' => e = .returned (.string (spellF (c : Int))) ∧ Below w.heap.size w w' := by
  by_cases q1 : c = 10
  · subst q1
    go_enter Try.func65, Try.ntmps65
    go_wp2
    go_ret
    exact ⟨rfl, Below.refl _ _⟩
  by_cases q2 : c = 13
  · subst q2
    go_enter Try.func65, Try.ntmps65
    go_wp2
    go_ret
    exact ⟨rfl, Below.refl _ _⟩
  by_cases q3 : c = 9
  · subst q3
    go_enter Try.func65, Try.ntmps65
    go_wp2
    go_ret
    exact ⟨rfl, Below.refl _ _⟩
  have b1 : ((c : Int) == 10) = false := by simp; omega
  have b2 : ((c : Int) == 13) = false := by simp; omega
  have b3 : ((c : Int) == 9) = false := by simp; omega
  by_cases q4 : c ∈ special
  · have hlt := special_lt q4
    have HQ := Lib.hid q4
    have HC := Lib.hid hc
    clear q4
    have hcv := conv2 c (by omega)
    have hres : (⟨#[92]⟩ : ByteArray) ++ by_ [c] = spellF (c : Int) := by
      unfold spellF spL
      rw [Int.toNat_natCast, if_neg q1, if_neg q2, if_neg q3, if_pos HQ.out]
      rfl
    have HRES := Lib.hid hres
    clear hres
    go_enter Try.func65, Try.ntmps65
    go_wp2_with fail
    refine (index_yes c HC.out HQ.out _).mono ?_
    rintro e w' ⟨r, rfl, hr, rfl⟩
    go_wp2
    go_ret
    exact ⟨by rw [HRES.out]; try rfl, Below.refl _ _⟩
  have HQ := Lib.hid q4
  have HC := Lib.hid hc
  clear q4
  by_cases q5 : 32 ≤ c ∧ c ≤ 126
  · have hcv := conv2 c (by omega)
    have hres : by_ [c] = spellF (c : Int) := by
      unfold spellF spL
      rw [Int.toNat_natCast, if_neg q1, if_neg q2, if_neg q3, if_neg HQ.out, if_pos q5]
    have HRES := Lib.hid hres
    have e1 : decide (32 ≤ (c : Int)) = true := decide_eq_true (by omega)
    have e2 : decide ((c : Int) ≤ 126) = true := decide_eq_true (by omega)
    clear hres q5
    go_enter Try.func65, Try.ntmps65
    go_wp2_with fail
    refine (index_no c HC.out HQ.out _).mono ?_
    rintro e w' ⟨r, rfl, hr, rfl⟩
    go_wp2
    go_ret
    exact ⟨by rw [HRES.out]; try rfl, Below.refl _ _⟩
  · have hres : (⟨#[92, 120]⟩ : ByteArray) ++ (⟨#[48, 49, 50, 51, 52, 53, 54, 55, 56, 57, 97, 98, 99, 100, 101, 102]⟩ : ByteArray).extract (c / 16) (c / 16 + 1) ++ (⟨#[48, 49, 50, 51, 52, 53, 54, 55, 56, 57, 97, 98, 99, 100, 101, 102]⟩ : ByteArray).extract (c % 16) (c % 16 + 1) = spellF (c : Int) := by
      unfold spellF spL
      rw [Int.toNat_natCast, if_neg q1, if_neg q2, if_neg q3, if_neg HQ.out, if_neg q5]
      exact hex_text hc
    have HRES := Lib.hid hres
    clear hres
    by_cases q6 : 32 ≤ c
    · have e1 : decide (32 ≤ (c : Int)) = true := decide_eq_true (by omega)
      have e2 : decide ((c : Int) ≤ 126) = false := decide_eq_false (by omega)
      clear q5
      go_enter Try.func65, Try.ntmps65
      go_wp2_with fail
      refine (index_no c HC.out HQ.out _).mono ?_
      rintro e w' ⟨r, rfl, hr, rfl⟩
      go_wp2
      go_quiet (fail)
      go_wp2
      go_ret
      exact ⟨by rw [HRES.out]; try rfl, below_drewN_self _ _⟩
    · have e1 : decide (32 ≤ (c : Int)) = false := decide_eq_false (by omega)
      clear q5
      go_enter Try.func65, Try.ntmps65
      go_wp2_with fail
      refine (index_no c HC.out HQ.out _).mono ?_
      rintro e w' ⟨r, rfl, hr, rfl⟩
      go_wp2
      go_quiet (fail)
      go_wp2
      go_ret
      exact ⟨by rw [HRES.out]; try rfl, below_drewN_self _ _⟩
end Go.Proofs.Ytflkgoggnomehaa.Sp
set_option linter.unusedVariables false
namespace Go.Proofs.YtflkgoggnomehaaW.PrintLast
open Go.RowKit
abbrev tt : Bool := true
abbrev ff : Bool := false
theorem pS : (∀ (a : Act) (d : Tmp) (v : Value), a.put (some d) v = { a with tmps := a.tmps.setIfInBounds d v }) ∧ (∀ (l : List Value) (i : Nat) (v : Value), l.toArray.setIfInBounds i v = (l.set i v).toArray) ∧ (∀ (x y : Value) (l : List Value), (x :: l).set 0 y = y :: l) ∧ (∀ (x y : Value) (l : List Value) (n : Nat), (x :: l).set (n + 1) y = x :: l.set n y) ∧ (∀ n : Int, IntKind.i64.wrap n = Go.RowKit.wrap64 n) ∧ (∀ n : Int, IntKind.i32.wrap n = Go.RowKit.wrap32 n) :=
  ⟨fun _ _ _ => rfl, fun _ _ _ => by simp, fun _ _ _ => rfl, fun _ _ _ _ => rfl, i64_w, i32_w⟩
end Go.Proofs.YtflkgoggnomehaaW.PrintLast
set_option linter.unusedVariables false
namespace Go.Proofs.Ytflkgoggnomehaa
def cI (x0 x1 x2 x3 : Int) : Cls := ⟨x0.toNat, x1.toNat, x2.toNat, x3.toNat⟩
def okW (x : Int) : Bool := decide (0 ≤ x) && decide (x < 18446744073709551616)
def okB (x0 x1 x2 x3 : Int) : Bool := okW x0 && (okW x1 && (okW x2 && okW x3))
theorem okW_iff {x : Int} : okW x = true ↔ 0 ≤ x ∧ x < 18446744073709551616 := by unfold okW; simp
theorem okB_iff {x0 x1 x2 x3 : Int} : okB x0 x1 x2 x3 = true ↔ (0 ≤ x0 ∧ x0 < 18446744073709551616) ∧ (0 ≤ x1 ∧ x1 < 18446744073709551616) ∧ (0 ≤ x2 ∧ x2 < 18446744073709551616) ∧ (0 ≤ x3 ∧ x3 < 18446744073709551616) := by
  unfold okB; simp only [Bool.and_eq_true, okW_iff]
theorem cI_ok {x0 x1 x2 x3 : Int} (h : okB x0 x1 x2 x3 = true) : (cI x0 x1 x2 x3).ok := by
  rw [okB_iff] at h
  unfold Cls.ok cI w64
  dsimp only
  omega
theorem cI_V {x0 x1 x2 x3 : Int} (h : okB x0 x1 x2 x3 = true) : (.agg #[.int .u64 x0, .int .u64 x1, .int .u64 x2, .int .u64 x3] : Value) = V4 (cI x0 x1 x2 x3) := by
  rw [okB_iff] at h
  unfold V4 cI
  dsimp only
  rw [Int.toNat_of_nonneg h.1.1, Int.toNat_of_nonneg h.2.1.1, Int.toNat_of_nonneg h.2.2.1.1, Int.toNat_of_nonneg h.2.2.2.1]
def c4 (c : Cls) : Int × Int × Int × Int := ((c.c0 : Int), (c.c1 : Int), (c.c2 : Int), (c.c3 : Int))
theorem c4_V {c : Cls} {r1 r2 r3 r4 : Int} (h : c4 c = (r1, r2, r3, r4)) : V4 c = .agg #[.int .u64 r1, .int .u64 r2, .int .u64 r3, .int .u64 r4] := by
  unfold c4 at h
  simp only [Prod.mk.injEq] at h
  obtain ⟨rfl, rfl, rfl, rfl⟩ := h
  rfl
theorem c4_ok {c : Cls} (h : c.ok) : okB c.c0 c.c1 c.c2 c.c3 = true := by
  unfold Cls.ok w64 at h
  rw [okB_iff]
  omega
theorem c4_cI (c : Cls) : cI c.c0 c.c1 c.c2 c.c3 = c := by cases c; rfl
end Go.Proofs.Ytflkgoggnomehaa
