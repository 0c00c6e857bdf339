import Derived.Deep.AppendLies
import Derived.Laws.AppendOwn
import Derived.LoopIn
import Derived.LoopNIn
import Derived.OwnWalkIn
import Derived.RangeFuncBound
import Derived.RangeFuncBox
import Derived.RangeFuncCalls
import Derived.RangeFuncLeaves
import Derived.RangeFuncNested
import Derived.Shelf.Abstract
import Derived.TacticsInMore
import Derived.Test.YtldjdcdoegjmoaaDoorProg
import Derived.WalkKit
import Derived.Test.YtldjdcdoegjmoaaDoorB10
set_option linter.unusedVariables false
set_option linter.unusedSimpArgs false
namespace Go.Proofs.YtldjdcdoegjmoaaDoor
open Go.RowKit Go.Shelf
attribute [local go_sem] Oper.semAt_some
/-- A class's bytes below k, rising. -/
def upto (a : Cls) : Nat → List (Fin 256)
  | 0 => []
  | k + 1 => if h : k < 256 then (if a.mem k = true then upto a k ++ [⟨k, h⟩] else upto a k) else upto a k
theorem upto_yes (a : Cls) (k : Nat) (hk : k < 256) (h : a.mem k = true) : upto a (k + 1) = upto a k ++ [⟨k, hk⟩] := by rw [upto, dif_pos hk, if_pos h]
theorem upto_no (a : Cls) (k : Nat) (h : a.mem k = false) : upto a (k + 1) = upto a k := by
  rw [upto]
  split
  · rw [if_neg (by simp [h])]
  · rfl
theorem upto_pre (a : Cls) : ∀ (n k : Nat), upto a k <+: upto a (k + n)
  | 0, k => List.prefix_refl _
  | n + 1, k => by
    refine (upto_pre a n k).trans ?_
    rw [show k + (n + 1) = k + n + 1 by omega, upto]
    split
    · split
      · exact List.prefix_append _ _
      · exact List.prefix_refl _
    · exact List.prefix_refl _
theorem upto_all (a : Cls) (k : Nat) (hk : k < 256) (h : a.mem k = true) : (upto a k).length < (upto a 256).length := by
  have h1 := (upto_pre a (256 - (k + 1)) (k + 1)).length_le
  rw [show k + 1 + (256 - (k + 1)) = 256 by omega, upto_yes a k hk h, List.length_append, List.length_singleton] at h1
  omega
theorem grow_below {w w' : World} (h : Below w.heap.size w w') : w.grownBy w' none := ⟨h.os, h.tape, h.output, h.size, fun k hk _ => h.block k hk⟩
/-- A block stays as it is. -/
def KpB (b : Nat) (o : Obj) (W W' : World) : Prop := W.heap[b]? = some o → W'.heap[b]? = some o
theorem kpB_t {b : Nat} {o : Obj} {A B C : World} (h : KpB b o A B) (k : KpB b o B C) : KpB b o A C := fun x => k (h x)
theorem kpB_b {b : Nat} {o : Obj} {w : World} (hb : b < w.heap.size) (W : World) (l : Nat) (x y : Obj) (hl : w.heap.size ≤ l) (h : W.heap[l]? = some x) (_ : x.isCells = false) (_ : x.isWalk = false) : KpB b o W (W.putObj l y) :=
  fun hk => ((grownBy_putObj' W l y).block b (heap_lt hk) (fun e => by cases e; omega)).trans hk
set_option maxRecDepth 100000 in
set_option maxHeartbeats 4000000 in
theorem each1_in (n : Nat) (hn : 1 ≤ n) (l Bs : Nat) (a : Cls) (ha : a.ok) (J Jx : List (Fin 256) → World → Prop)
    (B : Nat) (hJ : AbidesFrom B J) (hBs0 : Bs < B)
    (hY : ∀ pre (x : Fin 256) W, J pre W → pre.length < (upto a 256).length → YieldAt Fence.wide (n - 1) Tryd.prog l #[.int .u8 ((x.val : Nat) : Int)] W fun e W' =>
      (e = .returned (.bool true) ∧ J (pre ++ [x]) W' ∧ KpB Bs (.cells a.cells 24 (0, 0)) W W') ∨ (e = .returned (.bool false) ∧ Jx (pre ++ [x]) W'))
    (W : World) (hBs : W.heap[Bs]? = some (.cells a.cells 24 (0, 0))) (h0 : J [] W) :
    CallsIn Fence.wide n Tryd.prog 97 #[.func (.yield l) #[] #[], .pointer (some ⟨Bs, 0, none⟩)] W fun e W' => (∃ v, e = .returned v) ∧
      ((∃ ys, ys = upto a 256 ∧ J ys W') ∨ (∃ pre, pre <+: upto a 256 ∧ Jx pre W')) := by
  refine callsIn_of_wp Tryd.func97 rfl trivial ?_ rfl
  simp only [Tryd.ntmps97, List.size_toArray, List.length_cons, List.length_nil, Nat.reduceAdd, Nat.reduceSub, Array.replicate_succ, Array.replicate_zero, List.push_toArray, List.append_toArray, List.nil_append, List.cons_append]
  gi_wp2
  gi_loopw [4] (fun i wr => ∃ k : Nat, k ≤ 256 ∧ i = .int .i64 k ∧ J (upto a k) wr ∧ wr.heap[Bs]? = some (.cells a.cells 24 (0, 0)))
    (fun i _ => 256 - (intOf i).toNat)
  case atStart => exact ⟨0, Nat.zero_le _, rfl, h0, hBs⟩
  case round =>
    obtain ⟨k, hk, rfl, hJs, hnx⟩ := hrel
    by_cases hlt : k < 256
    · obtain ⟨⟨c0, c1, c2, c3⟩, f0, f1, f2, f3⟩ := four_cells (show wr.heap[Bs]? = some (.cells #[.int .u64 (a.c0 : Int), .int .u64 (a.c1 : Int), .int .u64 (a.c2 : Int), .int .u64 (a.c3 : Int)] 24 (0, 0)) from hnx)
      have hH := has_c a ha k hlt
      have HX := Lib.hid hnx; clear hnx
      cases hm : a.mem k
      · rw [hm] at hH
        have HH := Lib.hid hH; clear hH
        have HM := Lib.hid hm; clear hm
        gi_wp2_with (refine ⟨trivial, ?_⟩; gi_at_call 98; refine (callsIn_wide.2 (HH.out _)).mono ?_; rintro e w2 ⟨rfl, hb2⟩)
        refine ⟨fun _ h => (by cases h), ?_⟩
        gi_wp2
        go_roundw
        case rel => exact ⟨k + 1, by omega, by simp, by rw [upto_no a k HM.out]; exact hJ _ _ _ none hJs (grow_below hb2) (by simp), heap_same hb2 HX.out⟩
        case measure => simp [intOf]; omega
      · rw [hm] at hH
        have HH := Lib.hid hH; clear hH
        have HM := Lib.hid hm; clear hm
        gi_wp2_with (refine ⟨trivial, ?_⟩; gi_at_call 98; refine (callsIn_wide.2 (HH.out _)).mono ?_; rintro e w2 ⟨rfl, hb2⟩; have HB2 := Lib.hid hb2; clear hb2; obtain ⟨fn, tmps, assign, body, hy, hR⟩ := hY _ ⟨k, hlt⟩ w2 (hJ _ _ _ none hJs (grow_below HB2.out) (by simp)) (upto_all a k hlt HM.out); dsimp only at hy)
        refine hR.mono ?_
        rintro e W3 (⟨rfl, hJ3, hk3⟩ | ⟨rfl, hJx3⟩)
        · gi_wp2
          go_roundw
          case rel => exact ⟨k + 1, by omega, by simp, by rw [upto_yes a k hlt HM.out]; exact hJ3, hk3 (heap_same HB2.out HX.out)⟩
          case measure => simp [intOf]; omega
        · gi_wp2
          refine bodyPost_ret (results_none rfl _ _ _) rfl ?_
          refine ⟨⟨_, rfl⟩, .inr ⟨_, ?_, hJx3⟩⟩
          have h5 := upto_pre a (256 - (k + 1)) (k + 1)
          rw [show k + 1 + (256 - (k + 1)) = 256 by omega, upto_yes a k hlt HM.out] at h5
          exact h5
    · obtain rfl : k = 256 := by omega
      gi_wp2
      go_end0
      exact ⟨⟨_, rfl⟩, .inl ⟨_, rfl, hJs⟩⟩
set_option maxHeartbeats 1000000 in
theorem each_in (n : Nat) (a : Cls) (w : World) : CallsIn Fence.wide n Tryd.prog 83 #[V4 a] w fun e w' => e = .returned (.func (.func 97) #[] #[.pointer (some ⟨w.heap.size, 0, none⟩)]) ∧ w' = w.alloc (.cells a.cells 24) := by
  refine callsIn_of_wp Tryd.func83 rfl trivial ?_ rfl
  simp only [Tryd.ntmps83, List.size_toArray, List.length_cons, List.length_nil, Nat.reduceAdd, Nat.reduceSub, Array.replicate_succ, Array.replicate_zero, List.push_toArray, List.append_toArray, List.nil_append, List.cons_append]
  gi_wp2
  go_ret
  exact ⟨rfl, rfl⟩
/-- What class.Each hands back goes through a class's bytes, rising. -/
theorem each_stops (n : Nat) (hn : 1 ≤ n) (Bs : Nat) (a : Cls) (ha : a.ok) (w : World) (hBs : Bs < w.heap.size) (hc : w.heap[Bs]? = some (.cells a.cells 24 (0, 0))) :
    SeqStopsK Fence.wide n Tryd.prog 97 #[.pointer (some ⟨Bs, 0, none⟩)] (fun x : Fin 256 => #[Value.int .u8 ((x.val : Nat) : Int)]) (KpB Bs (.cells a.cells 24 (0, 0))) (fun ys => ys = upto a 256) (fun pre => pre <+: upto a 256) (upto a 256).length w :=
  fun l J Jx W hW hJ _ hY h0 => each1_in n hn l Bs a ha J Jx W.heap.size hJ (Nat.lt_of_lt_of_le hBs hW.size) hY W (heap_below hW hBs hc) h0
end Go.Proofs.YtldjdcdoegjmoaaDoor
set_option linter.unusedVariables false
set_option linter.unusedSimpArgs false
namespace Go.Proofs.YtldjdcdoegjmoaaDoor
open Go.RowKit Go.Shelf
attribute [local go_sem] Oper.semAt_some
/-- One byte more to ranges that rise. -/
def stepR (l : List (Nat × Nat)) (b : Nat) : List (Nat × Nat) :=
  match l.getLast? with
  | some p => if p.2 + 1 = b then l.dropLast ++ [(p.1, b)] else l ++ [(b, b)]
  | none => [(b, b)]
def rangesOf (xs : List (Fin 256)) : List (Nat × Nat) := xs.foldl (fun l x => stepR l x.val) []
theorem rangesOf_snoc (xs : List (Fin 256)) (x : Fin 256) : rangesOf (xs ++ [x]) = stepR (rangesOf xs) x.val := by unfold rangesOf; rw [List.foldl_append]; rfl
theorem stepR_nil (b : Nat) : stepR [] b = [(b, b)] := rfl
theorem stepR_yes (l : List (Nat × Nat)) (lo hi b : Nat) (h : hi + 1 = b) : stepR (l ++ [(lo, hi)]) b = l ++ [(lo, b)] := by unfold stepR; simp [h]
theorem stepR_no (l : List (Nat × Nat)) (lo hi b : Nat) (h : ¬ hi + 1 = b) : stepR (l ++ [(lo, hi)]) b = l ++ [(lo, hi)] ++ [(b, b)] := by unfold stepR; simp [h]
theorem snoc_or (l : List (Nat × Nat)) : l = [] ∨ ∃ l' lo hi, l = l' ++ [(lo, hi)] := by
  rcases List.eq_nil_or_concat l with h | ⟨l', p, h⟩
  · exact .inl h
  · exact .inr ⟨l', p.1, p.2, by simpa using h⟩
theorem stepR_len (l : List (Nat × Nat)) (b : Nat) : (stepR l b).length ≤ l.length + 1 := by
  rcases snoc_or l with rfl | ⟨l', lo, hi, rfl⟩
  · simp [stepR_nil]
  · by_cases h : hi + 1 = b
    · rw [stepR_yes _ _ _ _ h]; simp
    · rw [stepR_no _ _ _ _ h]; simp
theorem rangesOf_len : ∀ (n : Nat) (xs : List (Fin 256)), xs.length = n → (rangesOf xs).length ≤ n
  | 0, xs, h => by rw [List.eq_nil_of_length_eq_zero h]; simp [rangesOf]
  | n + 1, xs, h => by
    rcases List.eq_nil_or_concat xs with rfl | ⟨ys, y, rfl⟩
    · simp at h
    · simp at h
      rw [List.concat_eq_append, rangesOf_snoc]
      have := rangesOf_len n ys h
      have := stepR_len (rangesOf ys) y.val
      omega
theorem upto_count (a : Cls) : ∀ k, (upto a k).length ≤ k
  | 0 => by simp [upto]
  | k + 1 => by
    have := upto_count a k
    rw [upto]
    split
    · split
      · rw [List.length_append, List.length_singleton]; omega
      · omega
    · omega
theorem rcells_len (l : List (Nat × Nat)) : (rcells l).length = l.length * 2 := by
  induction l with
  | nil => rfl
  | cons p l ih =>
    have e : rcells (p :: l) = .int .u8 (p.1 : Int) :: .int .u8 (p.2 : Int) :: rcells l := by simp [rcells]
    rw [e, List.length_cons, List.length_cons, ih, List.length_cons]; omega
theorem rcells_last (l : List (Nat × Nat)) (lo hi : Nat) : (rcells (l ++ [(lo, hi)]))[l.length * 2 + 1]? = some (.int .u8 (hi : Int)) := by
  have h := rcells_at (l ++ [(lo, hi)]) l.length (by simp)
  rw [h.2]; simp
theorem rcells_set (l : List (Nat × Nat)) (lo hi b : Nat) : (rcells (l ++ [(lo, hi)])).set (l.length * 2 + 1) (.int .u8 (b : Int)) = rcells (l ++ [(lo, b)]) := by
  rw [rcells_snoc, rcells_snoc, List.set_append_right _ _ (by rw [rcells_len]; omega), rcells_len]
  congr 1
  rw [show l.length * 2 + 1 - l.length * 2 = 1 by omega]; rfl
theorem rangesOf_lt : ∀ (n : Nat) (xs : List (Fin 256)), xs.length = n → ∀ p ∈ rangesOf xs, p.1 < 256 ∧ p.2 < 256
  | 0, xs, h, p, hp => by rw [List.eq_nil_of_length_eq_zero h] at hp; simp [rangesOf] at hp
  | n + 1, xs, h, p, hp => by
    rcases List.eq_nil_or_concat xs with rfl | ⟨ys, y, rfl⟩
    · simp at h
    · simp at h
      have hy := y.isLt
      rw [List.concat_eq_append, rangesOf_snoc] at hp
      have ih := rangesOf_lt n ys h
      rcases snoc_or (rangesOf ys) with e | ⟨l', lo, hi, e⟩
      · rw [e, stepR_nil] at hp
        simp at hp
        subst hp
        exact ⟨hy, hy⟩
      · rw [e] at ih hp
        have hl := ih (lo, hi) (by simp)
        by_cases hb : hi + 1 = y.val
        · rw [stepR_yes _ _ _ _ hb] at hp
          rcases List.mem_append.1 hp with hp | hp
          · exact ih p (by simp [hp])
          · simp at hp; subst hp; exact ⟨hl.1, hy⟩
        · rw [stepR_no _ _ _ _ hb] at hp
          rcases List.mem_append.1 hp with hp | hp
          · exact ih p hp
          · simp at hp; subst hp; exact ⟨hy, hy⟩
theorem not_row' {W : World} {B : Nat} {t e : TypeId} {cs : Array Value} {fr : Nat × Nat} (h : W.heap[B]? = some (.cells cs t fr)) (hte : t ≠ e) {base size k : Nat} {v : Value} {xs : List Value} (hr : W.ownsRow base e size v k xs) : some B ≠ v.ownBlock := by
  rcases hr.2 with ⟨rfl, _⟩ | ⟨g, cap, cur, rfl, _, hgb, _⟩
  · simp [Value.ownBlock]
  · intro e'
    obtain rfl : B = g := by simpa [Value.ownBlock] using e'
    have := h.symm.trans hgb
    simp at this
    exact hte this.2.1
theorem block_own {β : Type} (b : Nat) (cs : Array Value) (t : TypeId) : Own (fun (_ : β) W => W.heap[b]? = some (.cells cs t (0, 0))) := by
  intro s X Y row hx hg hrow
  refine (hg.block b (heap_lt hx) (fun e => ?_)).trans hx
  obtain ⟨o, ho, hc⟩ := hrow b e.symm
  rw [hx] at ho; cases ho; cases hc
theorem cell_two_new (W : World) (u v : Value) (t : TypeId) : ∀ j x, [u, v][j]? = some x → (W.alloc (.cells #[u, v] t)).cell? ((⟨W.heap.size, 0, none⟩ : Addr).add j) = some x := by
  simpa using World.news_of_block (cs := #[u, v]) (t := t) (fr := (0, 0)) (heap_alloc_new W (.cells #[u, v] t))
theorem ranges_put {a : Cls} {w W w1 : World} {v v' : Value} {k m : Nat} {xs ys : List Value} {pre : List (Fin 256)} {tmp : Obj} (hv : Boxed W (w.heap.size + 1) 80 v) (hC : W.heap[w.heap.size + 2]? = some (.cells a.cells 24 (0, 0))) (hB : Below w.heap.size w W)
    (hrow : W.ownsRow w.heap.size 83 2 v k xs) (hown' : w1.ownsRow w.heap.size 83 2 v' m ys) (hgrow : (W.alloc tmp).grownBy w1 v.ownBlock) (hm : m = (rangesOf pre).length) (hy : ys = rcells (rangesOf pre)) {B : Nat} :
    KeepsFrom B W (w1.setCell ⟨w.heap.size + 1, 0, none⟩ v') ∧ KpB (w.heap.size + 2) (.cells a.cells 24 (0, 0)) W (w1.setCell ⟨w.heap.size + 1, 0, none⟩ v') ∧
      ((∃ v, Boxed (w1.setCell ⟨w.heap.size + 1, 0, none⟩ v') (w.heap.size + 1) 80 v ∧ (w1.setCell ⟨w.heap.size + 1, 0, none⟩ v').ownsRow w.heap.size 83 2 v (rangesOf pre).length (rcells (rangesOf pre)) ∧ True) ∧
        (w1.setCell ⟨w.heap.size + 1, 0, none⟩ v').heap[w.heap.size + 2]? = some (.cells a.cells 24 (0, 0))) ∧ Below w.heap.size w (w1.setCell ⟨w.heap.size + 1, 0, none⟩ v') := by
  obtain ⟨hv1, hv2, hr2, hk2, hb2⟩ := hv.appended (by decide) hrow hB.size (by omega) hown' hgrow
  have hne := not_row' hC (by decide) hrow
  have hh : (w1.setCell ⟨w.heap.size + 1, 0, none⟩ v').heap[w.heap.size + 2]? = some (.cells a.cells 24 (0, 0)) :=
    heap_other (by dsimp only; omega) ((hgrow.block _ (heap_lt (heap_keep hC)) hne).trans (heap_keep hC))
  subst hm hy
  exact ⟨hk2.from _, fun _ => hh, ⟨⟨_, hv2, hr2, trivial⟩, hh⟩, hB.trans hb2⟩
/-- A class's ranges. -/
def rangesL (a : Cls) : List (Nat × Nat) := rangesOf (upto a 256)
set_option maxRecDepth 100000 in
set_option maxHeartbeats 4000000 in
theorem ranges_in (n : Nat) (hn : 3 ≤ n) (a : Cls) (ha : a.ok) (w : World) :
    CallsIn Fence.wide n Tryd.prog 62 #[V4 a] w fun e W' => ∃ v, e = .returned v ∧ W'.ownsRow w.heap.size 83 2 v (rangesL a).length (rcells (rangesL a)) ∧ Below w.heap.size w W' := by
  have h1 : 1 ≤ n := by omega
  obtain ⟨i0, hi1, hz0, hz1, hz2⟩ := info_parts infoRng
  refine callsIn_of_wp_marks Tryd.func62 rfl trivial ?_ rfl
  simp only [Tryd.ntmps62, List.size_toArray, List.length_cons, List.length_nil, Nat.reduceAdd, Nat.reduceSub, Array.replicate_succ, Array.replicate_zero, List.push_toArray, List.append_toArray, List.nil_append, List.cons_append]
  gi_wp2_with (refine ⟨trivial, ?_⟩; gi_at_call 83; refine (each_in (n - 1) a _).mono ?_; rintro e w' ⟨rfl, rfl⟩)
  have hcell : (((w.alloc (.cells #[.int .u64 (a.c0 : Int), .int .u64 (a.c1 : Int), .int .u64 (a.c2 : Int), .int .u64 (a.c3 : Int)] 24)).alloc (.cells #[.slice none 0 0] 80)).alloc (.cells a.cells 24)).heap[w.heap.size + 2]? = some (.cells a.cells 24 (0, 0)) := heap_new2 _ _ _ _
  have bL : Boxed (((w.alloc (.cells #[.int .u64 (a.c0 : Int), .int .u64 (a.c1 : Int), .int .u64 (a.c2 : Int), .int .u64 (a.c3 : Int)] 24)).alloc (.cells #[.slice none 0 0] 80)).alloc (.cells a.cells 24)) (w.heap.size + 1) 80 (.slice none 0 0) := heap_keep (heap_new1 _ _ _)
  have hB0 : Below w.heap.size w (((w.alloc (.cells #[.int .u64 (a.c0 : Int), .int .u64 (a.c1 : Int), .int .u64 (a.c2 : Int), .int .u64 (a.c3 : Int)] 24)).alloc (.cells #[.slice none 0 0] 80)).alloc (.cells a.cells 24)) := (((Below.refl _ w).alloc (Nat.le_refl _) _).alloc (by simp) _).alloc (by simp; omega) _
  refine wpIn_rangeFunc_ownG rfl h1 (gf := 97) (lb := #[.pointer (some ⟨w.heap.size + 2, 0, none⟩)]) rfl trivial (enters_of Tryd.func97 (by kernel_rfl) rfl)
    (each_stops (n - 1) (by omega) (w.heap.size + 2) a ha _ (by simp) hcell) kpB_t (kpB_b (by simp)) (Below.refl _ _) (fun _ => rfl)
    (fun pre W => ((∃ v, Boxed W (w.heap.size + 1) 80 v ∧ W.ownsRow w.heap.size 83 2 v (rangesOf pre).length (rcells (rangesOf pre)) ∧ True) ∧ W.heap[w.heap.size + 2]? = some (.cells a.cells 24 (0, 0))) ∧ Below w.heap.size w W)
    (fun _ _ _ => False)
    (OwnFrom.and (OwnFrom.and (Own.from (holdsRow_own w.heap.size (w.heap.size + 1) 80 83 2 (fun pre => (rangesOf pre).length) (fun pre => rcells (rangesOf pre)) (fun pre v => True)) _) (Own.from (block_own _ _ _) _)) (ownFrom_below (Nat.le_refl _) (by simp; omega)))
    (fun _ _ _ _ _ hs _ _ => hs)
    ⟨⟨⟨_, bL, World.ownsRow_nil _ _ _ _, trivial⟩, hcell⟩, hB0⟩
    (fun x => { tmps := #[V4 a, .pointer (some ⟨w.heap.size, 0, none⟩), .slice none 0 0, .pointer (some ⟨w.heap.size + 1, 0, none⟩), .int .u8 ((x.val : Nat) : Int), undef, V4 a, .func (.func 97) #[] #[.pointer (some ⟨w.heap.size + 1 + 1, 0, none⟩)], .int .u8 ((x.val : Nat) : Int), undef, undef, undef, undef, undef, undef, undef, undef, undef, undef, undef, undef, undef, undef, undef, undef, undef, undef, undef, undef, undef, undef, undef, undef, undef, undef, undef, undef, undef, undef], defers := [] }) ?assign ?body ?done ?stop
  case assign =>
    intro l x W K hK
    gi_wp2
    exact hK
  case body =>
    rintro l pre x W ⟨⟨⟨v, hv, hrow, _⟩, hC⟩, hB⟩ hlt
    have hx := x.isLt
    have hlen := rangesOf_len pre.length pre rfl
    have hc := hv.cell
    have hf := hv.frozen
    have hcnt := upto_count a 256
    obtain ⟨L, hL⟩ : ∃ L, L = rangesOf pre := ⟨_, rfl⟩
    have hst := rangesOf_snoc pre x
    rw [← hL] at hrow hst hlen
    rcases snoc_or L with rfl | ⟨L', lo, hi, rfl⟩
    · obtain ⟨A, c, rfl⟩ : ∃ A c, v = .slice A 0 c := by
        rcases hrow.2 with ⟨rfl, _⟩ | ⟨g, cap, cur, rfl, _⟩
        · exact ⟨_, _, rfl⟩
        · exact ⟨_, _, rfl⟩
      rw [List.length_nil] at hrow
      have hR := Lib.hid hrow; clear hrow
      have hSt := Lib.hid hst; clear hst
      have HC := Lib.hid hC; clear hC
      clear hL
      gi_wp2_with (gi_at_builtin; refine wpListIn_append_own _ rfl _ _ 80 rfl w.heap.size 83 i0 (.agg #[.int .u8 0, .int .u8 0]) 2 2 Tryd.underlying80 hi1 hz0 hz1 hz2 rfl (by decide) _ _ _ rfl (hR.out.alloc _) ⟨W.heap.size, 0, none⟩ 1 1 [.int .u8 ((x.val : Nat) : Int), .int .u8 ((x.val : Nat) : Int)] rfl rfl (cell_two_new _ _ _ _) (by simp [Value.oneCell']) (by unfold maxLen; omega) (by omega) (by have := hB.size; simp; omega) ?_; intro v' w1 hown' hgrow _; obtain ⟨g', cap', rfl⟩ := ownsRow_succ hown'; have HW := Lib.hid hown'; have HG := Lib.hid hgrow; have hc1 := ((hv.alloc _).kept hgrow (hv.not_row (by decide) hR.out)).cell; have hf1 := ((hv.alloc _).kept hgrow (hv.not_row (by decide) hR.out)).frozen; clear hown' hgrow)
      exact ranges_put hv HC.out hB hR.out HW.out HG.out (by rw [hSt.out, stepR_nil]; rfl) (by rw [hSt.out, stepR_nil]; rfl)
    · rw [List.length_append, List.length_singleton] at hrow hlen
      obtain ⟨g, cap, rfl⟩ := ownsRow_succ hrow
      have hne := not_row' hC (by decide) hrow
      have hge : w.heap.size ≤ g := by
        rcases hrow.2 with ⟨h, _⟩ | ⟨g', cap', cur, h, h2, _⟩
        · cases h
        · cases h; exact h2
      have hhi : hi < 256 := (rangesOf_lt pre.length pre rfl (lo, hi) (by rw [← hL]; simp)).2
      have hgn : g ≠ w.heap.size + 2 := fun e => hne (by rw [← e]; rfl)
      have hcl := (hrow.cellAt (L'.length * 2 + 1) (by omega)).trans (rcells_last L' lo hi)
      have hfl := hrow.frozenAt (L'.length * 2 + 1)
      have hR := Lib.hid hrow; clear hrow hne
      have HC := Lib.hid hC; clear hC
      have hSt := Lib.hid hst; clear hst
      clear hL
      by_cases hb : hi + 1 = x.val
      · have hbi : ((hi : Int) + 1 == ((x.val : Nat) : Int)) = true := by rw [beq_iff_eq]; omega
        have HB := Lib.hid hb; clear hb
        gi_wp2
        have hst := hR.out.stored (L'.length * 2 + 1) (.int .u8 ((x.val : Nat) : Int))
        refine ⟨(KeepsOthers.setCell _ _ _).from _, fun hk => heap_other (fun e => hgn e.symm) hk, ⟨⟨_, hv.kept hst.2 (hv.not_row (by decide) hR.out), ?_, trivial⟩, heap_other (fun e => hgn e.symm) HC.out⟩, hB.setCell hge _⟩
        rw [hSt.out, stepR_yes _ _ _ _ HB.out, ← rcells_set L' lo hi x.val]
        simpa using hst.1
      · have hbi : ((hi : Int) + 1 == ((x.val : Nat) : Int)) = false := by rw [beq_eq_false_iff_ne]; omega
        have HB := Lib.hid hb; clear hb
        gi_wp2_with (gi_at_builtin; refine wpListIn_append_own _ rfl _ _ 80 rfl w.heap.size 83 i0 (.agg #[.int .u8 0, .int .u8 0]) 2 2 Tryd.underlying80 hi1 hz0 hz1 hz2 rfl (by decide) _ _ _ rfl (hR.out.alloc _) ⟨W.heap.size, 0, none⟩ 1 1 [.int .u8 ((x.val : Nat) : Int), .int .u8 ((x.val : Nat) : Int)] rfl rfl (cell_two_new _ _ _ _) (by simp [Value.oneCell']) (by unfold maxLen; omega) (by omega) (by have := hB.size; simp; omega) ?_; intro v' w1 hown' hgrow _; obtain ⟨g', cap', rfl⟩ := ownsRow_succ hown'; have HW := Lib.hid hown'; have HG := Lib.hid hgrow; have hc1 := ((hv.alloc _).kept hgrow (hv.not_row (by decide) hR.out)).cell; have hf1 := ((hv.alloc _).kept hgrow (hv.not_row (by decide) hR.out)).frozen; clear hown' hgrow)
        exact ranges_put hv HC.out hB hR.out HW.out HG.out (by rw [hSt.out, stepR_no _ _ _ _ HB.out]; simp only [List.length_append, List.length_singleton]) (by rw [hSt.out, stepR_no _ _ _ _ HB.out, rcells_snoc (L' ++ [(lo, hi)])])
  case done =>
    rintro D ys W hD rfl ⟨⟨⟨v, hv, hrow, _⟩, hC⟩, hB⟩ hK
    have hc := hv.cell
    gi_wp2
    refine ⟨by simp, .inl ⟨_, _, rfl, run_takeDeferred hK, ?_⟩⟩
    exact ⟨_, results_tmp rfl _ _ _, v, rfl, ownsRow_putObj hrow _ hK rfl, hB.trans (belowK_b (w := w) (Nat.le_refl _) W D _ _ (by simp at hD; omega) hK rfl rfl)⟩
  case stop =>
    rintro D c pre W _ _ h _
    exact h.elim
end Go.Proofs.YtldjdcdoegjmoaaDoor
