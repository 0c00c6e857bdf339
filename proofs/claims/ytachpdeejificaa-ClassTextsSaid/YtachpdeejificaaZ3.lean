import Derived.Below
import Derived.Deep.AppendLies
import Derived.Deep.Draws
import Derived.Laws.AppendOwn
import Derived.Laws.OwnMore
import Derived.Lib.Hide
import Derived.LoopIn
import Derived.LoopNIn
import Derived.OwnWalk
import Derived.OwnWalkIn
import Derived.RangeFuncBound
import Derived.RangeFuncBox
import Derived.RangeFuncCalls
import Derived.RangeFuncLeaves
import Derived.RangeFuncNested
import Derived.Shelf.Abstract
import Derived.TacticsInMore
import Derived.Test.YtachpdeejificaaProg
import Derived.WalkKit
import Derived.Test.YtachpdeejificaaZ2
set_option linter.unusedVariables false
set_option linter.unusedSimpArgs false
namespace Go.Proofs.Ytachpdeejificaa
open Go.RowKit Go.Shelf
attribute [local go_sem] Oper.semAt_some
/-- A class's bytes below k, rising. -/
def upto (a : Cls) : Nat → List (Fin 256)
  | 0 => []
  | k + 1 => if h : k < 256 then (if a.mem k = true then upto a k ++ [⟨k, h⟩] else upto a k) else upto a k
theorem upto_yes (a : Cls) (k : Nat) (hk : k < 256) (h : a.mem k = true) : upto a (k + 1) = upto a k ++ [⟨k, hk⟩] := by rw [upto, dif_pos hk, if_pos h]
theorem upto_no (a : Cls) (k : Nat) (h : a.mem k = false) : upto a (k + 1) = upto a k := by
  rw [upto]
  split
  · rw [if_neg (by simp [h])]
  · rfl
theorem upto_pre (a : Cls) : ∀ (n k : Nat), upto a k <+: upto a (k + n)
  | 0, k => List.prefix_refl _
  | n + 1, k => by
    refine (upto_pre a n k).trans ?_
    rw [show k + (n + 1) = k + n + 1 by omega, upto]
    split
    · split
      · exact List.prefix_append _ _
      · exact List.prefix_refl _
    · exact List.prefix_refl _
theorem upto_all (a : Cls) (k : Nat) (hk : k < 256) (h : a.mem k = true) : (upto a k).length < (upto a 256).length := by
  have h1 := (upto_pre a (256 - (k + 1)) (k + 1)).length_le
  rw [show k + 1 + (256 - (k + 1)) = 256 by omega, upto_yes a k hk h, List.length_append, List.length_singleton] at h1
  omega
theorem grow_below {w w' : World} (h : Below w.heap.size w w') : w.grownBy w' none := ⟨h.os, h.tape, h.output, h.size, fun k hk _ => h.block k hk⟩
/-- A block stays as it is. -/
def KpB (b : Nat) (o : Obj) (W W' : World) : Prop := W.heap[b]? = some o → W'.heap[b]? = some o
theorem kpB_t {b : Nat} {o : Obj} {A B C : World} (h : KpB b o A B) (k : KpB b o B C) : KpB b o A C := fun x => k (h x)
theorem kpB_b {b : Nat} {o : Obj} {w : World} (hb : b < w.heap.size) (W : World) (l : Nat) (x y : Obj) (hl : w.heap.size ≤ l) (h : W.heap[l]? = some x) (_ : x.isCells = false) (_ : x.isWalk = false) : KpB b o W (W.putObj l y) :=
  fun hk => ((grownBy_putObj' W l y).block b (heap_lt hk) (fun e => by cases e; omega)).trans hk
set_option maxRecDepth 100000 in
set_option maxHeartbeats 4000000 in
theorem each1_in (n : Nat) (hn : 1 ≤ n) (l Bs : Nat) (a : Cls) (ha : a.ok) (J Jx : List (Fin 256) → World → Prop)
    (B : Nat) (hJ : AbidesFrom B J) (hBs0 : Bs < B)
    (hY : ∀ pre (x : Fin 256) W, J pre W → pre.length < (upto a 256).length → YieldAt Fence.wide (n - 1) Try.prog l #[.int .u8 ((x.val : Nat) : Int)] W fun e W' =>
      (e = .returned (.bool true) ∧ J (pre ++ [x]) W' ∧ KpB Bs (.cells a.cells 24 (0, 0)) W W') ∨ (e = .returned (.bool false) ∧ Jx (pre ++ [x]) W'))
    (W : World) (hBs : W.heap[Bs]? = some (.cells a.cells 24 (0, 0))) (h0 : J [] W) :
    CallsIn Fence.wide n Try.prog 36 #[.func (.yield l) #[] #[], .pointer (some ⟨Bs, 0, none⟩)] W fun e W' => (∃ v, e = .returned v) ∧
      ((∃ ys, ys = upto a 256 ∧ J ys W') ∨ (∃ pre, pre <+: upto a 256 ∧ Jx pre W')) := by
  refine callsIn_of_wp Try.func36 rfl trivial ?_ rfl
  simp only [Try.ntmps36, List.size_toArray, List.length_cons, List.length_nil, Nat.reduceAdd, Nat.reduceSub, Array.replicate_succ, Array.replicate_zero, List.push_toArray, List.append_toArray, List.nil_append, List.cons_append]
  gi_wp2
  gi_loopw [4] (fun i wr => ∃ k : Nat, k ≤ 256 ∧ i = .int .i64 k ∧ J (upto a k) wr ∧ wr.heap[Bs]? = some (.cells a.cells 24 (0, 0)))
    (fun i _ => 256 - (intOf i).toNat)
  case atStart => exact ⟨0, Nat.zero_le _, rfl, h0, hBs⟩
  case round =>
    obtain ⟨k, hk, rfl, hJs, hnx⟩ := hrel
    by_cases hlt : k < 256
    · obtain ⟨⟨c0, c1, c2, c3⟩, f0, f1, f2, f3⟩ := four_cells (show wr.heap[Bs]? = some (.cells #[.int .u64 (a.c0 : Int), .int .u64 (a.c1 : Int), .int .u64 (a.c2 : Int), .int .u64 (a.c3 : Int)] 24 (0, 0)) from hnx)
      have hH := has_c a ha k hlt
      have HX := Lib.hid hnx; clear hnx
      cases hm : a.mem k
      · rw [hm] at hH
        have HH := Lib.hid hH; clear hH
        have HM := Lib.hid hm; clear hm
        gi_wp2_with (refine ⟨trivial, ?_⟩; gi_at_call 15; refine (callsIn_wide.2 (HH.out _)).mono ?_; rintro e w2 ⟨rfl, hb2⟩)
        refine ⟨fun _ h => (by cases h), ?_⟩
        gi_wp2
        go_roundw
        case rel => exact ⟨k + 1, by omega, by simp, by rw [upto_no a k HM.out]; exact hJ _ _ _ none hJs (grow_below hb2) (by simp), heap_same hb2 HX.out⟩
        case measure => simp [intOf]; omega
      · rw [hm] at hH
        have HH := Lib.hid hH; clear hH
        have HM := Lib.hid hm; clear hm
        gi_wp2_with (refine ⟨trivial, ?_⟩; gi_at_call 15; refine (callsIn_wide.2 (HH.out _)).mono ?_; rintro e w2 ⟨rfl, hb2⟩; have HB2 := Lib.hid hb2; clear hb2; obtain ⟨fn, tmps, assign, body, hy, hR⟩ := hY _ ⟨k, hlt⟩ w2 (hJ _ _ _ none hJs (grow_below HB2.out) (by simp)) (upto_all a k hlt HM.out); dsimp only at hy)
        refine hR.mono ?_
        rintro e W3 (⟨rfl, hJ3, hk3⟩ | ⟨rfl, hJx3⟩)
        · gi_wp2
          go_roundw
          case rel => exact ⟨k + 1, by omega, by simp, by rw [upto_yes a k hlt HM.out]; exact hJ3, hk3 (heap_same HB2.out HX.out)⟩
          case measure => simp [intOf]; omega
        · gi_wp2
          refine bodyPost_ret (results_none rfl _ _ _) rfl ?_
          refine ⟨⟨_, rfl⟩, .inr ⟨_, ?_, hJx3⟩⟩
          have h5 := upto_pre a (256 - (k + 1)) (k + 1)
          rw [show k + 1 + (256 - (k + 1)) = 256 by omega, upto_yes a k hlt HM.out] at h5
          exact h5
    · obtain rfl : k = 256 := by omega
      gi_wp2
      go_end0
      exact ⟨⟨_, rfl⟩, .inl ⟨_, rfl, hJs⟩⟩
set_option maxHeartbeats 1000000 in
theorem each_in (n : Nat) (a : Cls) (w : World) : CallsIn Fence.wide n Try.prog 12 #[V4 a] w fun e w' => e = .returned (.func (.func 36) #[] #[.pointer (some ⟨w.heap.size, 0, none⟩)]) ∧ w' = w.alloc (.cells a.cells 24) := by
  refine callsIn_of_wp Try.func12 rfl trivial ?_ rfl
  simp only [Try.ntmps12, List.size_toArray, List.length_cons, List.length_nil, Nat.reduceAdd, Nat.reduceSub, Array.replicate_succ, Array.replicate_zero, List.push_toArray, List.append_toArray, List.nil_append, List.cons_append]
  gi_wp2
  go_ret
  exact ⟨rfl, rfl⟩
/-- What class.Each hands back goes through a class's bytes, rising. -/
theorem each_stops (n : Nat) (hn : 1 ≤ n) (Bs : Nat) (a : Cls) (ha : a.ok) (w : World) (hBs : Bs < w.heap.size) (hc : w.heap[Bs]? = some (.cells a.cells 24 (0, 0))) :
    SeqStopsK Fence.wide n Try.prog 36 #[.pointer (some ⟨Bs, 0, none⟩)] (fun x : Fin 256 => #[Value.int .u8 ((x.val : Nat) : Int)]) (KpB Bs (.cells a.cells 24 (0, 0))) (fun ys => ys = upto a 256) (fun pre => pre <+: upto a 256) (upto a 256).length w :=
  fun l J Jx W hW hJ _ hY h0 => each1_in n hn l Bs a ha J Jx W.heap.size hJ (Nat.lt_of_lt_of_le hBs hW.size) hY W (heap_below hW hBs hc) h0
end Go.Proofs.Ytachpdeejificaa
set_option linter.unusedVariables false
set_option linter.unusedSimpArgs false
namespace Go.Proofs.Ytachpdeejificaa
open Go.RowKit Go.Shelf
attribute [local go_sem] Oper.semAt_some
/-- One byte more to ranges that rise. -/
def stepR (l : List (Nat × Nat)) (b : Nat) : List (Nat × Nat) :=
  match l.getLast? with
  | some p => if p.2 + 1 = b then l.dropLast ++ [(p.1, b)] else l ++ [(b, b)]
  | none => [(b, b)]
def rangesOf (xs : List (Fin 256)) : List (Nat × Nat) := xs.foldl (fun l x => stepR l x.val) []
theorem rangesOf_snoc (xs : List (Fin 256)) (x : Fin 256) : rangesOf (xs ++ [x]) = stepR (rangesOf xs) x.val := by unfold rangesOf; rw [List.foldl_append]; rfl
theorem stepR_nil (b : Nat) : stepR [] b = [(b, b)] := rfl
theorem stepR_yes (l : List (Nat × Nat)) (lo hi b : Nat) (h : hi + 1 = b) : stepR (l ++ [(lo, hi)]) b = l ++ [(lo, b)] := by unfold stepR; simp [h]
theorem stepR_no (l : List (Nat × Nat)) (lo hi b : Nat) (h : ¬ hi + 1 = b) : stepR (l ++ [(lo, hi)]) b = l ++ [(lo, hi)] ++ [(b, b)] := by unfold stepR; simp [h]
theorem snoc_or (l : List (Nat × Nat)) : l = [] ∨ ∃ l' lo hi, l = l' ++ [(lo, hi)] := by
  rcases List.eq_nil_or_concat l with h | ⟨l', p, h⟩
  · exact .inl h
  · exact .inr ⟨l', p.1, p.2, by simpa using h⟩
theorem stepR_len (l : List (Nat × Nat)) (b : Nat) : (stepR l b).length ≤ l.length + 1 := by
  rcases snoc_or l with rfl | ⟨l', lo, hi, rfl⟩
  · simp [stepR_nil]
  · by_cases h : hi + 1 = b
    · rw [stepR_yes _ _ _ _ h]; simp
    · rw [stepR_no _ _ _ _ h]; simp
theorem rangesOf_len : ∀ (n : Nat) (xs : List (Fin 256)), xs.length = n → (rangesOf xs).length ≤ n
  | 0, xs, h => by rw [List.eq_nil_of_length_eq_zero h]; simp [rangesOf]
  | n + 1, xs, h => by
    rcases List.eq_nil_or_concat xs with rfl | ⟨ys, y, rfl⟩
    · simp at h
    · simp at h
      rw [List.concat_eq_append, rangesOf_snoc]
      have := rangesOf_len n ys h
      have := stepR_len (rangesOf ys) y.val
      omega
theorem upto_count (a : Cls) : ∀ k, (upto a k).length ≤ k
  | 0 => by simp [upto]
  | k + 1 => by
    have := upto_count a k
    rw [upto]
    split
    · split
      · rw [List.length_append, List.length_singleton]; omega
      · omega
    · omega
theorem rcells_len (l : List (Nat × Nat)) : (rcells l).length = l.length * 2 := by
  induction l with
  | nil => rfl
  | cons p l ih =>
    have e : rcells (p :: l) = .int .u8 (p.1 : Int) :: .int .u8 (p.2 : Int) :: rcells l := by simp [rcells]
    rw [e, List.length_cons, List.length_cons, ih, List.length_cons]; omega
theorem rcells_last (l : List (Nat × Nat)) (lo hi : Nat) : (rcells (l ++ [(lo, hi)]))[l.length * 2 + 1]? = some (.int .u8 (hi : Int)) := by
  have h := rcells_at (l ++ [(lo, hi)]) l.length (by simp)
  rw [h.2]; simp
theorem rcells_set (l : List (Nat × Nat)) (lo hi b : Nat) : (rcells (l ++ [(lo, hi)])).set (l.length * 2 + 1) (.int .u8 (b : Int)) = rcells (l ++ [(lo, b)]) := by
  rw [rcells_snoc, rcells_snoc, List.set_append_right _ _ (by rw [rcells_len]; omega), rcells_len]
  congr 1
  rw [show l.length * 2 + 1 - l.length * 2 = 1 by omega]; rfl
theorem rangesOf_lt : ∀ (n : Nat) (xs : List (Fin 256)), xs.length = n → ∀ p ∈ rangesOf xs, p.1 < 256 ∧ p.2 < 256
  | 0, xs, h, p, hp => by rw [List.eq_nil_of_length_eq_zero h] at hp; simp [rangesOf] at hp
  | n + 1, xs, h, p, hp => by
    rcases List.eq_nil_or_concat xs with rfl | ⟨ys, y, rfl⟩
    · simp at h
    · simp at h
      have hy := y.isLt
      rw [List.concat_eq_append, rangesOf_snoc] at hp
      have ih := rangesOf_lt n ys h
      rcases snoc_or (rangesOf ys) with e | ⟨l', lo, hi, e⟩
      · rw [e, stepR_nil] at hp
        simp at hp
        subst hp
        exact ⟨hy, hy⟩
      · rw [e] at ih hp
        have hl := ih (lo, hi) (by simp)
        by_cases hb : hi + 1 = y.val
        · rw [stepR_yes _ _ _ _ hb] at hp
          rcases List.mem_append.1 hp with hp | hp
          · exact ih p (by simp [hp])
          · simp at hp; subst hp; exact ⟨hl.1, hy⟩
        · rw [stepR_no _ _ _ _ hb] at hp
          rcases List.mem_append.1 hp with hp | hp
          · exact ih p hp
          · simp at hp; subst hp; exact ⟨hy, hy⟩
theorem not_row' {W : World} {B : Nat} {t e : TypeId} {cs : Array Value} {fr : Nat × Nat} (h : W.heap[B]? = some (.cells cs t fr)) (hte : t ≠ e) {base size k : Nat} {v : Value} {xs : List Value} (hr : W.ownsRow base e size v k xs) : some B ≠ v.ownBlock := by
  rcases hr.2 with ⟨rfl, _⟩ | ⟨g, cap, cur, rfl, _, hgb, _⟩
  · simp [Value.ownBlock]
  · intro e'
    obtain rfl : B = g := by simpa [Value.ownBlock] using e'
    have := h.symm.trans hgb
    simp at this
    exact hte this.2.1
theorem block_own {β : Type} (b : Nat) (cs : Array Value) (t : TypeId) : Own (fun (_ : β) W => W.heap[b]? = some (.cells cs t (0, 0))) := by
  intro s X Y row hx hg hrow
  refine (hg.block b (heap_lt hx) (fun e => ?_)).trans hx
  obtain ⟨o, ho, hc⟩ := hrow b e.symm
  rw [hx] at ho; cases ho; cases hc
theorem cell_two_new (W : World) (u v : Value) (t : TypeId) : ∀ j x, [u, v][j]? = some x → (W.alloc (.cells #[u, v] t)).cell? ((⟨W.heap.size, 0, none⟩ : Addr).add j) = some x := by
  simpa using World.news_of_block (cs := #[u, v]) (t := t) (fr := (0, 0)) (heap_alloc_new W (.cells #[u, v] t))
theorem ranges_put {a : Cls} {w W w1 : World} {v v' : Value} {k m : Nat} {xs ys : List Value} {pre : List (Fin 256)} {tmp : Obj} (hv : Boxed W (w.heap.size + 1) 32 v) (hC : W.heap[w.heap.size + 2]? = some (.cells a.cells 24 (0, 0))) (hB : Below w.heap.size w W)
    (hrow : W.ownsRow w.heap.size 34 2 v k xs) (hown' : w1.ownsRow w.heap.size 34 2 v' m ys) (hgrow : (W.alloc tmp).grownBy w1 v.ownBlock) (hm : m = (rangesOf pre).length) (hy : ys = rcells (rangesOf pre)) {B : Nat} :
    KeepsFrom B W (w1.setCell ⟨w.heap.size + 1, 0, none⟩ v') ∧ KpB (w.heap.size + 2) (.cells a.cells 24 (0, 0)) W (w1.setCell ⟨w.heap.size + 1, 0, none⟩ v') ∧
      ((∃ v, Boxed (w1.setCell ⟨w.heap.size + 1, 0, none⟩ v') (w.heap.size + 1) 32 v ∧ (w1.setCell ⟨w.heap.size + 1, 0, none⟩ v').ownsRow w.heap.size 34 2 v (rangesOf pre).length (rcells (rangesOf pre)) ∧ True) ∧
        (w1.setCell ⟨w.heap.size + 1, 0, none⟩ v').heap[w.heap.size + 2]? = some (.cells a.cells 24 (0, 0))) ∧ Below w.heap.size w (w1.setCell ⟨w.heap.size + 1, 0, none⟩ v') := by
  obtain ⟨hv1, hv2, hr2, hk2, hb2⟩ := hv.appended (by decide) hrow hB.size (by omega) hown' hgrow
  have hne := not_row' hC (by decide) hrow
  have hh : (w1.setCell ⟨w.heap.size + 1, 0, none⟩ v').heap[w.heap.size + 2]? = some (.cells a.cells 24 (0, 0)) :=
    heap_other (by dsimp only; omega) ((hgrow.block _ (heap_lt (heap_keep hC)) hne).trans (heap_keep hC))
  subst hm hy
  exact ⟨hk2.from _, fun _ => hh, ⟨⟨_, hv2, hr2, trivial⟩, hh⟩, hB.trans hb2⟩
/-- A class's ranges. -/
def rangesL (a : Cls) : List (Nat × Nat) := rangesOf (upto a 256)
set_option maxRecDepth 100000 in
set_option maxHeartbeats 4000000 in
theorem ranges_in (n : Nat) (hn : 3 ≤ n) (a : Cls) (ha : a.ok) (w : World) :
    CallsIn Fence.wide n Try.prog 26 #[V4 a] w fun e W' => ∃ v, e = .returned v ∧ W'.ownsRow w.heap.size 34 2 v (rangesL a).length (rcells (rangesL a)) ∧ Below w.heap.size w W' := by
  have h1 : 1 ≤ n := by omega
  obtain ⟨i0, hi1, hz0, hz1, hz2⟩ := info_parts infoRng
  refine callsIn_of_wp_marks Try.func26 rfl trivial ?_ rfl
  simp only [Try.ntmps26, List.size_toArray, List.length_cons, List.length_nil, Nat.reduceAdd, Nat.reduceSub, Array.replicate_succ, Array.replicate_zero, List.push_toArray, List.append_toArray, List.nil_append, List.cons_append]
  gi_wp2_with (refine ⟨trivial, ?_⟩; gi_at_call 12; refine (each_in (n - 1) a _).mono ?_; rintro e w' ⟨rfl, rfl⟩)
  have hcell : (((w.alloc (.cells #[.int .u64 (a.c0 : Int), .int .u64 (a.c1 : Int), .int .u64 (a.c2 : Int), .int .u64 (a.c3 : Int)] 24)).alloc (.cells #[.slice none 0 0] 32)).alloc (.cells a.cells 24)).heap[w.heap.size + 2]? = some (.cells a.cells 24 (0, 0)) := heap_new2 _ _ _ _
  have bL : Boxed (((w.alloc (.cells #[.int .u64 (a.c0 : Int), .int .u64 (a.c1 : Int), .int .u64 (a.c2 : Int), .int .u64 (a.c3 : Int)] 24)).alloc (.cells #[.slice none 0 0] 32)).alloc (.cells a.cells 24)) (w.heap.size + 1) 32 (.slice none 0 0) := heap_keep (heap_new1 _ _ _)
  have hB0 : Below w.heap.size w (((w.alloc (.cells #[.int .u64 (a.c0 : Int), .int .u64 (a.c1 : Int), .int .u64 (a.c2 : Int), .int .u64 (a.c3 : Int)] 24)).alloc (.cells #[.slice none 0 0] 32)).alloc (.cells a.cells 24)) := (((Below.refl _ w).alloc (Nat.le_refl _) _).alloc (by simp) _).alloc (by simp; omega) _
  refine wpIn_rangeFunc_ownG rfl h1 (gf := 36) (lb := #[.pointer (some ⟨w.heap.size + 2, 0, none⟩)]) rfl trivial (enters_of Try.func36 (by kernel_rfl) rfl)
    (each_stops (n - 1) (by omega) (w.heap.size + 2) a ha _ (by simp) hcell) kpB_t (kpB_b (by simp)) (Below.refl _ _) (fun _ => rfl)
    (fun pre W => ((∃ v, Boxed W (w.heap.size + 1) 32 v ∧ W.ownsRow w.heap.size 34 2 v (rangesOf pre).length (rcells (rangesOf pre)) ∧ True) ∧ W.heap[w.heap.size + 2]? = some (.cells a.cells 24 (0, 0))) ∧ Below w.heap.size w W)
    (fun _ _ _ => False)
    (OwnFrom.and (OwnFrom.and (Own.from (holdsRow_own w.heap.size (w.heap.size + 1) 32 34 2 (fun pre => (rangesOf pre).length) (fun pre => rcells (rangesOf pre)) (fun pre v => True)) _) (Own.from (block_own _ _ _) _)) (ownFrom_below (Nat.le_refl _) (by simp; omega)))
    (fun _ _ _ _ _ hs _ _ => hs)
    ⟨⟨⟨_, bL, World.ownsRow_nil _ _ _ _, trivial⟩, hcell⟩, hB0⟩
    (fun x => { tmps := #[V4 a, .pointer (some ⟨w.heap.size, 0, none⟩), .slice none 0 0, .pointer (some ⟨w.heap.size + 1, 0, none⟩), .int .u8 ((x.val : Nat) : Int), undef, V4 a, .func (.func 36) #[] #[.pointer (some ⟨w.heap.size + 1 + 1, 0, none⟩)], .int .u8 ((x.val : Nat) : Int), undef, undef, undef, undef, undef, undef, undef, undef, undef, undef, undef, undef, undef, undef, undef, undef, undef, undef, undef, undef, undef, undef, undef, undef, undef, undef, undef, undef, undef, undef], defers := [] }) ?assign ?body ?done ?stop
  case assign =>
    intro l x W K hK
    gi_wp2
    exact hK
  case body =>
    rintro l pre x W ⟨⟨⟨v, hv, hrow, _⟩, hC⟩, hB⟩ hlt
    have hx := x.isLt
    have hlen := rangesOf_len pre.length pre rfl
    have hc := hv.cell
    have hf := hv.frozen
    have hcnt := upto_count a 256
    obtain ⟨L, hL⟩ : ∃ L, L = rangesOf pre := ⟨_, rfl⟩
    have hst := rangesOf_snoc pre x
    rw [← hL] at hrow hst hlen
    rcases snoc_or L with rfl | ⟨L', lo, hi, rfl⟩
    · obtain ⟨A, c, rfl⟩ : ∃ A c, v = .slice A 0 c := by
        rcases hrow.2 with ⟨rfl, _⟩ | ⟨g, cap, cur, rfl, _⟩
        · exact ⟨_, _, rfl⟩
        · exact ⟨_, _, rfl⟩
      rw [List.length_nil] at hrow
      have hR := Lib.hid hrow; clear hrow
      have hSt := Lib.hid hst; clear hst
      have HC := Lib.hid hC; clear hC
      clear hL
      gi_wp2_with (gi_at_builtin; refine wpListIn_append_own _ rfl _ _ 32 rfl w.heap.size 34 i0 (.agg #[.int .u8 0, .int .u8 0]) 2 2 Try.underlying32 hi1 hz0 hz1 hz2 rfl (by decide) _ _ _ rfl (hR.out.alloc _) ⟨W.heap.size, 0, none⟩ 1 1 [.int .u8 ((x.val : Nat) : Int), .int .u8 ((x.val : Nat) : Int)] rfl rfl (cell_two_new _ _ _ _) (by simp [Value.oneCell']) (by unfold maxLen; omega) (by omega) (by have := hB.size; simp; omega) ?_; intro v' w1 hown' hgrow _; obtain ⟨g', cap', rfl⟩ := ownsRow_succ hown'; have HW := Lib.hid hown'; have HG := Lib.hid hgrow; have hc1 := ((hv.alloc _).kept hgrow (hv.not_row (by decide) hR.out)).cell; have hf1 := ((hv.alloc _).kept hgrow (hv.not_row (by decide) hR.out)).frozen; clear hown' hgrow)
      exact ranges_put hv HC.out hB hR.out HW.out HG.out (by rw [hSt.out, stepR_nil]; rfl) (by rw [hSt.out, stepR_nil]; rfl)
    · rw [List.length_append, List.length_singleton] at hrow hlen
      obtain ⟨g, cap, rfl⟩ := ownsRow_succ hrow
      have hne := not_row' hC (by decide) hrow
      have hge : w.heap.size ≤ g := by
        rcases hrow.2 with ⟨h, _⟩ | ⟨g', cap', cur, h, h2, _⟩
        · cases h
        · cases h; exact h2
      have hhi : hi < 256 := (rangesOf_lt pre.length pre rfl (lo, hi) (by rw [← hL]; simp)).2
      have hgn : g ≠ w.heap.size + 2 := fun e => hne (by rw [← e]; rfl)
      have hcl := (hrow.cellAt (L'.length * 2 + 1) (by omega)).trans (rcells_last L' lo hi)
      have hfl := hrow.frozenAt (L'.length * 2 + 1)
      have hR := Lib.hid hrow; clear hrow hne
      have HC := Lib.hid hC; clear hC
      have hSt := Lib.hid hst; clear hst
      clear hL
      by_cases hb : hi + 1 = x.val
      · have hbi : ((hi : Int) + 1 == ((x.val : Nat) : Int)) = true := by rw [beq_iff_eq]; omega
        have HB := Lib.hid hb; clear hb
        gi_wp2
        have hst := hR.out.stored (L'.length * 2 + 1) (.int .u8 ((x.val : Nat) : Int))
        refine ⟨(KeepsOthers.setCell _ _ _).from _, fun hk => heap_other (fun e => hgn e.symm) hk, ⟨⟨_, hv.kept hst.2 (hv.not_row (by decide) hR.out), ?_, trivial⟩, heap_other (fun e => hgn e.symm) HC.out⟩, hB.setCell hge _⟩
        rw [hSt.out, stepR_yes _ _ _ _ HB.out, ← rcells_set L' lo hi x.val]
        simpa using hst.1
      · have hbi : ((hi : Int) + 1 == ((x.val : Nat) : Int)) = false := by rw [beq_eq_false_iff_ne]; omega
        have HB := Lib.hid hb; clear hb
        gi_wp2_with (gi_at_builtin; refine wpListIn_append_own _ rfl _ _ 32 rfl w.heap.size 34 i0 (.agg #[.int .u8 0, .int .u8 0]) 2 2 Try.underlying32 hi1 hz0 hz1 hz2 rfl (by decide) _ _ _ rfl (hR.out.alloc _) ⟨W.heap.size, 0, none⟩ 1 1 [.int .u8 ((x.val : Nat) : Int), .int .u8 ((x.val : Nat) : Int)] rfl rfl (cell_two_new _ _ _ _) (by simp [Value.oneCell']) (by unfold maxLen; omega) (by omega) (by have := hB.size; simp; omega) ?_; intro v' w1 hown' hgrow _; obtain ⟨g', cap', rfl⟩ := ownsRow_succ hown'; have HW := Lib.hid hown'; have HG := Lib.hid hgrow; have hc1 := ((hv.alloc _).kept hgrow (hv.not_row (by decide) hR.out)).cell; have hf1 := ((hv.alloc _).kept hgrow (hv.not_row (by decide) hR.out)).frozen; clear hown' hgrow)
        exact ranges_put hv HC.out hB hR.out HW.out HG.out (by rw [hSt.out, stepR_no _ _ _ _ HB.out]; simp only [List.length_append, List.length_singleton]) (by rw [hSt.out, stepR_no _ _ _ _ HB.out, rcells_snoc (L' ++ [(lo, hi)])])
  case done =>
    rintro D ys W hD rfl ⟨⟨⟨v, hv, hrow, _⟩, hC⟩, hB⟩ hK
    have hc := hv.cell
    gi_wp2
    refine ⟨by simp, .inl ⟨_, _, rfl, run_takeDeferred hK, ?_⟩⟩
    exact ⟨_, results_tmp rfl _ _ _, v, rfl, ownsRow_putObj hrow _ hK rfl, hB.trans (belowK_b (w := w) (Nat.le_refl _) W D _ _ (by simp at hD; omega) hK rfl rfl)⟩
  case stop =>
    rintro D c pre W _ _ h _
    exact h.elim
end Go.Proofs.Ytachpdeejificaa
set_option linter.unusedVariables false
set_option linter.unusedSimpArgs false
namespace Go.Proofs.Ytachpdeejificaa
/-- A byte's own text. -/
def hexd (d : Nat) : Nat := if d < 10 then 48 + d else 87 + d
def spellL (b : Nat) : List Nat :=
  if b = 9 then [92, 116] else if b = 10 then [92, 110] else if b = 13 then [92, 114] else if b = 92 ∨ b = 93 ∨ b = 45 ∨ b = 94 then [92, b]
  else if b < 32 ∨ 126 < b then [92, 120, hexd (b / 16), hexd (b % 16)] else [b]
/-- The bytes of a text at a place. -/
def BAt (s : ByteArray) (p : Nat) (l : List Nat) : Prop := p + l.length ≤ s.size ∧ ∀ i, i < l.length → bat s (p + i) = l.getD i 0
theorem BAt.right {s : ByteArray} {p : Nat} {l m : List Nat} (h : BAt s p (l ++ m)) : BAt s (p + l.length) m := by
  refine ⟨by have := h.1; rw [List.length_append] at this; omega, fun i hi => ?_⟩
  rw [Nat.add_assoc, h.2 (l.length + i) (by rw [List.length_append]; omega), List.getD_eq_getElem?_getD, List.getElem?_append_right (by omega), ← List.getD_eq_getElem?_getD]
  congr 1; omega
theorem BAt.head {s : ByteArray} {p c : Nat} {t : List Nat} (h : BAt s p (c :: t)) : p < s.size ∧ bat s p = c := by
  have h1 := h.1; have h2 := h.2 0 (by simp)
  simp at h1 h2
  exact ⟨by omega, h2⟩
/-- A range's own text; what is read of it. -/
def rngT (r : Nat × Nat) : List Nat := spellL r.1 ++ ((if 1 < r.2 - r.1 then [45] else []) ++ (if r.1 < r.2 then spellL r.2 else []))
def textR (l : List (Nat × Nat)) : List Nat := l.flatMap rngT
theorem cnt_yes {p : Nat → Bool} {k : Nat} (h : p k = true) : cnt p (k + 1) = cnt p k + 1 := by unfold cnt; rw [List.range_succ, List.filter_append]; simp [h]
theorem cnt_no {p : Nat → Bool} {k : Nat} (h : p k = false) : cnt p (k + 1) = cnt p k := by unfold cnt; rw [List.range_succ, List.filter_append]; simp [h]
/-- Ranges that rise, do not touch, and hold what a set holds below a number. -/
structure Good (l : List (Nat × Nat)) (k : Nat) (p : Nat → Bool) : Prop where
  le : ∀ r ∈ l, r.1 ≤ r.2 ∧ r.2 < k
  up : l.Pairwise fun r q => r.2 + 1 < q.1
  mem : ∀ j, j < k → inRanges l j = p j
  sum : (l.map fun r => r.2 - r.1 + 1).sum = cnt p k
theorem inRanges_snoc (l : List (Nat × Nat)) (lo hi j : Nat) : inRanges (l ++ [(lo, hi)]) j = (inRanges l j || (decide (lo ≤ j) && decide (j ≤ hi))) := by unfold inRanges; rw [List.any_append]; simp
theorem inRanges_far {l : List (Nat × Nat)} {k j : Nat} (h : ∀ r ∈ l, r.2 < k) (hj : k ≤ j) : inRanges l j = false := by
  unfold inRanges
  rw [List.any_eq_false]
  intro r hr
  have := h r hr
  simp
  omega
theorem good_nil (p : Nat → Bool) : Good [] 0 p := ⟨fun r hr => by simp at hr, List.Pairwise.nil, fun j hj => by omega, rfl⟩
theorem good_no {l : List (Nat × Nat)} {k : Nat} {p : Nat → Bool} (g : Good l k p) (h : p k = false) : Good l (k + 1) p :=
  ⟨fun r hr => ⟨(g.le r hr).1, by have := (g.le r hr).2; omega⟩, g.up, fun j hj => by
    by_cases e : j = k
    · subst e; rw [h]; exact inRanges_far (fun r hr => (g.le r hr).2) (Nat.le_refl _)
    · exact g.mem j (by omega), by rw [cnt_no h]; exact g.sum⟩
theorem good_one {l : List (Nat × Nat)} {k : Nat} {p : Nat → Bool} (g : Good l k p) (h : p k = true) (hfar : ∀ r ∈ l, r.2 + 1 < k) : Good (l ++ [(k, k)]) (k + 1) p := by
  refine ⟨fun r hr => ?_, ?_, fun j hj => ?_, ?_⟩
  · rcases List.mem_append.1 hr with hr | hr
    · exact ⟨(g.le r hr).1, by have := (g.le r hr).2; omega⟩
    · rw [List.mem_singleton.1 hr]; exact ⟨Nat.le_refl _, by dsimp only; omega⟩
  · rw [List.pairwise_append]
    refine ⟨g.up, List.pairwise_singleton _ _, fun r hr q hq => ?_⟩
    rw [List.mem_singleton.1 hq]
    exact hfar r hr
  · rw [inRanges_snoc]
    by_cases e : j = k
    · subst e; simp [h]
    · rw [g.mem j (by omega)]; simp; omega
  · rw [cnt_yes h, List.map_append, List.sum_append, g.sum]; simp
theorem good_step {l : List (Nat × Nat)} {k : Nat} {p : Nat → Bool} (g : Good l k p) (h : p k = true) : Good (stepR l k) (k + 1) p := by
  rcases snoc_or l with rfl | ⟨l', lo, hi, rfl⟩
  · rw [stepR_nil]
    exact good_one (l := []) g h fun r hr => by simp at hr
  · have hlast := g.le (lo, hi) (by simp)
    have hup := List.pairwise_append.1 g.up
    have hfl : ∀ r ∈ l', r.2 + 1 < lo := fun r hr => hup.2.2 r hr (lo, hi) (by simp)
    dsimp only at hlast
    by_cases e : hi + 1 = k
    · rw [stepR_yes _ _ _ _ e]
      refine ⟨fun r hr => ?_, ?_, fun j hj => ?_, ?_⟩
      · rcases List.mem_append.1 hr with hr | hr
        · have := g.le r (by simp [hr]); exact ⟨this.1, by omega⟩
        · rw [List.mem_singleton.1 hr]; exact ⟨by dsimp only; omega, by dsimp only; omega⟩
      · rw [List.pairwise_append]
        refine ⟨hup.1, List.pairwise_singleton _ _, fun r hr q hq => ?_⟩
        rw [List.mem_singleton.1 hq]
        exact hfl r hr
      · rw [inRanges_snoc]
        by_cases e2 : j = k
        · subst e2; rw [h]; simp; right; omega
        · have := g.mem j (by omega)
          rw [inRanges_snoc] at this
          rw [← this]
          congr 2
          by_cases q : j ≤ hi
          · simp [q]; omega
          · exfalso; omega
      · have hs := g.sum
        rw [List.map_append, List.sum_append] at hs ⊢
        rw [cnt_yes h, ← hs]
        simp
        omega
    · rw [stepR_no _ _ _ _ e]
      refine good_one g h fun r hr => ?_
      rcases List.mem_append.1 hr with hr | hr
      · have := hfl r hr; omega
      · rw [List.mem_singleton.1 hr]; dsimp only; omega
/-- Two lists of ranges that rise and do not touch, and hold the same, are one. -/
def Up (l : List (Nat × Nat)) : Prop := (∀ r ∈ l, r.1 ≤ r.2) ∧ l.Pairwise fun r q => r.2 + 1 < q.1
theorem Up.tail {r : Nat × Nat} {l : List (Nat × Nat)} (h : Up (r :: l)) : Up l := ⟨fun q hq => h.1 q (by simp [hq]), (List.pairwise_cons.1 h.2).2⟩
theorem inRanges_cons (r : Nat × Nat) (l : List (Nat × Nat)) (j : Nat) : inRanges (r :: l) j = ((decide (r.1 ≤ j) && decide (j ≤ r.2)) || inRanges l j) := rfl
theorem inRanges_ex {l : List (Nat × Nat)} {j : Nat} (h : inRanges l j = true) : ∃ r ∈ l, r.1 ≤ j ∧ j ≤ r.2 := by
  unfold inRanges at h
  rw [List.any_eq_true] at h
  obtain ⟨r, hr, h⟩ := h
  simp at h
  exact ⟨r, hr, h⟩
theorem inRanges_mem {l : List (Nat × Nat)} {j : Nat} {r : Nat × Nat} (hr : r ∈ l) (h1 : r.1 ≤ j) (h2 : j ≤ r.2) : inRanges l j = true := by
  unfold inRanges
  rw [List.any_eq_true]
  exact ⟨r, hr, by simp [h1, h2]⟩
theorem Up.behind {r : Nat × Nat} {l : List (Nat × Nat)} (h : Up (r :: l)) {j : Nat} (hj : j ≤ r.2 + 1) : inRanges l j = false := by
  rcases q : inRanges l j
  · rfl
  · obtain ⟨x, hx, h1, h2⟩ := inRanges_ex q
    have := (List.pairwise_cons.1 h.2).1 x hx
    omega
theorem up_uniq : ∀ (l m : List (Nat × Nat)), Up l → Up m → (∀ j, inRanges l j = inRanges m j) → l = m
  | [], [], _, _, _ => rfl
  | [], r :: m, _, hm, h => by
    have := h r.1
    rw [inRanges_mem (l := r :: m) (by simp) (Nat.le_refl _) (hm.1 r (by simp))] at this
    cases this
  | r :: l, [], hl, _, h => by
    have := h r.1
    rw [inRanges_mem (l := r :: l) (by simp) (Nat.le_refl _) (hl.1 r (by simp))] at this
    cases this
  | (a, b) :: l, (c, d) :: m, hl, hm, h => by
    have hab : a ≤ b := hl.1 (a, b) (by simp)
    have hcd : c ≤ d := hm.1 (c, d) (by simp)
    have low : ∀ {a b c d : Nat} {l m : List (Nat × Nat)}, a ≤ b → c ≤ d → Up ((a, b) :: l) → Up ((c, d) :: m) → (∀ j, inRanges ((a, b) :: l) j = inRanges ((c, d) :: m) j) → c ≤ a := by
      intro a b c d l m hab hcd hl hm h
      have e := h a
      rw [inRanges_mem (l := (a, b) :: l) (r := (a, b)) (by simp) (Nat.le_refl _) hab] at e
      obtain ⟨x, hx, h1, h2⟩ := inRanges_ex e.symm
      rcases List.mem_cons.1 hx with rfl | hx
      · exact h1
      · have := (List.pairwise_cons.1 hm.2).1 x hx
        dsimp only at this
        omega
    have e1 : a = c := Nat.le_antisymm (low hcd hab hm hl fun j => (h j).symm) (low hab hcd hl hm h)
    subst e1
    have high : ∀ {a b d : Nat} {l m : List (Nat × Nat)}, a ≤ b → Up ((a, b) :: l) → Up ((a, d) :: m) → (∀ j, inRanges ((a, b) :: l) j = inRanges ((a, d) :: m) j) → d ≤ b := by
      intro a b d l m hab hl hm h
      rcases Nat.lt_or_ge b d with hlt | hge
      · exfalso
        have e := h (b + 1)
        rw [inRanges_mem (l := (a, d) :: m) (r := (a, d)) (by simp) (by dsimp only; omega) hlt, inRanges_cons, hl.behind (Nat.le_refl _)] at e
        simp at e
        omega
      · exact hge
    have e2 : b = d := Nat.le_antisymm (high hcd hm hl fun j => (h j).symm) (high hab hl hm h)
    subst e2
    congr 1
    refine up_uniq l m hl.tail hm.tail fun j => ?_
    by_cases q : j ≤ b + 1
    · rw [hl.behind q, hm.behind q]
    · have e := h j
      rw [inRanges_cons, inRanges_cons] at e
      have z : (decide (a ≤ j) && decide (j ≤ b)) = false := by simp; omega
      rw [z, Bool.false_or, Bool.false_or] at e
      exact e
/-- The runs of a set that begin below a number. -/
structure Runs (l : List (Nat × Nat)) (i : Nat) (p : Nat → Bool) : Prop where
  run : ∀ r ∈ l, r.1 < i ∧ r.1 ≤ r.2 ∧ r.2 < 256 ∧ (∀ j, r.1 ≤ j → j ≤ r.2 → p j = true) ∧ (r.2 = 255 ∨ p (r.2 + 1) = false)
  up : l.Pairwise fun r q => r.2 + 1 < q.1
  all : ∀ s, s < i → p s = true → (s = 0 ∨ p (s - 1) = false) → ∃ r ∈ l, r.1 = s
theorem runs_nil (p : Nat → Bool) : Runs [] 0 p := ⟨fun r h => by simp at h, List.Pairwise.nil, fun s hs => by omega⟩
theorem runs_no {l : List (Nat × Nat)} {i : Nat} {p : Nat → Bool} (h : Runs l i p) (hn : p i = false ∨ (i ≠ 0 ∧ p (i - 1) = true)) : Runs l (i + 1) p :=
  ⟨fun r hr => ⟨by have := (h.run r hr).1; omega, (h.run r hr).2⟩, h.up, fun s hs h1 h2 => by
    by_cases e : s = i
    · subst e
      rcases hn with hn | ⟨hn, hn2⟩
      · rw [hn] at h1; cases h1
      · rcases h2 with h2 | h2
        · exact absurd h2 hn
        · rw [hn2] at h2; cases h2
    · exact h.all s (by omega) h1 h2⟩
theorem runs_yes {l : List (Nat × Nat)} {i k : Nat} {p : Nat → Bool} (h : Runs l i p) (hi : i = 0 ∨ p (i - 1) = false) (hk : i ≤ k) (hk2 : k < 256) (ha : ∀ j, i ≤ j → j ≤ k → p j = true) (he : k = 255 ∨ p (k + 1) = false) : Runs (l ++ [(i, k)]) (i + 1) p := by
  refine ⟨fun r hr => ?_, ?_, fun s hs h1 h2 => ?_⟩
  · rcases List.mem_append.1 hr with hr | hr
    · exact ⟨by have := (h.run r hr).1; omega, (h.run r hr).2⟩
    · rw [List.mem_singleton.1 hr]; exact ⟨Nat.lt_succ_self _, hk, hk2, ha, he⟩
  · rw [List.pairwise_append]
    refine ⟨h.up, List.pairwise_singleton _ _, fun r hr q hq => ?_⟩
    rw [List.mem_singleton.1 hq]
    dsimp only
    have g := h.run r hr
    rcases hi with rfl | hi
    · omega
    · have q1 : r.2 < i - 1 := by
        rcases Nat.lt_or_ge r.2 (i - 1) with q | q
        · exact q
        · have := g.2.2.2.1 (i - 1) (by omega) q
          rw [hi] at this; cases this
      omega
  · by_cases e : s = i
    · subst e; exact ⟨(s, k), by simp, rfl⟩
    · obtain ⟨r, hr, e2⟩ := h.all s (by omega) h1 h2
      exact ⟨r, by simp [hr], e2⟩
theorem run_start (p : Nat → Bool) : ∀ j, p j = true → ∃ s, s ≤ j ∧ (∀ t, s ≤ t → t ≤ j → p t = true) ∧ (s = 0 ∨ p (s - 1) = false)
  | 0, h => ⟨0, Nat.le_refl _, fun t _ h2 => (show t = 0 by omega) ▸ h, .inl rfl⟩
  | j + 1, h => by
    rcases q : p j
    · exact ⟨j + 1, Nat.le_refl _, fun t h1 h2 => (show t = j + 1 by omega) ▸ h, .inr (by simpa using q)⟩
    · obtain ⟨s, h1, h2, h3⟩ := run_start p j q
      refine ⟨s, by omega, fun t h4 h5 => ?_, h3⟩
      by_cases e : t = j + 1
      · subst e; exact h
      · exact h2 t h4 (by omega)
theorem runs_mem {l : List (Nat × Nat)} {p : Nat → Bool} (h : Runs l 256 p) (j : Nat) (hj : j < 256) : inRanges l j = p j := by
  rcases q : p j
  · rcases q2 : inRanges l j
    · rfl
    · obtain ⟨r, hr, h1, h2⟩ := inRanges_ex q2
      rw [(h.run r hr).2.2.2.1 j h1 h2] at q; cases q
  · obtain ⟨s, h1, h2, h3⟩ := run_start p j q
    obtain ⟨r, hr, e⟩ := h.all s (by omega) (h2 s (Nat.le_refl _) h1) h3
    have g := h.run r hr
    refine inRanges_mem hr (by omega) ?_
    rcases Nat.lt_or_ge r.2 j with q3 | q3
    · exfalso
      rcases g.2.2.2.2 with g | g
      · omega
      · rw [h2 (r.2 + 1) (by omega) (by omega)] at g; cases g
    · exact q3
theorem runs_good {l m : List (Nat × Nat)} {p : Nat → Bool} (h : Runs l 256 p) (g : Good m 256 p) : l = m := by
  refine up_uniq l m ⟨fun r hr => (h.run r hr).2.1, h.up⟩ ⟨fun r hr => (g.le r hr).1, g.up⟩ fun j => ?_
  by_cases q : j < 256
  · rw [runs_mem h j q, g.mem j q]
  · rw [inRanges_far (k := 256) (fun r hr => (h.run r hr).2.2.1) (by omega), inRanges_far (k := 256) (fun r hr => (g.le r hr).2) (by omega)]
theorem good_upto (a : Cls) : ∀ k, k ≤ 256 → Good (rangesOf (upto a k)) k a.mem
  | 0, _ => good_nil _
  | k + 1, h => by
    have ih := good_upto a k (by omega)
    by_cases q : a.mem k = true
    · rw [upto_yes a k (by omega) q, rangesOf_snoc]; exact good_step ih q
    · rw [upto_no a k (by simpa using q)]; exact good_no ih (by simpa using q)
theorem good_ranges (a : Cls) : Good (rangesL a) 256 a.mem := good_upto a 256 (Nat.le_refl _)
/-- A class's own text. -/
def textC (a : Cls) : List Nat := if 128 < a.bytes.length then 91 :: 94 :: (textR (rangesL a.not) ++ [93]) else 91 :: (textR (rangesL a) ++ [93])
end Go.Proofs.Ytachpdeejificaa
set_option linter.unusedVariables false
set_option linter.unusedSimpArgs false
namespace Go.Proofs.Ytachpdeejificaa
open Go.RowKit
def OwnRng (w : World) (l : List (Nat × Nat)) (e : Ending) (w' : World) : Prop := ∃ v, e = .returned v ∧ w'.ownsRow w.heap.size 34 2 v l.length (rcells l) ∧ Below w.heap.size w w'
set_option maxRecDepth 100000 in
set_option maxHeartbeats 1000000 in
theorem rangesR_c (a : Cls) (ha : a.ok) (w : World) : Calls Try.prog 27 #[V4 a] w (OwnRng w (rangesL a)) := by
  have HA := Lib.hid ha; clear ha
  have hv := zeroSet.1
  go_enter Try.func27, Try.ntmps27
  go_wp2_with (first | (go_at_call 35; refine (open_c a HA.out _).mono ?_; rintro e w1 ⟨rfl, hb1⟩; unfold setVal) | (refine wpList_store_row rfl 62 _ _ rfl w1.heap.size (setCells a.mem) rfl rfl _ _ (heap_new _ _) (infoSet _) (by rw [setCells_size]; rfl) (setCells_one _) ?_; rw [World.setRow_alloc_new]))
  have hz := hb1.size
  have hb := ((Below.refl _ _).alloc (Nat.le_refl _) _).trans (hb1.mono (by simp))
  simp only [World.size_alloc] at hz
  have HB1 := Lib.hid hb; clear hb1 hb
  go_loopw [4, 5] (fun v i wr => ∃ (k : Nat) (L : List (Nat × Nat)), k ≤ 256 ∧ i = .int .i64 k ∧ Below w.heap.size w wr ∧ w.heap.size < w1.heap.size ∧
      wr.heap[w1.heap.size]? = some (.cells (setCells a.mem) 62 (0, 0)) ∧ Runs L k a.mem ∧ L.length ≤ k ∧ wr.ownsRow w.heap.size 34 2 v L.length (rcells L)) (fun _ i _ => 256 - (intOf i).toNat)
  case atStart =>
    exact ⟨0, [], by omega, rfl, HB1.out.alloc (by omega) _, by omega, heap_new _ _, runs_nil _, by simp, World.ownsRow_nil _ _ _ _⟩
  case round =>
    obtain ⟨k, L, hk, rfl, hB, hl, h2, hR, hL, hO⟩ := hrel
    obtain ⟨wo, rfl⟩ : ∃ wo : World, wo = wr := ⟨_, rfl⟩
    by_cases hlt : k < 256
    · have c2 : wo.cell? ⟨w1.heap.size, k, none⟩ = some (.bool (a.mem k)) := by rw [cell_of_row _ _ _ _ _ _ h2, setCells_at _ _ hlt]
      have H2 := Lib.hid h2; have HO := Lib.hid hO; have HB := Lib.hid hB; have hs := hB.size; have HR := Lib.hid hR; clear h2 hO hB hR
      cases hf : a.mem k
      · rw [hf] at c2
        have HF := Lib.hid hf; clear hf
        go_wp2
        go_roundw
        case rel => exact ⟨k + 1, L, by omega, by go_num, HB.out, hl, H2.out, runs_no HR.out (.inl HF.out), by omega, HO.out⟩
        case measure => simp [intOf]; omega
      · rw [hf] at c2
        have HF := Lib.hid hf; clear hf
        by_cases hp : k ≠ 0 ∧ a.mem (k - 1) = true
        · obtain ⟨hk0, hp⟩ := hp
          have c3 : wo.cell? ⟨w1.heap.size, k - 1, none⟩ = some (.bool true) := by rw [cell_of_row _ _ _ _ _ _ H2.out, setCells_at _ _ (by omega), hp]
          have HP := Lib.hid hp; clear hp
          have hki : (1 : Int) ≤ (k : Int) := by omega
          have hk1 : ((k : Int) - 1).toNat = k - 1 := by omega
          go_wp2
          go_roundw
          case rel => exact ⟨k + 1, L, by omega, by go_num, HB.out, hl, H2.out, runs_no HR.out (.inr ⟨hk0, HP.out⟩), by omega, HO.out⟩
          case measure => simp [intOf]; omega
        · have hst : k = 0 ∨ a.mem (k - 1) = false := by
            by_cases e : k = 0
            · exact .inl e
            · exact .inr (by rcases q : a.mem (k - 1) with _ | _; rfl; exact absurd ⟨e, q⟩ hp)
          have c3 : k ≠ 0 → wo.cell? ⟨w1.heap.size, k - 1, none⟩ = some (.bool false) := fun e => by
            rcases hst with h | h
            · exact absurd h e
            · rw [cell_of_row _ _ _ _ _ _ H2.out, setCells_at _ _ (by omega), h]
          have HS := Lib.hid hst; clear hst hp
          have HF2 := Lib.hid (fun j (h1 : k ≤ j) (h2 : j ≤ k) => show a.mem j = true from (show k = j by omega) ▸ HF.out)
          have C3 := Lib.hid c3; clear c3
          by_cases hk0 : k = 0
          all_goals
            first
              | have ek : ((k : Int) == 0) = true := by simp [hk0]
              | (have c3 := C3.out hk0; have ek : ((k : Int) == 0) = false := by simp [hk0]
                 have hki : (1 : Int) ≤ (k : Int) := by omega
                 have hk1 : ((k : Int) - 1).toNat = k - 1 := by omega)
            clear hk0
            have ek2 : decide ((k : Int) < 256) = true := by simp; omega
            go_wp2
            go_loopw [6] (fun x wq => ∃ m : Nat, k ≤ m ∧ m ≤ 255 ∧ x = .int .i64 m ∧ Hid (∀ j, k ≤ j → j ≤ m → a.mem j = true) ∧ wq = wo) (fun x _ => 255 - (intOf x).toNat)
            case atStart => exact ⟨k, Nat.le_refl _, by omega, rfl, HF2, rfl⟩
            case round =>
              obtain ⟨m, hm1, hm2, rfl, HM, rfl⟩ := hrel
              by_cases hm : m < 255
              · have c4 : wr.cell? ⟨w1.heap.size, m + 1, none⟩ = some (.bool (a.mem (m + 1))) := by rw [cell_of_row _ _ _ _ _ _ H2.out, setCells_at _ _ (by omega)]
                cases hf2 : a.mem (m + 1)
                · rw [hf2] at c4
                  have HF3 := Lib.hid hf2; clear hf2
                  go_wp2_with (at_builtin; go_must (refine app1 w.heap.size rfl (.tmp 38) (.tmp 44) 32 34 (.agg #[.int .u8 0, .int .u8 0]) 2 2 rfl Try.underlying32 infoRng rfl (by decide) _ _ _ #[.int .u8 (k : Int), .int .u8 (m : Int)] rfl (by simp [Value.oneCell']) rfl rfl HO.out HB.out hs (by omega) (by omega) ?_); intro g c w2 hO2 hB2 hk2 hs2)
                  go_roundw
                  case rel =>
                    refine ⟨k + 1, L ++ [(k, m)], by omega, by go_num, hB2, hl, hk2 _ _ H2.out (own_ne HO.out H2.out (by decide)), runs_yes HR.out HS.out hm1 (by omega) HM.out (.inr HF3.out), by rw [List.length_append]; simp; omega, ?_⟩
                    rw [rcells_snoc, List.length_append]
                    exact hO2
                  case measure => simp [intOf]; omega
                · rw [hf2] at c4
                  have HF3 := Lib.hid hf2; clear hf2
                  go_wp2
                  go_roundw
                  case rel =>
                    refine ⟨m + 1, by omega, by omega, by go_num, fun j h1 h2 => ?_, by trivial⟩
                    by_cases e : j = m + 1
                    · rw [e]; exact HF3.out
                    · exact HM.out j h1 (by omega)
                  case measure => simp [intOf]; omega
              · go_wp2_with (at_builtin; go_must (refine app1 w.heap.size rfl (.tmp 38) (.tmp 44) 32 34 (.agg #[.int .u8 0, .int .u8 0]) 2 2 rfl Try.underlying32 infoRng rfl (by decide) _ _ _ #[.int .u8 (k : Int), .int .u8 (m : Int)] rfl (by simp [Value.oneCell']) rfl rfl HO.out HB.out hs (by omega) (by omega) ?_); intro g c w2 hO2 hB2 hk2 hs2)
                go_roundw
                case rel =>
                  refine ⟨k + 1, L ++ [(k, m)], by omega, by go_num, hB2, hl, hk2 _ _ H2.out (own_ne HO.out H2.out (by decide)), runs_yes HR.out HS.out hm1 (by omega) HM.out (.inl (by omega)), by rw [List.length_append]; simp; omega, ?_⟩
                  rw [rcells_snoc, List.length_append]
                  exact hO2
                case measure => simp [intOf]; omega
    · obtain rfl : k = 256 := by omega
      have hfin := runs_good hR (good_ranges a)
      have HFin := Lib.hid hfin; clear hfin
      have H2 := Lib.hid h2; have HO := Lib.hid hO; have HB := Lib.hid hB; have hs := hB.size; clear h2 hO hB hR
      go_wp2
      go_ret
      exact ⟨_, rfl, by rw [← HFin.out]; exact HO.out, HB.out⟩
end Go.Proofs.Ytachpdeejificaa
set_option linter.unusedVariables false
set_option linter.unusedSimpArgs false
namespace Go.Proofs.Ytachpdeejificaa.Fr
open Go.RowKit
variable {W W' w : World} {base : Nat} {e : TypeId} {size : Nat} {v x : Value} {n m : Nat} {xs ys : List Value}
/-- A slice's cells as they are told: nil, or the head of a block. -/
def Told (W : World) (base : Nat) (e : TypeId) (size : Nat) (v : Value) (n : Nat) (xs : List Value) : Prop :=
  xs.length = n * size ∧ ((v = .slice none 0 0 ∧ n = 0) ∨ ∃ g cap cur, v = .slice (some ⟨g, 0, none⟩) n cap ∧ n ≤ cap ∧ base ≤ g ∧ W.heap[g]? = some (.cells cur e (0, 0)) ∧ cur.toList.take (n * size) = xs)
theorem told_own (h : W.ownsRow base e size v n xs) : Told W base e size v n xs := by
  refine ⟨h.1, ?_⟩
  rcases h.2 with q | ⟨g, cap, cur, hv, hb, hg, hn, _, _, ht⟩
  · exact .inl q
  · exact .inr ⟨g, cap, cur, hv, hn, hb, hg, ht⟩
theorem Told.move (h : Told W base e size v n xs) (hm : ∀ g, v.ownBlock = some g → W'.heap[g]? = W.heap[g]?) : Told W' base e size v n xs := by
  refine ⟨h.1, ?_⟩
  rcases h.2 with q | ⟨g, cap, cur, hv, hn, hb, hg, ht⟩
  · exact .inl q
  · exact .inr ⟨g, cap, cur, hv, hn, hb, (hm g (by rw [hv]; rfl)).trans hg, ht⟩
theorem own_move (h : W.ownsRow base e size v n xs) (hm : ∀ g, v.ownBlock = some g → W'.heap[g]? = W.heap[g]?) : W'.ownsRow base e size v n xs := by
  refine ⟨h.1, ?_⟩
  rcases h.2 with q | ⟨g, cap, cur, hv, hb, hg, r⟩
  · exact .inl q
  · exact .inr ⟨g, cap, cur, hv, hb, (hm g (by rw [hv]; rfl)).trans hg, r⟩
theorem Told.lt (h : Told W base e size v n xs) {g : Nat} (hg : v.ownBlock = some g) : base ≤ g ∧ g < W.heap.size ∧ ∃ cur, W.heap[g]? = some (.cells cur e (0, 0)) := by
  rcases h.2 with ⟨rfl, _⟩ | ⟨g', cap, cur, rfl, _, hb, hh, _⟩
  · simp [Value.ownBlock] at hg
  · obtain rfl : g' = g := by simpa [Value.ownBlock] using hg
    refine ⟨hb, ?_, cur, hh⟩
    rcases Nat.lt_or_ge g' W.heap.size with q | q
    · exact q
    · simp [Array.getElem?_eq_none q] at hh
theorem Told.form (h : Told W base e size v n xs) : ∃ A c, v = .slice A n c := by
  rcases h.2 with ⟨rfl, rfl⟩ | ⟨g, cap, cur, rfl, _⟩
  · exact ⟨_, _, rfl⟩
  · exact ⟨_, _, rfl⟩
theorem Told.cons (h : Told W base e size v n xs) (hn : 0 < n) : ∃ g c, v = .slice (some ⟨g, 0, none⟩) n c ∧ n ≤ c := by
  rcases h.2 with ⟨_, rfl⟩ | ⟨g, cap, cur, rfl, hc, _⟩
  · omega
  · exact ⟨g, cap, rfl, hc⟩
theorem Told.cell {g c : Nat} (h : Told W base e size (.slice (some ⟨g, 0, none⟩) n c) n xs) (j : Nat) (hj : j < n * size) : W.cell? ⟨g, j, none⟩ = xs[j]? := by
  rcases h.2 with ⟨h', _⟩ | ⟨g', cap', cur, h', _, _, hg, htake⟩
  · simp at h'
  · simp only [Value.slice.injEq, Option.some.injEq, Addr.mk.injEq, and_true, true_and] at h'
    obtain ⟨rfl, rfl⟩ := h'
    rw [cell_of_row W g j cur e (0, 0) hg, ← htake, List.getElem?_take, if_pos hj]
    simp
/-- What is appended onto a row leaves its beginning as it was. -/
theorem told_prefix {b' : Nat} {W0 : World} (hv : Told W0 base e size v n xs) (hx : W.ownsRow b' e size x m (xs ++ ys)) (hb : v.ownBlock = x.ownBlock) : Told W base e size v n xs := by
  refine ⟨hv.1, ?_⟩
  rcases hv.2 with q | ⟨g, cap, cur, rfl, hn, hbg, hg, ht⟩
  · exact .inl q
  · rcases hx.2 with ⟨rfl, _⟩ | ⟨g', cap', cur', rfl, _, hg', _, _, _, ht'⟩
    · simp [Value.ownBlock] at hb
    · obtain rfl : g = g' := by simpa [Value.ownBlock] using hb
      refine .inr ⟨g, cap, cur', rfl, hn, hbg, hg', ?_⟩
      have e2 : cur'.toList.take (n * size) = (cur'.toList.take (m * size)).take (n * size) := by
        rw [List.take_take, Nat.min_eq_left]
        have h1 := hv.1
        have h2 := hx.1
        rw [List.length_append] at h2
        omega
      rw [e2, ht', ← hv.1, List.take_left]
/-- Some elements, one behind the other. -/
def reps (n : Nat) (c : List Value) : List Value := (List.replicate n c).flatten
theorem reps_len (n : Nat) (c : List Value) : (reps n c).length = n * c.length := by unfold reps; simp
theorem reps_succ (n : Nat) (c : List Value) : reps (n + 1) c = reps n c ++ c := by unfold reps; rw [List.replicate_succ', List.flatten_append]; simp
theorem reps_at {n : Nat} {c : List Value} {k t : Nat} (hk : k < n) (ht : t < c.length) : (reps n c)[k * c.length + t]? = c[t]? := by
  induction n with
  | zero => omega
  | succ n ih =>
    rw [reps_succ]
    by_cases h : k < n
    · have hlt : k * c.length + t < n * c.length := by
        have : (k + 1) * c.length ≤ n * c.length := Nat.mul_le_mul_right _ h
        rw [Nat.add_mul] at this; omega
      rw [List.getElem?_append_left (by rw [reps_len]; exact hlt), ih h]
    · obtain rfl : k = n := by omega
      rw [List.getElem?_append_right (by rw [reps_len]; omega), reps_len]
      congr 1; omega
/-- All but some blocks stay. -/
structure Oth (S : Nat → Prop) (w W : World) : Prop where
  os : W.os = w.os
  tape : W.tape = w.tape
  output : W.output = w.output
  size : w.heap.size ≤ W.heap.size
  block : ∀ b, b < w.heap.size → ¬ S b → W.heap[b]? = w.heap[b]?
theorem Oth.refl (S : Nat → Prop) (w : World) : Oth S w w := ⟨rfl, rfl, rfl, Nat.le_refl _, fun _ _ _ => rfl⟩
theorem Oth.trans {S : Nat → Prop} {a b c : World} (h : Oth S a b) (k : Oth S b c) : Oth S a c :=
  ⟨k.os.trans h.os, k.tape.trans h.tape, k.output.trans h.output, Nat.le_trans h.size k.size, fun i hi hs => (k.block i (Nat.lt_of_lt_of_le hi h.size) hs).trans (h.block i hi hs)⟩
theorem Oth.alloc {S : Nat → Prop} {a b : World} (h : Oth S a b) (o : Obj) : Oth S a (b.alloc o) :=
  ⟨h.os, h.tape, h.output, Nat.le_trans h.size (by simp), fun i hi hs => ((World.grownBy_alloc b o none).block i (Nat.lt_of_lt_of_le hi h.size) (by simp)).trans (h.block i hi hs)⟩
theorem Oth.drew {S : Nat → Prop} {a b : World} (h : Oth S a b) : Oth S a b.drew := ⟨h.os, h.tape, h.output, h.size, h.block⟩
theorem Oth.drewN {S : Nat → Prop} {a b : World} (h : Oth S a b) (n : Nat) : Oth S a (b.drewN n) := ⟨h.os, h.tape, h.output, h.size, h.block⟩
theorem Oth.set {S : Nat → Prop} {a b : World} (h : Oth S a b) {p : Addr} (hp : S p.block ∨ a.heap.size ≤ p.block) (u : Value) : Oth S a (b.setCell p u) :=
  ⟨h.os, h.tape, h.output, by have := h.size; simpa using this, fun i hi hs => (heap_setCell_other b p i u (fun e => by rcases hp with q | q; exact hs (by rw [e]; exact q); omega)).trans (h.block i hi hs)⟩
theorem Oth.grown {S : Nat → Prop} {a b c : World} (h : Oth S a b) {row : Option Nat} (hg : b.grownBy c row) (hr : ∀ k, row = some k → S k ∨ a.heap.size ≤ k) : Oth S a c :=
  ⟨hg.os.trans h.os, hg.tape.trans h.tape, hg.output.trans h.output, Nat.le_trans h.size hg.size, fun i hi hs => (hg.block i (Nat.lt_of_lt_of_le hi h.size) (fun e => by rcases hr i e.symm with q | q; exact hs q; omega)).trans (h.block i hi hs)⟩
theorem Oth.below {S : Nat → Prop} {a b c : World} (h : Oth S a b) (hb : Below b.heap.size b c) : Oth S a c :=
  ⟨hb.os.trans h.os, hb.tape.trans h.tape, hb.output.trans h.output, Nat.le_trans h.size hb.size, fun i hi hs => (hb.block i (Nat.lt_of_lt_of_le hi h.size)).trans (h.block i hi hs)⟩
theorem Oth.to {S : Nat → Prop} {a b : World} {B : Nat} (h : Oth S a b) (hS : ∀ k, S k → B ≤ k) (hB : B ≤ a.heap.size) : Below B a b :=
  ⟨h.os, h.tape, h.output, h.size, fun i hi => h.block i (Nat.lt_of_lt_of_le hi hB) (fun hs => by have := hS i hs; omega)⟩
theorem Oth.mono {S T : Nat → Prop} {a b : World} (h : Oth S a b) (hS : ∀ k, S k → T k) : Oth T a b := ⟨h.os, h.tape, h.output, h.size, fun i hi hs => h.block i hi (fun q => hs (hS i q))⟩
end Go.Proofs.Ytachpdeejificaa.Fr
set_option linter.unusedVariables false
set_option linter.unusedSimpArgs false
namespace Go.Proofs.Ytachpdeejificaa.Fr
open Go.RowKit
theorem heap_lt' {W : World} {b : Nat} {o : Obj} (h : W.heap[b]? = some o) : b < W.heap.size := by
  rcases Nat.lt_or_ge b W.heap.size with q | q
  · exact q
  · simp [Array.getElem?_eq_none q] at h
theorem bcell {W w1 : World} (hb : Below W.heap.size W w1) : (∀ b o, b < W.heap.size → w1.cell? ⟨b, o, none⟩ = W.cell? ⟨b, o, none⟩) ∧ (∀ b o, b < W.heap.size → w1.frozen? ⟨b, o, none⟩ = W.frozen? ⟨b, o, none⟩) :=
  ⟨fun b o h => hb.cell (p := ⟨b, o, none⟩) h, fun b o h => hb.frozen (p := ⟨b, o, none⟩) h⟩
/-- An append leads to the row that was, or leaves all blocks as they were. -/
theorem run_append_two {P : Program} (w : World) (base : Nat) (t ty e : TypeId) (i : TypeInfo) (z : Value) (size bytes : Nat) (ht : P.underlying t = some (.slice e)) (hi : P.info? e = some i) (hz : i.zero = some z)
    (hsize : i.size = size) (hby : i.bytes = bytes) (v : Value) (n : Nat) (xs : List Value) (hown : w.ownsRow base e size v n xs)
    (a : Addr) (m c : Nat) (news : List Value) (hl : news.length = m * size) (hnews : ∀ j u, news[j]? = some u → w.cell? (a.add j) = some u) (h1 : ∀ u ∈ news, u.oneCell' = true)
    (hm : 0 < m) (h63 : n + m ≤ maxLen) (hbytes : (n + m) * bytes ≤ 140737488355328) {v' : Value} {w' : World} (hrun : (Builtin.append_ #[t, t] ty #[v, .slice (some a) m c]).run P w = .ok v' w') : v'.ownBlock = v.ownBlock ∨ (w.grownBy w' none ∧ ∀ k, v'.ownBlock = some k → w.heap.size ≤ k) := by
  subst hsize
  subst hby
  have hsmall : n + m ≤ 9223372036854775807 := by simp only [maxLen] at h63; omega
  rcases hown.2 with ⟨rfl, rfl⟩ | ⟨g, cap, cur, rfl, hbg, hg, hnc, hcm, hcs, htake⟩
  · have hr := run_append_nil (P := P) w t ty e i z ht hi hz a m c news hl hnews (by omega) (by omega) (by have hb := hbytes; simp only [Nat.zero_add] at hb; omega)
    rw [hr] at hrun
    cases hrun
    exact .inr ⟨⟨rfl, rfl, rfl, by simp, fun k hk _ => (World.grownBy_alloc w.drew _ none).block k hk (by simp)⟩, fun k hk => by simp [Value.ownBlock] at hk; omega⟩
  · by_cases hroom : n + m ≤ cap
    · have hfit : n * i.size + news.length ≤ cur.size := by rw [hl, hcs, ← Nat.add_mul]; exact Nat.mul_le_mul_right _ hroom
      have hr := run_append_room (P := P) w t ty e i ht hi g n cap cur hg a m c news hl hnews h1 hroom hfit
      rw [hr] at hrun
      cases hrun
      exact .inl rfl
    · have holds : ∀ j u, xs[j]? = some u → w.cell? ((⟨g, 0, none⟩ : Addr).add j) = some u := hown.cells (g := g) rfl
      have hr := run_append_grow (P := P) w t ty e i z ht hi hz ⟨g, 0, none⟩ n cap xs hown.1 holds a m c news hl hnews (by omega) (by omega) (growslice_fits (by omega) hbytes)
      rw [hr] at hrun
      cases hrun
      exact .inr ⟨⟨rfl, rfl, rfl, by simp, fun k hk _ => (World.grownBy_alloc w.drew _ none).block k hk (by simp)⟩, fun k hk => by simp [Value.ownBlock] at hk; omega⟩
theorem cell_list (W : World) (xs : List Value) (t : TypeId) : ∀ j x, xs[j]? = some x → (W.alloc (.cells xs.toArray t)).cell? ((⟨W.heap.size, 0, none⟩ : Addr).add j) = some x := by
  have h := World.news_of_block (w := W.alloc (.cells xs.toArray t)) (cs := xs.toArray) (t := t) (fr := (0, 0)) (heap_alloc_new W (.cells xs.toArray t))
  simpa using h
theorem own_form' {W : World} {base : Nat} {e : TypeId} {size n : Nat} {v : Value} {xs : List Value} (h : W.ownsRow base e size v n xs) (hn : 0 < n) : ∃ g c, v = .slice (some ⟨g, 0, none⟩) n c := by
  obtain ⟨g, c, hv, _⟩ := (told_own h).cons hn
  exact ⟨g, c, hv⟩
/-- append(v, y), y one element, behind the literal's block. -/
theorem wpList_append_two {P : Program} {W : World} {ops : Array Oper} {rest : List Oper} {o : Oper} {a : Act} {Q : Exit → Act → World → Prop} (base : Nat)
    (hgd : o.guard = none) (s x : Operand) (t e : TypeId) (z : Value) (size bytes : Nat) (ho : o.op = .call { callee := .builtin .append, args := #[s, x], argTypes := #[t, t] })
    (ht : P.underlying t = some (.slice e)) (hinfo : (P.info? e).map (fun i => (i.zero, i.size, i.bytes)) = some (some z, size, bytes)) (hz : z.cells.size = size) (hsz : 0 < size)
    (v : Value) (n : Nat) (xs : List Value) (y : List Value) (hy : y.length = size) (h1 : ∀ u ∈ y, u.oneCell' = true) (hs : a.eval s = v) (hx : a.eval x = .slice (some ⟨W.heap.size, 0, none⟩) 1 1)
    (HO : W.ownsRow base e size v n xs) (hbase : base ≤ W.heap.size) (hn : n + 1 ≤ 9223372036854775807) (hl : (n + 1) * bytes ≤ 140737488355328)
    (h : ∀ g c w1, w1.ownsRow base e size (.slice (some ⟨g, 0, none⟩) (n + 1) c) (n + 1) (xs ++ y) → (W.alloc (.cells y.toArray e)).grownBy w1 v.ownBlock → (some g = v.ownBlock ∨ ((W.alloc (.cells y.toArray e)).grownBy w1 none ∧ W.heap.size ≤ g)) →
      wpList P ops Q rest (a.put o.dst (.slice (some ⟨g, 0, none⟩) (n + 1) c)) w1) :
    wpList P ops Q (o :: rest) a (W.alloc (.cells y.toArray e)) := by
  obtain ⟨i0, hi, hz0, hz1, hz2⟩ := info_parts hinfo
  obtain ⟨v', w', hrun, r1, r2, r3⟩ := run_append_own (P := P) (W.alloc (.cells y.toArray e)) base t o.type e i0 z size bytes ht hi hz0 hz1 hz2 hz hsz v n xs (HO.alloc _) ⟨W.heap.size, 0, none⟩ 1 1 y (by omega) (cell_list W y e) h1 (by simpa [maxLen] using hn) hl (by simp; omega)
  have r4 := run_append_two (P := P) (W.alloc (.cells y.toArray e)) base t o.type e i0 z size bytes ht hi hz0 hz1 hz2 v n xs (HO.alloc _) ⟨W.heap.size, 0, none⟩ 1 1 y (by omega) (cell_list W y e) h1 (by omega) (by simpa [maxLen] using hn) hl hrun
  obtain ⟨g, c, rfl⟩ := own_form' r1 (by omega)
  refine wpList_plain hgd fun K hK => ?_
  unfold Oper.wp execOp
  simp only [ho, resolve, invoke, builtin, Sem.run_bind, Sem.run_pure, Result.andThen_ok, List.map_toArray, List.map_cons, List.map_nil, hs, hx, hrun]
  refine hK _ _ (h g c w' r1 r2 ?_)
  rcases r4 with q | ⟨q1, q2⟩
  · exact .inl q
  · exact .inr ⟨q1, by have := q2 g rfl; simp at this; omega⟩
/-- Cells stored one behind the other. -/
def setL (g : Nat) : World → Nat → List Value → World
  | W, _, [] => W
  | W, o, u :: us => setL g (W.setCell ⟨g, o, none⟩ u) (o + 1) us
def setList (xs : List Value) : Nat → List Value → List Value
  | _, [] => xs
  | o, u :: us => setList (xs.set o u) (o + 1) us
theorem setL_own {B : Nat} {e : TypeId} {size n c g : Nat} : ∀ (us : List Value) (o : Nat) (W : World) (xs : List Value), W.ownsRow B e size (.slice (some ⟨g, 0, none⟩) n c) n xs →
    (setL g W o us).ownsRow B e size (.slice (some ⟨g, 0, none⟩) n c) n (setList xs o us) ∧ W.grownBy (setL g W o us) (some g)
  | [], o, W, xs, h => ⟨h, World.grownBy.refl _ _⟩
  | u :: us, o, W, xs, h => by
    have h1 := h.stored o u
    have h2 := setL_own us (o + 1) _ _ h1.1
    exact ⟨h2.1, ⟨h2.2.os.trans h1.2.os, h2.2.tape.trans h1.2.tape, h2.2.output.trans h1.2.output, Nat.le_trans h1.2.size h2.2.size, fun k hk hs => (h2.2.block k (Nat.lt_of_lt_of_le hk h1.2.size) hs).trans (h1.2.block k hk hs)⟩⟩
theorem setList_mid : ∀ (us ls bs cs : List Value) (o : Nat), o = ls.length → bs.length = us.length → setList (ls ++ (bs ++ cs)) o us = ls ++ (us ++ cs)
  | [], ls, bs, cs, o, ho, hb => by rw [List.eq_nil_of_length_eq_zero hb]; rfl
  | u :: us, ls, [], cs, o, ho, hb => by simp at hb
  | u :: us, ls, b :: bs, cs, o, ho, hb => by
    subst ho
    have e : (ls ++ (b :: bs ++ cs)).set ls.length u = (ls ++ [u]) ++ (bs ++ cs) := by
      rw [List.set_append_right _ _ (Nat.le_refl _)]
      simp
    unfold setList
    rw [e, setList_mid us (ls ++ [u]) bs cs _ (by simp) (by simpa using hb)]
    simp
section
variable {w : World} {m B : Nat} {e : TypeId} {size : Nat} {rv : Nat → Value} {rn : Nat → Nat} {mk mo : Nat → List Value}
/-- The rows' blocks. -/
def Sr (m : Nat) (rv : Nat → Value) (b : Nat) : Prop := ∃ j, j < m ∧ (rv j).ownBlock = some b
def Apart (m : Nat) (rv : Nat → Value) : Prop := ∀ i j g, i < m → j < m → i ≠ j → (rv i).ownBlock = some g → (rv j).ownBlock ≠ some g
/-- Rows below i hold their marks, the others something. -/
def Marked (w : World) (m B : Nat) (e : TypeId) (size : Nat) (rv : Nat → Value) (rn : Nat → Nat) (mk : Nat → List Value) (i : Nat) (W : World) : Prop :=
  Oth (Sr m rv) w W ∧ (∀ j, j < i → j < m → W.ownsRow B e size (rv j) (rn j) (reps (rn j) (mk j))) ∧ (∀ j, i ≤ j → j < m → ∃ xs, W.ownsRow B e size (rv j) (rn j) xs)
/-- Row i holds t marks, and something. -/
def Marking (w : World) (m B : Nat) (e : TypeId) (size : Nat) (rv : Nat → Value) (rn : Nat → Nat) (mk : Nat → List Value) (i t : Nat) (W : World) : Prop :=
  Oth (Sr m rv) w W ∧ (∀ j, j < i → j < m → W.ownsRow B e size (rv j) (rn j) (reps (rn j) (mk j))) ∧ (∀ j, i < j → j < m → ∃ xs, W.ownsRow B e size (rv j) (rn j) xs) ∧ ∃ ys, W.ownsRow B e size (rv i) (rn i) (reps t (mk i) ++ ys)
theorem marking_start {i : Nat} {W : World} (h : Marked w m B e size rv rn mk i W) (hi : i < m) : Marking w m B e size rv rn mk i 0 W :=
  ⟨h.1, h.2.1, fun j h1 h2 => h.2.2 j (by omega) h2, h.2.2 i (Nat.le_refl _) hi⟩
theorem marking_done {i : Nat} {W : World} (h : Marking w m B e size rv rn mk i (rn i) W) (hl : (mk i).length = size) : Marked w m B e size rv rn mk (i + 1) W := by
  refine ⟨h.1, fun j h1 h2 => ?_, fun j h1 h2 => h.2.2.1 j (by omega) h2⟩
  by_cases q : j = i
  · subst q
    obtain ⟨ys, hy⟩ := h.2.2.2
    have hl2 := hy.1
    rw [List.length_append, reps_len, hl] at hl2
    have : ys = [] := List.eq_nil_of_length_eq_zero (by omega)
    rw [this, List.append_nil] at hy
    exact hy
  · exact h.2.1 j (by omega) h2
theorem marking_step {i t g c : Nat} {wi w1 : World} (h : Marking w m B e size rv rn mk i t wi) (hi : i < m) (ht : t < rn i) (hv : rv i = .slice (some ⟨g, 0, none⟩) (rn i) c) (hap : Apart m rv) (hl : (mk i).length = size) (hb : Below wi.heap.size wi w1) :
    Marking w m B e size rv rn mk i (t + 1) (setL g w1 (t * size) (mk i)) := by
  have low : ∀ {j : Nat} {xs : List Value}, wi.ownsRow B e size (rv j) (rn j) xs → w1.ownsRow B e size (rv j) (rn j) xs := fun {j xs} hx => own_move hx fun b hb' => hb.block b (((told_own hx).lt hb').2.1)
  obtain ⟨ys, hy⟩ := h.2.2.2
  have hy1 := low hy
  rw [hv] at hy1
  have hs := setL_own (mk i) (t * size) w1 _ hy1
  have oth : ∀ {j : Nat} {xs : List Value}, j < m → j ≠ i → wi.ownsRow B e size (rv j) (rn j) xs → (setL g w1 (t * size) (mk i)).ownsRow B e size (rv j) (rn j) xs := fun {j xs} hj hji hx =>
    own_move (low hx) fun b hb' => hs.2.block b ((told_own (low hx)).lt hb').2.1 (fun q => hap i j g hi hj (Ne.symm hji) (by rw [hv]; rfl) (by rw [hb', q]))
  refine ⟨(h.1.below hb).grown hs.2 (fun k hk => by cases hk; exact .inl ⟨i, hi, by rw [hv]; rfl⟩), fun j h1 h2 => oth h2 (by omega) (h.2.1 j h1 h2), fun j h1 h2 => ?_, ?_⟩
  · obtain ⟨xs, hx⟩ := h.2.2.1 j h1 h2
    exact ⟨xs, oth h2 (by omega) hx⟩
  · have hlen := hy.1
    rw [List.length_append, reps_len, hl] at hlen
    have hge : size ≤ ys.length := by
      have : (t + 1) * size ≤ rn i * size := Nat.mul_le_mul_right _ ht
      rw [Nat.add_mul] at this; omega
    have e1 : reps t (mk i) ++ ys = reps t (mk i) ++ (ys.take size ++ ys.drop size) := by rw [List.take_append_drop]
    have hs1 := hs.1
    rw [e1, setList_mid _ _ _ _ _ (by rw [reps_len, hl]) (by rw [List.length_take, hl]; omega)] at hs1
    refine ⟨ys.drop size, ?_⟩
    rw [hv, reps_succ, List.append_assoc]
    exact hs1
/-- Rows below i have been grown; ys are their copies. -/
structure Grown (w : World) (m B : Nat) (e t : TypeId) (size N : Nat) (rv : Nat → Value) (rn : Nat → Nat) (mk mo : Nat → List Value) (i : Nat) (gv : Value) (ys : List Value) (W : World) : Prop where
  oth : Oth (Sr m rv) w W
  rest : ∀ j, i ≤ j → j < m → W.ownsRow B e size (rv j) (rn j) (reps (rn j) (mk j))
  told : ∀ j, j < i → j < m → Told W B e size (rv j) (rn j) (reps (rn j) (mk j))
  copy : ∀ j y, ys[j]? = some y → Told W B e size y (rn j + N) (reps (rn j) (mk j) ++ reps N (mo j)) ∧ ∀ b, y.ownBlock = some b → ∀ j', i ≤ j' → j' < m → (rv j').ownBlock ≠ some b
  all : W.ownsRow w.heap.size t 1 gv ys.length ys
  len : ys.length = i
end
end Go.Proofs.Ytachpdeejificaa.Fr
set_option linter.unusedVariables false
set_option linter.unusedSimpArgs false
namespace Go.Proofs.Ytachpdeejificaa.Fr
open Go.RowKit
section
variable {w : World} {m B : Nat} {e : TypeId} {size : Nat} {rv : Nat → Value} {rn : Nat → Nat} {mk mo : Nat → List Value} {G : Nat}
/-- Row i's copy x grows; block G may change, too. -/
def GrowingE (G B : Nat) (e : TypeId) (size : Nat) (rv : Nat → Value) (rn : Nat → Nat) (mk mo : Nat → List Value) (i t : Nat) (wo : World) (x : Value) (W : World) : Prop :=
  Oth (fun b => (rv i).ownBlock = some b ∨ b = G) wo W ∧ W.ownsRow B e size x (rn i + t) (reps (rn i) (mk i) ++ reps t (mo i)) ∧ (∀ b, x.ownBlock = some b → (rv i).ownBlock = some b ∨ wo.heap.size ≤ b) ∧ Told W B e size (rv i) (rn i) (reps (rn i) (mk i))
theorem growingE_start {i : Nat} {wo : World} (h : wo.ownsRow B e size (rv i) (rn i) (reps (rn i) (mk i))) : GrowingE G B e size rv rn mk mo i 0 wo (rv i) wo :=
  ⟨Oth.refl _ _, by unfold reps at h ⊢; simpa using h, fun b hb => .inl hb, told_own h⟩
theorem growingE_step {i t g c : Nat} {wo wi w2 : World} {x : Value} (h : GrowingE G B e size rv rn mk mo i t wo x wi)
    (h1 : w2.ownsRow B e size (.slice (some ⟨g, 0, none⟩) (rn i + t + 1) c) (rn i + t + 1) (reps (rn i) (mk i) ++ reps t (mo i) ++ mo i)) (h2 : (wi.alloc (.cells (mo i).toArray e)).grownBy w2 x.ownBlock)
    (h3 : some g = x.ownBlock ∨ ((wi.alloc (.cells (mo i).toArray e)).grownBy w2 none ∧ wi.heap.size ≤ g)) : GrowingE G B e size rv rn mk mo i (t + 1) wo (.slice (some ⟨g, 0, none⟩) (rn i + (t + 1)) c) w2 := by
  have hsz := h.1.size
  have e1 : reps (rn i) (mk i) ++ reps t (mo i) ++ mo i = reps (rn i) (mk i) ++ reps (t + 1) (mo i) := by rw [reps_succ, List.append_assoc]
  rw [e1] at h1
  have ht1 : Told (wi.alloc (.cells (mo i).toArray e)) B e size (rv i) (rn i) (reps (rn i) (mk i)) := h.2.2.2.move fun b hb' => (World.grownBy_alloc wi _ none).block b (h.2.2.2.lt hb').2.1 (by simp)
  refine ⟨(h.1.alloc _).grown h2 (fun b hb => (h.2.2.1 b hb).imp .inl id), h1, fun b hb' => ?_, ?_⟩
  · obtain rfl : g = b := by simpa [Value.ownBlock] using hb'
    rcases h3 with q | q
    · exact h.2.2.1 g q.symm
    · exact .inr (by omega)
  · rcases h3 with q | q
    · by_cases hx : (rv i).ownBlock = some g
      · exact told_prefix ht1 h1 hx
      · exact ht1.move fun b hb' => h2.block b (ht1.lt hb').2.1 (fun q2 => hx (by rw [hb', q2, ← q]))
    · exact ht1.move fun b hb' => q.1.block b (ht1.lt hb').2.1 (by simp)
theorem growingE_set {i t j : Nat} {wo W : World} {x u : Value} {cs : Array Value} {t' : TypeId} (h : GrowingE G B e size rv rn mk mo i t wo x W) (hG : W.heap[G]? = some (.cells cs t' (0, 0))) (hte : t' ≠ e) : GrowingE G B e size rv rn mk mo i t wo x (W.setCell ⟨G, j, none⟩ u) := by
  have far : ∀ {v : Value} {n : Nat} {xs : List Value}, Told W B e size v n xs → ∀ b, v.ownBlock = some b → (W.setCell ⟨G, j, none⟩ u).heap[b]? = W.heap[b]? := fun {v n xs} hv b hb => heap_setCell_other W ⟨G, j, none⟩ b u (fun q => by
    obtain ⟨_, _, cur, hc⟩ := hv.lt hb
    rw [q] at hc
    rw [hG] at hc
    cases hc
    exact hte rfl)
  exact ⟨h.1.set (.inl (.inr rfl)) u, own_move h.2.1 (far (told_own h.2.1)), h.2.2.1, h.2.2.2.move (far h.2.2.2)⟩
/-- Rows below i have been grown; ys are their copies. -/
structure GrownE (G : Nat) (w : World) (m B : Nat) (e : TypeId) (size N : Nat) (rv : Nat → Value) (rn : Nat → Nat) (mk mo : Nat → List Value) (i : Nat) (ys : List Value) (W : World) : Prop where
  oth : Oth (fun b => Sr m rv b ∨ b = G) w W
  rest : ∀ j, i ≤ j → j < m → W.ownsRow B e size (rv j) (rn j) (reps (rn j) (mk j))
  told : ∀ j, j < i → j < m → Told W B e size (rv j) (rn j) (reps (rn j) (mk j))
  copy : ∀ j y, ys[j]? = some y → Told W B e size y (rn j + N) (reps (rn j) (mk j) ++ reps N (mo j)) ∧ ∀ b, y.ownBlock = some b → ∀ j', i ≤ j' → j' < m → (rv j').ownBlock ≠ some b
  len : ys.length = i
theorem grownE_start {N : Nat} {W : World} (h : ∀ j, j < m → W.ownsRow B e size (rv j) (rn j) (reps (rn j) (mk j))) : GrownE G W m B e size N rv rn mk mo 0 [] W :=
  ⟨Oth.refl _ _, fun j _ h2 => h j h2, fun j h1 => by omega, fun j y hy => by simp at hy, rfl⟩
theorem grownE_step {N i : Nat} {t' : TypeId} {cs : Array Value} {x : Value} {ys : List Value} {wo wi : World} (h : GrownE G w m B e size N rv rn mk mo i ys wo) (hG : wo.heap[G]? = some (.cells cs t' (0, 0))) (hte : t' ≠ e) (hi : i < m) (hap : Apart m rv)
    (hx : GrowingE G B e size rv rn mk mo i N wo x wi) : GrownE G w m B e size N rv rn mk mo (i + 1) (ys ++ [x]) wi := by
  have hsz := hx.1.size
  have mid : ∀ {v : Value} {n : Nat} {xs : List Value}, Told wo B e size v n xs → (∀ b, v.ownBlock = some b → (rv i).ownBlock ≠ some b) → ∀ b, v.ownBlock = some b → wi.heap[b]? = wo.heap[b]? := fun {v n xs} hv hne b hb => hx.1.block b (hv.lt hb).2.1 (fun q => by
    rcases q with q | q
    · exact hne b hb q
    · obtain ⟨_, _, cur, hc⟩ := hv.lt hb
      rw [q, hG] at hc
      cases hc
      exact hte rfl)
  refine ⟨h.oth.trans (hx.1.mono fun b hb => hb.imp (fun q => ⟨i, hi, q⟩) id), fun j hj1 hj2 => ?_, fun j hj1 hj2 => ?_, fun j y hy => ?_, by rw [List.length_append, h.len]; rfl⟩
  · have hr := h.rest j (by omega) hj2
    exact own_move hr (mid (told_own hr) fun b hb q => hap j i b hj2 hi (by omega) hb q)
  · by_cases q : j = i
    · subst q
      exact hx.2.2.2
    · have hr := h.told j (by omega) hj2
      exact hr.move (mid hr fun b hb q2 => hap j i b hj2 hi q hb q2)
  · by_cases q : j < ys.length
    · rw [List.getElem?_append_left q] at hy
      obtain ⟨c1, c2⟩ := h.copy j y hy
      exact ⟨c1.move (mid c1 fun b hb => c2 b hb i (Nat.le_refl _) hi), fun b hb j' h3 h4 => c2 b hb j' (by omega) h4⟩
    · have hj : j = ys.length := by
        rcases Nat.lt_or_ge j (ys ++ [x]).length with q2 | q2
        · rw [List.length_append] at q2; simp at q2; omega
        · rw [List.getElem?_eq_none q2] at hy; cases hy
      rw [hj, List.getElem?_append_right (Nat.le_refl _), Nat.sub_self] at hy
      obtain rfl : x = y := by simpa using hy
      rw [hj, h.len]
      refine ⟨told_own hx.2.1, fun b hb j' h3 h4 q2 => ?_⟩
      rcases hx.2.2.1 b hb with q3 | q3
      · exact hap i j' b hi h4 (by omega) q3 q2
      · have := ((told_own (h.rest j' (by omega) h4)).lt q2).2.1
        omega
end
end Go.Proofs.Ytachpdeejificaa.Fr
