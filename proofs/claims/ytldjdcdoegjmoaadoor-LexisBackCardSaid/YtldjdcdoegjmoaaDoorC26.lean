import Derived.Deep.AppendLies
import Derived.Laws.AppendOwn
import Derived.LoopIn
import Derived.LoopNIn
import Derived.OwnWalkIn
import Derived.RangeFuncBound
import Derived.RangeFuncBox
import Derived.RangeFuncCalls
import Derived.RangeFuncLeaves
import Derived.RangeFuncNested
import Derived.Shelf.Abstract
import Derived.Shelf.RegionOpen
import Derived.TacticsInMore
import Derived.Test.YtldjdcdoegjmoaaDoorProg
import Derived.WalkKit
import Derived.Test.YtldjdcdoegjmoaaDoorC7
import Derived.Test.YtldjdcdoegjmoaaDoorC10
import Derived.Test.YtldjdcdoegjmoaaDoorC23
import Derived.Test.YtldjdcdoegjmoaaDoorC24
set_option linter.unusedVariables false
set_option linter.unusedSimpArgs false
namespace Go.Proofs.YtldjdcdoegjmoaaDoor
open Go.RowKit Go.Shelf
attribute [local go_sem] Oper.semAt_some
abbrev TV := P.TV
def tokV (t : TV) : Value := .agg #[.int .i64 t.1, .int .i64 t.2.1, .int .i64 t.2.2.1, .string t.2.2.2.1, .bool t.2.2.2.2.1, .int .u64 t.2.2.2.2.2.1, .int .u64 t.2.2.2.2.2.2.1, .int .u64 t.2.2.2.2.2.2.2.1, .int .u64 t.2.2.2.2.2.2.2.2.1, .int .i64 t.2.2.2.2.2.2.2.2.2.1, .int .i64 t.2.2.2.2.2.2.2.2.2.2.1]
def fltV (t : TV) : Value := .agg #[.int .i64 t.2.2.2.2.2.2.2.2.2.2.2.1, .int .i64 t.2.2.2.2.2.2.2.2.2.2.2.2]
theorem next_c (s : ByteArray) (hs : s.size ≤ P.bnd) (a : Int) (w : World) : Calls Tryd.prog 17 #[.string s, .int .i64 a] w fun e w' => e = .returned (.tuple #[tokV (P.nextE s a), fltV (P.nextE s a)]) ∧ Below w.heap.size w w' :=
  P.lexis_Next.calls (4 * s.size + 101) s a _ _ _ _ _ _ _ _ _ _ _ _ _ w ((P.Next_f s hs a _ (by omega)).trans (by rfl))
/-- The block that a variable's box leads to. -/
def OwnAt (bx : Nat) (W : World) (k : Nat) : Prop := ∃ v : Value, W.cell? ⟨bx, 0, none⟩ = some v ∧ v.ownBlock = some k
/-- What a round keeps: all cells from B on, but the row that the box bx leads to; and the text's box. -/
structure KpR (B bs bx : Nat) (W W' : World) : Prop where
  size : W.heap.size ≤ W'.heap.size
  keep : ∀ (k : Nat) (o : Obj), (B ≤ k ∨ k = bs) → W.heap[k]? = some o → o.isCells = true → ¬ OwnAt bx W k → W'.heap[k]? = some o
  own : ∀ k, OwnAt bx W' k → OwnAt bx W k ∨ W.heap.size ≤ k
  lt : (∀ k, OwnAt bx W k → k < W.heap.size ∧ k ≠ bs) → ∀ k, OwnAt bx W' k → k < W'.heap.size ∧ k ≠ bs
theorem kpR_t {B bs bx : Nat} {X Y Z : World} (h : KpR B bs bx X Y) (k : KpR B bs bx Y Z) : KpR B bs bx X Z where
  size := Nat.le_trans h.size k.size
  keep := fun j o hj ho hc hn => k.keep j o hj (h.keep j o hj ho hc hn) hc (fun q => by
    rcases h.own j q with q | q
    · exact hn q
    · have := heap_lt ho; omega)
  own := fun j hj => by
    rcases k.own j hj with q | q
    · exact h.own j q
    · exact .inr (Nat.le_trans h.size q)
  lt := fun hx => k.lt (h.lt hx)
theorem kpR_b {B bs bx : Nat} {w : World} (hx : bx < w.heap.size) (W : World) (l : Nat) (o o' : Obj) (hl : w.heap.size ≤ l) (ho : W.heap[l]? = some o) (hc : o.isCells = false) (_ : o.isWalk = false) : KpR B bs bx W (W.putObj l o') := by
  have hg := grownBy_putObj' W l o'
  have hsz : (W.putObj l o').heap.size = W.heap.size := by simp [World.putObj]
  have he : ∀ k, OwnAt bx (W.putObj l o') k → OwnAt bx W k := fun k ⟨v, h1, h2⟩ => by
    refine ⟨v, ?_, h2⟩
    rw [← h1]
    by_cases hb : bx < W.heap.size
    · exact (World.cell?_of_block (a := ⟨bx, 0, none⟩) (hg.block bx hb (fun e => by cases e; omega))).symm
    · simp only [World.cell?]
      rw [Array.getElem?_eq_none (by omega), Array.getElem?_eq_none (by omega)]
  refine ⟨by omega, fun k x hk hx' hcx hn => ?_, fun k h => .inl (he k h), fun hlt k h => by rw [hsz]; exact hlt k (he k h)⟩
  exact (World.putObj_heap_other (fun e => by subst e; rw [ho] at hx'; cases hx'; rw [hc] at hcx; cases hcx)).trans hx'
/-- The two boxes of a round, laid. -/
theorem own_alloc {bx k : Nat} {W : World} {o : Obj} (hb : bx < W.heap.size) (h : OwnAt bx (W.alloc o) k) : OwnAt bx W k := by
  obtain ⟨v, h1, h2⟩ := h
  refine ⟨v, ?_, h2⟩
  rw [← h1]
  exact (World.cell?_of_block (a := ⟨bx, 0, none⟩) ((World.grownBy_alloc W o none).block bx hb (by simp))).symm
theorem ownAt_below {bx k : Nat} {W W' : World} (hb : bx < W.heap.size) (hB : Below W.heap.size W W') (h : OwnAt bx W' k) : OwnAt bx W k := by
  obtain ⟨v, h1, h2⟩ := h
  exact ⟨v, by rw [← h1]; exact (World.cell?_of_block (a := ⟨bx, 0, none⟩) (hB.block bx hb)).symm, h2⟩
theorem eleven_cells {w : World} {k : Nat} {v0 v1 v2 v3 v4 v5 v6 v7 v8 v9 v10 : Value} {t : TypeId} (h : w.heap[k]? = some (.cells #[v0, v1, v2, v3, v4, v5, v6, v7, v8, v9, v10] t (0, 0))) :
    w.cell? ⟨k, 0, none⟩ = some v0 ∧ w.cell? ⟨k, 1, none⟩ = some v1 ∧ w.cell? ⟨k, 2, none⟩ = some v2 ∧ w.cell? ⟨k, 3, none⟩ = some v3 ∧ w.cell? ⟨k, 4, none⟩ = some v4 ∧ w.cell? ⟨k, 5, none⟩ = some v5 ∧ w.cell? ⟨k, 6, none⟩ = some v6 ∧ w.cell? ⟨k, 7, none⟩ = some v7 ∧ w.cell? ⟨k, 8, none⟩ = some v8 ∧ w.cell? ⟨k, 9, none⟩ = some v9 ∧ w.cell? ⟨k, 10, none⟩ = some v10 := by
  refine ⟨?_, ?_, ?_, ?_, ?_, ?_, ?_, ?_, ?_, ?_, ?_⟩ <;> simp [World.cell?, h]
theorem take_prefix {α : Type} {L pre rest : List α} {x : α} (h : L = pre ++ x :: rest) : pre ++ [x] <+: L := ⟨rest, by rw [h]; simp⟩
set_option maxRecDepth 100000 in
set_option maxHeartbeats 4000000 in
theorem lexEach1_in (n : Nat) (hn : 3 ≤ n) (l bs bx B : Nat) (s : ByteArray) (hs : s.size ≤ P.bnd) (J Jx : List TV → World → Prop) (B0 : Nat) (hJ : AbidesFrom B0 J) (hbs0 : bs < B0) (hbx0 : bx < B0) (hB : B ≤ B0)
    (hY : ∀ pre (x : TV) W, J pre W → pre.length < (P.allE s 0).length → YieldAt Fence.wide (n - 1) Tryd.prog l #[tokV x, fltV x] W fun e W' =>
      (e = .returned (.bool true) ∧ J (pre ++ [x]) W' ∧ KpR B bs bx W W') ∨ (e = .returned (.bool false) ∧ Jx (pre ++ [x]) W'))
    (W : World) (hW0 : B0 ≤ W.heap.size) (hbs : W.heap[bs]? = some (.cells #[.string s] 9 (0, 0))) (hown : ∀ k, OwnAt bx W k → k < W.heap.size ∧ k ≠ bs) (h0 : J [] W) :
    CallsIn Fence.wide n Tryd.prog 47 #[.func (.yield l) #[] #[], .pointer (some ⟨bs, 0, none⟩)] W fun e W' => (∃ v, e = .returned v) ∧
      ((∃ ys, ys = P.allE s 0 ∧ J ys W') ∨ (∃ pre, pre <+: P.allE s 0 ∧ Jx pre W')) := by
  have h1 : 1 ≤ n := by omega
  refine callsIn_of_wp Tryd.func47 rfl trivial ?_ rfl
  simp only [Tryd.ntmps47, List.size_toArray, List.length_cons, List.length_nil, Nat.reduceAdd, Nat.reduceSub, Array.replicate_succ, Array.replicate_zero, List.push_toArray, List.append_toArray, List.nil_append, List.cons_append]
  gi_wp2
  gi_loopw [3] (fun p wr => ∃ (pre : List TV) (q : Nat), p = .int .i64 (q : Int) ∧ q ≤ s.size ∧ P.allE s 0 = pre ++ P.allE s q ∧ B0 ≤ wr.heap.size ∧ wr.heap[bs]? = some (.cells #[.string s] 9 (0, 0)) ∧ (∀ k, OwnAt bx wr k → k < wr.heap.size ∧ k ≠ bs) ∧ J pre wr)
    (fun p wr => s.size + 1 - (intOf p).toNat)
  case atStart => exact ⟨[], 0, rfl, Nat.zero_le _, rfl, hW0, hbs, hown, h0⟩
  case round =>
    obtain ⟨pre, q, rfl, hq, hall, hW1, hb1, ho1, hJ1⟩ := hrel
    have hcs : wr.cell? ⟨bs, 0, none⟩ = some (.string s) := (show Boxed wr bs 9 (.string s) from hb1).cell
    have hn' := fun W => next_c s hs (q : Int) W
    obtain ⟨⟨k1, k2, k3, k4, k5, k6, k7, k8, k9, k10, k11, k12, k13⟩, ht⟩ : ∃ t, t = P.nextE s (q : Int) := ⟨_, rfl⟩
    rw [← ht] at hn'
    unfold tokV fltV at hn'
    dsimp only at hn'
    have HN := Lib.hid hn'; have HT := Lib.hid ht; have HB1 := Lib.hid hb1; have HO1 := Lib.hid ho1; have HALL := Lib.hid hall
    clear hn' ht hb1 ho1 hall hbs hown h0
    have hlen : pre.length < (P.allE s 0).length := by
      rw [HALL.out, List.length_append]
      by_cases h : P.codeOf (P.nextE s (q : Int)) = 0 ∧ P.kindOf (P.nextE s (q : Int)) ≠ 0
      · obtain ⟨e, _, _, _, h4⟩ := P.allE_on hq h.1 h.2
        rw [h4]; simp
      · rw [P.allE_off h]; simp
    have HL := Lib.hid hlen; clear hlen
    gi_wp2_with (refine ⟨trivial, ?_⟩; gi_at_call 17; refine (callsIn_wide.2 (HN.out _)).mono ?_; rintro e w2 ⟨rfl, hb2⟩; have HBB := Lib.hid hb2; clear hb2; obtain ⟨fn, tmps, assign, body, hy, hR⟩ := hY pre (k1, k2, k3, k4, k5, k6, k7, k8, k9, k10, k11, k12, k13) ((w2.alloc (.cells #[.int .i64 k1, .int .i64 k2, .int .i64 k3, .string k4, .bool k5, .int .u64 k6, .int .u64 k7, .int .u64 k8, .int .u64 k9, .int .i64 k10, .int .i64 k11] 26)).alloc (.cells #[.int .i64 k12, .int .i64 k13] 41)) (hJ _ _ _ none hJ1 (grow_below ((HBB.out.alloc HBB.out.size _).alloc (by have := HBB.out.size; simp; omega) _)) (fun r e => by cases e)) HL.out; unfold tokV fltV at hy; dsimp only at hy)
    have hsz := HBB.out.size
    have hno : ∀ j, w2.heap.size ≤ j → ¬ OwnAt bx ((w2.alloc (.cells #[.int .i64 k1, .int .i64 k2, .int .i64 k3, .string k4, .bool k5, .int .u64 k6, .int .u64 k7, .int .u64 k8, .int .u64 k9, .int .i64 k10, .int .i64 k11] 26)).alloc (.cells #[.int .i64 k12, .int .i64 k13] 41)) j := fun j hj h => by
      have := HO1.out j (ownAt_below (by omega) HBB.out (own_alloc (by omega) (own_alloc (by simp; omega) h)))
      omega
    have hnb : ¬ OwnAt bx ((w2.alloc (.cells #[.int .i64 k1, .int .i64 k2, .int .i64 k3, .string k4, .bool k5, .int .u64 k6, .int .u64 k7, .int .u64 k8, .int .u64 k9, .int .i64 k10, .int .i64 k11] 26)).alloc (.cells #[.int .i64 k12, .int .i64 k13] 41)) bs := fun h => by
      have := HO1.out bs (ownAt_below (by omega) HBB.out (own_alloc (by omega) (own_alloc (by simp; omega) h)))
      exact this.2 rfl
    have hlt2 : ∀ k, OwnAt bx ((w2.alloc (.cells #[.int .i64 k1, .int .i64 k2, .int .i64 k3, .string k4, .bool k5, .int .u64 k6, .int .u64 k7, .int .u64 k8, .int .u64 k9, .int .i64 k10, .int .i64 k11] 26)).alloc (.cells #[.int .i64 k12, .int .i64 k13] 41)) k → k < ((w2.alloc (.cells #[.int .i64 k1, .int .i64 k2, .int .i64 k3, .string k4, .bool k5, .int .u64 k6, .int .u64 k7, .int .u64 k8, .int .u64 k9, .int .i64 k10, .int .i64 k11] 26)).alloc (.cells #[.int .i64 k12, .int .i64 k13] 41)).heap.size ∧ k ≠ bs := fun j h => by
      have := HO1.out j (ownAt_below (by omega) HBB.out (own_alloc (by omega) (own_alloc (by simp; omega) h)))
      exact ⟨by simp; omega, this.2⟩
    refine hR.mono ?_
    rintro e W3 (⟨rfl, hJ3, hk3⟩ | ⟨rfl, hJx3⟩)
    · have hT3 := hk3.keep w2.heap.size _ (.inl (by omega)) (heap_keep (heap_new w2 _)) rfl (hno _ (Nat.le_refl _))
      have hF3 := hk3.keep (w2.heap.size + 1) _ (.inl (by omega)) (heap_new1 w2 _ _) rfl (hno _ (by omega))
      have hS3 := hk3.keep bs _ (.inr rfl) (heap_keep (heap_keep (heap_same HBB.out HB1.out))) rfl hnb
      have ho3 := hk3.lt hlt2
      have hz3 := hk3.size
      simp only [World.size_alloc] at hz3
      obtain ⟨a0, a1, a2, a3, a4, a5, a6, a7, a8, a9, a10⟩ := eleven_cells hT3
      obtain ⟨b0, b1, c0, c1⟩ := two_cells hF3
      have HS3 := Lib.hid hS3; have HO3 := Lib.hid ho3; have HZ3 := Lib.hid hz3; have HHY := Lib.hid hy
      clear hT3 hF3 hS3 ho3 hz3 hk3 hno hnb hlt2 hy hsz
      by_cases hc : k13 = 0
      · subst hc
        by_cases hd : k1 = 0
        · subst hd
          gi_wp2
          refine bodyPost_ret (results_none rfl _ _ _) rfl ?_
          refine ⟨⟨_, rfl⟩, .inl ⟨_, ?_, hJ3⟩⟩
          rw [HALL.out, P.allE_off (fun h => by rw [← HT.out] at h; exact h.2 rfl), ← HT.out]
        · have hd' : (k1 == 0) = false := by rw [beq_eq_false_iff_ne]; exact hd
          have HD := Lib.hid hd; clear hd
          obtain ⟨e, he1, he2, he3, he4⟩ := P.allE_on hq (show P.codeOf (P.nextE s (q : Int)) = 0 from by rw [← HT.out]; rfl) (show P.kindOf (P.nextE s (q : Int)) ≠ 0 from by rw [← HT.out]; exact HD.out)
          have hke : k3 = (e : Int) := by rw [← he1, ← HT.out]; rfl
          subst hke
          have HE1 := Lib.hid he1; have HE4 := Lib.hid he4; clear he1 he4
          gi_wp2
          go_roundw
          case rel => exact ⟨pre ++ [((k1, k2, (e : Int), k4, k5, k6, k7, k8, k9, k10, k11, k12, (0 : Int)) : TV)], e, rfl, he3, by rw [HALL.out, HE4.out, ← HT.out]; simp, by have := HZ3.out; have := HBB.out.size; omega, HS3.out, HO3.out, hJ3⟩
          case measure => simp [intOf]; omega
      · have hc' : (k13 == 0) = false := by rw [beq_eq_false_iff_ne]; exact hc
        have HC := Lib.hid hc; clear hc
        gi_wp2
        refine bodyPost_ret (results_none rfl _ _ _) rfl ?_
        refine ⟨⟨_, rfl⟩, .inl ⟨_, ?_, hJ3⟩⟩
        rw [HALL.out, P.allE_off (fun h => by rw [← HT.out] at h; exact HC.out h.1), ← HT.out]
    · gi_wp2
      refine bodyPost_ret (results_none rfl _ _ _) rfl ?_
      refine ⟨⟨_, rfl⟩, .inr ⟨_, ?_, hJx3⟩⟩
      by_cases h : P.codeOf (P.nextE s (q : Int)) = 0 ∧ P.kindOf (P.nextE s (q : Int)) ≠ 0
      · obtain ⟨e, _, _, _, h4⟩ := P.allE_on hq h.1 h.2
        rw [← HT.out] at h4
        exact take_prefix (HALL.out.trans (by rw [h4]))
      · have h4 := P.allE_off h
        rw [← HT.out] at h4
        exact take_prefix (rest := []) (HALL.out.trans (by rw [h4]))
set_option maxHeartbeats 1000000 in
theorem lexEach_in (n : Nat) (s : ByteArray) (w : World) : CallsIn Fence.wide n Tryd.prog 31 #[.string s] w fun e w' => e = .returned (.func (.func 47) #[] #[.pointer (some ⟨w.heap.size, 0, none⟩)]) ∧ w' = w.alloc (.cells #[.string s] 9) := by
  refine callsIn_of_wp Tryd.func31 rfl trivial ?_ rfl
  simp only [Tryd.ntmps31, List.size_toArray, List.length_cons, List.length_nil, Nat.reduceAdd, Nat.reduceSub, Array.replicate_succ, Array.replicate_zero, List.push_toArray, List.append_toArray, List.nil_append, List.cons_append]
  gi_wp2
  go_ret
  exact ⟨rfl, rfl⟩
/-- What lexis.Each hands back goes through a text's tokens. B: whatever cells lie from there on a round keeps, but the row that bx leads to. -/
theorem lexEach_stops (n : Nat) (hn : 3 ≤ n) (bs bx B : Nat) (s : ByteArray) (hs : s.size ≤ P.bnd) (w : World) (hbs : bs < w.heap.size) (hbx : bx < w.heap.size) (hB : B ≤ w.heap.size) (hc : w.heap[bs]? = some (.cells #[.string s] 9 (0, 0))) (hown : ∀ k, OwnAt bx w k → k < w.heap.size ∧ k ≠ bs) :
    SeqStopsK Fence.wide n Tryd.prog 47 #[.pointer (some ⟨bs, 0, none⟩)] (fun x : TV => #[tokV x, fltV x]) (KpR B bs bx) (fun ys => ys = P.allE s 0) (fun pre => pre <+: P.allE s 0) (P.allE s 0).length w :=
  fun l J Jx W hW hJ _ hY h0 => lexEach1_in n hn l bs bx B s hs J Jx W.heap.size hJ (Nat.lt_of_lt_of_le hbs hW.size) (Nat.lt_of_lt_of_le hbx hW.size) (Nat.le_trans hB hW.size) hY W (Nat.le_refl _) (heap_below hW hbs hc) (fun k hk => by
    have h := hown k (by obtain ⟨v, h1, h2⟩ := hk; exact ⟨v, by rw [← h1]; exact (World.cell?_of_block (a := ⟨bx, 0, none⟩) (hW.block bx hbx)).symm, h2⟩)
    have := hW.size
    exact ⟨by omega, h.2⟩) h0
end Go.Proofs.YtldjdcdoegjmoaaDoor
set_option linter.unusedVariables false
set_option linter.unusedSimpArgs false
namespace Go.Proofs.YtldjdcdoegjmoaaDoor
open Go.RowKit Go.Shelf
attribute [local go_sem] Oper.semAt_some
/-- Where an append leads to: the row that was, or new memory. -/
theorem run_append_fresh {P : Program} (w : World) (base : Nat) (t ty e : TypeId) (i : TypeInfo) (z : Value) (size bytes : Nat) (ht : P.underlying t = some (.slice e)) (hi : P.info? e = some i) (hz : i.zero = some z)
    (hsize : i.size = size) (hby : i.bytes = bytes) (v : Value) (n : Nat) (xs : List Value) (hown : w.ownsRow base e size v n xs)
    (a : Addr) (m c : Nat) (news : List Value) (hl : news.length = m * size) (hnews : ∀ j u, news[j]? = some u → w.cell? (a.add j) = some u) (h1 : ∀ u ∈ news, u.oneCell' = true)
    (hm : 0 < m) (h63 : n + m ≤ maxLen) (hbytes : (n + m) * bytes ≤ 140737488355328) {v' : Value} {w' : World} (hrun : (Builtin.append_ #[t, t] ty #[v, .slice (some a) m c]).run P w = .ok v' w') : ∀ k, v'.ownBlock = some k → v.ownBlock = some k ∨ w.heap.size ≤ k := by
  subst hsize
  subst hby
  have hsmall : n + m ≤ 9223372036854775807 := by simp only [maxLen] at h63; omega
  rcases hown.2 with ⟨rfl, rfl⟩ | ⟨g, cap, cur, rfl, hbg, hg, hnc, hcm, hcs, htake⟩
  · have hr := run_append_nil (P := P) w t ty e i z ht hi hz a m c news hl hnews (by omega) (by omega) (by have hb := hbytes; simp only [Nat.zero_add] at hb; omega)
    rw [hr] at hrun
    cases hrun
    intro k hk
    exact .inr (by simp [Value.ownBlock] at hk; omega)
  · by_cases hroom : n + m ≤ cap
    · have hfit : n * i.size + news.length ≤ cur.size := by rw [hl, hcs, ← Nat.add_mul]; exact Nat.mul_le_mul_right _ hroom
      have hr := run_append_room (P := P) w t ty e i ht hi g n cap cur hg a m c news hl hnews h1 hroom hfit
      rw [hr] at hrun
      cases hrun
      intro k hk
      exact .inl hk
    · have holds : ∀ j u, xs[j]? = some u → w.cell? ((⟨g, 0, none⟩ : Addr).add j) = some u := hown.cells (g := g) rfl
      have hr := run_append_grow (P := P) w t ty e i z ht hi hz ⟨g, 0, none⟩ n cap xs hown.1 holds a m c news hl hnews (by omega) (by omega) (growslice_fits (by omega) hbytes)
      rw [hr] at hrun
      cases hrun
      intro k hk
      exact .inr (by simp [Value.ownBlock] at hk; omega)
theorem wpListIn_append_new {F : Fence} {n : Nat} {P : Program} (w : World) {ops : Array Oper} {rest : List Oper} {o : Oper} {a : Act} {Q : Exit → Act → World → Prop}
    (hg : o.guard = none) (s x : Operand) (t : TypeId) (hop : o.op = Op.call { callee := Callee.builtin Builtin.append, args := #[s, x], argTypes := #[t, t] })
    (base : Nat) (e : TypeId) (i : TypeInfo) (z : Value) (size bytes : Nat) (h1 : P.underlying t = some (.slice e)) (h2 : P.info? e = some i) (h3 : i.zero = some z) (h4 : i.size = size) (h5 : i.bytes = bytes) (h6 : z.cells.size = size) (h7 : 0 < size)
    (v : Value) (k : Nat) (xs : List Value) (hs : a.eval s = v) (hown : w.ownsRow base e size v k xs) (ad : Addr) (m c : Nat) (news : List Value) (hx : a.eval x = .slice (some ad) m c) (hn : news.length = m * size)
    (hc : ∀ j u, news[j]? = some u → w.cell? (ad.add j) = some u) (h1c : ∀ u ∈ news, u.oneCell' = true) (hm : 0 < m) (b1 : k + m ≤ maxLen) (b2 : (k + m) * bytes ≤ 140737488355328) (b3 : base ≤ w.heap.size)
    (hK : ∀ v' w', w'.ownsRow base e size v' (k + m) (xs ++ news) → w.grownBy w' v.ownBlock → (∀ j, v'.ownBlock = some j → v.ownBlock = some j ∨ w.heap.size ≤ j) → wpListIn F n P ops Q rest (a.put o.dst v') w') :
    wpListIn F n P ops Q (o :: rest) a w := by
  refine wpListIn_plain hg fun K hK' => ?_
  obtain ⟨v', w', hrun, r1, r2, r3⟩ := run_append_own (P := P) w base t o.type e i z size bytes h1 h2 h3 h4 h5 h6 h7 v k xs hown ad m c news hn hc h1c b1 b2 b3
  have r4 := run_append_fresh (P := P) w base t o.type e i z size bytes h1 h2 h3 h4 h5 v k xs hown ad m c news hn hc h1c hm b1 b2 hrun
  unfold Oper.wpIn
  refine ⟨?_, ?_⟩
  · simp [Oper.about, hop, resolve, Target.leads, Sem.run_pure]
  · rw [Oper.semAt_plain F _ _ (by rw [hop]; intro c hc'; cases hc')]
    simp [execOp, hop, resolve, invoke, builtin, hs, hx, hrun, Result.andThen]
    exact hK' _ _ (hK v' w' r1 r2 r4)
theorem cell_list_new (W : World) (xs : List Value) (t : TypeId) : ∀ j x, xs[j]? = some x → (W.alloc (.cells xs.toArray t)).cell? ((⟨W.heap.size, 0, none⟩ : Addr).add j) = some x := by
  have h := World.news_of_block (w := W.alloc (.cells xs.toArray t)) (cs := xs.toArray) (t := t) (fr := (0, 0)) (heap_alloc_new W (.cells xs.toArray t))
  simpa using h
def tvals (t : TV) : List Value := [.int .i64 t.1, .int .i64 t.2.1, .int .i64 t.2.2.1, .string t.2.2.2.1, .bool t.2.2.2.2.1, .int .u64 t.2.2.2.2.2.1, .int .u64 t.2.2.2.2.2.2.1, .int .u64 t.2.2.2.2.2.2.2.1, .int .u64 t.2.2.2.2.2.2.2.2.1, .int .i64 t.2.2.2.2.2.2.2.2.2.1, .int .i64 t.2.2.2.2.2.2.2.2.2.2.1]
def tcells (ts : List TV) : List Value := ts.flatMap tvals
theorem tcells_snoc (ts : List TV) (t : TV) : tcells (ts ++ [t]) = tcells ts ++ tvals t := by unfold tcells; rw [List.flatMap_append]; simp
theorem infoTok : (Tryd.prog.info? 26).map (fun i => (i.zero, i.size, i.bytes)) = some (some (.agg #[.int .i64 0, .int .i64 0, .int .i64 0, .string ⟨#[]⟩, .bool false, .int .u64 0, .int .u64 0, .int .u64 0, .int .u64 0, .int .i64 0, .int .i64 0]), 11, 96) := by kernel_rfl
/-- What lexis.Tokens tells. -/
def toksOut (s : ByteArray) : List TV × Int × Int :=
  match (P.allE s 0).getLast? with
  | some t => if P.codeOf t = 0 then (P.allE s 0, 0, 0) else ([], t.2.2.2.2.2.2.2.2.2.2.2.1, P.codeOf t)
  | none => ([], 0, 0)
theorem toksOut_ok {s : ByteArray} (h : ∀ t ∈ P.allE s 0, P.codeOf t = 0) : toksOut s = (P.allE s 0, 0, 0) := by
  unfold toksOut
  rcases List.eq_nil_or_concat (P.allE s 0) with e | ⟨ys, y, e⟩
  · exact absurd e (P.allE_ne s)
  · rw [List.concat_eq_append] at e
    rw [e] at h ⊢
    simp [h y (by simp)]
theorem toksOut_bad {s : ByteArray} {pre : List TV} {t : TV} (h : pre ++ [t] <+: P.allE s 0) (hc : P.codeOf t ≠ 0) : toksOut s = ([], t.2.2.2.2.2.2.2.2.2.2.2.1, P.codeOf t) := by
  unfold toksOut
  rw [P.allE_last h hc]
  simp [hc]
def ToksI (w : World) (bs bl r2 r3 : Nat) (s : ByteArray) (pre : List TV) (W : World) : Prop :=
  (((∃ v, Boxed W bl 33 v ∧ W.ownsRow w.heap.size 26 11 v pre.length (tcells pre) ∧ True) ∧ Boxed W r2 33 (.slice none 0 0)) ∧ (W.heap[r3]? = some (.cells #[.int .i64 0, .int .i64 0] 41 (0, 0)) ∧ W.heap[bs]? = some (.cells #[.string s] 9 (0, 0)))) ∧ (Below w.heap.size w W ∧ ∀ t ∈ pre, P.codeOf t = 0)
def ToksX (w : World) (r2 r3 : Nat) (co : Code) (pre : List TV) (W : World) : Prop :=
  co = .ret ∧ ∃ pre' t, pre = pre' ++ [t] ∧ P.codeOf t ≠ 0 ∧ (Boxed W r2 33 (.slice none 0 0) ∧ W.heap[r3]? = some (.cells #[.int .i64 t.2.2.2.2.2.2.2.2.2.2.2.1, .int .i64 (P.codeOf t)] 41 (0, 0))) ∧ Below w.heap.size w W
theorem block_own2 {β : Type} (b : Nat) (cs : Array Value) (t : TypeId) : Own (fun (_ : β) W => W.heap[b]? = some (.cells cs t (0, 0))) := by
  intro s X Y row hx hg hrow
  refine (hg.block b (heap_lt hx) (fun e => ?_)).trans hx
  obtain ⟨o, ho, hc⟩ := hrow b e.symm
  rw [hx] at ho; cases ho; cases hc
theorem toksI_own {w : World} {bs bl r2 r3 B : Nat} {s : ByteArray} (hB : w.heap.size ≤ B) : OwnFrom B (ToksI w bs bl r2 r3 s) :=
  OwnFrom.and (OwnFrom.and (OwnFrom.and (Own.from (holdsRow_own w.heap.size bl 33 26 11 (fun pre : List TV => pre.length) (fun pre => tcells pre) (fun pre v => True)) _) (Own.from (boxed_own _ _ _) _)) (OwnFrom.and (Own.from (block_own2 _ _ _) _) (Own.from (block_own2 _ _ _) _))) (OwnFrom.and (ownFrom_below (Nat.le_refl _) hB) (ownFrom_pure _ _))
theorem toksX_own {w : World} {r2 r3 B : Nat} (hB : w.heap.size ≤ B) (co : Code) : OwnFrom B (ToksX w r2 r3 co) := by
  rintro pre X Y row ⟨e, pre', t, h1, h2, ⟨h3, h4⟩, h5⟩ hg hr
  have hr' := fun r e => (hr r e).2
  exact ⟨e, pre', t, h1, h2, ⟨boxed_own r2 _ (fun (_ : Unit) => _) () X Y row h3 hg hr', block_own2 (β := Unit) r3 _ _ () X Y row h4 hg hr'⟩, ownFrom_below (β := Unit) (Nat.le_refl _) hB () X Y row h5 hg hr⟩
theorem kpR_alloc {B bs bx : Nat} {W : World} (hb : bx < W.heap.size) (o : Obj) : KpR B bs bx W (W.alloc o) :=
  ⟨by simp, fun k x _ hx _ _ => heap_keep hx, fun k h => .inl (own_alloc hb h), fun h k hk => ⟨by have := (h k (own_alloc hb hk)).1; simp; omega, (h k (own_alloc hb hk)).2⟩⟩
theorem not_row2 {W : World} {B : Nat} {t e : TypeId} {cs : Array Value} {fr : Nat × Nat} (h : W.heap[B]? = some (.cells cs t fr)) (hte : t ≠ e) {base size k : Nat} {v : Value} {xs : List Value} (hr : W.ownsRow base e size v k xs) : some B ≠ v.ownBlock := by
  rcases hr.2 with ⟨rfl, _⟩ | ⟨g, cap, cur, rfl, _, hgb, _⟩
  · simp [Value.ownBlock]
  · intro e'
    obtain rfl : B = g := by simpa [Value.ownBlock] using e'
    have := h.symm.trans hgb
    simp at this
    exact hte this.2.1
/-- One token more. -/
theorem toks_put {w W w1 : World} {bs bl r2 r3 B m : Nat} {s : ByteArray} {pre : List TV} {x : TV} {v v' : Value} {ys : List Value} {tmp : Obj} (hi : ToksI w bs bl r2 r3 s pre W) (hv : Boxed W bl 33 v) (hrow : W.ownsRow w.heap.size 26 11 v pre.length (tcells pre))
    (hcode : P.codeOf x = 0) (hown' : w1.ownsRow w.heap.size 26 11 v' m ys) (hgrow : (W.alloc tmp).grownBy w1 v.ownBlock) (hfr : ∀ j, v'.ownBlock = some j → v.ownBlock = some j ∨ (W.alloc tmp).heap.size ≤ j)
    (hm : m = (pre ++ [x]).length) (hy : ys = tcells (pre ++ [x])) (hlo : w.heap.size ≤ bl ∧ bl < B) (hne : bl ≠ r2 ∧ bl ≠ r3 ∧ bl ≠ bs) {B' : Nat} :
    KeepsFrom B' W (w1.setCell ⟨bl, 0, none⟩ v') ∧ KpR B bs bl W (w1.setCell ⟨bl, 0, none⟩ v') ∧ ToksI w bs bl r2 r3 s (pre ++ [x]) (w1.setCell ⟨bl, 0, none⟩ v') := by
  obtain ⟨⟨⟨_, h2⟩, h3, h4⟩, hB, hco⟩ := hi
  obtain ⟨hv1, hv2, hr2, hk2, hb2⟩ := hv.appended (by decide) hrow hB.size hlo.1 hown' hgrow
  have stay : ∀ {b : Nat} {cs : Array Value} {t : TypeId}, b ≠ bl → t ≠ 26 → W.heap[b]? = some (.cells cs t (0, 0)) → (w1.setCell ⟨bl, 0, none⟩ v').heap[b]? = some (.cells cs t (0, 0)) := fun {b cs t} hb ht hh =>
    heap_other hb ((hgrow.block _ (heap_lt (heap_keep hh)) (not_row2 hh ht hrow)).trans (heap_keep hh))
  have h4' := stay hne.2.2.symm (by decide) h4
  subst hm hy
  refine ⟨hk2.from _, ⟨hb2.size, fun k o hk ho hc hn => ?_, fun k hk => ?_, fun hlt k hk => ?_⟩, ⟨⟨⟨_, hv2, hr2, trivial⟩, stay hne.1.symm (by decide) h2⟩, stay hne.2.1.symm (by decide) h3, h4'⟩, hB.trans hb2, fun u hu => ?_⟩
  · refine heap_other (fun e => ?_) ((hgrow.block _ (heap_lt (heap_keep ho)) (fun e => hn ⟨v, hv.cell, e.symm⟩)).trans (heap_keep ho))
    dsimp only at e
    rcases hk with hk | hk
    · omega
    · exact hne.2.2 (by rw [← e, hk])
  · obtain ⟨u, hu, huo⟩ := hk
    rw [hv2.cell] at hu
    obtain rfl := Option.some.inj hu
    rcases hfr k huo with q | q
    · exact .inl ⟨v, hv.cell, q⟩
    · exact .inr (by simp at q; omega)
  · obtain ⟨u, hu, huo⟩ := hk
    rw [hv2.cell] at hu
    obtain rfl := Option.some.inj hu
    exact ⟨(hr2.lt k huo).2, fun e => not_row2 h4' (by decide) hr2 (by rw [huo, e])⟩
  · rcases List.mem_append.1 hu with hu | hu
    · exact hco u hu
    · rw [List.mem_singleton.1 hu]; exact hcode
set_option maxRecDepth 100000 in
set_option maxHeartbeats 4000000 in
theorem tokens_in (n : Nat) (hn : 8 ≤ n) (s : ByteArray) (hs : s.size ≤ P.bnd) (w : World) :
    CallsIn Fence.wide n Tryd.prog 15 #[.string s] w fun e W' => ∃ v, e = .returned (.tuple #[v, .agg #[.int .i64 (toksOut s).2.1, .int .i64 (toksOut s).2.2]]) ∧ W'.ownsRow w.heap.size 26 11 v (toksOut s).1.length (tcells (toksOut s).1) ∧ Below w.heap.size w W' := by
  have h1 : 1 ≤ n := by omega
  obtain ⟨i0, hi1, hz0, hz1, hz2⟩ := info_parts infoTok
  refine callsIn_of_wp_marks Tryd.func15 rfl trivial ?_ rfl
  simp only [Tryd.ntmps15, List.size_toArray, List.length_cons, List.length_nil, Nat.reduceAdd, Nat.reduceSub, Array.replicate_succ, Array.replicate_zero, List.push_toArray, List.append_toArray, List.nil_append, List.cons_append]
  gi_wp2_with (refine ⟨trivial, ?_⟩; gi_at_call 31; refine (lexEach_in (n - 1) s _).mono ?_; rintro e w' ⟨rfl, rfl⟩)
  have hB0 : Below w.heap.size w ((((w.alloc (.cells #[.slice none 0 0] 33)).alloc (.cells #[.int .i64 0, .int .i64 0] 41)).alloc (.cells #[.slice none 0 0] 33)).alloc (.cells #[.string s] 9)) := ((((Below.refl _ w).alloc (Nat.le_refl _) _).alloc (by simp) _).alloc (by simp; omega) _).alloc (by simp; omega) _
  have hI0 : ToksI w (w.heap.size + 1 + 1 + 1) (w.heap.size + 1 + 1) w.heap.size (w.heap.size + 1) s [] ((((w.alloc (.cells #[.slice none 0 0] 33)).alloc (.cells #[.int .i64 0, .int .i64 0] 41)).alloc (.cells #[.slice none 0 0] 33)).alloc (.cells #[.string s] 9)) :=
    ⟨⟨⟨⟨_, heap_keep (heap_new2 w _ _ _), World.ownsRow_nil _ _ _ _, trivial⟩, heap_keep (heap_keep (heap_keep (heap_new w _)))⟩, heap_keep (heap_keep (heap_new1 w _ _)), heap_new3 w _ _ _ _⟩, hB0, fun t ht => by simp at ht⟩
  have hsz0 : ((((w.alloc (.cells #[.slice none 0 0] 33)).alloc (.cells #[.int .i64 0, .int .i64 0] 41)).alloc (.cells #[.slice none 0 0] 33)).alloc (.cells #[.string s] 9)).heap.size = w.heap.size + 4 := by simp
  have hbl : Boxed ((((w.alloc (.cells #[.slice none 0 0] 33)).alloc (.cells #[.int .i64 0, .int .i64 0] 41)).alloc (.cells #[.slice none 0 0] 33)).alloc (.cells #[.string s] 9)) (w.heap.size + 1 + 1) 33 (.slice none 0 0) := heap_keep (heap_new2 w _ _ _)
  generalize ((((w.alloc (.cells #[.slice none 0 0] 33)).alloc (.cells #[.int .i64 0, .int .i64 0] 41)).alloc (.cells #[.slice none 0 0] 33)).alloc (.cells #[.string s] 9)) = W0 at hB0 hI0 hsz0 hbl ⊢
  have hbl0 : ∀ k, OwnAt (w.heap.size + 1 + 1) W0 k → k < W0.heap.size ∧ k ≠ w.heap.size + 1 + 1 + 1 := fun k ⟨v, h, h'⟩ => by
    rw [hbl.cell] at h
    obtain rfl := Option.some.inj h
    simp [Value.ownBlock] at h'
  refine wpIn_rangeFunc_ownH rfl h1 (gf := 47) (lb := #[.pointer (some ⟨w.heap.size + 1 + 1 + 1, 0, none⟩)]) rfl trivial (enters_of Tryd.func47 (by kernel_rfl) rfl)
    (lexEach_stops (n - 1) (by omega) (w.heap.size + 1 + 1 + 1) (w.heap.size + 1 + 1) W0.heap.size s hs W0 (by omega) (by omega) (Nat.le_refl _) hI0.1.2.2 hbl0) kpR_t (kpR_b (by omega)) (Below.refl _ _) (fun _ => rfl)
    (ToksI w (w.heap.size + 1 + 1 + 1) (w.heap.size + 1 + 1) w.heap.size (w.heap.size + 1) s) (ToksX w w.heap.size (w.heap.size + 1)) (toksI_own (by omega)) (toksX_own (by omega)) hI0
    (fun x a' W => ∃ Bt, W.heap[Bt]? = some (.cells (tvals x).toArray 26 (0, 0)) ∧ W.heap[Bt + 1]? = some (.cells #[.int .i64 x.2.2.2.2.2.2.2.2.2.2.2.1, .int .i64 (P.codeOf x)] 41 (0, 0)) ∧ w.heap.size + 4 ≤ Bt ∧
      a' = { tmps := #[.string s, undef, .pointer (some ⟨w.heap.size, 0, none⟩), .pointer (some ⟨w.heap.size + 1, 0, none⟩), .pointer (some ⟨w.heap.size + 1 + 1, 0, none⟩), .pointer (some ⟨Bt, 0, none⟩), .pointer (some ⟨Bt + 1, 0, none⟩), .string s, .func (.func 47) #[] #[.pointer (some ⟨w.heap.size + 1 + 1 + 1, 0, none⟩)], tokV x, fltV x, undef, undef, undef, undef, undef, undef, undef, undef, undef, undef], defers := [] })
    (fun x a' _ X Y row hs hg hr => by obtain ⟨Bt, h1, h2, h3, h4⟩ := hs; exact ⟨Bt, block_own2 (β := Unit) Bt _ _ () X Y row h1 hg (fun r e => (hr r e).2), block_own2 (β := Unit) (Bt + 1) _ _ () X Y row h2 hg (fun r e => (hr r e).2), h3, h4⟩)
    ?assign ?body ?done ?stop
  case assign =>
    rintro l pre ⟨k1, k2, k3, k4, k5, k6, k7, k8, k9, k10, k11, k12, k13⟩ W K hi hK
    have hlt := hi.1.1.1.choose_spec.1.lt
    have hsz := hi.2.1.size
    have hlt4 := heap_lt hi.1.2.2
    unfold tokV fltV
    dsimp only
    gi_wp2
    exact hK _ _ (((KeepsOthers.alloc _ _).trans (KeepsOthers.alloc _ _)).from _) (kpR_t (kpR_alloc hlt _) (kpR_alloc (by simp; omega) _)) ((toksI_own (B := W0.heap.size) (by omega)).alloc _ ((toksI_own (B := W0.heap.size) (by omega)).alloc _ hi)) ⟨W.heap.size, heap_keep (heap_new W _), heap_new1 W _ _, by omega, rfl⟩
  case body =>
    rintro l pre ⟨k1, k2, k3, k4, k5, k6, k7, k8, k9, k10, k11, k12, k13⟩ a' W hl ⟨r, hr⟩ hi ⟨Bt, hT, hF, hBt, rfl⟩ hlt
    have hi' := hi
    obtain ⟨⟨⟨⟨v, hv, hrow, _⟩, hq2⟩, hq3, hqs⟩, hB, hcodes⟩ := hi
    unfold tvals at hT
    dsimp only [P.codeOf] at hT hF
    have hvc := hv.cell; have hvf := hv.frozen; have h2c := hq2.cell; have h2f := hq2.frozen
    obtain ⟨a0, a1, a2, a3, a4, a5, a6, a7, a8, a9, a10⟩ := eleven_cells hT
    obtain ⟨b0, b1, c0, c1⟩ := two_cells hF
    obtain ⟨d0, d1, e0, e1⟩ := two_cells hq3
    have hlen := P.allE_len s
    have hBs := hB.size
    have hltT := heap_lt hT; have hltF := heap_lt hF
    have HI := Lib.hid hi'; have HV := Lib.hid hv; have HR := Lib.hid hrow; have HB := Lib.hid hB; have HQ2 := Lib.hid hq2; have HQ3 := Lib.hid hq3
    clear hi' hq2 hq3 hqs hT hF hcodes
    unfold tokV fltV
    dsimp only
    by_cases hc : k13 = 0
    · subst hc
      clear d0 d1 e0 e1 h2c h2f
      obtain ⟨A, c, rfl⟩ := own_form hrow
      clear hrow hB
      gi_wp2_with (gi_at_builtin; refine wpListIn_append_new _ rfl _ _ 33 rfl w.heap.size 26 i0 (.agg #[.int .i64 0, .int .i64 0, .int .i64 0, .string ⟨#[]⟩, .bool false, .int .u64 0, .int .u64 0, .int .u64 0, .int .u64 0, .int .i64 0, .int .i64 0]) 11 96 Tryd.underlying33 hi1 hz0 hz1 hz2 rfl (by decide) _ _ _ rfl (HR.out.alloc _) ⟨W.heap.size, 0, none⟩ 1 1 [.int .i64 k1, .int .i64 k2, .int .i64 k3, .string k4, .bool k5, .int .u64 k6, .int .u64 k7, .int .u64 k8, .int .u64 k9, .int .i64 k10, .int .i64 k11] rfl rfl (cell_list_new _ _ _) (by simp [Value.oneCell']) (by decide) (by unfold maxLen; omega) (by omega) (by simp; omega) ?_; intro v' w1 hown' hgrow hfr; obtain ⟨g', cap', rfl⟩ := ownsRow_succ hown'; have HW := Lib.hid hown'; have HG := Lib.hid hgrow; have HFR := Lib.hid hfr; have hc1 := ((HV.out.alloc _).kept hgrow (HV.out.not_row (by decide) HR.out)).cell; have hf1 := ((HV.out.alloc _).kept hgrow (HV.out.not_row (by decide) HR.out)).frozen; clear hown' hgrow hfr)
      exact toks_put (x := (k1, k2, k3, k4, k5, k6, k7, k8, k9, k10, k11, k12, 0)) HI.out HV.out HR.out rfl HW.out HG.out HFR.out (by simp) (by rw [tcells_snoc]; rfl) ⟨by omega, by omega⟩ ⟨by omega, by omega, by omega⟩
    · have hc' : (k13 == 0) = false := by rw [beq_eq_false_iff_ne]; exact hc
      have hc2 : (k13 != 0) = true := by rw [bne, hc']; rfl
      have HC := Lib.hid hc; clear hc
      gi_wp2
      have hm : Tryd.prog.follows .mixedOrders = true := by kernel_rfl
      gi_region_o
      all_goals gi_wp2
      all_goals exact ⟨((((KeepsOthers.setCell _ _ _).trans (KeepsOthers.setCell _ _ _)).trans (KeepsOthers.setCell _ _ _)).trans (KeepsOthers.drew _)).from _, rfl, pre, (k1, k2, k3, k4, k5, k6, k7, k8, k9, k10, k11, k12, k13), rfl, HC.out,
        ⟨heap_other (a := ⟨w.heap.size + 1, 1, none⟩) (by dsimp only; omega) (heap_other (a := ⟨w.heap.size + 1, 0, none⟩) (by dsimp only; omega) (HQ2.out.set _)), heap_put (i := 1) (heap_put (i := 0) (heap_other (a := ⟨w.heap.size, 0, none⟩) (by dsimp only; omega) HQ3.out))⟩,
        (((HB.out.setCell (p := ⟨w.heap.size, 0, none⟩) (Nat.le_refl _) _).setCell (p := ⟨w.heap.size + 1, 0, none⟩) (by dsimp only; omega) _).setCell (p := ⟨w.heap.size + 1, 1, none⟩) (by dsimp only; omega) _).drew⟩
  case done =>
    rintro D ys W hD rfl hi hK
    have hok := toksOut_ok hi.2.2
    obtain ⟨⟨⟨⟨v, hv, hrow, _⟩, hq2⟩, hq3, hqs⟩, hB, hcodes⟩ := hi
    have hvc := hv.cell; have h2c := hq2.cell; have h2f := hq2.frozen
    obtain ⟨d0, d1, e0, e1⟩ := two_cells hq3
    have hsz := hB.size
    have HOK := Lib.hid hok; clear hok
    obtain ⟨A, c, rfl⟩ := own_form hrow
    have HV := Lib.hid hv; have HR := Lib.hid hrow; have HB := Lib.hid hB; have HQ2 := Lib.hid hq2; have HQ3 := Lib.hid hq3; have HK := Lib.hid hK
    clear hv hrow hB hq2 hq3 hqs hcodes hK
    gi_wp2
    have hK3 := (((KeepsOthers.setCell W ⟨w.heap.size, 0, none⟩ (.slice A (P.allE s 0).length c)).trans (KeepsOthers.setCell _ ⟨w.heap.size + 1, 0, none⟩ (.int .i64 0))).trans (KeepsOthers.setCell _ ⟨w.heap.size + 1, 1, none⟩ (.int .i64 0))).same D _ HK.out rfl
    have hB3 := ((HB.out.setCell (p := ⟨w.heap.size, 0, none⟩) (Nat.le_refl _) (.slice A (P.allE s 0).length c)).setCell (p := ⟨w.heap.size + 1, 0, none⟩) (by dsimp only; omega) (.int .i64 0)).setCell (p := ⟨w.heap.size + 1, 1, none⟩) (by dsimp only; omega) (.int .i64 0)
    have h23 : Boxed (((W.setCell ⟨w.heap.size, 0, none⟩ (.slice A (P.allE s 0).length c)).setCell ⟨w.heap.size + 1, 0, none⟩ (.int .i64 0)).setCell ⟨w.heap.size + 1, 1, none⟩ (.int .i64 0)) w.heap.size 33 (.slice A (P.allE s 0).length c) := heap_other (a := ⟨w.heap.size + 1, 1, none⟩) (by dsimp only; omega) (heap_other (a := ⟨w.heap.size + 1, 0, none⟩) (by dsimp only; omega) (HQ2.out.set _))
    have h33 : (((W.setCell ⟨w.heap.size, 0, none⟩ (.slice A (P.allE s 0).length c)).setCell ⟨w.heap.size + 1, 0, none⟩ (.int .i64 0)).setCell ⟨w.heap.size + 1, 1, none⟩ (.int .i64 0)).heap[w.heap.size + 1]? = some (.cells #[.int .i64 0, .int .i64 0] 41 (0, 0)) := heap_put (i := 1) (heap_put (i := 0) (heap_other (a := ⟨w.heap.size, 0, none⟩) (by dsimp only; omega) HQ3.out))
    have hO3 := own_other (w1 := ((W.setCell ⟨w.heap.size, 0, none⟩ (.slice A (P.allE s 0).length c)).setCell ⟨w.heap.size + 1, 0, none⟩ (.int .i64 0)).setCell ⟨w.heap.size + 1, 1, none⟩ (.int .i64 0)) HR.out (fun g o ho hg => by
      have g2 : g ≠ w.heap.size := fun e => (HQ2.out.not_row (by decide) HR.out) (by rw [hg, e])
      have g3 : g ≠ w.heap.size + 1 := fun e => (not_row2 HQ3.out (by decide) HR.out) (by rw [hg, e])
      exact heap_other (a := ⟨w.heap.size + 1, 1, none⟩) g3 (heap_other (a := ⟨w.heap.size + 1, 0, none⟩) g3 (heap_other (a := ⟨w.heap.size, 0, none⟩) g2 ho)))
    refine ⟨by simp, .inl ⟨_, _, rfl, run_takeDeferred hK3, ?_⟩⟩
    have hgp := fun {p : Addr} {v : Value} (h : (((W.setCell ⟨w.heap.size, 0, none⟩ (.slice A (P.allE s 0).length c)).setCell ⟨w.heap.size + 1, 0, none⟩ (.int .i64 0)).setCell ⟨w.heap.size + 1, 1, none⟩ (.int .i64 0)).cell? p = some v) => cell_kept h (grownBy_putObj' _ D (.deferred none)) (fun r e => by cases e; exact ⟨_, hK3, rfl⟩)
    have x2 := hgp h23.cell
    obtain ⟨y0, y1, _, _⟩ := two_cells h33
    have x30 := hgp y0
    have x31 := hgp y1
    exact ⟨_, by simp [results, Tryd.results15, go_sem, x2, x30, x31]; rfl, _, by rw [HOK.out], by rw [HOK.out]; exact ownsRow_putObj hO3 _ hK3 rfl, hB3.trans (belowK_b (w := w) (Nat.le_refl _) _ D _ _ (by omega) hK3 rfl rfl)⟩
  case stop =>
    rintro D co pre W hD hSp ⟨rfl, pre', t, rfl, hc, ⟨hq2, hq3⟩, hB⟩ hK
    have hbad := toksOut_bad hSp hc
    have HBAD := Lib.hid hbad; clear hbad
    have h2c := hq2.cell
    obtain ⟨d0, d1, e0, e1⟩ := two_cells hq3
    gi_wp2
    refine ⟨by simp, .inl ⟨_, _, rfl, run_takeDeferred hK, ?_⟩⟩
    have hgp := fun {p : Addr} {v : Value} (h : W.cell? p = some v) => cell_kept h (grownBy_putObj' _ D (.deferred none)) (fun r e => by cases e; exact ⟨_, hK, rfl⟩)
    have x2 := hgp h2c
    have x30 := hgp d0
    have x31 := hgp d1
    have hsz := hB.size
    exact ⟨_, by simp [results, Tryd.results15, go_sem, x2, x30, x31]; rfl, _, by rw [HBAD.out], by rw [HBAD.out]; exact World.ownsRow_nil _ _ _ _, hB.trans (belowK_b (w := w) (Nat.le_refl _) _ D _ _ (by omega) hK rfl rfl)⟩
end Go.Proofs.YtldjdcdoegjmoaaDoor
