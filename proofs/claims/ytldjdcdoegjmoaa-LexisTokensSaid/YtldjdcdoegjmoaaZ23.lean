import Derived.Deep.AppendLies
import Derived.Laws.AppendOwn
import Derived.LoopIn
import Derived.LoopNIn
import Derived.OrdersIn
import Derived.OwnWalkIn
import Derived.RangeFuncBound
import Derived.RangeFuncBox
import Derived.RangeFuncCalls
import Derived.RangeFuncLeaves
import Derived.RangeFuncNested
import Derived.Shelf.Abstract
import Derived.Shelf.RegionOpen
import Derived.TacticsInMore
import Derived.Test.YtldjdcdoegjmoaaProg
import Derived.WalkKit
import Derived.Test.YtldjdcdoegjmoaaZ8
import Derived.Test.YtldjdcdoegjmoaaZ9
import Derived.Test.YtldjdcdoegjmoaaZ12
import Derived.Test.YtldjdcdoegjmoaaZ20
import Derived.Test.YtldjdcdoegjmoaaZ22
set_option linter.unusedVariables false
set_option linter.unusedSimpArgs false
namespace Go.Proofs.Ytldjdcdoegjmoaa
open Go.RowKit Go.Shelf
attribute [local go_sem] Oper.semAt_some
abbrev TV := P.TV
def tokV (t : TV) : Value := .agg #[.int .i64 t.1, .int .i64 t.2.1, .int .i64 t.2.2.1, .string t.2.2.2.1, .bool t.2.2.2.2.1, .int .u64 t.2.2.2.2.2.1, .int .u64 t.2.2.2.2.2.2.1, .int .u64 t.2.2.2.2.2.2.2.1, .int .u64 t.2.2.2.2.2.2.2.2.1, .int .i64 t.2.2.2.2.2.2.2.2.2.1, .int .i64 t.2.2.2.2.2.2.2.2.2.2.1]
def fltV (t : TV) : Value := .agg #[.int .i64 t.2.2.2.2.2.2.2.2.2.2.2.1, .int .i64 t.2.2.2.2.2.2.2.2.2.2.2.2]
theorem next_c (s : ByteArray) (hs : s.size ≤ P.bnd) (a : Int) (w : World) : Calls Try.prog 10 #[.string s, .int .i64 a] w fun e w' => e = .returned (.tuple #[tokV (P.nextE s a), fltV (P.nextE s a)]) ∧ Below w.heap.size w w' :=
 P.lexis_Next.calls (4 * s.size + 101) s a _ _ _ _ _ _ _ _ _ _ _ _ _ w ((P.Next_f s hs a _ (by omega)).trans (by rfl))
def OwnAt (bx : Nat) (W : World) (k : Nat) : Prop := ∃ v : Value, W.cell? ⟨bx, 0, none⟩ = some v ∧ v.ownBlock = some k
structure KpR (B bs bx : Nat) (W W' : World) : Prop where
 size : W.heap.size ≤ W'.heap.size
 keep : ∀ (k : Nat) (o : Obj), (B ≤ k ∨ k = bs) → W.heap[k]? = some o → o.isCells = true → ¬ OwnAt bx W k → W'.heap[k]? = some o
 own : ∀ k, OwnAt bx W' k → OwnAt bx W k ∨ W.heap.size ≤ k
 lt : (∀ k, OwnAt bx W k → k < W.heap.size ∧ k ≠ bs) → ∀ k, OwnAt bx W' k → k < W'.heap.size ∧ k ≠ bs
theorem kpR_t {B bs bx : Nat} {X Y Z : World} (h : KpR B bs bx X Y) (k : KpR B bs bx Y Z) : KpR B bs bx X Z where
 size := Nat.le_trans h.size k.size
 keep := fun j o hj ho hc hn => k.keep j o hj (h.keep j o hj ho hc hn) hc (fun q => by
  rcases h.own j q with q | q
  · exact hn q
  · have := heap_lt ho; omega)
 own := fun j hj => by
  rcases k.own j hj with q | q
  · exact h.own j q
  · exact .inr (Nat.le_trans h.size q)
 lt := fun hx => k.lt (h.lt hx)
theorem kpR_b {B bs bx : Nat} {w : World} (hx : bx < w.heap.size) (W : World) (l : Nat) (o o' : Obj) (hl : w.heap.size ≤ l) (ho : W.heap[l]? = some o) (hc : o.isCells = false) (_ : o.isWalk = false) : KpR B bs bx W (W.putObj l o') := by
 have hg := grownBy_putObj' W l o'
 have hsz : (W.putObj l o').heap.size = W.heap.size := by simp [World.putObj]
 have he : ∀ k, OwnAt bx (W.putObj l o') k → OwnAt bx W k := fun k ⟨v, h1, h2⟩ => by
  refine ⟨v, ?_, h2⟩
  rw [← h1]
  by_cases hb : bx < W.heap.size
  · exact (World.cell?_of_block (a := ⟨bx, 0, none⟩) (hg.block bx hb (fun e => by cases e; omega))).symm
  · simp only [World.cell?]
    rw [Array.getElem?_eq_none (by omega), Array.getElem?_eq_none (by omega)]
 refine ⟨by omega, fun k x hk hx' hcx hn => ?_, fun k h => .inl (he k h), fun hlt k h => by rw [hsz]; exact hlt k (he k h)⟩
 exact (World.putObj_heap_other (fun e => by subst e; rw [ho] at hx'; cases hx'; rw [hc] at hcx; cases hcx)).trans hx'
theorem grow_below {w w' : World} (h : Below w.heap.size w w') : w.grownBy w' none := ⟨h.os, h.tape, h.output, h.size, fun k hk _ => h.block k hk⟩
theorem own_alloc {bx k : Nat} {W : World} {o : Obj} (hb : bx < W.heap.size) (h : OwnAt bx (W.alloc o) k) : OwnAt bx W k := by
 obtain ⟨v, h1, h2⟩ := h
 refine ⟨v, ?_, h2⟩
 rw [← h1]
 exact (World.cell?_of_block (a := ⟨bx, 0, none⟩) ((World.grownBy_alloc W o none).block bx hb (by simp))).symm
theorem ownAt_below {bx k : Nat} {W W' : World} (hb : bx < W.heap.size) (hB : Below W.heap.size W W') (h : OwnAt bx W' k) : OwnAt bx W k := by
 obtain ⟨v, h1, h2⟩ := h
 exact ⟨v, by rw [← h1]; exact (World.cell?_of_block (a := ⟨bx, 0, none⟩) (hB.block bx hb)).symm, h2⟩
theorem eleven_cells {w : World} {k : Nat} {v0 v1 v2 v3 v4 v5 v6 v7 v8 v9 v10 : Value} {t : TypeId} (h : w.heap[k]? = some (.cells #[v0, v1, v2, v3, v4, v5, v6, v7, v8, v9, v10] t (0, 0))) :
 w.cell? ⟨k, 0, none⟩ = some v0 ∧ w.cell? ⟨k, 1, none⟩ = some v1 ∧ w.cell? ⟨k, 2, none⟩ = some v2 ∧ w.cell? ⟨k, 3, none⟩ = some v3 ∧ w.cell? ⟨k, 4, none⟩ = some v4 ∧ w.cell? ⟨k, 5, none⟩ = some v5 ∧ w.cell? ⟨k, 6, none⟩ = some v6 ∧ w.cell? ⟨k, 7, none⟩ = some v7 ∧ w.cell? ⟨k, 8, none⟩ = some v8 ∧ w.cell? ⟨k, 9, none⟩ = some v9 ∧ w.cell? ⟨k, 10, none⟩ = some v10 := by
 refine ⟨?_, ?_, ?_, ?_, ?_, ?_, ?_, ?_, ?_, ?_, ?_⟩ <;> simp [World.cell?, h]
theorem take_prefix {α : Type} {L pre rest : List α} {x : α} (h : L = pre ++ x :: rest) : pre ++ [x] <+: L := ⟨rest, by rw [h]; simp⟩
set_option maxRecDepth 100000 in
set_option maxHeartbeats 4000000 in
theorem lexEach1_in (n : Nat) (hn : 3 ≤ n) (l bs bx B : Nat) (s : ByteArray) (hs : s.size ≤ P.bnd) (J Jx : List TV → World → Prop) (B0 : Nat) (hJ : AbidesFrom B0 J) (hbs0 : bs < B0) (hbx0 : bx < B0) (hB : B ≤ B0)
 (hY : ∀ pre (x : TV) W, J pre W → pre.length < (P.allE s 0).length → YieldAt Fence.wide (n - 1) Try.prog l #[tokV x, fltV x] W fun e W' =>
   (e = .returned (.bool true) ∧ J (pre ++ [x]) W' ∧ KpR B bs bx W W') ∨ (e = .returned (.bool false) ∧ Jx (pre ++ [x]) W'))
 (W : World) (hW0 : B0 ≤ W.heap.size) (hbs : W.heap[bs]? = some (.cells #[.string s] 9 (0, 0))) (hown : ∀ k, OwnAt bx W k → k < W.heap.size ∧ k ≠ bs) (h0 : J [] W) :
 CallsIn Fence.wide n Try.prog 27 #[.func (.yield l) #[] #[], .pointer (some ⟨bs, 0, none⟩)] W fun e W' => (∃ v, e = .returned v) ∧
  ((∃ ys, ys = P.allE s 0 ∧ J ys W') ∨ (∃ pre, pre <+: P.allE s 0 ∧ Jx pre W')) := by
 have h1 : 1 ≤ n := by omega
 refine callsIn_of_wp Try.func27 rfl trivial ?_ rfl
 simp only [Try.ntmps27, List.size_toArray, List.length_cons, List.length_nil, Nat.reduceAdd, Nat.reduceSub, Array.replicate_succ, Array.replicate_zero, List.push_toArray, List.append_toArray, List.nil_append, List.cons_append]
 gi_wp2
 gi_loopw [3] (fun p wr => ∃ (pre : List TV) (q : Nat), p = .int .i64 (q : Int) ∧ q ≤ s.size ∧ P.allE s 0 = pre ++ P.allE s q ∧ B0 ≤ wr.heap.size ∧ wr.heap[bs]? = some (.cells #[.string s] 9 (0, 0)) ∧ (∀ k, OwnAt bx wr k → k < wr.heap.size ∧ k ≠ bs) ∧ J pre wr)
  (fun p wr => s.size + 1 - (intOf p).toNat)
 case atStart => exact ⟨[], 0, rfl, Nat.zero_le _, rfl, hW0, hbs, hown, h0⟩
 case round =>
  obtain ⟨pre, q, rfl, hq, hall, hW1, hb1, ho1, hJ1⟩ := hrel
  have hcs : wr.cell? ⟨bs, 0, none⟩ = some (.string s) := (show Boxed wr bs 9 (.string s) from hb1).cell
  have hn' := fun W => next_c s hs (q : Int) W
  obtain ⟨⟨k1, k2, k3, k4, k5, k6, k7, k8, k9, k10, k11, k12, k13⟩, ht⟩ : ∃ t, t = P.nextE s (q : Int) := ⟨_, rfl⟩
  rw [← ht] at hn'
  unfold tokV fltV at hn'
  dsimp only at hn'
  have HN := Lib.hid hn'; have HT := Lib.hid ht; have HB1 := Lib.hid hb1; have HO1 := Lib.hid ho1; have HALL := Lib.hid hall
  clear hn' ht hb1 ho1 hall hbs hown h0
  have hlen : pre.length < (P.allE s 0).length := by
   rw [HALL.out, List.length_append]
   by_cases h : P.codeOf (P.nextE s (q : Int)) = 0 ∧ P.kindOf (P.nextE s (q : Int)) ≠ 0
   · obtain ⟨e, _, _, _, h4⟩ := P.allE_on hq h.1 h.2
     rw [h4]; simp
   · rw [P.allE_off h]; simp
  have HL := Lib.hid hlen; clear hlen
  gi_wp2_with (refine ⟨trivial, ?_⟩; gi_at_call 10; refine (callsIn_wide.2 (HN.out _)).mono ?_; rintro e w2 ⟨rfl, hb2⟩; have HBB := Lib.hid hb2; clear hb2; obtain ⟨fn, tmps, assign, body, hy, hR⟩ := hY pre (k1, k2, k3, k4, k5, k6, k7, k8, k9, k10, k11, k12, k13) ((w2.alloc (.cells #[.int .i64 k1, .int .i64 k2, .int .i64 k3, .string k4, .bool k5, .int .u64 k6, .int .u64 k7, .int .u64 k8, .int .u64 k9, .int .i64 k10, .int .i64 k11] 28)).alloc (.cells #[.int .i64 k12, .int .i64 k13] 31)) (hJ _ _ _ none hJ1 (grow_below ((HBB.out.alloc HBB.out.size _).alloc (by have := HBB.out.size; simp; omega) _)) (fun r e => by cases e)) HL.out; unfold tokV fltV at hy; dsimp only at hy)
  have hsz := HBB.out.size
  have hno : ∀ j, w2.heap.size ≤ j → ¬ OwnAt bx ((w2.alloc (.cells #[.int .i64 k1, .int .i64 k2, .int .i64 k3, .string k4, .bool k5, .int .u64 k6, .int .u64 k7, .int .u64 k8, .int .u64 k9, .int .i64 k10, .int .i64 k11] 28)).alloc (.cells #[.int .i64 k12, .int .i64 k13] 31)) j := fun j hj h => by
   have := HO1.out j (ownAt_below (by omega) HBB.out (own_alloc (by omega) (own_alloc (by simp; omega) h)))
   omega
  have hnb : ¬ OwnAt bx ((w2.alloc (.cells #[.int .i64 k1, .int .i64 k2, .int .i64 k3, .string k4, .bool k5, .int .u64 k6, .int .u64 k7, .int .u64 k8, .int .u64 k9, .int .i64 k10, .int .i64 k11] 28)).alloc (.cells #[.int .i64 k12, .int .i64 k13] 31)) bs := fun h => by
   have := HO1.out bs (ownAt_below (by omega) HBB.out (own_alloc (by omega) (own_alloc (by simp; omega) h)))
   exact this.2 rfl
  have hlt2 : ∀ k, OwnAt bx ((w2.alloc (.cells #[.int .i64 k1, .int .i64 k2, .int .i64 k3, .string k4, .bool k5, .int .u64 k6, .int .u64 k7, .int .u64 k8, .int .u64 k9, .int .i64 k10, .int .i64 k11] 28)).alloc (.cells #[.int .i64 k12, .int .i64 k13] 31)) k → k < ((w2.alloc (.cells #[.int .i64 k1, .int .i64 k2, .int .i64 k3, .string k4, .bool k5, .int .u64 k6, .int .u64 k7, .int .u64 k8, .int .u64 k9, .int .i64 k10, .int .i64 k11] 28)).alloc (.cells #[.int .i64 k12, .int .i64 k13] 31)).heap.size ∧ k ≠ bs := fun j h => by
   have := HO1.out j (ownAt_below (by omega) HBB.out (own_alloc (by omega) (own_alloc (by simp; omega) h)))
   exact ⟨by simp; omega, this.2⟩
  refine hR.mono ?_
  rintro e W3 (⟨rfl, hJ3, hk3⟩ | ⟨rfl, hJx3⟩)
  · have hT3 := hk3.keep w2.heap.size _ (.inl (by omega)) (heap_keep (heap_new w2 _)) rfl (hno _ (Nat.le_refl _))
    have hF3 := hk3.keep (w2.heap.size + 1) _ (.inl (by omega)) (heap_new1 w2 _ _) rfl (hno _ (by omega))
    have hS3 := hk3.keep bs _ (.inr rfl) (heap_keep (heap_keep (heap_same HBB.out HB1.out))) rfl hnb
    have ho3 := hk3.lt hlt2
    have hz3 := hk3.size
    simp only [World.size_alloc] at hz3
    obtain ⟨a0, a1, a2, a3, a4, a5, a6, a7, a8, a9, a10⟩ := eleven_cells hT3
    obtain ⟨b0, b1, c0, c1⟩ := two_cells hF3
    have HS3 := Lib.hid hS3; have HO3 := Lib.hid ho3; have HZ3 := Lib.hid hz3; have HHY := Lib.hid hy
    clear hT3 hF3 hS3 ho3 hz3 hk3 hno hnb hlt2 hy hsz
    by_cases hc : k13 = 0
    · subst hc
      by_cases hd : k1 = 0
      · subst hd
        gi_wp2
        refine bodyPost_ret (results_none rfl _ _ _) rfl ?_
        refine ⟨⟨_, rfl⟩, .inl ⟨_, ?_, hJ3⟩⟩
        rw [HALL.out, P.allE_off (fun h => by rw [← HT.out] at h; exact h.2 rfl), ← HT.out]
      · have hd' : (k1 == 0) = false := by rw [beq_eq_false_iff_ne]; exact hd
        have HD := Lib.hid hd; clear hd
        obtain ⟨e, he1, he2, he3, he4⟩ := P.allE_on hq (show P.codeOf (P.nextE s (q : Int)) = 0 from by rw [← HT.out]; rfl) (show P.kindOf (P.nextE s (q : Int)) ≠ 0 from by rw [← HT.out]; exact HD.out)
        have hke : k3 = (e : Int) := by rw [← he1, ← HT.out]; rfl
        subst hke
        have HE1 := Lib.hid he1; have HE4 := Lib.hid he4; clear he1 he4
        gi_wp2
        go_roundw
        case rel => exact ⟨pre ++ [((k1, k2, (e : Int), k4, k5, k6, k7, k8, k9, k10, k11, k12, (0 : Int)) : TV)], e, rfl, he3, by rw [HALL.out, HE4.out, ← HT.out]; simp, by have := HZ3.out; have := HBB.out.size; omega, HS3.out, HO3.out, hJ3⟩
        case measure => simp [intOf]; omega
    · have hc' : (k13 == 0) = false := by rw [beq_eq_false_iff_ne]; exact hc
      have HC := Lib.hid hc; clear hc
      gi_wp2
      refine bodyPost_ret (results_none rfl _ _ _) rfl ?_
      refine ⟨⟨_, rfl⟩, .inl ⟨_, ?_, hJ3⟩⟩
      rw [HALL.out, P.allE_off (fun h => by rw [← HT.out] at h; exact HC.out h.1), ← HT.out]
  · gi_wp2
    refine bodyPost_ret (results_none rfl _ _ _) rfl ?_
    refine ⟨⟨_, rfl⟩, .inr ⟨_, ?_, hJx3⟩⟩
    by_cases h : P.codeOf (P.nextE s (q : Int)) = 0 ∧ P.kindOf (P.nextE s (q : Int)) ≠ 0
    · obtain ⟨e, _, _, _, h4⟩ := P.allE_on hq h.1 h.2
      rw [← HT.out] at h4
      exact take_prefix (HALL.out.trans (by rw [h4]))
    · have h4 := P.allE_off h
      rw [← HT.out] at h4
      exact take_prefix (rest := []) (HALL.out.trans (by rw [h4]))
set_option maxHeartbeats 1000000 in
theorem lexEach_in (n : Nat) (s : ByteArray) (w : World) : CallsIn Fence.wide n Try.prog 14 #[.string s] w fun e w' => e = .returned (.func (.func 27) #[] #[.pointer (some ⟨w.heap.size, 0, none⟩)]) ∧ w' = w.alloc (.cells #[.string s] 9) := by
 refine callsIn_of_wp Try.func14 rfl trivial ?_ rfl
 simp only [Try.ntmps14, List.size_toArray, List.length_cons, List.length_nil, Nat.reduceAdd, Nat.reduceSub, Array.replicate_succ, Array.replicate_zero, List.push_toArray, List.append_toArray, List.nil_append, List.cons_append]
 gi_wp2
 go_ret
 exact ⟨rfl, rfl⟩
theorem lexEach_stops (n : Nat) (hn : 3 ≤ n) (bs bx B : Nat) (s : ByteArray) (hs : s.size ≤ P.bnd) (w : World) (hbs : bs < w.heap.size) (hbx : bx < w.heap.size) (hB : B ≤ w.heap.size) (hc : w.heap[bs]? = some (.cells #[.string s] 9 (0, 0))) (hown : ∀ k, OwnAt bx w k → k < w.heap.size ∧ k ≠ bs) :
 SeqStopsK Fence.wide n Try.prog 27 #[.pointer (some ⟨bs, 0, none⟩)] (fun x : TV => #[tokV x, fltV x]) (KpR B bs bx) (fun ys => ys = P.allE s 0) (fun pre => pre <+: P.allE s 0) (P.allE s 0).length w :=
 fun l J Jx W hW hJ _ hY h0 => lexEach1_in n hn l bs bx B s hs J Jx W.heap.size hJ (Nat.lt_of_lt_of_le hbs hW.size) (Nat.lt_of_lt_of_le hbx hW.size) (Nat.le_trans hB hW.size) hY W (Nat.le_refl _) (heap_below hW hbs hc) (fun k hk => by
  have h := hown k (by obtain ⟨v, h1, h2⟩ := hk; exact ⟨v, by rw [← h1]; exact (World.cell?_of_block (a := ⟨bx, 0, none⟩) (hW.block bx hbx)).symm, h2⟩)
  have := hW.size
  exact ⟨by omega, h.2⟩) h0
end Go.Proofs.Ytldjdcdoegjmoaa
set_option linter.unusedVariables false
set_option linter.unusedSimpArgs false
namespace Go.Proofs.Ytldjdcdoegjmoaa
open Go.RowKit Go.Shelf
attribute [local go_sem] Oper.semAt_some
theorem run_append_fresh {P : Program} (w : World) (base : Nat) (t ty e : TypeId) (i : TypeInfo) (z : Value) (size bytes : Nat) (ht : P.underlying t = some (.slice e)) (hi : P.info? e = some i) (hz : i.zero = some z)
 (hsize : i.size = size) (hby : i.bytes = bytes) (v : Value) (n : Nat) (xs : List Value) (hown : w.ownsRow base e size v n xs)
 (a : Addr) (m c : Nat) (news : List Value) (hl : news.length = m * size) (hnews : ∀ j u, news[j]? = some u → w.cell? (a.add j) = some u) (h1 : ∀ u ∈ news, u.oneCell' = true)
 (hm : 0 < m) (h63 : n + m ≤ maxLen) (hbytes : (n + m) * bytes ≤ 140737488355328) {v' : Value} {w' : World} (hrun : (Builtin.append_ #[t, t] ty #[v, .slice (some a) m c]).run P w = .ok v' w') : ∀ k, v'.ownBlock = some k → v.ownBlock = some k ∨ w.heap.size ≤ k := by
 subst hsize
 subst hby
 have hsmall : n + m ≤ 9223372036854775807 := by simp only [maxLen] at h63; omega
 rcases hown.2 with ⟨rfl, rfl⟩ | ⟨g, cap, cur, rfl, hbg, hg, hnc, hcm, hcs, htake⟩
 · have hr := run_append_nil (P := P) w t ty e i z ht hi hz a m c news hl hnews (by omega) (by omega) (by have hb := hbytes; simp only [Nat.zero_add] at hb; omega)
   rw [hr] at hrun
   cases hrun
   intro k hk
   exact .inr (by simp [Value.ownBlock] at hk; omega)
 · by_cases hroom : n + m ≤ cap
   · have hfit : n * i.size + news.length ≤ cur.size := by rw [hl, hcs, ← Nat.add_mul]; exact Nat.mul_le_mul_right _ hroom
     have hr := run_append_room (P := P) w t ty e i ht hi g n cap cur hg a m c news hl hnews h1 hroom hfit
     rw [hr] at hrun
     cases hrun
     intro k hk
     exact .inl hk
   · have holds : ∀ j u, xs[j]? = some u → w.cell? ((⟨g, 0, none⟩ : Addr).add j) = some u := hown.cells (g := g) rfl
     have hr := run_append_grow (P := P) w t ty e i z ht hi hz ⟨g, 0, none⟩ n cap xs hown.1 holds a m c news hl hnews (by omega) (by omega) (growslice_fits (by omega) hbytes)
     rw [hr] at hrun
     cases hrun
     intro k hk
     exact .inr (by simp [Value.ownBlock] at hk; omega)
theorem wpListIn_append_new {F : Fence} {n : Nat} {P : Program} (w : World) {ops : Array Oper} {rest : List Oper} {o : Oper} {a : Act} {Q : Exit → Act → World → Prop}
 (hg : o.guard = none) (s x : Operand) (t : TypeId) (hop : o.op = Op.call { callee := Callee.builtin Builtin.append, args := #[s, x], argTypes := #[t, t] })
 (base : Nat) (e : TypeId) (i : TypeInfo) (z : Value) (size bytes : Nat) (h1 : P.underlying t = some (.slice e)) (h2 : P.info? e = some i) (h3 : i.zero = some z) (h4 : i.size = size) (h5 : i.bytes = bytes) (h6 : z.cells.size = size) (h7 : 0 < size)
 (v : Value) (k : Nat) (xs : List Value) (hs : a.eval s = v) (hown : w.ownsRow base e size v k xs) (ad : Addr) (m c : Nat) (news : List Value) (hx : a.eval x = .slice (some ad) m c) (hn : news.length = m * size)
 (hc : ∀ j u, news[j]? = some u → w.cell? (ad.add j) = some u) (h1c : ∀ u ∈ news, u.oneCell' = true) (hm : 0 < m) (b1 : k + m ≤ maxLen) (b2 : (k + m) * bytes ≤ 140737488355328) (b3 : base ≤ w.heap.size)
 (hK : ∀ v' w', w'.ownsRow base e size v' (k + m) (xs ++ news) → w.grownBy w' v.ownBlock → (∀ j, v'.ownBlock = some j → v.ownBlock = some j ∨ w.heap.size ≤ j) → wpListIn F n P ops Q rest (a.put o.dst v') w') :
 wpListIn F n P ops Q (o :: rest) a w := by
 refine wpListIn_plain hg fun K hK' => ?_
 obtain ⟨v', w', hrun, r1, r2, r3⟩ := run_append_own (P := P) w base t o.type e i z size bytes h1 h2 h3 h4 h5 h6 h7 v k xs hown ad m c news hn hc h1c b1 b2 b3
 have r4 := run_append_fresh (P := P) w base t o.type e i z size bytes h1 h2 h3 h4 h5 v k xs hown ad m c news hn hc h1c hm b1 b2 hrun
 unfold Oper.wpIn
 refine ⟨?_, ?_⟩
 · simp [Oper.about, hop, resolve, Target.leads, Sem.run_pure]
 · rw [Oper.semAt_plain F _ _ (by rw [hop]; intro c hc'; cases hc')]
   simp [execOp, hop, resolve, invoke, builtin, hs, hx, hrun, Result.andThen]
   exact hK' _ _ (hK v' w' r1 r2 r4)
theorem cell_list_new (W : World) (xs : List Value) (t : TypeId) : ∀ j x, xs[j]? = some x → (W.alloc (.cells xs.toArray t)).cell? ((⟨W.heap.size, 0, none⟩ : Addr).add j) = some x := by
 have h := World.news_of_block (w := W.alloc (.cells xs.toArray t)) (cs := xs.toArray) (t := t) (fr := (0, 0)) (heap_alloc_new W (.cells xs.toArray t))
 simpa using h
def tvals (t : TV) : List Value := [.int .i64 t.1, .int .i64 t.2.1, .int .i64 t.2.2.1, .string t.2.2.2.1, .bool t.2.2.2.2.1, .int .u64 t.2.2.2.2.2.1, .int .u64 t.2.2.2.2.2.2.1, .int .u64 t.2.2.2.2.2.2.2.1, .int .u64 t.2.2.2.2.2.2.2.2.1, .int .i64 t.2.2.2.2.2.2.2.2.2.1, .int .i64 t.2.2.2.2.2.2.2.2.2.2.1]
def tcells (ts : List TV) : List Value := ts.flatMap tvals
theorem tcells_snoc (ts : List TV) (t : TV) : tcells (ts ++ [t]) = tcells ts ++ tvals t := by unfold tcells; rw [List.flatMap_append]; simp
theorem infoTok : (Try.prog.info? 28).map (fun i => (i.zero, i.size, i.bytes)) = some (some (.agg #[.int .i64 0, .int .i64 0, .int .i64 0, .string ⟨#[]⟩, .bool false, .int .u64 0, .int .u64 0, .int .u64 0, .int .u64 0, .int .i64 0, .int .i64 0]), 11, 96) := by kernel_rfl
theorem block_own2 {β : Type} (b : Nat) (cs : Array Value) (t : TypeId) : Own (fun (_ : β) W => W.heap[b]? = some (.cells cs t (0, 0))) := by
 intro s X Y row hx hg hrow
 refine (hg.block b (heap_lt hx) (fun e => ?_)).trans hx
 obtain ⟨o, ho, hc⟩ := hrow b e.symm
 rw [hx] at ho; cases ho; cases hc
theorem kpR_alloc {B bs bx : Nat} {W : World} (hb : bx < W.heap.size) (o : Obj) : KpR B bs bx W (W.alloc o) :=
 ⟨by simp, fun k x _ hx _ _ => heap_keep hx, fun k h => .inl (own_alloc hb h), fun h k hk => ⟨by have := (h k (own_alloc hb hk)).1; simp; omega, (h k (own_alloc hb hk)).2⟩⟩
theorem not_row2 {W : World} {B : Nat} {t e : TypeId} {cs : Array Value} {fr : Nat × Nat} (h : W.heap[B]? = some (.cells cs t fr)) (hte : t ≠ e) {base size k : Nat} {v : Value} {xs : List Value} (hr : W.ownsRow base e size v k xs) : some B ≠ v.ownBlock := by
 rcases hr.2 with ⟨rfl, _⟩ | ⟨g, cap, cur, rfl, _, hgb, _⟩
 · simp [Value.ownBlock]
 · intro e'
   obtain rfl : B = g := by simpa [Value.ownBlock] using e'
   have := h.symm.trans hgb
   simp at this
   exact hte this.2.1
end Go.Proofs.Ytldjdcdoegjmoaa
set_option linter.unusedVariables false
set_option linter.unusedSimpArgs false
namespace Go.Proofs.Ytldjdcdoegjmoaa.P
open Go.RowKit Go.Proofs.YtldjdcdoegjmoaaW.PrintWords Go.Proofs.YtldjdcdoegjmoaaW.PrintLast
def atOf (t : TV) : Int := t.2.2.2.2.2.2.2.2.2.2.2.1
def Shaped (t : TV) : Prop := (∃ p c, c ≠ 0 ∧ t = faultV p c) ∨ (atOf t = 0 ∧ codeOf t = 0)
theorem sh_f {p c : Int} (h : c ≠ 0) : Shaped (faultV p c) := .inl ⟨p, c, h, rfl⟩
theorem sh_lit {s : ByteArray} {p : Nat} : ∀ (d : Nat) (acc : List Int) (q : Nat), Shaped (litE s p d acc q)
 | 0, acc, q => sh_f (by decide)
 | d + 1, acc, q => by
   rw [litE]
   split
   · split
     · unfold litEnd; split <;> exact .inr ⟨rfl, rfl⟩
     · split
       · split
         · exact sh_f (by decide)
         · exact sh_lit d _ _
       · exact sh_lit d _ _
   · exact sh_f (by decide)
theorem sh_count {s : ByteArray} {p : Nat} : Shaped (countE s p) := by
 unfold countE
 repeat' split
 all_goals first | exact sh_f (by decide) | exact .inr ⟨rfl, rfl⟩
theorem sh_next (s : ByteArray) (a : Int) : Shaped (nextE s a) := by
 unfold nextE
 split
 · exact sh_f (by decide)
 · split
   · exact sh_f (by decide)
   · unfold tokE
     split
     · split
       · exact .inr ⟨rfl, rfl⟩
       · split
         · unfold wordE; split; exact sh_f (by decide); exact .inr ⟨rfl, rfl⟩
         · split
           · exact .inr ⟨rfl, rfl⟩
           · split
             · exact sh_count
             · split
               · exact sh_lit _ _ _
               · split
                 · unfold classV
                   split
                   · exact .inr ⟨rfl, rfl⟩
                   · next h => exact sh_f h
                 · split
                   · unfold markE
                     split
                     · exact sh_f (by decide)
                     · split
                       · exact sh_f (by decide)
                       · exact .inr ⟨rfl, rfl⟩
                   · exact sh_f (by decide)
     · exact .inr ⟨rfl, rfl⟩
theorem sh_pairs (s : ByteArray) : ∀ (d p : Nat), ∀ t ∈ pairsE s d p, Shaped t
 | 0, p, t, h => by simp [pairsE] at h
 | d + 1, p, t, h => by
   rw [pairsE] at h
   split at h
   · rcases List.mem_cons.1 h with rfl | h
     · exact sh_next _ _
     · exact sh_pairs s d _ t h
   · rw [List.mem_singleton.1 h]; exact sh_next _ _
theorem good_at {t : TV} (h : Shaped t) (hc : codeOf t = 0) : atOf t = 0 := by
 rcases h with ⟨p, c, h1, rfl⟩ | h
 · exact absurd hc h1
 · exact h.1
def goodsE (L : List TV) : List TV := L.filter fun t => codeOf t == 0
def fltE (L : List TV) : Int × Int := match L.getLast? with | some t => (atOf t, codeOf t) | none => (0, 0)
theorem fltE_cons (t : TV) {L : List TV} (h : L ≠ []) : fltE (t :: L) = fltE L := by
 unfold fltE
 cases L with
 | nil => exact absurd rfl h
 | cons a L => rw [List.getLast?_cons_cons]
theorem pairsE_ne (s : ByteArray) (d p : Nat) : pairsE s (d + 1) p ≠ [] := by
 rw [pairsE]
 split <;> simp
theorem pairs_split (s : ByteArray) : ∀ (d p : Nat), p ≤ s.size → s.size < p + d → ∃ L t, pairsE s d p = L ++ [t] ∧ ∀ u ∈ L, codeOf u = 0
 | 0, p, hp, hd => by omega
 | d + 1, p, hp, hd => by
   rw [pairsE]
   split
   · next q =>
     obtain ⟨e, h3, h4, h5⟩ := ends_next hp q.1 q.2
     obtain ⟨L, t, h, hL⟩ := pairs_split s d e h5 (by omega)
     refine ⟨nextE s (p : Int) :: L, t, by rw [h3, Int.toNat_natCast, h]; rfl, fun u hu => ?_⟩
     rcases List.mem_cons.1 hu with rfl | hu
     · exact q.1
     · exact hL u hu
   · exact ⟨[], _, rfl, fun u hu => by simp at hu⟩
theorem filter_all {L : List TV} (h : ∀ u ∈ L, codeOf u = 0) : goodsE L = L := by
 unfold goodsE
 rw [List.filter_eq_self]
 intro u hu
 simp [h u hu]
theorem all_split (s : ByteArray) : ((fltE (allE s 0)).2 = 0 ∧ goodsE (allE s 0) = allE s 0 ∧ ∀ u ∈ allE s 0, codeOf u = 0 ∧ atOf u = 0) ∨
 (∃ L p c, c ≠ 0 ∧ allE s 0 = L ++ [faultV p c] ∧ goodsE (allE s 0) = L ∧ (fltE (allE s 0)) = (p, c) ∧ ∀ u ∈ L, codeOf u = 0 ∧ atOf u = 0) := by
 have hsh : ∀ u ∈ allE s 0, Shaped u := sh_pairs s _ _
 obtain ⟨L, t, h, hL⟩ := pairs_split s (s.size + 1) 0 (Nat.zero_le _) (by omega)
 have h' : allE s 0 = L ++ [t] := h
 rw [h'] at hsh ⊢
 have hf : fltE (L ++ [t]) = (atOf t, codeOf t) := by unfold fltE; simp
 rw [hf]
 rcases hsh t (by simp) with ⟨p, c, hc, rfl⟩ | ⟨h1, h2⟩
 · refine .inr ⟨L, p, c, hc, rfl, ?_, rfl, fun u hu => ⟨hL u hu, good_at (hsh u (by simp [hu])) (hL u hu)⟩⟩
   have e : goodsE (L ++ [faultV p c]) = goodsE L ++ goodsE [faultV p c] := by unfold goodsE; rw [List.filter_append]
   have e2 : goodsE [faultV p c] = [] := by unfold goodsE; simp [code_fault, hc]
   rw [e, filter_all hL, e2, List.append_nil]
 · have hall : ∀ u ∈ L ++ [t], codeOf u = 0 := fun u hu => by
    rcases List.mem_append.1 hu with hu | hu
    · exact hL u hu
    · rw [List.mem_singleton.1 hu]; exact h2
   exact .inl ⟨h2, filter_all hall, fun u hu => ⟨hall u hu, good_at (hsh u hu) (hall u hu)⟩⟩
end Go.Proofs.Ytldjdcdoegjmoaa.P
set_option linter.unusedVariables false
set_option linter.unusedSimpArgs false
namespace Go.Proofs.Ytldjdcdoegjmoaa
open Go.RowKit Go.Shelf
attribute [local go_sem] Oper.semAt_some
abbrev goods (s : ByteArray) : List TV := P.goodsE (P.allE s 0)
abbrev flt1 (s : ByteArray) : Int := (P.fltE (P.allE s 0)).1
abbrev flt2 (s : ByteArray) : Int := (P.fltE (P.allE s 0)).2
theorem refNext_c (s : ByteArray) (hs : s.size ≤ P.bnd) (a : Int) (w : World) : Calls Try.prog 11 #[.string s, .int .i64 a] w fun e w' => e = .returned (.tuple #[tokV (P.nextE s a), fltV (P.nextE s a)]) ∧ Below w.heap.size w w' :=
 P.dowelref04_Next.calls (4 * s.size + 101) s a _ _ _ _ _ _ _ _ _ _ _ _ _ w ((P.refNext_f s hs a _ (by omega)).trans (by rfl))
theorem goods_one {t : TV} (h : P.codeOf t = 0) : P.goodsE [t] = [t] := by unfold P.goodsE; simp [h]
theorem goods_none {t : TV} (h : P.codeOf t ≠ 0) : P.goodsE [t] = [] := by unfold P.goodsE; simp [h]
theorem goods_cons {t : TV} {L : List TV} (h : P.codeOf t = 0) : P.goodsE (t :: L) = t :: P.goodsE L := by unfold P.goodsE; rw [List.filter_cons]; simp [h]
theorem goods_len (s : ByteArray) : (goods s).length ≤ 65537 := Nat.le_trans (List.length_filter_le _ _) (P.allE_len s)
theorem cell_list_new2 (W : World) (a b : Obj) (xs : List Value) (t : TypeId) : ∀ j x, xs[j]? = some x → (((W.alloc a).alloc b).alloc (.cells xs.toArray t)).cell? ((⟨W.heap.size + 1 + 1, 0, none⟩ : Addr).add j) = some x := by
 have h := cell_list_new ((W.alloc a).alloc b) xs t
 simpa using h
def RefTok (w : World) (s : ByteArray) (e : Ending) (w' : World) : Prop := ∃ v, e = .returned (.tuple #[v, .agg #[.int .i64 (flt1 s), .int .i64 (flt2 s)]]) ∧ w'.ownsRow w.heap.size 28 11 v (goods s).length (tcells (goods s)) ∧ Below w.heap.size w w'
theorem refTok_mk {w W : World} {s : ByteArray} {A : List TV} {f1 f2 : Int} {v : Value} (hA : goods s = A) (hf : P.fltE (P.allE s 0) = (f1, f2)) (ho : W.ownsRow w.heap.size 28 11 v A.length (tcells A)) (hB : Below w.heap.size w W) : RefTok w s (.returned (.tuple #[v, .agg #[.int .i64 f1, .int .i64 f2]])) W := by
 refine ⟨v, ?_, by rw [hA]; exact ho, hB⟩
 unfold flt1 flt2
 rw [hf]
theorem row_far {W : World} {k : Nat} {cs : Array Value} {t : TypeId} (h : W.heap[k]? = some (.cells cs t (0, 0))) (ht : t ≠ 28) {base n : Nat} {v : Value} {xs : List Value} (ho : W.ownsRow base 28 11 v n xs) (i : Nat) (u : Value) : (W.setCell ⟨k, i, none⟩ u).ownsRow base 28 11 v n xs :=
 own_other ho fun g o hg he => heap_other (a := ⟨k, i, none⟩) (fun e => not_row2 h ht ho (by rw [he, e])) hg
set_option maxRecDepth 100000 in
set_option maxHeartbeats 4000000 in
theorem refTok_in (n : Nat) (hn : 3 ≤ n) (s : ByteArray) (hs : s.size ≤ P.bnd) (w : World) : CallsIn Fence.wide n Try.prog 26 #[.string s] w (RefTok w s) := by
 have h1 : 1 ≤ n := by omega
 obtain ⟨i0, hi1, hz0, hz1, hz2⟩ := info_parts infoTok
 have hgl := goods_len s
 refine callsIn_of_wp Try.func26 rfl trivial ?_ rfl
 simp only [Try.ntmps26, List.size_toArray, List.length_cons, List.length_nil, Nat.reduceAdd, Nat.reduceSub, Array.replicate_succ, Array.replicate_zero, List.push_toArray, List.append_toArray, List.nil_append, List.cons_append]
 by_cases hbig : s.size > 65536
 · have hb' : (65536 : Int) < (s.size : Int) := by omega
   have e : P.nextE s ((0 : Nat) : Int) = P.faultV 0 1 := by unfold P.nextE; rw [if_pos hbig]
   have e2 : P.allE s 0 = [P.faultV 0 1] := by rw [P.allE_off (by rw [e]; exact fun q => absurd q.1 (by decide)), e]
   have HE := Lib.hid e2
   clear e e2 hbig
   gi_wp2
   refine bodyPost_ret (v := .tuple #[.slice none 0 0, .agg #[.int .i64 0, .int .i64 1]]) (by simp [results, Try.results26, go_sem]) rfl (refTok_mk (A := []) (by rw [goods, HE.out]; exact goods_none (by decide)) (by rw [HE.out]; rfl) (World.ownsRow_nil _ _ _ _) ?_)
   exact (Below.refl _ _).alloc (Nat.le_refl _) _
 · have hb' : ¬ (65536 : Int) < (s.size : Int) := by omega
   gi_wp2
   gi_loopw [4, 5] (fun v4 p wr => ∃ (acc : List TV) (q : Nat), p = .int .i64 (q : Int) ∧ q ≤ s.size ∧ goods s = acc ++ P.goodsE (P.allE s q) ∧ P.fltE (P.allE s 0) = P.fltE (P.allE s q) ∧ wr.ownsRow w.heap.size 28 11 v4 acc.length (tcells acc) ∧ wr.heap[w.heap.size]? = some (.cells #[.int .i64 0, .int .i64 0] 35 (0, 0)) ∧ Below w.heap.size w wr)
    (fun v4 p wr => s.size + 1 - (intOf p).toNat)
   case atStart => exact ⟨[], 0, rfl, Nat.zero_le _, rfl, rfl, World.ownsRow_nil _ _ _ _, heap_new _ _, (Below.refl _ _).alloc (Nat.le_refl _) _⟩
   case round =>
    obtain ⟨acc, q, rfl, hq, hg, hfl, hrow, hf0, hB⟩ := hrel
    have hn' := fun W => refNext_c s hs (q : Int) W
    have hsh := P.sh_next s (q : Int)
    obtain ⟨⟨k1, k2, k3, k4, k5, k6, k7, k8, k9, k10, k11, k12, k13⟩, ht⟩ : ∃ t, t = P.nextE s (q : Int) := ⟨_, rfl⟩
    rw [← ht] at hn' hsh
    unfold tokV fltV at hn'
    dsimp only at hn'
    have hal : acc.length ≤ 65537 := by rw [hg, List.length_append] at hgl; omega
    obtain ⟨A, c, rfl⟩ := own_form hrow
    have HN := Lib.hid hn'; have HT := Lib.hid ht; have HG := Lib.hid hg; have HFL := Lib.hid hfl; have HR := Lib.hid hrow; have HF0 := Lib.hid hf0; have HB := Lib.hid hB; have HSH := Lib.hid hsh
    clear hn' ht hg hfl hrow hf0 hB hsh
    have hbz := HB.out.size
    have hltw := heap_lt HF0.out
    by_cases hc : k13 = 0
    · subst hc
      have hc0 : P.codeOf (P.nextE s (q : Int)) = 0 := by rw [← HT.out]; rfl
      have h12 : k12 = 0 := P.good_at HSH.out rfl
      subst h12
      have HC0 := Lib.hid hc0; clear hc0
      by_cases hd : k1 = 0
      · subst hd
        have hall : P.allE s q = [((0, k2, k3, k4, k5, k6, k7, k8, k9, k10, k11, 0, 0) : TV)] := by rw [P.allE_off (fun h => by rw [← HT.out] at h; exact h.2 rfl), ← HT.out]
        have HA := Lib.hid hall; clear hall
        gi_wp2_with (first | (refine ⟨trivial, ?_⟩; gi_at_call 11; refine (callsIn_wide.2 (HN.out _)).mono ?_; rintro e w2 ⟨rfl, hb2⟩; replace HR := Lib.hid (own_below HR.out hb2); replace HF0 := Lib.hid (heap_same hb2 HF0.out); replace HB := Lib.hid (HB.out.trans (hb2.mono hbz)); clear hb2; have hbz2 := HB.out.size; have hltw2 := heap_lt HF0.out) | (gi_at_builtin; refine wpListIn_append_new _ rfl _ _ 45 rfl w.heap.size 28 i0 (.agg #[.int .i64 0, .int .i64 0, .int .i64 0, .string ⟨#[]⟩, .bool false, .int .u64 0, .int .u64 0, .int .u64 0, .int .u64 0, .int .i64 0, .int .i64 0]) 11 96 Try.underlying45 hi1 hz0 hz1 hz2 rfl (by decide) _ _ _ rfl (((HR.out.alloc _).alloc _).alloc _) ⟨w2.heap.size + 1 + 1, 0, none⟩ 1 1 [.int .i64 0, .int .i64 k2, .int .i64 k3, .string k4, .bool k5, .int .u64 k6, .int .u64 k7, .int .u64 k8, .int .u64 k9, .int .i64 k10, .int .i64 k11] rfl rfl (cell_list_new2 _ _ _ _ _) (by simp [Value.oneCell']) (by decide) (by unfold maxLen; omega) (by omega) (by simp; omega) ?_; intro v' w1 hown' hgrow hfr; have hT1 := (hgrow.block w2.heap.size (by simp; omega) (fun e => by have := (HR.out.lt _ e.symm).2; omega)).trans (heap_keep (heap_keep (heap_new w2 (.cells #[.int .i64 0, .int .i64 k2, .int .i64 k3, .string k4, .bool k5, .int .u64 k6, .int .u64 k7, .int .u64 k8, .int .u64 k9, .int .i64 k10, .int .i64 k11] 28)))); obtain ⟨a0, a1, a2, a3, a4, a5, a6, a7, a8, a9, a10⟩ := eleven_cells hT1; have hF1 := (hgrow.block w.heap.size (by simp; omega) (not_row2 HF0.out (by decide) HR.out)).trans (heap_keep (heap_keep (heap_keep HF0.out))); obtain ⟨b0, b1, d0, d1⟩ := two_cells hF1; have hB1 := (((HB.out.alloc hbz2 (.cells #[.int .i64 0, .int .i64 k2, .int .i64 k3, .string k4, .bool k5, .int .u64 k6, .int .u64 k7, .int .u64 k8, .int .u64 k9, .int .i64 k10, .int .i64 k11] 28)).alloc (by simp; omega) (.cells #[.int .i64 0, .int .i64 0] 35)).alloc (by simp; omega) (.cells #[.int .i64 0, .int .i64 k2, .int .i64 k3, .string k4, .bool k5, .int .u64 k6, .int .u64 k7, .int .u64 k8, .int .u64 k9, .int .i64 k10, .int .i64 k11] 28)).grown hgrow (by simp; omega) (fun j e => (HR.out.lt _ e).1); obtain ⟨g', cap', rfl⟩ := ownsRow_succ hown'; have HW := Lib.hid hown'; have HF1 := Lib.hid hF1; have HB1 := Lib.hid hB1; clear hown' hgrow hfr hT1 hF1 hB1))
        obtain ⟨x0, x1, _, _⟩ := two_cells (show ((w1.setCell ⟨w.heap.size, 0, none⟩ (.int .i64 0)).setCell ⟨w.heap.size, 1, none⟩ (.int .i64 0)).heap[w.heap.size]? = some (.cells #[.int .i64 0, .int .i64 0] 35 (0, 0)) from heap_put (i := 1) (heap_put (i := 0) HF1.out))
        refine bodyPost_ret (v := .tuple #[.slice (some ⟨g', 0, none⟩) (acc.length + 1) cap', .agg #[.int .i64 0, .int .i64 0]]) (by simp [results, Try.results26, go_sem, x0, x1]) rfl (refTok_mk (A := acc ++ [((0, k2, k3, k4, k5, k6, k7, k8, k9, k10, k11, 0, 0) : TV)]) (by rw [HG.out, HA.out, goods_one rfl]) (by rw [HFL.out, HA.out]; rfl) ?_ ?_)
        · have h := row_far (heap_put (i := 0) (v := .int .i64 0) HF1.out) (by decide) (row_far HF1.out (by decide) HW.out 0 (.int .i64 0)) 1 (.int .i64 0)
          rw [List.length_append, tcells_snoc]
          exact h
        · exact (HB1.out.setCell (by dsimp only; omega) _).setCell (by dsimp only; omega) _
      · have hd' : (k1 == 0) = false := by rw [beq_eq_false_iff_ne]; exact hd
        have HD := Lib.hid hd; clear hd
        obtain ⟨e, he1, he2, he3, he4⟩ := P.allE_on hq HC0.out (show P.kindOf (P.nextE s (q : Int)) ≠ 0 from by rw [← HT.out]; exact HD.out)
        have hke : k3 = (e : Int) := by rw [← he1, ← HT.out]; rfl
        subst hke
        rw [← HT.out] at he4
        have HE4 := Lib.hid he4; clear he1 he4
        gi_wp2_with (first | (refine ⟨trivial, ?_⟩; gi_at_call 11; refine (callsIn_wide.2 (HN.out _)).mono ?_; rintro e w2 ⟨rfl, hb2⟩; replace HR := Lib.hid (own_below HR.out hb2); replace HF0 := Lib.hid (heap_same hb2 HF0.out); replace HB := Lib.hid (HB.out.trans (hb2.mono hbz)); clear hb2; have hbz2 := HB.out.size; have hltw2 := heap_lt HF0.out) | (gi_at_builtin; refine wpListIn_append_new _ rfl _ _ 45 rfl w.heap.size 28 i0 (.agg #[.int .i64 0, .int .i64 0, .int .i64 0, .string ⟨#[]⟩, .bool false, .int .u64 0, .int .u64 0, .int .u64 0, .int .u64 0, .int .i64 0, .int .i64 0]) 11 96 Try.underlying45 hi1 hz0 hz1 hz2 rfl (by decide) _ _ _ rfl (((HR.out.alloc _).alloc _).alloc _) ⟨w2.heap.size + 1 + 1, 0, none⟩ 1 1 [.int .i64 k1, .int .i64 k2, .int .i64 (e : Int), .string k4, .bool k5, .int .u64 k6, .int .u64 k7, .int .u64 k8, .int .u64 k9, .int .i64 k10, .int .i64 k11] rfl rfl (cell_list_new2 _ _ _ _ _) (by simp [Value.oneCell']) (by decide) (by unfold maxLen; omega) (by omega) (by simp; omega) ?_; intro v' w1 hown' hgrow hfr; have hT1 := (hgrow.block w2.heap.size (by simp; omega) (fun e => by have := (HR.out.lt _ e.symm).2; omega)).trans (heap_keep (heap_keep (heap_new w2 (.cells #[.int .i64 k1, .int .i64 k2, .int .i64 (e : Int), .string k4, .bool k5, .int .u64 k6, .int .u64 k7, .int .u64 k8, .int .u64 k9, .int .i64 k10, .int .i64 k11] 28)))); obtain ⟨a0, a1, a2, a3, a4, a5, a6, a7, a8, a9, a10⟩ := eleven_cells hT1; have hF1 := (hgrow.block w.heap.size (by simp; omega) (not_row2 HF0.out (by decide) HR.out)).trans (heap_keep (heap_keep (heap_keep HF0.out))); obtain ⟨b0, b1, d0, d1⟩ := two_cells hF1; have hB1 := (((HB.out.alloc hbz2 (.cells #[.int .i64 k1, .int .i64 k2, .int .i64 (e : Int), .string k4, .bool k5, .int .u64 k6, .int .u64 k7, .int .u64 k8, .int .u64 k9, .int .i64 k10, .int .i64 k11] 28)).alloc (by simp; omega) (.cells #[.int .i64 0, .int .i64 0] 35)).alloc (by simp; omega) (.cells #[.int .i64 k1, .int .i64 k2, .int .i64 (e : Int), .string k4, .bool k5, .int .u64 k6, .int .u64 k7, .int .u64 k8, .int .u64 k9, .int .i64 k10, .int .i64 k11] 28)).grown hgrow (by simp; omega) (fun j e => (HR.out.lt _ e).1); obtain ⟨g', cap', rfl⟩ := ownsRow_succ hown'; have HW := Lib.hid hown'; have HF1 := Lib.hid hF1; have HB1 := Lib.hid hB1; clear hown' hgrow hfr hT1 hF1 hB1))
        go_roundw
        case rel =>
         refine ⟨acc ++ [((k1, k2, (e : Int), k4, k5, k6, k7, k8, k9, k10, k11, 0, 0) : TV)], e, rfl, he3, ?_, ?_, ?_, HF1.out, HB1.out⟩
         · rw [HG.out, HE4.out, goods_cons rfl]; simp
         · rw [HFL.out, HE4.out, P.fltE_cons (L := P.allE s e) _ (P.pairsE_ne s s.size e)]
         · rw [List.length_append, tcells_snoc]; exact HW.out
        case measure => simp [intOf]; omega
    · have hc' : (k13 == 0) = false := by rw [beq_eq_false_iff_ne]; exact hc
      have hall : P.allE s q = [((k1, k2, k3, k4, k5, k6, k7, k8, k9, k10, k11, k12, k13) : TV)] := by rw [P.allE_off (fun h => by rw [← HT.out] at h; exact hc h.1), ← HT.out]
      have HA := Lib.hid hall; clear hall
      have HC := Lib.hid hc; clear hc
      gi_wp2_with (refine ⟨trivial, ?_⟩; gi_at_call 11; refine (callsIn_wide.2 (HN.out _)).mono ?_; rintro e w2 ⟨rfl, hb2⟩; replace HR := Lib.hid (own_below HR.out hb2); replace HF0 := Lib.hid (heap_same hb2 HF0.out); replace HB := Lib.hid (HB.out.trans (hb2.mono hbz)); clear hb2; have hbz2 := HB.out.size; have hltw2 := heap_lt HF0.out)
      have hm : Try.prog.follows .mixedOrders = true := by kernel_rfl
      have hF9 : ((w2.alloc (.cells #[.int .i64 k1, .int .i64 k2, .int .i64 k3, .string k4, .bool k5, .int .u64 k6, .int .u64 k7, .int .u64 k8, .int .u64 k9, .int .i64 k10, .int .i64 k11] 28)).alloc (.cells #[.int .i64 k12, .int .i64 k13] 35)).heap[w.heap.size]? = some (.cells #[.int .i64 0, .int .i64 0] 35 (0, 0)) := heap_keep (heap_keep HF0.out)
      have hG9 : ((w2.alloc (.cells #[.int .i64 k1, .int .i64 k2, .int .i64 k3, .string k4, .bool k5, .int .u64 k6, .int .u64 k7, .int .u64 k8, .int .u64 k9, .int .i64 k10, .int .i64 k11] 28)).alloc (.cells #[.int .i64 k12, .int .i64 k13] 35)).heap[w2.heap.size + 1]? = some (.cells #[.int .i64 k12, .int .i64 k13] 35 (0, 0)) := heap_new1 _ _ _
      have hB9 : Below w.heap.size w ((w2.alloc (.cells #[.int .i64 k1, .int .i64 k2, .int .i64 k3, .string k4, .bool k5, .int .u64 k6, .int .u64 k7, .int .u64 k8, .int .u64 k9, .int .i64 k10, .int .i64 k11] 28)).alloc (.cells #[.int .i64 k12, .int .i64 k13] 35)) := (HB.out.alloc hbz2 _).alloc (by simp; omega) _
      have hR9 : ((w2.alloc (.cells #[.int .i64 k1, .int .i64 k2, .int .i64 k3, .string k4, .bool k5, .int .u64 k6, .int .u64 k7, .int .u64 k8, .int .u64 k9, .int .i64 k10, .int .i64 k11] 28)).alloc (.cells #[.int .i64 k12, .int .i64 k13] 35)).ownsRow w.heap.size 28 11 (.slice A acc.length c) acc.length (tcells acc) := (HR.out.alloc _).alloc _
      generalize ((w2.alloc (.cells #[.int .i64 k1, .int .i64 k2, .int .i64 k3, .string k4, .bool k5, .int .u64 k6, .int .u64 k7, .int .u64 k8, .int .u64 k9, .int .i64 k10, .int .i64 k11] 28)).alloc (.cells #[.int .i64 k12, .int .i64 k13] 35)) = W9 at hF9 hG9 hB9 hR9 ⊢
      obtain ⟨b0, b1, d0, d1⟩ := two_cells hF9
      obtain ⟨p0, p1, e0, e1⟩ := two_cells hG9
      have HF9 := Lib.hid hF9; have HB9 := Lib.hid hB9; have HR9 := Lib.hid hR9
      clear hF9 hG9 hB9 hR9
      gi_region_o
      all_goals gi_wp2
      all_goals
       obtain ⟨x0, x1, _, _⟩ := two_cells (show ((W9.setCell ⟨w.heap.size, 0, none⟩ (.int .i64 k12)).setCell ⟨w.heap.size, 1, none⟩ (.int .i64 k13)).heap[w.heap.size]? = some (.cells #[.int .i64 k12, .int .i64 k13] 35 (0, 0)) from heap_put (i := 1) (heap_put (i := 0) HF9.out))
       refine bodyPost_ret (v := .tuple #[.slice A acc.length c, .agg #[.int .i64 k12, .int .i64 k13]]) (by simp [results, Try.results26, go_sem, x0, x1]) rfl (refTok_mk (A := acc) (by rw [HG.out, HA.out, goods_none (show P.codeOf (k1, k2, k3, k4, k5, k6, k7, k8, k9, k10, k11, k12, k13) ≠ 0 from HC.out), List.append_nil]) (by rw [HFL.out, HA.out]; rfl) ?_ ?_)
       · exact own_other (row_far (heap_put (i := 0) (v := .int .i64 k12) HF9.out) (by decide) (row_far HF9.out (by decide) HR9.out 0 (.int .i64 k12)) 1 (.int .i64 k13)) fun g o hg _ => hg
       · exact ((HB9.out.setCell (by dsimp only; omega) _).setCell (by dsimp only; omega) _).drew
theorem tcells_at : ∀ (L : List TV) (i : Nat) (t : TV), L[i]? = some t → ∀ j v, (tvals t)[j]? = some v → (tcells L)[i * 11 + j]? = some v
 | [], i, t, h, j, v, hj => by simp at h
 | a :: L, 0, t, h, j, v, hj => by
   obtain rfl : a = t := by simpa using h
   have hl : j < (tvals a).length := (List.getElem?_eq_some_iff.1 hj).1
   have e : tcells (a :: L) = tvals a ++ tcells L := rfl
   rw [e, Nat.zero_mul, Nat.zero_add, List.getElem?_append_left hl]; exact hj
 | a :: L, i + 1, t, h, j, v, hj => by
   have ih := tcells_at L i t (by simpa using h) j v hj
   have e : tcells (a :: L) = tvals a ++ tcells L := rfl
   rw [e, List.getElem?_append_right (by show 11 ≤ _; omega), ← ih]
   congr 1
   show (i + 1) * 11 + j - 11 = _
   omega
end Go.Proofs.Ytldjdcdoegjmoaa
set_option linter.unusedVariables false
set_option linter.unusedSimpArgs false
namespace Go.Proofs.Ytldjdcdoegjmoaa
section
variable {F : Fence} {n : Nat} {P : Program} {ops : Array Oper} {Q : Exit → Act → World → Prop}
end
end Go.Proofs.Ytldjdcdoegjmoaa
