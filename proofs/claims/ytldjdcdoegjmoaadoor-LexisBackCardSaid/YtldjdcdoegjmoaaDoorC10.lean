import Derived.Deep.AppendLies
import Derived.Laws.AppendOwn
import Derived.LoopIn
import Derived.LoopNIn
import Derived.OwnWalkIn
import Derived.RangeFuncBound
import Derived.RangeFuncBox
import Derived.RangeFuncCalls
import Derived.RangeFuncLeaves
import Derived.RangeFuncNested
import Derived.Shelf.Abstract
import Derived.TacticsInMore
import Derived.Test.YtldjdcdoegjmoaaDoorProg
import Derived.WalkKit
import Derived.Test.YtldjdcdoegjmoaaDoorC9
set_option linter.unusedVariables false
set_option linter.unusedSimpArgs false
namespace Go.Proofs.YtldjdcdoegjmoaaDoor
def dstOf (ops : Array Oper) (i : Nat) : Option Tmp := (ops[i]?).bind (·.dst)
def written (ops : Array Oper) (t : Tmp) : Bool := (List.range ops.size).any fun i => dstOf ops i == some t
/-- The values laid into their slots, in the text's order. -/
def putAll (ops : Array Oper) (f : Nat → Value) (a : Act) : Nat → Act
  | 0 => a
  | n + 1 => (putAll ops f a n).put (dstOf ops n) (f n)
section
variable {P : Program} {ops : Array Oper} {Q : Exit → Act → World → Prop}
/-- What an operation may lean on: the slots that it waits for, and those that the region leaves alone. -/
def Leans (ops : Array Oper) (V : Nat → Value → Prop) (a0 : Act) (o : Oper) (a : Act) : Prop :=
  (∀ e ∈ o.after, Region.binds .any e = true → ∀ t, dstOf ops e.on = some t → ∃ v, a.tmps[t]? = some v ∧ V e.on v) ∧ (∀ t, written ops t = false → a.tmps[t]? = a0.tmps[t]?)
theorem Leans.free {V : Nat → Value → Prop} {a0 : Act} {o : Oper} {a : Act} (h : Leans ops V a0 o a) (t : Tmp) (ht : written ops t = false) : a.tmps[t]?.getD undef = a0.tmps[t]?.getD undef := by
  rw [h.2 t ht]
theorem Leans.wanted {V : Nat → Value → Prop} {a0 : Act} {o : Oper} {a : Act} (h : Leans ops V a0 o a) (j : Nat) (t : Tmp) (b : Bool) (hg : o.guard = some (j, b)) (hj : (o.after.any fun e => e.on == j && Region.binds .any e) = true) (ht : dstOf ops j = some t) (hv : ∀ v, V j v → v = .bool b) : Region.wanted o (yielded ops a.tmps) = true := by
  rw [← Array.any_toList, List.any_eq_true] at hj
  obtain ⟨e, he, hh⟩ := hj
  have he := Array.mem_toList_iff.1 he
  simp only [Bool.and_eq_true, beq_iff_eq] at hh
  obtain ⟨rfl, hb⟩ := hh
  obtain ⟨v, h1, h2⟩ := h.1 e he hb t ht
  have := hv v h2
  subst this
  unfold Region.wanted yielded
  unfold dstOf at ht
  rw [hg]
  dsimp only
  rw [ht]
  simp [h1]
end
end Go.Proofs.YtldjdcdoegjmoaaDoor
set_option linter.unusedVariables false
set_option linter.unusedSimpArgs false
namespace Go.Proofs.YtldjdcdoegjmoaaDoor
open Go.RowKit
theorem below_setA {B : Nat} {w w' : World} (h : Below B w w') (a : Addr) (v : Value) (ha : B ≤ a.block) : Below B w (w'.setCell a v) := h.setCell ha v
theorem below_drewN' {B : Nat} {w w' : World} {n : Nat} (h : Below B w w') : Below B w (w'.drewN n) := below_drewN h _
theorem below_allocs {w w' : World} (h : Below w.heap.size w w') (o : Obj) : Below w.heap.size w (w'.alloc o) := h.alloc h.size o
end Go.Proofs.YtldjdcdoegjmoaaDoor
set_option linter.unusedVariables false
set_option linter.unusedSimpArgs false
namespace Go.Proofs.YtldjdcdoegjmoaaDoor
open Go.RowKit
def Parsed (r : Cls × Nat × Nat × Nat) (w : World) (e : Ending) (w' : World) : Prop := e = .returned (parseV r) ∧ Below w.heap.size w w'
theorem prs_mk {r q : Cls × Nat × Nat × Nat} {w w' : World} {a b c d : Int} (hr : r = q) (ha : a = q.1.c0) (hb : b = q.1.c1) (hc : c = q.1.c2) (hd : d = q.1.c3) {n x y : Int} (hn : n = q.2.1) (hx : x = q.2.2.1) (hy : y = q.2.2.2) (h : Below w.heap.size w w') :
    Parsed r w (.returned (.tuple #[.agg #[.int .u64 a, .int .u64 b, .int .u64 c, .int .u64 d], .int .i64 n, .agg #[.int .i64 x, .int .i64 y]])) w' := by
  subst hr ha hb hc hd hn hx hy; exact ⟨rfl, h⟩
theorem parseI_out {s : ByteArray} {n : Int} (h : n < 0 ∨ (s.size : Int) < n) : parseI s n = (Cls.none, 0, 0, 5) := if_pos h
theorem parseF_no {s : ByteArray} {p : Nat} (h : ¬ (p < s.size ∧ bat s p = 91)) : parseF s p = (Cls.none, 0, p, 30) := if_neg h
theorem parseF_bad {s : ByteArray} {p q0 m pl c : Nat} {L : List (Nat × Nat)} (h : p < s.size ∧ bat s p = 91) (hq : q0 = if p + 1 < s.size ∧ bat s (p + 1) = 94 then p + 1 + 1 else p + 1) (hT : itemsF s p (s.size + 1) q0 [] = (L, m, pl, c)) (hc : c ≠ 0) :
    parseF s p = (Cls.none, 0, pl, c) := by
  unfold parseF
  rw [if_pos h]
  dsimp only
  rw [← hq, hT]
  exact if_neg hc
theorem parseF_good {s : ByteArray} {p q0 m : Nat} {L : List (Nat × Nat)} {o : Bool} (h : p < s.size ∧ bat s p = 91) (ho : o = decide (p + 1 < s.size ∧ bat s (p + 1) = 94)) (hq : q0 = if p + 1 < s.size ∧ bat s (p + 1) = 94 then p + 1 + 1 else p + 1) (hT : itemsF s p (s.size + 1) q0 [] = (L, m, 0, 0)) :
    parseF s p = (if o then (Cls.ofFn (inRanges L)).not else Cls.ofFn (inRanges L), m, 0, 0) := by
  unfold parseF
  rw [if_pos h]
  dsimp only
  rw [← hq, hT, ho]
  simp
theorem itemsF_step {s : ByteArray} {b k q : Nat} {l : List (Nat × Nat)} {x y r pl : Nat} (h : ¬ (q < s.size ∧ bat s q = 93)) (hi : itemF s b q = (x, y, r, pl, 0)) : itemsF s b (k + 1) q l = itemsF s b k r (l ++ [(x, y)]) := by
  rw [itemsF, if_neg h, hi]; rfl
theorem itemsF_bad {s : ByteArray} {b k q : Nat} {l : List (Nat × Nat)} {x y r pl c : Nat} (h : ¬ (q < s.size ∧ bat s q = 93)) (hi : itemF s b q = (x, y, r, pl, c)) (hc : c ≠ 0) : itemsF s b (k + 1) q l = ([], 0, pl, c) := by
  rw [itemsF, if_neg h, hi]; exact if_neg hc
theorem itemsF_end {s : ByteArray} {b k q : Nat} {l : List (Nat × Nat)} (h : q < s.size ∧ bat s q = 93) : itemsF s b (k + 1) q l = (l, q + 1, 0, 0) := by rw [itemsF, if_pos h]
theorem four_cells {w : World} {k : Nat} {u v x y : Value} {t : TypeId} (h : w.heap[k]? = some (.cells #[u, v, x, y] t (0, 0))) : (w.cell? ⟨k, 0, none⟩ = some u ∧ w.cell? ⟨k, 1, none⟩ = some v ∧ w.cell? ⟨k, 2, none⟩ = some x ∧ w.cell? ⟨k, 3, none⟩ = some y) ∧ (w.frozen? ⟨k, 0, none⟩ = false ∧ w.frozen? ⟨k, 1, none⟩ = false ∧ w.frozen? ⟨k, 2, none⟩ = false ∧ w.frozen? ⟨k, 3, none⟩ = false) :=
  ⟨⟨by rw [cell_of_row _ _ _ _ _ _ h]; rfl, by rw [cell_of_row _ _ _ _ _ _ h]; rfl, by rw [cell_of_row _ _ _ _ _ _ h]; rfl, by rw [cell_of_row _ _ _ _ _ _ h]; rfl⟩, frozen_of_row _ _ _ _ _ h, frozen_of_row _ _ _ _ _ h, frozen_of_row _ _ _ _ _ h, frozen_of_row _ _ _ _ _ h⟩
def setFour (w : World) (k : Nat) (x0 x1 x2 x3 : Value) : World := (((w.setCell ⟨k, 0, none⟩ x0).setCell ⟨k, 1, none⟩ x1).setCell ⟨k, 2, none⟩ x2).setCell ⟨k, 3, none⟩ x3
theorem set_four {w : World} {k : Nat} {a b c d x0 x1 x2 x3 : Value} {t : TypeId} (h : w.heap[k]? = some (.cells #[a, b, c, d] t (0, 0))) : (setFour w k x0 x1 x2 x3).heap[k]? = some (.cells #[x0, x1, x2, x3] t (0, 0)) := heap_put (heap_put (heap_put (heap_put h)))
theorem four_other {w : World} {k j : Nat} {x0 x1 x2 x3 : Value} {o : Obj} (hne : j ≠ k) (h : w.heap[j]? = some o) : (setFour w k x0 x1 x2 x3).heap[j]? = some o := heap_other hne (heap_other hne (heap_other hne (heap_other hne h)))
def smallN : Nat := 70368744175616
theorem small_big {s : ByteArray} (h : s.size ≤ smallN) : s.size ≤ bigN := by unfold smallN at h; unfold bigN; omega
set_option maxRecDepth 100000 in
set_option maxHeartbeats 1000000 in
theorem parse_c (s : ByteArray) (hs : s.size ≤ smallN) (n : Int) (hn : -9223372036854775808 ≤ n ∧ n ≤ 9223372036854775807) (w : World) : Calls Tryd.prog 54 #[.string s, .int .i64 n] w (Parsed (parseI s n) w) := by
  have hsb := small_big hs
  unfold smallN at hs
  by_cases hout : n < 0 ∨ (s.size : Int) < n
  · have HF := Lib.hid (parseI_out hout)
    go_enter Tryd.func54, Tryd.ntmps54
    rcases hout with h | h
    · go_wp2
      refine bodyPost_ret (v := .tuple #[.agg #[.int .u64 0, .int .u64 0, .int .u64 0, .int .u64 0], .int .i64 0, .agg #[.int .i64 0, .int .i64 5]]) (by simp [results, Tryd.results54, go_sem]) rfl (prs_mk HF.out rfl rfl rfl rfl rfl rfl rfl ?_)
      (repeat (first | with_reducible exact Below.refl _ _ | with_reducible apply below_drewN' | with_reducible apply below_drew | with_reducible apply below_allocs | (with_reducible refine below_setA ?_ _ _ (by dsimp only; omega))))
    · have h' : ¬ n < 0 := by omega
      go_wp2
      refine bodyPost_ret (v := .tuple #[.agg #[.int .u64 0, .int .u64 0, .int .u64 0, .int .u64 0], .int .i64 0, .agg #[.int .i64 0, .int .i64 5]]) (by simp [results, Tryd.results54, go_sem]) rfl (prs_mk HF.out rfl rfl rfl rfl rfl rfl rfl ?_)
      (repeat (first | with_reducible exact Below.refl _ _ | with_reducible apply below_drewN' | with_reducible apply below_drew | with_reducible apply below_allocs | (with_reducible refine below_setA ?_ _ _ (by dsimp only; omega))))
  · obtain ⟨p, rfl⟩ : ∃ p : Nat, n = (p : Int) := ⟨n.toNat, by omega⟩
    have hp : p ≤ s.size := by omega
    have hI : parseI s (p : Int) = parseF s p := if_neg hout
    have hb := bat_eq s p
    by_cases h91 : p < s.size ∧ bat s p = 91
    · obtain ⟨hlt, h9⟩ := h91
      have hb' := hb hlt
      have hz0 : (0 : Int) ≤ (p : Int) ∧ (p : Int) < (s.size : Int) := ⟨by omega, by omega⟩
      go_enter Tryd.func54, Tryd.ntmps54
      obtain ⟨o, ho⟩ : ∃ o : Bool, o = decide (p + 1 < s.size ∧ bat s (p + 1) = 94) := ⟨_, rfl⟩
      obtain ⟨q0, hq0⟩ : ∃ q0 : Nat, q0 = if p + 1 < s.size ∧ bat s (p + 1) = 94 then p + 1 + 1 else p + 1 := ⟨_, rfl⟩
      have hq0' : q0 ≤ s.size := by rw [hq0]; split <;> omega
      have HO := Lib.hid ho; have HQ := Lib.hid hq0; clear ho hq0
      go_wp2_with (go_at_call 77; refine (skip_c s hsb p (p + 1) (w.heap.size + 2) 94 (by decide) (by omega) _ (heap_new2 _ _ _ _)).mono ?_; rintro e w1 ⟨rfl, hgb, hr⟩; rw [← HO.out]; rw [← HQ.out] at hr)
      have hz1 := gb_heap (k := w.heap.size) (o := .cells #[.int .u64 0, .int .u64 0, .int .u64 0, .int .u64 0] 24 (0, 0)) hgb (heap_keep (heap_keep (heap_new _ _))) (by omega)
      have hz2 := gb_heap (k := w.heap.size + 1) (o := .cells #[.int .i64 0, .int .i64 0] 41 (0, 0)) hgb (heap_keep (heap_new1 _ _ _)) (by omega)
      have hB1 : Below w.heap.size w w1 := Below.grown (by (repeat (first | with_reducible exact Below.refl _ _ | with_reducible apply below_drewN' | with_reducible apply below_drew | with_reducible apply below_allocs | (with_reducible refine below_setA ?_ _ _ (by dsimp only; omega))))) hgb (by simp only [World.size_alloc]; omega) (fun k hk => by cases hk; omega)
      have Z1 := Lib.hid hz1; have Z2 := Lib.hid hz2; have HR := Lib.hid hr; have HB1 := Lib.hid hB1; clear hz1 hz2 hr hB1
      have HI := Lib.hid hI; clear hI
      obtain ⟨T, hT⟩ : ∃ T, T = itemsF s p (s.size + 1) q0 [] := ⟨_, rfl⟩
      have HT := Lib.hid hT; clear hT
      go_loopw [9] (fun v wr => ∃ (k q : Nat) (l : List (Nat × Nat)), wr.ownsRow w.heap.size 83 2 v l.length (rcells l) ∧ lenOf v = l.length ∧ (∀ x ∈ l, x.1 < 256 ∧ x.2 < 256) ∧ l.length ≤ q ∧ q ≤ s.size ∧ s.size < q + k ∧ itemsF s p k q l = T ∧
          RdAt wr (w.heap.size + 2) s p q ∧ Below w.heap.size w wr ∧ wr.heap[w.heap.size]? = some (.cells #[.int .u64 0, .int .u64 0, .int .u64 0, .int .u64 0] 24 (0, 0)) ∧ wr.heap[w.heap.size + 1]? = some (.cells #[.int .i64 0, .int .i64 0] 41 (0, 0))) (fun v _ => s.size + 1 - lenOf v)
      case atStart => exact ⟨s.size + 1, q0, [], World.ownsRow_nil _ _ _ _, rfl, by simp, by simp, hq0', by omega, HT.out.symm, HR.out, HB1.out, Z1.out, Z2.out⟩
      case round =>
        obtain ⟨k, q, l, hO, hl, hby, hlq, hqs, hk, hE, hR, hB, h1, h2⟩ := hrel
        have hg2 : w.heap.size + 2 < wr.heap.size := heap_lt hR
        have hne := own_ne hO hR (by decide)
        obtain ⟨wo, rfl⟩ : ∃ wo : World, wo = wr := ⟨_, rfl⟩
        have hO1 := hO.1
        have EO := Lib.hid hO; have EL := Lib.hid hl; have EB := Lib.hid hby; have ER := Lib.hid hR; have EW := Lib.hid hB; have E1 := Lib.hid h1; have E2 := Lib.hid h2; have EE := Lib.hid hE; have EN := Lib.hid hne
        clear hO hl hby hR hB h1 h2 hE hne hO1
        by_cases d : q < s.size ∧ bat s q = 93
        · obtain ⟨k', rfl⟩ : ∃ k', k = k' + 1 := ⟨k - 1, by omega⟩
          have ET := Lib.hid ((HT.out.symm.trans EE.out.symm).trans (itemsF_end d))
          have HF := Lib.hid (HI.out.trans (parseF_good ⟨hlt, h9⟩ HO.out HQ.out ET.out))
          cases o
          · go_wp2_with (first | (go_at_call 79; refine (of_c A l.length cap l _ RD.out).mono ?_; rintro e w3 ⟨rfl, hb3⟩; unfold V4; have hz3 := hb3.size; have B3 := Lib.hid (B2.out.trans (hb3.mono B2.out.size)); have g1 := heap_same hb3 G1.out; have g2 := heap_same hb3 G2.out; have r3 : RdAt w3 (w.heap.size + 2) s p (q + 1) := heap_same hb3 R2.out; have hlt2 := heap_lt R2.out; clear hb3) | (go_at_call 77; refine (skip_c s hsb p q (w.heap.size + 2) 93 (by decide) hqs _ ER.out).mono ?_; rintro e w2 ⟨he, hgb2, hr2⟩; rw [decide_eq_true d] at he; rw [if_pos d] at hr2; subst he; have hz2 := hgb2.size; obtain ⟨A, cap, hv, hrd⟩ := own_ranges (EO.out.kept hgb2 (.inr EN.out)) (by omega) EB.out; subst hv; have g1 := gb_heap hgb2 E1.out (by omega); have g2 := gb_heap hgb2 E2.out (by omega); have hB2 := Below.grown EW.out hgb2 (by have := heap_lt ER.out; omega) (fun k hk => by cases hk; omega); have G1 := Lib.hid g1; have G2 := Lib.hid g2; have R2 := Lib.hid hr2; have RD := Lib.hid hrd; have B2 := Lib.hid hB2; clear g1 g2 hr2 hrd hB2))
            have g3 := heap_keep (o := .cells #[.int .u64 ((Cls.ofFn (inRanges l)).c0 : Int), .int .u64 ((Cls.ofFn (inRanges l)).c1 : Int), .int .u64 ((Cls.ofFn (inRanges l)).c2 : Int), .int .u64 ((Cls.ofFn (inRanges l)).c3 : Int)] 24 (0, 0)) g1
            have g4 := heap_keep (o := .cells #[.int .u64 ((Cls.ofFn (inRanges l)).c0 : Int), .int .u64 ((Cls.ofFn (inRanges l)).c1 : Int), .int .u64 ((Cls.ofFn (inRanges l)).c2 : Int), .int .u64 ((Cls.ofFn (inRanges l)).c3 : Int)] 24 (0, 0)) g2
            have r4 := r3.alloc (.cells #[.int .u64 ((Cls.ofFn (inRanges l)).c0 : Int), .int .u64 ((Cls.ofFn (inRanges l)).c1 : Int), .int .u64 ((Cls.ofFn (inRanges l)).c2 : Int), .int .u64 ((Cls.ofFn (inRanges l)).c3 : Int)] 24 (0, 0))
            obtain ⟨⟨c0, c1, c2, c3⟩, c4, c5, c6, c7⟩ := four_cells g3
            obtain ⟨d0, d1, d2, d3⟩ := two_cells g4
            have d4 := r4.c2
            go_region
            go_wp2
            refine bodyPost_ret (v := .tuple #[.agg #[.int .u64 ((Cls.ofFn (inRanges l)).c0 : Int), .int .u64 ((Cls.ofFn (inRanges l)).c1 : Int), .int .u64 ((Cls.ofFn (inRanges l)).c2 : Int), .int .u64 ((Cls.ofFn (inRanges l)).c3 : Int)], .int .i64 ((q : Int) + 1), .agg #[.int .i64 0, .int .i64 0]]) (by simp [results, Tryd.results54, go_sem, c0, c1, c2, c3, d0, d1]) rfl (prs_mk HF.out rfl rfl rfl rfl rfl rfl rfl ?_)
            (repeat (first | with_reducible exact Below.refl _ _ | with_reducible apply below_drewN' | with_reducible apply below_drew | with_reducible apply below_allocs | (with_reducible refine below_setA ?_ _ _ (by dsimp only; omega))))
            exact B3.out
          · go_wp2_with (first | (go_at_call 61; refine (not_c (Cls.ofFn (inRanges l)) (Cls.ok_ofFn _) _).mono ?_; rintro e w4 ⟨rfl, hb4⟩; unfold V4; have hz4 := hb4.size; simp only [World.size_alloc] at hz4; have N0 := Lib.hid (heap_same hb4 (heap_new w3 (.cells #[.int .u64 ((Cls.ofFn (inRanges l)).c0 : Int), .int .u64 ((Cls.ofFn (inRanges l)).c1 : Int), .int .u64 ((Cls.ofFn (inRanges l)).c2 : Int), .int .u64 ((Cls.ofFn (inRanges l)).c3 : Int)] 24 (0, 0)))); have N1 := Lib.hid (heap_same hb4 (heap_keep (o := .cells #[.int .u64 ((Cls.ofFn (inRanges l)).c0 : Int), .int .u64 ((Cls.ofFn (inRanges l)).c1 : Int), .int .u64 ((Cls.ofFn (inRanges l)).c2 : Int), .int .u64 ((Cls.ofFn (inRanges l)).c3 : Int)] 24 (0, 0)) g1)); have N2 := Lib.hid (heap_same hb4 (heap_keep (o := .cells #[.int .u64 ((Cls.ofFn (inRanges l)).c0 : Int), .int .u64 ((Cls.ofFn (inRanges l)).c1 : Int), .int .u64 ((Cls.ofFn (inRanges l)).c2 : Int), .int .u64 ((Cls.ofFn (inRanges l)).c3 : Int)] 24 (0, 0)) g2)); have N3 := Lib.hid (heap_same hb4 (heap_keep (o := .cells #[.int .u64 ((Cls.ofFn (inRanges l)).c0 : Int), .int .u64 ((Cls.ofFn (inRanges l)).c1 : Int), .int .u64 ((Cls.ofFn (inRanges l)).c2 : Int), .int .u64 ((Cls.ofFn (inRanges l)).c3 : Int)] 24 (0, 0)) r3)); have B4 := Lib.hid ((below_allocs B3.out (.cells #[.int .u64 ((Cls.ofFn (inRanges l)).c0 : Int), .int .u64 ((Cls.ofFn (inRanges l)).c1 : Int), .int .u64 ((Cls.ofFn (inRanges l)).c2 : Int), .int .u64 ((Cls.ofFn (inRanges l)).c3 : Int)] 24 (0, 0))).trans (hb4.mono (by have := B3.out.size; simp only [World.size_alloc]; omega))); clear hb4; obtain ⟨⟨y0, y1, y2, y3⟩, y4, y5, y6, y7⟩ := four_cells N0.out) | (go_at_call 79; refine (of_c A l.length cap l _ RD.out).mono ?_; rintro e w3 ⟨rfl, hb3⟩; unfold V4; have hz3 := hb3.size; have B3 := Lib.hid (B2.out.trans (hb3.mono B2.out.size)); have g1 := heap_same hb3 G1.out; have g2 := heap_same hb3 G2.out; have r3 : RdAt w3 (w.heap.size + 2) s p (q + 1) := heap_same hb3 R2.out; have hlt2 := heap_lt R2.out; clear hb3) | (go_at_call 77; refine (skip_c s hsb p q (w.heap.size + 2) 93 (by decide) hqs _ ER.out).mono ?_; rintro e w2 ⟨he, hgb2, hr2⟩; rw [decide_eq_true d] at he; rw [if_pos d] at hr2; subst he; have hz2 := hgb2.size; obtain ⟨A, cap, hv, hrd⟩ := own_ranges (EO.out.kept hgb2 (.inr EN.out)) (by omega) EB.out; subst hv; have g1 := gb_heap hgb2 E1.out (by omega); have g2 := gb_heap hgb2 E2.out (by omega); have hB2 := Below.grown EW.out hgb2 (by have := heap_lt ER.out; omega) (fun k hk => by cases hk; omega); have G1 := Lib.hid g1; have G2 := Lib.hid g2; have R2 := Lib.hid hr2; have RD := Lib.hid hrd; have B2 := Lib.hid hB2; clear g1 g2 hr2 hrd hB2))
            have M0 := set_four (x0 := .int .u64 ((Cls.ofFn (inRanges l)).not.c0 : Int)) (x1 := .int .u64 ((Cls.ofFn (inRanges l)).not.c1 : Int)) (x2 := .int .u64 ((Cls.ofFn (inRanges l)).not.c2 : Int)) (x3 := .int .u64 ((Cls.ofFn (inRanges l)).not.c3 : Int)) N0.out
            have M1 := four_other (x0 := .int .u64 ((Cls.ofFn (inRanges l)).not.c0 : Int)) (x1 := .int .u64 ((Cls.ofFn (inRanges l)).not.c1 : Int)) (x2 := .int .u64 ((Cls.ofFn (inRanges l)).not.c2 : Int)) (x3 := .int .u64 ((Cls.ofFn (inRanges l)).not.c3 : Int)) (show w.heap.size ≠ w3.heap.size by omega) N1.out
            have M2 := four_other (x0 := .int .u64 ((Cls.ofFn (inRanges l)).not.c0 : Int)) (x1 := .int .u64 ((Cls.ofFn (inRanges l)).not.c1 : Int)) (x2 := .int .u64 ((Cls.ofFn (inRanges l)).not.c2 : Int)) (x3 := .int .u64 ((Cls.ofFn (inRanges l)).not.c3 : Int)) (show w.heap.size + 1 ≠ w3.heap.size by omega) N2.out
            have M3 : RdAt (setFour w4 w3.heap.size (.int .u64 ((Cls.ofFn (inRanges l)).not.c0 : Int)) (.int .u64 ((Cls.ofFn (inRanges l)).not.c1 : Int)) (.int .u64 ((Cls.ofFn (inRanges l)).not.c2 : Int)) (.int .u64 ((Cls.ofFn (inRanges l)).not.c3 : Int))) (w.heap.size + 2) s p (q + 1) := four_other (show w.heap.size + 2 ≠ w3.heap.size by omega) N3.out
            unfold setFour at M0 M1 M2 M3
            obtain ⟨⟨a0, a1, a2, a3⟩, _, _, _, _⟩ := four_cells M0
            obtain ⟨⟨c0, c1, c2, c3⟩, c4, c5, c6, c7⟩ := four_cells M1
            obtain ⟨d0, d1, d2, d3⟩ := two_cells M2
            have d4 := M3.c2
            go_region
            go_wp2
            refine bodyPost_ret (v := .tuple #[.agg #[.int .u64 (((Cls.ofFn (inRanges l)).not).c0 : Int), .int .u64 (((Cls.ofFn (inRanges l)).not).c1 : Int), .int .u64 (((Cls.ofFn (inRanges l)).not).c2 : Int), .int .u64 (((Cls.ofFn (inRanges l)).not).c3 : Int)], .int .i64 ((q : Int) + 1), .agg #[.int .i64 0, .int .i64 0]]) (by simp [results, Tryd.results54, go_sem, c0, c1, c2, c3, d0, d1]) rfl (prs_mk HF.out rfl rfl rfl rfl rfl rfl rfl ?_)
            (repeat (first | with_reducible exact Below.refl _ _ | with_reducible apply below_drewN' | with_reducible apply below_drew | with_reducible apply below_allocs | (with_reducible refine below_setA ?_ _ _ (by dsimp only; omega))))
            exact B4.out
        · obtain ⟨x, y, r, pl, c, hF⟩ : ∃ x y r pl c, itemF s p q = (x, y, r, pl, c) := ⟨_, _, _, _, _, rfl⟩
          have hnx := itemF_next s p q hqs
          have hon := itemF_on s p q hqs
          have hxy := itemF_bytes s p q
          rw [hF] at hnx hon hxy
          dsimp only at hnx hon hxy
          have EI := Lib.hid hF; clear hF
          obtain ⟨k', rfl⟩ : ∃ k', k = k' + 1 := ⟨k - 1, by omega⟩
          by_cases hc : c = 0
          · subst hc
            have hon' := hon rfl
            clear hon
            have EE' := Lib.hid (itemsF_step (l := l) (k := k') d EI.out)
            go_wp2_with (first | (go_at_call 78; refine (item_c s hsb p q (w.heap.size + 2) hqs _ hr2).mono ?_; rintro e w3 ⟨rfl, hgb3, hr3⟩; rw [EI.out] at hr3 ⊢; dsimp only at hr3 ⊢; have hgb4 := Go.Lib.grownBy_trans hgb2 hgb3; have hz := hgb4.size; have g1 := gb_heap hgb4 E1.out (by omega); have g2 := gb_heap hgb4 E2.out (by omega); have hOw := EO.out.kept hgb4 (.inr EN.out); have hBw := Below.grown EW.out hgb4 (by have := heap_lt ER.out; omega) (fun k hk => by cases hk; omega)) | (go_at_call 77; refine (skip_c s hsb p q (w.heap.size + 2) 93 (by decide) hqs _ ER.out).mono ?_; rintro e w2 ⟨he, hgb2, hr2⟩; rw [decide_eq_false d] at he; rw [if_neg d] at hr2; subst he) | (at_builtin; go_must (refine app1 (w0 := w) w.heap.size rfl (.tmp 57) (.tmp 59) 80 83 (.agg #[.int .u8 0, .int .u8 0]) 2 2 rfl Tryd.underlying80 infoRng rfl (by decide) _ _ _ #[.int .u8 (x : Int), .int .u8 (y : Int)] rfl (by simp [Value.oneCell']) rfl (by simp only [World.size_alloc]; rfl) (own_below hOw (by (repeat (first | with_reducible exact Below.refl _ _ | with_reducible apply below_drewN' | with_reducible apply below_drew | with_reducible apply below_allocs | (with_reducible refine below_setA ?_ _ _ (by dsimp only; omega)))))) (by (repeat (first | with_reducible exact Below.refl _ _ | with_reducible apply below_drewN' | with_reducible apply below_drew | with_reducible apply below_allocs | (with_reducible refine below_setA ?_ _ _ (by dsimp only; omega)))); exact hBw) (by simp only [World.size_alloc]; omega) (by omega) (by omega) ?_); intro gq cq w4 hO4 hB4 hk4 hs4))
            go_roundw
            case rel =>
              refine ⟨k', r, l ++ [(x, y)], ?_, ?_, ?_, ?_, hnx.2, by omega, EE'.out.symm.trans EE.out, hk4 _ _ (heap_keep (heap_keep hr3)) (own_ne hOw hr3 (by decide)), hB4, hk4 _ _ (heap_keep (heap_keep g1)) (own_ne hOw g1 (by decide)), hk4 _ _ (heap_keep (heap_keep g2)) (own_ne hOw g2 (by decide))⟩
              · rw [rcells_snoc, List.length_append]; exact hO4
              · simp [lenOf]
              · intro z hz
                rcases List.mem_append.1 hz with hz | hz
                · exact EB.out z hz
                · obtain rfl := List.mem_singleton.1 hz
                  exact hxy
              · rw [List.length_append, List.length_singleton]; omega
            case measure =>
              have e := EL.out
              show s.size + 1 - (l.length + 1) < s.size + 1 - lenOf _
              rw [e]; omega
          · clear hon
            have ET := Lib.hid ((HT.out.symm.trans EE.out.symm).trans (itemsF_bad d EI.out hc))
            have HF := Lib.hid (HI.out.trans (parseF_bad ⟨hlt, h9⟩ HQ.out ET.out hc))
            go_wp2_with (first | (go_at_call 78; refine (item_c s hsb p q (w.heap.size + 2) hqs _ hr2).mono ?_; rintro e w3 ⟨rfl, hgb3, hr3⟩; rw [EI.out] at hr3 ⊢; dsimp only at hr3 ⊢; have hgb4 := Go.Lib.grownBy_trans hgb2 hgb3; have hz := hgb4.size; have g1 := gb_heap hgb4 E1.out (by omega); have g2 := gb_heap hgb4 E2.out (by omega); have hOw := EO.out.kept hgb4 (.inr EN.out); have hBw := Below.grown EW.out hgb4 (by have := heap_lt ER.out; omega) (fun k hk => by cases hk; omega); have g3 := heap_keep (o := .cells #[.int .u8 (x : Int), .int .u8 (y : Int)] 83 (0, 0)) g1; have g4 := heap_keep (o := .cells #[.int .i64 (pl : Int), .int .i64 (c : Int)] 41 (0, 0)) g3; have g5 := heap_keep (o := .cells #[.int .u8 (x : Int), .int .u8 (y : Int)] 83 (0, 0)) g2; have g6 := heap_keep (o := .cells #[.int .i64 (pl : Int), .int .i64 (c : Int)] 41 (0, 0)) g5; obtain ⟨⟨c0, c1, c2, c3⟩, c4, c5, c6, c7⟩ := four_cells g4; obtain ⟨d0, d1, d2, d3⟩ := two_cells g6) | (go_at_call 77; refine (skip_c s hsb p q (w.heap.size + 2) 93 (by decide) hqs _ ER.out).mono ?_; rintro e w2 ⟨he, hgb2, hr2⟩; rw [decide_eq_false d] at he; rw [if_neg d] at hr2; subst he))
            go_region
            go_wp2
            refine bodyPost_ret (v := .tuple #[.agg #[.int .u64 0, .int .u64 0, .int .u64 0, .int .u64 0], .int .i64 0, .agg #[.int .i64 (pl : Int), .int .i64 (c : Int)]]) (by simp [results, Tryd.results54, go_sem, c0, c1, c2, c3, d0, d1]) rfl (prs_mk HF.out rfl rfl rfl rfl rfl rfl rfl ?_)
            (repeat (first | with_reducible exact Below.refl _ _ | with_reducible apply below_drewN' | with_reducible apply below_drew | with_reducible apply below_allocs | (with_reducible refine below_setA ?_ _ _ (by dsimp only; omega))))
            exact hBw
    · have HF : Hid (parseI s (p : Int) = (Cls.none, 0, p, 30)) := Lib.hid (by rw [hI]; exact parseF_no h91)
      go_enter Tryd.func54, Tryd.ntmps54
      by_cases hlt : p < s.size
      · have h9' : ¬ bat s p = 91 := fun q => h91 ⟨hlt, q⟩
        have h9 : ¬ ((bat s p : Nat) : Int) = 91 := by omega
        have h9b : (((bat s p : Nat) : Int) != 91) = true := by simp; omega
        have hb' := hb hlt
        have hz0 : (0 : Int) ≤ (p : Int) ∧ (p : Int) < (s.size : Int) := ⟨by omega, by omega⟩
        go_wp2
        refine bodyPost_ret (v := .tuple #[.agg #[.int .u64 0, .int .u64 0, .int .u64 0, .int .u64 0], .int .i64 0, .agg #[.int .i64 (p : Int), .int .i64 30]]) (by simp [results, Tryd.results54, go_sem]) rfl (prs_mk HF.out rfl rfl rfl rfl rfl rfl rfl ?_)
        (repeat (first | with_reducible exact Below.refl _ _ | with_reducible apply below_drewN' | with_reducible apply below_drew | with_reducible apply below_allocs | (with_reducible refine below_setA ?_ _ _ (by dsimp only; omega))))
      · have hpe : p = s.size := by omega
        subst hpe
        go_wp2
        refine bodyPost_ret (v := .tuple #[.agg #[.int .u64 0, .int .u64 0, .int .u64 0, .int .u64 0], .int .i64 0, .agg #[.int .i64 (s.size : Int), .int .i64 30]]) (by simp [results, Tryd.results54, go_sem]) rfl (prs_mk HF.out rfl rfl rfl rfl rfl rfl rfl ?_)
        (repeat (first | with_reducible exact Below.refl _ _ | with_reducible apply below_drewN' | with_reducible apply below_drew | with_reducible apply below_allocs | (with_reducible refine below_setA ?_ _ _ (by dsimp only; omega))))
end Go.Proofs.YtldjdcdoegjmoaaDoor
set_option linter.unusedVariables false
set_option linter.unusedSimpArgs false
namespace Go.Proofs.YtldjdcdoegjmoaaDoor
open Go.RowKit Go.Shelf
attribute [local go_sem] Oper.semAt_some
/-- A class's bytes below k, rising. -/
def upto (a : Cls) : Nat → List (Fin 256)
  | 0 => []
  | k + 1 => if h : k < 256 then (if a.mem k = true then upto a k ++ [⟨k, h⟩] else upto a k) else upto a k
theorem upto_yes (a : Cls) (k : Nat) (hk : k < 256) (h : a.mem k = true) : upto a (k + 1) = upto a k ++ [⟨k, hk⟩] := by rw [upto, dif_pos hk, if_pos h]
theorem upto_no (a : Cls) (k : Nat) (h : a.mem k = false) : upto a (k + 1) = upto a k := by
  rw [upto]
  split
  · rw [if_neg (by simp [h])]
  · rfl
theorem upto_pre (a : Cls) : ∀ (n k : Nat), upto a k <+: upto a (k + n)
  | 0, k => List.prefix_refl _
  | n + 1, k => by
    refine (upto_pre a n k).trans ?_
    rw [show k + (n + 1) = k + n + 1 by omega, upto]
    split
    · split
      · exact List.prefix_append _ _
      · exact List.prefix_refl _
    · exact List.prefix_refl _
theorem upto_all (a : Cls) (k : Nat) (hk : k < 256) (h : a.mem k = true) : (upto a k).length < (upto a 256).length := by
  have h1 := (upto_pre a (256 - (k + 1)) (k + 1)).length_le
  rw [show k + 1 + (256 - (k + 1)) = 256 by omega, upto_yes a k hk h, List.length_append, List.length_singleton] at h1
  omega
theorem grow_below {w w' : World} (h : Below w.heap.size w w') : w.grownBy w' none := ⟨h.os, h.tape, h.output, h.size, fun k hk _ => h.block k hk⟩
/-- A block stays as it is. -/
def KpB (b : Nat) (o : Obj) (W W' : World) : Prop := W.heap[b]? = some o → W'.heap[b]? = some o
theorem kpB_t {b : Nat} {o : Obj} {A B C : World} (h : KpB b o A B) (k : KpB b o B C) : KpB b o A C := fun x => k (h x)
theorem kpB_b {b : Nat} {o : Obj} {w : World} (hb : b < w.heap.size) (W : World) (l : Nat) (x y : Obj) (hl : w.heap.size ≤ l) (h : W.heap[l]? = some x) (_ : x.isCells = false) (_ : x.isWalk = false) : KpB b o W (W.putObj l y) :=
  fun hk => ((grownBy_putObj' W l y).block b (heap_lt hk) (fun e => by cases e; omega)).trans hk
set_option maxRecDepth 100000 in
set_option maxHeartbeats 4000000 in
theorem each1_in (n : Nat) (hn : 1 ≤ n) (l Bs : Nat) (a : Cls) (ha : a.ok) (J Jx : List (Fin 256) → World → Prop)
    (B : Nat) (hJ : AbidesFrom B J) (hBs0 : Bs < B)
    (hY : ∀ pre (x : Fin 256) W, J pre W → pre.length < (upto a 256).length → YieldAt Fence.wide (n - 1) Tryd.prog l #[.int .u8 ((x.val : Nat) : Int)] W fun e W' =>
      (e = .returned (.bool true) ∧ J (pre ++ [x]) W' ∧ KpB Bs (.cells a.cells 24 (0, 0)) W W') ∨ (e = .returned (.bool false) ∧ Jx (pre ++ [x]) W'))
    (W : World) (hBs : W.heap[Bs]? = some (.cells a.cells 24 (0, 0))) (h0 : J [] W) :
    CallsIn Fence.wide n Tryd.prog 97 #[.func (.yield l) #[] #[], .pointer (some ⟨Bs, 0, none⟩)] W fun e W' => (∃ v, e = .returned v) ∧
      ((∃ ys, ys = upto a 256 ∧ J ys W') ∨ (∃ pre, pre <+: upto a 256 ∧ Jx pre W')) := by
  refine callsIn_of_wp Tryd.func97 rfl trivial ?_ rfl
  simp only [Tryd.ntmps97, List.size_toArray, List.length_cons, List.length_nil, Nat.reduceAdd, Nat.reduceSub, Array.replicate_succ, Array.replicate_zero, List.push_toArray, List.append_toArray, List.nil_append, List.cons_append]
  gi_wp2
  gi_loopw [4] (fun i wr => ∃ k : Nat, k ≤ 256 ∧ i = .int .i64 k ∧ J (upto a k) wr ∧ wr.heap[Bs]? = some (.cells a.cells 24 (0, 0)))
    (fun i _ => 256 - (intOf i).toNat)
  case atStart => exact ⟨0, Nat.zero_le _, rfl, h0, hBs⟩
  case round =>
    obtain ⟨k, hk, rfl, hJs, hnx⟩ := hrel
    by_cases hlt : k < 256
    · obtain ⟨⟨c0, c1, c2, c3⟩, f0, f1, f2, f3⟩ := four_cells (show wr.heap[Bs]? = some (.cells #[.int .u64 (a.c0 : Int), .int .u64 (a.c1 : Int), .int .u64 (a.c2 : Int), .int .u64 (a.c3 : Int)] 24 (0, 0)) from hnx)
      have hH := has_c a ha k hlt
      have HX := Lib.hid hnx; clear hnx
      cases hm : a.mem k
      · rw [hm] at hH
        have HH := Lib.hid hH; clear hH
        have HM := Lib.hid hm; clear hm
        gi_wp2_with (refine ⟨trivial, ?_⟩; gi_at_call 98; refine (callsIn_wide.2 (HH.out _)).mono ?_; rintro e w2 ⟨rfl, hb2⟩)
        refine ⟨fun _ h => (by cases h), ?_⟩
        gi_wp2
        go_roundw
        case rel => exact ⟨k + 1, by omega, by simp, by rw [upto_no a k HM.out]; exact hJ _ _ _ none hJs (grow_below hb2) (by simp), heap_same hb2 HX.out⟩
        case measure => simp [intOf]; omega
      · rw [hm] at hH
        have HH := Lib.hid hH; clear hH
        have HM := Lib.hid hm; clear hm
        gi_wp2_with (refine ⟨trivial, ?_⟩; gi_at_call 98; refine (callsIn_wide.2 (HH.out _)).mono ?_; rintro e w2 ⟨rfl, hb2⟩; have HB2 := Lib.hid hb2; clear hb2; obtain ⟨fn, tmps, assign, body, hy, hR⟩ := hY _ ⟨k, hlt⟩ w2 (hJ _ _ _ none hJs (grow_below HB2.out) (by simp)) (upto_all a k hlt HM.out); dsimp only at hy)
        refine hR.mono ?_
        rintro e W3 (⟨rfl, hJ3, hk3⟩ | ⟨rfl, hJx3⟩)
        · gi_wp2
          go_roundw
          case rel => exact ⟨k + 1, by omega, by simp, by rw [upto_yes a k hlt HM.out]; exact hJ3, hk3 (heap_same HB2.out HX.out)⟩
          case measure => simp [intOf]; omega
        · gi_wp2
          refine bodyPost_ret (results_none rfl _ _ _) rfl ?_
          refine ⟨⟨_, rfl⟩, .inr ⟨_, ?_, hJx3⟩⟩
          have h5 := upto_pre a (256 - (k + 1)) (k + 1)
          rw [show k + 1 + (256 - (k + 1)) = 256 by omega, upto_yes a k hlt HM.out] at h5
          exact h5
    · obtain rfl : k = 256 := by omega
      gi_wp2
      go_end0
      exact ⟨⟨_, rfl⟩, .inl ⟨_, rfl, hJs⟩⟩
set_option maxHeartbeats 1000000 in
theorem each_in (n : Nat) (a : Cls) (w : World) : CallsIn Fence.wide n Tryd.prog 83 #[V4 a] w fun e w' => e = .returned (.func (.func 97) #[] #[.pointer (some ⟨w.heap.size, 0, none⟩)]) ∧ w' = w.alloc (.cells a.cells 24) := by
  refine callsIn_of_wp Tryd.func83 rfl trivial ?_ rfl
  simp only [Tryd.ntmps83, List.size_toArray, List.length_cons, List.length_nil, Nat.reduceAdd, Nat.reduceSub, Array.replicate_succ, Array.replicate_zero, List.push_toArray, List.append_toArray, List.nil_append, List.cons_append]
  gi_wp2
  go_ret
  exact ⟨rfl, rfl⟩
/-- What class.Each hands back goes through a class's bytes, rising. -/
theorem each_stops (n : Nat) (hn : 1 ≤ n) (Bs : Nat) (a : Cls) (ha : a.ok) (w : World) (hBs : Bs < w.heap.size) (hc : w.heap[Bs]? = some (.cells a.cells 24 (0, 0))) :
    SeqStopsK Fence.wide n Tryd.prog 97 #[.pointer (some ⟨Bs, 0, none⟩)] (fun x : Fin 256 => #[Value.int .u8 ((x.val : Nat) : Int)]) (KpB Bs (.cells a.cells 24 (0, 0))) (fun ys => ys = upto a 256) (fun pre => pre <+: upto a 256) (upto a 256).length w :=
  fun l J Jx W hW hJ _ hY h0 => each1_in n hn l Bs a ha J Jx W.heap.size hJ (Nat.lt_of_lt_of_le hBs hW.size) hY W (heap_below hW hBs hc) h0
end Go.Proofs.YtldjdcdoegjmoaaDoor
set_option linter.unusedVariables false
set_option linter.unusedSimpArgs false
namespace Go.Proofs.YtldjdcdoegjmoaaDoor
open Go.RowKit Go.Shelf
attribute [local go_sem] Oper.semAt_some
/-- One byte more to ranges that rise. -/
def stepR (l : List (Nat × Nat)) (b : Nat) : List (Nat × Nat) :=
  match l.getLast? with
  | some p => if p.2 + 1 = b then l.dropLast ++ [(p.1, b)] else l ++ [(b, b)]
  | none => [(b, b)]
def rangesOf (xs : List (Fin 256)) : List (Nat × Nat) := xs.foldl (fun l x => stepR l x.val) []
theorem rangesOf_snoc (xs : List (Fin 256)) (x : Fin 256) : rangesOf (xs ++ [x]) = stepR (rangesOf xs) x.val := by unfold rangesOf; rw [List.foldl_append]; rfl
theorem stepR_nil (b : Nat) : stepR [] b = [(b, b)] := rfl
theorem stepR_yes (l : List (Nat × Nat)) (lo hi b : Nat) (h : hi + 1 = b) : stepR (l ++ [(lo, hi)]) b = l ++ [(lo, b)] := by unfold stepR; simp [h]
theorem stepR_no (l : List (Nat × Nat)) (lo hi b : Nat) (h : ¬ hi + 1 = b) : stepR (l ++ [(lo, hi)]) b = l ++ [(lo, hi)] ++ [(b, b)] := by unfold stepR; simp [h]
theorem snoc_or (l : List (Nat × Nat)) : l = [] ∨ ∃ l' lo hi, l = l' ++ [(lo, hi)] := by
  rcases List.eq_nil_or_concat l with h | ⟨l', p, h⟩
  · exact .inl h
  · exact .inr ⟨l', p.1, p.2, by simpa using h⟩
theorem stepR_len (l : List (Nat × Nat)) (b : Nat) : (stepR l b).length ≤ l.length + 1 := by
  rcases snoc_or l with rfl | ⟨l', lo, hi, rfl⟩
  · simp [stepR_nil]
  · by_cases h : hi + 1 = b
    · rw [stepR_yes _ _ _ _ h]; simp
    · rw [stepR_no _ _ _ _ h]; simp
theorem rangesOf_len : ∀ (n : Nat) (xs : List (Fin 256)), xs.length = n → (rangesOf xs).length ≤ n
  | 0, xs, h => by rw [List.eq_nil_of_length_eq_zero h]; simp [rangesOf]
  | n + 1, xs, h => by
    rcases List.eq_nil_or_concat xs with rfl | ⟨ys, y, rfl⟩
    · simp at h
    · simp at h
      rw [List.concat_eq_append, rangesOf_snoc]
      have := rangesOf_len n ys h
      have := stepR_len (rangesOf ys) y.val
      omega
theorem upto_count (a : Cls) : ∀ k, (upto a k).length ≤ k
  | 0 => by simp [upto]
  | k + 1 => by
    have := upto_count a k
    rw [upto]
    split
    · split
      · rw [List.length_append, List.length_singleton]; omega
      · omega
    · omega
theorem rcells_len (l : List (Nat × Nat)) : (rcells l).length = l.length * 2 := by
  induction l with
  | nil => rfl
  | cons p l ih =>
    have e : rcells (p :: l) = .int .u8 (p.1 : Int) :: .int .u8 (p.2 : Int) :: rcells l := by simp [rcells]
    rw [e, List.length_cons, List.length_cons, ih, List.length_cons]; omega
theorem rcells_last (l : List (Nat × Nat)) (lo hi : Nat) : (rcells (l ++ [(lo, hi)]))[l.length * 2 + 1]? = some (.int .u8 (hi : Int)) := by
  have h := rcells_at (l ++ [(lo, hi)]) l.length (by simp)
  rw [h.2]; simp
theorem rcells_set (l : List (Nat × Nat)) (lo hi b : Nat) : (rcells (l ++ [(lo, hi)])).set (l.length * 2 + 1) (.int .u8 (b : Int)) = rcells (l ++ [(lo, b)]) := by
  rw [rcells_snoc, rcells_snoc, List.set_append_right _ _ (by rw [rcells_len]; omega), rcells_len]
  congr 1
  rw [show l.length * 2 + 1 - l.length * 2 = 1 by omega]; rfl
theorem rangesOf_lt : ∀ (n : Nat) (xs : List (Fin 256)), xs.length = n → ∀ p ∈ rangesOf xs, p.1 < 256 ∧ p.2 < 256
  | 0, xs, h, p, hp => by rw [List.eq_nil_of_length_eq_zero h] at hp; simp [rangesOf] at hp
  | n + 1, xs, h, p, hp => by
    rcases List.eq_nil_or_concat xs with rfl | ⟨ys, y, rfl⟩
    · simp at h
    · simp at h
      have hy := y.isLt
      rw [List.concat_eq_append, rangesOf_snoc] at hp
      have ih := rangesOf_lt n ys h
      rcases snoc_or (rangesOf ys) with e | ⟨l', lo, hi, e⟩
      · rw [e, stepR_nil] at hp
        simp at hp
        subst hp
        exact ⟨hy, hy⟩
      · rw [e] at ih hp
        have hl := ih (lo, hi) (by simp)
        by_cases hb : hi + 1 = y.val
        · rw [stepR_yes _ _ _ _ hb] at hp
          rcases List.mem_append.1 hp with hp | hp
          · exact ih p (by simp [hp])
          · simp at hp; subst hp; exact ⟨hl.1, hy⟩
        · rw [stepR_no _ _ _ _ hb] at hp
          rcases List.mem_append.1 hp with hp | hp
          · exact ih p hp
          · simp at hp; subst hp; exact ⟨hy, hy⟩
theorem not_row' {W : World} {B : Nat} {t e : TypeId} {cs : Array Value} {fr : Nat × Nat} (h : W.heap[B]? = some (.cells cs t fr)) (hte : t ≠ e) {base size k : Nat} {v : Value} {xs : List Value} (hr : W.ownsRow base e size v k xs) : some B ≠ v.ownBlock := by
  rcases hr.2 with ⟨rfl, _⟩ | ⟨g, cap, cur, rfl, _, hgb, _⟩
  · simp [Value.ownBlock]
  · intro e'
    obtain rfl : B = g := by simpa [Value.ownBlock] using e'
    have := h.symm.trans hgb
    simp at this
    exact hte this.2.1
theorem block_own {β : Type} (b : Nat) (cs : Array Value) (t : TypeId) : Own (fun (_ : β) W => W.heap[b]? = some (.cells cs t (0, 0))) := by
  intro s X Y row hx hg hrow
  refine (hg.block b (heap_lt hx) (fun e => ?_)).trans hx
  obtain ⟨o, ho, hc⟩ := hrow b e.symm
  rw [hx] at ho; cases ho; cases hc
theorem cell_two_new (W : World) (u v : Value) (t : TypeId) : ∀ j x, [u, v][j]? = some x → (W.alloc (.cells #[u, v] t)).cell? ((⟨W.heap.size, 0, none⟩ : Addr).add j) = some x := by
  simpa using World.news_of_block (cs := #[u, v]) (t := t) (fr := (0, 0)) (heap_alloc_new W (.cells #[u, v] t))
theorem ranges_put {a : Cls} {w W w1 : World} {v v' : Value} {k m : Nat} {xs ys : List Value} {pre : List (Fin 256)} {tmp : Obj} (hv : Boxed W (w.heap.size + 1) 80 v) (hC : W.heap[w.heap.size + 2]? = some (.cells a.cells 24 (0, 0))) (hB : Below w.heap.size w W)
    (hrow : W.ownsRow w.heap.size 83 2 v k xs) (hown' : w1.ownsRow w.heap.size 83 2 v' m ys) (hgrow : (W.alloc tmp).grownBy w1 v.ownBlock) (hm : m = (rangesOf pre).length) (hy : ys = rcells (rangesOf pre)) {B : Nat} :
    KeepsFrom B W (w1.setCell ⟨w.heap.size + 1, 0, none⟩ v') ∧ KpB (w.heap.size + 2) (.cells a.cells 24 (0, 0)) W (w1.setCell ⟨w.heap.size + 1, 0, none⟩ v') ∧
      ((∃ v, Boxed (w1.setCell ⟨w.heap.size + 1, 0, none⟩ v') (w.heap.size + 1) 80 v ∧ (w1.setCell ⟨w.heap.size + 1, 0, none⟩ v').ownsRow w.heap.size 83 2 v (rangesOf pre).length (rcells (rangesOf pre)) ∧ True) ∧
        (w1.setCell ⟨w.heap.size + 1, 0, none⟩ v').heap[w.heap.size + 2]? = some (.cells a.cells 24 (0, 0))) ∧ Below w.heap.size w (w1.setCell ⟨w.heap.size + 1, 0, none⟩ v') := by
  obtain ⟨hv1, hv2, hr2, hk2, hb2⟩ := hv.appended (by decide) hrow hB.size (by omega) hown' hgrow
  have hne := not_row' hC (by decide) hrow
  have hh : (w1.setCell ⟨w.heap.size + 1, 0, none⟩ v').heap[w.heap.size + 2]? = some (.cells a.cells 24 (0, 0)) :=
    heap_other (by dsimp only; omega) ((hgrow.block _ (heap_lt (heap_keep hC)) hne).trans (heap_keep hC))
  subst hm hy
  exact ⟨hk2.from _, fun _ => hh, ⟨⟨_, hv2, hr2, trivial⟩, hh⟩, hB.trans hb2⟩
/-- A class's ranges. -/
def rangesL (a : Cls) : List (Nat × Nat) := rangesOf (upto a 256)
set_option maxRecDepth 100000 in
set_option maxHeartbeats 4000000 in
theorem ranges_in (n : Nat) (hn : 3 ≤ n) (a : Cls) (ha : a.ok) (w : World) :
    CallsIn Fence.wide n Tryd.prog 62 #[V4 a] w fun e W' => ∃ v, e = .returned v ∧ W'.ownsRow w.heap.size 83 2 v (rangesL a).length (rcells (rangesL a)) ∧ Below w.heap.size w W' := by
  have h1 : 1 ≤ n := by omega
  obtain ⟨i0, hi1, hz0, hz1, hz2⟩ := info_parts infoRng
  refine callsIn_of_wp_marks Tryd.func62 rfl trivial ?_ rfl
  simp only [Tryd.ntmps62, List.size_toArray, List.length_cons, List.length_nil, Nat.reduceAdd, Nat.reduceSub, Array.replicate_succ, Array.replicate_zero, List.push_toArray, List.append_toArray, List.nil_append, List.cons_append]
  gi_wp2_with (refine ⟨trivial, ?_⟩; gi_at_call 83; refine (each_in (n - 1) a _).mono ?_; rintro e w' ⟨rfl, rfl⟩)
  have hcell : (((w.alloc (.cells #[.int .u64 (a.c0 : Int), .int .u64 (a.c1 : Int), .int .u64 (a.c2 : Int), .int .u64 (a.c3 : Int)] 24)).alloc (.cells #[.slice none 0 0] 80)).alloc (.cells a.cells 24)).heap[w.heap.size + 2]? = some (.cells a.cells 24 (0, 0)) := heap_new2 _ _ _ _
  have bL : Boxed (((w.alloc (.cells #[.int .u64 (a.c0 : Int), .int .u64 (a.c1 : Int), .int .u64 (a.c2 : Int), .int .u64 (a.c3 : Int)] 24)).alloc (.cells #[.slice none 0 0] 80)).alloc (.cells a.cells 24)) (w.heap.size + 1) 80 (.slice none 0 0) := heap_keep (heap_new1 _ _ _)
  have hB0 : Below w.heap.size w (((w.alloc (.cells #[.int .u64 (a.c0 : Int), .int .u64 (a.c1 : Int), .int .u64 (a.c2 : Int), .int .u64 (a.c3 : Int)] 24)).alloc (.cells #[.slice none 0 0] 80)).alloc (.cells a.cells 24)) := (((Below.refl _ w).alloc (Nat.le_refl _) _).alloc (by simp) _).alloc (by simp; omega) _
  refine wpIn_rangeFunc_ownG rfl h1 (gf := 97) (lb := #[.pointer (some ⟨w.heap.size + 2, 0, none⟩)]) rfl trivial (enters_of Tryd.func97 (by kernel_rfl) rfl)
    (each_stops (n - 1) (by omega) (w.heap.size + 2) a ha _ (by simp) hcell) kpB_t (kpB_b (by simp)) (Below.refl _ _) (fun _ => rfl)
    (fun pre W => ((∃ v, Boxed W (w.heap.size + 1) 80 v ∧ W.ownsRow w.heap.size 83 2 v (rangesOf pre).length (rcells (rangesOf pre)) ∧ True) ∧ W.heap[w.heap.size + 2]? = some (.cells a.cells 24 (0, 0))) ∧ Below w.heap.size w W)
    (fun _ _ _ => False)
    (OwnFrom.and (OwnFrom.and (Own.from (holdsRow_own w.heap.size (w.heap.size + 1) 80 83 2 (fun pre => (rangesOf pre).length) (fun pre => rcells (rangesOf pre)) (fun pre v => True)) _) (Own.from (block_own _ _ _) _)) (ownFrom_below (Nat.le_refl _) (by simp; omega)))
    (fun _ _ _ _ _ hs _ _ => hs)
    ⟨⟨⟨_, bL, World.ownsRow_nil _ _ _ _, trivial⟩, hcell⟩, hB0⟩
    (fun x => { tmps := #[V4 a, .pointer (some ⟨w.heap.size, 0, none⟩), .slice none 0 0, .pointer (some ⟨w.heap.size + 1, 0, none⟩), .int .u8 ((x.val : Nat) : Int), undef, V4 a, .func (.func 97) #[] #[.pointer (some ⟨w.heap.size + 1 + 1, 0, none⟩)], .int .u8 ((x.val : Nat) : Int), undef, undef, undef, undef, undef, undef, undef, undef, undef, undef, undef, undef, undef, undef, undef, undef, undef, undef, undef, undef, undef, undef, undef, undef, undef, undef, undef, undef, undef, undef], defers := [] }) ?assign ?body ?done ?stop
  case assign =>
    intro l x W K hK
    gi_wp2
    exact hK
  case body =>
    rintro l pre x W ⟨⟨⟨v, hv, hrow, _⟩, hC⟩, hB⟩ hlt
    have hx := x.isLt
    have hlen := rangesOf_len pre.length pre rfl
    have hc := hv.cell
    have hf := hv.frozen
    have hcnt := upto_count a 256
    obtain ⟨L, hL⟩ : ∃ L, L = rangesOf pre := ⟨_, rfl⟩
    have hst := rangesOf_snoc pre x
    rw [← hL] at hrow hst hlen
    rcases snoc_or L with rfl | ⟨L', lo, hi, rfl⟩
    · obtain ⟨A, c, rfl⟩ : ∃ A c, v = .slice A 0 c := by
        rcases hrow.2 with ⟨rfl, _⟩ | ⟨g, cap, cur, rfl, _⟩
        · exact ⟨_, _, rfl⟩
        · exact ⟨_, _, rfl⟩
      rw [List.length_nil] at hrow
      have hR := Lib.hid hrow; clear hrow
      have hSt := Lib.hid hst; clear hst
      have HC := Lib.hid hC; clear hC
      clear hL
      gi_wp2_with (gi_at_builtin; refine wpListIn_append_own _ rfl _ _ 80 rfl w.heap.size 83 i0 (.agg #[.int .u8 0, .int .u8 0]) 2 2 Tryd.underlying80 hi1 hz0 hz1 hz2 rfl (by decide) _ _ _ rfl (hR.out.alloc _) ⟨W.heap.size, 0, none⟩ 1 1 [.int .u8 ((x.val : Nat) : Int), .int .u8 ((x.val : Nat) : Int)] rfl rfl (cell_two_new _ _ _ _) (by simp [Value.oneCell']) (by unfold maxLen; omega) (by omega) (by have := hB.size; simp; omega) ?_; intro v' w1 hown' hgrow _; obtain ⟨g', cap', rfl⟩ := ownsRow_succ hown'; have HW := Lib.hid hown'; have HG := Lib.hid hgrow; have hc1 := ((hv.alloc _).kept hgrow (hv.not_row (by decide) hR.out)).cell; have hf1 := ((hv.alloc _).kept hgrow (hv.not_row (by decide) hR.out)).frozen; clear hown' hgrow)
      exact ranges_put hv HC.out hB hR.out HW.out HG.out (by rw [hSt.out, stepR_nil]; rfl) (by rw [hSt.out, stepR_nil]; rfl)
    · rw [List.length_append, List.length_singleton] at hrow hlen
      obtain ⟨g, cap, rfl⟩ := ownsRow_succ hrow
      have hne := not_row' hC (by decide) hrow
      have hge : w.heap.size ≤ g := by
        rcases hrow.2 with ⟨h, _⟩ | ⟨g', cap', cur, h, h2, _⟩
        · cases h
        · cases h; exact h2
      have hhi : hi < 256 := (rangesOf_lt pre.length pre rfl (lo, hi) (by rw [← hL]; simp)).2
      have hgn : g ≠ w.heap.size + 2 := fun e => hne (by rw [← e]; rfl)
      have hcl := (hrow.cellAt (L'.length * 2 + 1) (by omega)).trans (rcells_last L' lo hi)
      have hfl := hrow.frozenAt (L'.length * 2 + 1)
      have hR := Lib.hid hrow; clear hrow hne
      have HC := Lib.hid hC; clear hC
      have hSt := Lib.hid hst; clear hst
      clear hL
      by_cases hb : hi + 1 = x.val
      · have hbi : ((hi : Int) + 1 == ((x.val : Nat) : Int)) = true := by rw [beq_iff_eq]; omega
        have HB := Lib.hid hb; clear hb
        gi_wp2
        have hst := hR.out.stored (L'.length * 2 + 1) (.int .u8 ((x.val : Nat) : Int))
        refine ⟨(KeepsOthers.setCell _ _ _).from _, fun hk => heap_other (fun e => hgn e.symm) hk, ⟨⟨_, hv.kept hst.2 (hv.not_row (by decide) hR.out), ?_, trivial⟩, heap_other (fun e => hgn e.symm) HC.out⟩, hB.setCell hge _⟩
        rw [hSt.out, stepR_yes _ _ _ _ HB.out, ← rcells_set L' lo hi x.val]
        simpa using hst.1
      · have hbi : ((hi : Int) + 1 == ((x.val : Nat) : Int)) = false := by rw [beq_eq_false_iff_ne]; omega
        have HB := Lib.hid hb; clear hb
        gi_wp2_with (gi_at_builtin; refine wpListIn_append_own _ rfl _ _ 80 rfl w.heap.size 83 i0 (.agg #[.int .u8 0, .int .u8 0]) 2 2 Tryd.underlying80 hi1 hz0 hz1 hz2 rfl (by decide) _ _ _ rfl (hR.out.alloc _) ⟨W.heap.size, 0, none⟩ 1 1 [.int .u8 ((x.val : Nat) : Int), .int .u8 ((x.val : Nat) : Int)] rfl rfl (cell_two_new _ _ _ _) (by simp [Value.oneCell']) (by unfold maxLen; omega) (by omega) (by have := hB.size; simp; omega) ?_; intro v' w1 hown' hgrow _; obtain ⟨g', cap', rfl⟩ := ownsRow_succ hown'; have HW := Lib.hid hown'; have HG := Lib.hid hgrow; have hc1 := ((hv.alloc _).kept hgrow (hv.not_row (by decide) hR.out)).cell; have hf1 := ((hv.alloc _).kept hgrow (hv.not_row (by decide) hR.out)).frozen; clear hown' hgrow)
        exact ranges_put hv HC.out hB hR.out HW.out HG.out (by rw [hSt.out, stepR_no _ _ _ _ HB.out]; simp only [List.length_append, List.length_singleton]) (by rw [hSt.out, stepR_no _ _ _ _ HB.out, rcells_snoc (L' ++ [(lo, hi)])])
  case done =>
    rintro D ys W hD rfl ⟨⟨⟨v, hv, hrow, _⟩, hC⟩, hB⟩ hK
    have hc := hv.cell
    gi_wp2
    refine ⟨by simp, .inl ⟨_, _, rfl, run_takeDeferred hK, ?_⟩⟩
    exact ⟨_, results_tmp rfl _ _ _, v, rfl, ownsRow_putObj hrow _ hK rfl, hB.trans (belowK_b (w := w) (Nat.le_refl _) W D _ _ (by simp at hD; omega) hK rfl rfl)⟩
  case stop =>
    rintro D c pre W _ _ h _
    exact h.elim
end Go.Proofs.YtldjdcdoegjmoaaDoor
