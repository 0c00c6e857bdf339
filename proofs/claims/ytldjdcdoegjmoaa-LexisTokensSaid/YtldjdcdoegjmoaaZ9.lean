import Derived.Test.YtldjdcdoegjmoaaZ8
set_option linter.unusedVariables false
set_option linter.unusedSimpArgs false
namespace Go.Proofs.Ytldjdcdoegjmoaa
open Go.RowKit
def Saying (p : Nat) (f : Nat × Nat × Nat) (w : World) (e : Ending) (w' : World) : Prop :=
 e = .returned (.tuple #[.int .u8 (f.1 : Int), .int .i64 ((if f.2.2 = 0 then f.2.1 else 0 : Nat) : Int), .agg #[.int .i64 ((if f.2.2 = 0 then 0 else p : Nat) : Int), .int .i64 (f.2.2 : Int)]]) ∧ Below w.heap.size w w'
theorem say_ok {p x q : Nat} {w w' : World} {X Q : Value} {f : Nat × Nat × Nat} (hf : f = (x, q, 0)) (hX : X = .int .u8 (x : Int)) (hQ : Q = .int .i64 (q : Int)) (h : Below w.heap.size w w') :
 Saying p f w (.returned (.tuple #[X, Q, .agg #[.int .i64 0, .int .i64 0]])) w' := by subst hf; exact ⟨by rw [hX, hQ]; rfl, h⟩
theorem say_bad {p c : Nat} {w w' : World} {f : Nat × Nat × Nat} {C : Int} (hf : f = (0, p, c)) (hc : c ≠ 0) (hC : C = (c : Int)) (h : Below w.heap.size w w') :
 Saying p f w (.returned (.tuple #[.int .u8 0, .int .i64 0, .agg #[.int .i64 (p : Int), .int .i64 C]])) w' := by
 subst hf
 refine ⟨?_, h⟩
 dsimp only
 rw [if_neg hc, if_neg hc, hC]; rfl
theorem sayF_e {s : ByteArray} {p : Nat} (h : bat s p = 92) : sayF s p = escF s p := by unfold sayF; rw [if_pos h]
theorem below_setA {B : Nat} {w w' : World} (h : Below B w w') (a : Addr) (v : Value) (ha : B ≤ a.block) : Below B w (w'.setCell a v) := h.setCell ha v
theorem below_drewN' {B : Nat} {w w' : World} {n : Nat} (h : Below B w w') : Below B w (w'.drewN n) := below_drewN h _
theorem below_allocs {w w' : World} (h : Below w.heap.size w w') (o : Obj) : Below w.heap.size w (w'.alloc o) := h.alloc h.size o
def SaidV (s : ByteArray) (p x y : Nat) : Nat → Value → Prop
 | 0 => fun v => v = (.string s)
 | 1 => fun v => v = (.int .i64 (p : Int))
 | 2 => fun v => v = (.int .i64 ((p : Int) + 2))
 | 3 => fun v => v = (.int .u8 (bat s (p + 2) : Int))
 | 4 => fun v => v = (.int .i64 (x : Int))
 | 5 => fun v => v = (.int .i64 (16 * (x : Int)))
 | 6 => fun v => v = (.string s)
 | 7 => fun v => v = (.int .i64 (p : Int))
 | 8 => fun v => v = (.int .i64 ((p : Int) + 3))
 | 9 => fun v => v = (.int .u8 (bat s (p + 3) : Int))
 | 10 => fun v => v = (.int .i64 (y : Int))
 | 11 => fun v => v = (.int .i64 (16 * (x : Int) + (y : Int)))
 | 12 => fun v => v = (.int .u8 (16 * (x : Int) + (y : Int)))
 | 13 => fun v => v = (.int .i64 (p : Int))
 | 14 => fun v => v = (.int .i64 ((p : Int) + 4))
 | 15 => fun v => v = (.agg #[.int .i64 0, .int .i64 0])
 | 16 => fun v => v = (.int .u8 (16 * (x : Int) + (y : Int)))
 | 17 => fun v => v = (.int .i64 ((p : Int) + 4))
 | _ => fun _ => True
def SaidJ (w0 : World) (w : World) : Prop := Below w0.heap.size w0 w ∧ w.heap[w0.heap.size]? = some (.cells #[.int .i64 0, .int .i64 0] 35 (0, 0))
theorem not_dst {ops : Array Oper} {t : Tmp} (h : (ops.all fun o => o.dst != some t) = true) (i : Nat) : dstOf ops i ≠ some t := by
 unfold dstOf
 intro q
 cases ho : ops[i]? with
 | none => rw [ho] at q; cases q
 | some o =>
   rw [ho] at q
   obtain ⟨hi, rfl⟩ := Array.getElem?_eq_some_iff.1 ho
   have := Array.all_eq_true.1 h i hi
   simp at q this
   exact this q
set_option maxRecDepth 100000 in
set_option maxHeartbeats 1000000 in
theorem said_x (s : ByteArray) (hs : s.size ≤ bigN) (p : Nat) (hp : p < s.size) (w : World) (d1 : bat s p = 92) (hlt : p + 1 < s.size) (e1 : ¬ bat s (p + 1) = 116) (e2 : ¬ bat s (p + 1) = 110) (e3 : ¬ bat s (p + 1) = 114)
 (e4a : ¬ bat s (p + 1) = 92) (e4b : ¬ bat s (p + 1) = 93) (e4c : ¬ bat s (p + 1) = 45) (e4d : ¬ bat s (p + 1) = 94) (e4e : ¬ bat s (p + 1) = 39) (e4f : ¬ bat s (p + 1) = 34) (e5 : bat s (p + 1) = 120) (hl3 : p + 3 < s.size)
 (h0 : 0 ≤ hexv (bat s (p + 2))) (h1 : 0 ≤ hexv (bat s (p + 3))) : Calls Try.prog 62 #[.string s, .int .i64 (p : Int)] w (Saying p (sayF s p) w) := by
 unfold bigN at hs
 have hb := bat_eq s p hp
 have hz0 : (0 : Int) ≤ (p : Int) ∧ (p : Int) < (s.size : Int) := ⟨by omega, by omega⟩
 have hb1 := bat_eq s (p + 1) hlt
 have hz1 : (0 : Int) ≤ (p : Int) + 1 ∧ (p : Int) + 1 < (s.size : Int) := ⟨by omega, by omega⟩
 have hl2 : p + 2 < s.size := by omega
 have hb2 := bat_eq s (p + 2) hl2
 have hb3 := bat_eq s (p + 3) hl3
 have hz2 : (0 : Int) ≤ (p : Int) + 2 ∧ (p : Int) + 2 < (s.size : Int) := ⟨by omega, by omega⟩
 have hz3 : (0 : Int) ≤ (p : Int) + 3 ∧ (p : Int) + 3 < (s.size : Int) := ⟨by omega, by omega⟩
 have hx1 := hexv_lo (bat s (p + 2)); have hx2 := hexv_hi (bat s (p + 2)); have hy1 := hexv_lo (bat s (p + 3)); have hy2 := hexv_hi (bat s (p + 3))
 obtain ⟨x, hx⟩ := Int.eq_ofNat_of_zero_le h0
 obtain ⟨y, hy⟩ := Int.eq_ofNat_of_zero_le h1
 obtain ⟨w0, rfl⟩ : ∃ w0 : World, w0 = w := ⟨_, rfl⟩
 go_enter Try.func62, Try.ntmps62
 go_wp2_with (go_at_call 69; refine (digitR_c _ (bat_lt s _) _).mono ?_; rintro e w' ⟨rfl, rfl⟩)
 have hw2 : IntKind.i64.wrap ((p : Int) + 2) = (p : Int) + 2 := (by rw [IntKind.wrap_i64]; omega)
 have hw3 : IntKind.i64.wrap ((p : Int) + 3) = (p : Int) + 3 := (by rw [IntKind.wrap_i64]; omega)
 have hw4 : IntKind.i64.wrap ((p : Int) + 4) = (p : Int) + 4 := (by rw [IntKind.wrap_i64]; omega)
 have hwa : IntKind.i64.wrap (16 * (x : Int)) = 16 * (x : Int) := (by rw [IntKind.wrap_i64]; omega)
 have hwb : IntKind.i64.wrap (16 * (x : Int) + (y : Int)) = 16 * (x : Int) + (y : Int) := (by rw [IntKind.wrap_i64]; omega)
 have hwc : IntKind.u8.wrap (16 * (x : Int) + (y : Int)) = 16 * (x : Int) + (y : Int) := by rw [IntKind.wrap_u8]; omega
 refine wp_region_vals (by kernel_rfl) (by kernel_rfl) (by kernel_rfl) (by kernel_rfl) (SaidJ w0) (SaidV s p x y) ?hJ ?hs ?hq
 case hJ => exact ⟨((Below.refl _ _).alloc (Nat.le_refl _) _).drew, heap_new _ _⟩
 case hs =>
  intro i o ho a w hJ hl
  have hi : i < 19 := (Array.getElem?_eq_some_iff.1 ho).1
  by_cases q9 : i < 9
  ·
   by_cases q4 : i < 4
   ·
    by_cases q2 : i < 2
    ·
     by_cases q1 : i < 1
     ·
      obtain rfl : i = 0 := by omega
      obtain rfl := Option.some.inj ho
      have x0 : a.tmps[0]?.getD undef = (.string s) := hl.free 0 (by kernel_rfl)
      refine wpOp_list rfl rfl ?_
      exact st_run (v := (.string s)) (by go_simp) ⟨_, rfl, rfl, hJ⟩
     ·
      obtain rfl : i = 1 := by omega
      obtain rfl := Option.some.inj ho
      have x1 : a.tmps[1]?.getD undef = (.int .i64 (p : Int)) := hl.free 1 (by kernel_rfl)
      refine wpOp_list rfl rfl ?_
      exact st_run (v := (.int .i64 (p : Int))) (by go_simp) ⟨_, rfl, rfl, hJ⟩
    ·
     by_cases q3 : i < 3
     ·
      obtain rfl : i = 2 := by omega
      obtain rfl := Option.some.inj ho
      have x99 : a.tmps[99]?.getD undef = (.int .i64 (p : Int)) := by obtain ⟨v, h1, h2⟩ := hl.dep 1 99 (by kernel_rfl) (by kernel_rfl); exact h1.trans h2
      refine wpOp_list rfl rfl ?_
      exact st_run (v := (.int .i64 ((p : Int) + 2))) (by go_simp) ⟨_, rfl, rfl, hJ⟩
     ·
      obtain rfl : i = 3 := by omega
      obtain rfl := Option.some.inj ho
      have x98 : a.tmps[98]?.getD undef = (.string s) := by obtain ⟨v, h1, h2⟩ := hl.dep 0 98 (by kernel_rfl) (by kernel_rfl); exact h1.trans h2
      have x100 : a.tmps[100]?.getD undef = (.int .i64 ((p : Int) + 2)) := by obtain ⟨v, h1, h2⟩ := hl.dep 2 100 (by kernel_rfl) (by kernel_rfl); exact h1.trans h2
      refine wpOp_list rfl rfl ?_
      exact st_run (v := (.int .u8 (bat s (p + 2) : Int))) (by go_simp; exact congrArg Nat.cast hb2) ⟨_, rfl, rfl, hJ⟩
   ·
    by_cases q6 : i < 6
    ·
     by_cases q5 : i < 5
     ·
      obtain rfl : i = 4 := by omega
      obtain rfl := Option.some.inj ho
      have x101 : a.tmps[101]?.getD undef = (.int .u8 (bat s (p + 2) : Int)) := by obtain ⟨v, h1, h2⟩ := hl.dep 3 101 (by kernel_rfl) (by kernel_rfl); exact h1.trans h2
      refine wpOp_list rfl rfl ?_
      refine st_call (w' := w) (f := 69) (args := #[(.int .u8 (bat s (p + 2) : Int))]) (by go_simp) ((digitR_c (bat s (p + 2)) (bat_lt s _) _).mono ?_)
      rintro e w'' ⟨rfl, rfl⟩
      exact ⟨_, rfl, _, rfl, congrArg (Value.int .i64) hx, hJ⟩
     ·
      obtain rfl : i = 5 := by omega
      obtain rfl := Option.some.inj ho
      have x102 : a.tmps[102]?.getD undef = (.int .i64 (x : Int)) := by obtain ⟨v, h1, h2⟩ := hl.dep 4 102 (by kernel_rfl) (by kernel_rfl); exact h1.trans h2
      refine wpOp_list rfl rfl ?_
      exact st_run (v := (.int .i64 (16 * (x : Int)))) (by go_simp) ⟨_, rfl, rfl, hJ⟩
    ·
     by_cases q7 : i < 7
     ·
      obtain rfl : i = 6 := by omega
      obtain rfl := Option.some.inj ho
      have x0 : a.tmps[0]?.getD undef = (.string s) := hl.free 0 (by kernel_rfl)
      refine wpOp_list rfl rfl ?_
      exact st_run (v := (.string s)) (by go_simp) ⟨_, rfl, rfl, hJ⟩
     ·
      by_cases q8 : i < 8
      ·
       obtain rfl : i = 7 := by omega
       obtain rfl := Option.some.inj ho
       have x1 : a.tmps[1]?.getD undef = (.int .i64 (p : Int)) := hl.free 1 (by kernel_rfl)
       refine wpOp_list rfl rfl ?_
       exact st_run (v := (.int .i64 (p : Int))) (by go_simp) ⟨_, rfl, rfl, hJ⟩
      ·
       obtain rfl : i = 8 := by omega
       obtain rfl := Option.some.inj ho
       have x105 : a.tmps[105]?.getD undef = (.int .i64 (p : Int)) := by obtain ⟨v, h1, h2⟩ := hl.dep 7 105 (by kernel_rfl) (by kernel_rfl); exact h1.trans h2
       refine wpOp_list rfl rfl ?_
       exact st_run (v := (.int .i64 ((p : Int) + 3))) (by go_simp) ⟨_, rfl, rfl, hJ⟩
  ·
   by_cases q14 : i < 14
   ·
    by_cases q11 : i < 11
    ·
     by_cases q10 : i < 10
     ·
      obtain rfl : i = 9 := by omega
      obtain rfl := Option.some.inj ho
      have x104 : a.tmps[104]?.getD undef = (.string s) := by obtain ⟨v, h1, h2⟩ := hl.dep 6 104 (by kernel_rfl) (by kernel_rfl); exact h1.trans h2
      have x106 : a.tmps[106]?.getD undef = (.int .i64 ((p : Int) + 3)) := by obtain ⟨v, h1, h2⟩ := hl.dep 8 106 (by kernel_rfl) (by kernel_rfl); exact h1.trans h2
      refine wpOp_list rfl rfl ?_
      exact st_run (v := (.int .u8 (bat s (p + 3) : Int))) (by go_simp; exact congrArg Nat.cast hb3) ⟨_, rfl, rfl, hJ⟩
     ·
      obtain rfl : i = 10 := by omega
      obtain rfl := Option.some.inj ho
      have x107 : a.tmps[107]?.getD undef = (.int .u8 (bat s (p + 3) : Int)) := by obtain ⟨v, h1, h2⟩ := hl.dep 9 107 (by kernel_rfl) (by kernel_rfl); exact h1.trans h2
      refine wpOp_list rfl rfl ?_
      refine st_call (w' := w) (f := 69) (args := #[(.int .u8 (bat s (p + 3) : Int))]) (by go_simp) ((digitR_c (bat s (p + 3)) (bat_lt s _) _).mono ?_)
      rintro e w'' ⟨rfl, rfl⟩
      exact ⟨_, rfl, _, rfl, congrArg (Value.int .i64) hy, hJ⟩
    ·
     by_cases q12 : i < 12
     ·
      obtain rfl : i = 11 := by omega
      obtain rfl := Option.some.inj ho
      have x103 : a.tmps[103]?.getD undef = (.int .i64 (16 * (x : Int))) := by obtain ⟨v, h1, h2⟩ := hl.dep 5 103 (by kernel_rfl) (by kernel_rfl); exact h1.trans h2
      have x108 : a.tmps[108]?.getD undef = (.int .i64 (y : Int)) := by obtain ⟨v, h1, h2⟩ := hl.dep 10 108 (by kernel_rfl) (by kernel_rfl); exact h1.trans h2
      refine wpOp_list rfl rfl ?_
      exact st_run (v := (.int .i64 (16 * (x : Int) + (y : Int)))) (by go_simp) ⟨_, rfl, rfl, hJ⟩
     ·
      by_cases q13 : i < 13
      ·
       obtain rfl : i = 12 := by omega
       obtain rfl := Option.some.inj ho
       have x109 : a.tmps[109]?.getD undef = (.int .i64 (16 * (x : Int) + (y : Int))) := by obtain ⟨v, h1, h2⟩ := hl.dep 11 109 (by kernel_rfl) (by kernel_rfl); exact h1.trans h2
       refine wpOp_list rfl rfl ?_
       exact st_run (v := (.int .u8 (16 * (x : Int) + (y : Int)))) (by go_simp) ⟨_, rfl, rfl, hJ⟩
      ·
       obtain rfl : i = 13 := by omega
       obtain rfl := Option.some.inj ho
       have x1 : a.tmps[1]?.getD undef = (.int .i64 (p : Int)) := hl.free 1 (by kernel_rfl)
       refine wpOp_list rfl rfl ?_
       exact st_run (v := (.int .i64 (p : Int))) (by go_simp) ⟨_, rfl, rfl, hJ⟩
   ·
    by_cases q16 : i < 16
    ·
     by_cases q15 : i < 15
     ·
      obtain rfl : i = 14 := by omega
      obtain rfl := Option.some.inj ho
      have x111 : a.tmps[111]?.getD undef = (.int .i64 (p : Int)) := by obtain ⟨v, h1, h2⟩ := hl.dep 13 111 (by kernel_rfl) (by kernel_rfl); exact h1.trans h2
      refine wpOp_list rfl rfl ?_
      exact st_run (v := (.int .i64 ((p : Int) + 4))) (by go_simp) ⟨_, rfl, rfl, hJ⟩
     ·
      obtain rfl : i = 15 := by omega
      obtain rfl := Option.some.inj ho
      refine wpOp_list rfl rfl ?_
      exact st_run (v := (.agg #[.int .i64 0, .int .i64 0])) (by go_simp) ⟨_, rfl, rfl, hJ⟩
    ·
     by_cases q17 : i < 17
     ·
      obtain rfl : i = 16 := by omega
      obtain rfl := Option.some.inj ho
      have x110 : a.tmps[110]?.getD undef = (.int .u8 (16 * (x : Int) + (y : Int))) := by obtain ⟨v, h1, h2⟩ := hl.dep 12 110 (by kernel_rfl) (by kernel_rfl); exact h1.trans h2
      refine wpOp_list rfl rfl ?_
      exact st_run (v := (.int .u8 (16 * (x : Int) + (y : Int)))) (by go_simp) ⟨_, rfl, rfl, hJ⟩
     ·
      by_cases q18 : i < 18
      ·
       obtain rfl : i = 17 := by omega
       obtain rfl := Option.some.inj ho
       have x112 : a.tmps[112]?.getD undef = (.int .i64 ((p : Int) + 4)) := by obtain ⟨v, h1, h2⟩ := hl.dep 14 112 (by kernel_rfl) (by kernel_rfl); exact h1.trans h2
       refine wpOp_list rfl rfl ?_
       exact st_run (v := (.int .i64 ((p : Int) + 4))) (by go_simp) ⟨_, rfl, rfl, hJ⟩
      ·
       obtain rfl : i = 18 := by omega
       obtain rfl := Option.some.inj ho
       have x6 : a.tmps[6]?.getD undef = (.pointer (some ⟨w0.heap.size, 0, none⟩)) := hl.free 6 (by kernel_rfl)
       have x113 : a.tmps[113]?.getD undef = (.agg #[.int .i64 0, .int .i64 0]) := by obtain ⟨v, h1, h2⟩ := hl.dep 15 113 (by kernel_rfl) (by kernel_rfl); exact h1.trans h2
       refine wpOp_list rfl rfl ?_
       exact wp_store_row 35 _ _ rfl w0.heap.size #[.int .i64 0, .int .i64 0] (eval_tmp x6) (eval_tmp x113) 35 _ hJ.2 (by kernel_rfl) rfl (by kernel_rfl) ⟨_, rfl, trivial, below_setRow hJ.1 (Nat.le_refl _) _, setRow_heap _ _ _ _ _ _ hJ.2⟩
 case hq =>
  intro f w hJ hV
  have v4 := hV 16 4 (by kernel_rfl)
  have v5 := hV 17 5 (by kernel_rfl)
  generalize hp : putAll _ f _ _ = a
  have hd : a.defers = [] := by rw [← hp, putAll_defers]
  have h4 : a.tmps[4]? = some (.int .u8 (16 * (x : Int) + (y : Int))) := by
   rw [← hp, putAll_at _ f _ 4 (by simp) 16 (by kernel_rfl) (fun j hj => apart_of (by kernel_rfl) (by kernel_rfl) hj) _ (by decide)]
   exact congrArg some v4
  have h5 : a.tmps[5]? = some (.int .i64 ((p : Int) + 4)) := by
   rw [← hp, putAll_at _ f _ 5 (by simp) 17 (by kernel_rfl) (fun j hj => apart_of (by kernel_rfl) (by kernel_rfl) hj) _ (by decide)]
   exact congrArg some v5
  have h6 : a.tmps[6]? = some (.pointer (some ⟨w0.heap.size, 0, none⟩)) := by
   rw [← hp, putAll_other _ f _ 6 _ (fun i _ h => absurd h (not_dst (by kernel_rfl) i))]
   rfl
  clear hp hV
  have HF := Lib.hid ((sayF_e d1).trans (escF_x hl3 e5 h0 h1))
  obtain ⟨k0, k1, k2, k3⟩ := two_cells hJ.2
  go_wp2
  refine bodyPost_ret (v := .tuple #[.int .u8 (16 * (x : Int) + (y : Int)), .int .i64 ((p : Int) + 4), .agg #[.int .i64 0, .int .i64 0]]) (by simp [results, Try.results62, go_sem, h4, h5, h6, k0, k1]) hd (say_ok HF.out ?_ rfl hJ.1)
  rw [hx, hy]; congr 1
set_option maxRecDepth 100000 in
set_option maxHeartbeats 1000000 in
theorem said_c (s : ByteArray) (hs : s.size ≤ bigN) (p : Nat) (hp : p < s.size) (w : World) : Calls Try.prog 62 #[.string s, .int .i64 (p : Int)] w (Saying p (sayF s p) w) := by
 by_cases hX : bat s p = 92 ∧ p + 3 < s.size ∧ bat s (p + 1) = 120 ∧ 0 ≤ hexv (bat s (p + 2)) ∧ 0 ≤ hexv (bat s (p + 3))
 · obtain ⟨x1, x2, x3, x4, x5⟩ := hX
   exact said_x s hs p hp w x1 (by omega) (by omega) (by omega) (by omega) (by omega) (by omega) (by omega) (by omega) (by omega) (by omega) x3 x2 x4 x5
 have HX := Lib.hid hX; clear hX
 unfold bigN at hs
 have hb := bat_eq s p hp
 have hz0 : (0 : Int) ≤ (p : Int) ∧ (p : Int) < (s.size : Int) := ⟨by omega, by omega⟩
 go_enter Try.func62, Try.ntmps62
 by_cases d1 : bat s p = 92
 · by_cases hlt : p + 1 < s.size
   · have hb1 := bat_eq s (p + 1) hlt
     have hz1 : (0 : Int) ≤ (p : Int) + 1 ∧ (p : Int) + 1 < (s.size : Int) := ⟨by omega, by omega⟩
     by_cases e1 : bat s (p + 1) = 116
     · have HF := Lib.hid ((sayF_e d1).trans (escF_t hlt e1))
       go_wp2
       refine bodyPost_ret (v := .tuple #[.int .u8 9, .int .i64 ((p : Int) + 2), .agg #[.int .i64 0, .int .i64 0]]) (by simp [results, Try.results62, go_sem]) rfl (say_ok HF.out rfl rfl ?_)
       (repeat (first | with_reducible exact Below.refl _ _ | with_reducible apply below_drewN' | with_reducible apply below_drew | with_reducible apply below_allocs | (with_reducible refine below_setA ?_ _ _ (by dsimp only; omega))))
     by_cases e2 : bat s (p + 1) = 110
     · have HF := Lib.hid ((sayF_e d1).trans (escF_n hlt e2))
       go_wp2
       refine bodyPost_ret (v := .tuple #[.int .u8 10, .int .i64 ((p : Int) + 2), .agg #[.int .i64 0, .int .i64 0]]) (by simp [results, Try.results62, go_sem]) rfl (say_ok HF.out rfl rfl ?_)
       (repeat (first | with_reducible exact Below.refl _ _ | with_reducible apply below_drewN' | with_reducible apply below_drew | with_reducible apply below_allocs | (with_reducible refine below_setA ?_ _ _ (by dsimp only; omega))))
     by_cases e3 : bat s (p + 1) = 114
     · have HF := Lib.hid ((sayF_e d1).trans (escF_r hlt e3))
       go_wp2
       refine bodyPost_ret (v := .tuple #[.int .u8 13, .int .i64 ((p : Int) + 2), .agg #[.int .i64 0, .int .i64 0]]) (by simp [results, Try.results62, go_sem]) rfl (say_ok HF.out rfl rfl ?_)
       (repeat (first | with_reducible exact Below.refl _ _ | with_reducible apply below_drewN' | with_reducible apply below_drew | with_reducible apply below_allocs | (with_reducible refine below_setA ?_ _ _ (by dsimp only; omega))))
     by_cases e4 : bat s (p + 1) = 92 ∨ bat s (p + 1) = 93 ∨ bat s (p + 1) = 45 ∨ bat s (p + 1) = 94 ∨ bat s (p + 1) = 39 ∨ bat s (p + 1) = 34
     · have HF := Lib.hid ((sayF_e d1).trans (escF_q hlt e4))
       rcases e4 with e4 | e4 | e4 | e4 | e4 | e4
       all_goals go_wp2
       all_goals
        refine bodyPost_ret (v := .tuple #[.int .u8 ((bat s (p + 1) : Nat) : Int), .int .i64 ((p : Int) + 2), .agg #[.int .i64 0, .int .i64 0]]) (by simp [results, Try.results62, go_sem, e4]) rfl (say_ok HF.out rfl rfl ?_)
        (repeat (first | with_reducible exact Below.refl _ _ | with_reducible apply below_drewN' | with_reducible apply below_drew | with_reducible apply below_allocs | (with_reducible refine below_setA ?_ _ _ (by dsimp only; omega))))
     have e4a : ¬ bat s (p + 1) = 92 := by omega
     have e4b : ¬ bat s (p + 1) = 93 := by omega
     have e4c : ¬ bat s (p + 1) = 45 := by omega
     have e4d : ¬ bat s (p + 1) = 94 := by omega
     have e4e : ¬ bat s (p + 1) = 39 := by omega
     have e4f : ¬ bat s (p + 1) = 34 := by omega
     by_cases e5 : bat s (p + 1) = 120
     · by_cases hl3 : p + 3 < s.size
       · have hl2 : p + 2 < s.size := by omega
         have hb2 := bat_eq s (p + 2) hl2
         have hb3 := bat_eq s (p + 3) hl3
         have hz2 : (0 : Int) ≤ (p : Int) + 2 ∧ (p : Int) + 2 < (s.size : Int) := ⟨by omega, by omega⟩
         have hz3 : (0 : Int) ≤ (p : Int) + 3 ∧ (p : Int) + 3 < (s.size : Int) := ⟨by omega, by omega⟩
         have hx1 := hexv_lo (bat s (p + 2)); have hx2 := hexv_hi (bat s (p + 2)); have hy1 := hexv_lo (bat s (p + 3)); have hy2 := hexv_hi (bat s (p + 3))
         by_cases h0 : 0 ≤ hexv (bat s (p + 2))
         · by_cases h1 : 0 ≤ hexv (bat s (p + 3))
           · exact absurd ⟨d1, hl3, e5, h0, h1⟩ HX.out
           · have HF := Lib.hid ((sayF_e d1).trans (escF_no e1 e2 e3 e4 (fun _ _ _ h => absurd h h1)))
             go_wp2_with (go_at_call 69; refine (digitR_c _ (bat_lt s _) _).mono ?_; rintro e w' ⟨rfl, rfl⟩)
             refine bodyPost_ret (v := .tuple #[.int .u8 0, .int .i64 0, .agg #[.int .i64 (p : Int), .int .i64 42]]) (by simp [results, Try.results62, go_sem]) rfl (say_bad HF.out (by decide) rfl ?_)
             (repeat (first | with_reducible exact Below.refl _ _ | with_reducible apply below_drewN' | with_reducible apply below_drew | with_reducible apply below_allocs | (with_reducible refine below_setA ?_ _ _ (by dsimp only; omega))))
         · have HF := Lib.hid ((sayF_e d1).trans (escF_no e1 e2 e3 e4 (fun _ _ h _ => absurd h h0)))
           go_wp2_with (go_at_call 69; refine (digitR_c _ (bat_lt s _) _).mono ?_; rintro e w' ⟨rfl, rfl⟩)
           refine bodyPost_ret (v := .tuple #[.int .u8 0, .int .i64 0, .agg #[.int .i64 (p : Int), .int .i64 42]]) (by simp [results, Try.results62, go_sem]) rfl (say_bad HF.out (by decide) rfl ?_)
           (repeat (first | with_reducible exact Below.refl _ _ | with_reducible apply below_drewN' | with_reducible apply below_drew | with_reducible apply below_allocs | (with_reducible refine below_setA ?_ _ _ (by dsimp only; omega))))
       · have HF := Lib.hid ((sayF_e d1).trans (escF_no e1 e2 e3 e4 (fun _ h => absurd h hl3)))
         go_wp2
         refine bodyPost_ret (v := .tuple #[.int .u8 0, .int .i64 0, .agg #[.int .i64 (p : Int), .int .i64 42]]) (by simp [results, Try.results62, go_sem]) rfl (say_bad HF.out (by decide) rfl ?_)
         (repeat (first | with_reducible exact Below.refl _ _ | with_reducible apply below_drewN' | with_reducible apply below_drew | with_reducible apply below_allocs | (with_reducible refine below_setA ?_ _ _ (by dsimp only; omega))))
     · have HF := Lib.hid ((sayF_e d1).trans (escF_no e1 e2 e3 e4 (fun h => absurd h e5)))
       go_wp2
       refine bodyPost_ret (v := .tuple #[.int .u8 0, .int .i64 0, .agg #[.int .i64 (p : Int), .int .i64 42]]) (by simp [results, Try.results62, go_sem]) rfl (say_bad HF.out (by decide) rfl ?_)
       (repeat (first | with_reducible exact Below.refl _ _ | with_reducible apply below_drewN' | with_reducible apply below_drew | with_reducible apply below_allocs | (with_reducible refine below_setA ?_ _ _ (by dsimp only; omega))))
   · have HF := Lib.hid ((sayF_e d1).trans (escF_end hlt))
     go_wp2
     refine bodyPost_ret (v := .tuple #[.int .u8 0, .int .i64 0, .agg #[.int .i64 (p : Int), .int .i64 42]]) (by simp [results, Try.results62, go_sem]) rfl (say_bad HF.out (by decide) rfl ?_)
     (repeat (first | with_reducible exact Below.refl _ _ | with_reducible apply below_drewN' | with_reducible apply below_drew | with_reducible apply below_allocs | (with_reducible refine below_setA ?_ _ _ (by dsimp only; omega))))
 · go_wp2
   all_goals (try simp only [beq_iff_eq, beq_eq_false_iff_ne, ne_eq] at *)
   all_goals first
    | (refine bodyPost_ret (v := .tuple #[.int .u8 0, .int .i64 0, .agg #[.int .i64 (p : Int), .int .i64 30]]) (by simp [results, Try.results62, go_sem]) rfl (say_bad (sayF_bar d1 ?_) (by decide) rfl ?_)
       · (unfold barred; omega)
       · (repeat (first | with_reducible exact Below.refl _ _ | with_reducible apply below_drewN' | with_reducible apply below_drew | with_reducible apply below_allocs | (with_reducible refine below_setA ?_ _ _ (by dsimp only; omega)))))
    | (refine bodyPost_ret (v := .tuple #[.int .u8 ((bat s p : Nat) : Int), .int .i64 ((p : Int) + 1), .agg #[.int .i64 0, .int .i64 0]]) (by simp [results, Try.results62, go_sem]) rfl (say_ok (sayF_ok d1 ?_) rfl rfl ?_)
       · (unfold barred; omega)
       · (repeat (first | with_reducible exact Below.refl _ _ | with_reducible apply below_drewN' | with_reducible apply below_drew | with_reducible apply below_allocs | (with_reducible refine below_setA ?_ _ _ (by dsimp only; omega)))))
end Go.Proofs.Ytldjdcdoegjmoaa
set_option linter.unusedVariables false
set_option linter.unusedSimpArgs false
namespace Go.Proofs.Ytldjdcdoegjmoaa
open Go.RowKit
def Parsed (r : Cls × Nat × Nat × Nat) (w : World) (e : Ending) (w' : World) : Prop := e = .returned (parseV r) ∧ Below w.heap.size w w'
theorem prs_mk {r q : Cls × Nat × Nat × Nat} {w w' : World} {a b c d : Int} (hr : r = q) (ha : a = q.1.c0) (hb : b = q.1.c1) (hc : c = q.1.c2) (hd : d = q.1.c3) {n x y : Int} (hn : n = q.2.1) (hx : x = q.2.2.1) (hy : y = q.2.2.2) (h : Below w.heap.size w w') :
 Parsed r w (.returned (.tuple #[.agg #[.int .u64 a, .int .u64 b, .int .u64 c, .int .u64 d], .int .i64 n, .agg #[.int .i64 x, .int .i64 y]])) w' := by
 subst hr ha hb hc hd hn hx hy; exact ⟨rfl, h⟩
theorem parseI_out {s : ByteArray} {n : Int} (h : n < 0 ∨ (s.size : Int) < n) : parseI s n = (Cls.none, 0, 0, 5) := if_pos h
theorem parseF_no {s : ByteArray} {p : Nat} (h : ¬ (p < s.size ∧ bat s p = 91)) : parseF s p = (Cls.none, 0, p, 30) := if_neg h
theorem parseF_bad {s : ByteArray} {p q0 m pl c : Nat} {L : List (Nat × Nat)} (h : p < s.size ∧ bat s p = 91) (hq : q0 = if p + 1 < s.size ∧ bat s (p + 1) = 94 then p + 1 + 1 else p + 1) (hT : itemsF s p (s.size + 1) q0 [] = (L, m, pl, c)) (hc : c ≠ 0) :
 parseF s p = (Cls.none, 0, pl, c) := by
 unfold parseF
 rw [if_pos h]
 dsimp only
 rw [← hq, hT]
 exact if_neg hc
theorem parseF_good {s : ByteArray} {p q0 m : Nat} {L : List (Nat × Nat)} {o : Bool} (h : p < s.size ∧ bat s p = 91) (ho : o = decide (p + 1 < s.size ∧ bat s (p + 1) = 94)) (hq : q0 = if p + 1 < s.size ∧ bat s (p + 1) = 94 then p + 1 + 1 else p + 1) (hT : itemsF s p (s.size + 1) q0 [] = (L, m, 0, 0)) :
 parseF s p = (if o then (Cls.ofFn (inRanges L)).not else Cls.ofFn (inRanges L), m, 0, 0) := by
 unfold parseF
 rw [if_pos h]
 dsimp only
 rw [← hq, hT, ho]
 simp
theorem itemsF_step {s : ByteArray} {b k q : Nat} {l : List (Nat × Nat)} {x y r pl : Nat} (h : ¬ (q < s.size ∧ bat s q = 93)) (hi : itemF s b q = (x, y, r, pl, 0)) : itemsF s b (k + 1) q l = itemsF s b k r (l ++ [(x, y)]) := by
 rw [itemsF, if_neg h, hi]; rfl
theorem itemsF_bad {s : ByteArray} {b k q : Nat} {l : List (Nat × Nat)} {x y r pl c : Nat} (h : ¬ (q < s.size ∧ bat s q = 93)) (hi : itemF s b q = (x, y, r, pl, c)) (hc : c ≠ 0) : itemsF s b (k + 1) q l = ([], 0, pl, c) := by
 rw [itemsF, if_neg h, hi]; exact if_neg hc
theorem itemsF_end {s : ByteArray} {b k q : Nat} {l : List (Nat × Nat)} (h : q < s.size ∧ bat s q = 93) : itemsF s b (k + 1) q l = (l, q + 1, 0, 0) := by rw [itemsF, if_pos h]
theorem four_cells {w : World} {k : Nat} {u v x y : Value} {t : TypeId} (h : w.heap[k]? = some (.cells #[u, v, x, y] t (0, 0))) : (w.cell? ⟨k, 0, none⟩ = some u ∧ w.cell? ⟨k, 1, none⟩ = some v ∧ w.cell? ⟨k, 2, none⟩ = some x ∧ w.cell? ⟨k, 3, none⟩ = some y) ∧ (w.frozen? ⟨k, 0, none⟩ = false ∧ w.frozen? ⟨k, 1, none⟩ = false ∧ w.frozen? ⟨k, 2, none⟩ = false ∧ w.frozen? ⟨k, 3, none⟩ = false) :=
 ⟨⟨by rw [cell_of_row _ _ _ _ _ _ h]; rfl, by rw [cell_of_row _ _ _ _ _ _ h]; rfl, by rw [cell_of_row _ _ _ _ _ _ h]; rfl, by rw [cell_of_row _ _ _ _ _ _ h]; rfl⟩, frozen_of_row _ _ _ _ _ h, frozen_of_row _ _ _ _ _ h, frozen_of_row _ _ _ _ _ h, frozen_of_row _ _ _ _ _ h⟩
def setFour (w : World) (k : Nat) (x0 x1 x2 x3 : Value) : World := (((w.setCell ⟨k, 0, none⟩ x0).setCell ⟨k, 1, none⟩ x1).setCell ⟨k, 2, none⟩ x2).setCell ⟨k, 3, none⟩ x3
theorem set_four {w : World} {k : Nat} {a b c d x0 x1 x2 x3 : Value} {t : TypeId} (h : w.heap[k]? = some (.cells #[a, b, c, d] t (0, 0))) : (setFour w k x0 x1 x2 x3).heap[k]? = some (.cells #[x0, x1, x2, x3] t (0, 0)) := heap_put (heap_put (heap_put (heap_put h)))
theorem four_other {w : World} {k j : Nat} {x0 x1 x2 x3 : Value} {o : Obj} (hne : j ≠ k) (h : w.heap[j]? = some o) : (setFour w k x0 x1 x2 x3).heap[j]? = some o := heap_other hne (heap_other hne (heap_other hne (heap_other hne h)))
def smallN : Nat := 70368744175616
theorem small_big {s : ByteArray} (h : s.size ≤ smallN) : s.size ≤ bigN := by unfold smallN at h; unfold bigN; omega
set_option maxRecDepth 100000 in
set_option maxHeartbeats 1000000 in
theorem parse_c (s : ByteArray) (hs : s.size ≤ smallN) (n : Int) (hn : -9223372036854775808 ≤ n ∧ n ≤ 9223372036854775807) (w : World) : Calls Try.prog 40 #[.string s, .int .i64 n] w (Parsed (parseI s n) w) := by
 have hsb := small_big hs
 unfold smallN at hs
 by_cases hout : n < 0 ∨ (s.size : Int) < n
 · have HF := Lib.hid (parseI_out hout)
   go_enter Try.func40, Try.ntmps40
   rcases hout with h | h
   · go_wp2
     refine bodyPost_ret (v := .tuple #[.agg #[.int .u64 0, .int .u64 0, .int .u64 0, .int .u64 0], .int .i64 0, .agg #[.int .i64 0, .int .i64 5]]) (by simp [results, Try.results40, go_sem]) rfl (prs_mk HF.out rfl rfl rfl rfl rfl rfl rfl ?_)
     (repeat (first | with_reducible exact Below.refl _ _ | with_reducible apply below_drewN' | with_reducible apply below_drew | with_reducible apply below_allocs | (with_reducible refine below_setA ?_ _ _ (by dsimp only; omega))))
   · have h' : ¬ n < 0 := by omega
     go_wp2
     refine bodyPost_ret (v := .tuple #[.agg #[.int .u64 0, .int .u64 0, .int .u64 0, .int .u64 0], .int .i64 0, .agg #[.int .i64 0, .int .i64 5]]) (by simp [results, Try.results40, go_sem]) rfl (prs_mk HF.out rfl rfl rfl rfl rfl rfl rfl ?_)
     (repeat (first | with_reducible exact Below.refl _ _ | with_reducible apply below_drewN' | with_reducible apply below_drew | with_reducible apply below_allocs | (with_reducible refine below_setA ?_ _ _ (by dsimp only; omega))))
 · obtain ⟨p, rfl⟩ : ∃ p : Nat, n = (p : Int) := ⟨n.toNat, by omega⟩
   have hp : p ≤ s.size := by omega
   have hI : parseI s (p : Int) = parseF s p := if_neg hout
   have hb := bat_eq s p
   by_cases h91 : p < s.size ∧ bat s p = 91
   · obtain ⟨hlt, h9⟩ := h91
     have hb' := hb hlt
     have hz0 : (0 : Int) ≤ (p : Int) ∧ (p : Int) < (s.size : Int) := ⟨by omega, by omega⟩
     go_enter Try.func40, Try.ntmps40
     obtain ⟨o, ho⟩ : ∃ o : Bool, o = decide (p + 1 < s.size ∧ bat s (p + 1) = 94) := ⟨_, rfl⟩
     obtain ⟨q0, hq0⟩ : ∃ q0 : Nat, q0 = if p + 1 < s.size ∧ bat s (p + 1) = 94 then p + 1 + 1 else p + 1 := ⟨_, rfl⟩
     have hq0' : q0 ≤ s.size := by rw [hq0]; split <;> omega
     have HO := Lib.hid ho; have HQ := Lib.hid hq0; clear ho hq0
     go_wp2_with (go_at_call 54; refine (skip_c s hsb p (p + 1) (w.heap.size + 2) 94 (by decide) (by omega) _ (heap_new2 _ _ _ _)).mono ?_; rintro e w1 ⟨rfl, hgb, hr⟩; rw [← HO.out]; rw [← HQ.out] at hr)
     have hz1 := gb_heap (k := w.heap.size) (o := .cells #[.int .u64 0, .int .u64 0, .int .u64 0, .int .u64 0] 26 (0, 0)) hgb (heap_keep (heap_keep (heap_new _ _))) (by omega)
     have hz2 := gb_heap (k := w.heap.size + 1) (o := .cells #[.int .i64 0, .int .i64 0] 31 (0, 0)) hgb (heap_keep (heap_new1 _ _ _)) (by omega)
     have hB1 : Below w.heap.size w w1 := Below.grown (by (repeat (first | with_reducible exact Below.refl _ _ | with_reducible apply below_drewN' | with_reducible apply below_drew | with_reducible apply below_allocs | (with_reducible refine below_setA ?_ _ _ (by dsimp only; omega))))) hgb (by simp only [World.size_alloc]; omega) (fun k hk => by cases hk; omega)
     have Z1 := Lib.hid hz1; have Z2 := Lib.hid hz2; have HR := Lib.hid hr; have HB1 := Lib.hid hB1; clear hz1 hz2 hr hB1
     have HI := Lib.hid hI; clear hI
     obtain ⟨T, hT⟩ : ∃ T, T = itemsF s p (s.size + 1) q0 [] := ⟨_, rfl⟩
     have HT := Lib.hid hT; clear hT
     go_loopw [9] (fun v wr => ∃ (k q : Nat) (l : List (Nat × Nat)), wr.ownsRow w.heap.size 77 2 v l.length (rcells l) ∧ lenOf v = l.length ∧ (∀ x ∈ l, x.1 < 256 ∧ x.2 < 256) ∧ l.length ≤ q ∧ q ≤ s.size ∧ s.size < q + k ∧ itemsF s p k q l = T ∧
      RdAt wr (w.heap.size + 2) s p q ∧ Below w.heap.size w wr ∧ wr.heap[w.heap.size]? = some (.cells #[.int .u64 0, .int .u64 0, .int .u64 0, .int .u64 0] 26 (0, 0)) ∧ wr.heap[w.heap.size + 1]? = some (.cells #[.int .i64 0, .int .i64 0] 31 (0, 0))) (fun v _ => s.size + 1 - lenOf v)
     case atStart => exact ⟨s.size + 1, q0, [], World.ownsRow_nil _ _ _ _, rfl, by simp, by simp, hq0', by omega, HT.out.symm, HR.out, HB1.out, Z1.out, Z2.out⟩
     case round =>
      obtain ⟨k, q, l, hO, hl, hby, hlq, hqs, hk, hE, hR, hB, h1, h2⟩ := hrel
      have hg2 : w.heap.size + 2 < wr.heap.size := heap_lt hR
      have hne := own_ne hO hR (by decide)
      obtain ⟨wo, rfl⟩ : ∃ wo : World, wo = wr := ⟨_, rfl⟩
      have hO1 := hO.1
      have EO := Lib.hid hO; have EL := Lib.hid hl; have EB := Lib.hid hby; have ER := Lib.hid hR; have EW := Lib.hid hB; have E1 := Lib.hid h1; have E2 := Lib.hid h2; have EE := Lib.hid hE; have EN := Lib.hid hne
      clear hO hl hby hR hB h1 h2 hE hne hO1
      by_cases d : q < s.size ∧ bat s q = 93
      · obtain ⟨k', rfl⟩ : ∃ k', k = k' + 1 := ⟨k - 1, by omega⟩
        have ET := Lib.hid ((HT.out.symm.trans EE.out.symm).trans (itemsF_end d))
        have HF := Lib.hid (HI.out.trans (parseF_good ⟨hlt, h9⟩ HO.out HQ.out ET.out))
        cases o
        · go_wp2_with (first | (go_at_call 56; refine (of_c A l.length cap l _ RD.out).mono ?_; rintro e w3 ⟨rfl, hb3⟩; unfold V4; have hz3 := hb3.size; have B3 := Lib.hid (B2.out.trans (hb3.mono B2.out.size)); have g1 := heap_same hb3 G1.out; have g2 := heap_same hb3 G2.out; have r3 : RdAt w3 (w.heap.size + 2) s p (q + 1) := heap_same hb3 R2.out; have hlt2 := heap_lt R2.out; clear hb3) | (go_at_call 54; refine (skip_c s hsb p q (w.heap.size + 2) 93 (by decide) hqs _ ER.out).mono ?_; rintro e w2 ⟨he, hgb2, hr2⟩; rw [decide_eq_true d] at he; rw [if_pos d] at hr2; subst he; have hz2 := hgb2.size; obtain ⟨A, cap, hv, hrd⟩ := own_ranges (EO.out.kept hgb2 (.inr EN.out)) (by omega) EB.out; subst hv; have g1 := gb_heap hgb2 E1.out (by omega); have g2 := gb_heap hgb2 E2.out (by omega); have hB2 := Below.grown EW.out hgb2 (by have := heap_lt ER.out; omega) (fun k hk => by cases hk; omega); have G1 := Lib.hid g1; have G2 := Lib.hid g2; have R2 := Lib.hid hr2; have RD := Lib.hid hrd; have B2 := Lib.hid hB2; clear g1 g2 hr2 hrd hB2))
          have g3 := heap_keep (o := .cells #[.int .u64 ((Cls.ofFn (inRanges l)).c0 : Int), .int .u64 ((Cls.ofFn (inRanges l)).c1 : Int), .int .u64 ((Cls.ofFn (inRanges l)).c2 : Int), .int .u64 ((Cls.ofFn (inRanges l)).c3 : Int)] 26 (0, 0)) g1
          have g4 := heap_keep (o := .cells #[.int .u64 ((Cls.ofFn (inRanges l)).c0 : Int), .int .u64 ((Cls.ofFn (inRanges l)).c1 : Int), .int .u64 ((Cls.ofFn (inRanges l)).c2 : Int), .int .u64 ((Cls.ofFn (inRanges l)).c3 : Int)] 26 (0, 0)) g2
          have r4 := r3.alloc (.cells #[.int .u64 ((Cls.ofFn (inRanges l)).c0 : Int), .int .u64 ((Cls.ofFn (inRanges l)).c1 : Int), .int .u64 ((Cls.ofFn (inRanges l)).c2 : Int), .int .u64 ((Cls.ofFn (inRanges l)).c3 : Int)] 26 (0, 0))
          obtain ⟨⟨c0, c1, c2, c3⟩, c4, c5, c6, c7⟩ := four_cells g3
          obtain ⟨d0, d1, d2, d3⟩ := two_cells g4
          have d4 := r4.c2
          go_region
          go_wp2
          refine bodyPost_ret (v := .tuple #[.agg #[.int .u64 ((Cls.ofFn (inRanges l)).c0 : Int), .int .u64 ((Cls.ofFn (inRanges l)).c1 : Int), .int .u64 ((Cls.ofFn (inRanges l)).c2 : Int), .int .u64 ((Cls.ofFn (inRanges l)).c3 : Int)], .int .i64 ((q : Int) + 1), .agg #[.int .i64 0, .int .i64 0]]) (by simp [results, Try.results40, go_sem, c0, c1, c2, c3, d0, d1]) rfl (prs_mk HF.out rfl rfl rfl rfl rfl rfl rfl ?_)
          (repeat (first | with_reducible exact Below.refl _ _ | with_reducible apply below_drewN' | with_reducible apply below_drew | with_reducible apply below_allocs | (with_reducible refine below_setA ?_ _ _ (by dsimp only; omega))))
          exact B3.out
        · go_wp2_with (first | (go_at_call 57; refine (not_c (Cls.ofFn (inRanges l)) (Cls.ok_ofFn _) _).mono ?_; rintro e w4 ⟨rfl, hb4⟩; unfold V4; have hz4 := hb4.size; simp only [World.size_alloc] at hz4; have N0 := Lib.hid (heap_same hb4 (heap_new w3 (.cells #[.int .u64 ((Cls.ofFn (inRanges l)).c0 : Int), .int .u64 ((Cls.ofFn (inRanges l)).c1 : Int), .int .u64 ((Cls.ofFn (inRanges l)).c2 : Int), .int .u64 ((Cls.ofFn (inRanges l)).c3 : Int)] 26 (0, 0)))); have N1 := Lib.hid (heap_same hb4 (heap_keep (o := .cells #[.int .u64 ((Cls.ofFn (inRanges l)).c0 : Int), .int .u64 ((Cls.ofFn (inRanges l)).c1 : Int), .int .u64 ((Cls.ofFn (inRanges l)).c2 : Int), .int .u64 ((Cls.ofFn (inRanges l)).c3 : Int)] 26 (0, 0)) g1)); have N2 := Lib.hid (heap_same hb4 (heap_keep (o := .cells #[.int .u64 ((Cls.ofFn (inRanges l)).c0 : Int), .int .u64 ((Cls.ofFn (inRanges l)).c1 : Int), .int .u64 ((Cls.ofFn (inRanges l)).c2 : Int), .int .u64 ((Cls.ofFn (inRanges l)).c3 : Int)] 26 (0, 0)) g2)); have N3 := Lib.hid (heap_same hb4 (heap_keep (o := .cells #[.int .u64 ((Cls.ofFn (inRanges l)).c0 : Int), .int .u64 ((Cls.ofFn (inRanges l)).c1 : Int), .int .u64 ((Cls.ofFn (inRanges l)).c2 : Int), .int .u64 ((Cls.ofFn (inRanges l)).c3 : Int)] 26 (0, 0)) r3)); have B4 := Lib.hid ((below_allocs B3.out (.cells #[.int .u64 ((Cls.ofFn (inRanges l)).c0 : Int), .int .u64 ((Cls.ofFn (inRanges l)).c1 : Int), .int .u64 ((Cls.ofFn (inRanges l)).c2 : Int), .int .u64 ((Cls.ofFn (inRanges l)).c3 : Int)] 26 (0, 0))).trans (hb4.mono (by have := B3.out.size; simp only [World.size_alloc]; omega))); clear hb4; obtain ⟨⟨y0, y1, y2, y3⟩, y4, y5, y6, y7⟩ := four_cells N0.out) | (go_at_call 56; refine (of_c A l.length cap l _ RD.out).mono ?_; rintro e w3 ⟨rfl, hb3⟩; unfold V4; have hz3 := hb3.size; have B3 := Lib.hid (B2.out.trans (hb3.mono B2.out.size)); have g1 := heap_same hb3 G1.out; have g2 := heap_same hb3 G2.out; have r3 : RdAt w3 (w.heap.size + 2) s p (q + 1) := heap_same hb3 R2.out; have hlt2 := heap_lt R2.out; clear hb3) | (go_at_call 54; refine (skip_c s hsb p q (w.heap.size + 2) 93 (by decide) hqs _ ER.out).mono ?_; rintro e w2 ⟨he, hgb2, hr2⟩; rw [decide_eq_true d] at he; rw [if_pos d] at hr2; subst he; have hz2 := hgb2.size; obtain ⟨A, cap, hv, hrd⟩ := own_ranges (EO.out.kept hgb2 (.inr EN.out)) (by omega) EB.out; subst hv; have g1 := gb_heap hgb2 E1.out (by omega); have g2 := gb_heap hgb2 E2.out (by omega); have hB2 := Below.grown EW.out hgb2 (by have := heap_lt ER.out; omega) (fun k hk => by cases hk; omega); have G1 := Lib.hid g1; have G2 := Lib.hid g2; have R2 := Lib.hid hr2; have RD := Lib.hid hrd; have B2 := Lib.hid hB2; clear g1 g2 hr2 hrd hB2))
          have M0 := set_four (x0 := .int .u64 ((Cls.ofFn (inRanges l)).not.c0 : Int)) (x1 := .int .u64 ((Cls.ofFn (inRanges l)).not.c1 : Int)) (x2 := .int .u64 ((Cls.ofFn (inRanges l)).not.c2 : Int)) (x3 := .int .u64 ((Cls.ofFn (inRanges l)).not.c3 : Int)) N0.out
          have M1 := four_other (x0 := .int .u64 ((Cls.ofFn (inRanges l)).not.c0 : Int)) (x1 := .int .u64 ((Cls.ofFn (inRanges l)).not.c1 : Int)) (x2 := .int .u64 ((Cls.ofFn (inRanges l)).not.c2 : Int)) (x3 := .int .u64 ((Cls.ofFn (inRanges l)).not.c3 : Int)) (show w.heap.size ≠ w3.heap.size by omega) N1.out
          have M2 := four_other (x0 := .int .u64 ((Cls.ofFn (inRanges l)).not.c0 : Int)) (x1 := .int .u64 ((Cls.ofFn (inRanges l)).not.c1 : Int)) (x2 := .int .u64 ((Cls.ofFn (inRanges l)).not.c2 : Int)) (x3 := .int .u64 ((Cls.ofFn (inRanges l)).not.c3 : Int)) (show w.heap.size + 1 ≠ w3.heap.size by omega) N2.out
          have M3 : RdAt (setFour w4 w3.heap.size (.int .u64 ((Cls.ofFn (inRanges l)).not.c0 : Int)) (.int .u64 ((Cls.ofFn (inRanges l)).not.c1 : Int)) (.int .u64 ((Cls.ofFn (inRanges l)).not.c2 : Int)) (.int .u64 ((Cls.ofFn (inRanges l)).not.c3 : Int))) (w.heap.size + 2) s p (q + 1) := four_other (show w.heap.size + 2 ≠ w3.heap.size by omega) N3.out
          unfold setFour at M0 M1 M2 M3
          obtain ⟨⟨a0, a1, a2, a3⟩, _, _, _, _⟩ := four_cells M0
          obtain ⟨⟨c0, c1, c2, c3⟩, c4, c5, c6, c7⟩ := four_cells M1
          obtain ⟨d0, d1, d2, d3⟩ := two_cells M2
          have d4 := M3.c2
          go_region
          go_wp2
          refine bodyPost_ret (v := .tuple #[.agg #[.int .u64 (((Cls.ofFn (inRanges l)).not).c0 : Int), .int .u64 (((Cls.ofFn (inRanges l)).not).c1 : Int), .int .u64 (((Cls.ofFn (inRanges l)).not).c2 : Int), .int .u64 (((Cls.ofFn (inRanges l)).not).c3 : Int)], .int .i64 ((q : Int) + 1), .agg #[.int .i64 0, .int .i64 0]]) (by simp [results, Try.results40, go_sem, c0, c1, c2, c3, d0, d1]) rfl (prs_mk HF.out rfl rfl rfl rfl rfl rfl rfl ?_)
          (repeat (first | with_reducible exact Below.refl _ _ | with_reducible apply below_drewN' | with_reducible apply below_drew | with_reducible apply below_allocs | (with_reducible refine below_setA ?_ _ _ (by dsimp only; omega))))
          exact B4.out
      · obtain ⟨x, y, r, pl, c, hF⟩ : ∃ x y r pl c, itemF s p q = (x, y, r, pl, c) := ⟨_, _, _, _, _, rfl⟩
        have hnx := itemF_next s p q hqs
        have hon := itemF_on s p q hqs
        have hxy := itemF_bytes s p q
        rw [hF] at hnx hon hxy
        dsimp only at hnx hon hxy
        have EI := Lib.hid hF; clear hF
        obtain ⟨k', rfl⟩ : ∃ k', k = k' + 1 := ⟨k - 1, by omega⟩
        by_cases hc : c = 0
        · subst hc
          have hon' := hon rfl
          clear hon
          have EE' := Lib.hid (itemsF_step (l := l) (k := k') d EI.out)
          go_wp2_with (first | (go_at_call 55; refine (item_c s hsb p q (w.heap.size + 2) hqs _ hr2).mono ?_; rintro e w3 ⟨rfl, hgb3, hr3⟩; rw [EI.out] at hr3 ⊢; dsimp only at hr3 ⊢; have hgb4 := Go.Lib.grownBy_trans hgb2 hgb3; have hz := hgb4.size; have g1 := gb_heap hgb4 E1.out (by omega); have g2 := gb_heap hgb4 E2.out (by omega); have hOw := EO.out.kept hgb4 (.inr EN.out); have hBw := Below.grown EW.out hgb4 (by have := heap_lt ER.out; omega) (fun k hk => by cases hk; omega)) | (go_at_call 54; refine (skip_c s hsb p q (w.heap.size + 2) 93 (by decide) hqs _ ER.out).mono ?_; rintro e w2 ⟨he, hgb2, hr2⟩; rw [decide_eq_false d] at he; rw [if_neg d] at hr2; subst he) | (at_builtin; go_must (refine app1 (w0 := w) w.heap.size rfl (.tmp 57) (.tmp 59) 75 77 (.agg #[.int .u8 0, .int .u8 0]) 2 2 rfl Try.underlying75 infoRng rfl (by decide) _ _ _ #[.int .u8 (x : Int), .int .u8 (y : Int)] rfl (by simp [Value.oneCell']) rfl (by simp only [World.size_alloc]; rfl) (own_below hOw (by (repeat (first | with_reducible exact Below.refl _ _ | with_reducible apply below_drewN' | with_reducible apply below_drew | with_reducible apply below_allocs | (with_reducible refine below_setA ?_ _ _ (by dsimp only; omega)))))) (by (repeat (first | with_reducible exact Below.refl _ _ | with_reducible apply below_drewN' | with_reducible apply below_drew | with_reducible apply below_allocs | (with_reducible refine below_setA ?_ _ _ (by dsimp only; omega)))); exact hBw) (by simp only [World.size_alloc]; omega) (by omega) (by omega) ?_); intro gq cq w4 hO4 hB4 hk4 hs4))
          go_roundw
          case rel =>
           refine ⟨k', r, l ++ [(x, y)], ?_, ?_, ?_, ?_, hnx.2, by omega, EE'.out.symm.trans EE.out, hk4 _ _ (heap_keep (heap_keep hr3)) (own_ne hOw hr3 (by decide)), hB4, hk4 _ _ (heap_keep (heap_keep g1)) (own_ne hOw g1 (by decide)), hk4 _ _ (heap_keep (heap_keep g2)) (own_ne hOw g2 (by decide))⟩
           · rw [rcells_snoc, List.length_append]; exact hO4
           · simp [lenOf]
           · intro z hz
             rcases List.mem_append.1 hz with hz | hz
             · exact EB.out z hz
             · obtain rfl := List.mem_singleton.1 hz
               exact hxy
           · rw [List.length_append, List.length_singleton]; omega
          case measure =>
           have e := EL.out
           show s.size + 1 - (l.length + 1) < s.size + 1 - lenOf _
           rw [e]; omega
        · clear hon
          have ET := Lib.hid ((HT.out.symm.trans EE.out.symm).trans (itemsF_bad d EI.out hc))
          have HF := Lib.hid (HI.out.trans (parseF_bad ⟨hlt, h9⟩ HQ.out ET.out hc))
          go_wp2_with (first | (go_at_call 55; refine (item_c s hsb p q (w.heap.size + 2) hqs _ hr2).mono ?_; rintro e w3 ⟨rfl, hgb3, hr3⟩; rw [EI.out] at hr3 ⊢; dsimp only at hr3 ⊢; have hgb4 := Go.Lib.grownBy_trans hgb2 hgb3; have hz := hgb4.size; have g1 := gb_heap hgb4 E1.out (by omega); have g2 := gb_heap hgb4 E2.out (by omega); have hOw := EO.out.kept hgb4 (.inr EN.out); have hBw := Below.grown EW.out hgb4 (by have := heap_lt ER.out; omega) (fun k hk => by cases hk; omega); have g3 := heap_keep (o := .cells #[.int .u8 (x : Int), .int .u8 (y : Int)] 77 (0, 0)) g1; have g4 := heap_keep (o := .cells #[.int .i64 (pl : Int), .int .i64 (c : Int)] 31 (0, 0)) g3; have g5 := heap_keep (o := .cells #[.int .u8 (x : Int), .int .u8 (y : Int)] 77 (0, 0)) g2; have g6 := heap_keep (o := .cells #[.int .i64 (pl : Int), .int .i64 (c : Int)] 31 (0, 0)) g5; obtain ⟨⟨c0, c1, c2, c3⟩, c4, c5, c6, c7⟩ := four_cells g4; obtain ⟨d0, d1, d2, d3⟩ := two_cells g6) | (go_at_call 54; refine (skip_c s hsb p q (w.heap.size + 2) 93 (by decide) hqs _ ER.out).mono ?_; rintro e w2 ⟨he, hgb2, hr2⟩; rw [decide_eq_false d] at he; rw [if_neg d] at hr2; subst he))
          go_region
          go_wp2
          refine bodyPost_ret (v := .tuple #[.agg #[.int .u64 0, .int .u64 0, .int .u64 0, .int .u64 0], .int .i64 0, .agg #[.int .i64 (pl : Int), .int .i64 (c : Int)]]) (by simp [results, Try.results40, go_sem, c0, c1, c2, c3, d0, d1]) rfl (prs_mk HF.out rfl rfl rfl rfl rfl rfl rfl ?_)
          (repeat (first | with_reducible exact Below.refl _ _ | with_reducible apply below_drewN' | with_reducible apply below_drew | with_reducible apply below_allocs | (with_reducible refine below_setA ?_ _ _ (by dsimp only; omega))))
          exact hBw
   · have HF : Hid (parseI s (p : Int) = (Cls.none, 0, p, 30)) := Lib.hid (by rw [hI]; exact parseF_no h91)
     go_enter Try.func40, Try.ntmps40
     by_cases hlt : p < s.size
     · have h9' : ¬ bat s p = 91 := fun q => h91 ⟨hlt, q⟩
       have h9 : ¬ ((bat s p : Nat) : Int) = 91 := by omega
       have h9b : (((bat s p : Nat) : Int) != 91) = true := by simp; omega
       have hb' := hb hlt
       have hz0 : (0 : Int) ≤ (p : Int) ∧ (p : Int) < (s.size : Int) := ⟨by omega, by omega⟩
       go_wp2
       refine bodyPost_ret (v := .tuple #[.agg #[.int .u64 0, .int .u64 0, .int .u64 0, .int .u64 0], .int .i64 0, .agg #[.int .i64 (p : Int), .int .i64 30]]) (by simp [results, Try.results40, go_sem]) rfl (prs_mk HF.out rfl rfl rfl rfl rfl rfl rfl ?_)
       (repeat (first | with_reducible exact Below.refl _ _ | with_reducible apply below_drewN' | with_reducible apply below_drew | with_reducible apply below_allocs | (with_reducible refine below_setA ?_ _ _ (by dsimp only; omega))))
     · have hpe : p = s.size := by omega
       subst hpe
       go_wp2
       refine bodyPost_ret (v := .tuple #[.agg #[.int .u64 0, .int .u64 0, .int .u64 0, .int .u64 0], .int .i64 0, .agg #[.int .i64 (s.size : Int), .int .i64 30]]) (by simp [results, Try.results40, go_sem]) rfl (prs_mk HF.out rfl rfl rfl rfl rfl rfl rfl ?_)
       (repeat (first | with_reducible exact Below.refl _ _ | with_reducible apply below_drewN' | with_reducible apply below_drew | with_reducible apply below_allocs | (with_reducible refine below_setA ?_ _ _ (by dsimp only; omega))))
end Go.Proofs.Ytldjdcdoegjmoaa
