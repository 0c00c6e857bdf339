/- Reading a class, the document's way: said. -/
import Derived.Test.YtachpdeejificaaRd5
import Derived.Test.YtachpdeejificaaRegV
set_option linter.unusedVariables false
set_option linter.unusedSimpArgs false
namespace Go.Proofs.Ytachpdeejificaa
open Go.RowKit
def Saying (p : Nat) (f : Nat × Nat × Nat) (w : World) (e : Ending) (w' : World) : Prop :=
  e = .returned (.tuple #[.int .u8 (f.1 : Int), .int .i64 ((if f.2.2 = 0 then f.2.1 else 0 : Nat) : Int), .agg #[.int .i64 ((if f.2.2 = 0 then 0 else p : Nat) : Int), .int .i64 (f.2.2 : Int)]]) ∧ Below w.heap.size w w'
theorem say_ok {p x q : Nat} {w w' : World} {X Q : Value} {f : Nat × Nat × Nat} (hf : f = (x, q, 0)) (hX : X = .int .u8 (x : Int)) (hQ : Q = .int .i64 (q : Int)) (h : Below w.heap.size w w') :
    Saying p f w (.returned (.tuple #[X, Q, .agg #[.int .i64 0, .int .i64 0]])) w' := by subst hf; exact ⟨by rw [hX, hQ]; rfl, h⟩
theorem say_bad {p c : Nat} {w w' : World} {f : Nat × Nat × Nat} {C : Int} (hf : f = (0, p, c)) (hc : c ≠ 0) (hC : C = (c : Int)) (h : Below w.heap.size w w') :
    Saying p f w (.returned (.tuple #[.int .u8 0, .int .i64 0, .agg #[.int .i64 (p : Int), .int .i64 C]])) w' := by
  subst hf
  refine ⟨?_, h⟩
  dsimp only
  rw [if_neg hc, if_neg hc, hC]; rfl
theorem sayF_e {s : ByteArray} {p : Nat} (h : bat s p = 92) : sayF s p = escF s p := by unfold sayF; rw [if_pos h]
theorem below_set {B : Nat} {w w' : World} (h : Below B w w') (a : Addr) (v : Value) (ha : B ≤ a.block) : Below B w (w'.setCell a v) := h.setCell ha v
theorem below_drewN' {B : Nat} {w w' : World} {n : Nat} (h : Below B w w') : Below B w (w'.drewN n) := below_drewN h _
theorem below_allocs {w w' : World} (h : Below w.heap.size w w') (o : Obj) : Below w.heap.size w (w'.alloc o) := h.alloc h.size o
def SaidV (s : ByteArray) (p x y : Nat) : Nat → Value → Prop
  | 0 => fun v => v = (.string s)
  | 1 => fun v => v = (.int .i64 (p : Int))
  | 2 => fun v => v = (.int .i64 ((p : Int) + 2))
  | 3 => fun v => v = (.int .u8 (bat s (p + 2) : Int))
  | 4 => fun v => v = (.int .i64 (x : Int))
  | 5 => fun v => v = (.int .i64 (16 * (x : Int)))
  | 6 => fun v => v = (.string s)
  | 7 => fun v => v = (.int .i64 (p : Int))
  | 8 => fun v => v = (.int .i64 ((p : Int) + 3))
  | 9 => fun v => v = (.int .u8 (bat s (p + 3) : Int))
  | 10 => fun v => v = (.int .i64 (y : Int))
  | 11 => fun v => v = (.int .i64 (16 * (x : Int) + (y : Int)))
  | 12 => fun v => v = (.int .u8 (16 * (x : Int) + (y : Int)))
  | 13 => fun v => v = (.int .i64 (p : Int))
  | 14 => fun v => v = (.int .i64 ((p : Int) + 4))
  | 15 => fun v => v = (.agg #[.int .i64 0, .int .i64 0])
  | 16 => fun v => v = (.int .u8 (16 * (x : Int) + (y : Int)))
  | 17 => fun v => v = (.int .i64 ((p : Int) + 4))
  | _ => fun _ => True
def SaidJ (w0 : World) (w : World) : Prop := Below w0.heap.size w0 w ∧ w.heap[w0.heap.size]? = some (.cells #[.int .i64 0, .int .i64 0] 53 (0, 0))
theorem not_dst {ops : Array Oper} {t : Tmp} (h : (ops.all fun o => o.dst != some t) = true) (i : Nat) : dstOf ops i ≠ some t := by
  unfold dstOf
  intro q
  cases ho : ops[i]? with
  | none => rw [ho] at q; cases q
  | some o =>
    rw [ho] at q
    obtain ⟨hi, rfl⟩ := Array.getElem?_eq_some_iff.1 ho
    have := Array.all_eq_true.1 h i hi
    simp at q this
    exact this q
set_option maxRecDepth 100000 in
set_option maxHeartbeats 1000000 in
theorem said_x (s : ByteArray) (hs : s.size ≤ bigN) (p : Nat) (hp : p < s.size) (w : World) (d1 : bat s p = 92) (hlt : p + 1 < s.size) (e1 : ¬ bat s (p + 1) = 116) (e2 : ¬ bat s (p + 1) = 110) (e3 : ¬ bat s (p + 1) = 114)
  (e4a : ¬ bat s (p + 1) = 92) (e4b : ¬ bat s (p + 1) = 93) (e4c : ¬ bat s (p + 1) = 45) (e4d : ¬ bat s (p + 1) = 94) (e4e : ¬ bat s (p + 1) = 39) (e4f : ¬ bat s (p + 1) = 34) (e5 : bat s (p + 1) = 120) (hl3 : p + 3 < s.size)
  (h0 : 0 ≤ hexv (bat s (p + 2))) (h1 : 0 ≤ hexv (bat s (p + 3))) : Calls Try.prog 44 #[.string s, .int .i64 (p : Int)] w (Saying p (sayF s p) w) := by
  unfold bigN at hs
  have hb := bat_eq s p hp
  have hz0 : (0 : Int) ≤ (p : Int) ∧ (p : Int) < (s.size : Int) := ⟨by omega, by omega⟩
  have hb1 := bat_eq s (p + 1) hlt
  have hz1 : (0 : Int) ≤ (p : Int) + 1 ∧ (p : Int) + 1 < (s.size : Int) := ⟨by omega, by omega⟩
  have hl2 : p + 2 < s.size := by omega
  have hb2 := bat_eq s (p + 2) hl2
  have hb3 := bat_eq s (p + 3) hl3
  have hz2 : (0 : Int) ≤ (p : Int) + 2 ∧ (p : Int) + 2 < (s.size : Int) := ⟨by omega, by omega⟩
  have hz3 : (0 : Int) ≤ (p : Int) + 3 ∧ (p : Int) + 3 < (s.size : Int) := ⟨by omega, by omega⟩
  have hx1 := hexv_lo (bat s (p + 2)); have hx2 := hexv_hi (bat s (p + 2)); have hy1 := hexv_lo (bat s (p + 3)); have hy2 := hexv_hi (bat s (p + 3))
  obtain ⟨x, hx⟩ := Int.eq_ofNat_of_zero_le h0
  obtain ⟨y, hy⟩ := Int.eq_ofNat_of_zero_le h1
  obtain ⟨w0, rfl⟩ : ∃ w0 : World, w0 = w := ⟨_, rfl⟩
  go_enter Try.func44, Try.ntmps44
  go_wp2_with (go_at_call 47; refine (digitR_c _ (bat_lt s _) _).mono ?_; rintro e w' ⟨rfl, rfl⟩)
  have hw2 : IntKind.i64.wrap ((p : Int) + 2) = (p : Int) + 2 := (by rw [IntKind.wrap_i64]; omega)
  have hw3 : IntKind.i64.wrap ((p : Int) + 3) = (p : Int) + 3 := (by rw [IntKind.wrap_i64]; omega)
  have hw4 : IntKind.i64.wrap ((p : Int) + 4) = (p : Int) + 4 := (by rw [IntKind.wrap_i64]; omega)
  have hwa : IntKind.i64.wrap (16 * (x : Int)) = 16 * (x : Int) := (by rw [IntKind.wrap_i64]; omega)
  have hwb : IntKind.i64.wrap (16 * (x : Int) + (y : Int)) = 16 * (x : Int) + (y : Int) := (by rw [IntKind.wrap_i64]; omega)
  have hwc : IntKind.u8.wrap (16 * (x : Int) + (y : Int)) = 16 * (x : Int) + (y : Int) := by rw [IntKind.wrap_u8]; omega
  refine wp_region_vals (by kernel_rfl) (by kernel_rfl) (by kernel_rfl) (by kernel_rfl) (SaidJ w0) (SaidV s p x y) ?hJ ?hs ?hq
  case hJ => exact ⟨((Below.refl _ _).alloc (Nat.le_refl _) _).drew, heap_new _ _⟩
  case hs =>
    intro i o ho a w hJ hl
    have hi : i < 19 := (Array.getElem?_eq_some_iff.1 ho).1
    by_cases q9 : i < 9
    ·
      by_cases q4 : i < 4
      ·
        by_cases q2 : i < 2
        ·
          by_cases q1 : i < 1
          ·
            obtain rfl : i = 0 := by omega
            obtain rfl := Option.some.inj ho
            have x0 : a.tmps[0]?.getD undef = (.string s) := hl.free 0 (by kernel_rfl)
            refine wpOp_list rfl rfl ?_
            exact st_run (v := (.string s)) (by go_simp) ⟨_, rfl, rfl, hJ⟩
          ·
            obtain rfl : i = 1 := by omega
            obtain rfl := Option.some.inj ho
            have x1 : a.tmps[1]?.getD undef = (.int .i64 (p : Int)) := hl.free 1 (by kernel_rfl)
            refine wpOp_list rfl rfl ?_
            exact st_run (v := (.int .i64 (p : Int))) (by go_simp) ⟨_, rfl, rfl, hJ⟩
        ·
          by_cases q3 : i < 3
          ·
            obtain rfl : i = 2 := by omega
            obtain rfl := Option.some.inj ho
            have x99 : a.tmps[99]?.getD undef = (.int .i64 (p : Int)) := by obtain ⟨v, h1, h2⟩ := hl.dep 1 99 (by kernel_rfl) (by kernel_rfl); exact h1.trans h2
            refine wpOp_list rfl rfl ?_
            exact st_run (v := (.int .i64 ((p : Int) + 2))) (by go_simp) ⟨_, rfl, rfl, hJ⟩
          ·
            obtain rfl : i = 3 := by omega
            obtain rfl := Option.some.inj ho
            have x98 : a.tmps[98]?.getD undef = (.string s) := by obtain ⟨v, h1, h2⟩ := hl.dep 0 98 (by kernel_rfl) (by kernel_rfl); exact h1.trans h2
            have x100 : a.tmps[100]?.getD undef = (.int .i64 ((p : Int) + 2)) := by obtain ⟨v, h1, h2⟩ := hl.dep 2 100 (by kernel_rfl) (by kernel_rfl); exact h1.trans h2
            refine wpOp_list rfl rfl ?_
            exact st_run (v := (.int .u8 (bat s (p + 2) : Int))) (by go_simp; exact congrArg Nat.cast hb2) ⟨_, rfl, rfl, hJ⟩
      ·
        by_cases q6 : i < 6
        ·
          by_cases q5 : i < 5
          ·
            obtain rfl : i = 4 := by omega
            obtain rfl := Option.some.inj ho
            have x101 : a.tmps[101]?.getD undef = (.int .u8 (bat s (p + 2) : Int)) := by obtain ⟨v, h1, h2⟩ := hl.dep 3 101 (by kernel_rfl) (by kernel_rfl); exact h1.trans h2
            refine wpOp_list rfl rfl ?_
            refine st_call (w' := w) (f := 47) (args := #[(.int .u8 (bat s (p + 2) : Int))]) (by go_simp) ((digitR_c (bat s (p + 2)) (bat_lt s _) _).mono ?_)
            rintro e w'' ⟨rfl, rfl⟩
            exact ⟨_, rfl, _, rfl, congrArg (Value.int .i64) hx, hJ⟩
          ·
            obtain rfl : i = 5 := by omega
            obtain rfl := Option.some.inj ho
            have x102 : a.tmps[102]?.getD undef = (.int .i64 (x : Int)) := by obtain ⟨v, h1, h2⟩ := hl.dep 4 102 (by kernel_rfl) (by kernel_rfl); exact h1.trans h2
            refine wpOp_list rfl rfl ?_
            exact st_run (v := (.int .i64 (16 * (x : Int)))) (by go_simp) ⟨_, rfl, rfl, hJ⟩
        ·
          by_cases q7 : i < 7
          ·
            obtain rfl : i = 6 := by omega
            obtain rfl := Option.some.inj ho
            have x0 : a.tmps[0]?.getD undef = (.string s) := hl.free 0 (by kernel_rfl)
            refine wpOp_list rfl rfl ?_
            exact st_run (v := (.string s)) (by go_simp) ⟨_, rfl, rfl, hJ⟩
          ·
            by_cases q8 : i < 8
            ·
              obtain rfl : i = 7 := by omega
              obtain rfl := Option.some.inj ho
              have x1 : a.tmps[1]?.getD undef = (.int .i64 (p : Int)) := hl.free 1 (by kernel_rfl)
              refine wpOp_list rfl rfl ?_
              exact st_run (v := (.int .i64 (p : Int))) (by go_simp) ⟨_, rfl, rfl, hJ⟩
            ·
              obtain rfl : i = 8 := by omega
              obtain rfl := Option.some.inj ho
              have x105 : a.tmps[105]?.getD undef = (.int .i64 (p : Int)) := by obtain ⟨v, h1, h2⟩ := hl.dep 7 105 (by kernel_rfl) (by kernel_rfl); exact h1.trans h2
              refine wpOp_list rfl rfl ?_
              exact st_run (v := (.int .i64 ((p : Int) + 3))) (by go_simp) ⟨_, rfl, rfl, hJ⟩
    ·
      by_cases q14 : i < 14
      ·
        by_cases q11 : i < 11
        ·
          by_cases q10 : i < 10
          ·
            obtain rfl : i = 9 := by omega
            obtain rfl := Option.some.inj ho
            have x104 : a.tmps[104]?.getD undef = (.string s) := by obtain ⟨v, h1, h2⟩ := hl.dep 6 104 (by kernel_rfl) (by kernel_rfl); exact h1.trans h2
            have x106 : a.tmps[106]?.getD undef = (.int .i64 ((p : Int) + 3)) := by obtain ⟨v, h1, h2⟩ := hl.dep 8 106 (by kernel_rfl) (by kernel_rfl); exact h1.trans h2
            refine wpOp_list rfl rfl ?_
            exact st_run (v := (.int .u8 (bat s (p + 3) : Int))) (by go_simp; exact congrArg Nat.cast hb3) ⟨_, rfl, rfl, hJ⟩
          ·
            obtain rfl : i = 10 := by omega
            obtain rfl := Option.some.inj ho
            have x107 : a.tmps[107]?.getD undef = (.int .u8 (bat s (p + 3) : Int)) := by obtain ⟨v, h1, h2⟩ := hl.dep 9 107 (by kernel_rfl) (by kernel_rfl); exact h1.trans h2
            refine wpOp_list rfl rfl ?_
            refine st_call (w' := w) (f := 47) (args := #[(.int .u8 (bat s (p + 3) : Int))]) (by go_simp) ((digitR_c (bat s (p + 3)) (bat_lt s _) _).mono ?_)
            rintro e w'' ⟨rfl, rfl⟩
            exact ⟨_, rfl, _, rfl, congrArg (Value.int .i64) hy, hJ⟩
        ·
          by_cases q12 : i < 12
          ·
            obtain rfl : i = 11 := by omega
            obtain rfl := Option.some.inj ho
            have x103 : a.tmps[103]?.getD undef = (.int .i64 (16 * (x : Int))) := by obtain ⟨v, h1, h2⟩ := hl.dep 5 103 (by kernel_rfl) (by kernel_rfl); exact h1.trans h2
            have x108 : a.tmps[108]?.getD undef = (.int .i64 (y : Int)) := by obtain ⟨v, h1, h2⟩ := hl.dep 10 108 (by kernel_rfl) (by kernel_rfl); exact h1.trans h2
            refine wpOp_list rfl rfl ?_
            exact st_run (v := (.int .i64 (16 * (x : Int) + (y : Int)))) (by go_simp) ⟨_, rfl, rfl, hJ⟩
          ·
            by_cases q13 : i < 13
            ·
              obtain rfl : i = 12 := by omega
              obtain rfl := Option.some.inj ho
              have x109 : a.tmps[109]?.getD undef = (.int .i64 (16 * (x : Int) + (y : Int))) := by obtain ⟨v, h1, h2⟩ := hl.dep 11 109 (by kernel_rfl) (by kernel_rfl); exact h1.trans h2
              refine wpOp_list rfl rfl ?_
              exact st_run (v := (.int .u8 (16 * (x : Int) + (y : Int)))) (by go_simp) ⟨_, rfl, rfl, hJ⟩
            ·
              obtain rfl : i = 13 := by omega
              obtain rfl := Option.some.inj ho
              have x1 : a.tmps[1]?.getD undef = (.int .i64 (p : Int)) := hl.free 1 (by kernel_rfl)
              refine wpOp_list rfl rfl ?_
              exact st_run (v := (.int .i64 (p : Int))) (by go_simp) ⟨_, rfl, rfl, hJ⟩
      ·
        by_cases q16 : i < 16
        ·
          by_cases q15 : i < 15
          ·
            obtain rfl : i = 14 := by omega
            obtain rfl := Option.some.inj ho
            have x111 : a.tmps[111]?.getD undef = (.int .i64 (p : Int)) := by obtain ⟨v, h1, h2⟩ := hl.dep 13 111 (by kernel_rfl) (by kernel_rfl); exact h1.trans h2
            refine wpOp_list rfl rfl ?_
            exact st_run (v := (.int .i64 ((p : Int) + 4))) (by go_simp) ⟨_, rfl, rfl, hJ⟩
          ·
            obtain rfl : i = 15 := by omega
            obtain rfl := Option.some.inj ho
            refine wpOp_list rfl rfl ?_
            exact st_run (v := (.agg #[.int .i64 0, .int .i64 0])) (by go_simp) ⟨_, rfl, rfl, hJ⟩
        ·
          by_cases q17 : i < 17
          ·
            obtain rfl : i = 16 := by omega
            obtain rfl := Option.some.inj ho
            have x110 : a.tmps[110]?.getD undef = (.int .u8 (16 * (x : Int) + (y : Int))) := by obtain ⟨v, h1, h2⟩ := hl.dep 12 110 (by kernel_rfl) (by kernel_rfl); exact h1.trans h2
            refine wpOp_list rfl rfl ?_
            exact st_run (v := (.int .u8 (16 * (x : Int) + (y : Int)))) (by go_simp) ⟨_, rfl, rfl, hJ⟩
          ·
            by_cases q18 : i < 18
            ·
              obtain rfl : i = 17 := by omega
              obtain rfl := Option.some.inj ho
              have x112 : a.tmps[112]?.getD undef = (.int .i64 ((p : Int) + 4)) := by obtain ⟨v, h1, h2⟩ := hl.dep 14 112 (by kernel_rfl) (by kernel_rfl); exact h1.trans h2
              refine wpOp_list rfl rfl ?_
              exact st_run (v := (.int .i64 ((p : Int) + 4))) (by go_simp) ⟨_, rfl, rfl, hJ⟩
            ·
              obtain rfl : i = 18 := by omega
              obtain rfl := Option.some.inj ho
              have x6 : a.tmps[6]?.getD undef = (.pointer (some ⟨w0.heap.size, 0, none⟩)) := hl.free 6 (by kernel_rfl)
              have x113 : a.tmps[113]?.getD undef = (.agg #[.int .i64 0, .int .i64 0]) := by obtain ⟨v, h1, h2⟩ := hl.dep 15 113 (by kernel_rfl) (by kernel_rfl); exact h1.trans h2
              refine wpOp_list rfl rfl ?_
              exact wp_store_row 53 _ _ rfl w0.heap.size #[.int .i64 0, .int .i64 0] (eval_tmp x6) (eval_tmp x113) 53 _ hJ.2 (by kernel_rfl) rfl (by kernel_rfl) ⟨_, rfl, trivial, below_setRow hJ.1 (Nat.le_refl _) _, setRow_heap _ _ _ _ _ _ hJ.2⟩
  case hq =>
    intro f w hJ hV
    have v4 := hV 16 4 (by kernel_rfl)
    have v5 := hV 17 5 (by kernel_rfl)
    generalize hp : putAll _ f _ _ = a
    have hd : a.defers = [] := by rw [← hp, putAll_defers]
    have h4 : a.tmps[4]? = some (.int .u8 (16 * (x : Int) + (y : Int))) := by
      rw [← hp, putAll_at _ f _ 4 (by simp) 16 (by kernel_rfl) (fun j hj => apart_of (by kernel_rfl) (by kernel_rfl) hj) _ (by decide)]
      exact congrArg some v4
    have h5 : a.tmps[5]? = some (.int .i64 ((p : Int) + 4)) := by
      rw [← hp, putAll_at _ f _ 5 (by simp) 17 (by kernel_rfl) (fun j hj => apart_of (by kernel_rfl) (by kernel_rfl) hj) _ (by decide)]
      exact congrArg some v5
    have h6 : a.tmps[6]? = some (.pointer (some ⟨w0.heap.size, 0, none⟩)) := by
      rw [← hp, putAll_other _ f _ 6 _ (fun i _ h => absurd h (not_dst (by kernel_rfl) i))]
      rfl
    clear hp hV
    have HF := Lib.hid ((sayF_e d1).trans (escF_x hl3 e5 h0 h1))
    obtain ⟨k0, k1, k2, k3⟩ := two_cells hJ.2
    go_wp2
    refine bodyPost_ret (v := .tuple #[.int .u8 (16 * (x : Int) + (y : Int)), .int .i64 ((p : Int) + 4), .agg #[.int .i64 0, .int .i64 0]]) (by simp [results, Try.results44, go_sem, h4, h5, h6, k0, k1]) hd (say_ok HF.out ?_ rfl hJ.1)
    rw [hx, hy]; congr 1
set_option maxRecDepth 100000 in
set_option maxHeartbeats 1000000 in
theorem said_c (s : ByteArray) (hs : s.size ≤ bigN) (p : Nat) (hp : p < s.size) (w : World) : Calls Try.prog 44 #[.string s, .int .i64 (p : Int)] w (Saying p (sayF s p) w) := by
  by_cases hX : bat s p = 92 ∧ p + 3 < s.size ∧ bat s (p + 1) = 120 ∧ 0 ≤ hexv (bat s (p + 2)) ∧ 0 ≤ hexv (bat s (p + 3))
  · obtain ⟨x1, x2, x3, x4, x5⟩ := hX
    exact said_x s hs p hp w x1 (by omega) (by omega) (by omega) (by omega) (by omega) (by omega) (by omega) (by omega) (by omega) (by omega) x3 x2 x4 x5
  have HX := Lib.hid hX; clear hX
  unfold bigN at hs
  have hb := bat_eq s p hp
  have hz0 : (0 : Int) ≤ (p : Int) ∧ (p : Int) < (s.size : Int) := ⟨by omega, by omega⟩
  go_enter Try.func44, Try.ntmps44
  by_cases d1 : bat s p = 92
  · by_cases hlt : p + 1 < s.size
    · have hb1 := bat_eq s (p + 1) hlt
      have hz1 : (0 : Int) ≤ (p : Int) + 1 ∧ (p : Int) + 1 < (s.size : Int) := ⟨by omega, by omega⟩
      by_cases e1 : bat s (p + 1) = 116
      · have HF := Lib.hid ((sayF_e d1).trans (escF_t hlt e1))
        go_wp2
        refine bodyPost_ret (v := .tuple #[.int .u8 9, .int .i64 ((p : Int) + 2), .agg #[.int .i64 0, .int .i64 0]]) (by simp [results, Try.results44, go_sem]) rfl (say_ok HF.out rfl rfl ?_)
        (repeat (first | with_reducible exact Below.refl _ _ | with_reducible apply below_drewN' | with_reducible apply below_drew | with_reducible apply below_allocs | (with_reducible refine below_set ?_ _ _ (by dsimp only; omega))))
      by_cases e2 : bat s (p + 1) = 110
      · have HF := Lib.hid ((sayF_e d1).trans (escF_n hlt e2))
        go_wp2
        refine bodyPost_ret (v := .tuple #[.int .u8 10, .int .i64 ((p : Int) + 2), .agg #[.int .i64 0, .int .i64 0]]) (by simp [results, Try.results44, go_sem]) rfl (say_ok HF.out rfl rfl ?_)
        (repeat (first | with_reducible exact Below.refl _ _ | with_reducible apply below_drewN' | with_reducible apply below_drew | with_reducible apply below_allocs | (with_reducible refine below_set ?_ _ _ (by dsimp only; omega))))
      by_cases e3 : bat s (p + 1) = 114
      · have HF := Lib.hid ((sayF_e d1).trans (escF_r hlt e3))
        go_wp2
        refine bodyPost_ret (v := .tuple #[.int .u8 13, .int .i64 ((p : Int) + 2), .agg #[.int .i64 0, .int .i64 0]]) (by simp [results, Try.results44, go_sem]) rfl (say_ok HF.out rfl rfl ?_)
        (repeat (first | with_reducible exact Below.refl _ _ | with_reducible apply below_drewN' | with_reducible apply below_drew | with_reducible apply below_allocs | (with_reducible refine below_set ?_ _ _ (by dsimp only; omega))))
      by_cases e4 : bat s (p + 1) = 92 ∨ bat s (p + 1) = 93 ∨ bat s (p + 1) = 45 ∨ bat s (p + 1) = 94 ∨ bat s (p + 1) = 39 ∨ bat s (p + 1) = 34
      · have HF := Lib.hid ((sayF_e d1).trans (escF_q hlt e4))
        rcases e4 with e4 | e4 | e4 | e4 | e4 | e4
        all_goals go_wp2
        all_goals
          refine bodyPost_ret (v := .tuple #[.int .u8 ((bat s (p + 1) : Nat) : Int), .int .i64 ((p : Int) + 2), .agg #[.int .i64 0, .int .i64 0]]) (by simp [results, Try.results44, go_sem, e4]) rfl (say_ok HF.out rfl rfl ?_)
          (repeat (first | with_reducible exact Below.refl _ _ | with_reducible apply below_drewN' | with_reducible apply below_drew | with_reducible apply below_allocs | (with_reducible refine below_set ?_ _ _ (by dsimp only; omega))))
      have e4a : ¬ bat s (p + 1) = 92 := by omega
      have e4b : ¬ bat s (p + 1) = 93 := by omega
      have e4c : ¬ bat s (p + 1) = 45 := by omega
      have e4d : ¬ bat s (p + 1) = 94 := by omega
      have e4e : ¬ bat s (p + 1) = 39 := by omega
      have e4f : ¬ bat s (p + 1) = 34 := by omega
      by_cases e5 : bat s (p + 1) = 120
      · by_cases hl3 : p + 3 < s.size
        · have hl2 : p + 2 < s.size := by omega
          have hb2 := bat_eq s (p + 2) hl2
          have hb3 := bat_eq s (p + 3) hl3
          have hz2 : (0 : Int) ≤ (p : Int) + 2 ∧ (p : Int) + 2 < (s.size : Int) := ⟨by omega, by omega⟩
          have hz3 : (0 : Int) ≤ (p : Int) + 3 ∧ (p : Int) + 3 < (s.size : Int) := ⟨by omega, by omega⟩
          have hx1 := hexv_lo (bat s (p + 2)); have hx2 := hexv_hi (bat s (p + 2)); have hy1 := hexv_lo (bat s (p + 3)); have hy2 := hexv_hi (bat s (p + 3))
          by_cases h0 : 0 ≤ hexv (bat s (p + 2))
          · by_cases h1 : 0 ≤ hexv (bat s (p + 3))
            · exact absurd ⟨d1, hl3, e5, h0, h1⟩ HX.out
            · have HF := Lib.hid ((sayF_e d1).trans (escF_no e1 e2 e3 e4 (fun _ _ _ h => absurd h h1)))
              go_wp2_with (go_at_call 47; refine (digitR_c _ (bat_lt s _) _).mono ?_; rintro e w' ⟨rfl, rfl⟩)
              refine bodyPost_ret (v := .tuple #[.int .u8 0, .int .i64 0, .agg #[.int .i64 (p : Int), .int .i64 42]]) (by simp [results, Try.results44, go_sem]) rfl (say_bad HF.out (by decide) rfl ?_)
              (repeat (first | with_reducible exact Below.refl _ _ | with_reducible apply below_drewN' | with_reducible apply below_drew | with_reducible apply below_allocs | (with_reducible refine below_set ?_ _ _ (by dsimp only; omega))))
          · have HF := Lib.hid ((sayF_e d1).trans (escF_no e1 e2 e3 e4 (fun _ _ h _ => absurd h h0)))
            go_wp2_with (go_at_call 47; refine (digitR_c _ (bat_lt s _) _).mono ?_; rintro e w' ⟨rfl, rfl⟩)
            refine bodyPost_ret (v := .tuple #[.int .u8 0, .int .i64 0, .agg #[.int .i64 (p : Int), .int .i64 42]]) (by simp [results, Try.results44, go_sem]) rfl (say_bad HF.out (by decide) rfl ?_)
            (repeat (first | with_reducible exact Below.refl _ _ | with_reducible apply below_drewN' | with_reducible apply below_drew | with_reducible apply below_allocs | (with_reducible refine below_set ?_ _ _ (by dsimp only; omega))))
        · have HF := Lib.hid ((sayF_e d1).trans (escF_no e1 e2 e3 e4 (fun _ h => absurd h hl3)))
          go_wp2
          refine bodyPost_ret (v := .tuple #[.int .u8 0, .int .i64 0, .agg #[.int .i64 (p : Int), .int .i64 42]]) (by simp [results, Try.results44, go_sem]) rfl (say_bad HF.out (by decide) rfl ?_)
          (repeat (first | with_reducible exact Below.refl _ _ | with_reducible apply below_drewN' | with_reducible apply below_drew | with_reducible apply below_allocs | (with_reducible refine below_set ?_ _ _ (by dsimp only; omega))))
      · have HF := Lib.hid ((sayF_e d1).trans (escF_no e1 e2 e3 e4 (fun h => absurd h e5)))
        go_wp2
        refine bodyPost_ret (v := .tuple #[.int .u8 0, .int .i64 0, .agg #[.int .i64 (p : Int), .int .i64 42]]) (by simp [results, Try.results44, go_sem]) rfl (say_bad HF.out (by decide) rfl ?_)
        (repeat (first | with_reducible exact Below.refl _ _ | with_reducible apply below_drewN' | with_reducible apply below_drew | with_reducible apply below_allocs | (with_reducible refine below_set ?_ _ _ (by dsimp only; omega))))
    · have HF := Lib.hid ((sayF_e d1).trans (escF_end hlt))
      go_wp2
      refine bodyPost_ret (v := .tuple #[.int .u8 0, .int .i64 0, .agg #[.int .i64 (p : Int), .int .i64 42]]) (by simp [results, Try.results44, go_sem]) rfl (say_bad HF.out (by decide) rfl ?_)
      (repeat (first | with_reducible exact Below.refl _ _ | with_reducible apply below_drewN' | with_reducible apply below_drew | with_reducible apply below_allocs | (with_reducible refine below_set ?_ _ _ (by dsimp only; omega))))
  · go_wp2
    all_goals (try simp only [beq_iff_eq, beq_eq_false_iff_ne, ne_eq] at *)
    all_goals first
      | (refine bodyPost_ret (v := .tuple #[.int .u8 0, .int .i64 0, .agg #[.int .i64 (p : Int), .int .i64 30]]) (by simp [results, Try.results44, go_sem]) rfl (say_bad (sayF_bar d1 ?_) (by decide) rfl ?_)
         · (unfold barred; omega)
         · (repeat (first | with_reducible exact Below.refl _ _ | with_reducible apply below_drewN' | with_reducible apply below_drew | with_reducible apply below_allocs | (with_reducible refine below_set ?_ _ _ (by dsimp only; omega)))))
      | (refine bodyPost_ret (v := .tuple #[.int .u8 ((bat s p : Nat) : Int), .int .i64 ((p : Int) + 1), .agg #[.int .i64 0, .int .i64 0]]) (by simp [results, Try.results44, go_sem]) rfl (say_ok (sayF_ok d1 ?_) rfl rfl ?_)
         · (unfold barred; omega)
         · (repeat (first | with_reducible exact Below.refl _ _ | with_reducible apply below_drewN' | with_reducible apply below_drew | with_reducible apply below_allocs | (with_reducible refine below_set ?_ _ _ (by dsimp only; omega)))))
end Go.Proofs.Ytachpdeejificaa
