import Derived.Test.YtldjdcdoegjmoaaZ0
import Derived.Test.YtldjdcdoegjmoaaZ2
import Derived.Test.YtldjdcdoegjmoaaZ3
namespace Go.Proofs.Ytldjdcdoegjmoaa.P
open Go.RowKit Go.Proofs.YtldjdcdoegjmoaaW.PrintWords Go.Proofs.YtldjdcdoegjmoaaW.PrintLast Go.Proofs.YtldjdcdoegjmoaaW.PrintMore
set_option linter.unusedVariables false
set_option linter.unusedSimpArgs false
mutual
def lexis_count.j0 : Nat → ByteArray → Int → Int → Int → Int → Bool → Option (Int × Int × Int × ByteArray × Bool × Int × Int × Int × Int × Int × Int × Int × Int)
 | 0, _, _, _, _, _, _ => none
 | k + 1, x0, x1, x6, x7, x8, x30 => if x30 = true then (if (wrap64 (x7 + 1)) < (x0.size : Int) then (if 0 ≤ (wrap64 (x7 + 1)) then (lexis_count.j1 k x0 x1 x6 (wrap64 (x7 + 1)) (-1) ((bt x0 (wrap64 (x7 + 1))) != 125)) else (none)) else (lexis_count.j1 k x0 x1 x6 (wrap64 (x7 + 1)) (-1) false)) else (if x6 < 0 then ((lexis_fault.f x1 43).bind fun bt240 => (some (bt240.1, bt240.2.1, bt240.2.2.1, bt240.2.2.2.1, bt240.2.2.2.2.1, bt240.2.2.2.2.2.1, bt240.2.2.2.2.2.2.1, bt240.2.2.2.2.2.2.2.1, bt240.2.2.2.2.2.2.2.2.1, bt240.2.2.2.2.2.2.2.2.2.1, bt240.2.2.2.2.2.2.2.2.2.2.1, bt240.2.2.2.2.2.2.2.2.2.2.2.1, bt240.2.2.2.2.2.2.2.2.2.2.2.2))) else (if x7 ≥ (x0.size : Int) then ((lexis_fault.f x1 43).bind fun bt253 => (some (bt253.1, bt253.2.1, bt253.2.2.1, bt253.2.2.2.1, bt253.2.2.2.2.1, bt253.2.2.2.2.2.1, bt253.2.2.2.2.2.2.1, bt253.2.2.2.2.2.2.2.1, bt253.2.2.2.2.2.2.2.2.1, bt253.2.2.2.2.2.2.2.2.2.1, bt253.2.2.2.2.2.2.2.2.2.2.1, bt253.2.2.2.2.2.2.2.2.2.2.2.1, bt253.2.2.2.2.2.2.2.2.2.2.2.2))) else (if 0 ≤ x7 then (if x7 < (x0.size : Int) then (if (bt x0 x7) = 125 then (some (9, x1, wrap64 (x7 + 1), (⟨#[]⟩ : ByteArray), false, 0, 0, 0, 0, x6, x8, 0, 0)) else ((lexis_fault.f x1 43).bind fun bt266 => (some (bt266.1, bt266.2.1, bt266.2.2.1, bt266.2.2.2.1, bt266.2.2.2.2.1, bt266.2.2.2.2.2.1, bt266.2.2.2.2.2.2.1, bt266.2.2.2.2.2.2.2.1, bt266.2.2.2.2.2.2.2.2.1, bt266.2.2.2.2.2.2.2.2.2.1, bt266.2.2.2.2.2.2.2.2.2.2.1, bt266.2.2.2.2.2.2.2.2.2.2.2.1, bt266.2.2.2.2.2.2.2.2.2.2.2.2)))) else (none)) else (none))))
def lexis_count.j1 : Nat → ByteArray → Int → Int → Int → Int → Bool → Option (Int × Int × Int × ByteArray × Bool × Int × Int × Int × Int × Int × Int × Int × Int)
 | 0, _, _, _, _, _, _ => none
 | k + 1, x0, x1, x6, x7, x8, x42 => if x42 = true then ((lexis_number.f k x0 x7).bind fun bt147 => (if bt147.1 < x6 then ((lexis_fault.f x1 43).bind fun bt149 => (some (bt149.1, bt149.2.1, bt149.2.2.1, bt149.2.2.2.1, bt149.2.2.2.2.1, bt149.2.2.2.2.2.1, bt149.2.2.2.2.2.2.1, bt149.2.2.2.2.2.2.2.1, bt149.2.2.2.2.2.2.2.2.1, bt149.2.2.2.2.2.2.2.2.2.1, bt149.2.2.2.2.2.2.2.2.2.2.1, bt149.2.2.2.2.2.2.2.2.2.2.2.1, bt149.2.2.2.2.2.2.2.2.2.2.2.2))) else (if x6 < 0 then ((lexis_fault.f x1 43).bind fun bt162 => (some (bt162.1, bt162.2.1, bt162.2.2.1, bt162.2.2.2.1, bt162.2.2.2.2.1, bt162.2.2.2.2.2.1, bt162.2.2.2.2.2.2.1, bt162.2.2.2.2.2.2.2.1, bt162.2.2.2.2.2.2.2.2.1, bt162.2.2.2.2.2.2.2.2.2.1, bt162.2.2.2.2.2.2.2.2.2.2.1, bt162.2.2.2.2.2.2.2.2.2.2.2.1, bt162.2.2.2.2.2.2.2.2.2.2.2.2))) else (if bt147.2 ≥ (x0.size : Int) then ((lexis_fault.f x1 43).bind fun bt175 => (some (bt175.1, bt175.2.1, bt175.2.2.1, bt175.2.2.2.1, bt175.2.2.2.2.1, bt175.2.2.2.2.2.1, bt175.2.2.2.2.2.2.1, bt175.2.2.2.2.2.2.2.1, bt175.2.2.2.2.2.2.2.2.1, bt175.2.2.2.2.2.2.2.2.2.1, bt175.2.2.2.2.2.2.2.2.2.2.1, bt175.2.2.2.2.2.2.2.2.2.2.2.1, bt175.2.2.2.2.2.2.2.2.2.2.2.2))) else (if 0 ≤ bt147.2 then (if bt147.2 < (x0.size : Int) then (if (bt x0 bt147.2) = 125 then (some (9, x1, wrap64 (bt147.2 + 1), (⟨#[]⟩ : ByteArray), false, 0, 0, 0, 0, x6, bt147.1, 0, 0)) else ((lexis_fault.f x1 43).bind fun bt188 => (some (bt188.1, bt188.2.1, bt188.2.2.1, bt188.2.2.2.1, bt188.2.2.2.2.1, bt188.2.2.2.2.2.1, bt188.2.2.2.2.2.2.1, bt188.2.2.2.2.2.2.2.1, bt188.2.2.2.2.2.2.2.2.1, bt188.2.2.2.2.2.2.2.2.2.1, bt188.2.2.2.2.2.2.2.2.2.2.1, bt188.2.2.2.2.2.2.2.2.2.2.2.1, bt188.2.2.2.2.2.2.2.2.2.2.2.2)))) else (none)) else (none)))))) else (if x6 < 0 then ((lexis_fault.f x1 43).bind fun bt201 => (some (bt201.1, bt201.2.1, bt201.2.2.1, bt201.2.2.2.1, bt201.2.2.2.2.1, bt201.2.2.2.2.2.1, bt201.2.2.2.2.2.2.1, bt201.2.2.2.2.2.2.2.1, bt201.2.2.2.2.2.2.2.2.1, bt201.2.2.2.2.2.2.2.2.2.1, bt201.2.2.2.2.2.2.2.2.2.2.1, bt201.2.2.2.2.2.2.2.2.2.2.2.1, bt201.2.2.2.2.2.2.2.2.2.2.2.2))) else (if x7 ≥ (x0.size : Int) then ((lexis_fault.f x1 43).bind fun bt214 => (some (bt214.1, bt214.2.1, bt214.2.2.1, bt214.2.2.2.1, bt214.2.2.2.2.1, bt214.2.2.2.2.2.1, bt214.2.2.2.2.2.2.1, bt214.2.2.2.2.2.2.2.1, bt214.2.2.2.2.2.2.2.2.1, bt214.2.2.2.2.2.2.2.2.2.1, bt214.2.2.2.2.2.2.2.2.2.2.1, bt214.2.2.2.2.2.2.2.2.2.2.2.1, bt214.2.2.2.2.2.2.2.2.2.2.2.2))) else (if 0 ≤ x7 then (if x7 < (x0.size : Int) then (if (bt x0 x7) = 125 then (some (9, x1, wrap64 (x7 + 1), (⟨#[]⟩ : ByteArray), false, 0, 0, 0, 0, x6, x8, 0, 0)) else ((lexis_fault.f x1 43).bind fun bt227 => (some (bt227.1, bt227.2.1, bt227.2.2.1, bt227.2.2.2.1, bt227.2.2.2.2.1, bt227.2.2.2.2.2.1, bt227.2.2.2.2.2.2.1, bt227.2.2.2.2.2.2.2.1, bt227.2.2.2.2.2.2.2.2.1, bt227.2.2.2.2.2.2.2.2.2.1, bt227.2.2.2.2.2.2.2.2.2.2.1, bt227.2.2.2.2.2.2.2.2.2.2.2.1, bt227.2.2.2.2.2.2.2.2.2.2.2.2)))) else (none)) else (none))))
end
def lexis_count.f (k : Nat) (a0 : ByteArray) (a1 : Int) : Option (Int × Int × Int × ByteArray × Bool × Int × Int × Int × Int × Int × Int × Int × Int) := (lexis_number.f k a0 (wrap64 (a1 + 1))).bind fun bt145 => (if bt145.1 ≥ 0 then (if bt145.2 < (a0.size : Int) then (if 0 ≤ bt145.2 then (lexis_count.j0 k a0 a1 bt145.1 bt145.2 bt145.1 ((bt a0 bt145.2) == 44)) else (none)) else (lexis_count.j0 k a0 a1 bt145.1 bt145.2 bt145.1 false)) else (lexis_count.j0 k a0 a1 bt145.1 bt145.2 bt145.1 false))
set_option maxHeartbeats 8000000 in
set_option maxRecDepth 100000 in
theorem lexis_count.calls (k : Nat) (a0 : ByteArray) (a1 : Int) (r1 : Int) (r2 : Int) (r3 : Int) (r4 : ByteArray) (r5 : Bool) (r6 : Int) (r7 : Int) (r8 : Int) (r9 : Int) (r10 : Int) (r11 : Int) (r12 : Int) (r13 : Int) (w : World) (h : lexis_count.f k a0 a1 = some (r1, r2, r3, r4, r5, r6, r7, r8, r9, r10, r11, r12, r13)) :
 Calls Try.prog 38 #[.string a0, .int .i64 a1] w fun e w' => e = .returned (.tuple #[.agg #[.int .i64 r1, .int .i64 r2, .int .i64 r3, .string r4, .bool r5, .int .u64 r6, .int .u64 r7, .int .u64 r8, .int .u64 r9, .int .i64 r10, .int .i64 r11], .agg #[.int .i64 r12, .int .i64 r13]]) ∧ Below w.heap.size w w' := by
 have hu28 := Try.underlying28; have hu31 := Try.underlying31; have HB := Aside0.mk (Below.refl w.heap.size w)
 have H : ((lexis_number.f k a0 (wrap64 (a1 + 1))).bind fun bt145 => (if bt145.1 ≥ 0 then (if bt145.2 < (a0.size : Int) then (if 0 ≤ bt145.2 then (lexis_count.j0 k a0 a1 bt145.1 bt145.2 bt145.1 ((bt a0 bt145.2) == 44)) else (none)) else (lexis_count.j0 k a0 a1 bt145.1 bt145.2 bt145.1 false)) else (lexis_count.j0 k a0 a1 bt145.1 bt145.2 bt145.1 false))) = some (r1, r2, r3, r4, r5, r6, r7, r8, r9, r10, r11, r12, r13) := h
 clear h; replace H := Option.bind_eq_some_iff.mp H
 obtain ⟨⟨t145, t146⟩, A30, H⟩ := H
 replace H : (if t145 ≥ 0 then (if t146 < (a0.size : Int) then (if 0 ≤ t146 then (lexis_count.j0 k a0 a1 t145 t146 t145 ((bt a0 t146) == 44)) else (none)) else (lexis_count.j0 k a0 a1 t145 t146 t145 false)) else (lexis_count.j0 k a0 a1 t145 t146 t145 false)) = some (r1, r2, r3, r4, r5, r6, r7, r8, r9, r10, r11, r12, r13) := H
 have A3 := Aside0.mk A30; clear A30; have HC4 := Aside0.mk H; clear H
 go_enter Try.func38, Try.ntmps38
 go_upto_region 3 with (first | ((with_reducible refine gate_dst (N := 4) rfl ?_); (try (refine gate_guard (by rfl) ?_; dsimp only)); refine Q61 ?hg (N := 4) ?hd (cs := #[.int .i64 0, .int .i64 0, .int .i64 0, .string (⟨#[]⟩ : ByteArray), .bool false, .int .u64 0, .int .u64 0, .int .u64 0, .int .u64 0, .int .i64 0, .int .i64 0]) (t := 28) ?hr ?_; (case hd => rfl); (case hg => rfl); (case hr => first | (go_simp; done) | (go_simp; rfl)); intro gb143 hg w5 hbox hb; have n0_ := Aside0.mk (Q52 (by repeat (first | (with_reducible first | exact HB.out | apply Q46 | apply Q43 | apply Q45) | exact HB.out)) hb); have n1_ := Aside0.mk (hbox); have n2_ := Aside0.mk ((by rw [hg]; exact (Q55 (by repeat (first | (with_reducible first | exact HB.out | apply Q46 | apply Q43 | apply Q45) | exact HB.out))) : w.heap.size ≤ gb143)); have n3_ := n2_; clear HB; have HB := n0_; have BK143 := n1_; have GW143 := n2_; have GE143 := n3_; clear n0_ n1_ n2_ n3_; clear hb hbox hg) | ((with_reducible refine gate_dst (N := 5) rfl ?_); (try (refine gate_guard (by rfl) ?_; dsimp only)); refine Q61 ?hg (N := 5) ?hd (cs := #[.int .i64 0, .int .i64 0]) (t := 31) ?hr ?_; (case hd => rfl); (case hg => rfl); (case hr => first | (go_simp; done) | (go_simp; rfl)); intro gb144 hg w6 hbox hb; have n0_ := Aside0.mk (Q48 (g := gb143) (by (with_reducible repeat (first | apply Q35 | apply Q40 | apply Q37)); exact BK143.out) hb); have n1_ := Aside0.mk (Q52 (by repeat (first | (with_reducible first | exact HB.out | apply Q46 | apply Q43 | apply Q45 | refine Q44 ?_ GE143.out) | exact HB.out)) hb); have n2_ := Aside0.mk (hbox); have n3_ := Aside0.mk ((by rw [hg]; exact (Q55 (by repeat (first | (with_reducible first | exact HB.out | apply Q46 | apply Q43 | apply Q45 | refine Q44 ?_ GE143.out) | exact HB.out))) : w.heap.size ≤ gb144)); have n4_ := n3_; have n5_ := Aside0.mk ((by rw [hg]; exact Nat.ne_of_lt (blk_lt (g := gb143) (by (with_reducible repeat (first | apply Q35 | apply Q40 | apply Q37)); exact BK143.out)) : gb143 ≠ gb144)); have n6_ := Aside0.mk ((by rw [hg]; exact Nat.ne_of_gt (blk_lt (g := gb143) (by (with_reducible repeat (first | apply Q35 | apply Q40 | apply Q37)); exact BK143.out)) : gb144 ≠ gb143)); clear BK143; clear HB; have BK143 := n0_; have HB := n1_; have BK144 := n2_; have GW144 := n3_; have GE144 := n4_; have NB143_144 := n5_; have NB144_143 := n6_; clear n0_ n1_ n2_ n3_ n4_ n5_ n6_; clear hb hbox hg) | ((with_reducible refine Q51 (f := 52) rfl ?_); refine goesL_ (some 13) rfl rfl Try.func52 (by kernel_rfl) rfl #[.string a0, .int .i64 (wrap64 (a1 + 1))] rfl (by (try simp only [List.map_toArray, List.map_cons, List.map_nil]); first | done | rfl | (simp only [List.length_drop, List.length_take]; rfl)) ?_; (with_reducible refine (lexis_number.calls k a0 (wrap64 (a1 + 1)) t145 t146 _ A3.out).mono ?_); rintro e w' ⟨rfl, ⟨nd, rfl⟩⟩; refine ⟨_, rfl, ?_⟩))
 (try simp only [Act.put, List.setIfInBounds_toArray, List.set_cons_zero, List.set_cons_succ])
 go_cut [30] (fun v30 wc => ∃ (kq : Nat) (x30_3 : Bool), v30 = .bool x30_3 ∧ Aside0 (lexis_count.j0 kq a0 a1 t145 t146 t145 x30_3 = some (r1, r2, r3, r4, r5, r6, r7, r8, r9, r10, r11, r12, r13)) ∧ Aside0 (kq ≤ k) ∧ Aside0 (wc.heap[gb143]? = some (.cells #[.int .i64 0, .int .i64 0, .int .i64 0, .string (⟨#[]⟩ : ByteArray), .bool false, .int .u64 0, .int .u64 0, .int .u64 0, .int .u64 0, .int .i64 0, .int .i64 0] 28 (0, 0))) ∧ Aside0 (wc.heap[gb144]? = some (.cells #[.int .i64 0, .int .i64 0] 31 (0, 0))) ∧ Aside0 (Below w.heap.size w wc))
 case first =>
  have H := HC4.out; clear HC4
  by_cases c7 : t145 ≥ 0
  · rw [if_pos c7] at H
    have c7b0 : decide (0 ≤ t145) = true := decide_eq_true c7
    clear c7
    (first | rw [c7b0] | (simp only [i64_w, i32_w]; rw [c7b0]) | skip)
    by_cases c8 : t146 < (a0.size : Int)
    · rw [if_pos c8] at H
      have c8b0 : decide (t146 < (a0.size : Int)) = true := decide_eq_true c8
      clear c8
      by_cases c9 : 0 ≤ t146
      · rw [if_pos c9] at H
        have c9b0 : decide (0 ≤ t146) = true := decide_eq_true c9
        clear c9; have H' := Aside0.mk H; clear H
        have p10 : 0 ≤ (t146 : Int) := of_decide_eq_true (by first | (with_reducible assumption) | assumption)
        have q10 : t146 < (a0.size : Int) := of_decide_eq_true (by first | (with_reducible assumption) | assumption)
        have hx10 := bt_at a0 t146; replace p10 := eq_true p10; replace q10 := eq_true q10
        go_wp2
        go_meet
        case rel => exact ⟨_, (((bt a0 t146) == 44)), (by first | rfl | (simp; done) | (simp [*]; done)), H', ⟨by first | omega | exact Nat.le_refl _⟩, ⟨by (with_reducible repeat (first | apply Q35 | apply Q40 | apply Q37)); exact BK143.out⟩, ⟨by (with_reducible repeat (first | apply Q35 | apply Q40 | apply Q37)); exact BK144.out⟩, ⟨by repeat (first | (with_reducible first | exact HB.out | apply Q46 | apply Q43 | apply Q45 | refine Q44 ?_ GE143.out | refine Q44 ?_ GE144.out) | exact HB.out)⟩⟩
      rw [if_neg c9] at H
      exact absurd H (by simp)
    rw [if_neg c8] at H
    have c8b0 : decide (t146 < (a0.size : Int)) = false := decide_eq_false c8
    clear c8; have H' := Aside0.mk H; clear H
    go_wp2
    go_meet
    case rel => exact ⟨_, (false), (by first | rfl | (simp; done) | (simp [*]; done)), H', ⟨by first | omega | exact Nat.le_refl _⟩, ⟨by (with_reducible repeat (first | apply Q35 | apply Q40 | apply Q37)); exact BK143.out⟩, ⟨by (with_reducible repeat (first | apply Q35 | apply Q40 | apply Q37)); exact BK144.out⟩, ⟨by repeat (first | (with_reducible first | exact HB.out | apply Q46 | apply Q43 | apply Q45 | refine Q44 ?_ GE143.out | refine Q44 ?_ GE144.out) | exact HB.out)⟩⟩
  rw [if_neg c7] at H
  have c7b0 : decide (0 ≤ t145) = false := decide_eq_false c7
  clear c7
  (first | rw [c7b0] | (simp only [i64_w, i32_w]; rw [c7b0]) | skip)
  have H' := Aside0.mk H; clear H
  go_wp2
  go_meet
  case rel => exact ⟨_, (false), (by first | rfl | (simp; done) | (simp [*]; done)), H', ⟨by first | omega | exact Nat.le_refl _⟩, ⟨by (with_reducible repeat (first | apply Q35 | apply Q40 | apply Q37)); exact BK143.out⟩, ⟨by (with_reducible repeat (first | apply Q35 | apply Q40 | apply Q37)); exact BK144.out⟩, ⟨by repeat (first | (with_reducible first | exact HB.out | apply Q46 | apply Q43 | apply Q45 | refine Q44 ?_ GE143.out | refine Q44 ?_ GE144.out) | exact HB.out)⟩⟩
 case rest =>
  clear HC4; (try clear p1); (try clear q1); (try clear hx1); (try clear p2); (try clear c3); (try clear c5); (try clear p6); (try clear c7); (try clear c7b0); (try clear c8); (try clear c8b0); (try clear c9); (try clear c9b0); (try clear p10); (try clear q10); (try clear hx10); (try clear p10); (try clear q10)
  obtain ⟨kq, x30_3, rfl, HA, HJ3, BK143, BK144, HB⟩ := hcut
  cases kq with
  | zero => exact absurd HA.out (by simp [lexis_count.j0])
  | succ kj3 =>
    have H := HA.out; clear HA
    simp only [lexis_count.j0] at H
    by_cases c11 : x30_3 = true
    · subst c11
      have H1 : (if (wrap64 (t146 + 1)) < (a0.size : Int) then (if 0 ≤ (wrap64 (t146 + 1)) then (lexis_count.j1 kj3 a0 a1 t145 (wrap64 (t146 + 1)) (-1) ((bt a0 (wrap64 (t146 + 1))) != 125)) else (none)) else (lexis_count.j1 kj3 a0 a1 t145 (wrap64 (t146 + 1)) (-1) false)) = some (r1, r2, r3, r4, r5, r6, r7, r8, r9, r10, r11, r12, r13) := by rw [if_pos rfl] at H; exact H
      clear H; have H := H1; clear H1; have HC12 := Aside0.mk H; clear H
      go_upto_region 6 with (fail)
      go_cut [42] (fun v42 wc => ∃ (kq : Nat) (x42_11 : Bool), v42 = .bool x42_11 ∧ Aside0 (lexis_count.j1 kq a0 a1 t145 (wrap64 (t146 + 1)) (-1) x42_11 = some (r1, r2, r3, r4, r5, r6, r7, r8, r9, r10, r11, r12, r13)) ∧ Aside0 (kq ≤ kj3) ∧ Aside0 (wc.heap[gb143]? = some (.cells #[.int .i64 0, .int .i64 0, .int .i64 0, .string (⟨#[]⟩ : ByteArray), .bool false, .int .u64 0, .int .u64 0, .int .u64 0, .int .u64 0, .int .i64 0, .int .i64 0] 28 (0, 0))) ∧ Aside0 (wc.heap[gb144]? = some (.cells #[.int .i64 0, .int .i64 0] 31 (0, 0))) ∧ Aside0 (Below w.heap.size w wc))
      case first =>
       have H := HC12.out; clear HC12
       by_cases c13 : (wrap64 (t146 + 1)) < (a0.size : Int)
       · rw [if_pos c13] at H
         have c13b0 : decide ((wrap64 (t146 + 1)) < (a0.size : Int)) = true := decide_eq_true c13
         clear c13
         (first | rw [c13b0] | (simp only [i64_w, i32_w]; rw [c13b0]) | skip)
         obtain ⟨ji14, hji14⟩ : ∃ j_ : Int, (wrap64 (t146 + 1)) = j_ := ⟨_, rfl⟩
         replace H : (if 0 ≤ (ji14) then (lexis_count.j1 kj3 a0 a1 t145 ji14 (-1) ((bt a0 (ji14)) != 125)) else (none)) = some (r1, r2, r3, r4, r5, r6, r7, r8, r9, r10, r11, r12, r13) := by first | (rw [hji14] at H; exact H) | (simp only [hji14] at H ⊢; exact H)
         (try rw [hji14] at c13b0)
         have hji14w : (IntKind.i64.wrap (t146 + 1)) = ji14 := (i64_w _).trans hji14
         by_cases c15 : 0 ≤ (ji14)
         · rw [if_pos c15] at H
           have c15b0 : decide (0 ≤ (ji14)) = true := decide_eq_true c15
           clear c15; have H' := Aside0.mk H; clear H
           have p16 : 0 ≤ ((ji14) : Int) := of_decide_eq_true (by first | (with_reducible assumption) | assumption)
           have q16 : (ji14) < (a0.size : Int) := of_decide_eq_true (by first | (with_reducible assumption) | assumption)
           have hx16 := bt_at a0 (ji14); replace p16 := eq_true p16; replace q16 := eq_true q16
           go_wp2
           go_meet
           case rel => exact ⟨_, (((bt a0 (ji14)) != 125)), (by first | rfl | (simp; done) | (simp [*]; done) | (simp only [← hji14] <;> (first | rfl | simp)) | (simp [*]; done)), (by first | exact H' | (have h_ := H'.out; exact Aside0.mk (by first | exact h_ | (simp only [hji14] at h_ ⊢; exact h_)))), ⟨by have := HJ3.out; first | omega | exact Nat.le_refl _⟩, ⟨by (with_reducible repeat (first | apply Q35 | apply Q40 | apply Q37)); exact BK143.out⟩, ⟨by (with_reducible repeat (first | apply Q35 | apply Q40 | apply Q37)); exact BK144.out⟩, ⟨by repeat (first | (with_reducible first | exact HB.out | apply Q46 | apply Q43 | apply Q45 | refine Q44 ?_ GE143.out | refine Q44 ?_ GE144.out) | exact HB.out)⟩⟩
         rw [if_neg c15] at H
         exact absurd H (by simp)
       rw [if_neg c13] at H
       have c13b0 : decide ((wrap64 (t146 + 1)) < (a0.size : Int)) = false := decide_eq_false c13
       clear c13
       (first | rw [c13b0] | (simp only [i64_w, i32_w]; rw [c13b0]) | skip)
       have H' := Aside0.mk H; clear H
       go_wp2
       go_meet
       case rel => exact ⟨_, (false), (by first | rfl | (simp; done) | (simp [*]; done)), H', ⟨by have := HJ3.out; first | omega | exact Nat.le_refl _⟩, ⟨by (with_reducible repeat (first | apply Q35 | apply Q40 | apply Q37)); exact BK143.out⟩, ⟨by (with_reducible repeat (first | apply Q35 | apply Q40 | apply Q37)); exact BK144.out⟩, ⟨by repeat (first | (with_reducible first | exact HB.out | apply Q46 | apply Q43 | apply Q45 | refine Q44 ?_ GE143.out | refine Q44 ?_ GE144.out) | exact HB.out)⟩⟩
      case rest =>
       clear HC12; (try clear c1); (try clear p1); (try clear q1); (try clear hx1); (try clear p2); (try clear c3); (try clear c5); (try clear p6); (try clear c7); (try clear c7b0); (try clear c8); (try clear c8b0); (try clear c9); (try clear c9b0); (try clear p10); (try clear q10); (try clear hx10); (try clear c11); (try clear c13); (try clear c13b0); (try clear c15); (try clear c15b0); (try clear p16); (try clear q16); (try clear hx16); (try clear p1); (try clear p10); (try clear p16); (try clear p2); (try clear p6); (try clear q1); (try clear q10); (try clear q16)
       obtain ⟨kq, x42_11, rfl, HA, HJ11, BK143, BK144, HB⟩ := hcut
       cases kq with
       | zero => exact absurd HA.out (by simp [lexis_count.j1])
       | succ kj11 =>
         have H := HA.out; clear HA
         simp only [lexis_count.j1] at H
         by_cases c17 : x42_11 = true
         · subst c17
           have H1 : ((lexis_number.f kj11 a0 (wrap64 (t146 + 1))).bind fun bt147 => (if bt147.1 < t145 then ((lexis_fault.f a1 43).bind fun bt149 => (some (bt149.1, bt149.2.1, bt149.2.2.1, bt149.2.2.2.1, bt149.2.2.2.2.1, bt149.2.2.2.2.2.1, bt149.2.2.2.2.2.2.1, bt149.2.2.2.2.2.2.2.1, bt149.2.2.2.2.2.2.2.2.1, bt149.2.2.2.2.2.2.2.2.2.1, bt149.2.2.2.2.2.2.2.2.2.2.1, bt149.2.2.2.2.2.2.2.2.2.2.2.1, bt149.2.2.2.2.2.2.2.2.2.2.2.2))) else (if t145 < 0 then ((lexis_fault.f a1 43).bind fun bt162 => (some (bt162.1, bt162.2.1, bt162.2.2.1, bt162.2.2.2.1, bt162.2.2.2.2.1, bt162.2.2.2.2.2.1, bt162.2.2.2.2.2.2.1, bt162.2.2.2.2.2.2.2.1, bt162.2.2.2.2.2.2.2.2.1, bt162.2.2.2.2.2.2.2.2.2.1, bt162.2.2.2.2.2.2.2.2.2.2.1, bt162.2.2.2.2.2.2.2.2.2.2.2.1, bt162.2.2.2.2.2.2.2.2.2.2.2.2))) else (if bt147.2 ≥ (a0.size : Int) then ((lexis_fault.f a1 43).bind fun bt175 => (some (bt175.1, bt175.2.1, bt175.2.2.1, bt175.2.2.2.1, bt175.2.2.2.2.1, bt175.2.2.2.2.2.1, bt175.2.2.2.2.2.2.1, bt175.2.2.2.2.2.2.2.1, bt175.2.2.2.2.2.2.2.2.1, bt175.2.2.2.2.2.2.2.2.2.1, bt175.2.2.2.2.2.2.2.2.2.2.1, bt175.2.2.2.2.2.2.2.2.2.2.2.1, bt175.2.2.2.2.2.2.2.2.2.2.2.2))) else (if 0 ≤ bt147.2 then (if bt147.2 < (a0.size : Int) then (if (bt a0 bt147.2) = 125 then (some (9, a1, wrap64 (bt147.2 + 1), (⟨#[]⟩ : ByteArray), false, 0, 0, 0, 0, t145, bt147.1, 0, 0)) else ((lexis_fault.f a1 43).bind fun bt188 => (some (bt188.1, bt188.2.1, bt188.2.2.1, bt188.2.2.2.1, bt188.2.2.2.2.1, bt188.2.2.2.2.2.1, bt188.2.2.2.2.2.2.1, bt188.2.2.2.2.2.2.2.1, bt188.2.2.2.2.2.2.2.2.1, bt188.2.2.2.2.2.2.2.2.2.1, bt188.2.2.2.2.2.2.2.2.2.2.1, bt188.2.2.2.2.2.2.2.2.2.2.2.1, bt188.2.2.2.2.2.2.2.2.2.2.2.2)))) else (none)) else (none)))))) = some (r1, r2, r3, r4, r5, r6, r7, r8, r9, r10, r11, r12, r13) := by rw [if_pos rfl] at H; exact H
           clear H; have H := H1; clear H1; replace H := Option.bind_eq_some_iff.mp H
           obtain ⟨⟨t147, t148⟩, A180, H⟩ := H
           replace H : (if t147 < t145 then ((lexis_fault.f a1 43).bind fun bt149 => (some (bt149.1, bt149.2.1, bt149.2.2.1, bt149.2.2.2.1, bt149.2.2.2.2.1, bt149.2.2.2.2.2.1, bt149.2.2.2.2.2.2.1, bt149.2.2.2.2.2.2.2.1, bt149.2.2.2.2.2.2.2.2.1, bt149.2.2.2.2.2.2.2.2.2.1, bt149.2.2.2.2.2.2.2.2.2.2.1, bt149.2.2.2.2.2.2.2.2.2.2.2.1, bt149.2.2.2.2.2.2.2.2.2.2.2.2))) else (if t145 < 0 then ((lexis_fault.f a1 43).bind fun bt162 => (some (bt162.1, bt162.2.1, bt162.2.2.1, bt162.2.2.2.1, bt162.2.2.2.2.1, bt162.2.2.2.2.2.1, bt162.2.2.2.2.2.2.1, bt162.2.2.2.2.2.2.2.1, bt162.2.2.2.2.2.2.2.2.1, bt162.2.2.2.2.2.2.2.2.2.1, bt162.2.2.2.2.2.2.2.2.2.2.1, bt162.2.2.2.2.2.2.2.2.2.2.2.1, bt162.2.2.2.2.2.2.2.2.2.2.2.2))) else (if t148 ≥ (a0.size : Int) then ((lexis_fault.f a1 43).bind fun bt175 => (some (bt175.1, bt175.2.1, bt175.2.2.1, bt175.2.2.2.1, bt175.2.2.2.2.1, bt175.2.2.2.2.2.1, bt175.2.2.2.2.2.2.1, bt175.2.2.2.2.2.2.2.1, bt175.2.2.2.2.2.2.2.2.1, bt175.2.2.2.2.2.2.2.2.2.1, bt175.2.2.2.2.2.2.2.2.2.2.1, bt175.2.2.2.2.2.2.2.2.2.2.2.1, bt175.2.2.2.2.2.2.2.2.2.2.2.2))) else (if 0 ≤ t148 then (if t148 < (a0.size : Int) then (if (bt a0 t148) = 125 then (some (9, a1, wrap64 (t148 + 1), (⟨#[]⟩ : ByteArray), false, 0, 0, 0, 0, t145, t147, 0, 0)) else ((lexis_fault.f a1 43).bind fun bt188 => (some (bt188.1, bt188.2.1, bt188.2.2.1, bt188.2.2.2.1, bt188.2.2.2.2.1, bt188.2.2.2.2.2.1, bt188.2.2.2.2.2.2.1, bt188.2.2.2.2.2.2.2.1, bt188.2.2.2.2.2.2.2.2.1, bt188.2.2.2.2.2.2.2.2.2.1, bt188.2.2.2.2.2.2.2.2.2.2.1, bt188.2.2.2.2.2.2.2.2.2.2.2.1, bt188.2.2.2.2.2.2.2.2.2.2.2.2)))) else (none)) else (none))))) = some (r1, r2, r3, r4, r5, r6, r7, r8, r9, r10, r11, r12, r13) := H
           have A18 := Aside0.mk A180; clear A180
           by_cases c19 : t147 < t145
           · rw [if_pos c19] at H
             have c19b0 : decide (t147 < t145) = true := decide_eq_true c19
             clear c19; replace H := Option.bind_eq_some_iff.mp H
             obtain ⟨⟨t149, t150, t151, t152, t153, t154, t155, t156, t157, t158, t159, t160, t161⟩, A200, H⟩ := H
             replace H : (some (t149, t150, t151, t152, t153, t154, t155, t156, t157, t158, t159, t160, t161)) = some (r1, r2, r3, r4, r5, r6, r7, r8, r9, r10, r11, r12, r13) := H
             have A20 := Aside0.mk A200; clear A200
             simp only [Option.some.injEq, Prod.mk.injEq] at H
             obtain ⟨rfl, rfl, rfl, rfl, rfl, rfl, rfl, rfl, rfl, rfl, rfl, rfl, rfl⟩ := H
             go_wp2_with (first | ((with_reducible refine Q51 (f := 52) rfl ?_); refine goesL_ (some 46) rfl rfl Try.func52 (by kernel_rfl) rfl #[.string a0, .int .i64 (wrap64 (t146 + 1))] rfl (by (try simp only [List.map_toArray, List.map_cons, List.map_nil]); first | done | rfl | (simp only [List.length_drop, List.length_take]; rfl)) ?_; (with_reducible refine (lexis_number.calls kj11 a0 (wrap64 (t146 + 1)) t147 t148 _ A18.out).mono ?_); rintro e w' ⟨rfl, ⟨nd, rfl⟩⟩; refine ⟨_, rfl, ?_⟩; (try (rw [drewN_self wc]; generalize hq_ : World.drewN wc _ = wc; have n0_ : Aside0 (wc.heap[gb143]? = some (.cells #[.int .i64 0, .int .i64 0, .int .i64 0, .string (⟨#[]⟩ : ByteArray), .bool false, .int .u64 0, .int .u64 0, .int .u64 0, .int .u64 0, .int .i64 0, .int .i64 0] 28 (0, 0))) := ⟨by rw [← hq_]; exact (by (with_reducible repeat (first | apply Q35 | apply Q40 | apply Q37)); exact BK143.out)⟩; have n1_ : Aside0 (wc.heap[gb144]? = some (.cells #[.int .i64 0, .int .i64 0] 31 (0, 0))) := ⟨by rw [← hq_]; exact (by (with_reducible repeat (first | apply Q35 | apply Q40 | apply Q37)); exact BK144.out)⟩; have n2_ : Aside0 (Below w.heap.size w wc) := ⟨by rw [← hq_]; exact (by repeat (first | (with_reducible first | exact HB.out | apply Q46 | apply Q43 | apply Q45 | refine Q44 ?_ GE143.out | refine Q44 ?_ GE144.out) | exact HB.out))⟩; clear BK143 BK144 HB hq_; have BK143 := n0_; have BK144 := n1_; have HB := n2_; clear n0_ n1_ n2_))) | ((with_reducible refine Q51 (f := 42) rfl ?_); refine goesL_ (some 53) rfl rfl Try.func42 (by kernel_rfl) rfl #[.int .i64 a1, .int .i64 43] rfl (by (try simp only [List.map_toArray, List.map_cons, List.map_nil]); first | done | rfl | (simp only [List.length_drop, List.length_take]; rfl)) ?_; (with_reducible refine (lexis_fault.calls a1 43 t149 t150 t151 t152 t153 t154 t155 t156 t157 t158 t159 t160 t161 _ A20.out).mono ?_); rintro e w21 ⟨rfl, hb⟩; refine ⟨_, rfl, ?_⟩; have n0_ := Aside0.mk (Q48 (g := gb143) (by (with_reducible repeat (first | apply Q35 | apply Q40 | apply Q37)); exact BK143.out) hb); have n1_ := Aside0.mk (Q48 (g := gb144) (by (with_reducible repeat (first | apply Q35 | apply Q40 | apply Q37)); exact BK144.out) hb); have n2_ := Aside0.mk (Q52 (by repeat (first | (with_reducible first | exact HB.out | apply Q46 | apply Q43 | apply Q45 | refine Q44 ?_ GE143.out | refine Q44 ?_ GE144.out) | exact HB.out)) hb); clear BK143; clear BK144; clear HB; have BK143 := n0_; have BK144 := n1_; have HB := n2_; clear n0_ n1_ n2_; (try clear hb); (try clear hb2); (try clear hk); (try clear hi); have hnb22 := NB143_144.out; have hnc22 := NB144_143.out; obtain ⟨hcz23_0, hcz23_1, hcz23_2, hcz23_3, hcz23_4, hcz23_5, hcz23_6, hcz23_7, hcz23_8, hcz23_9, hcz23_10, hfz23_0, hfz23_1, hfz23_2, hfz23_3, hfz23_4, hfz23_5, hfz23_6, hfz23_7, hfz23_8, hfz23_9, hfz23_10⟩ := Q54 BK143.out; obtain ⟨hcz24_0, hcz24_1, hfz24_0, hfz24_1⟩ := Q56 BK144.out))
             refine bodyPost_ret (Q58 rfl _ _ gb143 gb144 28 31 #[.int .i64 t149, .int .i64 t150, .int .i64 t151, .string t152, .bool t153, .int .u64 t154, .int .u64 t155, .int .u64 t156, .int .u64 t157, .int .i64 t158, .int .i64 t159] #[.int .i64 t160, .int .i64 t161] (0, 0) (0, 0) _ _ rfl (by (with_reducible repeat (first | apply Q35 | apply Q40 | apply Q37)); refine blk_far2 ?_ NB143_144.out; (with_reducible repeat (first | apply Q35 | apply Q40 | apply Q37)); apply Q62; (with_reducible repeat (first | apply Q35 | apply Q40 | apply Q37)); exact BK143.out) Try.underlying28 rfl (by kernel_rfl) rfl (by (with_reducible repeat (first | apply Q35 | apply Q40 | apply Q37)); apply blk_put2; (with_reducible repeat (first | apply Q35 | apply Q40 | apply Q37)); refine Q59 ?_ NB144_143.out; (with_reducible repeat (first | apply Q35 | apply Q40 | apply Q37)); exact BK144.out) Try.underlying31 rfl (by kernel_rfl)) rfl ?_
             exact ⟨by first | rfl | (simp [Q50, Q49] <;> rfl) | (simp [*, Q50, Q49] <;> rfl), by repeat (first | (with_reducible first | exact HB.out | apply Q46 | apply Q43 | apply Q45 | refine Q44 ?_ GE143.out | refine Q44 ?_ GE144.out) | exact HB.out)⟩
           rw [if_neg c19] at H
           have c19b0 : decide (t147 < t145) = false := decide_eq_false c19
           clear c19
           by_cases c25 : t145 < 0
           · rw [if_pos c25] at H
             have c25b0 : decide (t145 < 0) = true := decide_eq_true c25
             clear c25; replace H := Option.bind_eq_some_iff.mp H
             obtain ⟨⟨t162, t163, t164, t165, t166, t167, t168, t169, t170, t171, t172, t173, t174⟩, A260, H⟩ := H
             replace H : (some (t162, t163, t164, t165, t166, t167, t168, t169, t170, t171, t172, t173, t174)) = some (r1, r2, r3, r4, r5, r6, r7, r8, r9, r10, r11, r12, r13) := H
             have A26 := Aside0.mk A260; clear A260
             simp only [Option.some.injEq, Prod.mk.injEq] at H
             obtain ⟨rfl, rfl, rfl, rfl, rfl, rfl, rfl, rfl, rfl, rfl, rfl, rfl, rfl⟩ := H
             go_wp2_with (first | ((with_reducible refine Q51 (f := 52) rfl ?_); refine goesL_ (some 46) rfl rfl Try.func52 (by kernel_rfl) rfl #[.string a0, .int .i64 (wrap64 (t146 + 1))] rfl (by (try simp only [List.map_toArray, List.map_cons, List.map_nil]); first | done | rfl | (simp only [List.length_drop, List.length_take]; rfl)) ?_; (with_reducible refine (lexis_number.calls kj11 a0 (wrap64 (t146 + 1)) t147 t148 _ A18.out).mono ?_); rintro e w' ⟨rfl, ⟨nd, rfl⟩⟩; refine ⟨_, rfl, ?_⟩; (try (rw [drewN_self wc]; generalize hq_ : World.drewN wc _ = wc; have n0_ : Aside0 (wc.heap[gb143]? = some (.cells #[.int .i64 0, .int .i64 0, .int .i64 0, .string (⟨#[]⟩ : ByteArray), .bool false, .int .u64 0, .int .u64 0, .int .u64 0, .int .u64 0, .int .i64 0, .int .i64 0] 28 (0, 0))) := ⟨by rw [← hq_]; exact (by (with_reducible repeat (first | apply Q35 | apply Q40 | apply Q37)); exact BK143.out)⟩; have n1_ : Aside0 (wc.heap[gb144]? = some (.cells #[.int .i64 0, .int .i64 0] 31 (0, 0))) := ⟨by rw [← hq_]; exact (by (with_reducible repeat (first | apply Q35 | apply Q40 | apply Q37)); exact BK144.out)⟩; have n2_ : Aside0 (Below w.heap.size w wc) := ⟨by rw [← hq_]; exact (by repeat (first | (with_reducible first | exact HB.out | apply Q46 | apply Q43 | apply Q45 | refine Q44 ?_ GE143.out | refine Q44 ?_ GE144.out) | exact HB.out))⟩; clear BK143 BK144 HB hq_; have BK143 := n0_; have BK144 := n1_; have HB := n2_; clear n0_ n1_ n2_))) | ((with_reducible refine Q51 (f := 42) rfl ?_); refine goesL_ (some 71) rfl rfl Try.func42 (by kernel_rfl) rfl #[.int .i64 a1, .int .i64 43] rfl (by (try simp only [List.map_toArray, List.map_cons, List.map_nil]); first | done | rfl | (simp only [List.length_drop, List.length_take]; rfl)) ?_; (with_reducible refine (lexis_fault.calls a1 43 t162 t163 t164 t165 t166 t167 t168 t169 t170 t171 t172 t173 t174 _ A26.out).mono ?_); rintro e w27 ⟨rfl, hb⟩; refine ⟨_, rfl, ?_⟩; have n0_ := Aside0.mk (Q48 (g := gb143) (by (with_reducible repeat (first | apply Q35 | apply Q40 | apply Q37)); exact BK143.out) hb); have n1_ := Aside0.mk (Q48 (g := gb144) (by (with_reducible repeat (first | apply Q35 | apply Q40 | apply Q37)); exact BK144.out) hb); have n2_ := Aside0.mk (Q52 (by repeat (first | (with_reducible first | exact HB.out | apply Q46 | apply Q43 | apply Q45 | refine Q44 ?_ GE143.out | refine Q44 ?_ GE144.out) | exact HB.out)) hb); clear BK143; clear BK144; clear HB; have BK143 := n0_; have BK144 := n1_; have HB := n2_; clear n0_ n1_ n2_; (try clear hb); (try clear hb2); (try clear hk); (try clear hi); have hnb28 := NB143_144.out; have hnc28 := NB144_143.out; obtain ⟨hcz29_0, hcz29_1, hcz29_2, hcz29_3, hcz29_4, hcz29_5, hcz29_6, hcz29_7, hcz29_8, hcz29_9, hcz29_10, hfz29_0, hfz29_1, hfz29_2, hfz29_3, hfz29_4, hfz29_5, hfz29_6, hfz29_7, hfz29_8, hfz29_9, hfz29_10⟩ := Q54 BK143.out; obtain ⟨hcz30_0, hcz30_1, hfz30_0, hfz30_1⟩ := Q56 BK144.out))
             refine bodyPost_ret (Q58 rfl _ _ gb143 gb144 28 31 #[.int .i64 t162, .int .i64 t163, .int .i64 t164, .string t165, .bool t166, .int .u64 t167, .int .u64 t168, .int .u64 t169, .int .u64 t170, .int .i64 t171, .int .i64 t172] #[.int .i64 t173, .int .i64 t174] (0, 0) (0, 0) _ _ rfl (by (with_reducible repeat (first | apply Q35 | apply Q40 | apply Q37)); refine blk_far2 ?_ NB143_144.out; (with_reducible repeat (first | apply Q35 | apply Q40 | apply Q37)); apply Q62; (with_reducible repeat (first | apply Q35 | apply Q40 | apply Q37)); exact BK143.out) Try.underlying28 rfl (by kernel_rfl) rfl (by (with_reducible repeat (first | apply Q35 | apply Q40 | apply Q37)); apply blk_put2; (with_reducible repeat (first | apply Q35 | apply Q40 | apply Q37)); refine Q59 ?_ NB144_143.out; (with_reducible repeat (first | apply Q35 | apply Q40 | apply Q37)); exact BK144.out) Try.underlying31 rfl (by kernel_rfl)) rfl ?_
             exact ⟨by first | rfl | (simp [Q50, Q49] <;> rfl) | (simp [*, Q50, Q49] <;> rfl), by repeat (first | (with_reducible first | exact HB.out | apply Q46 | apply Q43 | apply Q45 | refine Q44 ?_ GE143.out | refine Q44 ?_ GE144.out) | exact HB.out)⟩
           rw [if_neg c25] at H
           have c25b0 : decide (t145 < 0) = false := decide_eq_false c25
           clear c25
           by_cases c31 : t148 ≥ (a0.size : Int)
           · rw [if_pos c31] at H
             have c31b0 : decide ((a0.size : Int) ≤ t148) = true := decide_eq_true c31
             clear c31; replace H := Option.bind_eq_some_iff.mp H
             obtain ⟨⟨t175, t176, t177, t178, t179, t180, t181, t182, t183, t184, t185, t186, t187⟩, A320, H⟩ := H
             replace H : (some (t175, t176, t177, t178, t179, t180, t181, t182, t183, t184, t185, t186, t187)) = some (r1, r2, r3, r4, r5, r6, r7, r8, r9, r10, r11, r12, r13) := H
             have A32 := Aside0.mk A320; clear A320
             simp only [Option.some.injEq, Prod.mk.injEq] at H
             obtain ⟨rfl, rfl, rfl, rfl, rfl, rfl, rfl, rfl, rfl, rfl, rfl, rfl, rfl⟩ := H
             go_wp2_with (first | ((with_reducible refine Q51 (f := 52) rfl ?_); refine goesL_ (some 46) rfl rfl Try.func52 (by kernel_rfl) rfl #[.string a0, .int .i64 (wrap64 (t146 + 1))] rfl (by (try simp only [List.map_toArray, List.map_cons, List.map_nil]); first | done | rfl | (simp only [List.length_drop, List.length_take]; rfl)) ?_; (with_reducible refine (lexis_number.calls kj11 a0 (wrap64 (t146 + 1)) t147 t148 _ A18.out).mono ?_); rintro e w' ⟨rfl, ⟨nd, rfl⟩⟩; refine ⟨_, rfl, ?_⟩; (try (rw [drewN_self wc]; generalize hq_ : World.drewN wc _ = wc; have n0_ : Aside0 (wc.heap[gb143]? = some (.cells #[.int .i64 0, .int .i64 0, .int .i64 0, .string (⟨#[]⟩ : ByteArray), .bool false, .int .u64 0, .int .u64 0, .int .u64 0, .int .u64 0, .int .i64 0, .int .i64 0] 28 (0, 0))) := ⟨by rw [← hq_]; exact (by (with_reducible repeat (first | apply Q35 | apply Q40 | apply Q37)); exact BK143.out)⟩; have n1_ : Aside0 (wc.heap[gb144]? = some (.cells #[.int .i64 0, .int .i64 0] 31 (0, 0))) := ⟨by rw [← hq_]; exact (by (with_reducible repeat (first | apply Q35 | apply Q40 | apply Q37)); exact BK144.out)⟩; have n2_ : Aside0 (Below w.heap.size w wc) := ⟨by rw [← hq_]; exact (by repeat (first | (with_reducible first | exact HB.out | apply Q46 | apply Q43 | apply Q45 | refine Q44 ?_ GE143.out | refine Q44 ?_ GE144.out) | exact HB.out))⟩; clear BK143 BK144 HB hq_; have BK143 := n0_; have BK144 := n1_; have HB := n2_; clear n0_ n1_ n2_))) | ((with_reducible refine Q51 (f := 42) rfl ?_); refine goesL_ (some 71) rfl rfl Try.func42 (by kernel_rfl) rfl #[.int .i64 a1, .int .i64 43] rfl (by (try simp only [List.map_toArray, List.map_cons, List.map_nil]); first | done | rfl | (simp only [List.length_drop, List.length_take]; rfl)) ?_; (with_reducible refine (lexis_fault.calls a1 43 t175 t176 t177 t178 t179 t180 t181 t182 t183 t184 t185 t186 t187 _ A32.out).mono ?_); rintro e w33 ⟨rfl, hb⟩; refine ⟨_, rfl, ?_⟩; have n0_ := Aside0.mk (Q48 (g := gb143) (by (with_reducible repeat (first | apply Q35 | apply Q40 | apply Q37)); exact BK143.out) hb); have n1_ := Aside0.mk (Q48 (g := gb144) (by (with_reducible repeat (first | apply Q35 | apply Q40 | apply Q37)); exact BK144.out) hb); have n2_ := Aside0.mk (Q52 (by repeat (first | (with_reducible first | exact HB.out | apply Q46 | apply Q43 | apply Q45 | refine Q44 ?_ GE143.out | refine Q44 ?_ GE144.out) | exact HB.out)) hb); clear BK143; clear BK144; clear HB; have BK143 := n0_; have BK144 := n1_; have HB := n2_; clear n0_ n1_ n2_; (try clear hb); (try clear hb2); (try clear hk); (try clear hi); have hnb34 := NB143_144.out; have hnc34 := NB144_143.out; obtain ⟨hcz35_0, hcz35_1, hcz35_2, hcz35_3, hcz35_4, hcz35_5, hcz35_6, hcz35_7, hcz35_8, hcz35_9, hcz35_10, hfz35_0, hfz35_1, hfz35_2, hfz35_3, hfz35_4, hfz35_5, hfz35_6, hfz35_7, hfz35_8, hfz35_9, hfz35_10⟩ := Q54 BK143.out; obtain ⟨hcz36_0, hcz36_1, hfz36_0, hfz36_1⟩ := Q56 BK144.out))
             refine bodyPost_ret (Q58 rfl _ _ gb143 gb144 28 31 #[.int .i64 t175, .int .i64 t176, .int .i64 t177, .string t178, .bool t179, .int .u64 t180, .int .u64 t181, .int .u64 t182, .int .u64 t183, .int .i64 t184, .int .i64 t185] #[.int .i64 t186, .int .i64 t187] (0, 0) (0, 0) _ _ rfl (by (with_reducible repeat (first | apply Q35 | apply Q40 | apply Q37)); refine blk_far2 ?_ NB143_144.out; (with_reducible repeat (first | apply Q35 | apply Q40 | apply Q37)); apply Q62; (with_reducible repeat (first | apply Q35 | apply Q40 | apply Q37)); exact BK143.out) Try.underlying28 rfl (by kernel_rfl) rfl (by (with_reducible repeat (first | apply Q35 | apply Q40 | apply Q37)); apply blk_put2; (with_reducible repeat (first | apply Q35 | apply Q40 | apply Q37)); refine Q59 ?_ NB144_143.out; (with_reducible repeat (first | apply Q35 | apply Q40 | apply Q37)); exact BK144.out) Try.underlying31 rfl (by kernel_rfl)) rfl ?_
             exact ⟨by first | rfl | (simp [Q50, Q49] <;> rfl) | (simp [*, Q50, Q49] <;> rfl), by repeat (first | (with_reducible first | exact HB.out | apply Q46 | apply Q43 | apply Q45 | refine Q44 ?_ GE143.out | refine Q44 ?_ GE144.out) | exact HB.out)⟩
           rw [if_neg c31] at H
           have c31b0 : decide ((a0.size : Int) ≤ t148) = false := decide_eq_false c31
           clear c31
           by_cases c37 : 0 ≤ t148
           · rw [if_pos c37] at H
             have c37b0 : decide (0 ≤ t148) = true := decide_eq_true c37
             clear c37
             by_cases c38 : t148 < (a0.size : Int)
             · rw [if_pos c38] at H
               have c38b0 : decide (t148 < (a0.size : Int)) = true := decide_eq_true c38
               clear c38
               by_cases c40 : (bt a0 t148) = 125
               · rw [if_pos c40] at H
                 have c40b0 : ((bt a0 t148) == 125) = true := beq_iff_eq.mpr c40
                 have c40b1 : ((bt a0 t148) != 125) = false := bne_eq_false_iff_eq.mpr c40
                 clear c40
                 simp only [Option.some.injEq, Prod.mk.injEq] at H
                 obtain ⟨rfl, rfl, rfl, rfl, rfl, rfl, rfl, rfl, rfl, rfl, rfl, rfl, rfl⟩ := H
                 go_wp2_with (first | ((with_reducible refine Q51 (f := 52) rfl ?_); refine goesL_ (some 46) rfl rfl Try.func52 (by kernel_rfl) rfl #[.string a0, .int .i64 (wrap64 (t146 + 1))] rfl (by (try simp only [List.map_toArray, List.map_cons, List.map_nil]); first | done | rfl | (simp only [List.length_drop, List.length_take]; rfl)) ?_; (with_reducible refine (lexis_number.calls kj11 a0 (wrap64 (t146 + 1)) t147 t148 _ A18.out).mono ?_); rintro e w' ⟨rfl, ⟨nd, rfl⟩⟩; refine ⟨_, rfl, ?_⟩; (try (rw [drewN_self wc]; generalize hq_ : World.drewN wc _ = wc; have n0_ : Aside0 (wc.heap[gb143]? = some (.cells #[.int .i64 0, .int .i64 0, .int .i64 0, .string (⟨#[]⟩ : ByteArray), .bool false, .int .u64 0, .int .u64 0, .int .u64 0, .int .u64 0, .int .i64 0, .int .i64 0] 28 (0, 0))) := ⟨by rw [← hq_]; exact (by (with_reducible repeat (first | apply Q35 | apply Q40 | apply Q37)); exact BK143.out)⟩; have n1_ : Aside0 (wc.heap[gb144]? = some (.cells #[.int .i64 0, .int .i64 0] 31 (0, 0))) := ⟨by rw [← hq_]; exact (by (with_reducible repeat (first | apply Q35 | apply Q40 | apply Q37)); exact BK144.out)⟩; have n2_ : Aside0 (Below w.heap.size w wc) := ⟨by rw [← hq_]; exact (by repeat (first | (with_reducible first | exact HB.out | apply Q46 | apply Q43 | apply Q45 | refine Q44 ?_ GE143.out | refine Q44 ?_ GE144.out) | exact HB.out))⟩; clear BK143 BK144 HB hq_; have BK143 := n0_; have BK144 := n1_; have HB := n2_; clear n0_ n1_ n2_)); have p39 : 0 ≤ (t148 : Int) := of_decide_eq_true (by first | (with_reducible assumption) | assumption); have q39 : t148 < (a0.size : Int) := of_decide_eq_true (by first | (with_reducible assumption) | assumption); have hx39 := bt_at a0 t148; replace p39 := eq_true p39; replace q39 := eq_true q39; have hnb41 := NB143_144.out; have hnc41 := NB144_143.out; obtain ⟨hcz42_0, hcz42_1, hcz42_2, hcz42_3, hcz42_4, hcz42_5, hcz42_6, hcz42_7, hcz42_8, hcz42_9, hcz42_10, hfz42_0, hfz42_1, hfz42_2, hfz42_3, hfz42_4, hfz42_5, hfz42_6, hfz42_7, hfz42_8, hfz42_9, hfz42_10⟩ := Q54 BK143.out; obtain ⟨hcz43_0, hcz43_1, hfz43_0, hfz43_1⟩ := Q56 BK144.out))
                 refine bodyPost_ret (Q58 rfl _ _ gb143 gb144 28 31 #[.int .i64 9, .int .i64 a1, .int .i64 (wrap64 (t148 + 1)), .string (⟨#[]⟩ : ByteArray), .bool false, .int .u64 0, .int .u64 0, .int .u64 0, .int .u64 0, .int .i64 t145, .int .i64 t147] #[.int .i64 0, .int .i64 0] (0, 0) (0, 0) _ _ rfl (by (with_reducible repeat (first | apply Q35 | apply Q40 | apply Q37)); refine blk_far2 ?_ NB143_144.out; (with_reducible repeat (first | apply Q35 | apply Q40 | apply Q37)); apply Q62; (with_reducible repeat (first | apply Q35 | apply Q40 | apply Q37)); exact BK143.out) Try.underlying28 rfl (by kernel_rfl) rfl (by (with_reducible repeat (first | apply Q35 | apply Q40 | apply Q37)); apply blk_put2; (with_reducible repeat (first | apply Q35 | apply Q40 | apply Q37)); refine Q59 ?_ NB144_143.out; (with_reducible repeat (first | apply Q35 | apply Q40 | apply Q37)); exact BK144.out) Try.underlying31 rfl (by kernel_rfl)) rfl ?_
                 exact ⟨by first | rfl | (simp [Q50, Q49] <;> rfl) | (simp [*, Q50, Q49] <;> rfl), by repeat (first | (with_reducible first | exact HB.out | apply Q46 | apply Q43 | apply Q45 | refine Q44 ?_ GE143.out | refine Q44 ?_ GE144.out) | exact HB.out)⟩
               rw [if_neg c40] at H
               have c40b0 : ((bt a0 t148) == 125) = false := beq_eq_false_iff_ne.mpr c40
               have c40b1 : ((bt a0 t148) != 125) = true := bne_iff_ne.mpr c40
               replace H := Option.bind_eq_some_iff.mp H
               obtain ⟨⟨t188, t189, t190, t191, t192, t193, t194, t195, t196, t197, t198, t199, t200⟩, A440, H⟩ := H
               replace H : (some (t188, t189, t190, t191, t192, t193, t194, t195, t196, t197, t198, t199, t200)) = some (r1, r2, r3, r4, r5, r6, r7, r8, r9, r10, r11, r12, r13) := H
               have A44 := Aside0.mk A440; clear A440
               simp only [Option.some.injEq, Prod.mk.injEq] at H
               obtain ⟨rfl, rfl, rfl, rfl, rfl, rfl, rfl, rfl, rfl, rfl, rfl, rfl, rfl⟩ := H
               go_wp2_with (first | ((with_reducible refine Q51 (f := 52) rfl ?_); refine goesL_ (some 46) rfl rfl Try.func52 (by kernel_rfl) rfl #[.string a0, .int .i64 (wrap64 (t146 + 1))] rfl (by (try simp only [List.map_toArray, List.map_cons, List.map_nil]); first | done | rfl | (simp only [List.length_drop, List.length_take]; rfl)) ?_; (with_reducible refine (lexis_number.calls kj11 a0 (wrap64 (t146 + 1)) t147 t148 _ A18.out).mono ?_); rintro e w' ⟨rfl, ⟨nd, rfl⟩⟩; refine ⟨_, rfl, ?_⟩; (try (rw [drewN_self wc]; generalize hq_ : World.drewN wc _ = wc; have n0_ : Aside0 (wc.heap[gb143]? = some (.cells #[.int .i64 0, .int .i64 0, .int .i64 0, .string (⟨#[]⟩ : ByteArray), .bool false, .int .u64 0, .int .u64 0, .int .u64 0, .int .u64 0, .int .i64 0, .int .i64 0] 28 (0, 0))) := ⟨by rw [← hq_]; exact (by (with_reducible repeat (first | apply Q35 | apply Q40 | apply Q37)); exact BK143.out)⟩; have n1_ : Aside0 (wc.heap[gb144]? = some (.cells #[.int .i64 0, .int .i64 0] 31 (0, 0))) := ⟨by rw [← hq_]; exact (by (with_reducible repeat (first | apply Q35 | apply Q40 | apply Q37)); exact BK144.out)⟩; have n2_ : Aside0 (Below w.heap.size w wc) := ⟨by rw [← hq_]; exact (by repeat (first | (with_reducible first | exact HB.out | apply Q46 | apply Q43 | apply Q45 | refine Q44 ?_ GE143.out | refine Q44 ?_ GE144.out) | exact HB.out))⟩; clear BK143 BK144 HB hq_; have BK143 := n0_; have BK144 := n1_; have HB := n2_; clear n0_ n1_ n2_)); have p39 : 0 ≤ (t148 : Int) := of_decide_eq_true (by first | (with_reducible assumption) | assumption); have q39 : t148 < (a0.size : Int) := of_decide_eq_true (by first | (with_reducible assumption) | assumption); have hx39 := bt_at a0 t148; replace p39 := eq_true p39; replace q39 := eq_true q39) | ((with_reducible refine Q51 (f := 42) rfl ?_); refine goesL_ (some 71) rfl rfl Try.func42 (by kernel_rfl) rfl #[.int .i64 a1, .int .i64 43] rfl (by (try simp only [List.map_toArray, List.map_cons, List.map_nil]); first | done | rfl | (simp only [List.length_drop, List.length_take]; rfl)) ?_; (with_reducible refine (lexis_fault.calls a1 43 t188 t189 t190 t191 t192 t193 t194 t195 t196 t197 t198 t199 t200 _ A44.out).mono ?_); rintro e w45 ⟨rfl, hb⟩; refine ⟨_, rfl, ?_⟩; have n0_ := Aside0.mk (Q48 (g := gb143) (by (with_reducible repeat (first | apply Q35 | apply Q40 | apply Q37)); exact BK143.out) hb); have n1_ := Aside0.mk (Q48 (g := gb144) (by (with_reducible repeat (first | apply Q35 | apply Q40 | apply Q37)); exact BK144.out) hb); have n2_ := Aside0.mk (Q52 (by repeat (first | (with_reducible first | exact HB.out | apply Q46 | apply Q43 | apply Q45 | refine Q44 ?_ GE143.out | refine Q44 ?_ GE144.out) | exact HB.out)) hb); clear BK143; clear BK144; clear HB; have BK143 := n0_; have BK144 := n1_; have HB := n2_; clear n0_ n1_ n2_; (try clear hb); (try clear hb2); (try clear hk); (try clear hi); have hnb46 := NB143_144.out; have hnc46 := NB144_143.out; obtain ⟨hcz47_0, hcz47_1, hcz47_2, hcz47_3, hcz47_4, hcz47_5, hcz47_6, hcz47_7, hcz47_8, hcz47_9, hcz47_10, hfz47_0, hfz47_1, hfz47_2, hfz47_3, hfz47_4, hfz47_5, hfz47_6, hfz47_7, hfz47_8, hfz47_9, hfz47_10⟩ := Q54 BK143.out; obtain ⟨hcz48_0, hcz48_1, hfz48_0, hfz48_1⟩ := Q56 BK144.out))
               refine bodyPost_ret (Q58 rfl _ _ gb143 gb144 28 31 #[.int .i64 t188, .int .i64 t189, .int .i64 t190, .string t191, .bool t192, .int .u64 t193, .int .u64 t194, .int .u64 t195, .int .u64 t196, .int .i64 t197, .int .i64 t198] #[.int .i64 t199, .int .i64 t200] (0, 0) (0, 0) _ _ rfl (by (with_reducible repeat (first | apply Q35 | apply Q40 | apply Q37)); refine blk_far2 ?_ NB143_144.out; (with_reducible repeat (first | apply Q35 | apply Q40 | apply Q37)); apply Q62; (with_reducible repeat (first | apply Q35 | apply Q40 | apply Q37)); exact BK143.out) Try.underlying28 rfl (by kernel_rfl) rfl (by (with_reducible repeat (first | apply Q35 | apply Q40 | apply Q37)); apply blk_put2; (with_reducible repeat (first | apply Q35 | apply Q40 | apply Q37)); refine Q59 ?_ NB144_143.out; (with_reducible repeat (first | apply Q35 | apply Q40 | apply Q37)); exact BK144.out) Try.underlying31 rfl (by kernel_rfl)) rfl ?_
               exact ⟨by first | rfl | (simp [Q50, Q49] <;> rfl) | (simp [*, Q50, Q49] <;> rfl), by repeat (first | (with_reducible first | exact HB.out | apply Q46 | apply Q43 | apply Q45 | refine Q44 ?_ GE143.out | refine Q44 ?_ GE144.out) | exact HB.out)⟩
             rw [if_neg c38] at H
             exact absurd H (by simp)
           rw [if_neg c37] at H
           exact absurd H (by simp)
         replace c17 := Bool.eq_false_iff.mpr c17; subst c17
         have H1 : (if t145 < 0 then ((lexis_fault.f a1 43).bind fun bt201 => (some (bt201.1, bt201.2.1, bt201.2.2.1, bt201.2.2.2.1, bt201.2.2.2.2.1, bt201.2.2.2.2.2.1, bt201.2.2.2.2.2.2.1, bt201.2.2.2.2.2.2.2.1, bt201.2.2.2.2.2.2.2.2.1, bt201.2.2.2.2.2.2.2.2.2.1, bt201.2.2.2.2.2.2.2.2.2.2.1, bt201.2.2.2.2.2.2.2.2.2.2.2.1, bt201.2.2.2.2.2.2.2.2.2.2.2.2))) else (if (wrap64 (t146 + 1)) ≥ (a0.size : Int) then ((lexis_fault.f a1 43).bind fun bt214 => (some (bt214.1, bt214.2.1, bt214.2.2.1, bt214.2.2.2.1, bt214.2.2.2.2.1, bt214.2.2.2.2.2.1, bt214.2.2.2.2.2.2.1, bt214.2.2.2.2.2.2.2.1, bt214.2.2.2.2.2.2.2.2.1, bt214.2.2.2.2.2.2.2.2.2.1, bt214.2.2.2.2.2.2.2.2.2.2.1, bt214.2.2.2.2.2.2.2.2.2.2.2.1, bt214.2.2.2.2.2.2.2.2.2.2.2.2))) else (if 0 ≤ (wrap64 (t146 + 1)) then (if (wrap64 (t146 + 1)) < (a0.size : Int) then (if (bt a0 (wrap64 (t146 + 1))) = 125 then (some (9, a1, wrap64 ((wrap64 (t146 + 1)) + 1), (⟨#[]⟩ : ByteArray), false, 0, 0, 0, 0, t145, (-1), 0, 0)) else ((lexis_fault.f a1 43).bind fun bt227 => (some (bt227.1, bt227.2.1, bt227.2.2.1, bt227.2.2.2.1, bt227.2.2.2.2.1, bt227.2.2.2.2.2.1, bt227.2.2.2.2.2.2.1, bt227.2.2.2.2.2.2.2.1, bt227.2.2.2.2.2.2.2.2.1, bt227.2.2.2.2.2.2.2.2.2.1, bt227.2.2.2.2.2.2.2.2.2.2.1, bt227.2.2.2.2.2.2.2.2.2.2.2.1, bt227.2.2.2.2.2.2.2.2.2.2.2.2)))) else (none)) else (none)))) = some (r1, r2, r3, r4, r5, r6, r7, r8, r9, r10, r11, r12, r13) := by rw [if_neg (show ¬ (false = true) by decide)] at H; exact H
         clear H; have H := H1; clear H1
         by_cases c49 : t145 < 0
         · rw [if_pos c49] at H
           have c49b0 : decide (t145 < 0) = true := decide_eq_true c49
           clear c49; replace H := Option.bind_eq_some_iff.mp H
           obtain ⟨⟨t201, t202, t203, t204, t205, t206, t207, t208, t209, t210, t211, t212, t213⟩, A500, H⟩ := H
           replace H : (some (t201, t202, t203, t204, t205, t206, t207, t208, t209, t210, t211, t212, t213)) = some (r1, r2, r3, r4, r5, r6, r7, r8, r9, r10, r11, r12, r13) := H
           have A50 := Aside0.mk A500; clear A500
           simp only [Option.some.injEq, Prod.mk.injEq] at H
           obtain ⟨rfl, rfl, rfl, rfl, rfl, rfl, rfl, rfl, rfl, rfl, rfl, rfl, rfl⟩ := H
           go_wp2_with (first | ((with_reducible refine Q51 (f := 42) rfl ?_); refine goesL_ (some 71) rfl rfl Try.func42 (by kernel_rfl) rfl #[.int .i64 a1, .int .i64 43] rfl (by (try simp only [List.map_toArray, List.map_cons, List.map_nil]); first | done | rfl | (simp only [List.length_drop, List.length_take]; rfl)) ?_; (with_reducible refine (lexis_fault.calls a1 43 t201 t202 t203 t204 t205 t206 t207 t208 t209 t210 t211 t212 t213 _ A50.out).mono ?_); rintro e w51 ⟨rfl, hb⟩; refine ⟨_, rfl, ?_⟩; have n0_ := Aside0.mk (Q48 (g := gb143) (by (with_reducible repeat (first | apply Q35 | apply Q40 | apply Q37)); exact BK143.out) hb); have n1_ := Aside0.mk (Q48 (g := gb144) (by (with_reducible repeat (first | apply Q35 | apply Q40 | apply Q37)); exact BK144.out) hb); have n2_ := Aside0.mk (Q52 (by repeat (first | (with_reducible first | exact HB.out | apply Q46 | apply Q43 | apply Q45 | refine Q44 ?_ GE143.out | refine Q44 ?_ GE144.out) | exact HB.out)) hb); clear BK143; clear BK144; clear HB; have BK143 := n0_; have BK144 := n1_; have HB := n2_; clear n0_ n1_ n2_; (try clear hb); (try clear hb2); (try clear hk); (try clear hi); have hnb52 := NB143_144.out; have hnc52 := NB144_143.out; obtain ⟨hcz53_0, hcz53_1, hcz53_2, hcz53_3, hcz53_4, hcz53_5, hcz53_6, hcz53_7, hcz53_8, hcz53_9, hcz53_10, hfz53_0, hfz53_1, hfz53_2, hfz53_3, hfz53_4, hfz53_5, hfz53_6, hfz53_7, hfz53_8, hfz53_9, hfz53_10⟩ := Q54 BK143.out; obtain ⟨hcz54_0, hcz54_1, hfz54_0, hfz54_1⟩ := Q56 BK144.out))
           refine bodyPost_ret (Q58 rfl _ _ gb143 gb144 28 31 #[.int .i64 t201, .int .i64 t202, .int .i64 t203, .string t204, .bool t205, .int .u64 t206, .int .u64 t207, .int .u64 t208, .int .u64 t209, .int .i64 t210, .int .i64 t211] #[.int .i64 t212, .int .i64 t213] (0, 0) (0, 0) _ _ rfl (by (with_reducible repeat (first | apply Q35 | apply Q40 | apply Q37)); refine blk_far2 ?_ NB143_144.out; (with_reducible repeat (first | apply Q35 | apply Q40 | apply Q37)); apply Q62; (with_reducible repeat (first | apply Q35 | apply Q40 | apply Q37)); exact BK143.out) Try.underlying28 rfl (by kernel_rfl) rfl (by (with_reducible repeat (first | apply Q35 | apply Q40 | apply Q37)); apply blk_put2; (with_reducible repeat (first | apply Q35 | apply Q40 | apply Q37)); refine Q59 ?_ NB144_143.out; (with_reducible repeat (first | apply Q35 | apply Q40 | apply Q37)); exact BK144.out) Try.underlying31 rfl (by kernel_rfl)) rfl ?_
           exact ⟨by first | rfl | (simp [Q50, Q49] <;> rfl) | (simp [*, Q50, Q49] <;> rfl), by repeat (first | (with_reducible first | exact HB.out | apply Q46 | apply Q43 | apply Q45 | refine Q44 ?_ GE143.out | refine Q44 ?_ GE144.out) | exact HB.out)⟩
         rw [if_neg c49] at H
         have c49b0 : decide (t145 < 0) = false := decide_eq_false c49
         clear c49
         by_cases c55 : (wrap64 (t146 + 1)) ≥ (a0.size : Int)
         · rw [if_pos c55] at H
           have c55b0 : decide ((a0.size : Int) ≤ (wrap64 (t146 + 1))) = true := decide_eq_true c55
           clear c55; replace H := Option.bind_eq_some_iff.mp H
           obtain ⟨⟨t214, t215, t216, t217, t218, t219, t220, t221, t222, t223, t224, t225, t226⟩, A560, H⟩ := H
           replace H : (some (t214, t215, t216, t217, t218, t219, t220, t221, t222, t223, t224, t225, t226)) = some (r1, r2, r3, r4, r5, r6, r7, r8, r9, r10, r11, r12, r13) := H
           have A56 := Aside0.mk A560; clear A560
           simp only [Option.some.injEq, Prod.mk.injEq] at H
           obtain ⟨rfl, rfl, rfl, rfl, rfl, rfl, rfl, rfl, rfl, rfl, rfl, rfl, rfl⟩ := H
           go_wp2_with (first | ((with_reducible refine Q51 (f := 42) rfl ?_); refine goesL_ (some 71) rfl rfl Try.func42 (by kernel_rfl) rfl #[.int .i64 a1, .int .i64 43] rfl (by (try simp only [List.map_toArray, List.map_cons, List.map_nil]); first | done | rfl | (simp only [List.length_drop, List.length_take]; rfl)) ?_; (with_reducible refine (lexis_fault.calls a1 43 t214 t215 t216 t217 t218 t219 t220 t221 t222 t223 t224 t225 t226 _ A56.out).mono ?_); rintro e w57 ⟨rfl, hb⟩; refine ⟨_, rfl, ?_⟩; have n0_ := Aside0.mk (Q48 (g := gb143) (by (with_reducible repeat (first | apply Q35 | apply Q40 | apply Q37)); exact BK143.out) hb); have n1_ := Aside0.mk (Q48 (g := gb144) (by (with_reducible repeat (first | apply Q35 | apply Q40 | apply Q37)); exact BK144.out) hb); have n2_ := Aside0.mk (Q52 (by repeat (first | (with_reducible first | exact HB.out | apply Q46 | apply Q43 | apply Q45 | refine Q44 ?_ GE143.out | refine Q44 ?_ GE144.out) | exact HB.out)) hb); clear BK143; clear BK144; clear HB; have BK143 := n0_; have BK144 := n1_; have HB := n2_; clear n0_ n1_ n2_; (try clear hb); (try clear hb2); (try clear hk); (try clear hi); have hnb58 := NB143_144.out; have hnc58 := NB144_143.out; obtain ⟨hcz59_0, hcz59_1, hcz59_2, hcz59_3, hcz59_4, hcz59_5, hcz59_6, hcz59_7, hcz59_8, hcz59_9, hcz59_10, hfz59_0, hfz59_1, hfz59_2, hfz59_3, hfz59_4, hfz59_5, hfz59_6, hfz59_7, hfz59_8, hfz59_9, hfz59_10⟩ := Q54 BK143.out; obtain ⟨hcz60_0, hcz60_1, hfz60_0, hfz60_1⟩ := Q56 BK144.out))
           refine bodyPost_ret (Q58 rfl _ _ gb143 gb144 28 31 #[.int .i64 t214, .int .i64 t215, .int .i64 t216, .string t217, .bool t218, .int .u64 t219, .int .u64 t220, .int .u64 t221, .int .u64 t222, .int .i64 t223, .int .i64 t224] #[.int .i64 t225, .int .i64 t226] (0, 0) (0, 0) _ _ rfl (by (with_reducible repeat (first | apply Q35 | apply Q40 | apply Q37)); refine blk_far2 ?_ NB143_144.out; (with_reducible repeat (first | apply Q35 | apply Q40 | apply Q37)); apply Q62; (with_reducible repeat (first | apply Q35 | apply Q40 | apply Q37)); exact BK143.out) Try.underlying28 rfl (by kernel_rfl) rfl (by (with_reducible repeat (first | apply Q35 | apply Q40 | apply Q37)); apply blk_put2; (with_reducible repeat (first | apply Q35 | apply Q40 | apply Q37)); refine Q59 ?_ NB144_143.out; (with_reducible repeat (first | apply Q35 | apply Q40 | apply Q37)); exact BK144.out) Try.underlying31 rfl (by kernel_rfl)) rfl ?_
           exact ⟨by first | rfl | (simp [Q50, Q49] <;> rfl) | (simp [*, Q50, Q49] <;> rfl), by repeat (first | (with_reducible first | exact HB.out | apply Q46 | apply Q43 | apply Q45 | refine Q44 ?_ GE143.out | refine Q44 ?_ GE144.out) | exact HB.out)⟩
         rw [if_neg c55] at H
         have c55b0 : decide ((a0.size : Int) ≤ (wrap64 (t146 + 1))) = false := decide_eq_false c55
         clear c55
         obtain ⟨ji61, hji61⟩ : ∃ j_ : Int, (wrap64 (t146 + 1)) = j_ := ⟨_, rfl⟩
         replace H : (if 0 ≤ (ji61) then (if (ji61) < (a0.size : Int) then (if (bt a0 (ji61)) = 125 then (some (9, a1, wrap64 ((ji61) + 1), (⟨#[]⟩ : ByteArray), false, 0, 0, 0, 0, t145, (-1), 0, 0)) else ((lexis_fault.f a1 43).bind fun bt227 => (some (bt227.1, bt227.2.1, bt227.2.2.1, bt227.2.2.2.1, bt227.2.2.2.2.1, bt227.2.2.2.2.2.1, bt227.2.2.2.2.2.2.1, bt227.2.2.2.2.2.2.2.1, bt227.2.2.2.2.2.2.2.2.1, bt227.2.2.2.2.2.2.2.2.2.1, bt227.2.2.2.2.2.2.2.2.2.2.1, bt227.2.2.2.2.2.2.2.2.2.2.2.1, bt227.2.2.2.2.2.2.2.2.2.2.2.2)))) else (none)) else (none)) = some (r1, r2, r3, r4, r5, r6, r7, r8, r9, r10, r11, r12, r13) := by first | (rw [hji61] at H; exact H) | (simp only [hji61] at H ⊢; exact H)
         (try rw [hji61] at c55b0)
         have hji61w : (IntKind.i64.wrap (t146 + 1)) = ji61 := (i64_w _).trans hji61
         by_cases c62 : 0 ≤ (ji61)
         · rw [if_pos c62] at H
           have c62b0 : decide (0 ≤ (ji61)) = true := decide_eq_true c62
           clear c62
           by_cases c63 : (ji61) < (a0.size : Int)
           · rw [if_pos c63] at H
             have c63b0 : decide ((ji61) < (a0.size : Int)) = true := decide_eq_true c63
             clear c63
             by_cases c65 : (bt a0 (ji61)) = 125
             · rw [if_pos c65] at H
               have c65b0 : ((bt a0 (ji61)) == 125) = true := beq_iff_eq.mpr c65
               have c65b1 : ((bt a0 (ji61)) != 125) = false := bne_eq_false_iff_eq.mpr c65
               clear c65
               simp only [Option.some.injEq, Prod.mk.injEq] at H
               obtain ⟨rfl, rfl, rfl, rfl, rfl, rfl, rfl, rfl, rfl, rfl, rfl, rfl, rfl⟩ := H
               have p64 : 0 ≤ ((ji61) : Int) := of_decide_eq_true (by first | (with_reducible assumption) | assumption)
               have q64 : (ji61) < (a0.size : Int) := of_decide_eq_true (by first | (with_reducible assumption) | assumption)
               have hx64 := bt_at a0 (ji61); replace p64 := eq_true p64; replace q64 := eq_true q64; have hnb66 := NB143_144.out; have hnc66 := NB144_143.out
               have hcz67_0 : wc.cell? ⟨gb143, 0, none⟩ = some (.int .i64 0) := (Q53 BK143.out 0).trans rfl
               have hcz67_1 : wc.cell? ⟨gb143, 1, none⟩ = some (.int .i64 0) := (Q53 BK143.out 1).trans rfl
               have hcz67_2 : wc.cell? ⟨gb143, 2, none⟩ = some (.int .i64 0) := (Q53 BK143.out 2).trans rfl
               have hcz67_3 : wc.cell? ⟨gb143, 3, none⟩ = some (.string (⟨#[]⟩ : ByteArray)) := (Q53 BK143.out 3).trans rfl
               have hcz67_4 : wc.cell? ⟨gb143, 4, none⟩ = some (.bool false) := (Q53 BK143.out 4).trans rfl
               have hcz67_5 : wc.cell? ⟨gb143, 5, none⟩ = some (.int .u64 0) := (Q53 BK143.out 5).trans rfl
               have hcz67_6 : wc.cell? ⟨gb143, 6, none⟩ = some (.int .u64 0) := (Q53 BK143.out 6).trans rfl
               have hcz67_7 : wc.cell? ⟨gb143, 7, none⟩ = some (.int .u64 0) := (Q53 BK143.out 7).trans rfl
               have hcz67_8 : wc.cell? ⟨gb143, 8, none⟩ = some (.int .u64 0) := (Q53 BK143.out 8).trans rfl
               have hcz67_9 : wc.cell? ⟨gb143, 9, none⟩ = some (.int .i64 0) := (Q53 BK143.out 9).trans rfl
               have hcz67_10 : wc.cell? ⟨gb143, 10, none⟩ = some (.int .i64 0) := (Q53 BK143.out 10).trans rfl
               have hfz67_0 := Q47 BK143.out 0; have hfz67_1 := Q47 BK143.out 1; have hfz67_2 := Q47 BK143.out 2; have hfz67_3 := Q47 BK143.out 3; have hfz67_4 := Q47 BK143.out 4; have hfz67_5 := Q47 BK143.out 5; have hfz67_6 := Q47 BK143.out 6; have hfz67_7 := Q47 BK143.out 7; have hfz67_8 := Q47 BK143.out 8; have hfz67_9 := Q47 BK143.out 9; have hfz67_10 := Q47 BK143.out 10
               have hcz68_0 : wc.cell? ⟨gb144, 0, none⟩ = some (.int .i64 0) := (Q53 BK144.out 0).trans rfl
               have hcz68_1 : wc.cell? ⟨gb144, 1, none⟩ = some (.int .i64 0) := (Q53 BK144.out 1).trans rfl
               have hfz68_0 := Q47 BK144.out 0; have hfz68_1 := Q47 BK144.out 1
               go_wp2
               refine bodyPost_ret (Q58 rfl _ _ gb143 gb144 28 31 #[.int .i64 9, .int .i64 a1, .int .i64 (wrap64 ((ji61) + 1)), .string (⟨#[]⟩ : ByteArray), .bool false, .int .u64 0, .int .u64 0, .int .u64 0, .int .u64 0, .int .i64 t145, .int .i64 (-1)] #[.int .i64 0, .int .i64 0] (0, 0) (0, 0) _ _ rfl (by (with_reducible repeat (first | apply Q35 | apply Q40 | apply Q37)); refine blk_far2 ?_ NB143_144.out; (with_reducible repeat (first | apply Q35 | apply Q40 | apply Q37)); apply Q62; (with_reducible repeat (first | apply Q35 | apply Q40 | apply Q37)); exact BK143.out) Try.underlying28 rfl (by kernel_rfl) rfl (by (with_reducible repeat (first | apply Q35 | apply Q40 | apply Q37)); apply blk_put2; (with_reducible repeat (first | apply Q35 | apply Q40 | apply Q37)); refine Q59 ?_ NB144_143.out; (with_reducible repeat (first | apply Q35 | apply Q40 | apply Q37)); exact BK144.out) Try.underlying31 rfl (by kernel_rfl)) rfl ?_
               exact ⟨by first | rfl | (simp [Q50, Q49] <;> rfl) | (simp only [← hji61]; first | rfl | (simp [Q50, Q49] <;> rfl)) | (simp [*, Q50, Q49] <;> rfl), by repeat (first | (with_reducible first | exact HB.out | apply Q46 | apply Q43 | apply Q45 | refine Q44 ?_ GE143.out | refine Q44 ?_ GE144.out) | exact HB.out)⟩
             rw [if_neg c65] at H
             have c65b0 : ((bt a0 (ji61)) == 125) = false := beq_eq_false_iff_ne.mpr c65
             have c65b1 : ((bt a0 (ji61)) != 125) = true := bne_iff_ne.mpr c65
             replace H := Option.bind_eq_some_iff.mp H
             obtain ⟨⟨t227, t228, t229, t230, t231, t232, t233, t234, t235, t236, t237, t238, t239⟩, A690, H⟩ := H
             replace H : (some (t227, t228, t229, t230, t231, t232, t233, t234, t235, t236, t237, t238, t239)) = some (r1, r2, r3, r4, r5, r6, r7, r8, r9, r10, r11, r12, r13) := H
             have A69 := Aside0.mk A690; clear A690
             simp only [Option.some.injEq, Prod.mk.injEq] at H
             obtain ⟨rfl, rfl, rfl, rfl, rfl, rfl, rfl, rfl, rfl, rfl, rfl, rfl, rfl⟩ := H
             have p64 : 0 ≤ ((ji61) : Int) := of_decide_eq_true (by first | (with_reducible assumption) | assumption)
             have q64 : (ji61) < (a0.size : Int) := of_decide_eq_true (by first | (with_reducible assumption) | assumption)
             have hx64 := bt_at a0 (ji61); replace p64 := eq_true p64; replace q64 := eq_true q64
             go_wp2_with (first | ((with_reducible refine Q51 (f := 42) rfl ?_); refine goesL_ (some 71) rfl rfl Try.func42 (by kernel_rfl) rfl #[.int .i64 a1, .int .i64 43] rfl (by (try simp only [List.map_toArray, List.map_cons, List.map_nil]); first | done | rfl | (simp only [List.length_drop, List.length_take]; rfl)) ?_; (with_reducible refine (lexis_fault.calls a1 43 t227 t228 t229 t230 t231 t232 t233 t234 t235 t236 t237 t238 t239 _ A69.out).mono ?_); rintro e w70 ⟨rfl, hb⟩; refine ⟨_, rfl, ?_⟩; have n0_ := Aside0.mk (Q48 (g := gb143) (by (with_reducible repeat (first | apply Q35 | apply Q40 | apply Q37)); exact BK143.out) hb); have n1_ := Aside0.mk (Q48 (g := gb144) (by (with_reducible repeat (first | apply Q35 | apply Q40 | apply Q37)); exact BK144.out) hb); have n2_ := Aside0.mk (Q52 (by repeat (first | (with_reducible first | exact HB.out | apply Q46 | apply Q43 | apply Q45 | refine Q44 ?_ GE143.out | refine Q44 ?_ GE144.out) | exact HB.out)) hb); clear BK143; clear BK144; clear HB; have BK143 := n0_; have BK144 := n1_; have HB := n2_; clear n0_ n1_ n2_; (try clear hb); (try clear hb2); (try clear hk); (try clear hi); have hnb71 := NB143_144.out; have hnc71 := NB144_143.out; obtain ⟨hcz72_0, hcz72_1, hcz72_2, hcz72_3, hcz72_4, hcz72_5, hcz72_6, hcz72_7, hcz72_8, hcz72_9, hcz72_10, hfz72_0, hfz72_1, hfz72_2, hfz72_3, hfz72_4, hfz72_5, hfz72_6, hfz72_7, hfz72_8, hfz72_9, hfz72_10⟩ := Q54 BK143.out; obtain ⟨hcz73_0, hcz73_1, hfz73_0, hfz73_1⟩ := Q56 BK144.out))
             refine bodyPost_ret (Q58 rfl _ _ gb143 gb144 28 31 #[.int .i64 t227, .int .i64 t228, .int .i64 t229, .string t230, .bool t231, .int .u64 t232, .int .u64 t233, .int .u64 t234, .int .u64 t235, .int .i64 t236, .int .i64 t237] #[.int .i64 t238, .int .i64 t239] (0, 0) (0, 0) _ _ rfl (by (with_reducible repeat (first | apply Q35 | apply Q40 | apply Q37)); refine blk_far2 ?_ NB143_144.out; (with_reducible repeat (first | apply Q35 | apply Q40 | apply Q37)); apply Q62; (with_reducible repeat (first | apply Q35 | apply Q40 | apply Q37)); exact BK143.out) Try.underlying28 rfl (by kernel_rfl) rfl (by (with_reducible repeat (first | apply Q35 | apply Q40 | apply Q37)); apply blk_put2; (with_reducible repeat (first | apply Q35 | apply Q40 | apply Q37)); refine Q59 ?_ NB144_143.out; (with_reducible repeat (first | apply Q35 | apply Q40 | apply Q37)); exact BK144.out) Try.underlying31 rfl (by kernel_rfl)) rfl ?_
             exact ⟨by first | rfl | (simp [Q50, Q49] <;> rfl) | (simp only [← hji61]; first | rfl | (simp [Q50, Q49] <;> rfl)) | (simp [*, Q50, Q49] <;> rfl), by repeat (first | (with_reducible first | exact HB.out | apply Q46 | apply Q43 | apply Q45 | refine Q44 ?_ GE143.out | refine Q44 ?_ GE144.out) | exact HB.out)⟩
           rw [if_neg c63] at H
           exact absurd H (by simp)
         rw [if_neg c62] at H
         exact absurd H (by simp)
    replace c11 := Bool.eq_false_iff.mpr c11; subst c11
    have H1 : (if t145 < 0 then ((lexis_fault.f a1 43).bind fun bt240 => (some (bt240.1, bt240.2.1, bt240.2.2.1, bt240.2.2.2.1, bt240.2.2.2.2.1, bt240.2.2.2.2.2.1, bt240.2.2.2.2.2.2.1, bt240.2.2.2.2.2.2.2.1, bt240.2.2.2.2.2.2.2.2.1, bt240.2.2.2.2.2.2.2.2.2.1, bt240.2.2.2.2.2.2.2.2.2.2.1, bt240.2.2.2.2.2.2.2.2.2.2.2.1, bt240.2.2.2.2.2.2.2.2.2.2.2.2))) else (if t146 ≥ (a0.size : Int) then ((lexis_fault.f a1 43).bind fun bt253 => (some (bt253.1, bt253.2.1, bt253.2.2.1, bt253.2.2.2.1, bt253.2.2.2.2.1, bt253.2.2.2.2.2.1, bt253.2.2.2.2.2.2.1, bt253.2.2.2.2.2.2.2.1, bt253.2.2.2.2.2.2.2.2.1, bt253.2.2.2.2.2.2.2.2.2.1, bt253.2.2.2.2.2.2.2.2.2.2.1, bt253.2.2.2.2.2.2.2.2.2.2.2.1, bt253.2.2.2.2.2.2.2.2.2.2.2.2))) else (if 0 ≤ t146 then (if t146 < (a0.size : Int) then (if (bt a0 t146) = 125 then (some (9, a1, wrap64 (t146 + 1), (⟨#[]⟩ : ByteArray), false, 0, 0, 0, 0, t145, t145, 0, 0)) else ((lexis_fault.f a1 43).bind fun bt266 => (some (bt266.1, bt266.2.1, bt266.2.2.1, bt266.2.2.2.1, bt266.2.2.2.2.1, bt266.2.2.2.2.2.1, bt266.2.2.2.2.2.2.1, bt266.2.2.2.2.2.2.2.1, bt266.2.2.2.2.2.2.2.2.1, bt266.2.2.2.2.2.2.2.2.2.1, bt266.2.2.2.2.2.2.2.2.2.2.1, bt266.2.2.2.2.2.2.2.2.2.2.2.1, bt266.2.2.2.2.2.2.2.2.2.2.2.2)))) else (none)) else (none)))) = some (r1, r2, r3, r4, r5, r6, r7, r8, r9, r10, r11, r12, r13) := by rw [if_neg (show ¬ (false = true) by decide)] at H; exact H
    clear H; have H := H1; clear H1
    by_cases c74 : t145 < 0
    · rw [if_pos c74] at H
      have c74b0 : decide (t145 < 0) = true := decide_eq_true c74
      clear c74; replace H := Option.bind_eq_some_iff.mp H
      obtain ⟨⟨t240, t241, t242, t243, t244, t245, t246, t247, t248, t249, t250, t251, t252⟩, A750, H⟩ := H
      replace H : (some (t240, t241, t242, t243, t244, t245, t246, t247, t248, t249, t250, t251, t252)) = some (r1, r2, r3, r4, r5, r6, r7, r8, r9, r10, r11, r12, r13) := H
      have A75 := Aside0.mk A750; clear A750
      simp only [Option.some.injEq, Prod.mk.injEq] at H
      obtain ⟨rfl, rfl, rfl, rfl, rfl, rfl, rfl, rfl, rfl, rfl, rfl, rfl, rfl⟩ := H
      go_wp2_with (first | ((with_reducible refine Q51 (f := 42) rfl ?_); refine goesL_ (some 71) rfl rfl Try.func42 (by kernel_rfl) rfl #[.int .i64 a1, .int .i64 43] rfl (by (try simp only [List.map_toArray, List.map_cons, List.map_nil]); first | done | rfl | (simp only [List.length_drop, List.length_take]; rfl)) ?_; (with_reducible refine (lexis_fault.calls a1 43 t240 t241 t242 t243 t244 t245 t246 t247 t248 t249 t250 t251 t252 _ A75.out).mono ?_); rintro e w76 ⟨rfl, hb⟩; refine ⟨_, rfl, ?_⟩; have n0_ := Aside0.mk (Q48 (g := gb143) (by (with_reducible repeat (first | apply Q35 | apply Q40 | apply Q37)); exact BK143.out) hb); have n1_ := Aside0.mk (Q48 (g := gb144) (by (with_reducible repeat (first | apply Q35 | apply Q40 | apply Q37)); exact BK144.out) hb); have n2_ := Aside0.mk (Q52 (by repeat (first | (with_reducible first | exact HB.out | apply Q46 | apply Q43 | apply Q45 | refine Q44 ?_ GE143.out | refine Q44 ?_ GE144.out) | exact HB.out)) hb); clear BK143; clear BK144; clear HB; have BK143 := n0_; have BK144 := n1_; have HB := n2_; clear n0_ n1_ n2_; (try clear hb); (try clear hb2); (try clear hk); (try clear hi); have hnb77 := NB143_144.out; have hnc77 := NB144_143.out; obtain ⟨hcz78_0, hcz78_1, hcz78_2, hcz78_3, hcz78_4, hcz78_5, hcz78_6, hcz78_7, hcz78_8, hcz78_9, hcz78_10, hfz78_0, hfz78_1, hfz78_2, hfz78_3, hfz78_4, hfz78_5, hfz78_6, hfz78_7, hfz78_8, hfz78_9, hfz78_10⟩ := Q54 BK143.out; obtain ⟨hcz79_0, hcz79_1, hfz79_0, hfz79_1⟩ := Q56 BK144.out))
      refine bodyPost_ret (Q58 rfl _ _ gb143 gb144 28 31 #[.int .i64 t240, .int .i64 t241, .int .i64 t242, .string t243, .bool t244, .int .u64 t245, .int .u64 t246, .int .u64 t247, .int .u64 t248, .int .i64 t249, .int .i64 t250] #[.int .i64 t251, .int .i64 t252] (0, 0) (0, 0) _ _ rfl (by (with_reducible repeat (first | apply Q35 | apply Q40 | apply Q37)); refine blk_far2 ?_ NB143_144.out; (with_reducible repeat (first | apply Q35 | apply Q40 | apply Q37)); apply Q62; (with_reducible repeat (first | apply Q35 | apply Q40 | apply Q37)); exact BK143.out) Try.underlying28 rfl (by kernel_rfl) rfl (by (with_reducible repeat (first | apply Q35 | apply Q40 | apply Q37)); apply blk_put2; (with_reducible repeat (first | apply Q35 | apply Q40 | apply Q37)); refine Q59 ?_ NB144_143.out; (with_reducible repeat (first | apply Q35 | apply Q40 | apply Q37)); exact BK144.out) Try.underlying31 rfl (by kernel_rfl)) rfl ?_
      exact ⟨by first | rfl | (simp [Q50, Q49] <;> rfl) | (simp [*, Q50, Q49] <;> rfl), by repeat (first | (with_reducible first | exact HB.out | apply Q46 | apply Q43 | apply Q45 | refine Q44 ?_ GE143.out | refine Q44 ?_ GE144.out) | exact HB.out)⟩
    rw [if_neg c74] at H
    have c74b0 : decide (t145 < 0) = false := decide_eq_false c74
    clear c74
    by_cases c80 : t146 ≥ (a0.size : Int)
    · rw [if_pos c80] at H
      have c80b0 : decide ((a0.size : Int) ≤ t146) = true := decide_eq_true c80
      clear c80; replace H := Option.bind_eq_some_iff.mp H
      obtain ⟨⟨t253, t254, t255, t256, t257, t258, t259, t260, t261, t262, t263, t264, t265⟩, A810, H⟩ := H
      replace H : (some (t253, t254, t255, t256, t257, t258, t259, t260, t261, t262, t263, t264, t265)) = some (r1, r2, r3, r4, r5, r6, r7, r8, r9, r10, r11, r12, r13) := H
      have A81 := Aside0.mk A810; clear A810
      simp only [Option.some.injEq, Prod.mk.injEq] at H
      obtain ⟨rfl, rfl, rfl, rfl, rfl, rfl, rfl, rfl, rfl, rfl, rfl, rfl, rfl⟩ := H
      go_wp2_with (first | ((with_reducible refine Q51 (f := 42) rfl ?_); refine goesL_ (some 71) rfl rfl Try.func42 (by kernel_rfl) rfl #[.int .i64 a1, .int .i64 43] rfl (by (try simp only [List.map_toArray, List.map_cons, List.map_nil]); first | done | rfl | (simp only [List.length_drop, List.length_take]; rfl)) ?_; (with_reducible refine (lexis_fault.calls a1 43 t253 t254 t255 t256 t257 t258 t259 t260 t261 t262 t263 t264 t265 _ A81.out).mono ?_); rintro e w82 ⟨rfl, hb⟩; refine ⟨_, rfl, ?_⟩; have n0_ := Aside0.mk (Q48 (g := gb143) (by (with_reducible repeat (first | apply Q35 | apply Q40 | apply Q37)); exact BK143.out) hb); have n1_ := Aside0.mk (Q48 (g := gb144) (by (with_reducible repeat (first | apply Q35 | apply Q40 | apply Q37)); exact BK144.out) hb); have n2_ := Aside0.mk (Q52 (by repeat (first | (with_reducible first | exact HB.out | apply Q46 | apply Q43 | apply Q45 | refine Q44 ?_ GE143.out | refine Q44 ?_ GE144.out) | exact HB.out)) hb); clear BK143; clear BK144; clear HB; have BK143 := n0_; have BK144 := n1_; have HB := n2_; clear n0_ n1_ n2_; (try clear hb); (try clear hb2); (try clear hk); (try clear hi); have hnb83 := NB143_144.out; have hnc83 := NB144_143.out; obtain ⟨hcz84_0, hcz84_1, hcz84_2, hcz84_3, hcz84_4, hcz84_5, hcz84_6, hcz84_7, hcz84_8, hcz84_9, hcz84_10, hfz84_0, hfz84_1, hfz84_2, hfz84_3, hfz84_4, hfz84_5, hfz84_6, hfz84_7, hfz84_8, hfz84_9, hfz84_10⟩ := Q54 BK143.out; obtain ⟨hcz85_0, hcz85_1, hfz85_0, hfz85_1⟩ := Q56 BK144.out))
      refine bodyPost_ret (Q58 rfl _ _ gb143 gb144 28 31 #[.int .i64 t253, .int .i64 t254, .int .i64 t255, .string t256, .bool t257, .int .u64 t258, .int .u64 t259, .int .u64 t260, .int .u64 t261, .int .i64 t262, .int .i64 t263] #[.int .i64 t264, .int .i64 t265] (0, 0) (0, 0) _ _ rfl (by (with_reducible repeat (first | apply Q35 | apply Q40 | apply Q37)); refine blk_far2 ?_ NB143_144.out; (with_reducible repeat (first | apply Q35 | apply Q40 | apply Q37)); apply Q62; (with_reducible repeat (first | apply Q35 | apply Q40 | apply Q37)); exact BK143.out) Try.underlying28 rfl (by kernel_rfl) rfl (by (with_reducible repeat (first | apply Q35 | apply Q40 | apply Q37)); apply blk_put2; (with_reducible repeat (first | apply Q35 | apply Q40 | apply Q37)); refine Q59 ?_ NB144_143.out; (with_reducible repeat (first | apply Q35 | apply Q40 | apply Q37)); exact BK144.out) Try.underlying31 rfl (by kernel_rfl)) rfl ?_
      exact ⟨by first | rfl | (simp [Q50, Q49] <;> rfl) | (simp [*, Q50, Q49] <;> rfl), by repeat (first | (with_reducible first | exact HB.out | apply Q46 | apply Q43 | apply Q45 | refine Q44 ?_ GE143.out | refine Q44 ?_ GE144.out) | exact HB.out)⟩
    rw [if_neg c80] at H
    have c80b0 : decide ((a0.size : Int) ≤ t146) = false := decide_eq_false c80
    clear c80
    by_cases c86 : 0 ≤ t146
    · rw [if_pos c86] at H
      have c86b0 : decide (0 ≤ t146) = true := decide_eq_true c86
      clear c86
      by_cases c87 : t146 < (a0.size : Int)
      · rw [if_pos c87] at H
        have c87b0 : decide (t146 < (a0.size : Int)) = true := decide_eq_true c87
        clear c87
        by_cases c89 : (bt a0 t146) = 125
        · rw [if_pos c89] at H
          have c89b0 : ((bt a0 t146) == 125) = true := beq_iff_eq.mpr c89
          have c89b1 : ((bt a0 t146) != 125) = false := bne_eq_false_iff_eq.mpr c89
          clear c89
          simp only [Option.some.injEq, Prod.mk.injEq] at H
          obtain ⟨rfl, rfl, rfl, rfl, rfl, rfl, rfl, rfl, rfl, rfl, rfl, rfl, rfl⟩ := H
          have p88 : 0 ≤ (t146 : Int) := of_decide_eq_true (by first | (with_reducible assumption) | assumption)
          have q88 : t146 < (a0.size : Int) := of_decide_eq_true (by first | (with_reducible assumption) | assumption)
          have hx88 := bt_at a0 t146; replace p88 := eq_true p88; replace q88 := eq_true q88; have hnb90 := NB143_144.out; have hnc90 := NB144_143.out
          have hcz91_0 : wc.cell? ⟨gb143, 0, none⟩ = some (.int .i64 0) := (Q53 BK143.out 0).trans rfl
          have hcz91_1 : wc.cell? ⟨gb143, 1, none⟩ = some (.int .i64 0) := (Q53 BK143.out 1).trans rfl
          have hcz91_2 : wc.cell? ⟨gb143, 2, none⟩ = some (.int .i64 0) := (Q53 BK143.out 2).trans rfl
          have hcz91_3 : wc.cell? ⟨gb143, 3, none⟩ = some (.string (⟨#[]⟩ : ByteArray)) := (Q53 BK143.out 3).trans rfl
          have hcz91_4 : wc.cell? ⟨gb143, 4, none⟩ = some (.bool false) := (Q53 BK143.out 4).trans rfl
          have hcz91_5 : wc.cell? ⟨gb143, 5, none⟩ = some (.int .u64 0) := (Q53 BK143.out 5).trans rfl
          have hcz91_6 : wc.cell? ⟨gb143, 6, none⟩ = some (.int .u64 0) := (Q53 BK143.out 6).trans rfl
          have hcz91_7 : wc.cell? ⟨gb143, 7, none⟩ = some (.int .u64 0) := (Q53 BK143.out 7).trans rfl
          have hcz91_8 : wc.cell? ⟨gb143, 8, none⟩ = some (.int .u64 0) := (Q53 BK143.out 8).trans rfl
          have hcz91_9 : wc.cell? ⟨gb143, 9, none⟩ = some (.int .i64 0) := (Q53 BK143.out 9).trans rfl
          have hcz91_10 : wc.cell? ⟨gb143, 10, none⟩ = some (.int .i64 0) := (Q53 BK143.out 10).trans rfl
          have hfz91_0 := Q47 BK143.out 0; have hfz91_1 := Q47 BK143.out 1; have hfz91_2 := Q47 BK143.out 2; have hfz91_3 := Q47 BK143.out 3; have hfz91_4 := Q47 BK143.out 4; have hfz91_5 := Q47 BK143.out 5; have hfz91_6 := Q47 BK143.out 6; have hfz91_7 := Q47 BK143.out 7; have hfz91_8 := Q47 BK143.out 8; have hfz91_9 := Q47 BK143.out 9; have hfz91_10 := Q47 BK143.out 10
          have hcz92_0 : wc.cell? ⟨gb144, 0, none⟩ = some (.int .i64 0) := (Q53 BK144.out 0).trans rfl
          have hcz92_1 : wc.cell? ⟨gb144, 1, none⟩ = some (.int .i64 0) := (Q53 BK144.out 1).trans rfl
          have hfz92_0 := Q47 BK144.out 0; have hfz92_1 := Q47 BK144.out 1
          go_wp2
          refine bodyPost_ret (Q58 rfl _ _ gb143 gb144 28 31 #[.int .i64 9, .int .i64 a1, .int .i64 (wrap64 (t146 + 1)), .string (⟨#[]⟩ : ByteArray), .bool false, .int .u64 0, .int .u64 0, .int .u64 0, .int .u64 0, .int .i64 t145, .int .i64 t145] #[.int .i64 0, .int .i64 0] (0, 0) (0, 0) _ _ rfl (by (with_reducible repeat (first | apply Q35 | apply Q40 | apply Q37)); refine blk_far2 ?_ NB143_144.out; (with_reducible repeat (first | apply Q35 | apply Q40 | apply Q37)); apply Q62; (with_reducible repeat (first | apply Q35 | apply Q40 | apply Q37)); exact BK143.out) Try.underlying28 rfl (by kernel_rfl) rfl (by (with_reducible repeat (first | apply Q35 | apply Q40 | apply Q37)); apply blk_put2; (with_reducible repeat (first | apply Q35 | apply Q40 | apply Q37)); refine Q59 ?_ NB144_143.out; (with_reducible repeat (first | apply Q35 | apply Q40 | apply Q37)); exact BK144.out) Try.underlying31 rfl (by kernel_rfl)) rfl ?_
          exact ⟨by first | rfl | (simp [Q50, Q49] <;> rfl) | (simp [*, Q50, Q49] <;> rfl), by repeat (first | (with_reducible first | exact HB.out | apply Q46 | apply Q43 | apply Q45 | refine Q44 ?_ GE143.out | refine Q44 ?_ GE144.out) | exact HB.out)⟩
        rw [if_neg c89] at H
        have c89b0 : ((bt a0 t146) == 125) = false := beq_eq_false_iff_ne.mpr c89
        have c89b1 : ((bt a0 t146) != 125) = true := bne_iff_ne.mpr c89
        replace H := Option.bind_eq_some_iff.mp H
        obtain ⟨⟨t266, t267, t268, t269, t270, t271, t272, t273, t274, t275, t276, t277, t278⟩, A930, H⟩ := H
        replace H : (some (t266, t267, t268, t269, t270, t271, t272, t273, t274, t275, t276, t277, t278)) = some (r1, r2, r3, r4, r5, r6, r7, r8, r9, r10, r11, r12, r13) := H
        have A93 := Aside0.mk A930; clear A930
        simp only [Option.some.injEq, Prod.mk.injEq] at H
        obtain ⟨rfl, rfl, rfl, rfl, rfl, rfl, rfl, rfl, rfl, rfl, rfl, rfl, rfl⟩ := H
        have p88 : 0 ≤ (t146 : Int) := of_decide_eq_true (by first | (with_reducible assumption) | assumption)
        have q88 : t146 < (a0.size : Int) := of_decide_eq_true (by first | (with_reducible assumption) | assumption)
        have hx88 := bt_at a0 t146; replace p88 := eq_true p88; replace q88 := eq_true q88
        go_wp2_with (first | ((with_reducible refine Q51 (f := 42) rfl ?_); refine goesL_ (some 71) rfl rfl Try.func42 (by kernel_rfl) rfl #[.int .i64 a1, .int .i64 43] rfl (by (try simp only [List.map_toArray, List.map_cons, List.map_nil]); first | done | rfl | (simp only [List.length_drop, List.length_take]; rfl)) ?_; (with_reducible refine (lexis_fault.calls a1 43 t266 t267 t268 t269 t270 t271 t272 t273 t274 t275 t276 t277 t278 _ A93.out).mono ?_); rintro e w94 ⟨rfl, hb⟩; refine ⟨_, rfl, ?_⟩; have n0_ := Aside0.mk (Q48 (g := gb143) (by (with_reducible repeat (first | apply Q35 | apply Q40 | apply Q37)); exact BK143.out) hb); have n1_ := Aside0.mk (Q48 (g := gb144) (by (with_reducible repeat (first | apply Q35 | apply Q40 | apply Q37)); exact BK144.out) hb); have n2_ := Aside0.mk (Q52 (by repeat (first | (with_reducible first | exact HB.out | apply Q46 | apply Q43 | apply Q45 | refine Q44 ?_ GE143.out | refine Q44 ?_ GE144.out) | exact HB.out)) hb); clear BK143; clear BK144; clear HB; have BK143 := n0_; have BK144 := n1_; have HB := n2_; clear n0_ n1_ n2_; (try clear hb); (try clear hb2); (try clear hk); (try clear hi); have hnb95 := NB143_144.out; have hnc95 := NB144_143.out; obtain ⟨hcz96_0, hcz96_1, hcz96_2, hcz96_3, hcz96_4, hcz96_5, hcz96_6, hcz96_7, hcz96_8, hcz96_9, hcz96_10, hfz96_0, hfz96_1, hfz96_2, hfz96_3, hfz96_4, hfz96_5, hfz96_6, hfz96_7, hfz96_8, hfz96_9, hfz96_10⟩ := Q54 BK143.out; obtain ⟨hcz97_0, hcz97_1, hfz97_0, hfz97_1⟩ := Q56 BK144.out))
        refine bodyPost_ret (Q58 rfl _ _ gb143 gb144 28 31 #[.int .i64 t266, .int .i64 t267, .int .i64 t268, .string t269, .bool t270, .int .u64 t271, .int .u64 t272, .int .u64 t273, .int .u64 t274, .int .i64 t275, .int .i64 t276] #[.int .i64 t277, .int .i64 t278] (0, 0) (0, 0) _ _ rfl (by (with_reducible repeat (first | apply Q35 | apply Q40 | apply Q37)); refine blk_far2 ?_ NB143_144.out; (with_reducible repeat (first | apply Q35 | apply Q40 | apply Q37)); apply Q62; (with_reducible repeat (first | apply Q35 | apply Q40 | apply Q37)); exact BK143.out) Try.underlying28 rfl (by kernel_rfl) rfl (by (with_reducible repeat (first | apply Q35 | apply Q40 | apply Q37)); apply blk_put2; (with_reducible repeat (first | apply Q35 | apply Q40 | apply Q37)); refine Q59 ?_ NB144_143.out; (with_reducible repeat (first | apply Q35 | apply Q40 | apply Q37)); exact BK144.out) Try.underlying31 rfl (by kernel_rfl)) rfl ?_
        exact ⟨by first | rfl | (simp [Q50, Q49] <;> rfl) | (simp [*, Q50, Q49] <;> rfl), by repeat (first | (with_reducible first | exact HB.out | apply Q46 | apply Q43 | apply Q45 | refine Q44 ?_ GE143.out | refine Q44 ?_ GE144.out) | exact HB.out)⟩
      rw [if_neg c87] at H
      exact absurd H (by simp)
    rw [if_neg c86] at H
    exact absurd H (by simp)
def lexis_hex.j0 : Nat → Int → Bool → Option (Int)
 | 0, _, _ => none
 | k + 1, x0, x9 => if x9 = true then (some (((x0 - 97) % 256) + 10)) else (if x0 ≥ 65 then (if x0 ≤ 70 then (some (((x0 - 65) % 256) + 10)) else (some (-1))) else (some (-1)))
def lexis_hex.f (k : Nat) (a0 : Int) : Option (Int) := (lexis_digit.f a0).bind fun t279 => (if t279 = true then (some ((a0 - 48) % 256)) else (if a0 ≥ 97 then (lexis_hex.j0 k a0 (decide (a0 ≤ 102))) else (lexis_hex.j0 k a0 false)))
set_option maxHeartbeats 8000000 in
set_option maxRecDepth 100000 in
theorem lexis_hex.calls (k : Nat) (a0 : Int) (r : Int) (w : World) (h : lexis_hex.f k a0 = some r) :
 Calls Try.prog 65 #[.int .u8 a0] w fun e w' => e = .returned (.int .i64 r) ∧ Drawn0 w w' := by
 have H : ((lexis_digit.f a0).bind fun t279 => (if t279 = true then (some ((a0 - 48) % 256)) else (if a0 ≥ 97 then (lexis_hex.j0 k a0 (decide (a0 ≤ 102))) else (lexis_hex.j0 k a0 false)))) = some r := h
 clear h; replace H := Option.bind_eq_some_iff.mp H
 obtain ⟨t279, A20, H⟩ := H
 replace H : (if t279 = true then (some ((a0 - 48) % 256)) else (if a0 ≥ 97 then (lexis_hex.j0 k a0 (decide (a0 ≤ 102))) else (lexis_hex.j0 k a0 false))) = some r := H
 have A2 := Aside0.mk A20; clear A20
 by_cases c3 : t279 = true
 · subst c3
   have H1 : (some ((a0 - 48) % 256)) = some r := by rw [if_pos rfl] at H; exact H
   clear H; have H := H1; clear H1
   obtain rfl := Option.some.inj H
   go_enter Try.func65, Try.ntmps65
   go_wp2_with (first | ((with_reducible refine Q51 (f := 49) rfl ?_); refine goesL_ (some 5) rfl rfl Try.func49 (by kernel_rfl) rfl #[.int .u8 a0] rfl (by (try simp only [List.map_toArray, List.map_cons, List.map_nil]); first | done | rfl | (simp only [List.length_drop, List.length_take]; rfl)) ?_; (with_reducible refine (lexis_digit.calls a0 true _ A2.out).mono ?_); rintro e w' ⟨rfl, ⟨nd, rfl⟩⟩; refine ⟨_, rfl, ?_⟩))
   go_ret
   exact ⟨by first | rfl | (simp; done) | (simp [*]; done), by repeat (first | exact Drawn0.refl _ | apply Drawn0.step)⟩
 replace c3 := Bool.eq_false_iff.mpr c3; subst c3
 have H1 : (if a0 ≥ 97 then (lexis_hex.j0 k a0 (decide (a0 ≤ 102))) else (lexis_hex.j0 k a0 false)) = some r := by rw [if_neg (show ¬ (false = true) by decide)] at H; exact H
 clear H; have H := H1; clear H1; have HC4 := Aside0.mk H; clear H
 go_enter Try.func65, Try.ntmps65
 go_upto_region 3 with (first | ((with_reducible refine Q51 (f := 49) rfl ?_); refine goesL_ (some 5) rfl rfl Try.func49 (by kernel_rfl) rfl #[.int .u8 a0] rfl (by (try simp only [List.map_toArray, List.map_cons, List.map_nil]); first | done | rfl | (simp only [List.length_drop, List.length_take]; rfl)) ?_; (with_reducible refine (lexis_digit.calls a0 false _ A2.out).mono ?_); rintro e w' ⟨rfl, ⟨nd, rfl⟩⟩; refine ⟨_, rfl, ?_⟩))
 (try simp only [Act.put, List.setIfInBounds_toArray, List.set_cons_zero, List.set_cons_succ])
 go_cut [9] (fun v9 wc => ∃ (kq : Nat) (x9_3 : Bool), v9 = .bool x9_3 ∧ Aside0 (lexis_hex.j0 kq a0 x9_3 = some r) ∧ Aside0 (kq ≤ k) ∧ Drawn0 w wc)
 case first =>
  have H := HC4.out; clear HC4
  by_cases c5 : a0 ≥ 97
  · rw [if_pos c5] at H
    have c5b0 : decide (97 ≤ a0) = true := decide_eq_true c5
    clear c5
    (first | rw [c5b0] | (simp only [i64_w, i32_w]; rw [c5b0]) | skip)
    have H' := Aside0.mk H; clear H
    go_wp2
    go_meet
    case rel => exact ⟨_, (decide (a0 ≤ 102)), (by first | rfl | (simp; done) | (simp [*]; done)), H', ⟨by first | omega | exact Nat.le_refl _⟩, by repeat (first | exact Drawn0.refl _ | apply Drawn0.step)⟩
  rw [if_neg c5] at H
  have c5b0 : decide (97 ≤ a0) = false := decide_eq_false c5
  clear c5
  (first | rw [c5b0] | (simp only [i64_w, i32_w]; rw [c5b0]) | skip)
  have H' := Aside0.mk H; clear H
  go_wp2
  go_meet
  case rel => exact ⟨_, (false), (by first | rfl | (simp; done) | (simp [*]; done)), H', ⟨by first | omega | exact Nat.le_refl _⟩, by repeat (first | exact Drawn0.refl _ | apply Drawn0.step)⟩
 case rest =>
  clear HC4; (try clear p2); (try clear c3); (try clear c4); (try clear c5); (try clear c5b0)
  obtain ⟨kq, x9_3, rfl, HA, HJ3, ⟨mc3, rfl⟩⟩ := hcut
  cases kq with
  | zero => exact absurd HA.out (by simp [lexis_hex.j0])
  | succ kj3 =>
    have H := HA.out; clear HA
    simp only [lexis_hex.j0] at H
    by_cases c6 : x9_3 = true
    · subst c6
      have H1 : (some (((a0 - 97) % 256) + 10)) = some r := by rw [if_pos rfl] at H; exact H
      clear H; have H := H1; clear H1
      obtain rfl := Option.some.inj H
      go_wp2
      go_ret
      exact ⟨by first | rfl | (simp; done) | (simp [*]; done), by repeat (first | exact Drawn0.refl _ | apply Drawn0.step)⟩
    replace c6 := Bool.eq_false_iff.mpr c6; subst c6
    have H1 : (if a0 ≥ 65 then (if a0 ≤ 70 then (some (((a0 - 65) % 256) + 10)) else (some (-1))) else (some (-1))) = some r := by rw [if_neg (show ¬ (false = true) by decide)] at H; exact H
    clear H; have H := H1; clear H1
    by_cases c7 : a0 ≥ 65
    · rw [if_pos c7] at H
      have c7b0 : decide (65 ≤ a0) = true := decide_eq_true c7
      clear c7
      by_cases c8 : a0 ≤ 70
      · rw [if_pos c8] at H
        have c8b0 : decide (a0 ≤ 70) = true := decide_eq_true c8
        clear c8
        obtain rfl := Option.some.inj H
        go_wp2
        go_ret
        exact ⟨by first | rfl | (simp; done) | (simp [*]; done), by repeat (first | exact Drawn0.refl _ | apply Drawn0.step)⟩
      rw [if_neg c8] at H
      have c8b0 : decide (a0 ≤ 70) = false := decide_eq_false c8
      clear c8
      obtain rfl := Option.some.inj H
      go_wp2
      go_ret
      exact ⟨by first | rfl | (simp; done) | (simp [*]; done), by repeat (first | exact Drawn0.refl _ | apply Drawn0.step)⟩
    rw [if_neg c7] at H
    have c7b0 : decide (65 ≤ a0) = false := decide_eq_false c7
    clear c7
    obtain rfl := Option.some.inj H
    go_wp2
    go_ret
    exact ⟨by first | rfl | (simp; done) | (simp [*]; done), by repeat (first | exact Drawn0.refl _ | apply Drawn0.step)⟩
end Go.Proofs.Ytldjdcdoegjmoaa.P
