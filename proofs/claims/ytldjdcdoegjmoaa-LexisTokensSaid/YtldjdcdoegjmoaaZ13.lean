import Derived.Test.YtldjdcdoegjmoaaZ0
import Derived.Test.YtldjdcdoegjmoaaZ12
namespace Go.Proofs.Ytldjdcdoegjmoaa.P
open Go.RowKit Go.Proofs.YtldjdcdoegjmoaaW.PrintWords Go.Proofs.YtldjdcdoegjmoaaW.PrintLast Go.Proofs.YtldjdcdoegjmoaaW.PrintMore
set_option linter.unusedVariables false
set_option linter.unusedSimpArgs false
def dowelref04_fault.f (a0 : Int) (a1 : Int) : Option (Int × Int × Int × ByteArray × Bool × Int × Int × Int × Int × Int × Int × Int × Int) := some (0, 0, 0, (⟨#[]⟩ : ByteArray), false, 0, 0, 0, 0, 0, 0, a0, a1)
set_option maxHeartbeats 8000000 in
set_option maxRecDepth 100000 in
theorem dowelref04_fault.calls (a0 : Int) (a1 : Int) (r1 : Int) (r2 : Int) (r3 : Int) (r4 : ByteArray) (r5 : Bool) (r6 : Int) (r7 : Int) (r8 : Int) (r9 : Int) (r10 : Int) (r11 : Int) (r12 : Int) (r13 : Int) (w : World) (h : dowelref04_fault.f a0 a1 = some (r1, r2, r3, r4, r5, r6, r7, r8, r9, r10, r11, r12, r13)) :
 Calls Try.prog 23 #[.int .i64 a0, .int .i64 a1] w fun e w' => e = .returned (.tuple #[.agg #[.int .i64 r1, .int .i64 r2, .int .i64 r3, .string r4, .bool r5, .int .u64 r6, .int .u64 r7, .int .u64 r8, .int .u64 r9, .int .i64 r10, .int .i64 r11], .agg #[.int .i64 r12, .int .i64 r13]]) ∧ Below w.heap.size w w' := by
 have hu28 := Try.underlying28; have hu35 := Try.underlying35; have HB := Aside0.mk (Below.refl w.heap.size w)
 have H : (some (0, 0, 0, (⟨#[]⟩ : ByteArray), false, 0, 0, 0, 0, 0, 0, a0, a1)) = some (r1, r2, r3, r4, r5, r6, r7, r8, r9, r10, r11, r12, r13) := h
 clear h
 simp only [Option.some.injEq, Prod.mk.injEq] at H
 obtain ⟨rfl, rfl, rfl, rfl, rfl, rfl, rfl, rfl, rfl, rfl, rfl, rfl, rfl⟩ := H
 go_enter Try.func23, Try.ntmps23
 go_wp2_with (first | ((with_reducible refine gate_dst (N := 4) rfl ?_); refine Q61 ?hg (N := 4) ?hd (cs := #[.int .i64 0, .int .i64 0, .int .i64 0, .string (⟨#[]⟩ : ByteArray), .bool false, .int .u64 0, .int .u64 0, .int .u64 0, .int .u64 0, .int .i64 0, .int .i64 0]) (t := 28) ?hr ?_; (case hd => rfl); (case hg => rfl); (case hr => first | (go_simp; done) | (go_simp; rfl)); intro gb448 hg w3 hbox hb; have n0_ := Aside0.mk (Q52 (by repeat (first | (with_reducible first | exact HB.out | apply Q46 | apply Q43 | apply Q45) | exact HB.out)) hb); have n1_ := Aside0.mk (hbox); have n2_ := Aside0.mk ((by rw [hg]; exact (Q55 (by repeat (first | (with_reducible first | exact HB.out | apply Q46 | apply Q43 | apply Q45) | exact HB.out))) : w.heap.size ≤ gb448)); have n3_ := n2_; clear HB; have HB := n0_; have BK448 := n1_; have GW448 := n2_; have GE448 := n3_; clear n0_ n1_ n2_ n3_; clear hb hbox hg) | ((with_reducible refine gate_dst (N := 5) rfl ?_); refine Q61 ?hg (N := 5) ?hd (cs := #[.int .i64 0, .int .i64 0]) (t := 35) ?hr ?_; (case hd => rfl); (case hg => rfl); (case hr => first | (go_simp; done) | (go_simp; rfl)); intro gb449 hg w4 hbox hb; have n0_ := Aside0.mk (Q48 (g := gb448) (by (with_reducible repeat (first | apply Q35 | apply Q40 | apply Q37)); exact BK448.out) hb); have n1_ := Aside0.mk (Q52 (by repeat (first | (with_reducible first | exact HB.out | apply Q46 | apply Q43 | apply Q45 | refine Q44 ?_ GE448.out) | exact HB.out)) hb); have n2_ := Aside0.mk (hbox); have n3_ := Aside0.mk ((by rw [hg]; exact (Q55 (by repeat (first | (with_reducible first | exact HB.out | apply Q46 | apply Q43 | apply Q45 | refine Q44 ?_ GE448.out) | exact HB.out))) : w.heap.size ≤ gb449)); have n4_ := n3_; have n5_ := Aside0.mk ((by rw [hg]; exact Nat.ne_of_lt (blk_lt (g := gb448) (by (with_reducible repeat (first | apply Q35 | apply Q40 | apply Q37)); exact BK448.out)) : gb448 ≠ gb449)); have n6_ := Aside0.mk ((by rw [hg]; exact Nat.ne_of_gt (blk_lt (g := gb448) (by (with_reducible repeat (first | apply Q35 | apply Q40 | apply Q37)); exact BK448.out)) : gb449 ≠ gb448)); clear BK448; clear HB; have BK448 := n0_; have HB := n1_; have BK449 := n2_; have GW449 := n3_; have GE449 := n4_; have NB448_449 := n5_; have NB449_448 := n6_; clear n0_ n1_ n2_ n3_ n4_ n5_ n6_; clear hb hbox hg; have hnb5 := NB448_449.out; have hnc5 := NB449_448.out; obtain ⟨hcz6_0, hcz6_1, hcz6_2, hcz6_3, hcz6_4, hcz6_5, hcz6_6, hcz6_7, hcz6_8, hcz6_9, hcz6_10, hfz6_0, hfz6_1, hfz6_2, hfz6_3, hfz6_4, hfz6_5, hfz6_6, hfz6_7, hfz6_8, hfz6_9, hfz6_10⟩ := Q54 BK448.out; obtain ⟨hcz7_0, hcz7_1, hfz7_0, hfz7_1⟩ := Q56 BK449.out))
 refine bodyPost_ret (Q58 rfl _ _ gb448 gb449 28 35 #[.int .i64 0, .int .i64 0, .int .i64 0, .string (⟨#[]⟩ : ByteArray), .bool false, .int .u64 0, .int .u64 0, .int .u64 0, .int .u64 0, .int .i64 0, .int .i64 0] #[.int .i64 a0, .int .i64 a1] (0, 0) (0, 0) _ _ rfl (by (with_reducible repeat (first | apply Q35 | apply Q40 | apply Q37)); refine blk_far2 ?_ NB448_449.out; (with_reducible repeat (first | apply Q35 | apply Q40 | apply Q37)); apply Q62; (with_reducible repeat (first | apply Q35 | apply Q40 | apply Q37)); exact BK448.out) Try.underlying28 rfl (by kernel_rfl) rfl (by (with_reducible repeat (first | apply Q35 | apply Q40 | apply Q37)); apply blk_put2; (with_reducible repeat (first | apply Q35 | apply Q40 | apply Q37)); refine Q59 ?_ NB449_448.out; (with_reducible repeat (first | apply Q35 | apply Q40 | apply Q37)); exact BK449.out) Try.underlying35 rfl (by kernel_rfl)) rfl ?_
 exact ⟨by first | rfl | (simp [Q50, Q49] <;> rfl) | (simp [*, Q50, Q49] <;> rfl), by repeat (first | (with_reducible first | exact HB.out | apply Q46 | apply Q43 | apply Q45 | refine Q44 ?_ GE448.out | refine Q44 ?_ GE449.out) | exact HB.out)⟩
def dowelref04_sign.f (a0 : Int) : Option (Int) := if a0 = 47 then (some 3) else (if a0 = 38 then (some 4) else (if a0 = 33 then (some 5) else (if a0 = 63 then (some 6) else (if a0 = 42 then (some 7) else (if a0 = 43 then (some 8) else (if a0 = 40 then (some 10) else (if a0 = 41 then (some 11) else (if a0 = 44 then (some 12) else (if a0 = 46 then (some 13) else (some (-1)))))))))))
set_option maxHeartbeats 8000000 in
set_option maxRecDepth 100000 in
theorem dowelref04_sign.calls (a0 : Int) (r : Int) (w : World) (h : dowelref04_sign.f a0 = some r) :
 Calls Try.prog 45 #[.int .u8 a0] w fun e w' => e = .returned (.int .i64 r) ∧ Drawn0 w w' := by
 have H : (if a0 = 47 then (some 3) else (if a0 = 38 then (some 4) else (if a0 = 33 then (some 5) else (if a0 = 63 then (some 6) else (if a0 = 42 then (some 7) else (if a0 = 43 then (some 8) else (if a0 = 40 then (some 10) else (if a0 = 41 then (some 11) else (if a0 = 44 then (some 12) else (if a0 = 46 then (some 13) else (some (-1)))))))))))) = some r := h
 clear h
 by_cases c2 : a0 = 47
 · rw [if_pos c2] at H
   have c2b0 : (a0 == 47) = true := beq_iff_eq.mpr c2
   have c2b1 : (a0 != 47) = false := bne_eq_false_iff_eq.mpr c2
   clear c2
   obtain rfl := Option.some.inj H
   go_enter Try.func45, Try.ntmps45
   go_wp2
   go_ret
   exact ⟨by first | rfl | (simp; done) | (simp [*]; done), by repeat (first | exact Drawn0.refl _ | apply Drawn0.step)⟩
 rw [if_neg c2] at H
 have c2b0 : (a0 == 47) = false := beq_eq_false_iff_ne.mpr c2
 have c2b1 : (a0 != 47) = true := bne_iff_ne.mpr c2
 by_cases c3 : a0 = 38
 · rw [if_pos c3] at H
   have c3b0 : (a0 == 38) = true := beq_iff_eq.mpr c3
   have c3b1 : (a0 != 38) = false := bne_eq_false_iff_eq.mpr c3
   clear c3
   obtain rfl := Option.some.inj H
   go_enter Try.func45, Try.ntmps45
   go_wp2
   go_ret
   exact ⟨by first | rfl | (simp; done) | (simp [*]; done), by repeat (first | exact Drawn0.refl _ | apply Drawn0.step)⟩
 rw [if_neg c3] at H
 have c3b0 : (a0 == 38) = false := beq_eq_false_iff_ne.mpr c3
 have c3b1 : (a0 != 38) = true := bne_iff_ne.mpr c3
 by_cases c4 : a0 = 33
 · rw [if_pos c4] at H
   have c4b0 : (a0 == 33) = true := beq_iff_eq.mpr c4
   have c4b1 : (a0 != 33) = false := bne_eq_false_iff_eq.mpr c4
   clear c4
   obtain rfl := Option.some.inj H
   go_enter Try.func45, Try.ntmps45
   go_wp2
   go_ret
   exact ⟨by first | rfl | (simp; done) | (simp [*]; done), by repeat (first | exact Drawn0.refl _ | apply Drawn0.step)⟩
 rw [if_neg c4] at H
 have c4b0 : (a0 == 33) = false := beq_eq_false_iff_ne.mpr c4
 have c4b1 : (a0 != 33) = true := bne_iff_ne.mpr c4
 by_cases c5 : a0 = 63
 · rw [if_pos c5] at H
   have c5b0 : (a0 == 63) = true := beq_iff_eq.mpr c5
   have c5b1 : (a0 != 63) = false := bne_eq_false_iff_eq.mpr c5
   clear c5
   obtain rfl := Option.some.inj H
   go_enter Try.func45, Try.ntmps45
   go_wp2
   go_ret
   exact ⟨by first | rfl | (simp; done) | (simp [*]; done), by repeat (first | exact Drawn0.refl _ | apply Drawn0.step)⟩
 rw [if_neg c5] at H
 have c5b0 : (a0 == 63) = false := beq_eq_false_iff_ne.mpr c5
 have c5b1 : (a0 != 63) = true := bne_iff_ne.mpr c5
 by_cases c6 : a0 = 42
 · rw [if_pos c6] at H
   have c6b0 : (a0 == 42) = true := beq_iff_eq.mpr c6
   have c6b1 : (a0 != 42) = false := bne_eq_false_iff_eq.mpr c6
   clear c6
   obtain rfl := Option.some.inj H
   go_enter Try.func45, Try.ntmps45
   go_wp2
   go_ret
   exact ⟨by first | rfl | (simp; done) | (simp [*]; done), by repeat (first | exact Drawn0.refl _ | apply Drawn0.step)⟩
 rw [if_neg c6] at H
 have c6b0 : (a0 == 42) = false := beq_eq_false_iff_ne.mpr c6
 have c6b1 : (a0 != 42) = true := bne_iff_ne.mpr c6
 by_cases c7 : a0 = 43
 · rw [if_pos c7] at H
   have c7b0 : (a0 == 43) = true := beq_iff_eq.mpr c7
   have c7b1 : (a0 != 43) = false := bne_eq_false_iff_eq.mpr c7
   clear c7
   obtain rfl := Option.some.inj H
   go_enter Try.func45, Try.ntmps45
   go_wp2
   go_ret
   exact ⟨by first | rfl | (simp; done) | (simp [*]; done), by repeat (first | exact Drawn0.refl _ | apply Drawn0.step)⟩
 rw [if_neg c7] at H
 have c7b0 : (a0 == 43) = false := beq_eq_false_iff_ne.mpr c7
 have c7b1 : (a0 != 43) = true := bne_iff_ne.mpr c7
 by_cases c8 : a0 = 40
 · rw [if_pos c8] at H
   have c8b0 : (a0 == 40) = true := beq_iff_eq.mpr c8
   have c8b1 : (a0 != 40) = false := bne_eq_false_iff_eq.mpr c8
   clear c8
   obtain rfl := Option.some.inj H
   go_enter Try.func45, Try.ntmps45
   go_wp2
   go_ret
   exact ⟨by first | rfl | (simp; done) | (simp [*]; done), by repeat (first | exact Drawn0.refl _ | apply Drawn0.step)⟩
 rw [if_neg c8] at H
 have c8b0 : (a0 == 40) = false := beq_eq_false_iff_ne.mpr c8
 have c8b1 : (a0 != 40) = true := bne_iff_ne.mpr c8
 by_cases c9 : a0 = 41
 · rw [if_pos c9] at H
   have c9b0 : (a0 == 41) = true := beq_iff_eq.mpr c9
   have c9b1 : (a0 != 41) = false := bne_eq_false_iff_eq.mpr c9
   clear c9
   obtain rfl := Option.some.inj H
   go_enter Try.func45, Try.ntmps45
   go_wp2
   go_ret
   exact ⟨by first | rfl | (simp; done) | (simp [*]; done), by repeat (first | exact Drawn0.refl _ | apply Drawn0.step)⟩
 rw [if_neg c9] at H
 have c9b0 : (a0 == 41) = false := beq_eq_false_iff_ne.mpr c9
 have c9b1 : (a0 != 41) = true := bne_iff_ne.mpr c9
 by_cases c10 : a0 = 44
 · rw [if_pos c10] at H
   have c10b0 : (a0 == 44) = true := beq_iff_eq.mpr c10
   have c10b1 : (a0 != 44) = false := bne_eq_false_iff_eq.mpr c10
   clear c10
   obtain rfl := Option.some.inj H
   go_enter Try.func45, Try.ntmps45
   go_wp2
   go_ret
   exact ⟨by first | rfl | (simp; done) | (simp [*]; done), by repeat (first | exact Drawn0.refl _ | apply Drawn0.step)⟩
 rw [if_neg c10] at H
 have c10b0 : (a0 == 44) = false := beq_eq_false_iff_ne.mpr c10
 have c10b1 : (a0 != 44) = true := bne_iff_ne.mpr c10
 by_cases c11 : a0 = 46
 · rw [if_pos c11] at H
   have c11b0 : (a0 == 46) = true := beq_iff_eq.mpr c11
   have c11b1 : (a0 != 46) = false := bne_eq_false_iff_eq.mpr c11
   clear c11
   obtain rfl := Option.some.inj H
   go_enter Try.func45, Try.ntmps45
   go_wp2
   go_ret
   exact ⟨by first | rfl | (simp; done) | (simp [*]; done), by repeat (first | exact Drawn0.refl _ | apply Drawn0.step)⟩
 rw [if_neg c11] at H
 have c11b0 : (a0 == 46) = false := beq_eq_false_iff_ne.mpr c11
 have c11b1 : (a0 != 46) = true := bne_iff_ne.mpr c11
 obtain rfl := Option.some.inj H
 go_enter Try.func45, Try.ntmps45
 go_wp2
 go_ret
 exact ⟨by first | rfl | (simp; done) | (simp [*]; done), by repeat (first | exact Drawn0.refl _ | apply Drawn0.step)⟩
mutual
def dowelref04_number.j0 : Nat → ByteArray → Int → Int → Bool → Option (Int × Int)
 | 0, _, _, _, _ => none
 | k + 1, x0, x1, x6, x32 => if x32 = true then (some (0, x1)) else (dowelref04_number.l0 k x0 x1 x6 0 x1)
def dowelref04_number.l0 : Nat → ByteArray → Int → Int → Int → Int → Option (Int × Int)
 | 0, _, _, _, _, _ => none
 | k + 1, x0, x1, x6, x7, x8 => if x8 < x6 then (if 0 ≤ x8 then (if x8 < (x0.size : Int) then (dowelref04_number.l0 k x0 x1 x6 (wrap64 ((wrap64 (10 * x7)) + (((bt x0 x8) - 48) % 256))) (wrap64 (x8 + 1))) else (none)) else (none)) else (if x7 > 255 then (some (0, x1)) else (some (x7, x6)))
end
def dowelref04_number.f (k : Nat) (a0 : ByteArray) (a1 : Int) : Option (Int × Int) := (dowelref04_digits.f k a0 a1).bind fun t450 => (if t450 = a1 then (dowelref04_number.j0 k a0 a1 t450 true) else (if t450 > (wrap64 (a1 + 3)) then (dowelref04_number.j0 k a0 a1 t450 true) else (if 0 ≤ a1 then (if a1 < (a0.size : Int) then (if (bt a0 a1) = 48 then (dowelref04_number.j0 k a0 a1 t450 (decide (t450 > (wrap64 (a1 + 1))))) else (dowelref04_number.j0 k a0 a1 t450 false)) else (none)) else (none))))
set_option maxHeartbeats 8000000 in
set_option maxRecDepth 100000 in
theorem dowelref04_number.calls (k : Nat) (a0 : ByteArray) (a1 : Int) (r1 : Int) (r2 : Int) (w : World) (h : dowelref04_number.f k a0 a1 = some (r1, r2)) :
 Calls Try.prog 59 #[.string a0, .int .i64 a1] w fun e w' => e = .returned (.tuple #[.int .i64 r1, .int .i64 r2]) ∧ Drawn0 w w' := by
 have H : ((dowelref04_digits.f k a0 a1).bind fun t450 => (if t450 = a1 then (dowelref04_number.j0 k a0 a1 t450 true) else (if t450 > (wrap64 (a1 + 3)) then (dowelref04_number.j0 k a0 a1 t450 true) else (if 0 ≤ a1 then (if a1 < (a0.size : Int) then (if (bt a0 a1) = 48 then (dowelref04_number.j0 k a0 a1 t450 (decide (t450 > (wrap64 (a1 + 1))))) else (dowelref04_number.j0 k a0 a1 t450 false)) else (none)) else (none))))) = some (r1, r2) := h
 clear h; replace H := Option.bind_eq_some_iff.mp H
 obtain ⟨t450, A30, H⟩ := H
 replace H : (if t450 = a1 then (dowelref04_number.j0 k a0 a1 t450 true) else (if t450 > (wrap64 (a1 + 3)) then (dowelref04_number.j0 k a0 a1 t450 true) else (if 0 ≤ a1 then (if a1 < (a0.size : Int) then (if (bt a0 a1) = 48 then (dowelref04_number.j0 k a0 a1 t450 (decide (t450 > (wrap64 (a1 + 1))))) else (dowelref04_number.j0 k a0 a1 t450 false)) else (none)) else (none)))) = some (r1, r2) := H
 have A3 := Aside0.mk A30; clear A30; have HC4 := Aside0.mk H; clear H
 go_enter Try.func59, Try.ntmps59
 go_upto_region 2 with (first | ((with_reducible refine Q51 (f := 34) rfl ?_); refine goesL_ (some 11) rfl rfl Try.func34 (by kernel_rfl) rfl #[.string a0, .int .i64 a1] rfl (by (try simp only [List.map_toArray, List.map_cons, List.map_nil]); first | done | rfl | (simp only [List.length_drop, List.length_take]; rfl)) ?_; (with_reducible refine (dowelref04_digits.calls k a0 a1 t450 _ A3.out).mono ?_); rintro e w' ⟨rfl, ⟨nd, rfl⟩⟩; refine ⟨_, rfl, ?_⟩))
 (try simp only [Act.put, List.setIfInBounds_toArray, List.set_cons_zero, List.set_cons_succ])
 go_cut [32] (fun v32 wc => ∃ (kq : Nat) (x32_3 : Bool), v32 = .bool x32_3 ∧ Aside0 (dowelref04_number.j0 kq a0 a1 t450 x32_3 = some (r1, r2)) ∧ Aside0 (kq ≤ k) ∧ Drawn0 w wc)
 case first =>
  have H := HC4.out; clear HC4
  by_cases c5 : t450 = a1
  · rw [if_pos c5] at H
    have c5b0 : (t450 == a1) = true := beq_iff_eq.mpr c5
    have c5b1 : (t450 != a1) = false := bne_eq_false_iff_eq.mpr c5
    clear c5
    (first | rw [c5b0] | (simp only [i64_w, i32_w]; rw [c5b0]) | skip)
    have H' := Aside0.mk H; clear H
    go_wp2
    go_meet
    case rel => exact ⟨_, (true), (by first | rfl | (simp; done) | (simp [*]; done)), H', ⟨by first | omega | exact Nat.le_refl _⟩, by repeat (first | exact Drawn0.refl _ | apply Drawn0.step)⟩
  rw [if_neg c5] at H
  have c5b0 : (t450 == a1) = false := beq_eq_false_iff_ne.mpr c5
  have c5b1 : (t450 != a1) = true := bne_iff_ne.mpr c5
  (first | rw [c5b0] | (simp only [i64_w, i32_w]; rw [c5b0]) | skip)
  by_cases c6 : t450 > (wrap64 (a1 + 3))
  · rw [if_pos c6] at H
    have c6b0 : decide ((wrap64 (a1 + 3)) < t450) = true := decide_eq_true c6
    clear c6; have H' := Aside0.mk H; clear H
    go_wp2
    go_meet
    case rel => exact ⟨_, (true), (by first | rfl | (simp; done) | (simp [*]; done)), H', ⟨by first | omega | exact Nat.le_refl _⟩, by repeat (first | exact Drawn0.refl _ | apply Drawn0.step)⟩
  rw [if_neg c6] at H
  have c6b0 : decide ((wrap64 (a1 + 3)) < t450) = false := decide_eq_false c6
  clear c6
  by_cases c7 : 0 ≤ a1
  · rw [if_pos c7] at H
    have c7b0 : decide (0 ≤ a1) = true := decide_eq_true c7
    clear c7
    by_cases c8 : a1 < (a0.size : Int)
    · rw [if_pos c8] at H
      have c8b0 : decide (a1 < (a0.size : Int)) = true := decide_eq_true c8
      clear c8
      by_cases c10 : (bt a0 a1) = 48
      · rw [if_pos c10] at H
        have c10b0 : ((bt a0 a1) == 48) = true := beq_iff_eq.mpr c10
        have c10b1 : ((bt a0 a1) != 48) = false := bne_eq_false_iff_eq.mpr c10
        clear c10; have H' := Aside0.mk H; clear H
        have p9 : 0 ≤ (a1 : Int) := of_decide_eq_true (by first | (with_reducible assumption) | assumption)
        have q9 : a1 < (a0.size : Int) := of_decide_eq_true (by first | (with_reducible assumption) | assumption)
        have hx9 := bt_at a0 a1; replace p9 := eq_true p9; replace q9 := eq_true q9
        go_wp2
        go_meet
        case rel => exact ⟨_, (decide (t450 > (wrap64 (a1 + 1)))), (by first | rfl | (simp; done) | (simp [*]; done)), H', ⟨by first | omega | exact Nat.le_refl _⟩, by repeat (first | exact Drawn0.refl _ | apply Drawn0.step)⟩
      rw [if_neg c10] at H
      have c10b0 : ((bt a0 a1) == 48) = false := beq_eq_false_iff_ne.mpr c10
      have c10b1 : ((bt a0 a1) != 48) = true := bne_iff_ne.mpr c10
      have H' := Aside0.mk H; clear H
      have p9 : 0 ≤ (a1 : Int) := of_decide_eq_true (by first | (with_reducible assumption) | assumption)
      have q9 : a1 < (a0.size : Int) := of_decide_eq_true (by first | (with_reducible assumption) | assumption)
      have hx9 := bt_at a0 a1; replace p9 := eq_true p9; replace q9 := eq_true q9
      go_wp2
      go_meet
      case rel => exact ⟨_, (false), (by first | rfl | (simp; done) | (simp [*]; done)), H', ⟨by first | omega | exact Nat.le_refl _⟩, by repeat (first | exact Drawn0.refl _ | apply Drawn0.step)⟩
    rw [if_neg c8] at H
    exact absurd H (by simp)
  rw [if_neg c7] at H
  exact absurd H (by simp)
 case rest =>
  clear HC4; (try clear c1); (try clear p2); (try clear c3); (try clear c5); (try clear c5b0); (try clear c5b1); (try clear c6); (try clear c6b0); (try clear p6); (try clear c7); (try clear c7b0); (try clear c8); (try clear c8b0); (try clear p9); (try clear q9); (try clear hx9); (try clear c10); (try clear c10b0); (try clear c10b1); (try clear p9); (try clear q9)
  obtain ⟨kq, x32_3, rfl, HA, HJ3, ⟨mc3, rfl⟩⟩ := hcut
  cases kq with
  | zero => exact absurd HA.out (by simp [dowelref04_number.j0])
  | succ kj3 =>
    have H := HA.out; clear HA
    simp only [dowelref04_number.j0] at H
    by_cases c11 : x32_3 = true
    · subst c11
      have H1 : (some (0, a1)) = some (r1, r2) := by rw [if_pos rfl] at H; exact H
      clear H; have H := H1; clear H1
      simp only [Option.some.injEq, Prod.mk.injEq] at H
      obtain ⟨rfl, rfl⟩ := H
      go_wp2
      go_ret2
      exact ⟨by first | rfl | (simp; done) | (simp [*]; done), by repeat (first | exact Drawn0.refl _ | apply Drawn0.step)⟩
    replace c11 := Bool.eq_false_iff.mpr c11; subst c11
    have H1 : (dowelref04_number.l0 kj3 a0 a1 t450 0 a1) = some (r1, r2) := by rw [if_neg (show ¬ (false = true) by decide)] at H; exact H
    clear H; have H := H1; clear H1; have H' := Aside0.mk H; clear H
    go_wp2
    go_loopg [7, 8] kj3 (fun kq v7 v8 w' => ∃ (x7_2 : Int) (x8_2 : Int), v7 = .int .i64 x7_2 ∧ v8 = .int .i64 x8_2 ∧ Aside0 (dowelref04_number.l0 kq a0 a1 t450 x7_2 x8_2 = some (r1, r2)) ∧ Aside0 (kq ≤ kj3) ∧ Drawn0 w w')
    case atStart => exact ⟨(0), (a1), (by first | rfl | (simp; done) | (simp [*]; done)), (by first | rfl | (simp; done) | (simp [*]; done)), H', ⟨Nat.le_refl _⟩, by repeat (first | exact Drawn0.refl _ | apply Drawn0.step)⟩
    case round =>
     clear H'
     (try clear c1); (try clear p2); (try clear c3); (try clear c5); (try clear c5b0); (try clear c5b1); (try clear c6); (try clear c6b0); (try clear p6); (try clear c7); (try clear c7b0); (try clear c8); (try clear c8b0); (try clear p9); (try clear q9); (try clear hx9); (try clear c10); (try clear c10b0); (try clear c10b1); (try clear c11); (try clear p2); (try clear p6); (try clear p9); (try clear q9)
     obtain ⟨x7_2, x8_2, rfl, rfl, HA, HK2, ⟨m2, rfl⟩⟩ := hrel
     cases gk with
     | zero => exact absurd HA.out (by simp [dowelref04_number.l0])
     | succ k2 =>
       have H := HA.out; clear HA
       simp only [dowelref04_number.l0] at H
       by_cases c12 : x8_2 < t450
       · rw [if_pos c12] at H
         have c12b0 : decide (x8_2 < t450) = true := decide_eq_true c12
         clear c12
         by_cases c13 : 0 ≤ x8_2
         · rw [if_pos c13] at H
           have c13b0 : decide (0 ≤ x8_2) = true := decide_eq_true c13
           clear c13
           by_cases c14 : x8_2 < (a0.size : Int)
           · rw [if_pos c14] at H
             have c14b0 : decide (x8_2 < (a0.size : Int)) = true := decide_eq_true c14
             clear c14; have H' := Aside0.mk H; clear H
             have p15 : 0 ≤ (x8_2 : Int) := of_decide_eq_true (by first | (with_reducible assumption) | assumption)
             have q15 : x8_2 < (a0.size : Int) := of_decide_eq_true (by first | (with_reducible assumption) | assumption)
             have hx15 := bt_at a0 x8_2; replace p15 := eq_true p15; replace q15 := eq_true q15
             go_wp2
             go_roundg k2
             case measure => have := HJ3.out; have := HK2.out; omega
             case rel => exact ⟨(wrap64 ((wrap64 (10 * x7_2)) + (((bt a0 x8_2) - 48) % 256))), (wrap64 (x8_2 + 1)), (by first | rfl | (simp; done) | (simp [*]; done)), (by first | rfl | (simp; done) | (simp [*]; done)), H', ⟨by have := HJ3.out; have := HK2.out; omega⟩, by repeat (first | exact Drawn0.refl _ | apply Drawn0.step)⟩
           rw [if_neg c14] at H
           exact absurd H (by simp)
         rw [if_neg c13] at H
         exact absurd H (by simp)
       rw [if_neg c12] at H
       have c12b0 : decide (x8_2 < t450) = false := decide_eq_false c12
       clear c12
       by_cases c16 : x7_2 > 255
       · rw [if_pos c16] at H
         have c16b0 : decide (255 < x7_2) = true := decide_eq_true c16
         clear c16
         simp only [Option.some.injEq, Prod.mk.injEq] at H
         obtain ⟨rfl, rfl⟩ := H
         go_wp2
         go_ret2
         exact ⟨by first | rfl | (simp; done) | (simp [*]; done), by repeat (first | exact Drawn0.refl _ | apply Drawn0.step)⟩
       rw [if_neg c16] at H
       have c16b0 : decide (255 < x7_2) = false := decide_eq_false c16
       clear c16
       simp only [Option.some.injEq, Prod.mk.injEq] at H
       obtain ⟨rfl, rfl⟩ := H
       go_wp2
       go_ret2
       exact ⟨by first | rfl | (simp; done) | (simp [*]; done), by repeat (first | exact Drawn0.refl _ | apply Drawn0.step)⟩
def dowelref04_at.f (a0 : ByteArray) (a1 : Int) (a2 : Int) : Option (Bool) := if a1 < (a0.size : Int) then (if 0 ≤ a1 then (some ((bt a0 a1) == a2)) else (none)) else (some false)
set_option maxHeartbeats 8000000 in
set_option maxRecDepth 100000 in
theorem dowelref04_at.calls (a0 : ByteArray) (a1 : Int) (a2 : Int) (r : Bool) (w : World) (h : dowelref04_at.f a0 a1 a2 = some r) :
 Calls Try.prog 60 #[.string a0, .int .i64 a1, .int .u8 a2] w fun e w' => e = .returned (.bool r) ∧ Drawn0 w w' := by
 have H : (if a1 < (a0.size : Int) then (if 0 ≤ a1 then (some ((bt a0 a1) == a2)) else (none)) else (some false)) = some r := h
 clear h
 by_cases c4 : a1 < (a0.size : Int)
 · rw [if_pos c4] at H
   have c4b0 : decide (a1 < (a0.size : Int)) = true := decide_eq_true c4
   clear c4
   by_cases c5 : 0 ≤ a1
   · rw [if_pos c5] at H
     have c5b0 : decide (0 ≤ a1) = true := decide_eq_true c5
     clear c5
     obtain rfl := Option.some.inj H
     have p6 : 0 ≤ (a1 : Int) := of_decide_eq_true (by first | (with_reducible assumption) | assumption)
     have q6 : a1 < (a0.size : Int) := of_decide_eq_true (by first | (with_reducible assumption) | assumption)
     have hx6 := bt_at a0 a1; replace p6 := eq_true p6; replace q6 := eq_true q6
     go_enter Try.func60, Try.ntmps60
     go_wp2
     go_ret
     exact ⟨by first | rfl | (simp; done) | (simp [*]; done), by repeat (first | exact Drawn0.refl _ | apply Drawn0.step)⟩
   rw [if_neg c5] at H
   exact absurd H (by simp)
 rw [if_neg c4] at H
 have c4b0 : decide (a1 < (a0.size : Int)) = false := decide_eq_false c4
 clear c4
 obtain rfl := Option.some.inj H
 go_enter Try.func60, Try.ntmps60
 go_wp2
 go_ret
 exact ⟨by first | rfl | (simp; done) | (simp [*]; done), by repeat (first | exact Drawn0.refl _ | apply Drawn0.step)⟩
def dowelref04_count.j0 : Nat → ByteArray → Int → Int → Int → Int → Option (Int × Int × Int × ByteArray × Bool × Int × Int × Int × Int × Int × Int × Int × Int)
 | 0, _, _, _, _, _ => none
 | k + 1, x0, x1, x6, x7, x8 => (dowelref04_at.f x0 x7 125).bind fun t498 => (if t498 = true then (some (9, x1, wrap64 (x7 + 1), (⟨#[]⟩ : ByteArray), false, 0, 0, 0, 0, x6, x8, 0, 0)) else ((dowelref04_fault.f x1 43).bind fun bt499 => (some (bt499.1, bt499.2.1, bt499.2.2.1, bt499.2.2.2.1, bt499.2.2.2.2.1, bt499.2.2.2.2.2.1, bt499.2.2.2.2.2.2.1, bt499.2.2.2.2.2.2.2.1, bt499.2.2.2.2.2.2.2.2.1, bt499.2.2.2.2.2.2.2.2.2.1, bt499.2.2.2.2.2.2.2.2.2.2.1, bt499.2.2.2.2.2.2.2.2.2.2.2.1, bt499.2.2.2.2.2.2.2.2.2.2.2.2))))
def dowelref04_count.f (k : Nat) (a0 : ByteArray) (a1 : Int) : Option (Int × Int × Int × ByteArray × Bool × Int × Int × Int × Int × Int × Int × Int × Int) := (dowelref04_number.f k a0 (wrap64 (a1 + 1))).bind fun bt453 => (if bt453.2 = (wrap64 (a1 + 1)) then ((dowelref04_fault.f a1 43).bind fun bt455 => (some (bt455.1, bt455.2.1, bt455.2.2.1, bt455.2.2.2.1, bt455.2.2.2.2.1, bt455.2.2.2.2.2.1, bt455.2.2.2.2.2.2.1, bt455.2.2.2.2.2.2.2.1, bt455.2.2.2.2.2.2.2.2.1, bt455.2.2.2.2.2.2.2.2.2.1, bt455.2.2.2.2.2.2.2.2.2.2.1, bt455.2.2.2.2.2.2.2.2.2.2.2.1, bt455.2.2.2.2.2.2.2.2.2.2.2.2))) else ((dowelref04_at.f a0 bt453.2 44).bind fun t468 => (if t468 = true then ((dowelref04_at.f a0 (wrap64 (bt453.2 + 1)) 125).bind fun t469 => (if t469 = true then (dowelref04_count.j0 k a0 a1 bt453.1 (wrap64 (bt453.2 + 1)) (-1)) else ((dowelref04_number.f k a0 (wrap64 (bt453.2 + 1))).bind fun bt470 => (if bt470.2 = (wrap64 (bt453.2 + 1)) then ((dowelref04_fault.f a1 43).bind fun bt472 => (some (bt472.1, bt472.2.1, bt472.2.2.1, bt472.2.2.2.1, bt472.2.2.2.2.1, bt472.2.2.2.2.2.1, bt472.2.2.2.2.2.2.1, bt472.2.2.2.2.2.2.2.1, bt472.2.2.2.2.2.2.2.2.1, bt472.2.2.2.2.2.2.2.2.2.1, bt472.2.2.2.2.2.2.2.2.2.2.1, bt472.2.2.2.2.2.2.2.2.2.2.2.1, bt472.2.2.2.2.2.2.2.2.2.2.2.2))) else (if bt470.1 < bt453.1 then ((dowelref04_fault.f a1 43).bind fun bt485 => (some (bt485.1, bt485.2.1, bt485.2.2.1, bt485.2.2.2.1, bt485.2.2.2.2.1, bt485.2.2.2.2.2.1, bt485.2.2.2.2.2.2.1, bt485.2.2.2.2.2.2.2.1, bt485.2.2.2.2.2.2.2.2.1, bt485.2.2.2.2.2.2.2.2.2.1, bt485.2.2.2.2.2.2.2.2.2.2.1, bt485.2.2.2.2.2.2.2.2.2.2.2.1, bt485.2.2.2.2.2.2.2.2.2.2.2.2))) else (dowelref04_count.j0 k a0 a1 bt453.1 bt470.2 bt470.1)))))) else (dowelref04_count.j0 k a0 a1 bt453.1 bt453.2 bt453.1))))
set_option maxHeartbeats 8000000 in
set_option maxRecDepth 100000 in
theorem dowelref04_count.calls (k : Nat) (a0 : ByteArray) (a1 : Int) (r1 : Int) (r2 : Int) (r3 : Int) (r4 : ByteArray) (r5 : Bool) (r6 : Int) (r7 : Int) (r8 : Int) (r9 : Int) (r10 : Int) (r11 : Int) (r12 : Int) (r13 : Int) (w : World) (h : dowelref04_count.f k a0 a1 = some (r1, r2, r3, r4, r5, r6, r7, r8, r9, r10, r11, r12, r13)) :
 Calls Try.prog 46 #[.string a0, .int .i64 a1] w fun e w' => e = .returned (.tuple #[.agg #[.int .i64 r1, .int .i64 r2, .int .i64 r3, .string r4, .bool r5, .int .u64 r6, .int .u64 r7, .int .u64 r8, .int .u64 r9, .int .i64 r10, .int .i64 r11], .agg #[.int .i64 r12, .int .i64 r13]]) ∧ Below w.heap.size w w' := by
 have hu28 := Try.underlying28; have hu35 := Try.underlying35; have HB := Aside0.mk (Below.refl w.heap.size w)
 have H : ((dowelref04_number.f k a0 (wrap64 (a1 + 1))).bind fun bt453 => (if bt453.2 = (wrap64 (a1 + 1)) then ((dowelref04_fault.f a1 43).bind fun bt455 => (some (bt455.1, bt455.2.1, bt455.2.2.1, bt455.2.2.2.1, bt455.2.2.2.2.1, bt455.2.2.2.2.2.1, bt455.2.2.2.2.2.2.1, bt455.2.2.2.2.2.2.2.1, bt455.2.2.2.2.2.2.2.2.1, bt455.2.2.2.2.2.2.2.2.2.1, bt455.2.2.2.2.2.2.2.2.2.2.1, bt455.2.2.2.2.2.2.2.2.2.2.2.1, bt455.2.2.2.2.2.2.2.2.2.2.2.2))) else ((dowelref04_at.f a0 bt453.2 44).bind fun t468 => (if t468 = true then ((dowelref04_at.f a0 (wrap64 (bt453.2 + 1)) 125).bind fun t469 => (if t469 = true then (dowelref04_count.j0 k a0 a1 bt453.1 (wrap64 (bt453.2 + 1)) (-1)) else ((dowelref04_number.f k a0 (wrap64 (bt453.2 + 1))).bind fun bt470 => (if bt470.2 = (wrap64 (bt453.2 + 1)) then ((dowelref04_fault.f a1 43).bind fun bt472 => (some (bt472.1, bt472.2.1, bt472.2.2.1, bt472.2.2.2.1, bt472.2.2.2.2.1, bt472.2.2.2.2.2.1, bt472.2.2.2.2.2.2.1, bt472.2.2.2.2.2.2.2.1, bt472.2.2.2.2.2.2.2.2.1, bt472.2.2.2.2.2.2.2.2.2.1, bt472.2.2.2.2.2.2.2.2.2.2.1, bt472.2.2.2.2.2.2.2.2.2.2.2.1, bt472.2.2.2.2.2.2.2.2.2.2.2.2))) else (if bt470.1 < bt453.1 then ((dowelref04_fault.f a1 43).bind fun bt485 => (some (bt485.1, bt485.2.1, bt485.2.2.1, bt485.2.2.2.1, bt485.2.2.2.2.1, bt485.2.2.2.2.2.1, bt485.2.2.2.2.2.2.1, bt485.2.2.2.2.2.2.2.1, bt485.2.2.2.2.2.2.2.2.1, bt485.2.2.2.2.2.2.2.2.2.1, bt485.2.2.2.2.2.2.2.2.2.2.1, bt485.2.2.2.2.2.2.2.2.2.2.2.1, bt485.2.2.2.2.2.2.2.2.2.2.2.2))) else (dowelref04_count.j0 k a0 a1 bt453.1 bt470.2 bt470.1)))))) else (dowelref04_count.j0 k a0 a1 bt453.1 bt453.2 bt453.1))))) = some (r1, r2, r3, r4, r5, r6, r7, r8, r9, r10, r11, r12, r13) := h
 clear h; replace H := Option.bind_eq_some_iff.mp H
 obtain ⟨⟨t453, t454⟩, A30, H⟩ := H
 replace H : (if t454 = (wrap64 (a1 + 1)) then ((dowelref04_fault.f a1 43).bind fun bt455 => (some (bt455.1, bt455.2.1, bt455.2.2.1, bt455.2.2.2.1, bt455.2.2.2.2.1, bt455.2.2.2.2.2.1, bt455.2.2.2.2.2.2.1, bt455.2.2.2.2.2.2.2.1, bt455.2.2.2.2.2.2.2.2.1, bt455.2.2.2.2.2.2.2.2.2.1, bt455.2.2.2.2.2.2.2.2.2.2.1, bt455.2.2.2.2.2.2.2.2.2.2.2.1, bt455.2.2.2.2.2.2.2.2.2.2.2.2))) else ((dowelref04_at.f a0 t454 44).bind fun t468 => (if t468 = true then ((dowelref04_at.f a0 (wrap64 (t454 + 1)) 125).bind fun t469 => (if t469 = true then (dowelref04_count.j0 k a0 a1 t453 (wrap64 (t454 + 1)) (-1)) else ((dowelref04_number.f k a0 (wrap64 (t454 + 1))).bind fun bt470 => (if bt470.2 = (wrap64 (t454 + 1)) then ((dowelref04_fault.f a1 43).bind fun bt472 => (some (bt472.1, bt472.2.1, bt472.2.2.1, bt472.2.2.2.1, bt472.2.2.2.2.1, bt472.2.2.2.2.2.1, bt472.2.2.2.2.2.2.1, bt472.2.2.2.2.2.2.2.1, bt472.2.2.2.2.2.2.2.2.1, bt472.2.2.2.2.2.2.2.2.2.1, bt472.2.2.2.2.2.2.2.2.2.2.1, bt472.2.2.2.2.2.2.2.2.2.2.2.1, bt472.2.2.2.2.2.2.2.2.2.2.2.2))) else (if bt470.1 < t453 then ((dowelref04_fault.f a1 43).bind fun bt485 => (some (bt485.1, bt485.2.1, bt485.2.2.1, bt485.2.2.2.1, bt485.2.2.2.2.1, bt485.2.2.2.2.2.1, bt485.2.2.2.2.2.2.1, bt485.2.2.2.2.2.2.2.1, bt485.2.2.2.2.2.2.2.2.1, bt485.2.2.2.2.2.2.2.2.2.1, bt485.2.2.2.2.2.2.2.2.2.2.1, bt485.2.2.2.2.2.2.2.2.2.2.2.1, bt485.2.2.2.2.2.2.2.2.2.2.2.2))) else (dowelref04_count.j0 k a0 a1 t453 bt470.2 bt470.1)))))) else (dowelref04_count.j0 k a0 a1 t453 t454 t453)))) = some (r1, r2, r3, r4, r5, r6, r7, r8, r9, r10, r11, r12, r13) := H
 have A3 := Aside0.mk A30; clear A30
 by_cases c4 : t454 = (wrap64 (a1 + 1))
 · rw [if_pos c4] at H
   have c4b0 : (t454 == (wrap64 (a1 + 1))) = true := beq_iff_eq.mpr c4
   have c4b1 : (t454 != (wrap64 (a1 + 1))) = false := bne_eq_false_iff_eq.mpr c4
   clear c4; replace H := Option.bind_eq_some_iff.mp H
   obtain ⟨⟨t455, t456, t457, t458, t459, t460, t461, t462, t463, t464, t465, t466, t467⟩, A50, H⟩ := H
   replace H : (some (t455, t456, t457, t458, t459, t460, t461, t462, t463, t464, t465, t466, t467)) = some (r1, r2, r3, r4, r5, r6, r7, r8, r9, r10, r11, r12, r13) := H
   have A5 := Aside0.mk A50; clear A50
   simp only [Option.some.injEq, Prod.mk.injEq] at H
   obtain ⟨rfl, rfl, rfl, rfl, rfl, rfl, rfl, rfl, rfl, rfl, rfl, rfl, rfl⟩ := H
   go_enter Try.func46, Try.ntmps46
   go_wp2_with (first | ((with_reducible refine gate_dst (N := 4) rfl ?_); refine Q61 ?hg (N := 4) ?hd (cs := #[.int .i64 0, .int .i64 0, .int .i64 0, .string (⟨#[]⟩ : ByteArray), .bool false, .int .u64 0, .int .u64 0, .int .u64 0, .int .u64 0, .int .i64 0, .int .i64 0]) (t := 28) ?hr ?_; (case hd => rfl); (case hg => rfl); (case hr => first | (go_simp; done) | (go_simp; rfl)); intro gb451 hg w6 hbox hb; have n0_ := Aside0.mk (Q52 (by repeat (first | (with_reducible first | exact HB.out | apply Q46 | apply Q43 | apply Q45) | exact HB.out)) hb); have n1_ := Aside0.mk (hbox); have n2_ := Aside0.mk ((by rw [hg]; exact (Q55 (by repeat (first | (with_reducible first | exact HB.out | apply Q46 | apply Q43 | apply Q45) | exact HB.out))) : w.heap.size ≤ gb451)); have n3_ := n2_; clear HB; have HB := n0_; have BK451 := n1_; have GW451 := n2_; have GE451 := n3_; clear n0_ n1_ n2_ n3_; clear hb hbox hg) | ((with_reducible refine gate_dst (N := 5) rfl ?_); refine Q61 ?hg (N := 5) ?hd (cs := #[.int .i64 0, .int .i64 0]) (t := 35) ?hr ?_; (case hd => rfl); (case hg => rfl); (case hr => first | (go_simp; done) | (go_simp; rfl)); intro gb452 hg w7 hbox hb; have n0_ := Aside0.mk (Q48 (g := gb451) (by (with_reducible repeat (first | apply Q35 | apply Q40 | apply Q37)); exact BK451.out) hb); have n1_ := Aside0.mk (Q52 (by repeat (first | (with_reducible first | exact HB.out | apply Q46 | apply Q43 | apply Q45 | refine Q44 ?_ GE451.out) | exact HB.out)) hb); have n2_ := Aside0.mk (hbox); have n3_ := Aside0.mk ((by rw [hg]; exact (Q55 (by repeat (first | (with_reducible first | exact HB.out | apply Q46 | apply Q43 | apply Q45 | refine Q44 ?_ GE451.out) | exact HB.out))) : w.heap.size ≤ gb452)); have n4_ := n3_; have n5_ := Aside0.mk ((by rw [hg]; exact Nat.ne_of_lt (blk_lt (g := gb451) (by (with_reducible repeat (first | apply Q35 | apply Q40 | apply Q37)); exact BK451.out)) : gb451 ≠ gb452)); have n6_ := Aside0.mk ((by rw [hg]; exact Nat.ne_of_gt (blk_lt (g := gb451) (by (with_reducible repeat (first | apply Q35 | apply Q40 | apply Q37)); exact BK451.out)) : gb452 ≠ gb451)); clear BK451; clear HB; have BK451 := n0_; have HB := n1_; have BK452 := n2_; have GW452 := n3_; have GE452 := n4_; have NB451_452 := n5_; have NB452_451 := n6_; clear n0_ n1_ n2_ n3_ n4_ n5_ n6_; clear hb hbox hg) | ((with_reducible refine Q51 (f := 59) rfl ?_); refine goesL_ (some 14) rfl rfl Try.func59 (by kernel_rfl) rfl #[.string a0, .int .i64 (wrap64 (a1 + 1))] rfl (by (try simp only [List.map_toArray, List.map_cons, List.map_nil]); first | done | rfl | (simp only [List.length_drop, List.length_take]; rfl)) ?_; (with_reducible refine (dowelref04_number.calls k a0 (wrap64 (a1 + 1)) t453 t454 _ A3.out).mono ?_); rintro e w' ⟨rfl, ⟨nd, rfl⟩⟩; refine ⟨_, rfl, ?_⟩; (try (rw [drewN_self w7]; generalize hq_ : World.drewN w7 _ = w7; have n0_ : Aside0 (w7.heap[gb451]? = some (.cells #[.int .i64 0, .int .i64 0, .int .i64 0, .string (⟨#[]⟩ : ByteArray), .bool false, .int .u64 0, .int .u64 0, .int .u64 0, .int .u64 0, .int .i64 0, .int .i64 0] 28 (0, 0))) := ⟨by rw [← hq_]; exact (by (with_reducible repeat (first | apply Q35 | apply Q40 | apply Q37)); exact BK451.out)⟩; have n1_ : Aside0 (w7.heap[gb452]? = some (.cells #[.int .i64 0, .int .i64 0] 35 (0, 0))) := ⟨by rw [← hq_]; exact (by (with_reducible repeat (first | apply Q35 | apply Q40 | apply Q37)); exact BK452.out)⟩; have n2_ : Aside0 (Below w.heap.size w w7) := ⟨by rw [← hq_]; exact (by repeat (first | (with_reducible first | exact HB.out | apply Q46 | apply Q43 | apply Q45 | refine Q44 ?_ GE451.out | refine Q44 ?_ GE452.out) | exact HB.out))⟩; clear BK451 BK452 HB hq_; have BK451 := n0_; have BK452 := n1_; have HB := n2_; clear n0_ n1_ n2_))) | ((with_reducible refine Q51 (f := 23) rfl ?_); refine goesL_ (some 22) rfl rfl Try.func23 (by kernel_rfl) rfl #[.int .i64 a1, .int .i64 43] rfl (by (try simp only [List.map_toArray, List.map_cons, List.map_nil]); first | done | rfl | (simp only [List.length_drop, List.length_take]; rfl)) ?_; (with_reducible refine (dowelref04_fault.calls a1 43 t455 t456 t457 t458 t459 t460 t461 t462 t463 t464 t465 t466 t467 _ A5.out).mono ?_); rintro e w8 ⟨rfl, hb⟩; refine ⟨_, rfl, ?_⟩; have n0_ := Aside0.mk (Q48 (g := gb451) (by (with_reducible repeat (first | apply Q35 | apply Q40 | apply Q37)); exact BK451.out) hb); have n1_ := Aside0.mk (Q48 (g := gb452) (by (with_reducible repeat (first | apply Q35 | apply Q40 | apply Q37)); exact BK452.out) hb); have n2_ := Aside0.mk (Q52 (by repeat (first | (with_reducible first | exact HB.out | apply Q46 | apply Q43 | apply Q45 | refine Q44 ?_ GE451.out | refine Q44 ?_ GE452.out) | exact HB.out)) hb); clear BK451; clear BK452; clear HB; have BK451 := n0_; have BK452 := n1_; have HB := n2_; clear n0_ n1_ n2_; (try clear hb); (try clear hb2); (try clear hk); (try clear hi); have hnb9 := NB451_452.out; have hnc9 := NB452_451.out; obtain ⟨hcz10_0, hcz10_1, hcz10_2, hcz10_3, hcz10_4, hcz10_5, hcz10_6, hcz10_7, hcz10_8, hcz10_9, hcz10_10, hfz10_0, hfz10_1, hfz10_2, hfz10_3, hfz10_4, hfz10_5, hfz10_6, hfz10_7, hfz10_8, hfz10_9, hfz10_10⟩ := Q54 BK451.out; obtain ⟨hcz11_0, hcz11_1, hfz11_0, hfz11_1⟩ := Q56 BK452.out))
   refine bodyPost_ret (Q58 rfl _ _ gb451 gb452 28 35 #[.int .i64 t455, .int .i64 t456, .int .i64 t457, .string t458, .bool t459, .int .u64 t460, .int .u64 t461, .int .u64 t462, .int .u64 t463, .int .i64 t464, .int .i64 t465] #[.int .i64 t466, .int .i64 t467] (0, 0) (0, 0) _ _ rfl (by (with_reducible repeat (first | apply Q35 | apply Q40 | apply Q37)); refine blk_far2 ?_ NB451_452.out; (with_reducible repeat (first | apply Q35 | apply Q40 | apply Q37)); apply Q62; (with_reducible repeat (first | apply Q35 | apply Q40 | apply Q37)); exact BK451.out) Try.underlying28 rfl (by kernel_rfl) rfl (by (with_reducible repeat (first | apply Q35 | apply Q40 | apply Q37)); apply blk_put2; (with_reducible repeat (first | apply Q35 | apply Q40 | apply Q37)); refine Q59 ?_ NB452_451.out; (with_reducible repeat (first | apply Q35 | apply Q40 | apply Q37)); exact BK452.out) Try.underlying35 rfl (by kernel_rfl)) rfl ?_
   exact ⟨by first | rfl | (simp [Q50, Q49] <;> rfl) | (simp [*, Q50, Q49] <;> rfl), by repeat (first | (with_reducible first | exact HB.out | apply Q46 | apply Q43 | apply Q45 | refine Q44 ?_ GE451.out | refine Q44 ?_ GE452.out) | exact HB.out)⟩
 rw [if_neg c4] at H
 have c4b0 : (t454 == (wrap64 (a1 + 1))) = false := beq_eq_false_iff_ne.mpr c4
 have c4b1 : (t454 != (wrap64 (a1 + 1))) = true := bne_iff_ne.mpr c4
 replace H := Option.bind_eq_some_iff.mp H
 obtain ⟨t468, A120, H⟩ := H
 replace H : (if t468 = true then ((dowelref04_at.f a0 (wrap64 (t454 + 1)) 125).bind fun t469 => (if t469 = true then (dowelref04_count.j0 k a0 a1 t453 (wrap64 (t454 + 1)) (-1)) else ((dowelref04_number.f k a0 (wrap64 (t454 + 1))).bind fun bt470 => (if bt470.2 = (wrap64 (t454 + 1)) then ((dowelref04_fault.f a1 43).bind fun bt472 => (some (bt472.1, bt472.2.1, bt472.2.2.1, bt472.2.2.2.1, bt472.2.2.2.2.1, bt472.2.2.2.2.2.1, bt472.2.2.2.2.2.2.1, bt472.2.2.2.2.2.2.2.1, bt472.2.2.2.2.2.2.2.2.1, bt472.2.2.2.2.2.2.2.2.2.1, bt472.2.2.2.2.2.2.2.2.2.2.1, bt472.2.2.2.2.2.2.2.2.2.2.2.1, bt472.2.2.2.2.2.2.2.2.2.2.2.2))) else (if bt470.1 < t453 then ((dowelref04_fault.f a1 43).bind fun bt485 => (some (bt485.1, bt485.2.1, bt485.2.2.1, bt485.2.2.2.1, bt485.2.2.2.2.1, bt485.2.2.2.2.2.1, bt485.2.2.2.2.2.2.1, bt485.2.2.2.2.2.2.2.1, bt485.2.2.2.2.2.2.2.2.1, bt485.2.2.2.2.2.2.2.2.2.1, bt485.2.2.2.2.2.2.2.2.2.2.1, bt485.2.2.2.2.2.2.2.2.2.2.2.1, bt485.2.2.2.2.2.2.2.2.2.2.2.2))) else (dowelref04_count.j0 k a0 a1 t453 bt470.2 bt470.1)))))) else (dowelref04_count.j0 k a0 a1 t453 t454 t453)) = some (r1, r2, r3, r4, r5, r6, r7, r8, r9, r10, r11, r12, r13) := H
 have A12 := Aside0.mk A120; clear A120; have HC13 := Aside0.mk H; clear H
 go_enter Try.func46, Try.ntmps46
 go_upto_if 28 with (first | ((with_reducible refine gate_dst (N := 4) rfl ?_); refine Q61 ?hg (N := 4) ?hd (cs := #[.int .i64 0, .int .i64 0, .int .i64 0, .string (⟨#[]⟩ : ByteArray), .bool false, .int .u64 0, .int .u64 0, .int .u64 0, .int .u64 0, .int .i64 0, .int .i64 0]) (t := 28) ?hr ?_; (case hd => rfl); (case hg => rfl); (case hr => first | (go_simp; done) | (go_simp; rfl)); intro gb451 hg w14 hbox hb; have n0_ := Aside0.mk (Q52 (by repeat (first | (with_reducible first | exact HB.out | apply Q46 | apply Q43 | apply Q45) | exact HB.out)) hb); have n1_ := Aside0.mk (hbox); have n2_ := Aside0.mk ((by rw [hg]; exact (Q55 (by repeat (first | (with_reducible first | exact HB.out | apply Q46 | apply Q43 | apply Q45) | exact HB.out))) : w.heap.size ≤ gb451)); have n3_ := n2_; clear HB; have HB := n0_; have BK451 := n1_; have GW451 := n2_; have GE451 := n3_; clear n0_ n1_ n2_ n3_; clear hb hbox hg) | ((with_reducible refine gate_dst (N := 5) rfl ?_); refine Q61 ?hg (N := 5) ?hd (cs := #[.int .i64 0, .int .i64 0]) (t := 35) ?hr ?_; (case hd => rfl); (case hg => rfl); (case hr => first | (go_simp; done) | (go_simp; rfl)); intro gb452 hg w15 hbox hb; have n0_ := Aside0.mk (Q48 (g := gb451) (by (with_reducible repeat (first | apply Q35 | apply Q40 | apply Q37)); exact BK451.out) hb); have n1_ := Aside0.mk (Q52 (by repeat (first | (with_reducible first | exact HB.out | apply Q46 | apply Q43 | apply Q45 | refine Q44 ?_ GE451.out) | exact HB.out)) hb); have n2_ := Aside0.mk (hbox); have n3_ := Aside0.mk ((by rw [hg]; exact (Q55 (by repeat (first | (with_reducible first | exact HB.out | apply Q46 | apply Q43 | apply Q45 | refine Q44 ?_ GE451.out) | exact HB.out))) : w.heap.size ≤ gb452)); have n4_ := n3_; have n5_ := Aside0.mk ((by rw [hg]; exact Nat.ne_of_lt (blk_lt (g := gb451) (by (with_reducible repeat (first | apply Q35 | apply Q40 | apply Q37)); exact BK451.out)) : gb451 ≠ gb452)); have n6_ := Aside0.mk ((by rw [hg]; exact Nat.ne_of_gt (blk_lt (g := gb451) (by (with_reducible repeat (first | apply Q35 | apply Q40 | apply Q37)); exact BK451.out)) : gb452 ≠ gb451)); clear BK451; clear HB; have BK451 := n0_; have HB := n1_; have BK452 := n2_; have GW452 := n3_; have GE452 := n4_; have NB451_452 := n5_; have NB452_451 := n6_; clear n0_ n1_ n2_ n3_ n4_ n5_ n6_; clear hb hbox hg) | ((with_reducible refine Q51 (f := 59) rfl ?_); refine goesL_ (some 14) rfl rfl Try.func59 (by kernel_rfl) rfl #[.string a0, .int .i64 (wrap64 (a1 + 1))] rfl (by (try simp only [List.map_toArray, List.map_cons, List.map_nil]); first | done | rfl | (simp only [List.length_drop, List.length_take]; rfl)) ?_; (with_reducible refine (dowelref04_number.calls k a0 (wrap64 (a1 + 1)) t453 t454 _ A3.out).mono ?_); rintro e w' ⟨rfl, ⟨nd, rfl⟩⟩; refine ⟨_, rfl, ?_⟩) | ((with_reducible refine Q51 (f := 60) rfl ?_); refine goesL_ (some 28) rfl rfl Try.func60 (by kernel_rfl) rfl #[.string a0, .int .i64 t454, .int .u8 44] rfl (by (try simp only [List.map_toArray, List.map_cons, List.map_nil]); first | done | rfl | (simp only [List.length_drop, List.length_take]; rfl)) ?_; (with_reducible refine (dowelref04_at.calls a0 t454 44 t468 _ A12.out).mono ?_); rintro e w' ⟨rfl, ⟨nd, rfl⟩⟩; refine ⟨_, rfl, ?_⟩))
 (try simp only [Act.put, List.setIfInBounds_toArray, List.set_cons_zero, List.set_cons_succ])
 go_cut [7, 8] (fun v7 v8 wc => ∃ (kq : Nat) (x7_12 : Int) (x8_12 : Int) (x452000_12 : Int) (x452001_12 : Int) (x452002_12 : Int) (x452003_12 : ByteArray) (x452004_12 : Bool) (x452005_12 : Int) (x452006_12 : Int) (x452007_12 : Int) (x452008_12 : Int) (x452009_12 : Int) (x452010_12 : Int) (x453000_12 : Int) (x453001_12 : Int), v7 = .int .i64 x7_12 ∧ v8 = .int .i64 x8_12 ∧ Aside0 (dowelref04_count.j0 kq a0 a1 t453 x7_12 x8_12 = some (r1, r2, r3, r4, r5, r6, r7, r8, r9, r10, r11, r12, r13)) ∧ Aside0 (kq ≤ k) ∧ Aside0 (wc.heap[gb451]? = some (.cells #[.int .i64 x452000_12, .int .i64 x452001_12, .int .i64 x452002_12, .string x452003_12, .bool x452004_12, .int .u64 x452005_12, .int .u64 x452006_12, .int .u64 x452007_12, .int .u64 x452008_12, .int .i64 x452009_12, .int .i64 x452010_12] 28 (0, 0))) ∧ Aside0 (wc.heap[gb452]? = some (.cells #[.int .i64 x453000_12, .int .i64 x453001_12] 35 (0, 0))) ∧ Aside0 (Below w.heap.size w wc))
 case first =>
  have H := HC13.out; clear HC13
  by_cases c16 : t468 = true
  · subst c16
    have H1 : ((dowelref04_at.f a0 (wrap64 (t454 + 1)) 125).bind fun t469 => (if t469 = true then (dowelref04_count.j0 k a0 a1 t453 (wrap64 (t454 + 1)) (-1)) else ((dowelref04_number.f k a0 (wrap64 (t454 + 1))).bind fun bt470 => (if bt470.2 = (wrap64 (t454 + 1)) then ((dowelref04_fault.f a1 43).bind fun bt472 => (some (bt472.1, bt472.2.1, bt472.2.2.1, bt472.2.2.2.1, bt472.2.2.2.2.1, bt472.2.2.2.2.2.1, bt472.2.2.2.2.2.2.1, bt472.2.2.2.2.2.2.2.1, bt472.2.2.2.2.2.2.2.2.1, bt472.2.2.2.2.2.2.2.2.2.1, bt472.2.2.2.2.2.2.2.2.2.2.1, bt472.2.2.2.2.2.2.2.2.2.2.2.1, bt472.2.2.2.2.2.2.2.2.2.2.2.2))) else (if bt470.1 < t453 then ((dowelref04_fault.f a1 43).bind fun bt485 => (some (bt485.1, bt485.2.1, bt485.2.2.1, bt485.2.2.2.1, bt485.2.2.2.2.1, bt485.2.2.2.2.2.1, bt485.2.2.2.2.2.2.1, bt485.2.2.2.2.2.2.2.1, bt485.2.2.2.2.2.2.2.2.1, bt485.2.2.2.2.2.2.2.2.2.1, bt485.2.2.2.2.2.2.2.2.2.2.1, bt485.2.2.2.2.2.2.2.2.2.2.2.1, bt485.2.2.2.2.2.2.2.2.2.2.2.2))) else (dowelref04_count.j0 k a0 a1 t453 bt470.2 bt470.1)))))) = some (r1, r2, r3, r4, r5, r6, r7, r8, r9, r10, r11, r12, r13) := by rw [if_pos rfl] at H; exact H
    clear H; have H := H1; clear H1; replace H := Option.bind_eq_some_iff.mp H
    obtain ⟨t469, A170, H⟩ := H
    replace H : (if t469 = true then (dowelref04_count.j0 k a0 a1 t453 (wrap64 (t454 + 1)) (-1)) else ((dowelref04_number.f k a0 (wrap64 (t454 + 1))).bind fun bt470 => (if bt470.2 = (wrap64 (t454 + 1)) then ((dowelref04_fault.f a1 43).bind fun bt472 => (some (bt472.1, bt472.2.1, bt472.2.2.1, bt472.2.2.2.1, bt472.2.2.2.2.1, bt472.2.2.2.2.2.1, bt472.2.2.2.2.2.2.1, bt472.2.2.2.2.2.2.2.1, bt472.2.2.2.2.2.2.2.2.1, bt472.2.2.2.2.2.2.2.2.2.1, bt472.2.2.2.2.2.2.2.2.2.2.1, bt472.2.2.2.2.2.2.2.2.2.2.2.1, bt472.2.2.2.2.2.2.2.2.2.2.2.2))) else (if bt470.1 < t453 then ((dowelref04_fault.f a1 43).bind fun bt485 => (some (bt485.1, bt485.2.1, bt485.2.2.1, bt485.2.2.2.1, bt485.2.2.2.2.1, bt485.2.2.2.2.2.1, bt485.2.2.2.2.2.2.1, bt485.2.2.2.2.2.2.2.1, bt485.2.2.2.2.2.2.2.2.1, bt485.2.2.2.2.2.2.2.2.2.1, bt485.2.2.2.2.2.2.2.2.2.2.1, bt485.2.2.2.2.2.2.2.2.2.2.2.1, bt485.2.2.2.2.2.2.2.2.2.2.2.2))) else (dowelref04_count.j0 k a0 a1 t453 bt470.2 bt470.1))))) = some (r1, r2, r3, r4, r5, r6, r7, r8, r9, r10, r11, r12, r13) := H
    have A17 := Aside0.mk A170; clear A170
    by_cases c18 : t469 = true
    · subst c18
      have H1 : (dowelref04_count.j0 k a0 a1 t453 (wrap64 (t454 + 1)) (-1)) = some (r1, r2, r3, r4, r5, r6, r7, r8, r9, r10, r11, r12, r13) := by rw [if_pos rfl] at H; exact H
      clear H; have H := H1; clear H1; have H' := Aside0.mk H; clear H
      go_wp2_with (first | ((with_reducible refine Q51 (f := 60) rfl ?_); refine goesL_ (some 33) rfl rfl Try.func60 (by kernel_rfl) rfl #[.string a0, .int .i64 (wrap64 (t454 + 1)), .int .u8 125] rfl (by (try simp only [List.map_toArray, List.map_cons, List.map_nil]); first | done | rfl | (simp only [List.length_drop, List.length_take]; rfl)) ?_; (with_reducible refine (dowelref04_at.calls a0 (wrap64 (t454 + 1)) 125 true _ A17.out).mono ?_); rintro e w' ⟨rfl, ⟨nd, rfl⟩⟩; refine ⟨_, rfl, ?_⟩))
      go_meet
      case rel => exact ⟨_, (wrap64 (t454 + 1)), ((-1)), (0), (0), (0), ((⟨#[]⟩ : ByteArray)), (false), (0), (0), (0), (0), (0), (0), (0), (0), (by first | rfl | (simp; done) | (simp [*]; done)), (by first | rfl | (simp; done) | (simp [*]; done)), H', ⟨by first | omega | exact Nat.le_refl _⟩, ⟨by (with_reducible repeat (first | apply Q35 | apply Q40 | apply Q37)); exact BK451.out⟩, ⟨by (with_reducible repeat (first | apply Q35 | apply Q40 | apply Q37)); exact BK452.out⟩, ⟨by repeat (first | (with_reducible first | exact HB.out | apply Q46 | apply Q43 | apply Q45 | refine Q44 ?_ GE451.out | refine Q44 ?_ GE452.out) | exact HB.out)⟩⟩
    replace c18 := Bool.eq_false_iff.mpr c18; subst c18
    have H1 : ((dowelref04_number.f k a0 (wrap64 (t454 + 1))).bind fun bt470 => (if bt470.2 = (wrap64 (t454 + 1)) then ((dowelref04_fault.f a1 43).bind fun bt472 => (some (bt472.1, bt472.2.1, bt472.2.2.1, bt472.2.2.2.1, bt472.2.2.2.2.1, bt472.2.2.2.2.2.1, bt472.2.2.2.2.2.2.1, bt472.2.2.2.2.2.2.2.1, bt472.2.2.2.2.2.2.2.2.1, bt472.2.2.2.2.2.2.2.2.2.1, bt472.2.2.2.2.2.2.2.2.2.2.1, bt472.2.2.2.2.2.2.2.2.2.2.2.1, bt472.2.2.2.2.2.2.2.2.2.2.2.2))) else (if bt470.1 < t453 then ((dowelref04_fault.f a1 43).bind fun bt485 => (some (bt485.1, bt485.2.1, bt485.2.2.1, bt485.2.2.2.1, bt485.2.2.2.2.1, bt485.2.2.2.2.2.1, bt485.2.2.2.2.2.2.1, bt485.2.2.2.2.2.2.2.1, bt485.2.2.2.2.2.2.2.2.1, bt485.2.2.2.2.2.2.2.2.2.1, bt485.2.2.2.2.2.2.2.2.2.2.1, bt485.2.2.2.2.2.2.2.2.2.2.2.1, bt485.2.2.2.2.2.2.2.2.2.2.2.2))) else (dowelref04_count.j0 k a0 a1 t453 bt470.2 bt470.1)))) = some (r1, r2, r3, r4, r5, r6, r7, r8, r9, r10, r11, r12, r13) := by rw [if_neg (show ¬ (false = true) by decide)] at H; exact H
    clear H; have H := H1; clear H1; replace H := Option.bind_eq_some_iff.mp H
    obtain ⟨⟨t470, t471⟩, A190, H⟩ := H
    replace H : (if t471 = (wrap64 (t454 + 1)) then ((dowelref04_fault.f a1 43).bind fun bt472 => (some (bt472.1, bt472.2.1, bt472.2.2.1, bt472.2.2.2.1, bt472.2.2.2.2.1, bt472.2.2.2.2.2.1, bt472.2.2.2.2.2.2.1, bt472.2.2.2.2.2.2.2.1, bt472.2.2.2.2.2.2.2.2.1, bt472.2.2.2.2.2.2.2.2.2.1, bt472.2.2.2.2.2.2.2.2.2.2.1, bt472.2.2.2.2.2.2.2.2.2.2.2.1, bt472.2.2.2.2.2.2.2.2.2.2.2.2))) else (if t470 < t453 then ((dowelref04_fault.f a1 43).bind fun bt485 => (some (bt485.1, bt485.2.1, bt485.2.2.1, bt485.2.2.2.1, bt485.2.2.2.2.1, bt485.2.2.2.2.2.1, bt485.2.2.2.2.2.2.1, bt485.2.2.2.2.2.2.2.1, bt485.2.2.2.2.2.2.2.2.1, bt485.2.2.2.2.2.2.2.2.2.1, bt485.2.2.2.2.2.2.2.2.2.2.1, bt485.2.2.2.2.2.2.2.2.2.2.2.1, bt485.2.2.2.2.2.2.2.2.2.2.2.2))) else (dowelref04_count.j0 k a0 a1 t453 t471 t470))) = some (r1, r2, r3, r4, r5, r6, r7, r8, r9, r10, r11, r12, r13) := H
    have A19 := Aside0.mk A190; clear A190
    by_cases c20 : t471 = (wrap64 (t454 + 1))
    · rw [if_pos c20] at H
      have c20b0 : (t471 == (wrap64 (t454 + 1))) = true := beq_iff_eq.mpr c20
      have c20b1 : (t471 != (wrap64 (t454 + 1))) = false := bne_eq_false_iff_eq.mpr c20
      clear c20
      (first | rw [c20b0] | (simp only [i64_w, i32_w]; rw [c20b0]) | skip)
      replace H := Option.bind_eq_some_iff.mp H
      obtain ⟨⟨t472, t473, t474, t475, t476, t477, t478, t479, t480, t481, t482, t483, t484⟩, A210, H⟩ := H
      replace H : (some (t472, t473, t474, t475, t476, t477, t478, t479, t480, t481, t482, t483, t484)) = some (r1, r2, r3, r4, r5, r6, r7, r8, r9, r10, r11, r12, r13) := H
      have A21 := Aside0.mk A210; clear A210
      simp only [Option.some.injEq, Prod.mk.injEq] at H
      obtain ⟨rfl, rfl, rfl, rfl, rfl, rfl, rfl, rfl, rfl, rfl, rfl, rfl, rfl⟩ := H
      go_wp2_with (first | ((with_reducible refine Q51 (f := 60) rfl ?_); refine goesL_ (some 33) rfl rfl Try.func60 (by kernel_rfl) rfl #[.string a0, .int .i64 (wrap64 (t454 + 1)), .int .u8 125] rfl (by (try simp only [List.map_toArray, List.map_cons, List.map_nil]); first | done | rfl | (simp only [List.length_drop, List.length_take]; rfl)) ?_; (with_reducible refine (dowelref04_at.calls a0 (wrap64 (t454 + 1)) 125 false _ A17.out).mono ?_); rintro e w' ⟨rfl, ⟨nd, rfl⟩⟩; refine ⟨_, rfl, ?_⟩; (try (rw [drewN_self w15]; generalize hq_ : World.drewN w15 _ = w15; have n0_ : Aside0 (w15.heap[gb451]? = some (.cells #[.int .i64 0, .int .i64 0, .int .i64 0, .string (⟨#[]⟩ : ByteArray), .bool false, .int .u64 0, .int .u64 0, .int .u64 0, .int .u64 0, .int .i64 0, .int .i64 0] 28 (0, 0))) := ⟨by rw [← hq_]; exact (by (with_reducible repeat (first | apply Q35 | apply Q40 | apply Q37)); exact BK451.out)⟩; have n1_ : Aside0 (w15.heap[gb452]? = some (.cells #[.int .i64 0, .int .i64 0] 35 (0, 0))) := ⟨by rw [← hq_]; exact (by (with_reducible repeat (first | apply Q35 | apply Q40 | apply Q37)); exact BK452.out)⟩; have n2_ : Aside0 (Below w.heap.size w w15) := ⟨by rw [← hq_]; exact (by repeat (first | (with_reducible first | exact HB.out | apply Q46 | apply Q43 | apply Q45 | refine Q44 ?_ GE451.out | refine Q44 ?_ GE452.out) | exact HB.out))⟩; clear BK451 BK452 HB hq_; have BK451 := n0_; have BK452 := n1_; have HB := n2_; clear n0_ n1_ n2_))) | ((with_reducible refine Q51 (f := 59) rfl ?_); refine goesL_ (some 39) rfl rfl Try.func59 (by kernel_rfl) rfl #[.string a0, .int .i64 (wrap64 (t454 + 1))] rfl (by (try simp only [List.map_toArray, List.map_cons, List.map_nil]); first | done | rfl | (simp only [List.length_drop, List.length_take]; rfl)) ?_; (with_reducible refine (dowelref04_number.calls k a0 (wrap64 (t454 + 1)) t470 t471 _ A19.out).mono ?_); rintro e w' ⟨rfl, ⟨nd, rfl⟩⟩; refine ⟨_, rfl, ?_⟩; (try (rw [drewN_self w15]; generalize hq_ : World.drewN w15 _ = w15; have n0_ : Aside0 (w15.heap[gb451]? = some (.cells #[.int .i64 0, .int .i64 0, .int .i64 0, .string (⟨#[]⟩ : ByteArray), .bool false, .int .u64 0, .int .u64 0, .int .u64 0, .int .u64 0, .int .i64 0, .int .i64 0] 28 (0, 0))) := ⟨by rw [← hq_]; exact (by (with_reducible repeat (first | apply Q35 | apply Q40 | apply Q37)); exact BK451.out)⟩; have n1_ : Aside0 (w15.heap[gb452]? = some (.cells #[.int .i64 0, .int .i64 0] 35 (0, 0))) := ⟨by rw [← hq_]; exact (by (with_reducible repeat (first | apply Q35 | apply Q40 | apply Q37)); exact BK452.out)⟩; have n2_ : Aside0 (Below w.heap.size w w15) := ⟨by rw [← hq_]; exact (by repeat (first | (with_reducible first | exact HB.out | apply Q46 | apply Q43 | apply Q45 | refine Q44 ?_ GE451.out | refine Q44 ?_ GE452.out) | exact HB.out))⟩; clear BK451 BK452 HB hq_; have BK451 := n0_; have BK452 := n1_; have HB := n2_; clear n0_ n1_ n2_))) | ((with_reducible refine Q51 (f := 23) rfl ?_); refine goesL_ (some 51) rfl rfl Try.func23 (by kernel_rfl) rfl #[.int .i64 a1, .int .i64 43] rfl (by (try simp only [List.map_toArray, List.map_cons, List.map_nil]); first | done | rfl | (simp only [List.length_drop, List.length_take]; rfl)) ?_; (with_reducible refine (dowelref04_fault.calls a1 43 t472 t473 t474 t475 t476 t477 t478 t479 t480 t481 t482 t483 t484 _ A21.out).mono ?_); rintro e w22 ⟨rfl, hb⟩; refine ⟨_, rfl, ?_⟩; have n0_ := Aside0.mk (Q48 (g := gb451) (by (with_reducible repeat (first | apply Q35 | apply Q40 | apply Q37)); exact BK451.out) hb); have n1_ := Aside0.mk (Q48 (g := gb452) (by (with_reducible repeat (first | apply Q35 | apply Q40 | apply Q37)); exact BK452.out) hb); have n2_ := Aside0.mk (Q52 (by repeat (first | (with_reducible first | exact HB.out | apply Q46 | apply Q43 | apply Q45 | refine Q44 ?_ GE451.out | refine Q44 ?_ GE452.out) | exact HB.out)) hb); clear BK451; clear BK452; clear HB; have BK451 := n0_; have BK452 := n1_; have HB := n2_; clear n0_ n1_ n2_; (try clear hb); (try clear hb2); (try clear hk); (try clear hi); have hnb23 := NB451_452.out; have hnc23 := NB452_451.out; obtain ⟨hcz24_0, hcz24_1, hcz24_2, hcz24_3, hcz24_4, hcz24_5, hcz24_6, hcz24_7, hcz24_8, hcz24_9, hcz24_10, hfz24_0, hfz24_1, hfz24_2, hfz24_3, hfz24_4, hfz24_5, hfz24_6, hfz24_7, hfz24_8, hfz24_9, hfz24_10⟩ := Q54 BK451.out; obtain ⟨hcz25_0, hcz25_1, hfz25_0, hfz25_1⟩ := Q56 BK452.out))
      refine bodyPost_ret (Q58 rfl _ _ gb451 gb452 28 35 #[.int .i64 t472, .int .i64 t473, .int .i64 t474, .string t475, .bool t476, .int .u64 t477, .int .u64 t478, .int .u64 t479, .int .u64 t480, .int .i64 t481, .int .i64 t482] #[.int .i64 t483, .int .i64 t484] (0, 0) (0, 0) _ _ rfl (by (with_reducible repeat (first | apply Q35 | apply Q40 | apply Q37)); refine blk_far2 ?_ NB451_452.out; (with_reducible repeat (first | apply Q35 | apply Q40 | apply Q37)); apply Q62; (with_reducible repeat (first | apply Q35 | apply Q40 | apply Q37)); exact BK451.out) Try.underlying28 rfl (by kernel_rfl) rfl (by (with_reducible repeat (first | apply Q35 | apply Q40 | apply Q37)); apply blk_put2; (with_reducible repeat (first | apply Q35 | apply Q40 | apply Q37)); refine Q59 ?_ NB452_451.out; (with_reducible repeat (first | apply Q35 | apply Q40 | apply Q37)); exact BK452.out) Try.underlying35 rfl (by kernel_rfl)) rfl ?_
      exact ⟨by first | rfl | (simp [Q50, Q49] <;> rfl) | (simp [*, Q50, Q49] <;> rfl), by repeat (first | (with_reducible first | exact HB.out | apply Q46 | apply Q43 | apply Q45 | refine Q44 ?_ GE451.out | refine Q44 ?_ GE452.out) | exact HB.out)⟩
    rw [if_neg c20] at H
    have c20b0 : (t471 == (wrap64 (t454 + 1))) = false := beq_eq_false_iff_ne.mpr c20
    have c20b1 : (t471 != (wrap64 (t454 + 1))) = true := bne_iff_ne.mpr c20
    (first | rw [c20b0] | (simp only [i64_w, i32_w]; rw [c20b0]) | skip)
    by_cases c26 : t470 < t453
    · rw [if_pos c26] at H
      have c26b0 : decide (t470 < t453) = true := decide_eq_true c26
      clear c26; replace H := Option.bind_eq_some_iff.mp H
      obtain ⟨⟨t485, t486, t487, t488, t489, t490, t491, t492, t493, t494, t495, t496, t497⟩, A270, H⟩ := H
      replace H : (some (t485, t486, t487, t488, t489, t490, t491, t492, t493, t494, t495, t496, t497)) = some (r1, r2, r3, r4, r5, r6, r7, r8, r9, r10, r11, r12, r13) := H
      have A27 := Aside0.mk A270; clear A270
      simp only [Option.some.injEq, Prod.mk.injEq] at H
      obtain ⟨rfl, rfl, rfl, rfl, rfl, rfl, rfl, rfl, rfl, rfl, rfl, rfl, rfl⟩ := H
      go_wp2_with (first | ((with_reducible refine Q51 (f := 60) rfl ?_); refine goesL_ (some 33) rfl rfl Try.func60 (by kernel_rfl) rfl #[.string a0, .int .i64 (wrap64 (t454 + 1)), .int .u8 125] rfl (by (try simp only [List.map_toArray, List.map_cons, List.map_nil]); first | done | rfl | (simp only [List.length_drop, List.length_take]; rfl)) ?_; (with_reducible refine (dowelref04_at.calls a0 (wrap64 (t454 + 1)) 125 false _ A17.out).mono ?_); rintro e w' ⟨rfl, ⟨nd, rfl⟩⟩; refine ⟨_, rfl, ?_⟩; (try (rw [drewN_self w15]; generalize hq_ : World.drewN w15 _ = w15; have n0_ : Aside0 (w15.heap[gb451]? = some (.cells #[.int .i64 0, .int .i64 0, .int .i64 0, .string (⟨#[]⟩ : ByteArray), .bool false, .int .u64 0, .int .u64 0, .int .u64 0, .int .u64 0, .int .i64 0, .int .i64 0] 28 (0, 0))) := ⟨by rw [← hq_]; exact (by (with_reducible repeat (first | apply Q35 | apply Q40 | apply Q37)); exact BK451.out)⟩; have n1_ : Aside0 (w15.heap[gb452]? = some (.cells #[.int .i64 0, .int .i64 0] 35 (0, 0))) := ⟨by rw [← hq_]; exact (by (with_reducible repeat (first | apply Q35 | apply Q40 | apply Q37)); exact BK452.out)⟩; have n2_ : Aside0 (Below w.heap.size w w15) := ⟨by rw [← hq_]; exact (by repeat (first | (with_reducible first | exact HB.out | apply Q46 | apply Q43 | apply Q45 | refine Q44 ?_ GE451.out | refine Q44 ?_ GE452.out) | exact HB.out))⟩; clear BK451 BK452 HB hq_; have BK451 := n0_; have BK452 := n1_; have HB := n2_; clear n0_ n1_ n2_))) | ((with_reducible refine Q51 (f := 59) rfl ?_); refine goesL_ (some 39) rfl rfl Try.func59 (by kernel_rfl) rfl #[.string a0, .int .i64 (wrap64 (t454 + 1))] rfl (by (try simp only [List.map_toArray, List.map_cons, List.map_nil]); first | done | rfl | (simp only [List.length_drop, List.length_take]; rfl)) ?_; (with_reducible refine (dowelref04_number.calls k a0 (wrap64 (t454 + 1)) t470 t471 _ A19.out).mono ?_); rintro e w' ⟨rfl, ⟨nd, rfl⟩⟩; refine ⟨_, rfl, ?_⟩; (try (rw [drewN_self w15]; generalize hq_ : World.drewN w15 _ = w15; have n0_ : Aside0 (w15.heap[gb451]? = some (.cells #[.int .i64 0, .int .i64 0, .int .i64 0, .string (⟨#[]⟩ : ByteArray), .bool false, .int .u64 0, .int .u64 0, .int .u64 0, .int .u64 0, .int .i64 0, .int .i64 0] 28 (0, 0))) := ⟨by rw [← hq_]; exact (by (with_reducible repeat (first | apply Q35 | apply Q40 | apply Q37)); exact BK451.out)⟩; have n1_ : Aside0 (w15.heap[gb452]? = some (.cells #[.int .i64 0, .int .i64 0] 35 (0, 0))) := ⟨by rw [← hq_]; exact (by (with_reducible repeat (first | apply Q35 | apply Q40 | apply Q37)); exact BK452.out)⟩; have n2_ : Aside0 (Below w.heap.size w w15) := ⟨by rw [← hq_]; exact (by repeat (first | (with_reducible first | exact HB.out | apply Q46 | apply Q43 | apply Q45 | refine Q44 ?_ GE451.out | refine Q44 ?_ GE452.out) | exact HB.out))⟩; clear BK451 BK452 HB hq_; have BK451 := n0_; have BK452 := n1_; have HB := n2_; clear n0_ n1_ n2_))) | ((with_reducible refine Q51 (f := 23) rfl ?_); refine goesL_ (some 51) rfl rfl Try.func23 (by kernel_rfl) rfl #[.int .i64 a1, .int .i64 43] rfl (by (try simp only [List.map_toArray, List.map_cons, List.map_nil]); first | done | rfl | (simp only [List.length_drop, List.length_take]; rfl)) ?_; (with_reducible refine (dowelref04_fault.calls a1 43 t485 t486 t487 t488 t489 t490 t491 t492 t493 t494 t495 t496 t497 _ A27.out).mono ?_); rintro e w28 ⟨rfl, hb⟩; refine ⟨_, rfl, ?_⟩; have n0_ := Aside0.mk (Q48 (g := gb451) (by (with_reducible repeat (first | apply Q35 | apply Q40 | apply Q37)); exact BK451.out) hb); have n1_ := Aside0.mk (Q48 (g := gb452) (by (with_reducible repeat (first | apply Q35 | apply Q40 | apply Q37)); exact BK452.out) hb); have n2_ := Aside0.mk (Q52 (by repeat (first | (with_reducible first | exact HB.out | apply Q46 | apply Q43 | apply Q45 | refine Q44 ?_ GE451.out | refine Q44 ?_ GE452.out) | exact HB.out)) hb); clear BK451; clear BK452; clear HB; have BK451 := n0_; have BK452 := n1_; have HB := n2_; clear n0_ n1_ n2_; (try clear hb); (try clear hb2); (try clear hk); (try clear hi); have hnb29 := NB451_452.out; have hnc29 := NB452_451.out; obtain ⟨hcz30_0, hcz30_1, hcz30_2, hcz30_3, hcz30_4, hcz30_5, hcz30_6, hcz30_7, hcz30_8, hcz30_9, hcz30_10, hfz30_0, hfz30_1, hfz30_2, hfz30_3, hfz30_4, hfz30_5, hfz30_6, hfz30_7, hfz30_8, hfz30_9, hfz30_10⟩ := Q54 BK451.out; obtain ⟨hcz31_0, hcz31_1, hfz31_0, hfz31_1⟩ := Q56 BK452.out))
      refine bodyPost_ret (Q58 rfl _ _ gb451 gb452 28 35 #[.int .i64 t485, .int .i64 t486, .int .i64 t487, .string t488, .bool t489, .int .u64 t490, .int .u64 t491, .int .u64 t492, .int .u64 t493, .int .i64 t494, .int .i64 t495] #[.int .i64 t496, .int .i64 t497] (0, 0) (0, 0) _ _ rfl (by (with_reducible repeat (first | apply Q35 | apply Q40 | apply Q37)); refine blk_far2 ?_ NB451_452.out; (with_reducible repeat (first | apply Q35 | apply Q40 | apply Q37)); apply Q62; (with_reducible repeat (first | apply Q35 | apply Q40 | apply Q37)); exact BK451.out) Try.underlying28 rfl (by kernel_rfl) rfl (by (with_reducible repeat (first | apply Q35 | apply Q40 | apply Q37)); apply blk_put2; (with_reducible repeat (first | apply Q35 | apply Q40 | apply Q37)); refine Q59 ?_ NB452_451.out; (with_reducible repeat (first | apply Q35 | apply Q40 | apply Q37)); exact BK452.out) Try.underlying35 rfl (by kernel_rfl)) rfl ?_
      exact ⟨by first | rfl | (simp [Q50, Q49] <;> rfl) | (simp [*, Q50, Q49] <;> rfl), by repeat (first | (with_reducible first | exact HB.out | apply Q46 | apply Q43 | apply Q45 | refine Q44 ?_ GE451.out | refine Q44 ?_ GE452.out) | exact HB.out)⟩
    rw [if_neg c26] at H
    have c26b0 : decide (t470 < t453) = false := decide_eq_false c26
    clear c26; have H' := Aside0.mk H; clear H
    go_wp2_with (first | ((with_reducible refine Q51 (f := 60) rfl ?_); refine goesL_ (some 33) rfl rfl Try.func60 (by kernel_rfl) rfl #[.string a0, .int .i64 (wrap64 (t454 + 1)), .int .u8 125] rfl (by (try simp only [List.map_toArray, List.map_cons, List.map_nil]); first | done | rfl | (simp only [List.length_drop, List.length_take]; rfl)) ?_; (with_reducible refine (dowelref04_at.calls a0 (wrap64 (t454 + 1)) 125 false _ A17.out).mono ?_); rintro e w' ⟨rfl, ⟨nd, rfl⟩⟩; refine ⟨_, rfl, ?_⟩) | ((with_reducible refine Q51 (f := 59) rfl ?_); refine goesL_ (some 39) rfl rfl Try.func59 (by kernel_rfl) rfl #[.string a0, .int .i64 (wrap64 (t454 + 1))] rfl (by (try simp only [List.map_toArray, List.map_cons, List.map_nil]); first | done | rfl | (simp only [List.length_drop, List.length_take]; rfl)) ?_; (with_reducible refine (dowelref04_number.calls k a0 (wrap64 (t454 + 1)) t470 t471 _ A19.out).mono ?_); rintro e w' ⟨rfl, ⟨nd, rfl⟩⟩; refine ⟨_, rfl, ?_⟩))
    go_meet
    case rel => exact ⟨_, (t471), (t470), (0), (0), (0), ((⟨#[]⟩ : ByteArray)), (false), (0), (0), (0), (0), (0), (0), (0), (0), (by first | rfl | (simp; done) | (simp [*]; done)), (by first | rfl | (simp; done) | (simp [*]; done)), H', ⟨by first | omega | exact Nat.le_refl _⟩, ⟨by (with_reducible repeat (first | apply Q35 | apply Q40 | apply Q37)); exact BK451.out⟩, ⟨by (with_reducible repeat (first | apply Q35 | apply Q40 | apply Q37)); exact BK452.out⟩, ⟨by repeat (first | (with_reducible first | exact HB.out | apply Q46 | apply Q43 | apply Q45 | refine Q44 ?_ GE451.out | refine Q44 ?_ GE452.out) | exact HB.out)⟩⟩
  replace c16 := Bool.eq_false_iff.mpr c16; subst c16
  have H1 : (dowelref04_count.j0 k a0 a1 t453 t454 t453) = some (r1, r2, r3, r4, r5, r6, r7, r8, r9, r10, r11, r12, r13) := by rw [if_neg (show ¬ (false = true) by decide)] at H; exact H
  clear H; have H := H1; clear H1; have H' := Aside0.mk H; clear H
  go_wp2
  go_meet
  case rel => exact ⟨_, (t454), (t453), (0), (0), (0), ((⟨#[]⟩ : ByteArray)), (false), (0), (0), (0), (0), (0), (0), (0), (0), (by first | rfl | (simp; done) | (simp [*]; done)), (by first | rfl | (simp; done) | (simp [*]; done)), H', ⟨by first | omega | exact Nat.le_refl _⟩, ⟨by (with_reducible repeat (first | apply Q35 | apply Q40 | apply Q37)); exact BK451.out⟩, ⟨by (with_reducible repeat (first | apply Q35 | apply Q40 | apply Q37)); exact BK452.out⟩, ⟨by repeat (first | (with_reducible first | exact HB.out | apply Q46 | apply Q43 | apply Q45 | refine Q44 ?_ GE451.out | refine Q44 ?_ GE452.out) | exact HB.out)⟩⟩
 case rest =>
  clear HC13; (try clear c1); (try clear c2); (try clear p2); (try clear c4); (try clear c4b0); (try clear c4b1); (try clear c5); (try clear c6); (try clear p6); (try clear c9); (try clear c16); (try clear c18); (try clear c20); (try clear c20b0); (try clear c20b1); (try clear c23); (try clear c26); (try clear c26b0); (try clear c29); (try clear hcz10_0); (try clear hcz10_1); (try clear hcz10_10); (try clear hcz10_2); (try clear hcz10_3); (try clear hcz10_4); (try clear hcz10_5); (try clear hcz10_6); (try clear hcz10_7); (try clear hcz10_8); (try clear hcz10_9); (try clear hcz11_0); (try clear hcz11_1); (try clear hcz24_0); (try clear hcz24_1); (try clear hcz24_10); (try clear hcz24_2); (try clear hcz24_3); (try clear hcz24_4); (try clear hcz24_5); (try clear hcz24_6); (try clear hcz24_7); (try clear hcz24_8); (try clear hcz24_9); (try clear hcz25_0); (try clear hcz25_1); (try clear hcz30_0); (try clear hcz30_1); (try clear hcz30_10); (try clear hcz30_2); (try clear hcz30_3); (try clear hcz30_4); (try clear hcz30_5); (try clear hcz30_6); (try clear hcz30_7); (try clear hcz30_8); (try clear hcz30_9); (try clear hcz31_0); (try clear hcz31_1); (try clear hfz10_0); (try clear hfz10_1); (try clear hfz10_10); (try clear hfz10_2); (try clear hfz10_3); (try clear hfz10_4); (try clear hfz10_5); (try clear hfz10_6); (try clear hfz10_7); (try clear hfz10_8); (try clear hfz10_9); (try clear hfz11_0); (try clear hfz11_1); (try clear hfz24_0); (try clear hfz24_1); (try clear hfz24_10); (try clear hfz24_2); (try clear hfz24_3); (try clear hfz24_4); (try clear hfz24_5); (try clear hfz24_6); (try clear hfz24_7); (try clear hfz24_8); (try clear hfz24_9); (try clear hfz25_0); (try clear hfz25_1); (try clear hfz30_0); (try clear hfz30_1); (try clear hfz30_10); (try clear hfz30_2); (try clear hfz30_3); (try clear hfz30_4); (try clear hfz30_5); (try clear hfz30_6); (try clear hfz30_7); (try clear hfz30_8); (try clear hfz30_9); (try clear hfz31_0); (try clear hfz31_1)
  obtain ⟨kq, x7_12, x8_12, x452000_12, x452001_12, x452002_12, x452003_12, x452004_12, x452005_12, x452006_12, x452007_12, x452008_12, x452009_12, x452010_12, x453000_12, x453001_12, rfl, rfl, HA, HJ12, BK451, BK452, HB⟩ := hcut
  cases kq with
  | zero => exact absurd HA.out (by simp [dowelref04_count.j0])
  | succ kj12 =>
    have H := HA.out; clear HA
    simp only [dowelref04_count.j0] at H
    replace H := Option.bind_eq_some_iff.mp H
    obtain ⟨t498, A320, H⟩ := H
    replace H : (if t498 = true then (some (9, a1, wrap64 (x7_12 + 1), (⟨#[]⟩ : ByteArray), false, 0, 0, 0, 0, t453, x8_12, 0, 0)) else ((dowelref04_fault.f a1 43).bind fun bt499 => (some (bt499.1, bt499.2.1, bt499.2.2.1, bt499.2.2.2.1, bt499.2.2.2.2.1, bt499.2.2.2.2.2.1, bt499.2.2.2.2.2.2.1, bt499.2.2.2.2.2.2.2.1, bt499.2.2.2.2.2.2.2.2.1, bt499.2.2.2.2.2.2.2.2.2.1, bt499.2.2.2.2.2.2.2.2.2.2.1, bt499.2.2.2.2.2.2.2.2.2.2.2.1, bt499.2.2.2.2.2.2.2.2.2.2.2.2)))) = some (r1, r2, r3, r4, r5, r6, r7, r8, r9, r10, r11, r12, r13) := H
    have A32 := Aside0.mk A320; clear A320
    by_cases c33 : t498 = true
    · subst c33
      have H1 : (some (9, a1, wrap64 (x7_12 + 1), (⟨#[]⟩ : ByteArray), false, 0, 0, 0, 0, t453, x8_12, 0, 0)) = some (r1, r2, r3, r4, r5, r6, r7, r8, r9, r10, r11, r12, r13) := by rw [if_pos rfl] at H; exact H
      clear H; have H := H1; clear H1
      simp only [Option.some.injEq, Prod.mk.injEq] at H
      obtain ⟨rfl, rfl, rfl, rfl, rfl, rfl, rfl, rfl, rfl, rfl, rfl, rfl, rfl⟩ := H
      go_wp2_with (first | ((with_reducible refine Q51 (f := 60) rfl ?_); refine goesL_ (some 56) rfl rfl Try.func60 (by kernel_rfl) rfl #[.string a0, .int .i64 x7_12, .int .u8 125] rfl (by (try simp only [List.map_toArray, List.map_cons, List.map_nil]); first | done | rfl | (simp only [List.length_drop, List.length_take]; rfl)) ?_; (with_reducible refine (dowelref04_at.calls a0 x7_12 125 true _ A32.out).mono ?_); rintro e w' ⟨rfl, ⟨nd, rfl⟩⟩; refine ⟨_, rfl, ?_⟩; (try (rw [drewN_self wc]; generalize hq_ : World.drewN wc _ = wc; have n0_ : Aside0 (wc.heap[gb451]? = some (.cells #[.int .i64 x452000_12, .int .i64 x452001_12, .int .i64 x452002_12, .string x452003_12, .bool x452004_12, .int .u64 x452005_12, .int .u64 x452006_12, .int .u64 x452007_12, .int .u64 x452008_12, .int .i64 x452009_12, .int .i64 x452010_12] 28 (0, 0))) := ⟨by rw [← hq_]; exact (by (with_reducible repeat (first | apply Q35 | apply Q40 | apply Q37)); exact BK451.out)⟩; have n1_ : Aside0 (wc.heap[gb452]? = some (.cells #[.int .i64 x453000_12, .int .i64 x453001_12] 35 (0, 0))) := ⟨by rw [← hq_]; exact (by (with_reducible repeat (first | apply Q35 | apply Q40 | apply Q37)); exact BK452.out)⟩; have n2_ : Aside0 (Below w.heap.size w wc) := ⟨by rw [← hq_]; exact (by repeat (first | (with_reducible first | exact HB.out | apply Q46 | apply Q43 | apply Q45 | refine Q44 ?_ GE451.out | refine Q44 ?_ GE452.out) | exact HB.out))⟩; clear BK451 BK452 HB hq_; have BK451 := n0_; have BK452 := n1_; have HB := n2_; clear n0_ n1_ n2_)); have hnb34 := NB451_452.out; have hnc34 := NB452_451.out; obtain ⟨hcz35_0, hcz35_1, hcz35_2, hcz35_3, hcz35_4, hcz35_5, hcz35_6, hcz35_7, hcz35_8, hcz35_9, hcz35_10, hfz35_0, hfz35_1, hfz35_2, hfz35_3, hfz35_4, hfz35_5, hfz35_6, hfz35_7, hfz35_8, hfz35_9, hfz35_10⟩ := Q54 BK451.out; obtain ⟨hcz36_0, hcz36_1, hfz36_0, hfz36_1⟩ := Q56 BK452.out))
      refine bodyPost_ret (Q58 rfl _ _ gb451 gb452 28 35 #[.int .i64 9, .int .i64 a1, .int .i64 (wrap64 (x7_12 + 1)), .string (⟨#[]⟩ : ByteArray), .bool false, .int .u64 0, .int .u64 0, .int .u64 0, .int .u64 0, .int .i64 t453, .int .i64 x8_12] #[.int .i64 0, .int .i64 0] (0, 0) (0, 0) _ _ rfl (by (with_reducible repeat (first | apply Q35 | apply Q40 | apply Q37)); refine blk_far2 ?_ NB451_452.out; (with_reducible repeat (first | apply Q35 | apply Q40 | apply Q37)); apply Q62; (with_reducible repeat (first | apply Q35 | apply Q40 | apply Q37)); exact BK451.out) Try.underlying28 rfl (by kernel_rfl) rfl (by (with_reducible repeat (first | apply Q35 | apply Q40 | apply Q37)); apply blk_put2; (with_reducible repeat (first | apply Q35 | apply Q40 | apply Q37)); refine Q59 ?_ NB452_451.out; (with_reducible repeat (first | apply Q35 | apply Q40 | apply Q37)); exact BK452.out) Try.underlying35 rfl (by kernel_rfl)) rfl ?_
      exact ⟨by first | rfl | (simp [Q50, Q49] <;> rfl) | (simp [*, Q50, Q49] <;> rfl), by repeat (first | (with_reducible first | exact HB.out | apply Q46 | apply Q43 | apply Q45 | refine Q44 ?_ GE451.out | refine Q44 ?_ GE452.out) | exact HB.out)⟩
    replace c33 := Bool.eq_false_iff.mpr c33; subst c33
    have H1 : ((dowelref04_fault.f a1 43).bind fun bt499 => (some (bt499.1, bt499.2.1, bt499.2.2.1, bt499.2.2.2.1, bt499.2.2.2.2.1, bt499.2.2.2.2.2.1, bt499.2.2.2.2.2.2.1, bt499.2.2.2.2.2.2.2.1, bt499.2.2.2.2.2.2.2.2.1, bt499.2.2.2.2.2.2.2.2.2.1, bt499.2.2.2.2.2.2.2.2.2.2.1, bt499.2.2.2.2.2.2.2.2.2.2.2.1, bt499.2.2.2.2.2.2.2.2.2.2.2.2))) = some (r1, r2, r3, r4, r5, r6, r7, r8, r9, r10, r11, r12, r13) := by rw [if_neg (show ¬ (false = true) by decide)] at H; exact H
    clear H; have H := H1; clear H1; replace H := Option.bind_eq_some_iff.mp H
    obtain ⟨⟨t499, t500, t501, t502, t503, t504, t505, t506, t507, t508, t509, t510, t511⟩, A370, H⟩ := H
    replace H : (some (t499, t500, t501, t502, t503, t504, t505, t506, t507, t508, t509, t510, t511)) = some (r1, r2, r3, r4, r5, r6, r7, r8, r9, r10, r11, r12, r13) := H
    have A37 := Aside0.mk A370; clear A370
    simp only [Option.some.injEq, Prod.mk.injEq] at H
    obtain ⟨rfl, rfl, rfl, rfl, rfl, rfl, rfl, rfl, rfl, rfl, rfl, rfl, rfl⟩ := H
    go_wp2_with (first | ((with_reducible refine Q51 (f := 60) rfl ?_); refine goesL_ (some 56) rfl rfl Try.func60 (by kernel_rfl) rfl #[.string a0, .int .i64 x7_12, .int .u8 125] rfl (by (try simp only [List.map_toArray, List.map_cons, List.map_nil]); first | done | rfl | (simp only [List.length_drop, List.length_take]; rfl)) ?_; (with_reducible refine (dowelref04_at.calls a0 x7_12 125 false _ A32.out).mono ?_); rintro e w' ⟨rfl, ⟨nd, rfl⟩⟩; refine ⟨_, rfl, ?_⟩; (try (rw [drewN_self wc]; generalize hq_ : World.drewN wc _ = wc; have n0_ : Aside0 (wc.heap[gb451]? = some (.cells #[.int .i64 x452000_12, .int .i64 x452001_12, .int .i64 x452002_12, .string x452003_12, .bool x452004_12, .int .u64 x452005_12, .int .u64 x452006_12, .int .u64 x452007_12, .int .u64 x452008_12, .int .i64 x452009_12, .int .i64 x452010_12] 28 (0, 0))) := ⟨by rw [← hq_]; exact (by (with_reducible repeat (first | apply Q35 | apply Q40 | apply Q37)); exact BK451.out)⟩; have n1_ : Aside0 (wc.heap[gb452]? = some (.cells #[.int .i64 x453000_12, .int .i64 x453001_12] 35 (0, 0))) := ⟨by rw [← hq_]; exact (by (with_reducible repeat (first | apply Q35 | apply Q40 | apply Q37)); exact BK452.out)⟩; have n2_ : Aside0 (Below w.heap.size w wc) := ⟨by rw [← hq_]; exact (by repeat (first | (with_reducible first | exact HB.out | apply Q46 | apply Q43 | apply Q45 | refine Q44 ?_ GE451.out | refine Q44 ?_ GE452.out) | exact HB.out))⟩; clear BK451 BK452 HB hq_; have BK451 := n0_; have BK452 := n1_; have HB := n2_; clear n0_ n1_ n2_))) | ((with_reducible refine Q51 (f := 23) rfl ?_); refine goesL_ (some 59) rfl rfl Try.func23 (by kernel_rfl) rfl #[.int .i64 a1, .int .i64 43] rfl (by (try simp only [List.map_toArray, List.map_cons, List.map_nil]); first | done | rfl | (simp only [List.length_drop, List.length_take]; rfl)) ?_; (with_reducible refine (dowelref04_fault.calls a1 43 t499 t500 t501 t502 t503 t504 t505 t506 t507 t508 t509 t510 t511 _ A37.out).mono ?_); rintro e w38 ⟨rfl, hb⟩; refine ⟨_, rfl, ?_⟩; have n0_ := Aside0.mk (Q48 (g := gb451) (by (with_reducible repeat (first | apply Q35 | apply Q40 | apply Q37)); exact BK451.out) hb); have n1_ := Aside0.mk (Q48 (g := gb452) (by (with_reducible repeat (first | apply Q35 | apply Q40 | apply Q37)); exact BK452.out) hb); have n2_ := Aside0.mk (Q52 (by repeat (first | (with_reducible first | exact HB.out | apply Q46 | apply Q43 | apply Q45 | refine Q44 ?_ GE451.out | refine Q44 ?_ GE452.out) | exact HB.out)) hb); clear BK451; clear BK452; clear HB; have BK451 := n0_; have BK452 := n1_; have HB := n2_; clear n0_ n1_ n2_; (try clear hb); (try clear hb2); (try clear hk); (try clear hi); have hnb39 := NB451_452.out; have hnc39 := NB452_451.out; obtain ⟨hcz40_0, hcz40_1, hcz40_2, hcz40_3, hcz40_4, hcz40_5, hcz40_6, hcz40_7, hcz40_8, hcz40_9, hcz40_10, hfz40_0, hfz40_1, hfz40_2, hfz40_3, hfz40_4, hfz40_5, hfz40_6, hfz40_7, hfz40_8, hfz40_9, hfz40_10⟩ := Q54 BK451.out; obtain ⟨hcz41_0, hcz41_1, hfz41_0, hfz41_1⟩ := Q56 BK452.out))
    refine bodyPost_ret (Q58 rfl _ _ gb451 gb452 28 35 #[.int .i64 t499, .int .i64 t500, .int .i64 t501, .string t502, .bool t503, .int .u64 t504, .int .u64 t505, .int .u64 t506, .int .u64 t507, .int .i64 t508, .int .i64 t509] #[.int .i64 t510, .int .i64 t511] (0, 0) (0, 0) _ _ rfl (by (with_reducible repeat (first | apply Q35 | apply Q40 | apply Q37)); refine blk_far2 ?_ NB451_452.out; (with_reducible repeat (first | apply Q35 | apply Q40 | apply Q37)); apply Q62; (with_reducible repeat (first | apply Q35 | apply Q40 | apply Q37)); exact BK451.out) Try.underlying28 rfl (by kernel_rfl) rfl (by (with_reducible repeat (first | apply Q35 | apply Q40 | apply Q37)); apply blk_put2; (with_reducible repeat (first | apply Q35 | apply Q40 | apply Q37)); refine Q59 ?_ NB452_451.out; (with_reducible repeat (first | apply Q35 | apply Q40 | apply Q37)); exact BK452.out) Try.underlying35 rfl (by kernel_rfl)) rfl ?_
    exact ⟨by first | rfl | (simp [Q50, Q49] <;> rfl) | (simp [*, Q50, Q49] <;> rfl), by repeat (first | (with_reducible first | exact HB.out | apply Q46 | apply Q43 | apply Q45 | refine Q44 ?_ GE451.out | refine Q44 ?_ GE452.out) | exact HB.out)⟩
end Go.Proofs.Ytldjdcdoegjmoaa.P
