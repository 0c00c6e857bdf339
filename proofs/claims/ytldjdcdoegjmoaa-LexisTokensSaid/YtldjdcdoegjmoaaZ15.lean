import Derived.Test.YtldjdcdoegjmoaaZ0
import Derived.Test.YtldjdcdoegjmoaaZ14
namespace Go.Proofs.Ytldjdcdoegjmoaa.P
open Go.RowKit Go.Proofs.YtldjdcdoegjmoaaW.PrintWords Go.Proofs.YtldjdcdoegjmoaaW.PrintLast Go.Proofs.YtldjdcdoegjmoaaW.PrintMore
set_option linter.unusedVariables false
set_option linter.unusedSimpArgs false
mutual
def dowelref04_escape.j0 : Nat → ByteArray → Int → Int → Bool → Option (Int × Int)
 | 0, _, _, _, _ => none
 | k + 1, x0, x1, x15, x28 => if x28 = true then (if 0 ≤ (wrap64 (x1 + 1)) then (if (wrap64 (x1 + 1)) < (x0.size : Int) then (some (bt x0 (wrap64 (x1 + 1)), wrap64 (x1 + 2))) else (none)) else (none)) else (if x15 = 120 then (if (wrap64 (x1 + 3)) < (x0.size : Int) then (if 0 ≤ (wrap64 (x1 + 2)) then (if (wrap64 (x1 + 2)) < (x0.size : Int) then ((dowelref03_Digit.f k (bt x0 (wrap64 (x1 + 2)))).bind fun t512 => (if t512 ≥ 0 then (if 0 ≤ (wrap64 (x1 + 3)) then ((dowelref03_Digit.f k (bt x0 (wrap64 (x1 + 3)))).bind fun t513 => (dowelref04_escape.j1 k x0 x1 (decide (t513 ≥ 0)))) else (none)) else (dowelref04_escape.j1 k x0 x1 false))) else (none)) else (none)) else (dowelref04_escape.j1 k x0 x1 false)) else (some (0, x1)))
def dowelref04_escape.j1 : Nat → ByteArray → Int → Bool → Option (Int × Int)
 | 0, _, _, _ => none
 | k + 1, x0, x1, x60 => if x60 = true then (if 0 ≤ (wrap64 (x1 + 2)) then (if (wrap64 (x1 + 2)) < (x0.size : Int) then ((dowelref03_Digit.f k (bt x0 (wrap64 (x1 + 2)))).bind fun t514 => (if 0 ≤ (wrap64 (x1 + 3)) then (if (wrap64 (x1 + 3)) < (x0.size : Int) then ((dowelref03_Digit.f k (bt x0 (wrap64 (x1 + 3)))).bind fun t515 => (some ((wrap64 ((wrap64 (16 * t514)) + t515)) % 256, wrap64 (x1 + 4)))) else (none)) else (none))) else (none)) else (none)) else (some (0, x1))
end
def dowelref04_escape.f (k : Nat) (a0 : ByteArray) (a1 : Int) : Option (Int × Int) := if (wrap64 (a1 + 1)) ≥ (a0.size : Int) then (some (0, a1)) else (if 0 ≤ (wrap64 (a1 + 1)) then (if (wrap64 (a1 + 1)) < (a0.size : Int) then (if (bt a0 (wrap64 (a1 + 1))) = 110 then (some (10, wrap64 (a1 + 2))) else (if (bt a0 (wrap64 (a1 + 1))) = 114 then (some (13, wrap64 (a1 + 2))) else (if (bt a0 (wrap64 (a1 + 1))) = 116 then (some (9, wrap64 (a1 + 2))) else (if (bt a0 (wrap64 (a1 + 1))) = 92 then (dowelref04_escape.j0 k a0 a1 (bt a0 (wrap64 (a1 + 1))) ((bt a0 (wrap64 (a1 + 1))) == 92)) else (if (bt a0 (wrap64 (a1 + 1))) = 39 then (dowelref04_escape.j0 k a0 a1 (bt a0 (wrap64 (a1 + 1))) ((bt a0 (wrap64 (a1 + 1))) == 39)) else (dowelref04_escape.j0 k a0 a1 (bt a0 (wrap64 (a1 + 1))) ((bt a0 (wrap64 (a1 + 1))) == 34))))))) else (none)) else (none))
set_option maxHeartbeats 8000000 in
set_option maxRecDepth 100000 in
theorem dowelref04_escape.calls (k : Nat) (a0 : ByteArray) (a1 : Int) (r1 : Int) (r2 : Int) (w : World) (h : dowelref04_escape.f k a0 a1 = some (r1, r2)) :
 Calls Try.prog 61 #[.string a0, .int .i64 a1] w fun e w' => e = .returned (.tuple #[.int .u8 r1, .int .i64 r2]) ∧ Drawn0 w w' := by
 have H : (if (wrap64 (a1 + 1)) ≥ (a0.size : Int) then (some (0, a1)) else (if 0 ≤ (wrap64 (a1 + 1)) then (if (wrap64 (a1 + 1)) < (a0.size : Int) then (if (bt a0 (wrap64 (a1 + 1))) = 110 then (some (10, wrap64 (a1 + 2))) else (if (bt a0 (wrap64 (a1 + 1))) = 114 then (some (13, wrap64 (a1 + 2))) else (if (bt a0 (wrap64 (a1 + 1))) = 116 then (some (9, wrap64 (a1 + 2))) else (if (bt a0 (wrap64 (a1 + 1))) = 92 then (dowelref04_escape.j0 k a0 a1 (bt a0 (wrap64 (a1 + 1))) ((bt a0 (wrap64 (a1 + 1))) == 92)) else (if (bt a0 (wrap64 (a1 + 1))) = 39 then (dowelref04_escape.j0 k a0 a1 (bt a0 (wrap64 (a1 + 1))) ((bt a0 (wrap64 (a1 + 1))) == 39)) else (dowelref04_escape.j0 k a0 a1 (bt a0 (wrap64 (a1 + 1))) ((bt a0 (wrap64 (a1 + 1))) == 34))))))) else (none)) else (none))) = some (r1, r2) := h
 clear h
 by_cases c3 : (wrap64 (a1 + 1)) ≥ (a0.size : Int)
 · rw [if_pos c3] at H
   have c3b0 : decide ((a0.size : Int) ≤ (wrap64 (a1 + 1))) = true := decide_eq_true c3
   clear c3
   simp only [Option.some.injEq, Prod.mk.injEq] at H
   obtain ⟨rfl, rfl⟩ := H
   go_enter Try.func61, Try.ntmps61
   go_wp2
   repeat (go_quiet (fail); try go_wp2)
   go_ret2
   exact ⟨by first | rfl | (simp; done) | (simp [*]; done), by repeat (first | exact Drawn0.refl _ | apply Drawn0.step)⟩
 rw [if_neg c3] at H
 have c3b0 : decide ((a0.size : Int) ≤ (wrap64 (a1 + 1))) = false := decide_eq_false c3
 clear c3
 obtain ⟨ji4, hji4⟩ : ∃ j_ : Int, (wrap64 (a1 + 1)) = j_ := ⟨_, rfl⟩
 replace H : (if 0 ≤ (ji4) then (if (ji4) < (a0.size : Int) then (if (bt a0 (ji4)) = 110 then (some (10, wrap64 (a1 + 2))) else (if (bt a0 (ji4)) = 114 then (some (13, wrap64 (a1 + 2))) else (if (bt a0 (ji4)) = 116 then (some (9, wrap64 (a1 + 2))) else (if (bt a0 (ji4)) = 92 then (dowelref04_escape.j0 k a0 a1 (bt a0 (ji4)) ((bt a0 (ji4)) == 92)) else (if (bt a0 (ji4)) = 39 then (dowelref04_escape.j0 k a0 a1 (bt a0 (ji4)) ((bt a0 (ji4)) == 39)) else (dowelref04_escape.j0 k a0 a1 (bt a0 (ji4)) ((bt a0 (ji4)) == 34))))))) else (none)) else (none)) = some (r1, r2) := by first | (rw [hji4] at H; exact H) | (simp only [hji4] at H ⊢; exact H)
 (try rw [hji4] at c3b0)
 have hji4w : (IntKind.i64.wrap (a1 + 1)) = ji4 := (i64_w _).trans hji4
 by_cases c5 : 0 ≤ (ji4)
 · rw [if_pos c5] at H
   have c5b0 : decide (0 ≤ (ji4)) = true := decide_eq_true c5
   clear c5
   by_cases c6 : (ji4) < (a0.size : Int)
   · rw [if_pos c6] at H
     have c6b0 : decide ((ji4) < (a0.size : Int)) = true := decide_eq_true c6
     clear c6
     by_cases c8 : (bt a0 (ji4)) = 110
     · rw [if_pos c8] at H
       have c8b0 : ((bt a0 (ji4)) == 110) = true := beq_iff_eq.mpr c8
       have c8b1 : ((bt a0 (ji4)) != 110) = false := bne_eq_false_iff_eq.mpr c8
       clear c8
       simp only [Option.some.injEq, Prod.mk.injEq] at H
       obtain ⟨rfl, rfl⟩ := H
       have p7 : 0 ≤ ((ji4) : Int) := of_decide_eq_true (by first | (with_reducible assumption) | assumption)
       have q7 : (ji4) < (a0.size : Int) := of_decide_eq_true (by first | (with_reducible assumption) | assumption)
       have hx7 := bt_at a0 (ji4); replace p7 := eq_true p7; replace q7 := eq_true q7
       go_enter Try.func61, Try.ntmps61
       go_wp2
       repeat (go_quiet (fail); try go_wp2)
       go_ret2
       exact ⟨by first | rfl | (simp; done) | (simp [i64_w, IntKind.wrap_u8]; done) | (simp [*]; done) | (simp only [← hji4] <;> (first | rfl | simp)) | (simp [*]; done), by repeat (first | exact Drawn0.refl _ | apply Drawn0.step)⟩
     rw [if_neg c8] at H
     have c8b0 : ((bt a0 (ji4)) == 110) = false := beq_eq_false_iff_ne.mpr c8
     have c8b1 : ((bt a0 (ji4)) != 110) = true := bne_iff_ne.mpr c8
     by_cases c9 : (bt a0 (ji4)) = 114
     · rw [if_pos c9] at H
       have c9b0 : ((bt a0 (ji4)) == 114) = true := beq_iff_eq.mpr c9
       have c9b1 : ((bt a0 (ji4)) != 114) = false := bne_eq_false_iff_eq.mpr c9
       clear c9
       simp only [Option.some.injEq, Prod.mk.injEq] at H
       obtain ⟨rfl, rfl⟩ := H
       have p7 : 0 ≤ ((ji4) : Int) := of_decide_eq_true (by first | (with_reducible assumption) | assumption)
       have q7 : (ji4) < (a0.size : Int) := of_decide_eq_true (by first | (with_reducible assumption) | assumption)
       have hx7 := bt_at a0 (ji4); replace p7 := eq_true p7; replace q7 := eq_true q7
       go_enter Try.func61, Try.ntmps61
       go_wp2
       repeat (go_quiet (fail); try go_wp2)
       go_ret2
       exact ⟨by first | rfl | (simp; done) | (simp [i64_w, IntKind.wrap_u8]; done) | (simp [*]; done) | (simp only [← hji4] <;> (first | rfl | simp)) | (simp [*]; done), by repeat (first | exact Drawn0.refl _ | apply Drawn0.step)⟩
     rw [if_neg c9] at H
     have c9b0 : ((bt a0 (ji4)) == 114) = false := beq_eq_false_iff_ne.mpr c9
     have c9b1 : ((bt a0 (ji4)) != 114) = true := bne_iff_ne.mpr c9
     by_cases c10 : (bt a0 (ji4)) = 116
     · rw [if_pos c10] at H
       have c10b0 : ((bt a0 (ji4)) == 116) = true := beq_iff_eq.mpr c10
       have c10b1 : ((bt a0 (ji4)) != 116) = false := bne_eq_false_iff_eq.mpr c10
       clear c10
       simp only [Option.some.injEq, Prod.mk.injEq] at H
       obtain ⟨rfl, rfl⟩ := H
       have p7 : 0 ≤ ((ji4) : Int) := of_decide_eq_true (by first | (with_reducible assumption) | assumption)
       have q7 : (ji4) < (a0.size : Int) := of_decide_eq_true (by first | (with_reducible assumption) | assumption)
       have hx7 := bt_at a0 (ji4); replace p7 := eq_true p7; replace q7 := eq_true q7
       go_enter Try.func61, Try.ntmps61
       go_wp2
       repeat (go_quiet (fail); try go_wp2)
       go_ret2
       exact ⟨by first | rfl | (simp; done) | (simp [i64_w, IntKind.wrap_u8]; done) | (simp [*]; done) | (simp only [← hji4] <;> (first | rfl | simp)) | (simp [*]; done), by repeat (first | exact Drawn0.refl _ | apply Drawn0.step)⟩
     rw [if_neg c10] at H
     have c10b0 : ((bt a0 (ji4)) == 116) = false := beq_eq_false_iff_ne.mpr c10
     have c10b1 : ((bt a0 (ji4)) != 116) = true := bne_iff_ne.mpr c10
     have HC11 := Aside0.mk H; clear H
     have p7 : 0 ≤ ((ji4) : Int) := of_decide_eq_true (by first | (with_reducible assumption) | assumption)
     have q7 : (ji4) < (a0.size : Int) := of_decide_eq_true (by first | (with_reducible assumption) | assumption)
     have hx7 := bt_at a0 (ji4); replace p7 := eq_true p7; replace q7 := eq_true q7
     go_enter Try.func61, Try.ntmps61
     go_upto_if 28 with (fail)
     repeat (go_quiet (fail); go_upto_if 28 with (fail))
     go_cut [28] (fun v28 wc => ∃ (kq : Nat) (x28_10 : Bool), v28 = .bool x28_10 ∧ Aside0 (dowelref04_escape.j0 kq a0 a1 (bt a0 (ji4)) x28_10 = some (r1, r2)) ∧ Aside0 (kq ≤ k) ∧ Drawn0 w wc)
     case first =>
      have H := HC11.out; clear HC11
      by_cases c12 : (bt a0 (ji4)) = 92
      · rw [if_pos c12] at H
        have c12b0 : ((bt a0 (ji4)) == 92) = true := beq_iff_eq.mpr c12
        have c12b1 : ((bt a0 (ji4)) != 92) = false := bne_eq_false_iff_eq.mpr c12
        clear c12
        (first | rw [c12b0] | (simp only [i64_w, i32_w]; rw [c12b0]) | skip)
        have H' := Aside0.mk H; clear H
        go_wp2
        repeat (go_quiet (fail); try go_wp2)
        go_meet
        case rel => exact ⟨_, (((bt a0 (ji4)) == 92)), (by first | rfl | (simp; done) | (simp [*]; done) | (simp only [← hji4] <;> (first | rfl | simp)) | (simp [*]; done)), (by first | exact H' | (have h_ := H'.out; exact Aside0.mk (by first | exact h_ | (simp only [hji4] at h_ ⊢; exact h_)))), ⟨by first | omega | exact Nat.le_refl _⟩, by repeat (first | exact Drawn0.refl _ | apply Drawn0.step)⟩
      rw [if_neg c12] at H
      have c12b0 : ((bt a0 (ji4)) == 92) = false := beq_eq_false_iff_ne.mpr c12
      have c12b1 : ((bt a0 (ji4)) != 92) = true := bne_iff_ne.mpr c12
      (first | rw [c12b0] | (simp only [i64_w, i32_w]; rw [c12b0]) | skip)
      by_cases c13 : (bt a0 (ji4)) = 39
      · rw [if_pos c13] at H
        have c13b0 : ((bt a0 (ji4)) == 39) = true := beq_iff_eq.mpr c13
        have c13b1 : ((bt a0 (ji4)) != 39) = false := bne_eq_false_iff_eq.mpr c13
        clear c13; have H' := Aside0.mk H; clear H
        go_wp2
        repeat (go_quiet (fail); try go_wp2)
        go_meet
        case rel => exact ⟨_, (((bt a0 (ji4)) == 39)), (by first | rfl | (simp; done) | (simp [*]; done) | (simp only [← hji4] <;> (first | rfl | simp)) | (simp [*]; done)), (by first | exact H' | (have h_ := H'.out; exact Aside0.mk (by first | exact h_ | (simp only [hji4] at h_ ⊢; exact h_)))), ⟨by first | omega | exact Nat.le_refl _⟩, by repeat (first | exact Drawn0.refl _ | apply Drawn0.step)⟩
      rw [if_neg c13] at H
      have c13b0 : ((bt a0 (ji4)) == 39) = false := beq_eq_false_iff_ne.mpr c13
      have c13b1 : ((bt a0 (ji4)) != 39) = true := bne_iff_ne.mpr c13
      have H' := Aside0.mk H; clear H
      go_wp2
      repeat (go_quiet (fail); try go_wp2)
      go_meet
      case rel => exact ⟨_, (((bt a0 (ji4)) == 34)), (by first | rfl | (simp; done) | (simp [*]; done) | (simp only [← hji4] <;> (first | rfl | simp)) | (simp [*]; done)), (by first | exact H' | (have h_ := H'.out; exact Aside0.mk (by first | exact h_ | (simp only [hji4] at h_ ⊢; exact h_)))), ⟨by first | omega | exact Nat.le_refl _⟩, by repeat (first | exact Drawn0.refl _ | apply Drawn0.step)⟩
     case rest =>
      clear HC11; (try clear c1); (try clear p2); (try clear c3); (try clear c3b0); (try clear c5); (try clear c5b0); (try clear c6); (try clear c6b0); (try clear p6); (try clear p7); (try clear q7); (try clear hx7); (try clear c8); (try clear c8b0); (try clear c8b1); (try clear c9); (try clear c9b0); (try clear c9b1); (try clear c10); (try clear c10b0); (try clear c10b1); (try clear c12); (try clear c12b0); (try clear c12b1); (try clear c13); (try clear c13b0); (try clear c13b1); (try clear p7); (try clear q7)
      obtain ⟨kq, x28_10, rfl, HA, HJ10, ⟨mc10, rfl⟩⟩ := hcut
      cases kq with
      | zero => exact absurd HA.out (by simp [dowelref04_escape.j0])
      | succ kj10 =>
        have H := HA.out; clear HA
        simp only [dowelref04_escape.j0] at H
        by_cases c14 : x28_10 = true
        · subst c14
          have H1 : (if 0 ≤ (wrap64 (a1 + 1)) then (if (wrap64 (a1 + 1)) < (a0.size : Int) then (some (bt a0 (wrap64 (a1 + 1)), wrap64 (a1 + 2))) else (none)) else (none)) = some (r1, r2) := by rw [if_pos rfl] at H; exact H
          clear H; have H := H1; clear H1
          obtain ⟨ji15, hji15⟩ : ∃ j_ : Int, (wrap64 (a1 + 1)) = j_ := ⟨_, rfl⟩
          replace H : (if 0 ≤ (ji15) then (if (ji15) < (a0.size : Int) then (some (bt a0 (ji15), wrap64 (a1 + 2))) else (none)) else (none)) = some (r1, r2) := by first | (rw [hji15] at H; exact H) | (simp only [hji15] at H ⊢; exact H)
          (try rw [hji15] at c3b0)
          have hji15w : (IntKind.i64.wrap (a1 + 1)) = ji15 := (i64_w _).trans hji15
          (try obtain rfl := hji15.symm.trans hji4)
          by_cases c16 : 0 ≤ (ji15)
          · rw [if_pos c16] at H
            have c16b0 : decide (0 ≤ (ji15)) = true := decide_eq_true c16
            clear c16
            by_cases c17 : (ji15) < (a0.size : Int)
            · rw [if_pos c17] at H
              have c17b0 : decide ((ji15) < (a0.size : Int)) = true := decide_eq_true c17
              clear c17
              simp only [Option.some.injEq, Prod.mk.injEq] at H
              obtain ⟨rfl, rfl⟩ := H
              have p18 : 0 ≤ ((ji15) : Int) := of_decide_eq_true (by first | (with_reducible assumption) | assumption)
              have q18 : (ji15) < (a0.size : Int) := of_decide_eq_true (by first | (with_reducible assumption) | assumption)
              have hx18 := bt_at a0 (ji15); replace p18 := eq_true p18; replace q18 := eq_true q18
              go_wp2
              repeat (go_quiet (fail); try go_wp2)
              go_ret2
              exact ⟨by first | rfl | (simp; done) | (simp [i64_w, IntKind.wrap_u8]; done) | (simp [*]; done) | (simp only [← hji4, ← hji15] <;> (first | rfl | simp)) | (simp [*]; done), by repeat (first | exact Drawn0.refl _ | apply Drawn0.step)⟩
            rw [if_neg c17] at H
            exact absurd H (by simp)
          rw [if_neg c16] at H
          exact absurd H (by simp)
        replace c14 := Bool.eq_false_iff.mpr c14; subst c14
        have H1 : (if (bt a0 (ji4)) = 120 then (if (wrap64 (a1 + 3)) < (a0.size : Int) then (if 0 ≤ (wrap64 (a1 + 2)) then (if (wrap64 (a1 + 2)) < (a0.size : Int) then ((dowelref03_Digit.f kj10 (bt a0 (wrap64 (a1 + 2)))).bind fun t512 => (if t512 ≥ 0 then (if 0 ≤ (wrap64 (a1 + 3)) then ((dowelref03_Digit.f kj10 (bt a0 (wrap64 (a1 + 3)))).bind fun t513 => (dowelref04_escape.j1 kj10 a0 a1 (decide (t513 ≥ 0)))) else (none)) else (dowelref04_escape.j1 kj10 a0 a1 false))) else (none)) else (none)) else (dowelref04_escape.j1 kj10 a0 a1 false)) else (some (0, a1))) = some (r1, r2) := by rw [if_neg (show ¬ (false = true) by decide)] at H; exact H
        clear H; have H := H1; clear H1
        by_cases c19 : (bt a0 (ji4)) = 120
        · rw [if_pos c19] at H
          have c19b0 : ((bt a0 (ji4)) == 120) = true := beq_iff_eq.mpr c19
          have c19b1 : ((bt a0 (ji4)) != 120) = false := bne_eq_false_iff_eq.mpr c19
          clear c19; have HC20 := Aside0.mk H; clear H
          go_upto_region 15 with (fail)
          repeat (go_quiet (fail); go_upto_region 15 with (fail))
          go_cut [60] (fun v60 wc => ∃ (kq : Nat) (x60_19 : Bool), v60 = .bool x60_19 ∧ Aside0 (dowelref04_escape.j1 kq a0 a1 x60_19 = some (r1, r2)) ∧ Aside0 (kq ≤ kj10) ∧ Drawn0 w wc)
          case first =>
           have H := HC20.out; clear HC20
           by_cases c21 : (wrap64 (a1 + 3)) < (a0.size : Int)
           · rw [if_pos c21] at H
             have c21b0 : decide ((wrap64 (a1 + 3)) < (a0.size : Int)) = true := decide_eq_true c21
             clear c21
             (first | rw [c21b0] | (simp only [i64_w, i32_w]; rw [c21b0]) | skip)
             obtain ⟨ji22, hji22⟩ : ∃ j_ : Int, (wrap64 (a1 + 2)) = j_ := ⟨_, rfl⟩
             replace H : (if 0 ≤ (ji22) then (if (ji22) < (a0.size : Int) then ((dowelref03_Digit.f kj10 (bt a0 (ji22))).bind fun t512 => (if t512 ≥ 0 then (if 0 ≤ (wrap64 (a1 + 3)) then ((dowelref03_Digit.f kj10 (bt a0 (wrap64 (a1 + 3)))).bind fun t513 => (dowelref04_escape.j1 kj10 a0 a1 (decide (t513 ≥ 0)))) else (none)) else (dowelref04_escape.j1 kj10 a0 a1 false))) else (none)) else (none)) = some (r1, r2) := by first | (rw [hji22] at H; exact H) | (simp only [hji22] at H ⊢; exact H)
             have hji22w : (IntKind.i64.wrap (a1 + 2)) = ji22 := (i64_w _).trans hji22
             by_cases c23 : 0 ≤ (ji22)
             · rw [if_pos c23] at H
               have c23b0 : decide (0 ≤ (ji22)) = true := decide_eq_true c23
               clear c23
               by_cases c24 : (ji22) < (a0.size : Int)
               · rw [if_pos c24] at H
                 have c24b0 : decide ((ji22) < (a0.size : Int)) = true := decide_eq_true c24
                 clear c24; replace H := Option.bind_eq_some_iff.mp H
                 obtain ⟨t512, A260, H⟩ := H
                 replace H : (if t512 ≥ 0 then (if 0 ≤ (wrap64 (a1 + 3)) then ((dowelref03_Digit.f kj10 (bt a0 (wrap64 (a1 + 3)))).bind fun t513 => (dowelref04_escape.j1 kj10 a0 a1 (decide (t513 ≥ 0)))) else (none)) else (dowelref04_escape.j1 kj10 a0 a1 false)) = some (r1, r2) := H
                 have A26 := Aside0.mk A260; clear A260
                 by_cases c27 : t512 ≥ 0
                 · rw [if_pos c27] at H
                   have c27b0 : decide (0 ≤ t512) = true := decide_eq_true c27
                   clear c27
                   obtain ⟨ji28, hji28⟩ : ∃ j_ : Int, (wrap64 (a1 + 3)) = j_ := ⟨_, rfl⟩
                   replace H : (if 0 ≤ (ji28) then ((dowelref03_Digit.f kj10 (bt a0 (ji28))).bind fun t513 => (dowelref04_escape.j1 kj10 a0 a1 (decide (t513 ≥ 0)))) else (none)) = some (r1, r2) := by first | (rw [hji28] at H; exact H) | (simp only [hji28] at H ⊢; exact H)
                   (try rw [hji28] at c21b0)
                   (try rw [hji28] at A26)
                   have hji28w : (IntKind.i64.wrap (a1 + 3)) = ji28 := (i64_w _).trans hji28
                   by_cases c29 : 0 ≤ (ji28)
                   · rw [if_pos c29] at H
                     have c29b0 : decide (0 ≤ (ji28)) = true := decide_eq_true c29
                     clear c29; replace H := Option.bind_eq_some_iff.mp H
                     obtain ⟨t513, A310, H⟩ := H
                     replace H : (dowelref04_escape.j1 kj10 a0 a1 (decide (t513 ≥ 0))) = some (r1, r2) := H
                     have A31 := Aside0.mk A310; clear A310; have H' := Aside0.mk H; clear H
                     have p25 : 0 ≤ ((ji22) : Int) := of_decide_eq_true (by first | (with_reducible assumption) | assumption)
                     have q25 : (ji22) < (a0.size : Int) := of_decide_eq_true (by first | (with_reducible assumption) | assumption)
                     have hx25 := bt_at a0 (ji22); replace p25 := eq_true p25; replace q25 := eq_true q25
                     go_wp2_with (first | (go_at_call 69; (with_reducible refine (dowelref03_Digit.calls kj10 (bt a0 (ji22)) t512 _ A26.out).mono ?_); rintro e w' ⟨rfl, ⟨nd, rfl⟩⟩; (try first | exact ⟨rfl, _, World.drewN_drewN _ _ _⟩ | exact ⟨rfl, _, Eq.trans (World.drewN_drewN _ _ _) (congrArg (World.drewN _) (Nat.add_assoc _ _ _))⟩); have p30 : 0 ≤ ((ji28) : Int) := of_decide_eq_true (by first | (with_reducible assumption) | assumption); have q30 : (ji28) < (a0.size : Int) := of_decide_eq_true (by first | (with_reducible assumption) | assumption); have hx30 := bt_at a0 (ji28); replace p30 := eq_true p30; replace q30 := eq_true q30) | (go_at_call 69; (with_reducible refine (dowelref03_Digit.calls kj10 (bt a0 (ji28)) t513 _ A31.out).mono ?_); rintro e w' ⟨rfl, ⟨nd, rfl⟩⟩; (try first | exact ⟨rfl, _, World.drewN_drewN _ _ _⟩ | exact ⟨rfl, _, Eq.trans (World.drewN_drewN _ _ _) (congrArg (World.drewN _) (Nat.add_assoc _ _ _))⟩)))
                     repeat (go_quiet (first | (go_at_call 69; (with_reducible refine (dowelref03_Digit.calls kj10 (bt a0 (ji22)) t512 _ A26.out).mono ?_); rintro e w' ⟨rfl, ⟨nd, rfl⟩⟩; (try first | exact ⟨rfl, _, World.drewN_drewN _ _ _⟩ | exact ⟨rfl, _, Eq.trans (World.drewN_drewN _ _ _) (congrArg (World.drewN _) (Nat.add_assoc _ _ _))⟩); have p30 : 0 ≤ ((ji28) : Int) := of_decide_eq_true (by first | (with_reducible assumption) | assumption); have q30 : (ji28) < (a0.size : Int) := of_decide_eq_true (by first | (with_reducible assumption) | assumption); have hx30 := bt_at a0 (ji28); replace p30 := eq_true p30; replace q30 := eq_true q30) | (go_at_call 69; (with_reducible refine (dowelref03_Digit.calls kj10 (bt a0 (ji28)) t513 _ A31.out).mono ?_); rintro e w' ⟨rfl, ⟨nd, rfl⟩⟩; (try first | exact ⟨rfl, _, World.drewN_drewN _ _ _⟩ | exact ⟨rfl, _, Eq.trans (World.drewN_drewN _ _ _) (congrArg (World.drewN _) (Nat.add_assoc _ _ _))⟩))); try go_wp2_with (first | (go_at_call 69; (with_reducible refine (dowelref03_Digit.calls kj10 (bt a0 (ji22)) t512 _ A26.out).mono ?_); rintro e w' ⟨rfl, ⟨nd, rfl⟩⟩; (try first | exact ⟨rfl, _, World.drewN_drewN _ _ _⟩ | exact ⟨rfl, _, Eq.trans (World.drewN_drewN _ _ _) (congrArg (World.drewN _) (Nat.add_assoc _ _ _))⟩); have p30 : 0 ≤ ((ji28) : Int) := of_decide_eq_true (by first | (with_reducible assumption) | assumption); have q30 : (ji28) < (a0.size : Int) := of_decide_eq_true (by first | (with_reducible assumption) | assumption); have hx30 := bt_at a0 (ji28); replace p30 := eq_true p30; replace q30 := eq_true q30) | (go_at_call 69; (with_reducible refine (dowelref03_Digit.calls kj10 (bt a0 (ji28)) t513 _ A31.out).mono ?_); rintro e w' ⟨rfl, ⟨nd, rfl⟩⟩; (try first | exact ⟨rfl, _, World.drewN_drewN _ _ _⟩ | exact ⟨rfl, _, Eq.trans (World.drewN_drewN _ _ _) (congrArg (World.drewN _) (Nat.add_assoc _ _ _))⟩))))
                     go_meet
                     case rel => exact ⟨_, (decide (t513 ≥ 0)), (by first | rfl | (simp; done) | (simp [*]; done)), H', ⟨by have := HJ10.out; first | omega | exact Nat.le_refl _⟩, by repeat (first | exact Drawn0.refl _ | apply Drawn0.step)⟩
                   rw [if_neg c29] at H
                   exact absurd H (by simp)
                 rw [if_neg c27] at H
                 have c27b0 : decide (0 ≤ t512) = false := decide_eq_false c27
                 clear c27; have H' := Aside0.mk H; clear H
                 have p25 : 0 ≤ ((ji22) : Int) := of_decide_eq_true (by first | (with_reducible assumption) | assumption)
                 have q25 : (ji22) < (a0.size : Int) := of_decide_eq_true (by first | (with_reducible assumption) | assumption)
                 have hx25 := bt_at a0 (ji22); replace p25 := eq_true p25; replace q25 := eq_true q25
                 go_wp2_with (first | (go_at_call 69; (with_reducible refine (dowelref03_Digit.calls kj10 (bt a0 (ji22)) t512 _ A26.out).mono ?_); rintro e w' ⟨rfl, ⟨nd, rfl⟩⟩; (try first | exact ⟨rfl, _, World.drewN_drewN _ _ _⟩ | exact ⟨rfl, _, Eq.trans (World.drewN_drewN _ _ _) (congrArg (World.drewN _) (Nat.add_assoc _ _ _))⟩)))
                 repeat (go_quiet (first | (go_at_call 69; (with_reducible refine (dowelref03_Digit.calls kj10 (bt a0 (ji22)) t512 _ A26.out).mono ?_); rintro e w' ⟨rfl, ⟨nd, rfl⟩⟩; (try first | exact ⟨rfl, _, World.drewN_drewN _ _ _⟩ | exact ⟨rfl, _, Eq.trans (World.drewN_drewN _ _ _) (congrArg (World.drewN _) (Nat.add_assoc _ _ _))⟩))); try go_wp2_with (first | (go_at_call 69; (with_reducible refine (dowelref03_Digit.calls kj10 (bt a0 (ji22)) t512 _ A26.out).mono ?_); rintro e w' ⟨rfl, ⟨nd, rfl⟩⟩; (try first | exact ⟨rfl, _, World.drewN_drewN _ _ _⟩ | exact ⟨rfl, _, Eq.trans (World.drewN_drewN _ _ _) (congrArg (World.drewN _) (Nat.add_assoc _ _ _))⟩))))
                 go_meet
                 case rel => exact ⟨_, (false), (by first | rfl | (simp; done) | (simp [*]; done)), H', ⟨by have := HJ10.out; first | omega | exact Nat.le_refl _⟩, by repeat (first | exact Drawn0.refl _ | apply Drawn0.step)⟩
               rw [if_neg c24] at H
               exact absurd H (by simp)
             rw [if_neg c23] at H
             exact absurd H (by simp)
           rw [if_neg c21] at H
           have c21b0 : decide ((wrap64 (a1 + 3)) < (a0.size : Int)) = false := decide_eq_false c21
           clear c21
           (first | rw [c21b0] | (simp only [i64_w, i32_w]; rw [c21b0]) | skip)
           have H' := Aside0.mk H; clear H
           go_wp2
           repeat (go_quiet (fail); try go_wp2)
           go_meet
           case rel => exact ⟨_, (false), (by first | rfl | (simp; done) | (simp [*]; done)), H', ⟨by have := HJ10.out; first | omega | exact Nat.le_refl _⟩, by repeat (first | exact Drawn0.refl _ | apply Drawn0.step)⟩
          case rest =>
           clear HC20; (try clear c1); (try clear p1); (try clear q1); (try clear hx1); (try clear c2); (try clear p2); (try clear q2); (try clear hx2); (try clear c3); (try clear c3b0); (try clear p3); (try clear q3); (try clear hx3); (try clear c5); (try clear c5b0); (try clear c6); (try clear c6b0); (try clear p6); (try clear p7); (try clear q7); (try clear hx7); (try clear c8); (try clear c8b0); (try clear c8b1); (try clear c9); (try clear c9b0); (try clear c9b1); (try clear c10); (try clear c10b0); (try clear c10b1); (try clear c12); (try clear c12b0); (try clear c12b1); (try clear c13); (try clear c13b0); (try clear c13b1); (try clear c14); (try clear c16); (try clear c16b0); (try clear c17); (try clear c17b0); (try clear p18); (try clear q18); (try clear hx18); (try clear c19); (try clear c19b0); (try clear c19b1); (try clear c21); (try clear c21b0); (try clear c23); (try clear c23b0); (try clear c24); (try clear c24b0); (try clear p25); (try clear q25); (try clear hx25); (try clear c27); (try clear c27b0); (try clear c29); (try clear c29b0); (try clear p30); (try clear q30); (try clear hx30); (try clear p18); (try clear p2); (try clear p25); (try clear p30); (try clear p6); (try clear p7); (try clear q18); (try clear q25); (try clear q30); (try clear q7)
           obtain ⟨kq, x60_19, rfl, HA, HJ19, ⟨mc19, rfl⟩⟩ := hcut
           cases kq with
           | zero => exact absurd HA.out (by simp [dowelref04_escape.j1])
           | succ kj19 =>
             have H := HA.out; clear HA
             simp only [dowelref04_escape.j1] at H
             by_cases c32 : x60_19 = true
             · subst c32
               have H1 : (if 0 ≤ (wrap64 (a1 + 2)) then (if (wrap64 (a1 + 2)) < (a0.size : Int) then ((dowelref03_Digit.f kj19 (bt a0 (wrap64 (a1 + 2)))).bind fun t514 => (if 0 ≤ (wrap64 (a1 + 3)) then (if (wrap64 (a1 + 3)) < (a0.size : Int) then ((dowelref03_Digit.f kj19 (bt a0 (wrap64 (a1 + 3)))).bind fun t515 => (some ((wrap64 ((wrap64 (16 * t514)) + t515)) % 256, wrap64 (a1 + 4)))) else (none)) else (none))) else (none)) else (none)) = some (r1, r2) := by rw [if_pos rfl] at H; exact H
               clear H; have H := H1; clear H1
               obtain ⟨ji33, hji33⟩ : ∃ j_ : Int, (wrap64 (a1 + 2)) = j_ := ⟨_, rfl⟩
               replace H : (if 0 ≤ (ji33) then (if (ji33) < (a0.size : Int) then ((dowelref03_Digit.f kj19 (bt a0 (ji33))).bind fun t514 => (if 0 ≤ (wrap64 (a1 + 3)) then (if (wrap64 (a1 + 3)) < (a0.size : Int) then ((dowelref03_Digit.f kj19 (bt a0 (wrap64 (a1 + 3)))).bind fun t515 => (some ((wrap64 ((wrap64 (16 * t514)) + t515)) % 256, wrap64 (a1 + 4)))) else (none)) else (none))) else (none)) else (none)) = some (r1, r2) := by first | (rw [hji33] at H; exact H) | (simp only [hji33] at H ⊢; exact H)
               have hji33w : (IntKind.i64.wrap (a1 + 2)) = ji33 := (i64_w _).trans hji33
               by_cases c34 : 0 ≤ (ji33)
               · rw [if_pos c34] at H
                 have c34b0 : decide (0 ≤ (ji33)) = true := decide_eq_true c34
                 clear c34
                 by_cases c35 : (ji33) < (a0.size : Int)
                 · rw [if_pos c35] at H
                   have c35b0 : decide ((ji33) < (a0.size : Int)) = true := decide_eq_true c35
                   clear c35; replace H := Option.bind_eq_some_iff.mp H
                   obtain ⟨t514, A370, H⟩ := H
                   replace H : (if 0 ≤ (wrap64 (a1 + 3)) then (if (wrap64 (a1 + 3)) < (a0.size : Int) then ((dowelref03_Digit.f kj19 (bt a0 (wrap64 (a1 + 3)))).bind fun t515 => (some ((wrap64 ((wrap64 (16 * t514)) + t515)) % 256, wrap64 (a1 + 4)))) else (none)) else (none)) = some (r1, r2) := H
                   have A37 := Aside0.mk A370; clear A370
                   obtain ⟨ji38, hji38⟩ : ∃ j_ : Int, (wrap64 (a1 + 3)) = j_ := ⟨_, rfl⟩
                   replace H : (if 0 ≤ (ji38) then (if (ji38) < (a0.size : Int) then ((dowelref03_Digit.f kj19 (bt a0 (ji38))).bind fun t515 => (some ((wrap64 ((wrap64 (16 * t514)) + t515)) % 256, wrap64 (a1 + 4)))) else (none)) else (none)) = some (r1, r2) := by first | (rw [hji38] at H; exact H) | (simp only [hji38] at H ⊢; exact H)
                   (try rw [hji38] at A37)
                   have hji38w : (IntKind.i64.wrap (a1 + 3)) = ji38 := (i64_w _).trans hji38
                   by_cases c39 : 0 ≤ (ji38)
                   · rw [if_pos c39] at H
                     have c39b0 : decide (0 ≤ (ji38)) = true := decide_eq_true c39
                     clear c39
                     by_cases c40 : (ji38) < (a0.size : Int)
                     · rw [if_pos c40] at H
                       have c40b0 : decide ((ji38) < (a0.size : Int)) = true := decide_eq_true c40
                       clear c40; replace H := Option.bind_eq_some_iff.mp H
                       obtain ⟨t515, A420, H⟩ := H
                       replace H : (some ((wrap64 ((wrap64 (16 * t514)) + t515)) % 256, wrap64 (a1 + 4))) = some (r1, r2) := H
                       have A42 := Aside0.mk A420; clear A420
                       simp only [Option.some.injEq, Prod.mk.injEq] at H
                       obtain ⟨rfl, rfl⟩ := H
                       have p36 : 0 ≤ ((ji33) : Int) := of_decide_eq_true (by first | (with_reducible assumption) | assumption)
                       have q36 : (ji33) < (a0.size : Int) := of_decide_eq_true (by first | (with_reducible assumption) | assumption)
                       have hx36 := bt_at a0 (ji33); replace p36 := eq_true p36; replace q36 := eq_true q36
                       go_wp2_with (first | (go_at_call 69; (with_reducible refine (dowelref03_Digit.calls kj19 (bt a0 (ji33)) t514 _ A37.out).mono ?_); rintro e w' ⟨rfl, ⟨nd, rfl⟩⟩; (try first | exact ⟨rfl, _, World.drewN_drewN _ _ _⟩ | exact ⟨rfl, _, Eq.trans (World.drewN_drewN _ _ _) (congrArg (World.drewN _) (Nat.add_assoc _ _ _))⟩); have p41 : 0 ≤ ((ji38) : Int) := of_decide_eq_true (by first | (with_reducible assumption) | assumption); have q41 : (ji38) < (a0.size : Int) := of_decide_eq_true (by first | (with_reducible assumption) | assumption); have hx41 := bt_at a0 (ji38); replace p41 := eq_true p41; replace q41 := eq_true q41) | (go_at_call 69; (with_reducible refine (dowelref03_Digit.calls kj19 (bt a0 (ji38)) t515 _ A42.out).mono ?_); rintro e w' ⟨rfl, ⟨nd, rfl⟩⟩; (try first | exact ⟨rfl, _, World.drewN_drewN _ _ _⟩ | exact ⟨rfl, _, Eq.trans (World.drewN_drewN _ _ _) (congrArg (World.drewN _) (Nat.add_assoc _ _ _))⟩)))
                       repeat (go_quiet (first | (go_at_call 69; (with_reducible refine (dowelref03_Digit.calls kj19 (bt a0 (ji33)) t514 _ A37.out).mono ?_); rintro e w' ⟨rfl, ⟨nd, rfl⟩⟩; (try first | exact ⟨rfl, _, World.drewN_drewN _ _ _⟩ | exact ⟨rfl, _, Eq.trans (World.drewN_drewN _ _ _) (congrArg (World.drewN _) (Nat.add_assoc _ _ _))⟩); have p41 : 0 ≤ ((ji38) : Int) := of_decide_eq_true (by first | (with_reducible assumption) | assumption); have q41 : (ji38) < (a0.size : Int) := of_decide_eq_true (by first | (with_reducible assumption) | assumption); have hx41 := bt_at a0 (ji38); replace p41 := eq_true p41; replace q41 := eq_true q41) | (go_at_call 69; (with_reducible refine (dowelref03_Digit.calls kj19 (bt a0 (ji38)) t515 _ A42.out).mono ?_); rintro e w' ⟨rfl, ⟨nd, rfl⟩⟩; (try first | exact ⟨rfl, _, World.drewN_drewN _ _ _⟩ | exact ⟨rfl, _, Eq.trans (World.drewN_drewN _ _ _) (congrArg (World.drewN _) (Nat.add_assoc _ _ _))⟩))); try go_wp2_with (first | (go_at_call 69; (with_reducible refine (dowelref03_Digit.calls kj19 (bt a0 (ji33)) t514 _ A37.out).mono ?_); rintro e w' ⟨rfl, ⟨nd, rfl⟩⟩; (try first | exact ⟨rfl, _, World.drewN_drewN _ _ _⟩ | exact ⟨rfl, _, Eq.trans (World.drewN_drewN _ _ _) (congrArg (World.drewN _) (Nat.add_assoc _ _ _))⟩); have p41 : 0 ≤ ((ji38) : Int) := of_decide_eq_true (by first | (with_reducible assumption) | assumption); have q41 : (ji38) < (a0.size : Int) := of_decide_eq_true (by first | (with_reducible assumption) | assumption); have hx41 := bt_at a0 (ji38); replace p41 := eq_true p41; replace q41 := eq_true q41) | (go_at_call 69; (with_reducible refine (dowelref03_Digit.calls kj19 (bt a0 (ji38)) t515 _ A42.out).mono ?_); rintro e w' ⟨rfl, ⟨nd, rfl⟩⟩; (try first | exact ⟨rfl, _, World.drewN_drewN _ _ _⟩ | exact ⟨rfl, _, Eq.trans (World.drewN_drewN _ _ _) (congrArg (World.drewN _) (Nat.add_assoc _ _ _))⟩))))
                       go_ret2
                       exact ⟨by first | rfl | (simp; done) | (simp [i64_w, IntKind.wrap_u8]; done) | (simp [*]; done) | (simp only [← hji4, ← hji33, ← hji38] <;> (first | rfl | simp)) | (simp [*]; done), by repeat (first | exact Drawn0.refl _ | apply Drawn0.step)⟩
                     rw [if_neg c40] at H
                     exact absurd H (by simp)
                   rw [if_neg c39] at H
                   exact absurd H (by simp)
                 rw [if_neg c35] at H
                 exact absurd H (by simp)
               rw [if_neg c34] at H
               exact absurd H (by simp)
             replace c32 := Bool.eq_false_iff.mpr c32; subst c32
             have H1 : (some (0, a1)) = some (r1, r2) := by rw [if_neg (show ¬ (false = true) by decide)] at H; exact H
             clear H; have H := H1; clear H1
             simp only [Option.some.injEq, Prod.mk.injEq] at H
             obtain ⟨rfl, rfl⟩ := H
             go_wp2
             repeat (go_quiet (fail); try go_wp2)
             go_ret2
             exact ⟨by first | rfl | (simp; done) | (simp [i64_w, IntKind.wrap_u8]; done) | (simp [*]; done) | (simp only [← hji4] <;> (first | rfl | simp)) | (simp [*]; done), by repeat (first | exact Drawn0.refl _ | apply Drawn0.step)⟩
        rw [if_neg c19] at H
        have c19b0 : ((bt a0 (ji4)) == 120) = false := beq_eq_false_iff_ne.mpr c19
        have c19b1 : ((bt a0 (ji4)) != 120) = true := bne_iff_ne.mpr c19
        simp only [Option.some.injEq, Prod.mk.injEq] at H
        obtain ⟨rfl, rfl⟩ := H
        go_wp2
        repeat (go_quiet (fail); try go_wp2)
        go_ret2
        exact ⟨by first | rfl | (simp; done) | (simp [i64_w, IntKind.wrap_u8]; done) | (simp [*]; done) | (simp only [← hji4] <;> (first | rfl | simp)) | (simp [*]; done), by repeat (first | exact Drawn0.refl _ | apply Drawn0.step)⟩
   rw [if_neg c6] at H
   exact absurd H (by simp)
 rw [if_neg c5] at H
 exact absurd H (by simp)
end Go.Proofs.Ytldjdcdoegjmoaa.P
