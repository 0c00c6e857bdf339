import Derived.Test.YtldjdcdoegjmoaaZ0
import Derived.Test.YtldjdcdoegjmoaaZ12
namespace Go.Proofs.Ytldjdcdoegjmoaa.P
open Go.RowKit Go.Proofs.YtldjdcdoegjmoaaW.PrintWords Go.Proofs.YtldjdcdoegjmoaaW.PrintLast Go.Proofs.YtldjdcdoegjmoaaW.PrintMore
set_option linter.unusedVariables false
set_option linter.unusedSimpArgs false
mutual
def dowelref04_named.j0 : Nat → ByteArray → Int → Bool → Option (Int)
 | 0, _, _, _ => none
 | k + 1, x0, x5, x32 => if x32 = true then ((dowelref04_own.f k x0 (wrap64 (x5 + 2))).bind fun t117 => (if t117 > (wrap64 (x5 + 2)) then (dowelref04_named.j1 k x0 t117) else (dowelref04_named.j1 k x0 x5))) else (dowelref04_named.j1 k x0 x5)
def dowelref04_named.j1 : Nat → ByteArray → Int → Option (Int)
 | 0, _, _ => none
 | k + 1, x0, x5 => if x5 < (x0.size : Int) then (if 0 ≤ x5 then (dowelref04_named.j2 k x0 x5 ((bt x0 x5) == 126)) else (none)) else (dowelref04_named.j2 k x0 x5 false)
def dowelref04_named.j2 : Nat → ByteArray → Int → Bool → Option (Int)
 | 0, _, _, _ => none
 | k + 1, x0, x5, x51 => if x51 = true then ((dowelref04_digits.f k x0 (wrap64 (x5 + 1))).bind fun t118 => (if t118 > (wrap64 (x5 + 1)) then (if t118 ≤ (wrap64 (x5 + 6)) then (if 0 ≤ (wrap64 (x5 + 1)) then (if (wrap64 (x5 + 1)) < (x0.size : Int) then (if (bt x0 (wrap64 (x5 + 1))) = 48 then (some x5) else (some t118)) else (none)) else (none)) else (some x5)) else (some x5))) else (some x5)
end
def dowelref04_named.f (k : Nat) (a0 : ByteArray) (a1 : Int) : Option (Int) := (dowelref04_own.f k a0 a1).bind fun t116 => (if t116 = a1 then (some a1) else (if (wrap64 (t116 + 1)) < (a0.size : Int) then (if 0 ≤ t116 then (if t116 < (a0.size : Int) then (if (bt a0 t116) = 58 then (if 0 ≤ (wrap64 (t116 + 1)) then (dowelref04_named.j0 k a0 t116 ((bt a0 (wrap64 (t116 + 1))) == 58)) else (none)) else (dowelref04_named.j0 k a0 t116 false)) else (none)) else (none)) else (dowelref04_named.j0 k a0 t116 false)))
set_option maxHeartbeats 8000000 in
set_option maxRecDepth 100000 in
theorem dowelref04_named.calls (k : Nat) (a0 : ByteArray) (a1 : Int) (r : Int) (w : World) (h : dowelref04_named.f k a0 a1 = some r) :
 Calls Try.prog 20 #[.string a0, .int .i64 a1] w fun e w' => e = .returned (.int .i64 r) ∧ Drawn0 w w' := by
 have H : ((dowelref04_own.f k a0 a1).bind fun t116 => (if t116 = a1 then (some a1) else (if (wrap64 (t116 + 1)) < (a0.size : Int) then (if 0 ≤ t116 then (if t116 < (a0.size : Int) then (if (bt a0 t116) = 58 then (if 0 ≤ (wrap64 (t116 + 1)) then (dowelref04_named.j0 k a0 t116 ((bt a0 (wrap64 (t116 + 1))) == 58)) else (none)) else (dowelref04_named.j0 k a0 t116 false)) else (none)) else (none)) else (dowelref04_named.j0 k a0 t116 false)))) = some r := h
 clear h; replace H := Option.bind_eq_some_iff.mp H
 obtain ⟨t116, A30, H⟩ := H
 replace H : (if t116 = a1 then (some a1) else (if (wrap64 (t116 + 1)) < (a0.size : Int) then (if 0 ≤ t116 then (if t116 < (a0.size : Int) then (if (bt a0 t116) = 58 then (if 0 ≤ (wrap64 (t116 + 1)) then (dowelref04_named.j0 k a0 t116 ((bt a0 (wrap64 (t116 + 1))) == 58)) else (none)) else (dowelref04_named.j0 k a0 t116 false)) else (none)) else (none)) else (dowelref04_named.j0 k a0 t116 false))) = some r := H
 have A3 := Aside0.mk A30; clear A30
 by_cases c4 : t116 = a1
 · rw [if_pos c4] at H
   have c4b0 : (t116 == a1) = true := beq_iff_eq.mpr c4
   have c4b1 : (t116 != a1) = false := bne_eq_false_iff_eq.mpr c4
   clear c4
   obtain rfl := Option.some.inj H
   go_enter Try.func20, Try.ntmps20
   go_wp2_with (first | ((with_reducible refine Q51 (f := 33) rfl ?_); refine goesL_ (some 10) rfl rfl Try.func33 (by kernel_rfl) rfl #[.string a0, .int .i64 a1] rfl (by (try simp only [List.map_toArray, List.map_cons, List.map_nil]); first | done | rfl | (simp only [List.length_drop, List.length_take]; rfl)) ?_; (with_reducible refine (dowelref04_own.calls k a0 a1 t116 _ A3.out).mono ?_); rintro e w' ⟨rfl, ⟨nd, rfl⟩⟩; refine ⟨_, rfl, ?_⟩))
   go_ret
   exact ⟨by first | rfl | (simp; done) | (simp [*]; done), by repeat (first | exact Drawn0.refl _ | apply Drawn0.step)⟩
 rw [if_neg c4] at H
 have c4b0 : (t116 == a1) = false := beq_eq_false_iff_ne.mpr c4
 have c4b1 : (t116 != a1) = true := bne_iff_ne.mpr c4
 have HC5 := Aside0.mk H; clear H
 go_enter Try.func20, Try.ntmps20
 go_upto_region 4 with (first | ((with_reducible refine Q51 (f := 33) rfl ?_); refine goesL_ (some 10) rfl rfl Try.func33 (by kernel_rfl) rfl #[.string a0, .int .i64 a1] rfl (by (try simp only [List.map_toArray, List.map_cons, List.map_nil]); first | done | rfl | (simp only [List.length_drop, List.length_take]; rfl)) ?_; (with_reducible refine (dowelref04_own.calls k a0 a1 t116 _ A3.out).mono ?_); rintro e w' ⟨rfl, ⟨nd, rfl⟩⟩; refine ⟨_, rfl, ?_⟩))
 (try simp only [Act.put, List.setIfInBounds_toArray, List.set_cons_zero, List.set_cons_succ])
 go_cut [32] (fun v32 wc => ∃ (kq : Nat) (x32_4 : Bool), v32 = .bool x32_4 ∧ Aside0 (dowelref04_named.j0 kq a0 t116 x32_4 = some r) ∧ Aside0 (kq ≤ k) ∧ Drawn0 w wc)
 case first =>
  have H := HC5.out; clear HC5
  by_cases c6 : (wrap64 (t116 + 1)) < (a0.size : Int)
  · rw [if_pos c6] at H
    have c6b0 : decide ((wrap64 (t116 + 1)) < (a0.size : Int)) = true := decide_eq_true c6
    clear c6
    (first | rw [c6b0] | (simp only [i64_w, i32_w]; rw [c6b0]) | skip)
    by_cases c7 : 0 ≤ t116
    · rw [if_pos c7] at H
      have c7b0 : decide (0 ≤ t116) = true := decide_eq_true c7
      clear c7
      by_cases c8 : t116 < (a0.size : Int)
      · rw [if_pos c8] at H
        have c8b0 : decide (t116 < (a0.size : Int)) = true := decide_eq_true c8
        clear c8
        by_cases c10 : (bt a0 t116) = 58
        · rw [if_pos c10] at H
          have c10b0 : ((bt a0 t116) == 58) = true := beq_iff_eq.mpr c10
          have c10b1 : ((bt a0 t116) != 58) = false := bne_eq_false_iff_eq.mpr c10
          clear c10
          obtain ⟨ji11, hji11⟩ : ∃ j_ : Int, (wrap64 (t116 + 1)) = j_ := ⟨_, rfl⟩
          replace H : (if 0 ≤ (ji11) then (dowelref04_named.j0 k a0 t116 ((bt a0 (ji11)) == 58)) else (none)) = some r := by first | (rw [hji11] at H; exact H) | (simp only [hji11] at H ⊢; exact H)
          (try rw [hji11] at c6b0)
          have hji11w : (IntKind.i64.wrap (t116 + 1)) = ji11 := (i64_w _).trans hji11
          by_cases c12 : 0 ≤ (ji11)
          · rw [if_pos c12] at H
            have c12b0 : decide (0 ≤ (ji11)) = true := decide_eq_true c12
            clear c12; have H' := Aside0.mk H; clear H
            have p9 : 0 ≤ (t116 : Int) := of_decide_eq_true (by first | (with_reducible assumption) | assumption)
            have q9 : t116 < (a0.size : Int) := of_decide_eq_true (by first | (with_reducible assumption) | assumption)
            have hx9 := bt_at a0 t116; replace p9 := eq_true p9; replace q9 := eq_true q9
            have p13 : 0 ≤ ((ji11) : Int) := of_decide_eq_true (by first | (with_reducible assumption) | assumption)
            have q13 : (ji11) < (a0.size : Int) := of_decide_eq_true (by first | (with_reducible assumption) | assumption)
            have hx13 := bt_at a0 (ji11); replace p13 := eq_true p13; replace q13 := eq_true q13
            go_wp2
            go_meet
            case rel => exact ⟨_, (((bt a0 (ji11)) == 58)), (by first | rfl | (simp; done) | (simp [*]; done) | (simp only [← hji11] <;> (first | rfl | simp)) | (simp [*]; done)), (by first | exact H' | (have h_ := H'.out; exact Aside0.mk (by first | exact h_ | (simp only [hji11] at h_ ⊢; exact h_)))), ⟨by first | omega | exact Nat.le_refl _⟩, by repeat (first | exact Drawn0.refl _ | apply Drawn0.step)⟩
          rw [if_neg c12] at H
          exact absurd H (by simp)
        rw [if_neg c10] at H
        have c10b0 : ((bt a0 t116) == 58) = false := beq_eq_false_iff_ne.mpr c10
        have c10b1 : ((bt a0 t116) != 58) = true := bne_iff_ne.mpr c10
        have H' := Aside0.mk H; clear H
        have p9 : 0 ≤ (t116 : Int) := of_decide_eq_true (by first | (with_reducible assumption) | assumption)
        have q9 : t116 < (a0.size : Int) := of_decide_eq_true (by first | (with_reducible assumption) | assumption)
        have hx9 := bt_at a0 t116; replace p9 := eq_true p9; replace q9 := eq_true q9
        go_wp2
        go_meet
        case rel => exact ⟨_, (false), (by first | rfl | (simp; done) | (simp [*]; done)), H', ⟨by first | omega | exact Nat.le_refl _⟩, by repeat (first | exact Drawn0.refl _ | apply Drawn0.step)⟩
      rw [if_neg c8] at H
      exact absurd H (by simp)
    rw [if_neg c7] at H
    exact absurd H (by simp)
  rw [if_neg c6] at H
  have c6b0 : decide ((wrap64 (t116 + 1)) < (a0.size : Int)) = false := decide_eq_false c6
  clear c6
  (first | rw [c6b0] | (simp only [i64_w, i32_w]; rw [c6b0]) | skip)
  have H' := Aside0.mk H; clear H
  go_wp2
  go_meet
  case rel => exact ⟨_, (false), (by first | rfl | (simp; done) | (simp [*]; done)), H', ⟨by first | omega | exact Nat.le_refl _⟩, by repeat (first | exact Drawn0.refl _ | apply Drawn0.step)⟩
 case rest =>
  clear HC5; (try clear c1); (try clear p1); (try clear q1); (try clear hx1); (try clear c2); (try clear p2); (try clear c3); (try clear c4); (try clear c4b0); (try clear c4b1); (try clear c6); (try clear c6b0); (try clear p6); (try clear c7); (try clear c7b0); (try clear c8); (try clear c8b0); (try clear p9); (try clear q9); (try clear hx9); (try clear c10); (try clear c10b0); (try clear c10b1); (try clear c12); (try clear c12b0); (try clear p13); (try clear q13); (try clear hx13); (try clear p13); (try clear p9); (try clear q13); (try clear q9)
  obtain ⟨kq, x32_4, rfl, HA, HJ4, ⟨mc4, rfl⟩⟩ := hcut
  cases kq with
  | zero => exact absurd HA.out (by simp [dowelref04_named.j0])
  | succ kj4 =>
    have H := HA.out; clear HA
    simp only [dowelref04_named.j0] at H
    have HC14 := Aside0.mk H; clear H
    go_upto_if 32 with (fail)
    go_cut [5] (fun v5 wc => ∃ (kq : Nat) (x5_13 : Int), v5 = .int .i64 x5_13 ∧ Aside0 (dowelref04_named.j1 kq a0 x5_13 = some r) ∧ Aside0 (kq ≤ kj4) ∧ Drawn0 w wc)
    case first =>
     have H := HC14.out; clear HC14
     by_cases c15 : x32_4 = true
     · subst c15
       have H1 : ((dowelref04_own.f kj4 a0 (wrap64 (t116 + 2))).bind fun t117 => (if t117 > (wrap64 (t116 + 2)) then (dowelref04_named.j1 kj4 a0 t117) else (dowelref04_named.j1 kj4 a0 t116))) = some r := by rw [if_pos rfl] at H; exact H
       clear H; have H := H1; clear H1; replace H := Option.bind_eq_some_iff.mp H
       obtain ⟨t117, A160, H⟩ := H
       replace H : (if t117 > (wrap64 (t116 + 2)) then (dowelref04_named.j1 kj4 a0 t117) else (dowelref04_named.j1 kj4 a0 t116)) = some r := H
       have A16 := Aside0.mk A160; clear A160
       by_cases c17 : t117 > (wrap64 (t116 + 2))
       · rw [if_pos c17] at H
         have c17b0 : decide ((wrap64 (t116 + 2)) < t117) = true := decide_eq_true c17
         clear c17
         (first | rw [c17b0] | (simp only [i64_w, i32_w]; rw [c17b0]) | skip)
         have H' := Aside0.mk H; clear H
         go_wp2_with (first | ((with_reducible refine Q51 (f := 33) rfl ?_); refine goesL_ (some 36) rfl rfl Try.func33 (by kernel_rfl) rfl #[.string a0, .int .i64 (wrap64 (t116 + 2))] rfl (by (try simp only [List.map_toArray, List.map_cons, List.map_nil]); first | done | rfl | (simp only [List.length_drop, List.length_take]; rfl)) ?_; (with_reducible refine (dowelref04_own.calls kj4 a0 (wrap64 (t116 + 2)) t117 _ A16.out).mono ?_); rintro e w' ⟨rfl, ⟨nd, rfl⟩⟩; refine ⟨_, rfl, ?_⟩))
         go_meet
         case rel => exact ⟨_, (t117), (by first | rfl | (simp; done) | (simp [*]; done)), H', ⟨by have := HJ4.out; first | omega | exact Nat.le_refl _⟩, by repeat (first | exact Drawn0.refl _ | apply Drawn0.step)⟩
       rw [if_neg c17] at H
       have c17b0 : decide ((wrap64 (t116 + 2)) < t117) = false := decide_eq_false c17
       clear c17
       (first | rw [c17b0] | (simp only [i64_w, i32_w]; rw [c17b0]) | skip)
       have H' := Aside0.mk H; clear H
       go_wp2_with (first | ((with_reducible refine Q51 (f := 33) rfl ?_); refine goesL_ (some 36) rfl rfl Try.func33 (by kernel_rfl) rfl #[.string a0, .int .i64 (wrap64 (t116 + 2))] rfl (by (try simp only [List.map_toArray, List.map_cons, List.map_nil]); first | done | rfl | (simp only [List.length_drop, List.length_take]; rfl)) ?_; (with_reducible refine (dowelref04_own.calls kj4 a0 (wrap64 (t116 + 2)) t117 _ A16.out).mono ?_); rintro e w' ⟨rfl, ⟨nd, rfl⟩⟩; refine ⟨_, rfl, ?_⟩))
       go_meet
       case rel => exact ⟨_, (t116), (by first | rfl | (simp; done) | (simp [*]; done)), H', ⟨by have := HJ4.out; first | omega | exact Nat.le_refl _⟩, by repeat (first | exact Drawn0.refl _ | apply Drawn0.step)⟩
     replace c15 := Bool.eq_false_iff.mpr c15; subst c15
     have H1 : (dowelref04_named.j1 kj4 a0 t116) = some r := by rw [if_neg (show ¬ (false = true) by decide)] at H; exact H
     clear H; have H := H1; clear H1; have H' := Aside0.mk H; clear H
     go_wp2
     go_meet
     case rel => exact ⟨_, (t116), (by first | rfl | (simp; done) | (simp [*]; done)), H', ⟨by have := HJ4.out; first | omega | exact Nat.le_refl _⟩, by repeat (first | exact Drawn0.refl _ | apply Drawn0.step)⟩
    case rest =>
     clear HC14; (try clear c1); (try clear p1); (try clear q1); (try clear hx1); (try clear c2); (try clear p2); (try clear c3); (try clear c4); (try clear c4b0); (try clear c4b1); (try clear c6); (try clear c6b0); (try clear p6); (try clear c7); (try clear c7b0); (try clear c8); (try clear c8b0); (try clear p9); (try clear q9); (try clear hx9); (try clear c10); (try clear c10b0); (try clear c10b1); (try clear c12); (try clear c12b0); (try clear p13); (try clear q13); (try clear hx13); (try clear c15); (try clear c17); (try clear c17b0); (try clear p1); (try clear p13); (try clear p2); (try clear p6); (try clear p9); (try clear q1); (try clear q13); (try clear q9)
     obtain ⟨kq, x5_13, rfl, HA, HJ13, ⟨mc13, rfl⟩⟩ := hcut
     cases kq with
     | zero => exact absurd HA.out (by simp [dowelref04_named.j1])
     | succ kj13 =>
       have H := HA.out; clear HA
       simp only [dowelref04_named.j1] at H
       have HC18 := Aside0.mk H; clear H
       go_upto_region 8 with (fail)
       go_cut [51] (fun v51 wc => ∃ (kq : Nat) (x51_17 : Bool), v51 = .bool x51_17 ∧ Aside0 (dowelref04_named.j2 kq a0 x5_13 x51_17 = some r) ∧ Aside0 (kq ≤ kj13) ∧ Drawn0 w wc)
       case first =>
        have H := HC18.out; clear HC18
        by_cases c19 : x5_13 < (a0.size : Int)
        · rw [if_pos c19] at H
          have c19b0 : decide (x5_13 < (a0.size : Int)) = true := decide_eq_true c19
          clear c19
          (first | rw [c19b0] | (simp only [i64_w, i32_w]; rw [c19b0]) | skip)
          by_cases c20 : 0 ≤ x5_13
          · rw [if_pos c20] at H
            have c20b0 : decide (0 ≤ x5_13) = true := decide_eq_true c20
            clear c20; have H' := Aside0.mk H; clear H
            have p21 : 0 ≤ (x5_13 : Int) := of_decide_eq_true (by first | (with_reducible assumption) | assumption)
            have q21 : x5_13 < (a0.size : Int) := of_decide_eq_true (by first | (with_reducible assumption) | assumption)
            have hx21 := bt_at a0 x5_13; replace p21 := eq_true p21; replace q21 := eq_true q21
            go_wp2
            go_meet
            case rel => exact ⟨_, (((bt a0 x5_13) == 126)), (by first | rfl | (simp; done) | (simp [*]; done)), H', ⟨by have := HJ4.out; have := HJ13.out; first | omega | exact Nat.le_refl _⟩, by repeat (first | exact Drawn0.refl _ | apply Drawn0.step)⟩
          rw [if_neg c20] at H
          exact absurd H (by simp)
        rw [if_neg c19] at H
        have c19b0 : decide (x5_13 < (a0.size : Int)) = false := decide_eq_false c19
        clear c19
        (first | rw [c19b0] | (simp only [i64_w, i32_w]; rw [c19b0]) | skip)
        have H' := Aside0.mk H; clear H
        go_wp2
        go_meet
        case rel => exact ⟨_, (false), (by first | rfl | (simp; done) | (simp [*]; done)), H', ⟨by have := HJ4.out; have := HJ13.out; first | omega | exact Nat.le_refl _⟩, by repeat (first | exact Drawn0.refl _ | apply Drawn0.step)⟩
       case rest =>
        clear HC18; (try clear c1); (try clear p1); (try clear q1); (try clear hx1); (try clear c2); (try clear p2); (try clear q2); (try clear hx2); (try clear c3); (try clear c4); (try clear c4b0); (try clear c4b1); (try clear c6); (try clear c6b0); (try clear p6); (try clear c7); (try clear c7b0); (try clear c8); (try clear c8b0); (try clear p9); (try clear q9); (try clear hx9); (try clear c10); (try clear c10b0); (try clear c10b1); (try clear c12); (try clear c12b0); (try clear c13); (try clear p13); (try clear q13); (try clear hx13); (try clear c15); (try clear c17); (try clear c17b0); (try clear c19); (try clear c19b0); (try clear c20); (try clear c20b0); (try clear p21); (try clear q21); (try clear hx21); (try clear p1); (try clear p13); (try clear p2); (try clear p21); (try clear p6); (try clear p9); (try clear q1); (try clear q13); (try clear q21); (try clear q9)
        obtain ⟨kq, x51_17, rfl, HA, HJ17, ⟨mc17, rfl⟩⟩ := hcut
        cases kq with
        | zero => exact absurd HA.out (by simp [dowelref04_named.j2])
        | succ kj17 =>
          have H := HA.out; clear HA
          simp only [dowelref04_named.j2] at H
          by_cases c22 : x51_17 = true
          · subst c22
            have H1 : ((dowelref04_digits.f kj17 a0 (wrap64 (x5_13 + 1))).bind fun t118 => (if t118 > (wrap64 (x5_13 + 1)) then (if t118 ≤ (wrap64 (x5_13 + 6)) then (if 0 ≤ (wrap64 (x5_13 + 1)) then (if (wrap64 (x5_13 + 1)) < (a0.size : Int) then (if (bt a0 (wrap64 (x5_13 + 1))) = 48 then (some x5_13) else (some t118)) else (none)) else (none)) else (some x5_13)) else (some x5_13))) = some r := by rw [if_pos rfl] at H; exact H
            clear H; have H := H1; clear H1; replace H := Option.bind_eq_some_iff.mp H
            obtain ⟨t118, A230, H⟩ := H
            replace H : (if t118 > (wrap64 (x5_13 + 1)) then (if t118 ≤ (wrap64 (x5_13 + 6)) then (if 0 ≤ (wrap64 (x5_13 + 1)) then (if (wrap64 (x5_13 + 1)) < (a0.size : Int) then (if (bt a0 (wrap64 (x5_13 + 1))) = 48 then (some x5_13) else (some t118)) else (none)) else (none)) else (some x5_13)) else (some x5_13)) = some r := H
            have A23 := Aside0.mk A230; clear A230
            by_cases c24 : t118 > (wrap64 (x5_13 + 1))
            · rw [if_pos c24] at H
              have c24b0 : decide ((wrap64 (x5_13 + 1)) < t118) = true := decide_eq_true c24
              clear c24
              by_cases c25 : t118 ≤ (wrap64 (x5_13 + 6))
              · rw [if_pos c25] at H
                have c25b0 : decide (t118 ≤ (wrap64 (x5_13 + 6))) = true := decide_eq_true c25
                clear c25
                obtain ⟨ji26, hji26⟩ : ∃ j_ : Int, (wrap64 (x5_13 + 1)) = j_ := ⟨_, rfl⟩
                replace H : (if 0 ≤ (ji26) then (if (ji26) < (a0.size : Int) then (if (bt a0 (ji26)) = 48 then (some x5_13) else (some t118)) else (none)) else (none)) = some r := by first | (rw [hji26] at H; exact H) | (simp only [hji26] at H ⊢; exact H)
                (try rw [hji26] at c24b0)
                (try rw [hji26] at A23)
                have hji26w : (IntKind.i64.wrap (x5_13 + 1)) = ji26 := (i64_w _).trans hji26
                by_cases c27 : 0 ≤ (ji26)
                · rw [if_pos c27] at H
                  have c27b0 : decide (0 ≤ (ji26)) = true := decide_eq_true c27
                  clear c27
                  by_cases c28 : (ji26) < (a0.size : Int)
                  · rw [if_pos c28] at H
                    have c28b0 : decide ((ji26) < (a0.size : Int)) = true := decide_eq_true c28
                    clear c28
                    by_cases c30 : (bt a0 (ji26)) = 48
                    · rw [if_pos c30] at H
                      have c30b0 : ((bt a0 (ji26)) == 48) = true := beq_iff_eq.mpr c30
                      have c30b1 : ((bt a0 (ji26)) != 48) = false := bne_eq_false_iff_eq.mpr c30
                      clear c30
                      obtain rfl := Option.some.inj H
                      go_wp2_with (first | ((with_reducible refine Q51 (f := 34) rfl ?_); refine goesL_ (some 55) rfl rfl Try.func34 (by kernel_rfl) rfl #[.string a0, .int .i64 ji26] rfl (by (try simp only [List.map_toArray, List.map_cons, List.map_nil]); first | done | (simp only [hji26]; rfl) | rfl | (simp only [List.length_drop, List.length_take]; rfl)) ?_; (with_reducible refine (dowelref04_digits.calls kj17 a0 ji26 t118 _ A23.out).mono ?_); rintro e w' ⟨rfl, ⟨nd, rfl⟩⟩; refine ⟨_, rfl, ?_⟩; have p29 : 0 ≤ ((ji26) : Int) := of_decide_eq_true (by first | (with_reducible assumption) | assumption); have q29 : (ji26) < (a0.size : Int) := of_decide_eq_true (by first | (with_reducible assumption) | assumption); have hx29 := bt_at a0 (ji26); replace p29 := eq_true p29; replace q29 := eq_true q29))
                      go_ret
                      exact ⟨by first | rfl | (simp; done) | (simp [i64_w, IntKind.wrap_u8]; done) | (simp [*]; done) | (simp only [← hji26] <;> (first | rfl | simp)) | (simp [*]; done), by repeat (first | exact Drawn0.refl _ | apply Drawn0.step)⟩
                    rw [if_neg c30] at H
                    have c30b0 : ((bt a0 (ji26)) == 48) = false := beq_eq_false_iff_ne.mpr c30
                    have c30b1 : ((bt a0 (ji26)) != 48) = true := bne_iff_ne.mpr c30
                    obtain rfl := Option.some.inj H
                    go_wp2_with (first | ((with_reducible refine Q51 (f := 34) rfl ?_); refine goesL_ (some 55) rfl rfl Try.func34 (by kernel_rfl) rfl #[.string a0, .int .i64 ji26] rfl (by (try simp only [List.map_toArray, List.map_cons, List.map_nil]); first | done | (simp only [hji26]; rfl) | rfl | (simp only [List.length_drop, List.length_take]; rfl)) ?_; (with_reducible refine (dowelref04_digits.calls kj17 a0 ji26 t118 _ A23.out).mono ?_); rintro e w' ⟨rfl, ⟨nd, rfl⟩⟩; refine ⟨_, rfl, ?_⟩; have p29 : 0 ≤ ((ji26) : Int) := of_decide_eq_true (by first | (with_reducible assumption) | assumption); have q29 : (ji26) < (a0.size : Int) := of_decide_eq_true (by first | (with_reducible assumption) | assumption); have hx29 := bt_at a0 (ji26); replace p29 := eq_true p29; replace q29 := eq_true q29))
                    go_ret
                    exact ⟨by first | rfl | (simp; done) | (simp [i64_w, IntKind.wrap_u8]; done) | (simp [*]; done) | (simp only [← hji26] <;> (first | rfl | simp)) | (simp [*]; done), by repeat (first | exact Drawn0.refl _ | apply Drawn0.step)⟩
                  rw [if_neg c28] at H
                  exact absurd H (by simp)
                rw [if_neg c27] at H
                exact absurd H (by simp)
              rw [if_neg c25] at H
              have c25b0 : decide (t118 ≤ (wrap64 (x5_13 + 6))) = false := decide_eq_false c25
              clear c25
              obtain rfl := Option.some.inj H
              go_wp2_with (first | ((with_reducible refine Q51 (f := 34) rfl ?_); refine goesL_ (some 55) rfl rfl Try.func34 (by kernel_rfl) rfl #[.string a0, .int .i64 (wrap64 (x5_13 + 1))] rfl (by (try simp only [List.map_toArray, List.map_cons, List.map_nil]); first | done | rfl | (simp only [List.length_drop, List.length_take]; rfl)) ?_; (with_reducible refine (dowelref04_digits.calls kj17 a0 (wrap64 (x5_13 + 1)) t118 _ A23.out).mono ?_); rintro e w' ⟨rfl, ⟨nd, rfl⟩⟩; refine ⟨_, rfl, ?_⟩))
              go_ret
              exact ⟨by first | rfl | (simp; done) | (simp [*]; done), by repeat (first | exact Drawn0.refl _ | apply Drawn0.step)⟩
            rw [if_neg c24] at H
            have c24b0 : decide ((wrap64 (x5_13 + 1)) < t118) = false := decide_eq_false c24
            clear c24
            obtain rfl := Option.some.inj H
            go_wp2_with (first | ((with_reducible refine Q51 (f := 34) rfl ?_); refine goesL_ (some 55) rfl rfl Try.func34 (by kernel_rfl) rfl #[.string a0, .int .i64 (wrap64 (x5_13 + 1))] rfl (by (try simp only [List.map_toArray, List.map_cons, List.map_nil]); first | done | rfl | (simp only [List.length_drop, List.length_take]; rfl)) ?_; (with_reducible refine (dowelref04_digits.calls kj17 a0 (wrap64 (x5_13 + 1)) t118 _ A23.out).mono ?_); rintro e w' ⟨rfl, ⟨nd, rfl⟩⟩; refine ⟨_, rfl, ?_⟩))
            go_ret
            exact ⟨by first | rfl | (simp; done) | (simp [*]; done), by repeat (first | exact Drawn0.refl _ | apply Drawn0.step)⟩
          replace c22 := Bool.eq_false_iff.mpr c22; subst c22
          have H1 : (some x5_13) = some r := by rw [if_neg (show ¬ (false = true) by decide)] at H; exact H
          clear H; have H := H1; clear H1
          obtain rfl := Option.some.inj H
          go_wp2
          go_ret
          exact ⟨by first | rfl | (simp; done) | (simp [*]; done), by repeat (first | exact Drawn0.refl _ | apply Drawn0.step)⟩
def dowelref04_Name.f (k : Nat) (a0 : ByteArray) : Option (Bool) := if a0.toList = ([] : List UInt8) then (some false) else (if (a0.size : Int) ≤ 64 then ((dowelref04_named.f k a0 0).bind fun t119 => (some (t119 == (a0.size : Int)))) else (some false))
end Go.Proofs.Ytldjdcdoegjmoaa.P
namespace Go.Proofs.Ytldjdcdoegjmoaa.P
open Go.RowKit Go.Proofs.YtldjdcdoegjmoaaW.PrintWords Go.Proofs.YtldjdcdoegjmoaaW.PrintLast Go.Proofs.YtldjdcdoegjmoaaW.PrintMore
set_option linter.unusedVariables false
set_option linter.unusedSimpArgs false
mutual
def dowelref03_Digit.j0 : Nat → Int → Bool → Option (Int)
 | 0, _, _ => none
 | k + 1, x0, x3 => if x3 = true then (some ((x0 - 48) % 256)) else (if x0 ≥ 97 then (dowelref03_Digit.j1 k x0 (decide (x0 ≤ 102))) else (dowelref03_Digit.j1 k x0 false))
def dowelref03_Digit.j1 : Nat → Int → Bool → Option (Int)
 | 0, _, _ => none
 | k + 1, x0, x13 => if x13 = true then (some (((x0 - 97) % 256) + 10)) else (if x0 ≥ 65 then (if x0 ≤ 70 then (some (((x0 - 65) % 256) + 10)) else (some (-1))) else (some (-1)))
end
def dowelref03_Digit.f (k : Nat) (a0 : Int) : Option (Int) := if a0 ≥ 48 then (dowelref03_Digit.j0 k a0 (decide (a0 ≤ 57))) else (dowelref03_Digit.j0 k a0 false)
set_option maxHeartbeats 8000000 in
set_option maxRecDepth 100000 in
theorem dowelref03_Digit.calls (k : Nat) (a0 : Int) (r : Int) (w : World) (h : dowelref03_Digit.f k a0 = some r) :
 Calls Try.prog 69 #[.int .u8 a0] w fun e w' => e = .returned (.int .i64 r) ∧ Drawn0 w w' := by
 have H : (if a0 ≥ 48 then (dowelref03_Digit.j0 k a0 (decide (a0 ≤ 57))) else (dowelref03_Digit.j0 k a0 false)) = some r := h
 clear h; have HC2 := Aside0.mk H; clear H
 go_enter Try.func69, Try.ntmps69
 go_upto_region 1 with (fail)
 go_cut [3] (fun v3 wc => ∃ (kq : Nat) (x3_1 : Bool), v3 = .bool x3_1 ∧ Aside0 (dowelref03_Digit.j0 kq a0 x3_1 = some r) ∧ Aside0 (kq ≤ k) ∧ Drawn0 w wc)
 case first =>
  have H := HC2.out; clear HC2
  by_cases c3 : a0 ≥ 48
  · rw [if_pos c3] at H
    have c3b0 : decide (48 ≤ a0) = true := decide_eq_true c3
    clear c3
    (first | rw [c3b0] | (simp only [i64_w, i32_w]; rw [c3b0]) | skip)
    have H' := Aside0.mk H; clear H
    go_wp2
    go_meet
    case rel => exact ⟨_, (decide (a0 ≤ 57)), (by first | rfl | (simp; done) | (simp [*]; done)), H', ⟨by first | omega | exact Nat.le_refl _⟩, by repeat (first | exact Drawn0.refl _ | apply Drawn0.step)⟩
  rw [if_neg c3] at H
  have c3b0 : decide (48 ≤ a0) = false := decide_eq_false c3
  clear c3
  (first | rw [c3b0] | (simp only [i64_w, i32_w]; rw [c3b0]) | skip)
  have H' := Aside0.mk H; clear H
  go_wp2
  go_meet
  case rel => exact ⟨_, (false), (by first | rfl | (simp; done) | (simp [*]; done)), H', ⟨by first | omega | exact Nat.le_refl _⟩, by repeat (first | exact Drawn0.refl _ | apply Drawn0.step)⟩
 case rest =>
  clear HC2; (try clear p2); (try clear c3); (try clear c3b0)
  obtain ⟨kq, x3_1, rfl, HA, HJ1, ⟨mc1, rfl⟩⟩ := hcut
  cases kq with
  | zero => exact absurd HA.out (by simp [dowelref03_Digit.j0])
  | succ kj1 =>
    have H := HA.out; clear HA
    simp only [dowelref03_Digit.j0] at H
    by_cases c4 : x3_1 = true
    · subst c4
      have H1 : (some ((a0 - 48) % 256)) = some r := by rw [if_pos rfl] at H; exact H
      clear H; have H := H1; clear H1
      obtain rfl := Option.some.inj H
      go_wp2
      go_ret
      exact ⟨by first | rfl | (simp; done) | (simp [*]; done), by repeat (first | exact Drawn0.refl _ | apply Drawn0.step)⟩
    replace c4 := Bool.eq_false_iff.mpr c4; subst c4
    have H1 : (if a0 ≥ 97 then (dowelref03_Digit.j1 kj1 a0 (decide (a0 ≤ 102))) else (dowelref03_Digit.j1 kj1 a0 false)) = some r := by rw [if_neg (show ¬ (false = true) by decide)] at H; exact H
    clear H; have H := H1; clear H1; have HC5 := Aside0.mk H; clear H
    go_upto_region 3 with (fail)
    go_cut [13] (fun v13 wc => ∃ (kq : Nat) (x13_4 : Bool), v13 = .bool x13_4 ∧ Aside0 (dowelref03_Digit.j1 kq a0 x13_4 = some r) ∧ Aside0 (kq ≤ kj1) ∧ Drawn0 w wc)
    case first =>
     have H := HC5.out; clear HC5
     by_cases c6 : a0 ≥ 97
     · rw [if_pos c6] at H
       have c6b0 : decide (97 ≤ a0) = true := decide_eq_true c6
       clear c6
       (first | rw [c6b0] | (simp only [i64_w, i32_w]; rw [c6b0]) | skip)
       have H' := Aside0.mk H; clear H
       go_wp2
       go_meet
       case rel => exact ⟨_, (decide (a0 ≤ 102)), (by first | rfl | (simp; done) | (simp [*]; done)), H', ⟨by have := HJ1.out; first | omega | exact Nat.le_refl _⟩, by repeat (first | exact Drawn0.refl _ | apply Drawn0.step)⟩
     rw [if_neg c6] at H
     have c6b0 : decide (97 ≤ a0) = false := decide_eq_false c6
     clear c6
     (first | rw [c6b0] | (simp only [i64_w, i32_w]; rw [c6b0]) | skip)
     have H' := Aside0.mk H; clear H
     go_wp2
     go_meet
     case rel => exact ⟨_, (false), (by first | rfl | (simp; done) | (simp [*]; done)), H', ⟨by have := HJ1.out; first | omega | exact Nat.le_refl _⟩, by repeat (first | exact Drawn0.refl _ | apply Drawn0.step)⟩
    case rest =>
     clear HC5; (try clear c1); (try clear p2); (try clear c3); (try clear c3b0); (try clear c4); (try clear c6); (try clear c6b0); (try clear p2)
     obtain ⟨kq, x13_4, rfl, HA, HJ4, ⟨mc4, rfl⟩⟩ := hcut
     cases kq with
     | zero => exact absurd HA.out (by simp [dowelref03_Digit.j1])
     | succ kj4 =>
       have H := HA.out; clear HA
       simp only [dowelref03_Digit.j1] at H
       by_cases c7 : x13_4 = true
       · subst c7
         have H1 : (some (((a0 - 97) % 256) + 10)) = some r := by rw [if_pos rfl] at H; exact H
         clear H; have H := H1; clear H1
         obtain rfl := Option.some.inj H
         go_wp2
         go_ret
         exact ⟨by first | rfl | (simp; done) | (simp [*]; done), by repeat (first | exact Drawn0.refl _ | apply Drawn0.step)⟩
       replace c7 := Bool.eq_false_iff.mpr c7; subst c7
       have H1 : (if a0 ≥ 65 then (if a0 ≤ 70 then (some (((a0 - 65) % 256) + 10)) else (some (-1))) else (some (-1))) = some r := by rw [if_neg (show ¬ (false = true) by decide)] at H; exact H
       clear H; have H := H1; clear H1
       by_cases c8 : a0 ≥ 65
       · rw [if_pos c8] at H
         have c8b0 : decide (65 ≤ a0) = true := decide_eq_true c8
         clear c8
         by_cases c9 : a0 ≤ 70
         · rw [if_pos c9] at H
           have c9b0 : decide (a0 ≤ 70) = true := decide_eq_true c9
           clear c9
           obtain rfl := Option.some.inj H
           go_wp2
           go_ret
           exact ⟨by first | rfl | (simp; done) | (simp [*]; done), by repeat (first | exact Drawn0.refl _ | apply Drawn0.step)⟩
         rw [if_neg c9] at H
         have c9b0 : decide (a0 ≤ 70) = false := decide_eq_false c9
         clear c9
         obtain rfl := Option.some.inj H
         go_wp2
         go_ret
         exact ⟨by first | rfl | (simp; done) | (simp [*]; done), by repeat (first | exact Drawn0.refl _ | apply Drawn0.step)⟩
       rw [if_neg c8] at H
       have c8b0 : decide (65 ≤ a0) = false := decide_eq_false c8
       clear c8
       obtain rfl := Option.some.inj H
       go_wp2
       go_ret
       exact ⟨by first | rfl | (simp; done) | (simp [*]; done), by repeat (first | exact Drawn0.refl _ | apply Drawn0.step)⟩
end Go.Proofs.Ytldjdcdoegjmoaa.P
