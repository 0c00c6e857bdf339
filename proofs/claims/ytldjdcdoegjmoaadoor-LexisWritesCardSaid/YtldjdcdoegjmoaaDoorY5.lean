import Derived.Test.YtldjdcdoegjmoaaDoorY1
import Derived.Test.YtldjdcdoegjmoaaDoorY3
import Derived.Test.YtldjdcdoegjmoaaDoorY4
namespace Go.Proofs.YtldjdcdoegjmoaaDoor.P
open Go.RowKit Go.Proofs.YtldjdcdoegjmoaaDoorW.PrintWords Go.Proofs.YtldjdcdoegjmoaaDoorW.PrintLast Go.Proofs.YtldjdcdoegjmoaaDoorW.PrintMore
set_option linter.unusedVariables false
set_option linter.unusedSimpArgs false
mutual
def dowelref04_named.j0 : Nat → ByteArray → Int → Bool → Option (Int)
  | 0, _, _, _ => none
  | k + 1, x0, x5, x32 => if x32 = true then ((dowelref04_own.f k x0 (wrap64 (x5 + 2))).bind fun t179 => (if t179 > (wrap64 (x5 + 2)) then (dowelref04_named.j1 k x0 t179) else (dowelref04_named.j1 k x0 x5))) else (dowelref04_named.j1 k x0 x5)
def dowelref04_named.j1 : Nat → ByteArray → Int → Option (Int)
  | 0, _, _ => none
  | k + 1, x0, x5 => if x5 < (x0.size : Int) then (if 0 ≤ x5 then (dowelref04_named.j2 k x0 x5 ((bt x0 x5) == 126)) else (none)) else (dowelref04_named.j2 k x0 x5 false)
def dowelref04_named.j2 : Nat → ByteArray → Int → Bool → Option (Int)
  | 0, _, _, _ => none
  | k + 1, x0, x5, x51 => if x51 = true then ((dowelref04_digits.f k x0 (wrap64 (x5 + 1))).bind fun t180 => (if t180 > (wrap64 (x5 + 1)) then (if t180 ≤ (wrap64 (x5 + 6)) then (if 0 ≤ (wrap64 (x5 + 1)) then (if (wrap64 (x5 + 1)) < (x0.size : Int) then (if (bt x0 (wrap64 (x5 + 1))) = 48 then (some x5) else (some t180)) else (none)) else (none)) else (some x5)) else (some x5))) else (some x5)
end
def dowelref04_named.f (k : Nat) (a0 : ByteArray) (a1 : Int) : Option (Int) := (dowelref04_own.f k a0 a1).bind fun t178 => (if t178 = a1 then (some a1) else (if (wrap64 (t178 + 1)) < (a0.size : Int) then (if 0 ≤ t178 then (if t178 < (a0.size : Int) then (if (bt a0 t178) = 58 then (if 0 ≤ (wrap64 (t178 + 1)) then (dowelref04_named.j0 k a0 t178 ((bt a0 (wrap64 (t178 + 1))) == 58)) else (none)) else (dowelref04_named.j0 k a0 t178 false)) else (none)) else (none)) else (dowelref04_named.j0 k a0 t178 false)))
set_option maxHeartbeats 8000000 in
set_option maxRecDepth 100000 in
theorem dowelref04_named.calls (k : Nat) (a0 : ByteArray) (a1 : Int) (r : Int) (w : World) (h : dowelref04_named.f k a0 a1 = some r) :
    Calls Tryd.prog 64 #[.string a0, .int .i64 a1] w fun e w' => e = .returned (.int .i64 r) ∧ Drawn0 w w' := by
  have H : ((dowelref04_own.f k a0 a1).bind fun t178 => (if t178 = a1 then (some a1) else (if (wrap64 (t178 + 1)) < (a0.size : Int) then (if 0 ≤ t178 then (if t178 < (a0.size : Int) then (if (bt a0 t178) = 58 then (if 0 ≤ (wrap64 (t178 + 1)) then (dowelref04_named.j0 k a0 t178 ((bt a0 (wrap64 (t178 + 1))) == 58)) else (none)) else (dowelref04_named.j0 k a0 t178 false)) else (none)) else (none)) else (dowelref04_named.j0 k a0 t178 false)))) = some r := h
  clear h
  replace H := Option.bind_eq_some_iff.mp H
  obtain ⟨t178, A30, H⟩ := H
  replace H : (if t178 = a1 then (some a1) else (if (wrap64 (t178 + 1)) < (a0.size : Int) then (if 0 ≤ t178 then (if t178 < (a0.size : Int) then (if (bt a0 t178) = 58 then (if 0 ≤ (wrap64 (t178 + 1)) then (dowelref04_named.j0 k a0 t178 ((bt a0 (wrap64 (t178 + 1))) == 58)) else (none)) else (dowelref04_named.j0 k a0 t178 false)) else (none)) else (none)) else (dowelref04_named.j0 k a0 t178 false))) = some r := H
  have A3 := Aside0.mk A30
  clear A30
  by_cases c4 : t178 = a1
  · rw [if_pos c4] at H
    have c4b0 : (t178 == a1) = true := beq_iff_eq.mpr c4
    have c4b1 : (t178 != a1) = false := bne_eq_false_iff_eq.mpr c4
    clear c4
    obtain rfl := Option.some.inj H
    go_enter Tryd.func64, Tryd.ntmps64
    go_wp2_with (first | ((with_reducible refine Q34 (f := 65) rfl ?_); refine goesL_ (some 10) rfl rfl Tryd.func65 (by kernel_rfl) rfl #[.string a0, .int .i64 a1] rfl (by (try simp only [List.map_toArray, List.map_cons, List.map_nil]); first | done | rfl | (simp only [List.length_drop, List.length_take]; rfl)) ?_; (with_reducible refine (dowelref04_own.calls k a0 a1 t178 _ A3.out).mono ?_); rintro e w' ⟨rfl, ⟨nd, rfl⟩⟩; refine ⟨_, rfl, ?_⟩))
    go_ret
    exact ⟨by first | rfl | (simp; done) | (simp [*]; done), by repeat (first | exact Drawn0.refl _ | apply Drawn0.step)⟩
  · rw [if_neg c4] at H
    have c4b0 : (t178 == a1) = false := beq_eq_false_iff_ne.mpr c4
    have c4b1 : (t178 != a1) = true := bne_iff_ne.mpr c4
    have HC5 := Aside0.mk H
    clear H
    go_enter Tryd.func64, Tryd.ntmps64
    go_upto_region 4 with (first | ((with_reducible refine Q34 (f := 65) rfl ?_); refine goesL_ (some 10) rfl rfl Tryd.func65 (by kernel_rfl) rfl #[.string a0, .int .i64 a1] rfl (by (try simp only [List.map_toArray, List.map_cons, List.map_nil]); first | done | rfl | (simp only [List.length_drop, List.length_take]; rfl)) ?_; (with_reducible refine (dowelref04_own.calls k a0 a1 t178 _ A3.out).mono ?_); rintro e w' ⟨rfl, ⟨nd, rfl⟩⟩; refine ⟨_, rfl, ?_⟩))
    (try simp only [Act.put, List.setIfInBounds_toArray, List.set_cons_zero, List.set_cons_succ])
    go_cut [32] (fun v32 wc => ∃ (kq : Nat) (x32_4 : Bool), v32 = .bool x32_4 ∧ Aside0 (dowelref04_named.j0 kq a0 t178 x32_4 = some r) ∧ Aside0 (kq ≤ k) ∧ Drawn0 w wc)
    case first =>
      have H := HC5.out
      clear HC5
      by_cases c6 : (wrap64 (t178 + 1)) < (a0.size : Int)
      · rw [if_pos c6] at H
        have c6b0 : decide ((wrap64 (t178 + 1)) < (a0.size : Int)) = true := decide_eq_true c6
        clear c6
        (first | rw [c6b0] | (simp only [i64_w, i32_w]; rw [c6b0]) | skip)
        by_cases c7 : 0 ≤ t178
        · rw [if_pos c7] at H
          have c7b0 : decide (0 ≤ t178) = true := decide_eq_true c7
          clear c7
          by_cases c8 : t178 < (a0.size : Int)
          · rw [if_pos c8] at H
            have c8b0 : decide (t178 < (a0.size : Int)) = true := decide_eq_true c8
            clear c8
            by_cases c10 : (bt a0 t178) = 58
            · rw [if_pos c10] at H
              have c10b0 : ((bt a0 t178) == 58) = true := beq_iff_eq.mpr c10
              have c10b1 : ((bt a0 t178) != 58) = false := bne_eq_false_iff_eq.mpr c10
              clear c10
              obtain ⟨ji11, hji11⟩ : ∃ j_ : Int, (wrap64 (t178 + 1)) = j_ := ⟨_, rfl⟩
              replace H : (if 0 ≤ (ji11) then (dowelref04_named.j0 k a0 t178 ((bt a0 (ji11)) == 58)) else (none)) = some r := by first | (rw [hji11] at H; exact H) | (simp only [hji11] at H ⊢; exact H)
              (try rw [hji11] at c6b0)
              have hji11w : (IntKind.i64.wrap (t178 + 1)) = ji11 := (i64_w _).trans hji11
              by_cases c12 : 0 ≤ (ji11)
              · rw [if_pos c12] at H
                have c12b0 : decide (0 ≤ (ji11)) = true := decide_eq_true c12
                clear c12
                have H' := Aside0.mk H
                clear H
                have p9 : 0 ≤ (t178 : Int) := of_decide_eq_true (by first | (with_reducible assumption) | assumption)
                have q9 : t178 < (a0.size : Int) := of_decide_eq_true (by first | (with_reducible assumption) | assumption)
                have hx9 := bt_at a0 t178
                replace p9 := eq_true p9
                replace q9 := eq_true q9
                have p13 : 0 ≤ ((ji11) : Int) := of_decide_eq_true (by first | (with_reducible assumption) | assumption)
                have q13 : (ji11) < (a0.size : Int) := of_decide_eq_true (by first | (with_reducible assumption) | assumption)
                have hx13 := bt_at a0 (ji11)
                replace p13 := eq_true p13
                replace q13 := eq_true q13
                go_wp2
                go_meet
                case rel => exact ⟨_, (((bt a0 (ji11)) == 58)), (by first | rfl | (simp; done) | (simp [*]; done) | (simp only [← hji11] <;> (first | rfl | simp)) | (simp [*]; done)), (by first | exact H' | (have h_ := H'.out; exact Aside0.mk (by first | exact h_ | (simp only [hji11] at h_ ⊢; exact h_)))), ⟨by first | omega | exact Nat.le_refl _⟩, by repeat (first | exact Drawn0.refl _ | apply Drawn0.step)⟩
              · rw [if_neg c12] at H
                exact absurd H (by simp)
            · rw [if_neg c10] at H
              have c10b0 : ((bt a0 t178) == 58) = false := beq_eq_false_iff_ne.mpr c10
              have c10b1 : ((bt a0 t178) != 58) = true := bne_iff_ne.mpr c10
              have H' := Aside0.mk H
              clear H
              have p9 : 0 ≤ (t178 : Int) := of_decide_eq_true (by first | (with_reducible assumption) | assumption)
              have q9 : t178 < (a0.size : Int) := of_decide_eq_true (by first | (with_reducible assumption) | assumption)
              have hx9 := bt_at a0 t178
              replace p9 := eq_true p9
              replace q9 := eq_true q9
              go_wp2
              go_meet
              case rel => exact ⟨_, (false), (by first | rfl | (simp; done) | (simp [*]; done)), H', ⟨by first | omega | exact Nat.le_refl _⟩, by repeat (first | exact Drawn0.refl _ | apply Drawn0.step)⟩
          · rw [if_neg c8] at H
            exact absurd H (by simp)
        · rw [if_neg c7] at H
          exact absurd H (by simp)
      · rw [if_neg c6] at H
        have c6b0 : decide ((wrap64 (t178 + 1)) < (a0.size : Int)) = false := decide_eq_false c6
        clear c6
        (first | rw [c6b0] | (simp only [i64_w, i32_w]; rw [c6b0]) | skip)
        have H' := Aside0.mk H
        clear H
        go_wp2
        go_meet
        case rel => exact ⟨_, (false), (by first | rfl | (simp; done) | (simp [*]; done)), H', ⟨by first | omega | exact Nat.le_refl _⟩, by repeat (first | exact Drawn0.refl _ | apply Drawn0.step)⟩
    case rest =>
      clear HC5
      try clear c1
      try clear p1
      try clear q1
      try clear hx1
      try clear p2
      try clear c4
      try clear c4b0
      try clear c4b1
      try clear c6
      try clear c6b0
      try clear p6
      try clear c7
      try clear c7b0
      try clear c8
      try clear c8b0
      try clear p9
      try clear q9
      try clear hx9
      try clear c10
      try clear c10b0
      try clear c10b1
      try clear c12
      try clear c12b0
      try clear p13
      try clear q13
      try clear hx13
      try clear p13
      try clear p9
      try clear q13
      try clear q9
      obtain ⟨kq, x32_4, rfl, HA, HJ4, ⟨mc4, rfl⟩⟩ := hcut
      cases kq with
      | zero => exact absurd HA.out (by simp [dowelref04_named.j0])
      | succ kj4 =>
        have H := HA.out
        clear HA
        simp only [dowelref04_named.j0] at H
        have HC14 := Aside0.mk H
        clear H
        go_upto_if 32 with (fail)
        go_cut [5] (fun v5 wc => ∃ (kq : Nat) (x5_13 : Int), v5 = .int .i64 x5_13 ∧ Aside0 (dowelref04_named.j1 kq a0 x5_13 = some r) ∧ Aside0 (kq ≤ kj4) ∧ Drawn0 w wc)
        case first =>
          have H := HC14.out
          clear HC14
          by_cases c15 : x32_4 = true
          · subst c15
            have H1 : ((dowelref04_own.f kj4 a0 (wrap64 (t178 + 2))).bind fun t179 => (if t179 > (wrap64 (t178 + 2)) then (dowelref04_named.j1 kj4 a0 t179) else (dowelref04_named.j1 kj4 a0 t178))) = some r := by rw [if_pos rfl] at H; exact H
            clear H
            have H := H1
            clear H1
            replace H := Option.bind_eq_some_iff.mp H
            obtain ⟨t179, A160, H⟩ := H
            replace H : (if t179 > (wrap64 (t178 + 2)) then (dowelref04_named.j1 kj4 a0 t179) else (dowelref04_named.j1 kj4 a0 t178)) = some r := H
            have A16 := Aside0.mk A160
            clear A160
            by_cases c17 : t179 > (wrap64 (t178 + 2))
            · rw [if_pos c17] at H
              have c17b0 : decide ((wrap64 (t178 + 2)) < t179) = true := decide_eq_true c17
              clear c17
              (first | rw [c17b0] | (simp only [i64_w, i32_w]; rw [c17b0]) | skip)
              have H' := Aside0.mk H
              clear H
              go_wp2_with (first | ((with_reducible refine Q34 (f := 65) rfl ?_); refine goesL_ (some 36) rfl rfl Tryd.func65 (by kernel_rfl) rfl #[.string a0, .int .i64 (wrap64 (t178 + 2))] rfl (by (try simp only [List.map_toArray, List.map_cons, List.map_nil]); first | done | rfl | (simp only [List.length_drop, List.length_take]; rfl)) ?_; (with_reducible refine (dowelref04_own.calls kj4 a0 (wrap64 (t178 + 2)) t179 _ A16.out).mono ?_); rintro e w' ⟨rfl, ⟨nd, rfl⟩⟩; refine ⟨_, rfl, ?_⟩))
              go_meet
              case rel => exact ⟨_, (t179), (by first | rfl | (simp; done) | (simp [*]; done)), H', ⟨by have := HJ4.out; first | omega | exact Nat.le_refl _⟩, by repeat (first | exact Drawn0.refl _ | apply Drawn0.step)⟩
            · rw [if_neg c17] at H
              have c17b0 : decide ((wrap64 (t178 + 2)) < t179) = false := decide_eq_false c17
              clear c17
              (first | rw [c17b0] | (simp only [i64_w, i32_w]; rw [c17b0]) | skip)
              have H' := Aside0.mk H
              clear H
              go_wp2_with (first | ((with_reducible refine Q34 (f := 65) rfl ?_); refine goesL_ (some 36) rfl rfl Tryd.func65 (by kernel_rfl) rfl #[.string a0, .int .i64 (wrap64 (t178 + 2))] rfl (by (try simp only [List.map_toArray, List.map_cons, List.map_nil]); first | done | rfl | (simp only [List.length_drop, List.length_take]; rfl)) ?_; (with_reducible refine (dowelref04_own.calls kj4 a0 (wrap64 (t178 + 2)) t179 _ A16.out).mono ?_); rintro e w' ⟨rfl, ⟨nd, rfl⟩⟩; refine ⟨_, rfl, ?_⟩))
              go_meet
              case rel => exact ⟨_, (t178), (by first | rfl | (simp; done) | (simp [*]; done)), H', ⟨by have := HJ4.out; first | omega | exact Nat.le_refl _⟩, by repeat (first | exact Drawn0.refl _ | apply Drawn0.step)⟩
          · replace c15 := Bool.eq_false_iff.mpr c15
            subst c15
            have H1 : (dowelref04_named.j1 kj4 a0 t178) = some r := by rw [if_neg (show ¬ (false = true) by decide)] at H; exact H
            clear H
            have H := H1
            clear H1
            have H' := Aside0.mk H
            clear H
            go_wp2
            go_meet
            case rel => exact ⟨_, (t178), (by first | rfl | (simp; done) | (simp [*]; done)), H', ⟨by have := HJ4.out; first | omega | exact Nat.le_refl _⟩, by repeat (first | exact Drawn0.refl _ | apply Drawn0.step)⟩
        case rest =>
          clear HC14
          try clear c1
          try clear p1
          try clear q1
          try clear hx1
          try clear p2
          try clear c4
          try clear c4b0
          try clear c4b1
          try clear c6
          try clear c6b0
          try clear p6
          try clear c7
          try clear c7b0
          try clear c8
          try clear c8b0
          try clear p9
          try clear q9
          try clear hx9
          try clear c10
          try clear c10b0
          try clear c10b1
          try clear c12
          try clear c12b0
          try clear p13
          try clear q13
          try clear hx13
          try clear c15
          try clear c17
          try clear c17b0
          try clear p1
          try clear p13
          try clear p2
          try clear p6
          try clear p9
          try clear q1
          try clear q13
          try clear q9
          obtain ⟨kq, x5_13, rfl, HA, HJ13, ⟨mc13, rfl⟩⟩ := hcut
          cases kq with
          | zero => exact absurd HA.out (by simp [dowelref04_named.j1])
          | succ kj13 =>
            have H := HA.out
            clear HA
            simp only [dowelref04_named.j1] at H
            have HC18 := Aside0.mk H
            clear H
            go_upto_region 8 with (fail)
            go_cut [51] (fun v51 wc => ∃ (kq : Nat) (x51_17 : Bool), v51 = .bool x51_17 ∧ Aside0 (dowelref04_named.j2 kq a0 x5_13 x51_17 = some r) ∧ Aside0 (kq ≤ kj13) ∧ Drawn0 w wc)
            case first =>
              have H := HC18.out
              clear HC18
              by_cases c19 : x5_13 < (a0.size : Int)
              · rw [if_pos c19] at H
                have c19b0 : decide (x5_13 < (a0.size : Int)) = true := decide_eq_true c19
                clear c19
                (first | rw [c19b0] | (simp only [i64_w, i32_w]; rw [c19b0]) | skip)
                by_cases c20 : 0 ≤ x5_13
                · rw [if_pos c20] at H
                  have c20b0 : decide (0 ≤ x5_13) = true := decide_eq_true c20
                  clear c20
                  have H' := Aside0.mk H
                  clear H
                  have p21 : 0 ≤ (x5_13 : Int) := of_decide_eq_true (by first | (with_reducible assumption) | assumption)
                  have q21 : x5_13 < (a0.size : Int) := of_decide_eq_true (by first | (with_reducible assumption) | assumption)
                  have hx21 := bt_at a0 x5_13
                  replace p21 := eq_true p21
                  replace q21 := eq_true q21
                  go_wp2
                  go_meet
                  case rel => exact ⟨_, (((bt a0 x5_13) == 126)), (by first | rfl | (simp; done) | (simp [*]; done)), H', ⟨by have := HJ4.out; have := HJ13.out; first | omega | exact Nat.le_refl _⟩, by repeat (first | exact Drawn0.refl _ | apply Drawn0.step)⟩
                · rw [if_neg c20] at H
                  exact absurd H (by simp)
              · rw [if_neg c19] at H
                have c19b0 : decide (x5_13 < (a0.size : Int)) = false := decide_eq_false c19
                clear c19
                (first | rw [c19b0] | (simp only [i64_w, i32_w]; rw [c19b0]) | skip)
                have H' := Aside0.mk H
                clear H
                go_wp2
                go_meet
                case rel => exact ⟨_, (false), (by first | rfl | (simp; done) | (simp [*]; done)), H', ⟨by have := HJ4.out; have := HJ13.out; first | omega | exact Nat.le_refl _⟩, by repeat (first | exact Drawn0.refl _ | apply Drawn0.step)⟩
            case rest =>
              clear HC18
              try clear c1
              try clear p1
              try clear q1
              try clear hx1
              try clear c2
              try clear p2
              try clear q2
              try clear hx2
              try clear c4
              try clear c4b0
              try clear c4b1
              try clear c6
              try clear c6b0
              try clear p6
              try clear c7
              try clear c7b0
              try clear c8
              try clear c8b0
              try clear p9
              try clear q9
              try clear hx9
              try clear c10
              try clear c10b0
              try clear c10b1
              try clear c12
              try clear c12b0
              try clear c13
              try clear p13
              try clear q13
              try clear hx13
              try clear c15
              try clear c17
              try clear c17b0
              try clear c19
              try clear c19b0
              try clear c20
              try clear c20b0
              try clear p21
              try clear q21
              try clear hx21
              try clear p1
              try clear p13
              try clear p2
              try clear p21
              try clear p6
              try clear p9
              try clear q1
              try clear q13
              try clear q21
              try clear q9
              obtain ⟨kq, x51_17, rfl, HA, HJ17, ⟨mc17, rfl⟩⟩ := hcut
              cases kq with
              | zero => exact absurd HA.out (by simp [dowelref04_named.j2])
              | succ kj17 =>
                have H := HA.out
                clear HA
                simp only [dowelref04_named.j2] at H
                by_cases c22 : x51_17 = true
                · subst c22
                  have H1 : ((dowelref04_digits.f kj17 a0 (wrap64 (x5_13 + 1))).bind fun t180 => (if t180 > (wrap64 (x5_13 + 1)) then (if t180 ≤ (wrap64 (x5_13 + 6)) then (if 0 ≤ (wrap64 (x5_13 + 1)) then (if (wrap64 (x5_13 + 1)) < (a0.size : Int) then (if (bt a0 (wrap64 (x5_13 + 1))) = 48 then (some x5_13) else (some t180)) else (none)) else (none)) else (some x5_13)) else (some x5_13))) = some r := by rw [if_pos rfl] at H; exact H
                  clear H
                  have H := H1
                  clear H1
                  replace H := Option.bind_eq_some_iff.mp H
                  obtain ⟨t180, A230, H⟩ := H
                  replace H : (if t180 > (wrap64 (x5_13 + 1)) then (if t180 ≤ (wrap64 (x5_13 + 6)) then (if 0 ≤ (wrap64 (x5_13 + 1)) then (if (wrap64 (x5_13 + 1)) < (a0.size : Int) then (if (bt a0 (wrap64 (x5_13 + 1))) = 48 then (some x5_13) else (some t180)) else (none)) else (none)) else (some x5_13)) else (some x5_13)) = some r := H
                  have A23 := Aside0.mk A230
                  clear A230
                  by_cases c24 : t180 > (wrap64 (x5_13 + 1))
                  · rw [if_pos c24] at H
                    have c24b0 : decide ((wrap64 (x5_13 + 1)) < t180) = true := decide_eq_true c24
                    clear c24
                    by_cases c25 : t180 ≤ (wrap64 (x5_13 + 6))
                    · rw [if_pos c25] at H
                      have c25b0 : decide (t180 ≤ (wrap64 (x5_13 + 6))) = true := decide_eq_true c25
                      clear c25
                      obtain ⟨ji26, hji26⟩ : ∃ j_ : Int, (wrap64 (x5_13 + 1)) = j_ := ⟨_, rfl⟩
                      replace H : (if 0 ≤ (ji26) then (if (ji26) < (a0.size : Int) then (if (bt a0 (ji26)) = 48 then (some x5_13) else (some t180)) else (none)) else (none)) = some r := by first | (rw [hji26] at H; exact H) | (simp only [hji26] at H ⊢; exact H)
                      (try rw [hji26] at c24b0)
                      (try rw [hji26] at A23)
                      have hji26w : (IntKind.i64.wrap (x5_13 + 1)) = ji26 := (i64_w _).trans hji26
                      by_cases c27 : 0 ≤ (ji26)
                      · rw [if_pos c27] at H
                        have c27b0 : decide (0 ≤ (ji26)) = true := decide_eq_true c27
                        clear c27
                        by_cases c28 : (ji26) < (a0.size : Int)
                        · rw [if_pos c28] at H
                          have c28b0 : decide ((ji26) < (a0.size : Int)) = true := decide_eq_true c28
                          clear c28
                          by_cases c30 : (bt a0 (ji26)) = 48
                          · rw [if_pos c30] at H
                            have c30b0 : ((bt a0 (ji26)) == 48) = true := beq_iff_eq.mpr c30
                            have c30b1 : ((bt a0 (ji26)) != 48) = false := bne_eq_false_iff_eq.mpr c30
                            clear c30
                            obtain rfl := Option.some.inj H
                            go_wp2_with (first | ((with_reducible refine Q34 (f := 84) rfl ?_); refine goesL_ (some 55) rfl rfl Tryd.func84 (by kernel_rfl) rfl #[.string a0, .int .i64 ji26] rfl (by (try simp only [List.map_toArray, List.map_cons, List.map_nil]); first | done | (simp only [hji26]; rfl) | rfl | (simp only [List.length_drop, List.length_take]; rfl)) ?_; (with_reducible refine (dowelref04_digits.calls kj17 a0 ji26 t180 _ A23.out).mono ?_); rintro e w' ⟨rfl, ⟨nd, rfl⟩⟩; refine ⟨_, rfl, ?_⟩; have p29 : 0 ≤ ((ji26) : Int) := of_decide_eq_true (by first | (with_reducible assumption) | assumption); have q29 : (ji26) < (a0.size : Int) := of_decide_eq_true (by first | (with_reducible assumption) | assumption); have hx29 := bt_at a0 (ji26); replace p29 := eq_true p29; replace q29 := eq_true q29))
                            go_ret
                            exact ⟨by first | rfl | (simp; done) | (simp [i64_w, IntKind.wrap_u8]; done) | (simp [*]; done) | (simp only [← hji26] <;> (first | rfl | simp)) | (simp [*]; done), by repeat (first | exact Drawn0.refl _ | apply Drawn0.step)⟩
                          · rw [if_neg c30] at H
                            have c30b0 : ((bt a0 (ji26)) == 48) = false := beq_eq_false_iff_ne.mpr c30
                            have c30b1 : ((bt a0 (ji26)) != 48) = true := bne_iff_ne.mpr c30
                            obtain rfl := Option.some.inj H
                            go_wp2_with (first | ((with_reducible refine Q34 (f := 84) rfl ?_); refine goesL_ (some 55) rfl rfl Tryd.func84 (by kernel_rfl) rfl #[.string a0, .int .i64 ji26] rfl (by (try simp only [List.map_toArray, List.map_cons, List.map_nil]); first | done | (simp only [hji26]; rfl) | rfl | (simp only [List.length_drop, List.length_take]; rfl)) ?_; (with_reducible refine (dowelref04_digits.calls kj17 a0 ji26 t180 _ A23.out).mono ?_); rintro e w' ⟨rfl, ⟨nd, rfl⟩⟩; refine ⟨_, rfl, ?_⟩; have p29 : 0 ≤ ((ji26) : Int) := of_decide_eq_true (by first | (with_reducible assumption) | assumption); have q29 : (ji26) < (a0.size : Int) := of_decide_eq_true (by first | (with_reducible assumption) | assumption); have hx29 := bt_at a0 (ji26); replace p29 := eq_true p29; replace q29 := eq_true q29))
                            go_ret
                            exact ⟨by first | rfl | (simp; done) | (simp [i64_w, IntKind.wrap_u8]; done) | (simp [*]; done) | (simp only [← hji26] <;> (first | rfl | simp)) | (simp [*]; done), by repeat (first | exact Drawn0.refl _ | apply Drawn0.step)⟩
                        · rw [if_neg c28] at H
                          exact absurd H (by simp)
                      · rw [if_neg c27] at H
                        exact absurd H (by simp)
                    · rw [if_neg c25] at H
                      have c25b0 : decide (t180 ≤ (wrap64 (x5_13 + 6))) = false := decide_eq_false c25
                      clear c25
                      obtain rfl := Option.some.inj H
                      go_wp2_with (first | ((with_reducible refine Q34 (f := 84) rfl ?_); refine goesL_ (some 55) rfl rfl Tryd.func84 (by kernel_rfl) rfl #[.string a0, .int .i64 (wrap64 (x5_13 + 1))] rfl (by (try simp only [List.map_toArray, List.map_cons, List.map_nil]); first | done | rfl | (simp only [List.length_drop, List.length_take]; rfl)) ?_; (with_reducible refine (dowelref04_digits.calls kj17 a0 (wrap64 (x5_13 + 1)) t180 _ A23.out).mono ?_); rintro e w' ⟨rfl, ⟨nd, rfl⟩⟩; refine ⟨_, rfl, ?_⟩))
                      go_ret
                      exact ⟨by first | rfl | (simp; done) | (simp [*]; done), by repeat (first | exact Drawn0.refl _ | apply Drawn0.step)⟩
                  · rw [if_neg c24] at H
                    have c24b0 : decide ((wrap64 (x5_13 + 1)) < t180) = false := decide_eq_false c24
                    clear c24
                    obtain rfl := Option.some.inj H
                    go_wp2_with (first | ((with_reducible refine Q34 (f := 84) rfl ?_); refine goesL_ (some 55) rfl rfl Tryd.func84 (by kernel_rfl) rfl #[.string a0, .int .i64 (wrap64 (x5_13 + 1))] rfl (by (try simp only [List.map_toArray, List.map_cons, List.map_nil]); first | done | rfl | (simp only [List.length_drop, List.length_take]; rfl)) ?_; (with_reducible refine (dowelref04_digits.calls kj17 a0 (wrap64 (x5_13 + 1)) t180 _ A23.out).mono ?_); rintro e w' ⟨rfl, ⟨nd, rfl⟩⟩; refine ⟨_, rfl, ?_⟩))
                    go_ret
                    exact ⟨by first | rfl | (simp; done) | (simp [*]; done), by repeat (first | exact Drawn0.refl _ | apply Drawn0.step)⟩
                · replace c22 := Bool.eq_false_iff.mpr c22
                  subst c22
                  have H1 : (some x5_13) = some r := by rw [if_neg (show ¬ (false = true) by decide)] at H; exact H
                  clear H
                  have H := H1
                  clear H1
                  obtain rfl := Option.some.inj H
                  go_wp2
                  go_ret
                  exact ⟨by first | rfl | (simp; done) | (simp [*]; done), by repeat (first | exact Drawn0.refl _ | apply Drawn0.step)⟩
def dowelref04_Name.f (k : Nat) (a0 : ByteArray) : Option (Bool) := if a0.toList = ([] : List UInt8) then (some false) else (if (a0.size : Int) ≤ 64 then ((dowelref04_named.f k a0 0).bind fun t181 => (some (t181 == (a0.size : Int)))) else (some false))
set_option maxHeartbeats 8000000 in
set_option maxRecDepth 100000 in
theorem dowelref04_Name.calls (k : Nat) (a0 : ByteArray) (r : Bool) (w : World) (h : dowelref04_Name.f k a0 = some r) :
    Calls Tryd.prog 39 #[.string a0] w fun e w' => e = .returned (.bool r) ∧ Drawn0 w w' := by
  have H : (if a0.toList = ([] : List UInt8) then (some false) else (if (a0.size : Int) ≤ 64 then ((dowelref04_named.f k a0 0).bind fun t181 => (some (t181 == (a0.size : Int)))) else (some false))) = some r := h
  clear h
  by_cases c2 : a0.toList = ([] : List UInt8)
  · rw [if_pos c2] at H
    have c2b0 : (a0.toList == ([] : List UInt8)) = true := beq_iff_eq.mpr c2
    have c2b1 : (a0.toList != ([] : List UInt8)) = false := bne_eq_false_iff_eq.mpr c2
    clear c2
    obtain rfl := Option.some.inj H
    go_enter Tryd.func39, Tryd.ntmps39
    go_wp2
    go_ret
    exact ⟨by first | rfl | (simp; done) | (simp [*]; done), by repeat (first | exact Drawn0.refl _ | apply Drawn0.step)⟩
  · rw [if_neg c2] at H
    have c2b0 : (a0.toList == ([] : List UInt8)) = false := beq_eq_false_iff_ne.mpr c2
    have c2b1 : (a0.toList != ([] : List UInt8)) = true := bne_iff_ne.mpr c2
    by_cases c3 : (a0.size : Int) ≤ 64
    · rw [if_pos c3] at H
      have c3b0 : decide ((a0.size : Int) ≤ 64) = true := decide_eq_true c3
      have c3b1 : decide (a0.size ≤ 64) = true := decide_eq_true (by omega)
      clear c3
      replace H := Option.bind_eq_some_iff.mp H
      obtain ⟨t181, A40, H⟩ := H
      replace H : (some (t181 == (a0.size : Int))) = some r := H
      have A4 := Aside0.mk A40
      clear A40
      obtain rfl := Option.some.inj H
      go_enter Tryd.func39, Tryd.ntmps39
      go_wp2_with (first | (go_at_call 64; (with_reducible refine (dowelref04_named.calls k a0 0 t181 _ A4.out).mono ?_); rintro e w' ⟨rfl, ⟨nd, rfl⟩⟩))
      go_ret
      exact ⟨by first | rfl | (simp; done) | (simp [*]; done), by repeat (first | exact Drawn0.refl _ | apply Drawn0.step)⟩
    · rw [if_neg c3] at H
      have c3b0 : decide ((a0.size : Int) ≤ 64) = false := decide_eq_false c3
      have c3b1 : decide (a0.size ≤ 64) = false := decide_eq_false (by omega)
      clear c3
      obtain rfl := Option.some.inj H
      go_enter Tryd.func39, Tryd.ntmps39
      go_wp2
      go_ret
      exact ⟨by first | rfl | (simp; done) | (simp [*]; done), by repeat (first | exact Drawn0.refl _ | apply Drawn0.step)⟩
def dowelref04_Own.f (k : Nat) (a0 : ByteArray) : Option (Bool) := if a0.toList = ([] : List UInt8) then (some false) else (if (a0.size : Int) ≤ 64 then ((dowelref04_own.f k a0 0).bind fun t182 => (some (t182 == (a0.size : Int)))) else (some false))
set_option maxHeartbeats 8000000 in
set_option maxRecDepth 100000 in
theorem dowelref04_Own.calls (k : Nat) (a0 : ByteArray) (r : Bool) (w : World) (h : dowelref04_Own.f k a0 = some r) :
    Calls Tryd.prog 40 #[.string a0] w fun e w' => e = .returned (.bool r) ∧ Drawn0 w w' := by
  have H : (if a0.toList = ([] : List UInt8) then (some false) else (if (a0.size : Int) ≤ 64 then ((dowelref04_own.f k a0 0).bind fun t182 => (some (t182 == (a0.size : Int)))) else (some false))) = some r := h
  clear h
  by_cases c2 : a0.toList = ([] : List UInt8)
  · rw [if_pos c2] at H
    have c2b0 : (a0.toList == ([] : List UInt8)) = true := beq_iff_eq.mpr c2
    have c2b1 : (a0.toList != ([] : List UInt8)) = false := bne_eq_false_iff_eq.mpr c2
    clear c2
    obtain rfl := Option.some.inj H
    go_enter Tryd.func40, Tryd.ntmps40
    go_wp2
    go_ret
    exact ⟨by first | rfl | (simp; done) | (simp [*]; done), by repeat (first | exact Drawn0.refl _ | apply Drawn0.step)⟩
  · rw [if_neg c2] at H
    have c2b0 : (a0.toList == ([] : List UInt8)) = false := beq_eq_false_iff_ne.mpr c2
    have c2b1 : (a0.toList != ([] : List UInt8)) = true := bne_iff_ne.mpr c2
    by_cases c3 : (a0.size : Int) ≤ 64
    · rw [if_pos c3] at H
      have c3b0 : decide ((a0.size : Int) ≤ 64) = true := decide_eq_true c3
      have c3b1 : decide (a0.size ≤ 64) = true := decide_eq_true (by omega)
      clear c3
      replace H := Option.bind_eq_some_iff.mp H
      obtain ⟨t182, A40, H⟩ := H
      replace H : (some (t182 == (a0.size : Int))) = some r := H
      have A4 := Aside0.mk A40
      clear A40
      obtain rfl := Option.some.inj H
      go_enter Tryd.func40, Tryd.ntmps40
      go_wp2_with (first | (go_at_call 65; (with_reducible refine (dowelref04_own.calls k a0 0 t182 _ A4.out).mono ?_); rintro e w' ⟨rfl, ⟨nd, rfl⟩⟩))
      go_ret
      exact ⟨by first | rfl | (simp; done) | (simp [*]; done), by repeat (first | exact Drawn0.refl _ | apply Drawn0.step)⟩
    · rw [if_neg c3] at H
      have c3b0 : decide ((a0.size : Int) ≤ 64) = false := decide_eq_false c3
      have c3b1 : decide (a0.size ≤ 64) = false := decide_eq_false (by omega)
      clear c3
      obtain rfl := Option.some.inj H
      go_enter Tryd.func40, Tryd.ntmps40
      go_wp2
      go_ret
      exact ⟨by first | rfl | (simp; done) | (simp [*]; done), by repeat (first | exact Drawn0.refl _ | apply Drawn0.step)⟩
end Go.Proofs.YtldjdcdoegjmoaaDoor.P
namespace Go.Proofs.YtldjdcdoegjmoaaDoor.P
open Go.RowKit Go.Proofs.YtldjdcdoegjmoaaDoorW.PrintWords Go.Proofs.YtldjdcdoegjmoaaDoorW.PrintLast Go.Proofs.YtldjdcdoegjmoaaDoorW.PrintMore
set_option linter.unusedVariables false
set_option linter.unusedSimpArgs false
attribute [local go_sem high] eqA26
def dowelref04_Right.j0 : Nat → Int → Bool → Int → Int → Int → ByteArray → Bool → Int → Int → Int → Int → Int → Int → Int → Int → Int → ByteArray → Bool → Int → Int → Int → Int → Int → Int → Option (Bool)
  | 0, _, _, _, _, _, _, _, _, _, _, _, _, _, _, _, _, _, _, _, _, _, _, _, _ => none
  | k + 1, x9, x21, x184000, x184001, x184002, x184003, x184004, x184005, x184006, x184007, x184008, x184009, x184010, x185000, x185001, x185002, x185003, x185004, x185005, x185006, x185007, x185008, x185009, x185010 => if x21 = true then (if (x185000 == 0 && (x185001 == 0 && (x185002 == 0 && (!x185004 && ((x185005 == 0 && (x185006 == 0 && (x185007 == 0 && (x185008 == 0)))) && (x185009 == 0 && (x185010 == 0))))))) = true then ((dowelref04_Own.f k x184003).bind fun t186 => (some t186)) else (some false)) else (if x9 = 9 then (if (x185000 == 0 && (x185001 == 0 && (x185002 == 0 && (x185003.toList == ([] : List UInt8) && (!x185004 && ((x185005 == 0 && (x185006 == 0 && (x185007 == 0 && (x185008 == 0)))))))))) = true then (if x184009 ≥ 0 then (if x184009 ≤ 255 then (if x184010 = (-1) then (some true) else (if x184010 ≥ x184009 then (some (decide (x184010 ≤ 255))) else (some false))) else (some false)) else (some false)) else (some false)) else (if x9 = 14 then (some (x185000 == 0 && (x185001 == 0 && (x185002 == 0 && ((x185005 == 0 && (x185006 == 0 && (x185007 == 0 && (x185008 == 0)))) && (x185009 == 0 && (x185010 == 0))))))) else (if x9 = 15 then (some (x185000 == 0 && (x185001 == 0 && (x185002 == 0 && (x185003.toList == ([] : List UInt8) && (!x185004 && (x185009 == 0 && (x185010 == 0)))))))) else (if x184000 ≥ 0 then (if x184000 ≤ 17 then (some (x185000 == 0 && (x185001 == 0 && (x185002 == 0 && (x185003.toList == ([] : List UInt8) && (!x185004 && ((x185005 == 0 && (x185006 == 0 && (x185007 == 0 && (x185008 == 0)))) && (x185009 == 0 && (x185010 == 0))))))))) else (some false)) else (some false)))))
def dowelref04_Right.f (k : Nat) (a0_0 : Int) (a0_1 : Int) (a0_2 : Int) (a0_3 : ByteArray) (a0_4 : Bool) (a0_5 : Int) (a0_6 : Int) (a0_7 : Int) (a0_8 : Int) (a0_9 : Int) (a0_10 : Int) : Option (Bool) := if a0_0 = 1 then (if (!a0_4 && ((a0_5 == 0 && (a0_6 == 0 && (a0_7 == 0 && (a0_8 == 0)))) && (a0_9 == 0 && (a0_10 == 0)))) = true then ((dowelref04_Name.f k a0_3).bind fun t185 => (some t185)) else (some false)) else (if a0_0 = 16 then (dowelref04_Right.j0 k a0_0 (a0_0 == 16) a0_0 a0_1 a0_2 a0_3 a0_4 a0_5 a0_6 a0_7 a0_8 a0_9 a0_10 0 0 0 a0_3 a0_4 a0_5 a0_6 a0_7 a0_8 a0_9 a0_10) else (dowelref04_Right.j0 k a0_0 (a0_0 == 17) a0_0 a0_1 a0_2 a0_3 a0_4 a0_5 a0_6 a0_7 a0_8 a0_9 a0_10 0 0 0 a0_3 a0_4 a0_5 a0_6 a0_7 a0_8 a0_9 a0_10))
theorem dowelref04_Right.below2 (w : World) (o1 o2 : Obj) : Below w.heap.size w ((w.alloc o1).alloc o2) :=
  ((Below.refl _ _).alloc (Nat.le_refl _) _).alloc (by simp) _
theorem dowelref04_Right.below2d {w w' : World} {o1 o2 : Obj} (h : Drawn0 ((w.alloc o1).alloc o2) w') : Below w.heap.size w w' := by
  obtain ⟨n, rfl⟩ := h
  exact ⟨(dowelref04_Right.below2 w o1 o2).os, (dowelref04_Right.below2 w o1 o2).tape, (dowelref04_Right.below2 w o1 o2).output, (dowelref04_Right.below2 w o1 o2).size, (dowelref04_Right.below2 w o1 o2).block⟩
set_option maxRecDepth 100000 in
set_option maxHeartbeats 2000000 in
theorem dowelref04_Right.w1 (a1 a2 : Int) (a3 : ByteArray) (a4 : Bool) (a5 a6 a7 a8 a9 a10 : Int) (w : World) (k : Nat) (r : Bool) (hT : (!a4 && ((a5 == 0 && (a6 == 0 && (a7 == 0 && (a8 == 0)))) && (a9 == 0 && (a10 == 0)))) = true) (hr : dowelref04_Name.f k a3 = some r) :
    Calls Tryd.prog 21 #[.agg #[.int .i64 1, .int .i64 a1, .int .i64 a2, .string a3, .bool a4, .int .u64 a5, .int .u64 a6, .int .u64 a7, .int .u64 a8, .int .i64 a9, .int .i64 a10]] w fun e w' => e = .returned (.bool r) ∧ Below w.heap.size w w' := by
  go_enter Tryd.func21, Tryd.ntmps21
  go_wp2_with fail
  refine (dowelref04_Name.calls k a3 r _ hr).mono ?_
  rintro e W2 ⟨rfl, hb2⟩
  have hB := dowelref04_Right.below2d hb2
  clear hb2
  go_wp2
  go_ret
  exact ⟨rfl, hB⟩
set_option maxRecDepth 100000 in
set_option maxHeartbeats 2000000 in
theorem dowelref04_Right.w1f (a1 a2 : Int) (a3 : ByteArray) (a4 : Bool) (a5 a6 a7 a8 a9 a10 : Int) (w : World) (hT : (!a4 && ((a5 == 0 && (a6 == 0 && (a7 == 0 && (a8 == 0)))) && (a9 == 0 && (a10 == 0)))) = false) :
    Calls Tryd.prog 21 #[.agg #[.int .i64 1, .int .i64 a1, .int .i64 a2, .string a3, .bool a4, .int .u64 a5, .int .u64 a6, .int .u64 a7, .int .u64 a8, .int .i64 a9, .int .i64 a10]] w fun e w' => e = .returned (.bool false) ∧ Below w.heap.size w w' := by
  go_enter Tryd.func21, Tryd.ntmps21
  go_wp2
  go_ret
  exact ⟨rfl, dowelref04_Right.below2 _ _ _⟩
set_option maxRecDepth 100000 in
set_option maxHeartbeats 2000000 in
theorem dowelref04_Right.w16 (a1 a2 : Int) (a3 : ByteArray) (a4 : Bool) (a5 a6 a7 a8 a9 a10 : Int) (w : World) (k : Nat) (r : Bool) (hT : (!a4 && ((a5 == 0 && (a6 == 0 && (a7 == 0 && (a8 == 0)))) && (a9 == 0 && (a10 == 0)))) = true) (hr : dowelref04_Own.f k a3 = some r) :
    Calls Tryd.prog 21 #[.agg #[.int .i64 16, .int .i64 a1, .int .i64 a2, .string a3, .bool a4, .int .u64 a5, .int .u64 a6, .int .u64 a7, .int .u64 a8, .int .i64 a9, .int .i64 a10]] w fun e w' => e = .returned (.bool r) ∧ Below w.heap.size w w' := by
  go_enter Tryd.func21, Tryd.ntmps21
  go_wp2_with fail
  refine (dowelref04_Own.calls k a3 r _ hr).mono ?_
  rintro e W2 ⟨rfl, hb2⟩
  have hB := dowelref04_Right.below2d hb2
  clear hb2
  go_wp2
  go_ret
  exact ⟨rfl, hB⟩
set_option maxRecDepth 100000 in
set_option maxHeartbeats 2000000 in
theorem dowelref04_Right.w16f (a1 a2 : Int) (a3 : ByteArray) (a4 : Bool) (a5 a6 a7 a8 a9 a10 : Int) (w : World) (hT : (!a4 && ((a5 == 0 && (a6 == 0 && (a7 == 0 && (a8 == 0)))) && (a9 == 0 && (a10 == 0)))) = false) :
    Calls Tryd.prog 21 #[.agg #[.int .i64 16, .int .i64 a1, .int .i64 a2, .string a3, .bool a4, .int .u64 a5, .int .u64 a6, .int .u64 a7, .int .u64 a8, .int .i64 a9, .int .i64 a10]] w fun e w' => e = .returned (.bool false) ∧ Below w.heap.size w w' := by
  go_enter Tryd.func21, Tryd.ntmps21
  go_wp2
  go_ret
  exact ⟨rfl, dowelref04_Right.below2 _ _ _⟩
set_option maxRecDepth 100000 in
set_option maxHeartbeats 2000000 in
theorem dowelref04_Right.w17 (a1 a2 : Int) (a3 : ByteArray) (a4 : Bool) (a5 a6 a7 a8 a9 a10 : Int) (w : World) (k : Nat) (r : Bool) (hT : (!a4 && ((a5 == 0 && (a6 == 0 && (a7 == 0 && (a8 == 0)))) && (a9 == 0 && (a10 == 0)))) = true) (hr : dowelref04_Own.f k a3 = some r) :
    Calls Tryd.prog 21 #[.agg #[.int .i64 17, .int .i64 a1, .int .i64 a2, .string a3, .bool a4, .int .u64 a5, .int .u64 a6, .int .u64 a7, .int .u64 a8, .int .i64 a9, .int .i64 a10]] w fun e w' => e = .returned (.bool r) ∧ Below w.heap.size w w' := by
  go_enter Tryd.func21, Tryd.ntmps21
  go_wp2_with fail
  refine (dowelref04_Own.calls k a3 r _ hr).mono ?_
  rintro e W2 ⟨rfl, hb2⟩
  have hB := dowelref04_Right.below2d hb2
  clear hb2
  go_wp2
  go_ret
  exact ⟨rfl, hB⟩
set_option maxRecDepth 100000 in
set_option maxHeartbeats 2000000 in
theorem dowelref04_Right.w17f (a1 a2 : Int) (a3 : ByteArray) (a4 : Bool) (a5 a6 a7 a8 a9 a10 : Int) (w : World) (hT : (!a4 && ((a5 == 0 && (a6 == 0 && (a7 == 0 && (a8 == 0)))) && (a9 == 0 && (a10 == 0)))) = false) :
    Calls Tryd.prog 21 #[.agg #[.int .i64 17, .int .i64 a1, .int .i64 a2, .string a3, .bool a4, .int .u64 a5, .int .u64 a6, .int .u64 a7, .int .u64 a8, .int .i64 a9, .int .i64 a10]] w fun e w' => e = .returned (.bool false) ∧ Below w.heap.size w w' := by
  go_enter Tryd.func21, Tryd.ntmps21
  go_wp2
  go_ret
  exact ⟨rfl, dowelref04_Right.below2 _ _ _⟩
set_option maxRecDepth 100000 in
set_option maxHeartbeats 2000000 in
theorem dowelref04_Right.w9f (a1 a2 : Int) (a3 : ByteArray) (a4 : Bool) (a5 a6 a7 a8 a9 a10 : Int) (w : World) (hT : (a3.toList.isEmpty && (!a4 && (a5 == 0 && (a6 == 0 && (a7 == 0 && (a8 == 0)))))) = false) :
    Calls Tryd.prog 21 #[.agg #[.int .i64 9, .int .i64 a1, .int .i64 a2, .string a3, .bool a4, .int .u64 a5, .int .u64 a6, .int .u64 a7, .int .u64 a8, .int .i64 a9, .int .i64 a10]] w fun e w' => e = .returned (.bool false) ∧ Below w.heap.size w w' := by
  go_enter Tryd.func21, Tryd.ntmps21
  go_wp2
  go_ret
  exact ⟨rfl, dowelref04_Right.below2 _ _ _⟩
set_option maxRecDepth 100000 in
set_option maxHeartbeats 2000000 in
theorem dowelref04_Right.w9a (a1 a2 : Int) (a3 : ByteArray) (a4 : Bool) (a5 a6 a7 a8 a9 a10 : Int) (w : World) (hT : (a3.toList.isEmpty && (!a4 && (a5 == 0 && (a6 == 0 && (a7 == 0 && (a8 == 0)))))) = true) (h1 : decide (0 ≤ a9) = false) :
    Calls Tryd.prog 21 #[.agg #[.int .i64 9, .int .i64 a1, .int .i64 a2, .string a3, .bool a4, .int .u64 a5, .int .u64 a6, .int .u64 a7, .int .u64 a8, .int .i64 a9, .int .i64 a10]] w fun e w' => e = .returned (.bool false) ∧ Below w.heap.size w w' := by
  go_enter Tryd.func21, Tryd.ntmps21
  go_wp2
  go_ret
  exact ⟨rfl, dowelref04_Right.below2 _ _ _⟩
set_option maxRecDepth 100000 in
set_option maxHeartbeats 2000000 in
theorem dowelref04_Right.w9b (a1 a2 : Int) (a3 : ByteArray) (a4 : Bool) (a5 a6 a7 a8 a9 a10 : Int) (w : World) (hT : (a3.toList.isEmpty && (!a4 && (a5 == 0 && (a6 == 0 && (a7 == 0 && (a8 == 0)))))) = true) (h1 : decide (0 ≤ a9) = true) (h2 : decide (a9 ≤ 255) = false) :
    Calls Tryd.prog 21 #[.agg #[.int .i64 9, .int .i64 a1, .int .i64 a2, .string a3, .bool a4, .int .u64 a5, .int .u64 a6, .int .u64 a7, .int .u64 a8, .int .i64 a9, .int .i64 a10]] w fun e w' => e = .returned (.bool false) ∧ Below w.heap.size w w' := by
  go_enter Tryd.func21, Tryd.ntmps21
  go_wp2
  go_ret
  exact ⟨rfl, dowelref04_Right.below2 _ _ _⟩
set_option maxRecDepth 100000 in
set_option maxHeartbeats 2000000 in
theorem dowelref04_Right.w9c (a1 a2 : Int) (a3 : ByteArray) (a4 : Bool) (a5 a6 a7 a8 a9 a10 : Int) (w : World) (hT : (a3.toList.isEmpty && (!a4 && (a5 == 0 && (a6 == 0 && (a7 == 0 && (a8 == 0)))))) = true) (h1 : decide (0 ≤ a9) = true) (h2 : decide (a9 ≤ 255) = true) (h3 : (a10 == -1) = true) :
    Calls Tryd.prog 21 #[.agg #[.int .i64 9, .int .i64 a1, .int .i64 a2, .string a3, .bool a4, .int .u64 a5, .int .u64 a6, .int .u64 a7, .int .u64 a8, .int .i64 a9, .int .i64 a10]] w fun e w' => e = .returned (.bool true) ∧ Below w.heap.size w w' := by
  go_enter Tryd.func21, Tryd.ntmps21
  go_wp2
  go_ret
  exact ⟨rfl, dowelref04_Right.below2 _ _ _⟩
set_option maxRecDepth 100000 in
set_option maxHeartbeats 2000000 in
theorem dowelref04_Right.w9d (a1 a2 : Int) (a3 : ByteArray) (a4 : Bool) (a5 a6 a7 a8 a9 a10 : Int) (w : World) (hT : (a3.toList.isEmpty && (!a4 && (a5 == 0 && (a6 == 0 && (a7 == 0 && (a8 == 0)))))) = true) (h1 : decide (0 ≤ a9) = true) (h2 : decide (a9 ≤ 255) = true) (h3 : (a10 == -1) = false) (h4 : decide (a9 ≤ a10) = false) :
    Calls Tryd.prog 21 #[.agg #[.int .i64 9, .int .i64 a1, .int .i64 a2, .string a3, .bool a4, .int .u64 a5, .int .u64 a6, .int .u64 a7, .int .u64 a8, .int .i64 a9, .int .i64 a10]] w fun e w' => e = .returned (.bool false) ∧ Below w.heap.size w w' := by
  go_enter Tryd.func21, Tryd.ntmps21
  go_wp2
  go_ret
  exact ⟨rfl, dowelref04_Right.below2 _ _ _⟩
set_option maxRecDepth 100000 in
set_option maxHeartbeats 2000000 in
theorem dowelref04_Right.w9e (a1 a2 : Int) (a3 : ByteArray) (a4 : Bool) (a5 a6 a7 a8 a9 a10 : Int) (w : World) (hT : (a3.toList.isEmpty && (!a4 && (a5 == 0 && (a6 == 0 && (a7 == 0 && (a8 == 0)))))) = true) (h1 : decide (0 ≤ a9) = true) (h2 : decide (a9 ≤ 255) = true) (h3 : (a10 == -1) = false) (h4 : decide (a9 ≤ a10) = true) (b : Bool) (h5 : decide (a10 ≤ 255) = b) :
    Calls Tryd.prog 21 #[.agg #[.int .i64 9, .int .i64 a1, .int .i64 a2, .string a3, .bool a4, .int .u64 a5, .int .u64 a6, .int .u64 a7, .int .u64 a8, .int .i64 a9, .int .i64 a10]] w fun e w' => e = .returned (.bool b) ∧ Below w.heap.size w w' := by
  cases b
  · go_enter Tryd.func21, Tryd.ntmps21
    go_wp2
    go_ret
    exact ⟨rfl, dowelref04_Right.below2 _ _ _⟩
  · go_enter Tryd.func21, Tryd.ntmps21
    go_wp2
    go_ret
    exact ⟨rfl, dowelref04_Right.below2 _ _ _⟩
set_option maxRecDepth 100000 in
set_option maxHeartbeats 2000000 in
theorem dowelref04_Right.w14 (a1 a2 : Int) (a3 : ByteArray) (a4 : Bool) (a5 a6 a7 a8 a9 a10 : Int) (w : World) (b : Bool) (hT : ((a5 == 0 && (a6 == 0 && (a7 == 0 && (a8 == 0)))) && (a9 == 0 && (a10 == 0))) = b) :
    Calls Tryd.prog 21 #[.agg #[.int .i64 14, .int .i64 a1, .int .i64 a2, .string a3, .bool a4, .int .u64 a5, .int .u64 a6, .int .u64 a7, .int .u64 a8, .int .i64 a9, .int .i64 a10]] w fun e w' => e = .returned (.bool b) ∧ Below w.heap.size w w' := by
  go_enter Tryd.func21, Tryd.ntmps21
  go_wp2
  go_ret
  exact ⟨by (rw [← hT]) <;> simp [Bool.and_assoc], dowelref04_Right.below2 _ _ _⟩
set_option maxRecDepth 100000 in
set_option maxHeartbeats 2000000 in
theorem dowelref04_Right.w15 (a1 a2 : Int) (a3 : ByteArray) (a4 : Bool) (a5 a6 a7 a8 a9 a10 : Int) (w : World) (b : Bool) (hT : (a3.toList.isEmpty && (!a4 && (a9 == 0 && (a10 == 0)))) = b) :
    Calls Tryd.prog 21 #[.agg #[.int .i64 15, .int .i64 a1, .int .i64 a2, .string a3, .bool a4, .int .u64 a5, .int .u64 a6, .int .u64 a7, .int .u64 a8, .int .i64 a9, .int .i64 a10]] w fun e w' => e = .returned (.bool b) ∧ Below w.heap.size w w' := by
  go_enter Tryd.func21, Tryd.ntmps21
  go_wp2
  go_ret
  exact ⟨by (rw [← hT]) <;> simp [Bool.and_assoc], dowelref04_Right.below2 _ _ _⟩
set_option maxRecDepth 100000 in
set_option maxHeartbeats 2000000 in
theorem dowelref04_Right.wda (a1 a2 : Int) (a3 : ByteArray) (a4 : Bool) (a5 a6 a7 a8 a9 a10 : Int) (w : World) (a0 : Int) (d1 : (a0 == 1) = false) (d2 : (a0 == 16) = false) (d3 : (a0 == 17) = false) (d4 : (a0 == 9) = false) (d5 : (a0 == 14) = false) (d6 : (a0 == 15) = false) (h1 : decide (0 ≤ a0) = false) :
    Calls Tryd.prog 21 #[.agg #[.int .i64 a0, .int .i64 a1, .int .i64 a2, .string a3, .bool a4, .int .u64 a5, .int .u64 a6, .int .u64 a7, .int .u64 a8, .int .i64 a9, .int .i64 a10]] w fun e w' => e = .returned (.bool false) ∧ Below w.heap.size w w' := by
  go_enter Tryd.func21, Tryd.ntmps21
  go_wp2
  go_ret
  exact ⟨rfl, dowelref04_Right.below2 _ _ _⟩
set_option maxRecDepth 100000 in
set_option maxHeartbeats 2000000 in
theorem dowelref04_Right.wdb (a1 a2 : Int) (a3 : ByteArray) (a4 : Bool) (a5 a6 a7 a8 a9 a10 : Int) (w : World) (a0 : Int) (d1 : (a0 == 1) = false) (d2 : (a0 == 16) = false) (d3 : (a0 == 17) = false) (d4 : (a0 == 9) = false) (d5 : (a0 == 14) = false) (d6 : (a0 == 15) = false) (h1 : decide (0 ≤ a0) = true) (h2 : decide (a0 ≤ 17) = false) :
    Calls Tryd.prog 21 #[.agg #[.int .i64 a0, .int .i64 a1, .int .i64 a2, .string a3, .bool a4, .int .u64 a5, .int .u64 a6, .int .u64 a7, .int .u64 a8, .int .i64 a9, .int .i64 a10]] w fun e w' => e = .returned (.bool false) ∧ Below w.heap.size w w' := by
  go_enter Tryd.func21, Tryd.ntmps21
  go_wp2
  go_ret
  exact ⟨rfl, dowelref04_Right.below2 _ _ _⟩
set_option maxRecDepth 100000 in
set_option maxHeartbeats 2000000 in
theorem dowelref04_Right.wdc (a1 a2 : Int) (a3 : ByteArray) (a4 : Bool) (a5 a6 a7 a8 a9 a10 : Int) (w : World) (a0 : Int) (d1 : (a0 == 1) = false) (d2 : (a0 == 16) = false) (d3 : (a0 == 17) = false) (d4 : (a0 == 9) = false) (d5 : (a0 == 14) = false) (d6 : (a0 == 15) = false) (h1 : decide (0 ≤ a0) = true) (h2 : decide (a0 ≤ 17) = true) (b : Bool) (hT : (a3.toList.isEmpty && (!a4 && ((a5 == 0 && (a6 == 0 && (a7 == 0 && (a8 == 0)))) && (a9 == 0 && (a10 == 0))))) = b) :
    Calls Tryd.prog 21 #[.agg #[.int .i64 a0, .int .i64 a1, .int .i64 a2, .string a3, .bool a4, .int .u64 a5, .int .u64 a6, .int .u64 a7, .int .u64 a8, .int .i64 a9, .int .i64 a10]] w fun e w' => e = .returned (.bool b) ∧ Below w.heap.size w w' := by
  go_enter Tryd.func21, Tryd.ntmps21
  go_wp2
  go_ret
  exact ⟨by (rw [← hT]) <;> simp [Bool.and_assoc], dowelref04_Right.below2 _ _ _⟩
set_option maxRecDepth 100000 in
theorem dowelref04_Right.calls (k : Nat) (a0_0 : Int) (a0_1 : Int) (a0_2 : Int) (a0_3 : ByteArray) (a0_4 : Bool) (a0_5 : Int) (a0_6 : Int) (a0_7 : Int) (a0_8 : Int) (a0_9 : Int) (a0_10 : Int) (r : Bool) (w : World) (h : dowelref04_Right.f k a0_0 a0_1 a0_2 a0_3 a0_4 a0_5 a0_6 a0_7 a0_8 a0_9 a0_10 = some r) :
    Calls Tryd.prog 21 #[.agg #[.int .i64 a0_0, .int .i64 a0_1, .int .i64 a0_2, .string a0_3, .bool a0_4, .int .u64 a0_5, .int .u64 a0_6, .int .u64 a0_7, .int .u64 a0_8, .int .i64 a0_9, .int .i64 a0_10]] w fun e w' => e = .returned (.bool r) ∧ Below w.heap.size w w' := by
  generalize a0_1 = a1, a0_2 = a2, a0_3 = a3, a0_4 = a4, a0_5 = a5, a0_6 = a6, a0_7 = a7, a0_8 = a8, a0_9 = a9, a0_10 = a10 at *
  by_cases e1 : a0_0 = 1
  · subst e1
    unfold dowelref04_Right.f at h
    rw [if_pos rfl] at h
    split at h
    · next hT =>
      obtain ⟨b, hb, hq⟩ := Option.bind_eq_some_iff.1 h
      obtain rfl := Option.some.inj hq
      exact dowelref04_Right.w1 _ _ _ _ _ _ _ _ _ _ _ k b hT hb
    · next hT =>
      obtain rfl := Option.some.inj h
      exact dowelref04_Right.w1f _ _ _ _ _ _ _ _ _ _ _ (by simpa using hT)
  have hj : ∃ x : Bool, (x = true ↔ (a0_0 = 16 ∨ a0_0 = 17)) ∧ dowelref04_Right.j0 k a0_0 x a0_0 a1 a2 a3 a4 a5 a6 a7 a8 a9 a10 0 0 0 a3 a4 a5 a6 a7 a8 a9 a10 = some r := by
    unfold dowelref04_Right.f at h
    rw [if_neg e1] at h
    split at h
    · next q => exact ⟨_, by simp [q], h⟩
    · next q => exact ⟨_, by simp [q], h⟩
  clear h
  obtain ⟨x, hx, h⟩ := hj
  obtain ⟨k, rfl⟩ : ∃ m, k = m + 1 := by
    cases k with
    | zero => simp [dowelref04_Right.j0] at h
    | succ m => exact ⟨m, rfl⟩
  rw [dowelref04_Right.j0.eq_def] at h
  simp only [beq_self_eq_true, Bool.true_and] at h
  by_cases e2 : x = true
  · rw [if_pos e2] at h
    split at h
    · next hT =>
      obtain ⟨b, hb, hq⟩ := Option.bind_eq_some_iff.1 h
      obtain rfl := Option.some.inj hq
      rcases hx.1 e2 with q | q <;> subst q
      · exact dowelref04_Right.w16 _ _ _ _ _ _ _ _ _ _ _ k b hT hb
      · exact dowelref04_Right.w17 _ _ _ _ _ _ _ _ _ _ _ k b hT hb
    · next hT =>
      obtain rfl := Option.some.inj h
      rcases hx.1 e2 with q | q <;> subst q
      · exact dowelref04_Right.w16f _ _ _ _ _ _ _ _ _ _ _ (by simpa using hT)
      · exact dowelref04_Right.w17f _ _ _ _ _ _ _ _ _ _ _ (by simpa using hT)
  rw [if_neg e2] at h
  have n1 : ¬ a0_0 = 16 := fun q => e2 (hx.2 (.inl q))
  have n2 : ¬ a0_0 = 17 := fun q => e2 (hx.2 (.inr q))
  clear hx e2
  by_cases e3 : a0_0 = 9
  · rw [if_pos e3] at h
    subst e3
    split at h
    · next hT =>
      split at h
      · next c1 =>
        split at h
        · next c2 =>
          split at h
          · next c3 =>
            obtain rfl := Option.some.inj h
            exact dowelref04_Right.w9c _ _ _ _ _ _ _ _ _ _ _ (by simpa using hT) (decide_eq_true c1) (decide_eq_true c2) (by simp [c3])
          · next c3 =>
            split at h
            · next c4 =>
              obtain rfl := Option.some.inj h
              exact dowelref04_Right.w9e _ _ _ _ _ _ _ _ _ _ _ (by simpa using hT) (decide_eq_true c1) (decide_eq_true c2) (by simp [c3]) (decide_eq_true c4) _ rfl
            · next c4 =>
              obtain rfl := Option.some.inj h
              exact dowelref04_Right.w9d _ _ _ _ _ _ _ _ _ _ _ (by simpa using hT) (decide_eq_true c1) (decide_eq_true c2) (by simp [c3]) (decide_eq_false c4)
        · next c2 =>
          obtain rfl := Option.some.inj h
          exact dowelref04_Right.w9b _ _ _ _ _ _ _ _ _ _ _ (by simpa using hT) (decide_eq_true c1) (decide_eq_false c2)
      · next c1 =>
        obtain rfl := Option.some.inj h
        exact dowelref04_Right.w9a _ _ _ _ _ _ _ _ _ _ _ (by simpa using hT) (decide_eq_false c1)
    · next hT =>
      obtain rfl := Option.some.inj h
      exact dowelref04_Right.w9f _ _ _ _ _ _ _ _ _ _ _ (by simpa using Bool.eq_false_iff.2 hT)
  rw [if_neg e3] at h
  by_cases e4 : a0_0 = 14
  · rw [if_pos e4] at h
    subst e4
    exact dowelref04_Right.w14 _ _ _ _ _ _ _ _ _ _ _ r (by simpa using Option.some.inj h)
  rw [if_neg e4] at h
  by_cases e5 : a0_0 = 15
  · rw [if_pos e5] at h
    subst e5
    exact dowelref04_Right.w15 _ _ _ _ _ _ _ _ _ _ _ r (by simpa using Option.some.inj h)
  rw [if_neg e5] at h
  have d1 : (a0_0 == 1) = false := by simp [e1]
  have d2 : (a0_0 == 16) = false := by simp [n1]
  have d3 : (a0_0 == 17) = false := by simp [n2]
  have d4 : (a0_0 == 9) = false := by simp [e3]
  have d5 : (a0_0 == 14) = false := by simp [e4]
  have d6 : (a0_0 == 15) = false := by simp [e5]
  split at h
  · next c1 =>
    split at h
    · next c2 => exact dowelref04_Right.wdc _ _ _ _ _ _ _ _ _ _ _ a0_0 d1 d2 d3 d4 d5 d6 (decide_eq_true c1) (decide_eq_true c2) r (by simpa using Option.some.inj h)
    · next c2 =>
      obtain rfl := Option.some.inj h
      exact dowelref04_Right.wdb _ _ _ _ _ _ _ _ _ _ _ a0_0 d1 d2 d3 d4 d5 d6 (decide_eq_true c1) (decide_eq_false c2)
  · next c1 =>
    obtain rfl := Option.some.inj h
    exact dowelref04_Right.wda _ _ _ _ _ _ _ _ _ _ _ a0_0 d1 d2 d3 d4 d5 d6 (decide_eq_false c1)
end Go.Proofs.YtldjdcdoegjmoaaDoor.P
