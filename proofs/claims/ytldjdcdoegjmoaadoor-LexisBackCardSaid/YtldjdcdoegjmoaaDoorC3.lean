import Derived.Test.YtldjdcdoegjmoaaDoorC1
namespace Go.Proofs.YtldjdcdoegjmoaaDoor.P
open Go.RowKit Go.Proofs.YtldjdcdoegjmoaaDoorW.PrintWords Go.Proofs.YtldjdcdoegjmoaaDoorW.PrintLast Go.Proofs.YtldjdcdoegjmoaaDoorW.PrintMore
set_option linter.unusedVariables false
set_option linter.unusedSimpArgs false
theorem eqA24 (d : Nat) (w : World) (x0 y0 x1 y1 x2 y2 x3 y3 : Int) : (Op.equalIn (d + 2) 24 (.agg #[.int .u64 x0, .int .u64 x1, .int .u64 x2, .int .u64 x3]) (.agg #[.int .u64 y0, .int .u64 y1, .int .u64 y2, .int .u64 y3])).run Tryd.prog w = .ok (x0 == y0 && (x1 == y1 && (x2 == y2 && (x3 == y3)))) w := run_equalIn_arr4 w d 24 22 (by kernel_rfl) x0 x1 x2 x3 y0 y1 y2 y3 Tryd.underlying24 Tryd.underlying22 (fun w => by kernel_rfl)
theorem eqA26 (d : Nat) (w : World) (x0 y0 : Int) (x1 y1 : Int) (x2 y2 : Int) (x3 y3 : ByteArray) (x4 y4 : Bool) (x5 y5 : Int) (x6 y6 : Int) (x7 y7 : Int) (x8 y8 : Int) (x9 y9 : Int) (x10 y10 : Int) :
    (Op.equalIn (d + 3) 26 (.agg #[.int .i64 x0, .int .i64 x1, .int .i64 x2, .string x3, .bool x4, .int .u64 x5, .int .u64 x6, .int .u64 x7, .int .u64 x8, .int .i64 x9, .int .i64 x10]) (.agg #[.int .i64 y0, .int .i64 y1, .int .i64 y2, .string y3, .bool y4, .int .u64 y5, .int .u64 y6, .int .u64 y7, .int .u64 y8, .int .i64 y9, .int .i64 y10])).run Tryd.prog w = .ok (x0 == y0 && (x1 == y1 && (x2 == y2 && (x3.toList == y3.toList && (x4 == y4 && ((x5 == y5 && (x6 == y6 && (x7 == y7 && (x8 == y8)))) && (x9 == y9 && (x10 == y10)))))))) w := by
  refine eqA_of Tryd.underlying26 (by kernel_rfl) ?_; refine eqf_cons (by rfl) (by go_simp; rfl) (by go_simp; rfl) (by go_simp) ?_; refine eqf_cons (by rfl) (by go_simp; rfl) (by go_simp; rfl) (by go_simp) ?_; refine eqf_cons (by rfl) (by go_simp; rfl) (by go_simp; rfl) (by go_simp) ?_; refine eqf_cons (by rfl) (by go_simp; rfl) (by go_simp; rfl) (by go_simp) ?_; refine eqf_cons (by rfl) (by go_simp; rfl) (by go_simp; rfl) (by go_simp) ?_; refine eqf_cons (by rfl) (by go_simp) (by go_simp) (eqA24 (d + 0) w _ _ _ _ _ _ _ _) ?_; refine eqf_cons (by rfl) (by go_simp; rfl) (by go_simp; rfl) (by go_simp) ?_; exact eqf_last (by rfl) (by go_simp; rfl) (by go_simp; rfl) (by go_simp)
end Go.Proofs.YtldjdcdoegjmoaaDoor.P
namespace Go.Proofs.YtldjdcdoegjmoaaDoor.P
open Go.RowKit Go.Proofs.YtldjdcdoegjmoaaDoorW.PrintWords Go.Proofs.YtldjdcdoegjmoaaDoorW.PrintLast Go.Proofs.YtldjdcdoegjmoaaDoorW.PrintMore
set_option linter.unusedVariables false
set_option linter.unusedSimpArgs false
def stringslite_HasPrefix.f (a0 : ByteArray) (a1 : ByteArray) : Option (Bool) := if (a0.size : Int) ≥ (a1.size : Int) then (if 0 ≤ (a1.size : Int) then (if (a1.size : Int) ≤ (a0.size : Int) then (some ((a0.extract 0 ((a1.size : Int) : Int).toNat).toList == a1.toList)) else (none)) else (none)) else (some false)
set_option maxHeartbeats 8000000 in
set_option maxRecDepth 100000 in
theorem stringslite_HasPrefix.calls (a0 : ByteArray) (a1 : ByteArray) (r : Bool) (w : World) (h : stringslite_HasPrefix.f a0 a1 = some r) :
    Calls Tryd.prog 73 #[.string a0, .string a1] w fun e w' => e = .returned (.bool r) ∧ Drawn0 w w' := by
  have H : (if (a0.size : Int) ≥ (a1.size : Int) then (if 0 ≤ (a1.size : Int) then (if (a1.size : Int) ≤ (a0.size : Int) then (some ((a0.extract 0 ((a1.size : Int) : Int).toNat).toList == a1.toList)) else (none)) else (none)) else (some false)) = some r := h; clear h
  by_cases c3 : (a0.size : Int) ≥ (a1.size : Int)
  · rw [if_pos c3] at H; have c3b0 : decide ((a1.size : Int) ≤ (a0.size : Int)) = true := decide_eq_true c3; have c3b1 : decide (a1.size ≤ a0.size) = true := decide_eq_true (Int.ofNat_le.mp c3); clear c3
    by_cases c4 : 0 ≤ (a1.size : Int)
    · rw [if_pos c4] at H; have c4b0 := eq_true c4; have c4b1 : decide (0 ≤ (a1.size : Int)) = true := decide_eq_true c4; clear c4
      by_cases c5 : (a1.size : Int) ≤ (a0.size : Int)
      · rw [if_pos c5] at H; have c5b0 := eq_true c5; have c5b1 : decide ((a1.size : Int) ≤ (a0.size : Int)) = true := decide_eq_true c5; clear c5; obtain rfl := Option.some.inj H; go_enter Tryd.func73, Tryd.ntmps73; go_wp2
        go_ret
        exact ⟨zi, zn⟩
      · rw [if_neg c5] at H; exact absurd H (by simp)
    · rw [if_neg c4] at H; exact absurd H (by simp)
  · rw [if_neg c3] at H; have c3b0 : decide ((a1.size : Int) ≤ (a0.size : Int)) = false := decide_eq_false c3; have c3b1 : decide (a1.size ≤ a0.size) = false := decide_eq_false (fun h => c3 (Int.ofNat_le.mpr h)); clear c3; obtain rfl := Option.some.inj H; go_enter Tryd.func73, Tryd.ntmps73; go_wp2
    go_ret
    exact ⟨zi, zn⟩
end Go.Proofs.YtldjdcdoegjmoaaDoor.P
namespace Go.Proofs.YtldjdcdoegjmoaaDoor.P
open Go.RowKit Go.Proofs.YtldjdcdoegjmoaaDoorW.PrintWords Go.Proofs.YtldjdcdoegjmoaaDoorW.PrintLast Go.Proofs.YtldjdcdoegjmoaaDoorW.PrintMore
set_option linter.unusedVariables false
set_option linter.unusedSimpArgs false
def strings_HasPrefix.f (a0 : ByteArray) (a1 : ByteArray) : Option (Bool) := (stringslite_HasPrefix.f a0 a1).bind fun t101 => (some t101)
set_option maxHeartbeats 8000000 in
set_option maxRecDepth 100000 in
theorem strings_HasPrefix.calls (a0 : ByteArray) (a1 : ByteArray) (r : Bool) (w : World) (h : strings_HasPrefix.f a0 a1 = some r) :
    Calls Tryd.prog 51 #[.string a0, .string a1] w fun e w' => e = .returned (.bool r) ∧ Drawn0 w w' := by
  have H : ((stringslite_HasPrefix.f a0 a1).bind fun t101 => (some t101)) = some r := h; clear h; replace H := Option.bind_eq_some_iff.mp H; obtain ⟨t101, A30, H⟩ := H; replace H : (some t101) = some r := H; have A3 := Aside0.mk A30; clear A30; obtain rfl := Option.some.inj H; go_enter Tryd.func51, Tryd.ntmps51; go_wp2_with (first | ((with_reducible refine Q26 (f := 73) rfl ?_); refine goesL_ (some 7) rfl rfl Tryd.func73 (by kernel_rfl) rfl #[.string a0, .string a1] rfl za ?_; (with_reducible refine (stringslite_HasPrefix.calls a0 a1 t101 _ A3.out).mono ?_); rintro e w' ⟨rfl, ⟨nd, rfl⟩⟩; refine ⟨_, rfl, ?_⟩))
  go_ret
  exact ⟨zi, zn⟩
end Go.Proofs.YtldjdcdoegjmoaaDoor.P
namespace Go.Proofs.YtldjdcdoegjmoaaDoor.P
open Go.RowKit Go.Proofs.YtldjdcdoegjmoaaDoorW.PrintWords Go.Proofs.YtldjdcdoegjmoaaDoorW.PrintLast Go.Proofs.YtldjdcdoegjmoaaDoorW.PrintMore
set_option linter.unusedVariables false
set_option linter.unusedSimpArgs false
def lexis_letter.f (a0 : Int) : Option (Bool) := if a0 ≥ 97 then (if a0 ≤ 122 then (some true) else (if a0 ≥ 65 then (if a0 ≤ 90 then (some true) else (some (a0 == 95))) else (some (a0 == 95)))) else (if a0 ≥ 65 then (if a0 ≤ 90 then (some true) else (some (a0 == 95))) else (some (a0 == 95)))
set_option maxHeartbeats 8000000 in
set_option maxRecDepth 100000 in
theorem lexis_letter.calls (a0 : Int) (r : Bool) (w : World) (h : lexis_letter.f a0 = some r) :
    Calls Tryd.prog 49 #[.int .u8 a0] w fun e w' => e = .returned (.bool r) ∧ Drawn0 w w' := by
  have H : (if a0 ≥ 97 then (if a0 ≤ 122 then (some true) else (if a0 ≥ 65 then (if a0 ≤ 90 then (some true) else (some (a0 == 95))) else (some (a0 == 95)))) else (if a0 ≥ 65 then (if a0 ≤ 90 then (some true) else (some (a0 == 95))) else (some (a0 == 95)))) = some r := h; clear h
  by_cases c2 : a0 ≥ 97
  · rw [if_pos c2] at H; have c2b0 : decide (97 ≤ a0) = true := decide_eq_true c2; clear c2
    by_cases c3 : a0 ≤ 122
    · rw [if_pos c3] at H; have c3b0 : decide (a0 ≤ 122) = true := decide_eq_true c3; clear c3; obtain rfl := Option.some.inj H; go_enter Tryd.func49, Tryd.ntmps49; go_wp2
      go_ret
      exact ⟨zi, zn⟩
    · rw [if_neg c3] at H; have c3b0 : decide (a0 ≤ 122) = false := decide_eq_false c3; clear c3
      by_cases c4 : a0 ≥ 65
      · rw [if_pos c4] at H; have c4b0 : decide (65 ≤ a0) = true := decide_eq_true c4; clear c4
        by_cases c5 : a0 ≤ 90
        · rw [if_pos c5] at H; have c5b0 : decide (a0 ≤ 90) = true := decide_eq_true c5; clear c5; obtain rfl := Option.some.inj H; go_enter Tryd.func49, Tryd.ntmps49; go_wp2
          go_ret
          exact ⟨zi, zn⟩
        · rw [if_neg c5] at H; have c5b0 : decide (a0 ≤ 90) = false := decide_eq_false c5; clear c5; obtain rfl := Option.some.inj H; go_enter Tryd.func49, Tryd.ntmps49; go_wp2
          go_ret
          exact ⟨zi, zn⟩
      · rw [if_neg c4] at H; have c4b0 : decide (65 ≤ a0) = false := decide_eq_false c4; clear c4; obtain rfl := Option.some.inj H; go_enter Tryd.func49, Tryd.ntmps49; go_wp2
        go_ret
        exact ⟨zi, zn⟩
  · rw [if_neg c2] at H; have c2b0 : decide (97 ≤ a0) = false := decide_eq_false c2; clear c2
    by_cases c6 : a0 ≥ 65
    · rw [if_pos c6] at H; have c6b0 : decide (65 ≤ a0) = true := decide_eq_true c6; clear c6
      by_cases c7 : a0 ≤ 90
      · rw [if_pos c7] at H; have c7b0 : decide (a0 ≤ 90) = true := decide_eq_true c7; clear c7; obtain rfl := Option.some.inj H; go_enter Tryd.func49, Tryd.ntmps49; go_wp2
        go_ret
        exact ⟨zi, zn⟩
      · rw [if_neg c7] at H; have c7b0 : decide (a0 ≤ 90) = false := decide_eq_false c7; clear c7; obtain rfl := Option.some.inj H; go_enter Tryd.func49, Tryd.ntmps49; go_wp2
        go_ret
        exact ⟨zi, zn⟩
    · rw [if_neg c6] at H; have c6b0 : decide (65 ≤ a0) = false := decide_eq_false c6; clear c6; obtain rfl := Option.some.inj H; go_enter Tryd.func49, Tryd.ntmps49; go_wp2
      go_ret
      exact ⟨zi, zn⟩
def lexis_digit.f (a0 : Int) : Option (Bool) := if a0 ≥ 48 then (some (decide (a0 ≤ 57))) else (some false)
set_option maxHeartbeats 8000000 in
set_option maxRecDepth 100000 in
theorem lexis_digit.calls (a0 : Int) (r : Bool) (w : World) (h : lexis_digit.f a0 = some r) :
    Calls Tryd.prog 76 #[.int .u8 a0] w fun e w' => e = .returned (.bool r) ∧ Drawn0 w w' := by
  have H : (if a0 ≥ 48 then (some (decide (a0 ≤ 57))) else (some false)) = some r := h; clear h
  by_cases c2 : a0 ≥ 48
  · rw [if_pos c2] at H; have c2b0 : decide (48 ≤ a0) = true := decide_eq_true c2; clear c2; obtain rfl := Option.some.inj H; go_enter Tryd.func76, Tryd.ntmps76; go_wp2
    go_ret
    exact ⟨zi, zn⟩
  · rw [if_neg c2] at H; have c2b0 : decide (48 ≤ a0) = false := decide_eq_false c2; clear c2; obtain rfl := Option.some.inj H; go_enter Tryd.func76, Tryd.ntmps76; go_wp2
    go_ret
    exact ⟨zi, zn⟩
def lexis_own.l0 : Nat → ByteArray → Int → Int → Option (Int)
  | 0, _, _, _ => none
  | k + 1, x0, x1, x5 => if (wrap64 (x1 + x5)) < (x0.size : Int) then (if 0 ≤ (wrap64 (x1 + x5)) then ((lexis_letter.f (bt x0 (wrap64 (x1 + x5)))).bind fun t102 => (if t102 = true then (lexis_own.l0 k x0 x1 (wrap64 (x5 + 1))) else (if x5 > 0 then ((lexis_digit.f (bt x0 (wrap64 (x1 + x5)))).bind fun t103 => (if t103 = true then (lexis_own.l0 k x0 x1 (wrap64 (x5 + 1))) else (some x5))) else (some x5)))) else (none)) else (some x5)
def lexis_own.f (k : Nat) (a0 : ByteArray) (a1 : Int) : Option (Int) := lexis_own.l0 k a0 a1 0
theorem lexis_own.mono_l : ∀ k, (∀ y0 y1 y2, LeO (lexis_own.l0 k y0 y1 y2) (lexis_own.l0 (k + 1) y0 y1 y2))
  | 0 => fun _ _ _ r h => by simp [lexis_own.l0] at h
  | k + 1 => by
    have ih0 := lexis_own.mono_l k
    · intro y0 y1 y2; unfold lexis_own.l0
      repeat' first
      | (with_reducible exact ih0 _ _ _)
      | (with_reducible exact LeO.refl _)
      | (with_reducible exact LeO.none _)
      | (with_reducible refine LeO.ite ?_ ?_)
      | (with_reducible refine LeO.bind ?_ (fun _ => ?_))
      | exact ih0 _ _ _
      | exact LeO.none _
      | refine LeO.ite ?_ ?_
      | refine LeO.bind ?_ (fun _ => ?_)
theorem lexis_own.mono : ∀ a0 a1 k, LeO (lexis_own.f k a0 a1) (lexis_own.f (k + 1) a0 a1) := by
  intro a0 a1 k; have ih0 := lexis_own.mono_l k; unfold lexis_own.f
  repeat' first
      | (with_reducible exact ih0 _ _ _)
      | (with_reducible exact LeO.refl _)
      | (with_reducible exact LeO.none _)
      | (with_reducible refine LeO.ite ?_ ?_)
      | (with_reducible refine LeO.bind ?_ (fun _ => ?_))
      | exact ih0 _ _ _
      | exact LeO.none _
      | refine LeO.ite ?_ ?_
      | refine LeO.bind ?_ (fun _ => ?_)
set_option maxHeartbeats 8000000 in
set_option maxRecDepth 100000 in
theorem lexis_own.calls (k : Nat) (a0 : ByteArray) (a1 : Int) (r : Int) (w : World) (h : lexis_own.f k a0 a1 = some r) :
    Calls Tryd.prog 58 #[.string a0, .int .i64 a1] w fun e w' => e = .returned (.int .i64 r) ∧ Drawn0 w w' := by
  have H : (lexis_own.l0 k a0 a1 0) = some r := h; clear h; have H' := Aside0.mk H; clear H; go_enter Tryd.func58, Tryd.ntmps58; go_wp2
  go_loopg [5] k (fun kq v5 w' => ∃ (x5_1 : Int), v5 = .int .i64 x5_1 ∧ Aside0 (lexis_own.l0 kq a0 a1 x5_1 = some r) ∧ Aside0 (kq ≤ k) ∧ Drawn0 w w')
  case atStart => exact ⟨(0), zi, H', ⟨Nat.le_refl _⟩, zn⟩
  case round =>
    clear H'; (try clear p2); obtain ⟨x5_1, rfl, HA, HK1, ⟨m1, rfl⟩⟩ := hrel
    cases gk with
    | zero => exact absurd HA.out (by simp [lexis_own.l0])
    | succ k1 =>
      have H := HA.out; clear HA; simp only [lexis_own.l0] at H
      by_cases c3 : (wrap64 (a1 + x5_1)) < (a0.size : Int)
      · rw [if_pos c3] at H; have c3b0 : decide ((wrap64 (a1 + x5_1)) < (a0.size : Int)) = true := decide_eq_true c3; clear c3; obtain ⟨ji4, hji4⟩ : ∃ j_ : Int, (wrap64 (a1 + x5_1)) = j_ := ⟨_, rfl⟩
        replace H : (if 0 ≤ (ji4) then ((lexis_letter.f (bt a0 (ji4))).bind fun t102 => (if t102 = true then (lexis_own.l0 k1 a0 a1 (wrap64 (x5_1 + 1))) else (if x5_1 > 0 then ((lexis_digit.f (bt a0 (ji4))).bind fun t103 => (if t103 = true then (lexis_own.l0 k1 a0 a1 (wrap64 (x5_1 + 1))) else (some x5_1))) else (some x5_1)))) else (none)) = some r := by first | (rw [hji4] at H; exact H) | (simp only [hji4] at H ⊢; exact H)
        (try rw [hji4] at c3b0); have hji4w : (IntKind.i64.wrap (a1 + x5_1)) = ji4 := (i64_w _).trans hji4
        by_cases c5 : 0 ≤ (ji4)
        · rw [if_pos c5] at H; have c5b0 : decide (0 ≤ (ji4)) = true := decide_eq_true c5; clear c5; replace H := Option.bind_eq_some_iff.mp H; obtain ⟨t102, A70, H⟩ := H; replace H : (if t102 = true then (lexis_own.l0 k1 a0 a1 (wrap64 (x5_1 + 1))) else (if x5_1 > 0 then ((lexis_digit.f (bt a0 (ji4))).bind fun t103 => (if t103 = true then (lexis_own.l0 k1 a0 a1 (wrap64 (x5_1 + 1))) else (some x5_1))) else (some x5_1))) = some r := H; have A7 := Aside0.mk A70; clear A70
          by_cases c8 : t102 = true
          · subst c8
            have H1 : (lexis_own.l0 k1 a0 a1 (wrap64 (x5_1 + 1))) = some r := by rw [if_pos rfl] at H; exact H
            clear H; have H := H1; clear H1; have H' := Aside0.mk H; clear H; have p6 : 0 ≤ ((ji4) : Int) := zd; have q6 : (ji4) < (a0.size : Int) := zd; have hx6 := bt_at a0 (ji4); replace p6 := eq_true p6; replace q6 := eq_true q6; go_wp2_with (first | (go_at_call 49; (with_reducible refine (lexis_letter.calls (bt a0 (ji4)) true _ A7.out).mono ?_); rintro e w' ⟨rfl, ⟨nd, rfl⟩⟩))
            go_roundg k1
            case measure => have := HK1.out; omega
            case rel => exact ⟨(wrap64 (x5_1 + 1)), zi, H', ⟨by have := HK1.out; omega⟩, zn⟩
          · replace c8 := Bool.eq_false_iff.mpr c8; subst c8
            have H1 : (if x5_1 > 0 then ((lexis_digit.f (bt a0 (ji4))).bind fun t103 => (if t103 = true then (lexis_own.l0 k1 a0 a1 (wrap64 (x5_1 + 1))) else (some x5_1))) else (some x5_1)) = some r := by rw [if_neg (show ¬ (false = true) by decide)] at H; exact H
            clear H; have H := H1; clear H1
            by_cases c9 : x5_1 > 0
            · rw [if_pos c9] at H; have c9b0 : decide (0 < x5_1) = true := decide_eq_true c9; clear c9; replace H := Option.bind_eq_some_iff.mp H; obtain ⟨t103, A110, H⟩ := H; replace H : (if t103 = true then (lexis_own.l0 k1 a0 a1 (wrap64 (x5_1 + 1))) else (some x5_1)) = some r := H; have A11 := Aside0.mk A110; clear A110
              by_cases c12 : t103 = true
              · subst c12
                have H1 : (lexis_own.l0 k1 a0 a1 (wrap64 (x5_1 + 1))) = some r := by rw [if_pos rfl] at H; exact H
                clear H; have H := H1; clear H1; have H' := Aside0.mk H; clear H; have p6 : 0 ≤ ((ji4) : Int) := zd; have q6 : (ji4) < (a0.size : Int) := zd; have hx6 := bt_at a0 (ji4); replace p6 := eq_true p6; replace q6 := eq_true q6; go_wp2_with (first | (go_at_call 49; (with_reducible refine (lexis_letter.calls (bt a0 (ji4)) false _ A7.out).mono ?_); rintro e w' ⟨rfl, ⟨nd, rfl⟩⟩; have p10 : 0 ≤ ((ji4) : Int) := zd; have q10 : (ji4) < (a0.size : Int) := zd; have hx10 := bt_at a0 (ji4); replace p10 := eq_true p10; replace q10 := eq_true q10) | (go_at_call 76; (with_reducible refine (lexis_digit.calls (bt a0 (ji4)) true _ A11.out).mono ?_); rintro e w' ⟨rfl, ⟨nd, rfl⟩⟩))
                go_roundg k1
                case measure => have := HK1.out; omega
                case rel => exact ⟨(wrap64 (x5_1 + 1)), zi, H', ⟨by have := HK1.out; omega⟩, zn⟩
              · replace c12 := Bool.eq_false_iff.mpr c12; subst c12
                have H1 : (some x5_1) = some r := by rw [if_neg (show ¬ (false = true) by decide)] at H; exact H
                clear H; have H := H1; clear H1; obtain rfl := Option.some.inj H; have p6 : 0 ≤ ((ji4) : Int) := zd; have q6 : (ji4) < (a0.size : Int) := zd; have hx6 := bt_at a0 (ji4); replace p6 := eq_true p6; replace q6 := eq_true q6; go_wp2_with (first | (go_at_call 49; (with_reducible refine (lexis_letter.calls (bt a0 (ji4)) false _ A7.out).mono ?_); rintro e w' ⟨rfl, ⟨nd, rfl⟩⟩; have p10 : 0 ≤ ((ji4) : Int) := zd; have q10 : (ji4) < (a0.size : Int) := zd; have hx10 := bt_at a0 (ji4); replace p10 := eq_true p10; replace q10 := eq_true q10) | (go_at_call 76; (with_reducible refine (lexis_digit.calls (bt a0 (ji4)) false _ A11.out).mono ?_); rintro e w' ⟨rfl, ⟨nd, rfl⟩⟩))
                go_ret
                exact ⟨by first | rfl | (simp; done) | (simp [i64_w, IntKind.wrap_u8]; done) | (simp [*]; done) | (simp only [← hji4] <;> (first | rfl | simp)) | (simp [*]; done), zn⟩
            · rw [if_neg c9] at H; have c9b0 : decide (0 < x5_1) = false := decide_eq_false c9; clear c9; obtain rfl := Option.some.inj H; have p6 : 0 ≤ ((ji4) : Int) := zd; have q6 : (ji4) < (a0.size : Int) := zd; have hx6 := bt_at a0 (ji4); replace p6 := eq_true p6; replace q6 := eq_true q6; go_wp2_with (first | (go_at_call 49; (with_reducible refine (lexis_letter.calls (bt a0 (ji4)) false _ A7.out).mono ?_); rintro e w' ⟨rfl, ⟨nd, rfl⟩⟩))
              go_ret
              exact ⟨by first | rfl | (simp; done) | (simp [i64_w, IntKind.wrap_u8]; done) | (simp [*]; done) | (simp only [← hji4] <;> (first | rfl | simp)) | (simp [*]; done), zn⟩
        · rw [if_neg c5] at H; exact absurd H (by simp)
      · rw [if_neg c3] at H; have c3b0 : decide ((wrap64 (a1 + x5_1)) < (a0.size : Int)) = false := decide_eq_false c3; clear c3; obtain rfl := Option.some.inj H; go_wp2
        go_ret
        exact ⟨zi, zn⟩
mutual
def lexis_numbered.j0 : Nat → ByteArray → Bool → Option (Int)
  | 0, _, _ => none
  | k + 1, x0, x10 => if x10 = true then (some 0) else (lexis_numbered.l0 k x0 1)
def lexis_numbered.l0 : Nat → ByteArray → Int → Option (Int)
  | 0, _, _ => none
  | k + 1, x0, x3 => if x3 < (x0.size : Int) then (if 0 ≤ x3 then ((lexis_digit.f (bt x0 x3)).bind fun t104 => (if t104 = true then (lexis_numbered.l0 k x0 (wrap64 (x3 + 1))) else (if x3 = 1 then (some 0) else (if x3 > 6 then (some 0) else (if 1 < (x0.size : Int) then (if (bt x0 1) = 48 then (some 0) else (some x3)) else (none)))))) else (none)) else (if x3 = 1 then (some 0) else (if x3 > 6 then (some 0) else (if 1 < (x0.size : Int) then (if (bt x0 1) = 48 then (some 0) else (some x3)) else (none))))
end
def lexis_numbered.f (k : Nat) (a0 : ByteArray) : Option (Int) := if a0.toList = ([] : List UInt8) then (lexis_numbered.j0 k a0 true) else (if 0 < (a0.size : Int) then (lexis_numbered.j0 k a0 ((bt a0 0) != 126)) else (none))
theorem lexis_numbered.mono_l : ∀ k, (∀ y0 y1, LeO (lexis_numbered.j0 k y0 y1) (lexis_numbered.j0 (k + 1) y0 y1)) ∧ (∀ y0 y1, LeO (lexis_numbered.l0 k y0 y1) (lexis_numbered.l0 (k + 1) y0 y1))
  | 0 => ⟨fun _ _ r h => by simp [lexis_numbered.j0] at h, fun _ _ r h => by simp [lexis_numbered.l0] at h⟩
  | k + 1 => by
    obtain ⟨ih0, ih1⟩ := lexis_numbered.mono_l k; refine ⟨?_, ?_⟩
    · intro y0 y1; unfold lexis_numbered.j0
      repeat' first
      | (with_reducible exact ih0 _ _)
      | (with_reducible exact ih1 _ _)
      | (with_reducible exact LeO.refl _)
      | (with_reducible exact LeO.none _)
      | (with_reducible refine LeO.ite ?_ ?_)
      | (with_reducible refine LeO.bind ?_ (fun _ => ?_))
      | exact ih0 _ _
      | exact ih1 _ _
      | exact LeO.none _
      | refine LeO.ite ?_ ?_
      | refine LeO.bind ?_ (fun _ => ?_)
    · intro y0 y1; unfold lexis_numbered.l0
      repeat' first
      | (with_reducible exact ih0 _ _)
      | (with_reducible exact ih1 _ _)
      | (with_reducible exact LeO.refl _)
      | (with_reducible exact LeO.none _)
      | (with_reducible refine LeO.ite ?_ ?_)
      | (with_reducible refine LeO.bind ?_ (fun _ => ?_))
      | exact ih0 _ _
      | exact ih1 _ _
      | exact LeO.none _
      | refine LeO.ite ?_ ?_
      | refine LeO.bind ?_ (fun _ => ?_)
theorem lexis_numbered.mono : ∀ a0 k, LeO (lexis_numbered.f k a0) (lexis_numbered.f (k + 1) a0) := by
  intro a0 k; obtain ⟨ih0, ih1⟩ := lexis_numbered.mono_l k; unfold lexis_numbered.f
  repeat' first
      | (with_reducible exact ih0 _ _)
      | (with_reducible exact ih1 _ _)
      | (with_reducible exact LeO.refl _)
      | (with_reducible exact LeO.none _)
      | (with_reducible refine LeO.ite ?_ ?_)
      | (with_reducible refine LeO.bind ?_ (fun _ => ?_))
      | exact ih0 _ _
      | exact ih1 _ _
      | exact LeO.none _
      | refine LeO.ite ?_ ?_
      | refine LeO.bind ?_ (fun _ => ?_)
set_option maxHeartbeats 8000000 in
set_option maxRecDepth 100000 in
theorem lexis_numbered.calls (k : Nat) (a0 : ByteArray) (r : Int) (w : World) (h : lexis_numbered.f k a0 = some r) :
    Calls Tryd.prog 72 #[.string a0] w fun e w' => e = .returned (.int .i64 r) ∧ Drawn0 w w' := by
  have H : (if a0.toList = ([] : List UInt8) then (lexis_numbered.j0 k a0 true) else (if 0 < (a0.size : Int) then (lexis_numbered.j0 k a0 ((bt a0 0) != 126)) else (none))) = some r := h; clear h; have HC2 := Aside0.mk H; clear H; go_enter Tryd.func72, Tryd.ntmps72
  go_upto_region 1 with (fail)
  go_cut [10] (fun v10 wc => ∃ (kq : Nat) (x10_1 : Bool), v10 = .bool x10_1 ∧ Aside0 (lexis_numbered.j0 kq a0 x10_1 = some r) ∧ Aside0 (kq ≤ k) ∧ Drawn0 w wc)
  case first =>
    have H := HC2.out; clear HC2
    by_cases c3 : a0.toList = ([] : List UInt8)
    · rw [if_pos c3] at H; have c3b0 : (a0.toList == ([] : List UInt8)) = true := beq_iff_eq.mpr c3; have c3b1 : (a0.toList != ([] : List UInt8)) = false := bne_eq_false_iff_eq.mpr c3; clear c3; (first | rw [c3b0] | (simp only [i64_w, i32_w]; rw [c3b0]) | skip); have H' := Aside0.mk H; clear H; go_wp2; go_meet
      case rel => exact ⟨_, (true), zi, H', ⟨by first | omega | exact Nat.le_refl _⟩, zn⟩
    · rw [if_neg c3] at H; have c3b0 : (a0.toList == ([] : List UInt8)) = false := beq_eq_false_iff_ne.mpr c3; have c3b1 : (a0.toList != ([] : List UInt8)) = true := bne_iff_ne.mpr c3; (first | rw [c3b0] | (simp only [i64_w, i32_w]; rw [c3b0]) | skip)
      by_cases c4 : 0 < (a0.size : Int)
      · rw [if_pos c4] at H; have c4b0 : decide (0 < (a0.size : Int)) = true := decide_eq_true c4; have c4b1 : decide (0 < a0.size) = true := decide_eq_true (by omega); clear c4; have H' := Aside0.mk H; clear H; have p5 : 0 ≤ (0 : Int) := (by omega); have q5 : 0 < a0.size := (by have : (0 : Int) < (a0.size : Int) := zd; omega); have hx5 : ∀ h : 0 < a0.size, ((a0[0]'h).toNat : Int) = bt a0 0 := bt_at a0 0; clear p5; have qi5 : (0 < (a0.size : Int)) = True := eq_true (zd); replace q5 := eq_true q5; go_wp2; go_meet
        case rel => exact ⟨_, (((bt a0 0) != 126)), zi, H', ⟨by first | omega | exact Nat.le_refl _⟩, zn⟩
      · rw [if_neg c4] at H; exact absurd H (by simp)
  case rest =>
    clear HC2; (try clear p2); (try clear c3); (try clear c3b0); (try clear c3b1); (try clear c4); (try clear c4b0); (try clear c4b1); (try clear p5); (try clear q5); (try clear hx5); (try clear qi5); (try clear p5); (try clear q5); obtain ⟨kq, x10_1, rfl, HA, HJ1, ⟨mc1, rfl⟩⟩ := hcut
    cases kq with
    | zero => exact absurd HA.out (by simp [lexis_numbered.j0])
    | succ kj1 =>
      have H := HA.out; clear HA; simp only [lexis_numbered.j0] at H
      by_cases c6 : x10_1 = true
      · subst c6
        have H1 : (some 0) = some r := by rw [if_pos rfl] at H; exact H
        clear H; have H := H1; clear H1; obtain rfl := Option.some.inj H; go_wp2
        go_ret
        exact ⟨zi, zn⟩
      · replace c6 := Bool.eq_false_iff.mpr c6; subst c6
        have H1 : (lexis_numbered.l0 kj1 a0 1) = some r := by rw [if_neg (show ¬ (false = true) by decide)] at H; exact H
        clear H; have H := H1; clear H1; have H' := Aside0.mk H; clear H; go_wp2
        go_loopg [3] kj1 (fun kq v3 w' => ∃ (x3_2 : Int), v3 = .int .i64 x3_2 ∧ Aside0 (lexis_numbered.l0 kq a0 x3_2 = some r) ∧ Aside0 (kq ≤ kj1) ∧ Drawn0 w w')
        case atStart => exact ⟨(1), zi, H', ⟨Nat.le_refl _⟩, zn⟩
        case round =>
          clear H'; (try clear c1); (try clear p2); (try clear c3); (try clear c3b0); (try clear c3b1); (try clear c4); (try clear c4b0); (try clear c4b1); (try clear p5); (try clear q5); (try clear hx5); (try clear qi5); (try clear c6); (try clear p2); (try clear p5); (try clear q5); obtain ⟨x3_2, rfl, HA, HK2, ⟨m2, rfl⟩⟩ := hrel
          cases gk with
          | zero => exact absurd HA.out (by simp [lexis_numbered.l0])
          | succ k2 =>
            have H := HA.out; clear HA; simp only [lexis_numbered.l0] at H
            by_cases c7 : x3_2 < (a0.size : Int)
            · rw [if_pos c7] at H; have c7b0 : decide (x3_2 < (a0.size : Int)) = true := decide_eq_true c7; clear c7
              by_cases c8 : 0 ≤ x3_2
              · rw [if_pos c8] at H; have c8b0 : decide (0 ≤ x3_2) = true := decide_eq_true c8; clear c8; replace H := Option.bind_eq_some_iff.mp H; obtain ⟨t104, A100, H⟩ := H; replace H : (if t104 = true then (lexis_numbered.l0 k2 a0 (wrap64 (x3_2 + 1))) else (if x3_2 = 1 then (some 0) else (if x3_2 > 6 then (some 0) else (if 1 < (a0.size : Int) then (if (bt a0 1) = 48 then (some 0) else (some x3_2)) else (none))))) = some r := H; have A10 := Aside0.mk A100; clear A100
                by_cases c11 : t104 = true
                · subst c11
                  have H1 : (lexis_numbered.l0 k2 a0 (wrap64 (x3_2 + 1))) = some r := by rw [if_pos rfl] at H; exact H
                  clear H; have H := H1; clear H1; have H' := Aside0.mk H; clear H; have p9 : 0 ≤ (x3_2 : Int) := zd; have q9 : x3_2 < (a0.size : Int) := zd; have hx9 := bt_at a0 x3_2; replace p9 := eq_true p9; replace q9 := eq_true q9; go_wp2_with (first | (go_at_call 76; (with_reducible refine (lexis_digit.calls (bt a0 x3_2) true _ A10.out).mono ?_); rintro e w' ⟨rfl, ⟨nd, rfl⟩⟩))
                  go_roundg k2
                  case measure => have := HJ1.out; have := HK2.out; omega
                  case rel => exact ⟨(wrap64 (x3_2 + 1)), zi, H', ⟨by have := HJ1.out; have := HK2.out; omega⟩, zn⟩
                · replace c11 := Bool.eq_false_iff.mpr c11; subst c11
                  have H1 : (if x3_2 = 1 then (some 0) else (if x3_2 > 6 then (some 0) else (if 1 < (a0.size : Int) then (if (bt a0 1) = 48 then (some 0) else (some x3_2)) else (none)))) = some r := by rw [if_neg (show ¬ (false = true) by decide)] at H; exact H
                  clear H; have H := H1; clear H1
                  by_cases c12 : x3_2 = 1
                  · rw [if_pos c12] at H; have c12b0 : (x3_2 == 1) = true := beq_iff_eq.mpr c12; have c12b1 : (x3_2 != 1) = false := bne_eq_false_iff_eq.mpr c12; clear c12; obtain rfl := Option.some.inj H; have p9 : 0 ≤ (x3_2 : Int) := zd; have q9 : x3_2 < (a0.size : Int) := zd; have hx9 := bt_at a0 x3_2; replace p9 := eq_true p9; replace q9 := eq_true q9; go_wp2_with (first | (go_at_call 76; (with_reducible refine (lexis_digit.calls (bt a0 x3_2) false _ A10.out).mono ?_); rintro e w' ⟨rfl, ⟨nd, rfl⟩⟩))
                    go_ret
                    exact ⟨zi, zn⟩
                  · rw [if_neg c12] at H; have c12b0 : (x3_2 == 1) = false := beq_eq_false_iff_ne.mpr c12; have c12b1 : (x3_2 != 1) = true := bne_iff_ne.mpr c12
                    by_cases c13 : x3_2 > 6
                    · rw [if_pos c13] at H; have c13b0 : decide (6 < x3_2) = true := decide_eq_true c13; clear c13; obtain rfl := Option.some.inj H; have p9 : 0 ≤ (x3_2 : Int) := zd; have q9 : x3_2 < (a0.size : Int) := zd; have hx9 := bt_at a0 x3_2; replace p9 := eq_true p9; replace q9 := eq_true q9; go_wp2_with (first | (go_at_call 76; (with_reducible refine (lexis_digit.calls (bt a0 x3_2) false _ A10.out).mono ?_); rintro e w' ⟨rfl, ⟨nd, rfl⟩⟩))
                      go_ret
                      exact ⟨zi, zn⟩
                    · rw [if_neg c13] at H; have c13b0 : decide (6 < x3_2) = false := decide_eq_false c13; clear c13
                      by_cases c14 : 1 < (a0.size : Int)
                      · rw [if_pos c14] at H; have c14b0 : decide (1 < (a0.size : Int)) = true := decide_eq_true c14; have c14b1 : decide (1 < a0.size) = true := decide_eq_true (by omega); clear c14
                        by_cases c16 : (bt a0 1) = 48
                        · rw [if_pos c16] at H; have c16b0 : ((bt a0 1) == 48) = true := beq_iff_eq.mpr c16; have c16b1 : ((bt a0 1) != 48) = false := bne_eq_false_iff_eq.mpr c16; clear c16; obtain rfl := Option.some.inj H; have p9 : 0 ≤ (x3_2 : Int) := zd; have q9 : x3_2 < (a0.size : Int) := zd; have hx9 := bt_at a0 x3_2; replace p9 := eq_true p9; replace q9 := eq_true q9; go_wp2_with (first | (go_at_call 76; (with_reducible refine (lexis_digit.calls (bt a0 x3_2) false _ A10.out).mono ?_); rintro e w' ⟨rfl, ⟨nd, rfl⟩⟩; have p15 : 0 ≤ (1 : Int) := (by omega); have q15 : 1 < a0.size := (by have : (1 : Int) < (a0.size : Int) := zd; omega); have hx15 : ∀ h : 1 < a0.size, ((a0[1]'h).toNat : Int) = bt a0 1 := bt_at a0 1; clear p15; have qi15 : (1 < (a0.size : Int)) = True := eq_true (zd); replace q15 := eq_true q15))
                          go_ret
                          exact ⟨zi, zn⟩
                        · rw [if_neg c16] at H; have c16b0 : ((bt a0 1) == 48) = false := beq_eq_false_iff_ne.mpr c16; have c16b1 : ((bt a0 1) != 48) = true := bne_iff_ne.mpr c16; obtain rfl := Option.some.inj H; have p9 : 0 ≤ (x3_2 : Int) := zd; have q9 : x3_2 < (a0.size : Int) := zd; have hx9 := bt_at a0 x3_2; replace p9 := eq_true p9; replace q9 := eq_true q9; go_wp2_with (first | (go_at_call 76; (with_reducible refine (lexis_digit.calls (bt a0 x3_2) false _ A10.out).mono ?_); rintro e w' ⟨rfl, ⟨nd, rfl⟩⟩; have p15 : 0 ≤ (1 : Int) := (by omega); have q15 : 1 < a0.size := (by have : (1 : Int) < (a0.size : Int) := zd; omega); have hx15 : ∀ h : 1 < a0.size, ((a0[1]'h).toNat : Int) = bt a0 1 := bt_at a0 1; clear p15; have qi15 : (1 < (a0.size : Int)) = True := eq_true (zd); replace q15 := eq_true q15))
                          go_ret
                          exact ⟨zi, zn⟩
                      · rw [if_neg c14] at H; exact absurd H (by simp)
              · rw [if_neg c8] at H; exact absurd H (by simp)
            · rw [if_neg c7] at H; have c7b0 : decide (x3_2 < (a0.size : Int)) = false := decide_eq_false c7; clear c7
              by_cases c17 : x3_2 = 1
              · rw [if_pos c17] at H; have c17b0 : (x3_2 == 1) = true := beq_iff_eq.mpr c17; have c17b1 : (x3_2 != 1) = false := bne_eq_false_iff_eq.mpr c17; clear c17; obtain rfl := Option.some.inj H; go_wp2
                go_ret
                exact ⟨zi, zn⟩
              · rw [if_neg c17] at H; have c17b0 : (x3_2 == 1) = false := beq_eq_false_iff_ne.mpr c17; have c17b1 : (x3_2 != 1) = true := bne_iff_ne.mpr c17
                by_cases c18 : x3_2 > 6
                · rw [if_pos c18] at H; have c18b0 : decide (6 < x3_2) = true := decide_eq_true c18; clear c18; obtain rfl := Option.some.inj H; go_wp2
                  go_ret
                  exact ⟨zi, zn⟩
                · rw [if_neg c18] at H; have c18b0 : decide (6 < x3_2) = false := decide_eq_false c18; clear c18
                  by_cases c19 : 1 < (a0.size : Int)
                  · rw [if_pos c19] at H; have c19b0 : decide (1 < (a0.size : Int)) = true := decide_eq_true c19; have c19b1 : decide (1 < a0.size) = true := decide_eq_true (by omega); clear c19
                    by_cases c21 : (bt a0 1) = 48
                    · rw [if_pos c21] at H; have c21b0 : ((bt a0 1) == 48) = true := beq_iff_eq.mpr c21; have c21b1 : ((bt a0 1) != 48) = false := bne_eq_false_iff_eq.mpr c21; clear c21; obtain rfl := Option.some.inj H; have p20 : 0 ≤ (1 : Int) := (by omega); have q20 : 1 < a0.size := (by have : (1 : Int) < (a0.size : Int) := zd; omega); have hx20 : ∀ h : 1 < a0.size, ((a0[1]'h).toNat : Int) = bt a0 1 := bt_at a0 1; clear p20; have qi20 : (1 < (a0.size : Int)) = True := eq_true (zd); replace q20 := eq_true q20; go_wp2
                      go_ret
                      exact ⟨zi, zn⟩
                    · rw [if_neg c21] at H; have c21b0 : ((bt a0 1) == 48) = false := beq_eq_false_iff_ne.mpr c21; have c21b1 : ((bt a0 1) != 48) = true := bne_iff_ne.mpr c21; obtain rfl := Option.some.inj H; have p20 : 0 ≤ (1 : Int) := (by omega); have q20 : 1 < a0.size := (by have : (1 : Int) < (a0.size : Int) := zd; omega); have hx20 : ∀ h : 1 < a0.size, ((a0[1]'h).toNat : Int) = bt a0 1 := bt_at a0 1; clear p20; have qi20 : (1 < (a0.size : Int)) = True := eq_true (zd); replace q20 := eq_true q20; go_wp2
                      go_ret
                      exact ⟨zi, zn⟩
                  · rw [if_neg c19] at H; exact absurd H (by simp)
def lexis_named.f (k : Nat) (a0 : ByteArray) (a1 : Int) : Option (Int) := (lexis_own.f k a0 a1).bind fun t105 => (if t105 = 0 then (some 0) else (if 0 ≤ (wrap64 (a1 + t105)) then (if (wrap64 (a1 + t105)) ≤ (a0.size : Int) then ((strings_HasPrefix.f (a0.extract ((wrap64 (a1 + t105)) : Int).toNat a0.size) (⟨#[58, 58]⟩ : ByteArray)).bind fun t106 => (if t106 = true then ((lexis_own.f k a0 (wrap64 ((wrap64 (a1 + t105)) + 2))).bind fun t107 => (if t107 > 0 then (if 0 ≤ (wrap64 (a1 + (wrap64 (t105 + (wrap64 (2 + t107)))))) then (if (wrap64 (a1 + (wrap64 (t105 + (wrap64 (2 + t107)))))) ≤ (a0.size : Int) then ((lexis_numbered.f k (a0.extract ((wrap64 (a1 + (wrap64 (t105 + (wrap64 (2 + t107)))))) : Int).toNat a0.size)).bind fun t108 => (some (wrap64 ((wrap64 (t105 + (wrap64 (2 + t107)))) + t108)))) else (none)) else (none)) else ((lexis_numbered.f k (a0.extract ((wrap64 (a1 + t105)) : Int).toNat a0.size)).bind fun t109 => (some (wrap64 (t105 + t109)))))) else ((lexis_numbered.f k (a0.extract ((wrap64 (a1 + t105)) : Int).toNat a0.size)).bind fun t110 => (some (wrap64 (t105 + t110)))))) else (none)) else (none)))
theorem lexis_named.mono : ∀ a0 a1 k, LeO (lexis_named.f k a0 a1) (lexis_named.f (k + 1) a0 a1) := by
  intro a0 a1 k; unfold lexis_named.f
  repeat' first
      | (with_reducible exact lexis_numbered.mono _ _)
      | (with_reducible exact lexis_own.mono _ _ _)
      | (with_reducible exact LeO.refl _)
      | (with_reducible exact LeO.none _)
      | (with_reducible refine LeO.ite ?_ ?_)
      | (with_reducible refine LeO.bind ?_ (fun _ => ?_))
      | exact lexis_numbered.mono _ _
      | exact lexis_own.mono _ _ _
      | exact LeO.none _
      | refine LeO.ite ?_ ?_
      | refine LeO.bind ?_ (fun _ => ?_)
set_option maxHeartbeats 8000000 in
set_option maxRecDepth 100000 in
theorem lexis_named.calls (k : Nat) (a0 : ByteArray) (a1 : Int) (r : Int) (w : World) (h : lexis_named.f k a0 a1 = some r) :
    Calls Tryd.prog 46 #[.string a0, .int .i64 a1] w fun e w' => e = .returned (.int .i64 r) ∧ Drawn0 w w' := by
  have H : ((lexis_own.f k a0 a1).bind fun t105 => (if t105 = 0 then (some 0) else (if 0 ≤ (wrap64 (a1 + t105)) then (if (wrap64 (a1 + t105)) ≤ (a0.size : Int) then ((strings_HasPrefix.f (a0.extract ((wrap64 (a1 + t105)) : Int).toNat a0.size) (⟨#[58, 58]⟩ : ByteArray)).bind fun t106 => (if t106 = true then ((lexis_own.f k a0 (wrap64 ((wrap64 (a1 + t105)) + 2))).bind fun t107 => (if t107 > 0 then (if 0 ≤ (wrap64 (a1 + (wrap64 (t105 + (wrap64 (2 + t107)))))) then (if (wrap64 (a1 + (wrap64 (t105 + (wrap64 (2 + t107)))))) ≤ (a0.size : Int) then ((lexis_numbered.f k (a0.extract ((wrap64 (a1 + (wrap64 (t105 + (wrap64 (2 + t107)))))) : Int).toNat a0.size)).bind fun t108 => (some (wrap64 ((wrap64 (t105 + (wrap64 (2 + t107)))) + t108)))) else (none)) else (none)) else ((lexis_numbered.f k (a0.extract ((wrap64 (a1 + t105)) : Int).toNat a0.size)).bind fun t109 => (some (wrap64 (t105 + t109)))))) else ((lexis_numbered.f k (a0.extract ((wrap64 (a1 + t105)) : Int).toNat a0.size)).bind fun t110 => (some (wrap64 (t105 + t110)))))) else (none)) else (none)))) = some r := h; clear h; replace H := Option.bind_eq_some_iff.mp H; obtain ⟨t105, A30, H⟩ := H; replace H : (if t105 = 0 then (some 0) else (if 0 ≤ (wrap64 (a1 + t105)) then (if (wrap64 (a1 + t105)) ≤ (a0.size : Int) then ((strings_HasPrefix.f (a0.extract ((wrap64 (a1 + t105)) : Int).toNat a0.size) (⟨#[58, 58]⟩ : ByteArray)).bind fun t106 => (if t106 = true then ((lexis_own.f k a0 (wrap64 ((wrap64 (a1 + t105)) + 2))).bind fun t107 => (if t107 > 0 then (if 0 ≤ (wrap64 (a1 + (wrap64 (t105 + (wrap64 (2 + t107)))))) then (if (wrap64 (a1 + (wrap64 (t105 + (wrap64 (2 + t107)))))) ≤ (a0.size : Int) then ((lexis_numbered.f k (a0.extract ((wrap64 (a1 + (wrap64 (t105 + (wrap64 (2 + t107)))))) : Int).toNat a0.size)).bind fun t108 => (some (wrap64 ((wrap64 (t105 + (wrap64 (2 + t107)))) + t108)))) else (none)) else (none)) else ((lexis_numbered.f k (a0.extract ((wrap64 (a1 + t105)) : Int).toNat a0.size)).bind fun t109 => (some (wrap64 (t105 + t109)))))) else ((lexis_numbered.f k (a0.extract ((wrap64 (a1 + t105)) : Int).toNat a0.size)).bind fun t110 => (some (wrap64 (t105 + t110)))))) else (none)) else (none))) = some r := H; have A3 := Aside0.mk A30; clear A30
  by_cases c4 : t105 = 0
  · rw [if_pos c4] at H; have c4b0 : (t105 == 0) = true := beq_iff_eq.mpr c4; have c4b1 : (t105 != 0) = false := bne_eq_false_iff_eq.mpr c4; clear c4; obtain rfl := Option.some.inj H; go_enter Tryd.func46, Tryd.ntmps46; go_wp2_with (first | ((with_reducible refine Q26 (f := 58) rfl ?_); refine goesL_ (some 9) rfl rfl Tryd.func58 (by kernel_rfl) rfl #[.string a0, .int .i64 a1] rfl za ?_; (with_reducible refine (lexis_own.calls k a0 a1 t105 _ A3.out).mono ?_); rintro e w' ⟨rfl, ⟨nd, rfl⟩⟩; refine ⟨_, rfl, ?_⟩))
    go_ret
    exact ⟨zi, zn⟩
  · rw [if_neg c4] at H; have c4b0 : (t105 == 0) = false := beq_eq_false_iff_ne.mpr c4; have c4b1 : (t105 != 0) = true := bne_iff_ne.mpr c4; obtain ⟨ji5, hji5⟩ : ∃ j_ : Int, (wrap64 (a1 + t105)) = j_ := ⟨_, rfl⟩
    replace H : (if 0 ≤ (ji5) then (if (ji5) ≤ (a0.size : Int) then ((strings_HasPrefix.f (a0.extract ((ji5) : Int).toNat a0.size) (⟨#[58, 58]⟩ : ByteArray)).bind fun t106 => (if t106 = true then ((lexis_own.f k a0 (wrap64 ((ji5) + 2))).bind fun t107 => (if t107 > 0 then (if 0 ≤ (wrap64 (a1 + (wrap64 (t105 + (wrap64 (2 + t107)))))) then (if (wrap64 (a1 + (wrap64 (t105 + (wrap64 (2 + t107)))))) ≤ (a0.size : Int) then ((lexis_numbered.f k (a0.extract ((wrap64 (a1 + (wrap64 (t105 + (wrap64 (2 + t107)))))) : Int).toNat a0.size)).bind fun t108 => (some (wrap64 ((wrap64 (t105 + (wrap64 (2 + t107)))) + t108)))) else (none)) else (none)) else ((lexis_numbered.f k (a0.extract ((ji5) : Int).toNat a0.size)).bind fun t109 => (some (wrap64 (t105 + t109)))))) else ((lexis_numbered.f k (a0.extract ((ji5) : Int).toNat a0.size)).bind fun t110 => (some (wrap64 (t105 + t110)))))) else (none)) else (none)) = some r := by first | (rw [hji5] at H; exact H) | (simp only [hji5] at H ⊢; exact H)
    (try rw [hji5] at A3); have hji5w : (IntKind.i64.wrap (a1 + t105)) = ji5 := (i64_w _).trans hji5
    by_cases c6 : 0 ≤ (ji5)
    · rw [if_pos c6] at H; have c6b0 := eq_true c6; have c6b1 : decide (0 ≤ (ji5)) = true := decide_eq_true c6; clear c6
      by_cases c7 : (ji5) ≤ (a0.size : Int)
      · rw [if_pos c7] at H; have c7b0 := eq_true c7; have c7b1 : decide ((ji5) ≤ (a0.size : Int)) = true := decide_eq_true c7; clear c7; replace H := Option.bind_eq_some_iff.mp H; obtain ⟨t106, A80, H⟩ := H; replace H : (if t106 = true then ((lexis_own.f k a0 (wrap64 ((ji5) + 2))).bind fun t107 => (if t107 > 0 then (if 0 ≤ (wrap64 (a1 + (wrap64 (t105 + (wrap64 (2 + t107)))))) then (if (wrap64 (a1 + (wrap64 (t105 + (wrap64 (2 + t107)))))) ≤ (a0.size : Int) then ((lexis_numbered.f k (a0.extract ((wrap64 (a1 + (wrap64 (t105 + (wrap64 (2 + t107)))))) : Int).toNat a0.size)).bind fun t108 => (some (wrap64 ((wrap64 (t105 + (wrap64 (2 + t107)))) + t108)))) else (none)) else (none)) else ((lexis_numbered.f k (a0.extract ((ji5) : Int).toNat a0.size)).bind fun t109 => (some (wrap64 (t105 + t109)))))) else ((lexis_numbered.f k (a0.extract ((ji5) : Int).toNat a0.size)).bind fun t110 => (some (wrap64 (t105 + t110))))) = some r := H; have A8 := Aside0.mk A80; clear A80
        by_cases c9 : t106 = true
        · subst c9
          have H1 : ((lexis_own.f k a0 (wrap64 ((ji5) + 2))).bind fun t107 => (if t107 > 0 then (if 0 ≤ (wrap64 (a1 + (wrap64 (t105 + (wrap64 (2 + t107)))))) then (if (wrap64 (a1 + (wrap64 (t105 + (wrap64 (2 + t107)))))) ≤ (a0.size : Int) then ((lexis_numbered.f k (a0.extract ((wrap64 (a1 + (wrap64 (t105 + (wrap64 (2 + t107)))))) : Int).toNat a0.size)).bind fun t108 => (some (wrap64 ((wrap64 (t105 + (wrap64 (2 + t107)))) + t108)))) else (none)) else (none)) else ((lexis_numbered.f k (a0.extract ((ji5) : Int).toNat a0.size)).bind fun t109 => (some (wrap64 (t105 + t109)))))) = some r := by rw [if_pos rfl] at H; exact H
          clear H; have H := H1; clear H1; replace H := Option.bind_eq_some_iff.mp H; obtain ⟨t107, A100, H⟩ := H; replace H : (if t107 > 0 then (if 0 ≤ (wrap64 (a1 + (wrap64 (t105 + (wrap64 (2 + t107)))))) then (if (wrap64 (a1 + (wrap64 (t105 + (wrap64 (2 + t107)))))) ≤ (a0.size : Int) then ((lexis_numbered.f k (a0.extract ((wrap64 (a1 + (wrap64 (t105 + (wrap64 (2 + t107)))))) : Int).toNat a0.size)).bind fun t108 => (some (wrap64 ((wrap64 (t105 + (wrap64 (2 + t107)))) + t108)))) else (none)) else (none)) else ((lexis_numbered.f k (a0.extract ((ji5) : Int).toNat a0.size)).bind fun t109 => (some (wrap64 (t105 + t109))))) = some r := H; have A10 := Aside0.mk A100; clear A100
          by_cases c11 : t107 > 0
          · rw [if_pos c11] at H; have c11b0 : decide (0 < t107) = true := decide_eq_true c11; clear c11; obtain ⟨ji12, hji12⟩ : ∃ j_ : Int, (wrap64 (a1 + (wrap64 (t105 + (wrap64 (2 + t107)))))) = j_ := ⟨_, rfl⟩
            replace H : (if 0 ≤ (ji12) then (if (ji12) ≤ (a0.size : Int) then ((lexis_numbered.f k (a0.extract ((ji12) : Int).toNat a0.size)).bind fun t108 => (some (wrap64 ((wrap64 (t105 + (wrap64 (2 + t107)))) + t108)))) else (none)) else (none)) = some r := by first | (rw [hji12] at H; exact H) | (simp only [hji12] at H ⊢; exact H)
            (try rw [hji12] at A3); (try rw [hji12] at A8); (try rw [hji12] at A10); have hji12w : (IntKind.i64.wrap (a1 + (wrap64 (t105 + (wrap64 (2 + t107)))))) = ji12 := (i64_w _).trans hji12
            by_cases c13 : 0 ≤ (ji12)
            · rw [if_pos c13] at H; have c13b0 := eq_true c13; have c13b1 : decide (0 ≤ (ji12)) = true := decide_eq_true c13; clear c13
              by_cases c14 : (ji12) ≤ (a0.size : Int)
              · rw [if_pos c14] at H; have c14b0 := eq_true c14; have c14b1 : decide ((ji12) ≤ (a0.size : Int)) = true := decide_eq_true c14; clear c14; replace H := Option.bind_eq_some_iff.mp H; obtain ⟨t108, A150, H⟩ := H; replace H : (some (wrap64 ((wrap64 (t105 + (wrap64 (2 + t107)))) + t108))) = some r := H; have A15 := Aside0.mk A150; clear A150; obtain rfl := Option.some.inj H; go_enter Tryd.func46, Tryd.ntmps46; go_wp2_with (first | ((with_reducible refine Q26 (f := 58) rfl ?_); refine goesL_ (some 9) rfl rfl Tryd.func58 (by kernel_rfl) rfl #[.string a0, .int .i64 a1] rfl za ?_; (with_reducible refine (lexis_own.calls k a0 a1 t105 _ A3.out).mono ?_); rintro e w' ⟨rfl, ⟨nd, rfl⟩⟩; refine ⟨_, rfl, ?_⟩) | ((with_reducible refine Q26 (f := 51) rfl ?_); refine goesL_ (some 17) rfl rfl Tryd.func51 (by kernel_rfl) rfl #[.string (a0.extract ((ji5) : Int).toNat a0.size), .string (⟨#[58, 58]⟩ : ByteArray)] rfl (by (try simp only [List.map_toArray, List.map_cons, List.map_nil]); first | done | (simp only [hji5]; rfl) | rfl | (simp only [List.length_drop, List.length_take]; rfl)) ?_; (with_reducible refine (strings_HasPrefix.calls (a0.extract ((ji5) : Int).toNat a0.size) (⟨#[58, 58]⟩ : ByteArray) true _ A8.out).mono ?_); rintro e w' ⟨rfl, ⟨nd, rfl⟩⟩; refine ⟨_, rfl, ?_⟩) | ((with_reducible refine Q26 (f := 58) rfl ?_); refine goesL_ (some 23) rfl rfl Tryd.func58 (by kernel_rfl) rfl #[.string a0, .int .i64 (wrap64 ((ji5) + 2))] rfl (by (try simp only [List.map_toArray, List.map_cons, List.map_nil]); first | done | (simp only [hji5]; rfl) | rfl | (simp only [List.length_drop, List.length_take]; rfl)) ?_; (with_reducible refine (lexis_own.calls k a0 (wrap64 ((ji5) + 2)) t107 _ A10.out).mono ?_); rintro e w' ⟨rfl, ⟨nd, rfl⟩⟩; refine ⟨_, rfl, ?_⟩) | ((with_reducible refine Q26 (f := 72) rfl ?_); refine goesL_ (some 36) rfl rfl Tryd.func72 (by kernel_rfl) rfl #[.string (a0.extract ((ji12) : Int).toNat a0.size)] rfl (by (try simp only [List.map_toArray, List.map_cons, List.map_nil]); first | done | (simp only [hji12]; rfl) | rfl | (simp only [List.length_drop, List.length_take]; rfl)) ?_; (with_reducible refine (lexis_numbered.calls k (a0.extract ((ji12) : Int).toNat a0.size) t108 _ A15.out).mono ?_); rintro e w' ⟨rfl, ⟨nd, rfl⟩⟩; refine ⟨_, rfl, ?_⟩))
                go_ret
                exact ⟨by first | rfl | (simp; done) | (simp [i64_w, IntKind.wrap_u8]; done) | (simp [*]; done) | (simp only [← hji5, ← hji12] <;> (first | rfl | simp)) | (simp [*]; done), zn⟩
              · rw [if_neg c14] at H; exact absurd H (by simp)
            · rw [if_neg c13] at H; exact absurd H (by simp)
          · rw [if_neg c11] at H; have c11b0 : decide (0 < t107) = false := decide_eq_false c11; clear c11; have c16b0 := eq_true (zd : 0 ≤ (ji5)); have c17b0 := eq_true (zd : (ji5) ≤ (a0.size : Int)); replace H := Option.bind_eq_some_iff.mp H; obtain ⟨t109, A180, H⟩ := H; replace H : (some (wrap64 (t105 + t109))) = some r := H; have A18 := Aside0.mk A180; clear A180; obtain rfl := Option.some.inj H; go_enter Tryd.func46, Tryd.ntmps46; go_wp2_with (first | ((with_reducible refine Q26 (f := 58) rfl ?_); refine goesL_ (some 9) rfl rfl Tryd.func58 (by kernel_rfl) rfl #[.string a0, .int .i64 a1] rfl za ?_; (with_reducible refine (lexis_own.calls k a0 a1 t105 _ A3.out).mono ?_); rintro e w' ⟨rfl, ⟨nd, rfl⟩⟩; refine ⟨_, rfl, ?_⟩) | ((with_reducible refine Q26 (f := 51) rfl ?_); refine goesL_ (some 17) rfl rfl Tryd.func51 (by kernel_rfl) rfl #[.string (a0.extract ((ji5) : Int).toNat a0.size), .string (⟨#[58, 58]⟩ : ByteArray)] rfl (by (try simp only [List.map_toArray, List.map_cons, List.map_nil]); first | done | (simp only [hji5]; rfl) | rfl | (simp only [List.length_drop, List.length_take]; rfl)) ?_; (with_reducible refine (strings_HasPrefix.calls (a0.extract ((ji5) : Int).toNat a0.size) (⟨#[58, 58]⟩ : ByteArray) true _ A8.out).mono ?_); rintro e w' ⟨rfl, ⟨nd, rfl⟩⟩; refine ⟨_, rfl, ?_⟩) | ((with_reducible refine Q26 (f := 58) rfl ?_); refine goesL_ (some 23) rfl rfl Tryd.func58 (by kernel_rfl) rfl #[.string a0, .int .i64 (wrap64 ((ji5) + 2))] rfl (by (try simp only [List.map_toArray, List.map_cons, List.map_nil]); first | done | (simp only [hji5]; rfl) | rfl | (simp only [List.length_drop, List.length_take]; rfl)) ?_; (with_reducible refine (lexis_own.calls k a0 (wrap64 ((ji5) + 2)) t107 _ A10.out).mono ?_); rintro e w' ⟨rfl, ⟨nd, rfl⟩⟩; refine ⟨_, rfl, ?_⟩) | ((with_reducible refine Q26 (f := 72) rfl ?_); refine goesL_ (some 36) rfl rfl Tryd.func72 (by kernel_rfl) rfl #[.string (a0.extract ((ji5) : Int).toNat a0.size)] rfl (by (try simp only [List.map_toArray, List.map_cons, List.map_nil]); first | done | (simp only [hji5]; rfl) | rfl | (simp only [List.length_drop, List.length_take]; rfl)) ?_; (with_reducible refine (lexis_numbered.calls k (a0.extract ((ji5) : Int).toNat a0.size) t109 _ A18.out).mono ?_); rintro e w' ⟨rfl, ⟨nd, rfl⟩⟩; refine ⟨_, rfl, ?_⟩))
            go_ret
            exact ⟨by first | rfl | (simp; done) | (simp [i64_w, IntKind.wrap_u8]; done) | (simp [*]; done) | (simp only [← hji5] <;> (first | rfl | simp)) | (simp [*]; done), zn⟩
        · replace c9 := Bool.eq_false_iff.mpr c9; subst c9
          have H1 : ((lexis_numbered.f k (a0.extract ((ji5) : Int).toNat a0.size)).bind fun t110 => (some (wrap64 (t105 + t110)))) = some r := by rw [if_neg (show ¬ (false = true) by decide)] at H; exact H
          clear H; have H := H1; clear H1; have c19b0 := eq_true (zd : 0 ≤ (ji5)); have c20b0 := eq_true (zd : (ji5) ≤ (a0.size : Int)); replace H := Option.bind_eq_some_iff.mp H; obtain ⟨t110, A210, H⟩ := H; replace H : (some (wrap64 (t105 + t110))) = some r := H; have A21 := Aside0.mk A210; clear A210; obtain rfl := Option.some.inj H; go_enter Tryd.func46, Tryd.ntmps46; go_wp2_with (first | ((with_reducible refine Q26 (f := 58) rfl ?_); refine goesL_ (some 9) rfl rfl Tryd.func58 (by kernel_rfl) rfl #[.string a0, .int .i64 a1] rfl za ?_; (with_reducible refine (lexis_own.calls k a0 a1 t105 _ A3.out).mono ?_); rintro e w' ⟨rfl, ⟨nd, rfl⟩⟩; refine ⟨_, rfl, ?_⟩) | ((with_reducible refine Q26 (f := 51) rfl ?_); refine goesL_ (some 17) rfl rfl Tryd.func51 (by kernel_rfl) rfl #[.string (a0.extract ((ji5) : Int).toNat a0.size), .string (⟨#[58, 58]⟩ : ByteArray)] rfl (by (try simp only [List.map_toArray, List.map_cons, List.map_nil]); first | done | (simp only [hji5]; rfl) | rfl | (simp only [List.length_drop, List.length_take]; rfl)) ?_; (with_reducible refine (strings_HasPrefix.calls (a0.extract ((ji5) : Int).toNat a0.size) (⟨#[58, 58]⟩ : ByteArray) false _ A8.out).mono ?_); rintro e w' ⟨rfl, ⟨nd, rfl⟩⟩; refine ⟨_, rfl, ?_⟩) | ((with_reducible refine Q26 (f := 72) rfl ?_); refine goesL_ (some 36) rfl rfl Tryd.func72 (by kernel_rfl) rfl #[.string (a0.extract ((ji5) : Int).toNat a0.size)] rfl (by (try simp only [List.map_toArray, List.map_cons, List.map_nil]); first | done | (simp only [hji5]; rfl) | rfl | (simp only [List.length_drop, List.length_take]; rfl)) ?_; (with_reducible refine (lexis_numbered.calls k (a0.extract ((ji5) : Int).toNat a0.size) t110 _ A21.out).mono ?_); rintro e w' ⟨rfl, ⟨nd, rfl⟩⟩; refine ⟨_, rfl, ?_⟩))
          go_ret
          exact ⟨by first | rfl | (simp; done) | (simp [i64_w, IntKind.wrap_u8]; done) | (simp [*]; done) | (simp only [← hji5] <;> (first | rfl | simp)) | (simp [*]; done), zn⟩
      · rw [if_neg c7] at H; exact absurd H (by simp)
    · rw [if_neg c6] at H; exact absurd H (by simp)
def lexis_Name.f (k : Nat) (a0 : ByteArray) : Option (Bool) := if a0.toList = ([] : List UInt8) then (some false) else (if (a0.size : Int) ≤ 64 then ((lexis_named.f k a0 0).bind fun t111 => (some (t111 == (a0.size : Int)))) else (some false))
theorem lexis_Name.mono : ∀ a0 k, LeO (lexis_Name.f k a0) (lexis_Name.f (k + 1) a0) := by
  intro a0 k; unfold lexis_Name.f
  repeat' first
      | (with_reducible exact lexis_named.mono _ _ _)
      | (with_reducible exact LeO.refl _)
      | (with_reducible exact LeO.none _)
      | (with_reducible refine LeO.ite ?_ ?_)
      | (with_reducible refine LeO.bind ?_ (fun _ => ?_))
      | exact lexis_named.mono _ _ _
      | exact LeO.none _
      | refine LeO.ite ?_ ?_
      | refine LeO.bind ?_ (fun _ => ?_)
set_option maxHeartbeats 8000000 in
set_option maxRecDepth 100000 in
theorem lexis_Name.calls (k : Nat) (a0 : ByteArray) (r : Bool) (w : World) (h : lexis_Name.f k a0 = some r) :
    Calls Tryd.prog 30 #[.string a0] w fun e w' => e = .returned (.bool r) ∧ Drawn0 w w' := by
  have H : (if a0.toList = ([] : List UInt8) then (some false) else (if (a0.size : Int) ≤ 64 then ((lexis_named.f k a0 0).bind fun t111 => (some (t111 == (a0.size : Int)))) else (some false))) = some r := h; clear h
  by_cases c2 : a0.toList = ([] : List UInt8)
  · rw [if_pos c2] at H; have c2b0 : (a0.toList == ([] : List UInt8)) = true := beq_iff_eq.mpr c2; have c2b1 : (a0.toList != ([] : List UInt8)) = false := bne_eq_false_iff_eq.mpr c2; clear c2; obtain rfl := Option.some.inj H; go_enter Tryd.func30, Tryd.ntmps30; go_wp2
    go_ret
    exact ⟨zi, zn⟩
  · rw [if_neg c2] at H; have c2b0 : (a0.toList == ([] : List UInt8)) = false := beq_eq_false_iff_ne.mpr c2; have c2b1 : (a0.toList != ([] : List UInt8)) = true := bne_iff_ne.mpr c2
    by_cases c3 : (a0.size : Int) ≤ 64
    · rw [if_pos c3] at H; have c3b0 : decide ((a0.size : Int) ≤ 64) = true := decide_eq_true c3; have c3b1 : decide (a0.size ≤ 64) = true := decide_eq_true (by omega); clear c3; replace H := Option.bind_eq_some_iff.mp H; obtain ⟨t111, A40, H⟩ := H; replace H : (some (t111 == (a0.size : Int))) = some r := H; have A4 := Aside0.mk A40; clear A40; obtain rfl := Option.some.inj H; go_enter Tryd.func30, Tryd.ntmps30; go_wp2_with (first | (go_at_call 46; (with_reducible refine (lexis_named.calls k a0 0 t111 _ A4.out).mono ?_); rintro e w' ⟨rfl, ⟨nd, rfl⟩⟩))
      go_ret
      exact ⟨zi, zn⟩
    · rw [if_neg c3] at H; have c3b0 : decide ((a0.size : Int) ≤ 64) = false := decide_eq_false c3; have c3b1 : decide (a0.size ≤ 64) = false := decide_eq_false (by omega); clear c3; obtain rfl := Option.some.inj H; go_enter Tryd.func30, Tryd.ntmps30; go_wp2
      go_ret
      exact ⟨zi, zn⟩
def lexis_ownName.f (k : Nat) (a0 : ByteArray) : Option (Bool) := if a0.toList = ([] : List UInt8) then (some false) else (if (a0.size : Int) ≤ 64 then ((lexis_own.f k a0 0).bind fun t112 => (some (t112 == (a0.size : Int)))) else (some false))
theorem lexis_ownName.mono : ∀ a0 k, LeO (lexis_ownName.f k a0) (lexis_ownName.f (k + 1) a0) := by
  intro a0 k; unfold lexis_ownName.f
  repeat' first
      | (with_reducible exact lexis_own.mono _ _ _)
      | (with_reducible exact LeO.refl _)
      | (with_reducible exact LeO.none _)
      | (with_reducible refine LeO.ite ?_ ?_)
      | (with_reducible refine LeO.bind ?_ (fun _ => ?_))
      | exact lexis_own.mono _ _ _
      | exact LeO.none _
      | refine LeO.ite ?_ ?_
      | refine LeO.bind ?_ (fun _ => ?_)
set_option maxHeartbeats 8000000 in
set_option maxRecDepth 100000 in
theorem lexis_ownName.calls (k : Nat) (a0 : ByteArray) (r : Bool) (w : World) (h : lexis_ownName.f k a0 = some r) :
    Calls Tryd.prog 34 #[.string a0] w fun e w' => e = .returned (.bool r) ∧ Drawn0 w w' := by
  have H : (if a0.toList = ([] : List UInt8) then (some false) else (if (a0.size : Int) ≤ 64 then ((lexis_own.f k a0 0).bind fun t112 => (some (t112 == (a0.size : Int)))) else (some false))) = some r := h; clear h
  by_cases c2 : a0.toList = ([] : List UInt8)
  · rw [if_pos c2] at H; have c2b0 : (a0.toList == ([] : List UInt8)) = true := beq_iff_eq.mpr c2; have c2b1 : (a0.toList != ([] : List UInt8)) = false := bne_eq_false_iff_eq.mpr c2; clear c2; obtain rfl := Option.some.inj H; go_enter Tryd.func34, Tryd.ntmps34; go_wp2
    go_ret
    exact ⟨zi, zn⟩
  · rw [if_neg c2] at H; have c2b0 : (a0.toList == ([] : List UInt8)) = false := beq_eq_false_iff_ne.mpr c2; have c2b1 : (a0.toList != ([] : List UInt8)) = true := bne_iff_ne.mpr c2
    by_cases c3 : (a0.size : Int) ≤ 64
    · rw [if_pos c3] at H; have c3b0 : decide ((a0.size : Int) ≤ 64) = true := decide_eq_true c3; have c3b1 : decide (a0.size ≤ 64) = true := decide_eq_true (by omega); clear c3; replace H := Option.bind_eq_some_iff.mp H; obtain ⟨t112, A40, H⟩ := H; replace H : (some (t112 == (a0.size : Int))) = some r := H; have A4 := Aside0.mk A40; clear A40; obtain rfl := Option.some.inj H; go_enter Tryd.func34, Tryd.ntmps34; go_wp2_with (first | (go_at_call 58; (with_reducible refine (lexis_own.calls k a0 0 t112 _ A4.out).mono ?_); rintro e w' ⟨rfl, ⟨nd, rfl⟩⟩))
      go_ret
      exact ⟨zi, zn⟩
    · rw [if_neg c3] at H; have c3b0 : decide ((a0.size : Int) ≤ 64) = false := decide_eq_false c3; have c3b1 : decide (a0.size ≤ 64) = false := decide_eq_false (by omega); clear c3; obtain rfl := Option.some.inj H; go_enter Tryd.func34, Tryd.ntmps34; go_wp2
      go_ret
      exact ⟨zi, zn⟩
end Go.Proofs.YtldjdcdoegjmoaaDoor.P
