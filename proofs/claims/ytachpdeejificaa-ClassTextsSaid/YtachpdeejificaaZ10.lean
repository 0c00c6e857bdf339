import Derived.Test.YtachpdeejificaaZ1
import Derived.Test.YtachpdeejificaaZ7
import Derived.Test.YtachpdeejificaaZ9
namespace Go.Proofs.Ytachpdeejificaa.P
open Go.RowKit Go.Proofs.YtachpdeejificaaW.PrintWords Go.Proofs.YtachpdeejificaaW.PrintLast Go.Proofs.YtachpdeejificaaW.PrintMore
set_option linter.unusedVariables false
set_option linter.unusedSimpArgs false
def dowelref03_spelled.j0 : Nat → Int → Bool → Option (ByteArray)
  | 0, _, _ => none
  | k + 1, x0, x10 => if x10 = true then ((some (([x0] : List Int) : List Int)).bind fun y196 => (if 1 + (strOfNums y196).size ≤ 9223372036854775807 then (some ((⟨#[92]⟩ : ByteArray) ++ (strOfNums y196))) else (none))) else (if x0 ≥ 32 then (if x0 ≤ 126 then (some (strOfNums (([x0] : List Int)))) else ((dowelref03_Hex.f x0).bind fun t202 => (if 2 + t202.size ≤ 9223372036854775807 then (some ((⟨#[92, 120]⟩ : ByteArray) ++ t202)) else (none)))) else ((dowelref03_Hex.f x0).bind fun t203 => (if 2 + t203.size ≤ 9223372036854775807 then (some ((⟨#[92, 120]⟩ : ByteArray) ++ t203)) else (none))))
def dowelref03_spelled.f (k : Nat) (a0 : Int) : Option (ByteArray) := if a0 = 9 then (some (⟨#[92, 116]⟩ : ByteArray)) else (if a0 = 10 then (some (⟨#[92, 110]⟩ : ByteArray)) else (if a0 = 13 then (some (⟨#[92, 114]⟩ : ByteArray)) else (if a0 = 92 then (dowelref03_spelled.j0 k a0 (a0 == 92)) else (if a0 = 93 then (dowelref03_spelled.j0 k a0 (a0 == 93)) else (if a0 = 45 then (dowelref03_spelled.j0 k a0 (a0 == 45)) else (dowelref03_spelled.j0 k a0 (a0 == 94)))))))
theorem dowelref03_spelled.mono_l : ∀ k, (∀ y0 y1, LeO (dowelref03_spelled.j0 k y0 y1) (dowelref03_spelled.j0 (k + 1) y0 y1))
  | 0 => fun _ _ r h => by simp [dowelref03_spelled.j0] at h
  | k + 1 => by
    have ih0 := dowelref03_spelled.mono_l k
    · intro y0 y1
      unfold dowelref03_spelled.j0
      repeat' first
      | (with_reducible exact ih0 _ _)
      | (with_reducible exact LeO.refl _)
      | (with_reducible exact LeO.none _)
      | (with_reducible refine LeO.ite ?_ ?_)
      | (with_reducible refine LeO.bind ?_ (fun _ => ?_))
      | exact ih0 _ _
      | exact LeO.none _
      | refine LeO.ite ?_ ?_
      | refine LeO.bind ?_ (fun _ => ?_)
theorem dowelref03_spelled.mono : ∀ a0 k, LeO (dowelref03_spelled.f k a0) (dowelref03_spelled.f (k + 1) a0) := by
  intro a0 k
  have ih0 := dowelref03_spelled.mono_l k
  unfold dowelref03_spelled.f
  repeat' first
      | (with_reducible exact ih0 _ _)
      | (with_reducible exact LeO.refl _)
      | (with_reducible exact LeO.none _)
      | (with_reducible refine LeO.ite ?_ ?_)
      | (with_reducible refine LeO.bind ?_ (fun _ => ?_))
      | exact ih0 _ _
      | exact LeO.none _
      | refine LeO.ite ?_ ?_
      | refine LeO.bind ?_ (fun _ => ?_)
set_option maxHeartbeats 8000000 in
set_option maxRecDepth 100000 in
theorem dowelref03_spelled.calls (k : Nat) (a0 : Int) (r : ByteArray) (w : World) (h : dowelref03_spelled.f k a0 = some r) :
    Calls Try.prog 41 #[.int .u8 a0] w fun e w' => e = .returned (.string r) ∧ Below w.heap.size w w' := by
  have HB := Aside0.mk (Below.refl w.heap.size w)
  have H : (if a0 = 9 then (some (⟨#[92, 116]⟩ : ByteArray)) else (if a0 = 10 then (some (⟨#[92, 110]⟩ : ByteArray)) else (if a0 = 13 then (some (⟨#[92, 114]⟩ : ByteArray)) else (if a0 = 92 then (dowelref03_spelled.j0 k a0 (a0 == 92)) else (if a0 = 93 then (dowelref03_spelled.j0 k a0 (a0 == 93)) else (if a0 = 45 then (dowelref03_spelled.j0 k a0 (a0 == 45)) else (dowelref03_spelled.j0 k a0 (a0 == 94)))))))) = some r := h
  clear h
  by_cases c2 : a0 = 9
  · rw [if_pos c2] at H
    have c2b0 : (a0 == 9) = true := beq_iff_eq.mpr c2
    have c2b1 : (a0 != 9) = false := bne_eq_false_iff_eq.mpr c2
    clear c2
    obtain rfl := Option.some.inj H
    go_enter Try.func41, Try.ntmps41
    go_wp2
    go_ret
    exact ⟨by first | rfl | (simp [errW_none, errW_some] <;> rfl) | (simp [*, errW_none, errW_some] <;> rfl), by repeat (first | (with_reducible first | exact HB.out | apply Q5 | apply Q4 | apply Q6) | exact HB.out)⟩
  · rw [if_neg c2] at H
    have c2b0 : (a0 == 9) = false := beq_eq_false_iff_ne.mpr c2
    have c2b1 : (a0 != 9) = true := bne_iff_ne.mpr c2
    by_cases c3 : a0 = 10
    · rw [if_pos c3] at H
      have c3b0 : (a0 == 10) = true := beq_iff_eq.mpr c3
      have c3b1 : (a0 != 10) = false := bne_eq_false_iff_eq.mpr c3
      clear c3
      obtain rfl := Option.some.inj H
      go_enter Try.func41, Try.ntmps41
      go_wp2
      go_ret
      exact ⟨by first | rfl | (simp [errW_none, errW_some] <;> rfl) | (simp [*, errW_none, errW_some] <;> rfl), by repeat (first | (with_reducible first | exact HB.out | apply Q5 | apply Q4 | apply Q6) | exact HB.out)⟩
    · rw [if_neg c3] at H
      have c3b0 : (a0 == 10) = false := beq_eq_false_iff_ne.mpr c3
      have c3b1 : (a0 != 10) = true := bne_iff_ne.mpr c3
      by_cases c4 : a0 = 13
      · rw [if_pos c4] at H
        have c4b0 : (a0 == 13) = true := beq_iff_eq.mpr c4
        have c4b1 : (a0 != 13) = false := bne_eq_false_iff_eq.mpr c4
        clear c4
        obtain rfl := Option.some.inj H
        go_enter Try.func41, Try.ntmps41
        go_wp2
        go_ret
        exact ⟨by first | rfl | (simp [errW_none, errW_some] <;> rfl) | (simp [*, errW_none, errW_some] <;> rfl), by repeat (first | (with_reducible first | exact HB.out | apply Q5 | apply Q4 | apply Q6) | exact HB.out)⟩
      · rw [if_neg c4] at H
        have c4b0 : (a0 == 13) = false := beq_eq_false_iff_ne.mpr c4
        have c4b1 : (a0 != 13) = true := bne_iff_ne.mpr c4
        have HC5 := Aside0.mk H
        clear H
        go_enter Try.func41, Try.ntmps41
        go_upto_if 10 with (fail)
        go_cut [10] (fun v10 wc => ∃ (kq : Nat) (x10_4 : Bool), v10 = .bool x10_4 ∧ Aside0 (dowelref03_spelled.j0 kq a0 x10_4 = some r) ∧ Aside0 (kq ≤ k) ∧ Aside0 (Below w.heap.size w wc))
        case first =>
          have H := HC5.out
          clear HC5
          by_cases c6 : a0 = 92
          · rw [if_pos c6] at H
            have c6b0 : (a0 == 92) = true := beq_iff_eq.mpr c6
            have c6b1 : (a0 != 92) = false := bne_eq_false_iff_eq.mpr c6
            clear c6
            (first | rw [c6b0] | (simp only [i64_w, i32_w]; rw [c6b0]) | skip)
            have H' := Aside0.mk H
            clear H
            go_wp2
            go_meet
            case rel => exact ⟨_, ((a0 == 92)), (by first | rfl | (simp; done) | (simp [*]; done)), H', ⟨by first | omega | exact Nat.le_refl _⟩, ⟨by repeat (first | (with_reducible first | exact HB.out | apply Q5 | apply Q4 | apply Q6) | exact HB.out)⟩⟩
          · rw [if_neg c6] at H
            have c6b0 : (a0 == 92) = false := beq_eq_false_iff_ne.mpr c6
            have c6b1 : (a0 != 92) = true := bne_iff_ne.mpr c6
            (first | rw [c6b0] | (simp only [i64_w, i32_w]; rw [c6b0]) | skip)
            by_cases c7 : a0 = 93
            · rw [if_pos c7] at H
              have c7b0 : (a0 == 93) = true := beq_iff_eq.mpr c7
              have c7b1 : (a0 != 93) = false := bne_eq_false_iff_eq.mpr c7
              clear c7
              have H' := Aside0.mk H
              clear H
              go_wp2
              go_meet
              case rel => exact ⟨_, ((a0 == 93)), (by first | rfl | (simp; done) | (simp [*]; done)), H', ⟨by first | omega | exact Nat.le_refl _⟩, ⟨by repeat (first | (with_reducible first | exact HB.out | apply Q5 | apply Q4 | apply Q6) | exact HB.out)⟩⟩
            · rw [if_neg c7] at H
              have c7b0 : (a0 == 93) = false := beq_eq_false_iff_ne.mpr c7
              have c7b1 : (a0 != 93) = true := bne_iff_ne.mpr c7
              by_cases c8 : a0 = 45
              · rw [if_pos c8] at H
                have c8b0 : (a0 == 45) = true := beq_iff_eq.mpr c8
                have c8b1 : (a0 != 45) = false := bne_eq_false_iff_eq.mpr c8
                clear c8
                have H' := Aside0.mk H
                clear H
                go_wp2
                go_meet
                case rel => exact ⟨_, ((a0 == 45)), (by first | rfl | (simp; done) | (simp [*]; done)), H', ⟨by first | omega | exact Nat.le_refl _⟩, ⟨by repeat (first | (with_reducible first | exact HB.out | apply Q5 | apply Q4 | apply Q6) | exact HB.out)⟩⟩
              · rw [if_neg c8] at H
                have c8b0 : (a0 == 45) = false := beq_eq_false_iff_ne.mpr c8
                have c8b1 : (a0 != 45) = true := bne_iff_ne.mpr c8
                have H' := Aside0.mk H
                clear H
                go_wp2
                go_meet
                case rel => exact ⟨_, ((a0 == 94)), (by first | rfl | (simp; done) | (simp [*]; done)), H', ⟨by first | omega | exact Nat.le_refl _⟩, ⟨by repeat (first | (with_reducible first | exact HB.out | apply Q5 | apply Q4 | apply Q6) | exact HB.out)⟩⟩
        case rest =>
          clear HC5
          try clear c2
          try clear c2b0
          try clear c2b1
          try clear p2
          try clear c3
          try clear c3b0
          try clear c3b1
          try clear c4
          try clear c4b0
          try clear c4b1
          try clear c6
          try clear c6b0
          try clear c6b1
          try clear c7
          try clear c7b0
          try clear c7b1
          try clear c8
          try clear c8b0
          try clear c8b1
          obtain ⟨kq, x10_4, rfl, HA, HJ4, HB⟩ := hcut
          cases kq with
          | zero => exact absurd HA.out (by simp [dowelref03_spelled.j0])
          | succ kj4 =>
            have H := HA.out
            clear HA
            simp only [dowelref03_spelled.j0] at H
            by_cases c9 : x10_4 = true
            · subst c9
              have H1 : ((some (([a0] : List Int) : List Int)).bind fun y196 => (if 1 + (strOfNums y196).size ≤ 9223372036854775807 then (some ((⟨#[92]⟩ : ByteArray) ++ (strOfNums y196))) else (none))) = some r := by rw [if_pos rfl] at H; exact H
              clear H
              have H := H1
              clear H1
              obtain ⟨y196, hy196⟩ : ∃ y_ : List Int, y_ = (([a0] : List Int)) := ⟨_, rfl⟩
              replace H : (if 1 + (strOfNums y196).size ≤ 9223372036854775807 then (some ((⟨#[92]⟩ : ByteArray) ++ (strOfNums y196))) else (none)) = some r := by first | (rw [hy196]; with_reducible exact H) | (have H2_ := (Option.bind_some _ _).symm.trans H; rw [hy196]; with_reducible exact H2_) | (have H2_ := (Option.bind_some _ _).symm.trans H; with_reducible exact H2_) | with_reducible exact H | (rw [hy196]; exact H) | exact H
              have Ny196 := Aside0.mk hy196
              clear hy196
              by_cases c10 : 1 + (strOfNums y196).size ≤ 9223372036854775807
              · rw [if_pos c10] at H
                have c10b0 := eq_true c10
                have c10b1 : decide (1 + (strOfNums y196).size ≤ 9223372036854775807) = true := decide_eq_true c10
                try have c10b2 : (9223372036854775807 < 1 + (strOfNums y196).size) = False := eq_false (Nat.not_lt.2 c10)
                obtain rfl := Option.some.inj H
                go_wp2_with (first | ((with_reducible refine gate_dst (N := 16) rfl ?_); refine Kd.R_lit (Kd.int .u8) _ 5 ?hg (N := 16) ?hd (xs := ([a0] : List Int)) (inner := [.int .u8 a0]) (ok := fun _ => True) (okp := fun _ => True) ?hr ?hp (fun _ hk => hk) trivial (Below.refl _ _) (Nat.le_refl _) (by simp) ?_; (case hd => rfl); (case hg => rfl); (case hr => first | (go_simp; done) | (go_simp; rfl)); (case hp => exact (Reps.one (show Kd.M (Kd.int .u8) _ _ _ a0 [.int .u8 a0] from rfl) (Reps.none _ _))); intro v197 w11 ho12 hb hg_ hnew_; clear hg_ hnew_; (first | rw [← Ny196.out] at ho12 | (simp only [Int.reduceToNat] at ho12; rw [← Ny196.out] at ho12)); have n0_ := Aside0.mk (Kd.R_lower ho12 (below_size (by repeat (first | (with_reducible first | exact HB.out | apply Q5 | apply Q4 | apply Q6) | exact HB.out)))); have n1_ := Aside0.mk (below_step (by repeat (first | (with_reducible first | exact HB.out | apply Q5 | apply Q4 | apply Q6) | exact HB.out)) hb); clear HB; have HO198 := n0_; have HB := n1_; clear n0_ n1_; clear hb ho12; have hcv13 := own_string (P := Try.prog) Try.underlying26 Try.underlying5 Try.underlying9 (Kd.own_of_R HO198.out); have hcw14 := fun n_ : Nat => own_string (P := Try.prog) Try.underlying26 Try.underlying5 Try.underlying9 (Kd.own_of_R (Kd.R_drewN HO198.out n_))))
                go_ret
                exact ⟨by first | rfl | (simp [errW_none, errW_some] <;> rfl) | (simp [*, errW_none, errW_some] <;> rfl), by repeat (first | (with_reducible first | exact HB.out | apply Q5 | apply Q4 | apply Q6) | exact HB.out)⟩
              · rw [if_neg c10] at H
                exact absurd H (by simp)
            · replace c9 := Bool.eq_false_iff.mpr c9
              subst c9
              have H1 : (if a0 ≥ 32 then (if a0 ≤ 126 then (some (strOfNums (([a0] : List Int)))) else ((dowelref03_Hex.f a0).bind fun t202 => (if 2 + t202.size ≤ 9223372036854775807 then (some ((⟨#[92, 120]⟩ : ByteArray) ++ t202)) else (none)))) else ((dowelref03_Hex.f a0).bind fun t203 => (if 2 + t203.size ≤ 9223372036854775807 then (some ((⟨#[92, 120]⟩ : ByteArray) ++ t203)) else (none)))) = some r := by rw [if_neg (show ¬ (false = true) by decide)] at H; exact H
              clear H
              have H := H1
              clear H1
              by_cases c15 : a0 ≥ 32
              · rw [if_pos c15] at H
                have c15b0 : decide (32 ≤ a0) = true := decide_eq_true c15
                clear c15
                by_cases c16 : a0 ≤ 126
                · rw [if_pos c16] at H
                  have c16b0 : decide (a0 ≤ 126) = true := decide_eq_true c16
                  clear c16
                  obtain ⟨y199, hy199⟩ : ∃ y_ : List Int, y_ = (([a0] : List Int)) := ⟨_, rfl⟩
                  replace H : (some (strOfNums y199)) = some r := by first | (rw [hy199]; with_reducible exact H) | (have H2_ := (Option.bind_some _ _).symm.trans H; rw [hy199]; with_reducible exact H2_) | (have H2_ := (Option.bind_some _ _).symm.trans H; with_reducible exact H2_) | with_reducible exact H | (rw [hy199]; exact H) | exact H
                  have Ny199 := Aside0.mk hy199
                  clear hy199
                  obtain rfl := Option.some.inj H
                  go_wp2_with (first | ((with_reducible refine gate_dst (N := 26) rfl ?_); refine Kd.R_lit (Kd.int .u8) _ 5 ?hg (N := 26) ?hd (xs := ([a0] : List Int)) (inner := [.int .u8 a0]) (ok := fun _ => True) (okp := fun _ => True) ?hr ?hp (fun _ hk => hk) trivial (Below.refl _ _) (Nat.le_refl _) (by simp) ?_; (case hd => rfl); (case hg => rfl); (case hr => first | (go_simp; done) | (go_simp; rfl)); (case hp => exact (Reps.one (show Kd.M (Kd.int .u8) _ _ _ a0 [.int .u8 a0] from rfl) (Reps.none _ _))); intro v200 w17 ho18 hb hg_ hnew_; clear hg_ hnew_; (first | rw [← Ny199.out] at ho18 | (simp only [Int.reduceToNat] at ho18; rw [← Ny199.out] at ho18)); have n0_ := Aside0.mk (Kd.R_lower ho18 (below_size (by repeat (first | (with_reducible first | exact HB.out | apply Q5 | apply Q4 | apply Q6) | exact HB.out)))); have n1_ := Aside0.mk (below_step (by repeat (first | (with_reducible first | exact HB.out | apply Q5 | apply Q4 | apply Q6) | exact HB.out)) hb); clear HB; have HO201 := n0_; have HB := n1_; clear n0_ n1_; clear hb ho18; have hcv19 := own_string (P := Try.prog) Try.underlying26 Try.underlying5 Try.underlying9 (Kd.own_of_R HO201.out); have hcw20 := fun n_ : Nat => own_string (P := Try.prog) Try.underlying26 Try.underlying5 Try.underlying9 (Kd.own_of_R (Kd.R_drewN HO201.out n_))))
                  go_ret
                  exact ⟨by first | rfl | (simp [errW_none, errW_some] <;> rfl) | (simp [*, errW_none, errW_some] <;> rfl), by repeat (first | (with_reducible first | exact HB.out | apply Q5 | apply Q4 | apply Q6) | exact HB.out)⟩
                · rw [if_neg c16] at H
                  have c16b0 : decide (a0 ≤ 126) = false := decide_eq_false c16
                  clear c16
                  replace H := Option.bind_eq_some_iff.mp H
                  obtain ⟨t202, A210, H⟩ := H
                  replace H : (if 2 + t202.size ≤ 9223372036854775807 then (some ((⟨#[92, 120]⟩ : ByteArray) ++ t202)) else (none)) = some r := H
                  have A21 := Aside0.mk A210
                  clear A210
                  by_cases c22 : 2 + t202.size ≤ 9223372036854775807
                  · rw [if_pos c22] at H
                    have c22b0 := eq_true c22
                    have c22b1 : decide (2 + t202.size ≤ 9223372036854775807) = true := decide_eq_true c22
                    try have c22b2 : (9223372036854775807 < 2 + t202.size) = False := eq_false (Nat.not_lt.2 c22)
                    obtain rfl := Option.some.inj H
                    go_wp2_with (first | ((with_reducible refine gate_callee (f := 45) rfl ?_); refine goesL_ (some 29) rfl rfl Try.func45 (by kernel_rfl) rfl #[.int .u8 a0] rfl (by (try simp only [List.map_toArray, List.map_cons, List.map_nil]); first | done | rfl | (simp only [List.length_drop, List.length_take]; rfl)) ?_; (with_reducible refine (dowelref03_Hex.calls a0 t202 _ A21.out).mono ?_); rintro e w' ⟨rfl, ⟨nd, rfl⟩⟩; refine ⟨_, rfl, ?_⟩))
                    go_ret
                    exact ⟨by first | rfl | (simp [errW_none, errW_some] <;> rfl) | (simp [*, errW_none, errW_some] <;> rfl), by repeat (first | (with_reducible first | exact HB.out | apply Q5 | apply Q4 | apply Q6) | exact HB.out)⟩
                  · rw [if_neg c22] at H
                    exact absurd H (by simp)
              · rw [if_neg c15] at H
                have c15b0 : decide (32 ≤ a0) = false := decide_eq_false c15
                clear c15
                replace H := Option.bind_eq_some_iff.mp H
                obtain ⟨t203, A230, H⟩ := H
                replace H : (if 2 + t203.size ≤ 9223372036854775807 then (some ((⟨#[92, 120]⟩ : ByteArray) ++ t203)) else (none)) = some r := H
                have A23 := Aside0.mk A230
                clear A230
                by_cases c24 : 2 + t203.size ≤ 9223372036854775807
                · rw [if_pos c24] at H
                  have c24b0 := eq_true c24
                  have c24b1 : decide (2 + t203.size ≤ 9223372036854775807) = true := decide_eq_true c24
                  try have c24b2 : (9223372036854775807 < 2 + t203.size) = False := eq_false (Nat.not_lt.2 c24)
                  obtain rfl := Option.some.inj H
                  go_wp2_with (first | ((with_reducible refine gate_callee (f := 45) rfl ?_); refine goesL_ (some 29) rfl rfl Try.func45 (by kernel_rfl) rfl #[.int .u8 a0] rfl (by (try simp only [List.map_toArray, List.map_cons, List.map_nil]); first | done | rfl | (simp only [List.length_drop, List.length_take]; rfl)) ?_; (with_reducible refine (dowelref03_Hex.calls a0 t203 _ A23.out).mono ?_); rintro e w' ⟨rfl, ⟨nd, rfl⟩⟩; refine ⟨_, rfl, ?_⟩))
                  go_ret
                  exact ⟨by first | rfl | (simp [errW_none, errW_some] <;> rfl) | (simp [*, errW_none, errW_some] <;> rfl), by repeat (first | (with_reducible first | exact HB.out | apply Q5 | apply Q4 | apply Q6) | exact HB.out)⟩
                · rw [if_neg c24] at H
                  exact absurd H (by simp)
mutual
def dowelref03_Text.j0 : Nat → ByteArray → Int → Int → Int → Int → Option (ByteArray)
  | 0, _, _, _, _, _ => none
  | k + 1, x3, x205000, x205001, x205002, x205003 => (dowelref03_Ranges.f x205000 x205001 x205002 x205003).bind fun t212 => (dowelref03_Text.l0 k x3 t212 0)
def dowelref03_Text.l0 : Nat → ByteArray → List (S34) → Int → Option (ByteArray)
  | 0, _, _, _ => none
  | k + 1, x3, x4, x5 => if x5 < (x4.length : Int) then (if 0 ≤ x5 then ((dowelref03_spelled.f k ((Q10 x4 x5).f0)).bind fun t216 => (if x3.size + t216.size ≤ 9223372036854775807 then (if ((((Q10 x4 x5).f1) - ((Q10 x4 x5).f0)) % 256) > 1 then (if (x3 ++ t216).size + 1 ≤ 9223372036854775807 then (if ((Q10 x4 x5).f1) > ((Q10 x4 x5).f0) then ((dowelref03_spelled.f k ((Q10 x4 x5).f1)).bind fun t222 => (if ((x3 ++ t216) ++ (⟨#[45]⟩ : ByteArray)).size + t222.size ≤ 9223372036854775807 then (dowelref03_Text.l0 k (((x3 ++ t216) ++ (⟨#[45]⟩ : ByteArray)) ++ t222) x4 (wrap64 (x5 + 1))) else (none))) else (dowelref03_Text.l0 k ((x3 ++ t216) ++ (⟨#[45]⟩ : ByteArray)) x4 (wrap64 (x5 + 1)))) else (none)) else (if ((Q10 x4 x5).f1) > ((Q10 x4 x5).f0) then ((dowelref03_spelled.f k ((Q10 x4 x5).f1)).bind fun t226 => (if (x3 ++ t216).size + t226.size ≤ 9223372036854775807 then (dowelref03_Text.l0 k ((x3 ++ t216) ++ t226) x4 (wrap64 (x5 + 1))) else (none))) else (dowelref03_Text.l0 k (x3 ++ t216) x4 (wrap64 (x5 + 1))))) else (none))) else (none)) else (if x3.size + 1 ≤ 9223372036854775807 then (some (x3 ++ (⟨#[93]⟩ : ByteArray))) else (none))
end
def dowelref03_Text.f (k : Nat) (a0_0 : Int) (a0_1 : Int) (a0_2 : Int) (a0_3 : Int) : Option (ByteArray) := (dowelref03_Bytes.f a0_0 a0_1 a0_2 a0_3).bind fun t205 => (if (t205.length : Int) > 128 then ((dowelref03_Not.f a0_0 a0_1 a0_2 a0_3).bind fun bt208 => (dowelref03_Text.j0 k (⟨#[91, 94]⟩ : ByteArray) bt208.1 bt208.2.1 bt208.2.2.1 bt208.2.2.2)) else (dowelref03_Text.j0 k (⟨#[91]⟩ : ByteArray) a0_0 a0_1 a0_2 a0_3))
set_option maxHeartbeats 8000000 in
set_option maxRecDepth 100000 in
theorem dowelref03_Text.calls (k : Nat) (a0_0 : Int) (a0_1 : Int) (a0_2 : Int) (a0_3 : Int) (r : ByteArray) (w : World) (h : dowelref03_Text.f k a0_0 a0_1 a0_2 a0_3 = some r) :
    Calls Try.prog 30 #[.agg #[.int .u64 a0_0, .int .u64 a0_1, .int .u64 a0_2, .int .u64 a0_3]] w fun e w' => e = .returned (.string r) ∧ Below w.heap.size w w' := by
  have hu24 := Try.underlying24
  have HB := Aside0.mk (Below.refl w.heap.size w)
  have H : ((dowelref03_Bytes.f a0_0 a0_1 a0_2 a0_3).bind fun t205 => (if (t205.length : Int) > 128 then ((dowelref03_Not.f a0_0 a0_1 a0_2 a0_3).bind fun bt208 => (dowelref03_Text.j0 k (⟨#[91, 94]⟩ : ByteArray) bt208.1 bt208.2.1 bt208.2.2.1 bt208.2.2.2)) else (dowelref03_Text.j0 k (⟨#[91]⟩ : ByteArray) a0_0 a0_1 a0_2 a0_3))) = some r := h
  clear h
  replace H := Option.bind_eq_some_iff.mp H
  obtain ⟨t205, A20, H⟩ := H
  replace H : (if (t205.length : Int) > 128 then ((dowelref03_Not.f a0_0 a0_1 a0_2 a0_3).bind fun bt208 => (dowelref03_Text.j0 k (⟨#[91, 94]⟩ : ByteArray) bt208.1 bt208.2.1 bt208.2.2.1 bt208.2.2.2)) else (dowelref03_Text.j0 k (⟨#[91]⟩ : ByteArray) a0_0 a0_1 a0_2 a0_3)) = some r := H
  have A2 := Aside0.mk A20
  clear A20
  have HC3 := Aside0.mk H
  clear H
  go_enter Try.func30, Try.ntmps30
  go_upto_if 9 with (first | ((with_reducible refine gate_dst (N := 1) rfl ?_); refine box_event ?hg (N := 1) ?hd (cs := #[.int .u64 a0_0, .int .u64 a0_1, .int .u64 a0_2, .int .u64 a0_3]) (t := 24) ?hr ?_; (case hd => rfl); (case hg => rfl); (case hr => first | (go_simp; done) | (go_simp; rfl)); intro gb204 hg w4 hbox hb; have n0_ := Aside0.mk (below_step (by repeat (first | (with_reducible first | exact HB.out | apply Q5 | apply Q4 | apply Q6) | exact HB.out)) hb); have n1_ := Aside0.mk (hbox); have n2_ := Aside0.mk ((by rw [hg]; exact (below_size (by repeat (first | (with_reducible first | exact HB.out | apply Q5 | apply Q4 | apply Q6) | exact HB.out))) : w.heap.size ≤ gb204)); have n3_ := Aside0.mk ((by rw [hg]; exact (below_size (by repeat (first | (with_reducible first | exact HB.out | apply Q5 | apply Q4 | apply Q6) | exact HB.out))) : w.heap.size ≤ gb204)); clear HB; have HB := n0_; have BK204 := n1_; have GW204 := n2_; have GE204 := n3_; clear n0_ n1_ n2_ n3_; clear hb hbox hg; have hcz5_0 : w4.cell? ⟨gb204, 0, none⟩ = some (.int .u64 a0_0) := (blk_cell BK204.out 0).trans rfl; have hcz5_1 : w4.cell? ⟨gb204, 1, none⟩ = some (.int .u64 a0_1) := (blk_cell BK204.out 1).trans rfl; have hcz5_2 : w4.cell? ⟨gb204, 2, none⟩ = some (.int .u64 a0_2) := (blk_cell BK204.out 2).trans rfl; have hcz5_3 : w4.cell? ⟨gb204, 3, none⟩ = some (.int .u64 a0_3) := (blk_cell BK204.out 3).trans rfl; have hfz5_0 := Q11 BK204.out 0; have hfz5_1 := Q11 BK204.out 1; have hfz5_2 := Q11 BK204.out 2; have hfz5_3 := Q11 BK204.out 3) | (go_at_call 11; (with_reducible refine (dowelref03_Bytes.calls a0_0 a0_1 a0_2 a0_3 t205 _ A2.out).mono ?_); rintro e w6 ⟨v206, rfl, ho0, hb⟩; have n0_ := Aside0.mk (Kd.R_lower ho0 (below_size (by repeat (first | (with_reducible first | exact HB.out | apply Q5 | apply Q4 | apply Q6 | refine Q7 ?_ GE204.out) | exact HB.out)))); have n1_ := Aside0.mk (blk_below (g := gb204) (o := .cells #[.int .u64 a0_0, .int .u64 a0_1, .int .u64 a0_2, .int .u64 a0_3] 24 (0, 0)) (by (with_reducible repeat (first | refine Q9 ?_ _ | refine blk_drew ?_ | refine Q8 ?_ _)); exact BK204.out) hb); have n2_ := Aside0.mk (below_step (by repeat (first | (with_reducible first | exact HB.out | apply Q5 | apply Q4 | apply Q6 | refine Q7 ?_ GE204.out) | exact HB.out)) hb); clear BK204; clear HB; have HO207 := n0_; have BK204 := n1_; have HB := n2_; clear n0_ n1_ n2_; (try clear hb); (try clear hb2); (try clear hk); (try clear hi); (try clear ho0); obtain ⟨Ao7, co7, eo7⟩ := Kd.R_slice HO207.out; subst eo7))
  repeat (go_quiet (first | ((with_reducible refine gate_dst (N := 1) rfl ?_); refine box_event ?hg (N := 1) ?hd (cs := #[.int .u64 a0_0, .int .u64 a0_1, .int .u64 a0_2, .int .u64 a0_3]) (t := 24) ?hr ?_; (case hd => rfl); (case hg => rfl); (case hr => first | (go_simp; done) | (go_simp; rfl)); intro gb204 hg w4 hbox hb; have n0_ := Aside0.mk (below_step (by repeat (first | (with_reducible first | exact HB.out | apply Q5 | apply Q4 | apply Q6) | exact HB.out)) hb); have n1_ := Aside0.mk (hbox); have n2_ := Aside0.mk ((by rw [hg]; exact (below_size (by repeat (first | (with_reducible first | exact HB.out | apply Q5 | apply Q4 | apply Q6) | exact HB.out))) : w.heap.size ≤ gb204)); have n3_ := Aside0.mk ((by rw [hg]; exact (below_size (by repeat (first | (with_reducible first | exact HB.out | apply Q5 | apply Q4 | apply Q6) | exact HB.out))) : w.heap.size ≤ gb204)); clear HB; have HB := n0_; have BK204 := n1_; have GW204 := n2_; have GE204 := n3_; clear n0_ n1_ n2_ n3_; clear hb hbox hg; have hcz5_0 : w4.cell? ⟨gb204, 0, none⟩ = some (.int .u64 a0_0) := (blk_cell BK204.out 0).trans rfl; have hcz5_1 : w4.cell? ⟨gb204, 1, none⟩ = some (.int .u64 a0_1) := (blk_cell BK204.out 1).trans rfl; have hcz5_2 : w4.cell? ⟨gb204, 2, none⟩ = some (.int .u64 a0_2) := (blk_cell BK204.out 2).trans rfl; have hcz5_3 : w4.cell? ⟨gb204, 3, none⟩ = some (.int .u64 a0_3) := (blk_cell BK204.out 3).trans rfl; have hfz5_0 := Q11 BK204.out 0; have hfz5_1 := Q11 BK204.out 1; have hfz5_2 := Q11 BK204.out 2; have hfz5_3 := Q11 BK204.out 3) | (go_at_call 11; (with_reducible refine (dowelref03_Bytes.calls a0_0 a0_1 a0_2 a0_3 t205 _ A2.out).mono ?_); rintro e w6 ⟨v206, rfl, ho0, hb⟩; have n0_ := Aside0.mk (Kd.R_lower ho0 (below_size (by repeat (first | (with_reducible first | exact HB.out | apply Q5 | apply Q4 | apply Q6 | refine Q7 ?_ GE204.out) | exact HB.out)))); have n1_ := Aside0.mk (blk_below (g := gb204) (o := .cells #[.int .u64 a0_0, .int .u64 a0_1, .int .u64 a0_2, .int .u64 a0_3] 24 (0, 0)) (by (with_reducible repeat (first | refine Q9 ?_ _ | refine blk_drew ?_ | refine Q8 ?_ _)); exact BK204.out) hb); have n2_ := Aside0.mk (below_step (by repeat (first | (with_reducible first | exact HB.out | apply Q5 | apply Q4 | apply Q6 | refine Q7 ?_ GE204.out) | exact HB.out)) hb); clear BK204; clear HB; have HO207 := n0_; have BK204 := n1_; have HB := n2_; clear n0_ n1_ n2_; (try clear hb); (try clear hb2); (try clear hk); (try clear hi); (try clear ho0); obtain ⟨Ao7, co7, eo7⟩ := Kd.R_slice HO207.out; subst eo7)); go_upto_if 9 with (first | ((with_reducible refine gate_dst (N := 1) rfl ?_); refine box_event ?hg (N := 1) ?hd (cs := #[.int .u64 a0_0, .int .u64 a0_1, .int .u64 a0_2, .int .u64 a0_3]) (t := 24) ?hr ?_; (case hd => rfl); (case hg => rfl); (case hr => first | (go_simp; done) | (go_simp; rfl)); intro gb204 hg w4 hbox hb; have n0_ := Aside0.mk (below_step (by repeat (first | (with_reducible first | exact HB.out | apply Q5 | apply Q4 | apply Q6) | exact HB.out)) hb); have n1_ := Aside0.mk (hbox); have n2_ := Aside0.mk ((by rw [hg]; exact (below_size (by repeat (first | (with_reducible first | exact HB.out | apply Q5 | apply Q4 | apply Q6) | exact HB.out))) : w.heap.size ≤ gb204)); have n3_ := Aside0.mk ((by rw [hg]; exact (below_size (by repeat (first | (with_reducible first | exact HB.out | apply Q5 | apply Q4 | apply Q6) | exact HB.out))) : w.heap.size ≤ gb204)); clear HB; have HB := n0_; have BK204 := n1_; have GW204 := n2_; have GE204 := n3_; clear n0_ n1_ n2_ n3_; clear hb hbox hg; have hcz5_0 : w4.cell? ⟨gb204, 0, none⟩ = some (.int .u64 a0_0) := (blk_cell BK204.out 0).trans rfl; have hcz5_1 : w4.cell? ⟨gb204, 1, none⟩ = some (.int .u64 a0_1) := (blk_cell BK204.out 1).trans rfl; have hcz5_2 : w4.cell? ⟨gb204, 2, none⟩ = some (.int .u64 a0_2) := (blk_cell BK204.out 2).trans rfl; have hcz5_3 : w4.cell? ⟨gb204, 3, none⟩ = some (.int .u64 a0_3) := (blk_cell BK204.out 3).trans rfl; have hfz5_0 := Q11 BK204.out 0; have hfz5_1 := Q11 BK204.out 1; have hfz5_2 := Q11 BK204.out 2; have hfz5_3 := Q11 BK204.out 3) | (go_at_call 11; (with_reducible refine (dowelref03_Bytes.calls a0_0 a0_1 a0_2 a0_3 t205 _ A2.out).mono ?_); rintro e w6 ⟨v206, rfl, ho0, hb⟩; have n0_ := Aside0.mk (Kd.R_lower ho0 (below_size (by repeat (first | (with_reducible first | exact HB.out | apply Q5 | apply Q4 | apply Q6 | refine Q7 ?_ GE204.out) | exact HB.out)))); have n1_ := Aside0.mk (blk_below (g := gb204) (o := .cells #[.int .u64 a0_0, .int .u64 a0_1, .int .u64 a0_2, .int .u64 a0_3] 24 (0, 0)) (by (with_reducible repeat (first | refine Q9 ?_ _ | refine blk_drew ?_ | refine Q8 ?_ _)); exact BK204.out) hb); have n2_ := Aside0.mk (below_step (by repeat (first | (with_reducible first | exact HB.out | apply Q5 | apply Q4 | apply Q6 | refine Q7 ?_ GE204.out) | exact HB.out)) hb); clear BK204; clear HB; have HO207 := n0_; have BK204 := n1_; have HB := n2_; clear n0_ n1_ n2_; (try clear hb); (try clear hb2); (try clear hk); (try clear hi); (try clear ho0); obtain ⟨Ao7, co7, eo7⟩ := Kd.R_slice HO207.out; subst eo7)))
  (try simp only [Act.put, List.setIfInBounds_toArray, List.set_cons_zero, List.set_cons_succ])
  go_cut [3] (fun v3 wc => ∃ (kq : Nat) (x3_2 : ByteArray) (x205000_2 : Int) (x205001_2 : Int) (x205002_2 : Int) (x205003_2 : Int), v3 = .string x3_2 ∧ Aside0 (dowelref03_Text.j0 kq x3_2 x205000_2 x205001_2 x205002_2 x205003_2 = some r) ∧ Aside0 (kq ≤ k) ∧ Aside0 (wc.heap[gb204]? = some (.cells #[.int .u64 x205000_2, .int .u64 x205001_2, .int .u64 x205002_2, .int .u64 x205003_2] 24 (0, 0))) ∧ Aside0 (Below w.heap.size w wc))
  case first =>
    have H := HC3.out
    clear HC3
    by_cases c8 : (t205.length : Int) > 128
    · rw [if_pos c8] at H
      have c8b0 : decide (128 < (t205.length : Int)) = true := decide_eq_true c8
      have c8b1 : decide (128 < t205.length) = true := decide_eq_true (by omega)
      clear c8
      (first | rw [c8b0] | (simp only [i64_w, i32_w]; rw [c8b0]) | skip)
      replace H := Option.bind_eq_some_iff.mp H
      obtain ⟨⟨t208, t209, t210, t211⟩, A90, H⟩ := H
      replace H : (dowelref03_Text.j0 k (⟨#[91, 94]⟩ : ByteArray) t208 t209 t210 t211) = some r := H
      have A9 := Aside0.mk A90
      clear A90
      have H' := Aside0.mk H
      clear H
      have hcz10_0 : w6.cell? ⟨gb204, 0, none⟩ = some (.int .u64 a0_0) := (blk_cell BK204.out 0).trans rfl
      have hcz10_1 : w6.cell? ⟨gb204, 1, none⟩ = some (.int .u64 a0_1) := (blk_cell BK204.out 1).trans rfl
      have hcz10_2 : w6.cell? ⟨gb204, 2, none⟩ = some (.int .u64 a0_2) := (blk_cell BK204.out 2).trans rfl
      have hcz10_3 : w6.cell? ⟨gb204, 3, none⟩ = some (.int .u64 a0_3) := (blk_cell BK204.out 3).trans rfl
      have hfz10_0 := Q11 BK204.out 0
      have hfz10_1 := Q11 BK204.out 1
      have hfz10_2 := Q11 BK204.out 2
      have hfz10_3 := Q11 BK204.out 3
      go_wp2_with (first | (go_at_call 22; (with_reducible refine (dowelref03_Not.calls a0_0 a0_1 a0_2 a0_3 t208 t209 t210 t211 _ A9.out).mono ?_); rintro e w11 ⟨rfl, hb⟩; have n0_ := Aside0.mk (Kd.R_below (by (with_reducible repeat (first | apply Kd.R_alloc | apply Kd.R_drewN | apply Kd.R_drew)); exact HO207.out) hb); have n1_ := Aside0.mk (blk_below (g := gb204) (o := .cells #[.int .u64 a0_0, .int .u64 a0_1, .int .u64 a0_2, .int .u64 a0_3] 24 (0, 0)) (by (with_reducible repeat (first | refine Q9 ?_ _ | refine blk_drew ?_ | refine Q8 ?_ _)); exact BK204.out) hb); have n2_ := Aside0.mk (below_step (by repeat (first | (with_reducible first | exact HB.out | apply Q5 | apply Q4 | apply Q6 | refine Q7 ?_ GE204.out) | exact HB.out)) hb); clear HO207; clear BK204; clear HB; have HO207 := n0_; have BK204 := n1_; have HB := n2_; clear n0_ n1_ n2_; (try clear hb); (try clear hb2); (try clear hk); (try clear hi); have hcz12_0 : w11.cell? ⟨gb204, 0, none⟩ = some (.int .u64 a0_0) := (blk_cell BK204.out 0).trans rfl; have hcz12_1 : w11.cell? ⟨gb204, 1, none⟩ = some (.int .u64 a0_1) := (blk_cell BK204.out 1).trans rfl; have hcz12_2 : w11.cell? ⟨gb204, 2, none⟩ = some (.int .u64 a0_2) := (blk_cell BK204.out 2).trans rfl; have hcz12_3 : w11.cell? ⟨gb204, 3, none⟩ = some (.int .u64 a0_3) := (blk_cell BK204.out 3).trans rfl; have hfz12_0 := Q11 BK204.out 0; have hfz12_1 := Q11 BK204.out 1; have hfz12_2 := Q11 BK204.out 2; have hfz12_3 := Q11 BK204.out 3))
      repeat (go_quiet (first | (go_at_call 22; (with_reducible refine (dowelref03_Not.calls a0_0 a0_1 a0_2 a0_3 t208 t209 t210 t211 _ A9.out).mono ?_); rintro e w11 ⟨rfl, hb⟩; have n0_ := Aside0.mk (Kd.R_below (by (with_reducible repeat (first | apply Kd.R_alloc | apply Kd.R_drewN | apply Kd.R_drew)); exact HO207.out) hb); have n1_ := Aside0.mk (blk_below (g := gb204) (o := .cells #[.int .u64 a0_0, .int .u64 a0_1, .int .u64 a0_2, .int .u64 a0_3] 24 (0, 0)) (by (with_reducible repeat (first | refine Q9 ?_ _ | refine blk_drew ?_ | refine Q8 ?_ _)); exact BK204.out) hb); have n2_ := Aside0.mk (below_step (by repeat (first | (with_reducible first | exact HB.out | apply Q5 | apply Q4 | apply Q6 | refine Q7 ?_ GE204.out) | exact HB.out)) hb); clear HO207; clear BK204; clear HB; have HO207 := n0_; have BK204 := n1_; have HB := n2_; clear n0_ n1_ n2_; (try clear hb); (try clear hb2); (try clear hk); (try clear hi); have hcz12_0 : w11.cell? ⟨gb204, 0, none⟩ = some (.int .u64 a0_0) := (blk_cell BK204.out 0).trans rfl; have hcz12_1 : w11.cell? ⟨gb204, 1, none⟩ = some (.int .u64 a0_1) := (blk_cell BK204.out 1).trans rfl; have hcz12_2 : w11.cell? ⟨gb204, 2, none⟩ = some (.int .u64 a0_2) := (blk_cell BK204.out 2).trans rfl; have hcz12_3 : w11.cell? ⟨gb204, 3, none⟩ = some (.int .u64 a0_3) := (blk_cell BK204.out 3).trans rfl; have hfz12_0 := Q11 BK204.out 0; have hfz12_1 := Q11 BK204.out 1; have hfz12_2 := Q11 BK204.out 2; have hfz12_3 := Q11 BK204.out 3)); try go_wp2_with (first | (go_at_call 22; (with_reducible refine (dowelref03_Not.calls a0_0 a0_1 a0_2 a0_3 t208 t209 t210 t211 _ A9.out).mono ?_); rintro e w11 ⟨rfl, hb⟩; have n0_ := Aside0.mk (Kd.R_below (by (with_reducible repeat (first | apply Kd.R_alloc | apply Kd.R_drewN | apply Kd.R_drew)); exact HO207.out) hb); have n1_ := Aside0.mk (blk_below (g := gb204) (o := .cells #[.int .u64 a0_0, .int .u64 a0_1, .int .u64 a0_2, .int .u64 a0_3] 24 (0, 0)) (by (with_reducible repeat (first | refine Q9 ?_ _ | refine blk_drew ?_ | refine Q8 ?_ _)); exact BK204.out) hb); have n2_ := Aside0.mk (below_step (by repeat (first | (with_reducible first | exact HB.out | apply Q5 | apply Q4 | apply Q6 | refine Q7 ?_ GE204.out) | exact HB.out)) hb); clear HO207; clear BK204; clear HB; have HO207 := n0_; have BK204 := n1_; have HB := n2_; clear n0_ n1_ n2_; (try clear hb); (try clear hb2); (try clear hk); (try clear hi); have hcz12_0 : w11.cell? ⟨gb204, 0, none⟩ = some (.int .u64 a0_0) := (blk_cell BK204.out 0).trans rfl; have hcz12_1 : w11.cell? ⟨gb204, 1, none⟩ = some (.int .u64 a0_1) := (blk_cell BK204.out 1).trans rfl; have hcz12_2 : w11.cell? ⟨gb204, 2, none⟩ = some (.int .u64 a0_2) := (blk_cell BK204.out 2).trans rfl; have hcz12_3 : w11.cell? ⟨gb204, 3, none⟩ = some (.int .u64 a0_3) := (blk_cell BK204.out 3).trans rfl; have hfz12_0 := Q11 BK204.out 0; have hfz12_1 := Q11 BK204.out 1; have hfz12_2 := Q11 BK204.out 2; have hfz12_3 := Q11 BK204.out 3)))
      go_meet
      case rel => exact ⟨_, ((⟨#[91, 94]⟩ : ByteArray)), (t208), (t209), (t210), (t211), (by first | rfl | (simp; done) | (simp [*]; done)), H', ⟨by first | omega | exact Nat.le_refl _⟩, ⟨by (with_reducible repeat (first | refine Q9 ?_ _ | refine blk_drew ?_ | refine Q8 ?_ _)); refine blk_put (cs := #[.int .u64 t208, .int .u64 t209, .int .u64 t210, .int .u64 a0_3]) ?_ 3 _ rfl; (with_reducible repeat (first | refine Q9 ?_ _ | refine blk_drew ?_ | refine Q8 ?_ _)); refine blk_put (cs := #[.int .u64 t208, .int .u64 t209, .int .u64 a0_2, .int .u64 a0_3]) ?_ 2 _ rfl; (with_reducible repeat (first | refine Q9 ?_ _ | refine blk_drew ?_ | refine Q8 ?_ _)); refine blk_put (cs := #[.int .u64 t208, .int .u64 a0_1, .int .u64 a0_2, .int .u64 a0_3]) ?_ 1 _ rfl; (with_reducible repeat (first | refine Q9 ?_ _ | refine blk_drew ?_ | refine Q8 ?_ _)); refine blk_put (cs := #[.int .u64 a0_0, .int .u64 a0_1, .int .u64 a0_2, .int .u64 a0_3]) ?_ 0 _ rfl; (with_reducible repeat (first | refine Q9 ?_ _ | refine blk_drew ?_ | refine Q8 ?_ _)); exact BK204.out⟩, ⟨by repeat (first | (with_reducible first | exact HB.out | apply Q5 | apply Q4 | apply Q6 | refine Q7 ?_ GE204.out) | exact HB.out)⟩⟩
    · rw [if_neg c8] at H
      have c8b0 : decide (128 < (t205.length : Int)) = false := decide_eq_false c8
      have c8b1 : decide (128 < t205.length) = false := decide_eq_false (by omega)
      clear c8
      (first | rw [c8b0] | (simp only [i64_w, i32_w]; rw [c8b0]) | skip)
      have H' := Aside0.mk H
      clear H
      go_wp2
      repeat (go_quiet (fail); try go_wp2)
      go_meet
      case rel => exact ⟨_, ((⟨#[91]⟩ : ByteArray)), (a0_0), (a0_1), (a0_2), (a0_3), (by first | rfl | (simp; done) | (simp [*]; done)), H', ⟨by first | omega | exact Nat.le_refl _⟩, ⟨by (with_reducible repeat (first | refine Q9 ?_ _ | refine blk_drew ?_ | refine Q8 ?_ _)); exact BK204.out⟩, ⟨by repeat (first | (with_reducible first | exact HB.out | apply Q5 | apply Q4 | apply Q6 | refine Q7 ?_ GE204.out) | exact HB.out)⟩⟩
  case rest =>
    clear HC3
    try clear p2
    try clear c3
    try clear c8
    try clear c8b0
    try clear c8b1
    try clear hcz10_0
    try clear hcz10_1
    try clear hcz10_2
    try clear hcz10_3
    try clear hcz12_0
    try clear hcz12_1
    try clear hcz12_2
    try clear hcz12_3
    try clear hcz5_0
    try clear hcz5_1
    try clear hcz5_2
    try clear hcz5_3
    try clear hfz10_0
    try clear hfz10_1
    try clear hfz10_2
    try clear hfz10_3
    try clear hfz12_0
    try clear hfz12_1
    try clear hfz12_2
    try clear hfz12_3
    try clear hfz5_0
    try clear hfz5_1
    try clear hfz5_2
    try clear hfz5_3
    obtain ⟨kq, x3_2, x205000_2, x205001_2, x205002_2, x205003_2, rfl, HA, HJ2, BK204, HB⟩ := hcut
    cases kq with
    | zero => exact absurd HA.out (by simp [dowelref03_Text.j0])
    | succ kj2 =>
      have H := HA.out
      clear HA
      simp only [dowelref03_Text.j0] at H
      replace H := Option.bind_eq_some_iff.mp H
      obtain ⟨t212, A130, H⟩ := H
      replace H : (dowelref03_Text.l0 kj2 x3_2 t212 0) = some r := H
      have A13 := Aside0.mk A130
      clear A130
      have H' := Aside0.mk H
      clear H
      have hcz14_0 : wc.cell? ⟨gb204, 0, none⟩ = some (.int .u64 x205000_2) := (blk_cell BK204.out 0).trans rfl
      have hcz14_1 : wc.cell? ⟨gb204, 1, none⟩ = some (.int .u64 x205001_2) := (blk_cell BK204.out 1).trans rfl
      have hcz14_2 : wc.cell? ⟨gb204, 2, none⟩ = some (.int .u64 x205002_2) := (blk_cell BK204.out 2).trans rfl
      have hcz14_3 : wc.cell? ⟨gb204, 3, none⟩ = some (.int .u64 x205003_2) := (blk_cell BK204.out 3).trans rfl
      have hfz14_0 := Q11 BK204.out 0
      have hfz14_1 := Q11 BK204.out 1
      have hfz14_2 := Q11 BK204.out 2
      have hfz14_3 := Q11 BK204.out 3
      go_wp2_with (first | (go_at_call 27; (with_reducible refine (dowelref03_Ranges.calls x205000_2 x205001_2 x205002_2 x205003_2 t212 _ A13.out).mono ?_); rintro e w15 ⟨v213, rfl, ho0, hb⟩; have n0_ := Aside0.mk (Kd.R_lower ho0 (below_size (by repeat (first | (with_reducible first | exact HB.out | apply Q5 | apply Q4 | apply Q6 | refine Q7 ?_ GE204.out) | exact HB.out)))); have n1_ := Aside0.mk (blk_below (g := gb204) (o := .cells #[.int .u64 x205000_2, .int .u64 x205001_2, .int .u64 x205002_2, .int .u64 x205003_2] 24 (0, 0)) (by (with_reducible repeat (first | refine Q9 ?_ _ | refine blk_drew ?_ | refine Q8 ?_ _)); exact BK204.out) hb); have n2_ := Aside0.mk (below_step (by repeat (first | (with_reducible first | exact HB.out | apply Q5 | apply Q4 | apply Q6 | refine Q7 ?_ GE204.out) | exact HB.out)) hb); clear BK204; clear HB; have HO214 := n0_; have BK204 := n1_; have HB := n2_; clear n0_ n1_ n2_; (try clear hb); (try clear hb2); (try clear hk); (try clear hi); (try clear ho0)))
      repeat (go_quiet (first | (go_at_call 27; (with_reducible refine (dowelref03_Ranges.calls x205000_2 x205001_2 x205002_2 x205003_2 t212 _ A13.out).mono ?_); rintro e w15 ⟨v213, rfl, ho0, hb⟩; have n0_ := Aside0.mk (Kd.R_lower ho0 (below_size (by repeat (first | (with_reducible first | exact HB.out | apply Q5 | apply Q4 | apply Q6 | refine Q7 ?_ GE204.out) | exact HB.out)))); have n1_ := Aside0.mk (blk_below (g := gb204) (o := .cells #[.int .u64 x205000_2, .int .u64 x205001_2, .int .u64 x205002_2, .int .u64 x205003_2] 24 (0, 0)) (by (with_reducible repeat (first | refine Q9 ?_ _ | refine blk_drew ?_ | refine Q8 ?_ _)); exact BK204.out) hb); have n2_ := Aside0.mk (below_step (by repeat (first | (with_reducible first | exact HB.out | apply Q5 | apply Q4 | apply Q6 | refine Q7 ?_ GE204.out) | exact HB.out)) hb); clear BK204; clear HB; have HO214 := n0_; have BK204 := n1_; have HB := n2_; clear n0_ n1_ n2_; (try clear hb); (try clear hb2); (try clear hk); (try clear hi); (try clear ho0))); try go_wp2_with (first | (go_at_call 27; (with_reducible refine (dowelref03_Ranges.calls x205000_2 x205001_2 x205002_2 x205003_2 t212 _ A13.out).mono ?_); rintro e w15 ⟨v213, rfl, ho0, hb⟩; have n0_ := Aside0.mk (Kd.R_lower ho0 (below_size (by repeat (first | (with_reducible first | exact HB.out | apply Q5 | apply Q4 | apply Q6 | refine Q7 ?_ GE204.out) | exact HB.out)))); have n1_ := Aside0.mk (blk_below (g := gb204) (o := .cells #[.int .u64 x205000_2, .int .u64 x205001_2, .int .u64 x205002_2, .int .u64 x205003_2] 24 (0, 0)) (by (with_reducible repeat (first | refine Q9 ?_ _ | refine blk_drew ?_ | refine Q8 ?_ _)); exact BK204.out) hb); have n2_ := Aside0.mk (below_step (by repeat (first | (with_reducible first | exact HB.out | apply Q5 | apply Q4 | apply Q6 | refine Q7 ?_ GE204.out) | exact HB.out)) hb); clear BK204; clear HB; have HO214 := n0_; have BK204 := n1_; have HB := n2_; clear n0_ n1_ n2_; (try clear hb); (try clear hb2); (try clear hk); (try clear hi); (try clear ho0))))
      go_loopg [3, 5] kj2 (fun kq v3 v5 w' => ∃ (x3_2 : ByteArray) (x5_2 : Int), v3 = .string x3_2 ∧ v5 = .int .i64 x5_2 ∧ Aside0 (dowelref03_Text.l0 kq x3_2 t212 x5_2 = some r) ∧ Aside0 (kq ≤ kj2) ∧ Aside0 (Kd.R k34 34 w' w.heap.size (fun _ => True) v213 t212) ∧ Aside0 (w'.heap[gb204]? = some (.cells #[.int .u64 x205000_2, .int .u64 x205001_2, .int .u64 x205002_2, .int .u64 x205003_2] 24 (0, 0))) ∧ Aside0 (Below w.heap.size w w'))
      case atStart => exact ⟨(x3_2), (0), (by first | rfl | (simp; done) | (simp [*]; done)), (by first | rfl | (simp; done) | (simp [*]; done)), H', ⟨Nat.le_refl _⟩, ⟨by (with_reducible repeat (first | apply Kd.R_alloc | apply Kd.R_drewN | apply Kd.R_drew)); exact HO214.out⟩, ⟨by (with_reducible repeat (first | refine Q9 ?_ _ | refine blk_drew ?_ | refine Q8 ?_ _)); exact BK204.out⟩, ⟨by repeat (first | (with_reducible first | exact HB.out | apply Q5 | apply Q4 | apply Q6 | refine Q7 ?_ GE204.out) | exact HB.out)⟩⟩
      case round =>
        clear H'
        try clear p2
        try clear c3
        try clear c8
        try clear c8b0
        try clear c8b1
        try clear hcz10_0
        try clear hcz10_1
        try clear hcz10_2
        try clear hcz10_3
        try clear hcz12_0
        try clear hcz12_1
        try clear hcz12_2
        try clear hcz12_3
        try clear hcz14_0
        try clear hcz14_1
        try clear hcz14_2
        try clear hcz14_3
        try clear hcz5_0
        try clear hcz5_1
        try clear hcz5_2
        try clear hcz5_3
        try clear hfz10_0
        try clear hfz10_1
        try clear hfz10_2
        try clear hfz10_3
        try clear hfz12_0
        try clear hfz12_1
        try clear hfz12_2
        try clear hfz12_3
        try clear hfz14_0
        try clear hfz14_1
        try clear hfz14_2
        try clear hfz14_3
        try clear hfz5_0
        try clear hfz5_1
        try clear hfz5_2
        try clear hfz5_3
        try clear p2
        obtain ⟨x3_2, x5_2, rfl, rfl, HA, HK2, HO_4, BK204, HB⟩ := hrel
        cases gk with
        | zero => exact absurd HA.out (by simp [dowelref03_Text.l0])
        | succ k2 =>
          have H := HA.out
          clear HA
          simp only [dowelref03_Text.l0] at H
          by_cases c16 : x5_2 < (t212.length : Int)
          · rw [if_pos c16] at H
            have c16b0 : decide (x5_2 < (t212.length : Int)) = true := decide_eq_true c16
            clear c16
            by_cases c17 : 0 ≤ x5_2
            · rw [if_pos c17] at H
              have c17b0 : decide (0 ≤ x5_2) = true := decide_eq_true c17
              clear c17
              replace H := Option.bind_eq_some_iff.mp H
              obtain ⟨t216, A180, H⟩ := H
              replace H : (if x3_2.size + t216.size ≤ 9223372036854775807 then (if ((((Q10 t212 x5_2).f1) - ((Q10 t212 x5_2).f0)) % 256) > 1 then (if (x3_2 ++ t216).size + 1 ≤ 9223372036854775807 then (if ((Q10 t212 x5_2).f1) > ((Q10 t212 x5_2).f0) then ((dowelref03_spelled.f k2 ((Q10 t212 x5_2).f1)).bind fun t222 => (if ((x3_2 ++ t216) ++ (⟨#[45]⟩ : ByteArray)).size + t222.size ≤ 9223372036854775807 then (dowelref03_Text.l0 k2 (((x3_2 ++ t216) ++ (⟨#[45]⟩ : ByteArray)) ++ t222) t212 (wrap64 (x5_2 + 1))) else (none))) else (dowelref03_Text.l0 k2 ((x3_2 ++ t216) ++ (⟨#[45]⟩ : ByteArray)) t212 (wrap64 (x5_2 + 1)))) else (none)) else (if ((Q10 t212 x5_2).f1) > ((Q10 t212 x5_2).f0) then ((dowelref03_spelled.f k2 ((Q10 t212 x5_2).f1)).bind fun t226 => (if (x3_2 ++ t216).size + t226.size ≤ 9223372036854775807 then (dowelref03_Text.l0 k2 ((x3_2 ++ t216) ++ t226) t212 (wrap64 (x5_2 + 1))) else (none))) else (dowelref03_Text.l0 k2 (x3_2 ++ t216) t212 (wrap64 (x5_2 + 1))))) else (none)) = some r := H
              have A18 := Aside0.mk A180
              clear A180
              by_cases c19 : x3_2.size + t216.size ≤ 9223372036854775807
              · rw [if_pos c19] at H
                have c19b0 := eq_true c19
                have c19b1 : decide (x3_2.size + t216.size ≤ 9223372036854775807) = true := decide_eq_true c19
                try have c19b2 : (9223372036854775807 < x3_2.size + t216.size) = False := eq_false (Nat.not_lt.2 c19)
                by_cases c20 : ((((Q10 t212 x5_2).f1) - ((Q10 t212 x5_2).f0)) % 256) > 1
                · rw [if_pos c20] at H
                  have c20b0 : decide (1 < ((((Q10 t212 x5_2).f1) - ((Q10 t212 x5_2).f0)) % 256)) = true := decide_eq_true c20
                  clear c20
                  by_cases c21 : (x3_2 ++ t216).size + 1 ≤ 9223372036854775807
                  · rw [if_pos c21] at H
                    have c21b0 := eq_true c21
                    have c21b1 : decide ((x3_2 ++ t216).size + 1 ≤ 9223372036854775807) = true := decide_eq_true c21
                    have c21z : (9223372036854775807 < x3_2.size + t216.size + 1) = False := eq_false (by have h_ := c21; simp only [ByteArray.size_append] at h_; skip; omega)
                    try have c21b2 : (9223372036854775807 < (x3_2 ++ t216).size + 1) = False := eq_false (Nat.not_lt.2 c21)
                    by_cases c22 : ((Q10 t212 x5_2).f1) > ((Q10 t212 x5_2).f0)
                    · rw [if_pos c22] at H
                      have c22b0 : decide (((Q10 t212 x5_2).f0) < ((Q10 t212 x5_2).f1)) = true := decide_eq_true c22
                      clear c22
                      replace H := Option.bind_eq_some_iff.mp H
                      obtain ⟨t222, A230, H⟩ := H
                      replace H : (if ((x3_2 ++ t216) ++ (⟨#[45]⟩ : ByteArray)).size + t222.size ≤ 9223372036854775807 then (dowelref03_Text.l0 k2 (((x3_2 ++ t216) ++ (⟨#[45]⟩ : ByteArray)) ++ t222) t212 (wrap64 (x5_2 + 1))) else (none)) = some r := H
                      have A23 := Aside0.mk A230
                      clear A230
                      by_cases c24 : ((x3_2 ++ t216) ++ (⟨#[45]⟩ : ByteArray)).size + t222.size ≤ 9223372036854775807
                      · rw [if_pos c24] at H
                        have c24b0 := eq_true c24
                        have c24b1 : decide (((x3_2 ++ t216) ++ (⟨#[45]⟩ : ByteArray)).size + t222.size ≤ 9223372036854775807) = true := decide_eq_true c24
                        have c24z : (9223372036854775807 < x3_2.size + t216.size + 1 + t222.size) = False := eq_false (by have h_ := c24; simp only [ByteArray.size_append] at h_; have : (⟨#[45]⟩ : ByteArray).size = 1 := rfl; omega)
                        try have c24b2 : (9223372036854775807 < ((x3_2 ++ t216) ++ (⟨#[45]⟩ : ByteArray)).size + t222.size) = False := eq_false (Nat.not_lt.2 c24)
                        have H' := Aside0.mk H
                        clear H
                        obtain ⟨Ao25, co25, eo25⟩ := Kd.R_slice HO_4.out
                        subst eo25
                        have p215 : 0 ≤ (x5_2 : Int) := of_decide_eq_true (by first | (with_reducible assumption) | assumption)
                        have q215 : x5_2 < (t212.length : Int) := of_decide_eq_true (by first | (with_reducible assumption) | assumption)
                        obtain ⟨ad215, e215, hx215_0, hx215_1⟩ := at_T34 (Kd.R_reads' HO_4.out).2.2 x5_2 p215 q215
                        cases e215
                        replace p215 := eq_true p215
                        replace q215 := eq_true q215
                        go_wp2_with (first | (go_at_call 41; (with_reducible refine (dowelref03_spelled.calls k2 ((Q10 t212 x5_2).f0) t216 _ A18.out).mono ?_); rintro e w26 ⟨rfl, hb⟩; have n0_ := Aside0.mk (Kd.R_below (by (with_reducible repeat (first | apply Kd.R_alloc | apply Kd.R_drewN | apply Kd.R_drew)); exact HO_4.out) hb); have n1_ := Aside0.mk (blk_below (g := gb204) (o := .cells #[.int .u64 x205000_2, .int .u64 x205001_2, .int .u64 x205002_2, .int .u64 x205003_2] 24 (0, 0)) (by (with_reducible repeat (first | refine Q9 ?_ _ | refine blk_drew ?_ | refine Q8 ?_ _)); exact BK204.out) hb); have n2_ := Aside0.mk (below_step (by repeat (first | (with_reducible first | exact HB.out | apply Q5 | apply Q4 | apply Q6 | refine Q7 ?_ GE204.out) | exact HB.out)) hb); clear HO_4; clear BK204; clear HB; have HO_4 := n0_; have BK204 := n1_; have HB := n2_; clear n0_ n1_ n2_; (try clear hb); (try clear hb2); (try clear hk); (try clear hi); have p217 : 0 ≤ (x5_2 : Int) := of_decide_eq_true (by first | (with_reducible assumption) | assumption); have q217 : x5_2 < (t212.length : Int) := of_decide_eq_true (by first | (with_reducible assumption) | assumption); obtain ⟨ad217, e217, hx217_0, hx217_1⟩ := at_T34 (Kd.R_reads' HO_4.out).2.2 x5_2 p217 q217; obtain rfl : ad215 = ad217 := (by injection e217); replace p217 := eq_true p217; replace q217 := eq_true q217; have p218 : 0 ≤ (x5_2 : Int) := of_decide_eq_true (by first | (with_reducible assumption) | assumption); have q218 : x5_2 < (t212.length : Int) := of_decide_eq_true (by first | (with_reducible assumption) | assumption); obtain ⟨ad218, e218, hx218_0, hx218_1⟩ := at_T34 (Kd.R_reads' HO_4.out).2.2 x5_2 p218 q218; obtain rfl : ad215 = ad218 := (by injection e218); replace p218 := eq_true p218; replace q218 := eq_true q218; have p219 : 0 ≤ (x5_2 : Int) := of_decide_eq_true (by first | (with_reducible assumption) | assumption); have q219 : x5_2 < (t212.length : Int) := of_decide_eq_true (by first | (with_reducible assumption) | assumption); obtain ⟨ad219, e219, hx219_0, hx219_1⟩ := at_T34 (Kd.R_reads' HO_4.out).2.2 x5_2 p219 q219; obtain rfl : ad215 = ad219 := (by injection e219); replace p219 := eq_true p219; replace q219 := eq_true q219; have p220 : 0 ≤ (x5_2 : Int) := of_decide_eq_true (by first | (with_reducible assumption) | assumption); have q220 : x5_2 < (t212.length : Int) := of_decide_eq_true (by first | (with_reducible assumption) | assumption); obtain ⟨ad220, e220, hx220_0, hx220_1⟩ := at_T34 (Kd.R_reads' HO_4.out).2.2 x5_2 p220 q220; obtain rfl : ad215 = ad220 := (by injection e220); replace p220 := eq_true p220; replace q220 := eq_true q220; have p221 : 0 ≤ (x5_2 : Int) := of_decide_eq_true (by first | (with_reducible assumption) | assumption); have q221 : x5_2 < (t212.length : Int) := of_decide_eq_true (by first | (with_reducible assumption) | assumption); obtain ⟨ad221, e221, hx221_0, hx221_1⟩ := at_T34 (Kd.R_reads' HO_4.out).2.2 x5_2 p221 q221; obtain rfl : ad215 = ad221 := (by injection e221); replace p221 := eq_true p221; replace q221 := eq_true q221) | (go_at_call 41; (with_reducible refine (dowelref03_spelled.calls k2 ((Q10 t212 x5_2).f1) t222 _ A23.out).mono ?_); rintro e w27 ⟨rfl, hb⟩; have n0_ := Aside0.mk (Kd.R_below (by (with_reducible repeat (first | apply Kd.R_alloc | apply Kd.R_drewN | apply Kd.R_drew)); exact HO_4.out) hb); have n1_ := Aside0.mk (blk_below (g := gb204) (o := .cells #[.int .u64 x205000_2, .int .u64 x205001_2, .int .u64 x205002_2, .int .u64 x205003_2] 24 (0, 0)) (by (with_reducible repeat (first | refine Q9 ?_ _ | refine blk_drew ?_ | refine Q8 ?_ _)); exact BK204.out) hb); have n2_ := Aside0.mk (below_step (by repeat (first | (with_reducible first | exact HB.out | apply Q5 | apply Q4 | apply Q6 | refine Q7 ?_ GE204.out) | exact HB.out)) hb); clear HO_4; clear BK204; clear HB; have HO_4 := n0_; have BK204 := n1_; have HB := n2_; clear n0_ n1_ n2_; (try clear hb); (try clear hb2); (try clear hk); (try clear hi)))
                        repeat (go_quiet (first | (go_at_call 41; (with_reducible refine (dowelref03_spelled.calls k2 ((Q10 t212 x5_2).f0) t216 _ A18.out).mono ?_); rintro e w26 ⟨rfl, hb⟩; have n0_ := Aside0.mk (Kd.R_below (by (with_reducible repeat (first | apply Kd.R_alloc | apply Kd.R_drewN | apply Kd.R_drew)); exact HO_4.out) hb); have n1_ := Aside0.mk (blk_below (g := gb204) (o := .cells #[.int .u64 x205000_2, .int .u64 x205001_2, .int .u64 x205002_2, .int .u64 x205003_2] 24 (0, 0)) (by (with_reducible repeat (first | refine Q9 ?_ _ | refine blk_drew ?_ | refine Q8 ?_ _)); exact BK204.out) hb); have n2_ := Aside0.mk (below_step (by repeat (first | (with_reducible first | exact HB.out | apply Q5 | apply Q4 | apply Q6 | refine Q7 ?_ GE204.out) | exact HB.out)) hb); clear HO_4; clear BK204; clear HB; have HO_4 := n0_; have BK204 := n1_; have HB := n2_; clear n0_ n1_ n2_; (try clear hb); (try clear hb2); (try clear hk); (try clear hi); have p217 : 0 ≤ (x5_2 : Int) := of_decide_eq_true (by first | (with_reducible assumption) | assumption); have q217 : x5_2 < (t212.length : Int) := of_decide_eq_true (by first | (with_reducible assumption) | assumption); obtain ⟨ad217, e217, hx217_0, hx217_1⟩ := at_T34 (Kd.R_reads' HO_4.out).2.2 x5_2 p217 q217; obtain rfl : ad215 = ad217 := (by injection e217); replace p217 := eq_true p217; replace q217 := eq_true q217; have p218 : 0 ≤ (x5_2 : Int) := of_decide_eq_true (by first | (with_reducible assumption) | assumption); have q218 : x5_2 < (t212.length : Int) := of_decide_eq_true (by first | (with_reducible assumption) | assumption); obtain ⟨ad218, e218, hx218_0, hx218_1⟩ := at_T34 (Kd.R_reads' HO_4.out).2.2 x5_2 p218 q218; obtain rfl : ad215 = ad218 := (by injection e218); replace p218 := eq_true p218; replace q218 := eq_true q218; have p219 : 0 ≤ (x5_2 : Int) := of_decide_eq_true (by first | (with_reducible assumption) | assumption); have q219 : x5_2 < (t212.length : Int) := of_decide_eq_true (by first | (with_reducible assumption) | assumption); obtain ⟨ad219, e219, hx219_0, hx219_1⟩ := at_T34 (Kd.R_reads' HO_4.out).2.2 x5_2 p219 q219; obtain rfl : ad215 = ad219 := (by injection e219); replace p219 := eq_true p219; replace q219 := eq_true q219; have p220 : 0 ≤ (x5_2 : Int) := of_decide_eq_true (by first | (with_reducible assumption) | assumption); have q220 : x5_2 < (t212.length : Int) := of_decide_eq_true (by first | (with_reducible assumption) | assumption); obtain ⟨ad220, e220, hx220_0, hx220_1⟩ := at_T34 (Kd.R_reads' HO_4.out).2.2 x5_2 p220 q220; obtain rfl : ad215 = ad220 := (by injection e220); replace p220 := eq_true p220; replace q220 := eq_true q220; have p221 : 0 ≤ (x5_2 : Int) := of_decide_eq_true (by first | (with_reducible assumption) | assumption); have q221 : x5_2 < (t212.length : Int) := of_decide_eq_true (by first | (with_reducible assumption) | assumption); obtain ⟨ad221, e221, hx221_0, hx221_1⟩ := at_T34 (Kd.R_reads' HO_4.out).2.2 x5_2 p221 q221; obtain rfl : ad215 = ad221 := (by injection e221); replace p221 := eq_true p221; replace q221 := eq_true q221) | (go_at_call 41; (with_reducible refine (dowelref03_spelled.calls k2 ((Q10 t212 x5_2).f1) t222 _ A23.out).mono ?_); rintro e w27 ⟨rfl, hb⟩; have n0_ := Aside0.mk (Kd.R_below (by (with_reducible repeat (first | apply Kd.R_alloc | apply Kd.R_drewN | apply Kd.R_drew)); exact HO_4.out) hb); have n1_ := Aside0.mk (blk_below (g := gb204) (o := .cells #[.int .u64 x205000_2, .int .u64 x205001_2, .int .u64 x205002_2, .int .u64 x205003_2] 24 (0, 0)) (by (with_reducible repeat (first | refine Q9 ?_ _ | refine blk_drew ?_ | refine Q8 ?_ _)); exact BK204.out) hb); have n2_ := Aside0.mk (below_step (by repeat (first | (with_reducible first | exact HB.out | apply Q5 | apply Q4 | apply Q6 | refine Q7 ?_ GE204.out) | exact HB.out)) hb); clear HO_4; clear BK204; clear HB; have HO_4 := n0_; have BK204 := n1_; have HB := n2_; clear n0_ n1_ n2_; (try clear hb); (try clear hb2); (try clear hk); (try clear hi))); try go_wp2_with (first | (go_at_call 41; (with_reducible refine (dowelref03_spelled.calls k2 ((Q10 t212 x5_2).f0) t216 _ A18.out).mono ?_); rintro e w26 ⟨rfl, hb⟩; have n0_ := Aside0.mk (Kd.R_below (by (with_reducible repeat (first | apply Kd.R_alloc | apply Kd.R_drewN | apply Kd.R_drew)); exact HO_4.out) hb); have n1_ := Aside0.mk (blk_below (g := gb204) (o := .cells #[.int .u64 x205000_2, .int .u64 x205001_2, .int .u64 x205002_2, .int .u64 x205003_2] 24 (0, 0)) (by (with_reducible repeat (first | refine Q9 ?_ _ | refine blk_drew ?_ | refine Q8 ?_ _)); exact BK204.out) hb); have n2_ := Aside0.mk (below_step (by repeat (first | (with_reducible first | exact HB.out | apply Q5 | apply Q4 | apply Q6 | refine Q7 ?_ GE204.out) | exact HB.out)) hb); clear HO_4; clear BK204; clear HB; have HO_4 := n0_; have BK204 := n1_; have HB := n2_; clear n0_ n1_ n2_; (try clear hb); (try clear hb2); (try clear hk); (try clear hi); have p217 : 0 ≤ (x5_2 : Int) := of_decide_eq_true (by first | (with_reducible assumption) | assumption); have q217 : x5_2 < (t212.length : Int) := of_decide_eq_true (by first | (with_reducible assumption) | assumption); obtain ⟨ad217, e217, hx217_0, hx217_1⟩ := at_T34 (Kd.R_reads' HO_4.out).2.2 x5_2 p217 q217; obtain rfl : ad215 = ad217 := (by injection e217); replace p217 := eq_true p217; replace q217 := eq_true q217; have p218 : 0 ≤ (x5_2 : Int) := of_decide_eq_true (by first | (with_reducible assumption) | assumption); have q218 : x5_2 < (t212.length : Int) := of_decide_eq_true (by first | (with_reducible assumption) | assumption); obtain ⟨ad218, e218, hx218_0, hx218_1⟩ := at_T34 (Kd.R_reads' HO_4.out).2.2 x5_2 p218 q218; obtain rfl : ad215 = ad218 := (by injection e218); replace p218 := eq_true p218; replace q218 := eq_true q218; have p219 : 0 ≤ (x5_2 : Int) := of_decide_eq_true (by first | (with_reducible assumption) | assumption); have q219 : x5_2 < (t212.length : Int) := of_decide_eq_true (by first | (with_reducible assumption) | assumption); obtain ⟨ad219, e219, hx219_0, hx219_1⟩ := at_T34 (Kd.R_reads' HO_4.out).2.2 x5_2 p219 q219; obtain rfl : ad215 = ad219 := (by injection e219); replace p219 := eq_true p219; replace q219 := eq_true q219; have p220 : 0 ≤ (x5_2 : Int) := of_decide_eq_true (by first | (with_reducible assumption) | assumption); have q220 : x5_2 < (t212.length : Int) := of_decide_eq_true (by first | (with_reducible assumption) | assumption); obtain ⟨ad220, e220, hx220_0, hx220_1⟩ := at_T34 (Kd.R_reads' HO_4.out).2.2 x5_2 p220 q220; obtain rfl : ad215 = ad220 := (by injection e220); replace p220 := eq_true p220; replace q220 := eq_true q220; have p221 : 0 ≤ (x5_2 : Int) := of_decide_eq_true (by first | (with_reducible assumption) | assumption); have q221 : x5_2 < (t212.length : Int) := of_decide_eq_true (by first | (with_reducible assumption) | assumption); obtain ⟨ad221, e221, hx221_0, hx221_1⟩ := at_T34 (Kd.R_reads' HO_4.out).2.2 x5_2 p221 q221; obtain rfl : ad215 = ad221 := (by injection e221); replace p221 := eq_true p221; replace q221 := eq_true q221) | (go_at_call 41; (with_reducible refine (dowelref03_spelled.calls k2 ((Q10 t212 x5_2).f1) t222 _ A23.out).mono ?_); rintro e w27 ⟨rfl, hb⟩; have n0_ := Aside0.mk (Kd.R_below (by (with_reducible repeat (first | apply Kd.R_alloc | apply Kd.R_drewN | apply Kd.R_drew)); exact HO_4.out) hb); have n1_ := Aside0.mk (blk_below (g := gb204) (o := .cells #[.int .u64 x205000_2, .int .u64 x205001_2, .int .u64 x205002_2, .int .u64 x205003_2] 24 (0, 0)) (by (with_reducible repeat (first | refine Q9 ?_ _ | refine blk_drew ?_ | refine Q8 ?_ _)); exact BK204.out) hb); have n2_ := Aside0.mk (below_step (by repeat (first | (with_reducible first | exact HB.out | apply Q5 | apply Q4 | apply Q6 | refine Q7 ?_ GE204.out) | exact HB.out)) hb); clear HO_4; clear BK204; clear HB; have HO_4 := n0_; have BK204 := n1_; have HB := n2_; clear n0_ n1_ n2_; (try clear hb); (try clear hb2); (try clear hk); (try clear hi))))
                        go_roundg k2
                        case measure => have := HJ2.out; have := HK2.out; omega
                        case rel => exact ⟨(((x3_2 ++ t216) ++ (⟨#[45]⟩ : ByteArray)) ++ t222), (wrap64 (x5_2 + 1)), (by first | rfl | (simp; done) | (simp [*]; done)), (by first | rfl | (simp; done) | (simp [*]; done)), H', ⟨by have := HJ2.out; have := HK2.out; omega⟩, ⟨by (with_reducible repeat (first | apply Kd.R_alloc | apply Kd.R_drewN | apply Kd.R_drew)); exact HO_4.out⟩, ⟨by (with_reducible repeat (first | refine Q9 ?_ _ | refine blk_drew ?_ | refine Q8 ?_ _)); exact BK204.out⟩, ⟨by repeat (first | (with_reducible first | exact HB.out | apply Q5 | apply Q4 | apply Q6 | refine Q7 ?_ GE204.out) | exact HB.out)⟩⟩
                      · rw [if_neg c24] at H
                        exact absurd H (by simp)
                    · rw [if_neg c22] at H
                      have c22b0 : decide (((Q10 t212 x5_2).f0) < ((Q10 t212 x5_2).f1)) = false := decide_eq_false c22
                      clear c22
                      have H' := Aside0.mk H
                      clear H
                      obtain ⟨Ao28, co28, eo28⟩ := Kd.R_slice HO_4.out
                      subst eo28
                      have p215 : 0 ≤ (x5_2 : Int) := of_decide_eq_true (by first | (with_reducible assumption) | assumption)
                      have q215 : x5_2 < (t212.length : Int) := of_decide_eq_true (by first | (with_reducible assumption) | assumption)
                      obtain ⟨ad215, e215, hx215_0, hx215_1⟩ := at_T34 (Kd.R_reads' HO_4.out).2.2 x5_2 p215 q215
                      cases e215
                      replace p215 := eq_true p215
                      replace q215 := eq_true q215
                      go_wp2_with (first | (go_at_call 41; (with_reducible refine (dowelref03_spelled.calls k2 ((Q10 t212 x5_2).f0) t216 _ A18.out).mono ?_); rintro e w29 ⟨rfl, hb⟩; have n0_ := Aside0.mk (Kd.R_below (by (with_reducible repeat (first | apply Kd.R_alloc | apply Kd.R_drewN | apply Kd.R_drew)); exact HO_4.out) hb); have n1_ := Aside0.mk (blk_below (g := gb204) (o := .cells #[.int .u64 x205000_2, .int .u64 x205001_2, .int .u64 x205002_2, .int .u64 x205003_2] 24 (0, 0)) (by (with_reducible repeat (first | refine Q9 ?_ _ | refine blk_drew ?_ | refine Q8 ?_ _)); exact BK204.out) hb); have n2_ := Aside0.mk (below_step (by repeat (first | (with_reducible first | exact HB.out | apply Q5 | apply Q4 | apply Q6 | refine Q7 ?_ GE204.out) | exact HB.out)) hb); clear HO_4; clear BK204; clear HB; have HO_4 := n0_; have BK204 := n1_; have HB := n2_; clear n0_ n1_ n2_; (try clear hb); (try clear hb2); (try clear hk); (try clear hi); have p217 : 0 ≤ (x5_2 : Int) := of_decide_eq_true (by first | (with_reducible assumption) | assumption); have q217 : x5_2 < (t212.length : Int) := of_decide_eq_true (by first | (with_reducible assumption) | assumption); obtain ⟨ad217, e217, hx217_0, hx217_1⟩ := at_T34 (Kd.R_reads' HO_4.out).2.2 x5_2 p217 q217; obtain rfl : ad215 = ad217 := (by injection e217); replace p217 := eq_true p217; replace q217 := eq_true q217; have p218 : 0 ≤ (x5_2 : Int) := of_decide_eq_true (by first | (with_reducible assumption) | assumption); have q218 : x5_2 < (t212.length : Int) := of_decide_eq_true (by first | (with_reducible assumption) | assumption); obtain ⟨ad218, e218, hx218_0, hx218_1⟩ := at_T34 (Kd.R_reads' HO_4.out).2.2 x5_2 p218 q218; obtain rfl : ad215 = ad218 := (by injection e218); replace p218 := eq_true p218; replace q218 := eq_true q218; have p219 : 0 ≤ (x5_2 : Int) := of_decide_eq_true (by first | (with_reducible assumption) | assumption); have q219 : x5_2 < (t212.length : Int) := of_decide_eq_true (by first | (with_reducible assumption) | assumption); obtain ⟨ad219, e219, hx219_0, hx219_1⟩ := at_T34 (Kd.R_reads' HO_4.out).2.2 x5_2 p219 q219; obtain rfl : ad215 = ad219 := (by injection e219); replace p219 := eq_true p219; replace q219 := eq_true q219; have p220 : 0 ≤ (x5_2 : Int) := of_decide_eq_true (by first | (with_reducible assumption) | assumption); have q220 : x5_2 < (t212.length : Int) := of_decide_eq_true (by first | (with_reducible assumption) | assumption); obtain ⟨ad220, e220, hx220_0, hx220_1⟩ := at_T34 (Kd.R_reads' HO_4.out).2.2 x5_2 p220 q220; obtain rfl : ad215 = ad220 := (by injection e220); replace p220 := eq_true p220; replace q220 := eq_true q220))
                      repeat (go_quiet (first | (go_at_call 41; (with_reducible refine (dowelref03_spelled.calls k2 ((Q10 t212 x5_2).f0) t216 _ A18.out).mono ?_); rintro e w29 ⟨rfl, hb⟩; have n0_ := Aside0.mk (Kd.R_below (by (with_reducible repeat (first | apply Kd.R_alloc | apply Kd.R_drewN | apply Kd.R_drew)); exact HO_4.out) hb); have n1_ := Aside0.mk (blk_below (g := gb204) (o := .cells #[.int .u64 x205000_2, .int .u64 x205001_2, .int .u64 x205002_2, .int .u64 x205003_2] 24 (0, 0)) (by (with_reducible repeat (first | refine Q9 ?_ _ | refine blk_drew ?_ | refine Q8 ?_ _)); exact BK204.out) hb); have n2_ := Aside0.mk (below_step (by repeat (first | (with_reducible first | exact HB.out | apply Q5 | apply Q4 | apply Q6 | refine Q7 ?_ GE204.out) | exact HB.out)) hb); clear HO_4; clear BK204; clear HB; have HO_4 := n0_; have BK204 := n1_; have HB := n2_; clear n0_ n1_ n2_; (try clear hb); (try clear hb2); (try clear hk); (try clear hi); have p217 : 0 ≤ (x5_2 : Int) := of_decide_eq_true (by first | (with_reducible assumption) | assumption); have q217 : x5_2 < (t212.length : Int) := of_decide_eq_true (by first | (with_reducible assumption) | assumption); obtain ⟨ad217, e217, hx217_0, hx217_1⟩ := at_T34 (Kd.R_reads' HO_4.out).2.2 x5_2 p217 q217; obtain rfl : ad215 = ad217 := (by injection e217); replace p217 := eq_true p217; replace q217 := eq_true q217; have p218 : 0 ≤ (x5_2 : Int) := of_decide_eq_true (by first | (with_reducible assumption) | assumption); have q218 : x5_2 < (t212.length : Int) := of_decide_eq_true (by first | (with_reducible assumption) | assumption); obtain ⟨ad218, e218, hx218_0, hx218_1⟩ := at_T34 (Kd.R_reads' HO_4.out).2.2 x5_2 p218 q218; obtain rfl : ad215 = ad218 := (by injection e218); replace p218 := eq_true p218; replace q218 := eq_true q218; have p219 : 0 ≤ (x5_2 : Int) := of_decide_eq_true (by first | (with_reducible assumption) | assumption); have q219 : x5_2 < (t212.length : Int) := of_decide_eq_true (by first | (with_reducible assumption) | assumption); obtain ⟨ad219, e219, hx219_0, hx219_1⟩ := at_T34 (Kd.R_reads' HO_4.out).2.2 x5_2 p219 q219; obtain rfl : ad215 = ad219 := (by injection e219); replace p219 := eq_true p219; replace q219 := eq_true q219; have p220 : 0 ≤ (x5_2 : Int) := of_decide_eq_true (by first | (with_reducible assumption) | assumption); have q220 : x5_2 < (t212.length : Int) := of_decide_eq_true (by first | (with_reducible assumption) | assumption); obtain ⟨ad220, e220, hx220_0, hx220_1⟩ := at_T34 (Kd.R_reads' HO_4.out).2.2 x5_2 p220 q220; obtain rfl : ad215 = ad220 := (by injection e220); replace p220 := eq_true p220; replace q220 := eq_true q220)); try go_wp2_with (first | (go_at_call 41; (with_reducible refine (dowelref03_spelled.calls k2 ((Q10 t212 x5_2).f0) t216 _ A18.out).mono ?_); rintro e w29 ⟨rfl, hb⟩; have n0_ := Aside0.mk (Kd.R_below (by (with_reducible repeat (first | apply Kd.R_alloc | apply Kd.R_drewN | apply Kd.R_drew)); exact HO_4.out) hb); have n1_ := Aside0.mk (blk_below (g := gb204) (o := .cells #[.int .u64 x205000_2, .int .u64 x205001_2, .int .u64 x205002_2, .int .u64 x205003_2] 24 (0, 0)) (by (with_reducible repeat (first | refine Q9 ?_ _ | refine blk_drew ?_ | refine Q8 ?_ _)); exact BK204.out) hb); have n2_ := Aside0.mk (below_step (by repeat (first | (with_reducible first | exact HB.out | apply Q5 | apply Q4 | apply Q6 | refine Q7 ?_ GE204.out) | exact HB.out)) hb); clear HO_4; clear BK204; clear HB; have HO_4 := n0_; have BK204 := n1_; have HB := n2_; clear n0_ n1_ n2_; (try clear hb); (try clear hb2); (try clear hk); (try clear hi); have p217 : 0 ≤ (x5_2 : Int) := of_decide_eq_true (by first | (with_reducible assumption) | assumption); have q217 : x5_2 < (t212.length : Int) := of_decide_eq_true (by first | (with_reducible assumption) | assumption); obtain ⟨ad217, e217, hx217_0, hx217_1⟩ := at_T34 (Kd.R_reads' HO_4.out).2.2 x5_2 p217 q217; obtain rfl : ad215 = ad217 := (by injection e217); replace p217 := eq_true p217; replace q217 := eq_true q217; have p218 : 0 ≤ (x5_2 : Int) := of_decide_eq_true (by first | (with_reducible assumption) | assumption); have q218 : x5_2 < (t212.length : Int) := of_decide_eq_true (by first | (with_reducible assumption) | assumption); obtain ⟨ad218, e218, hx218_0, hx218_1⟩ := at_T34 (Kd.R_reads' HO_4.out).2.2 x5_2 p218 q218; obtain rfl : ad215 = ad218 := (by injection e218); replace p218 := eq_true p218; replace q218 := eq_true q218; have p219 : 0 ≤ (x5_2 : Int) := of_decide_eq_true (by first | (with_reducible assumption) | assumption); have q219 : x5_2 < (t212.length : Int) := of_decide_eq_true (by first | (with_reducible assumption) | assumption); obtain ⟨ad219, e219, hx219_0, hx219_1⟩ := at_T34 (Kd.R_reads' HO_4.out).2.2 x5_2 p219 q219; obtain rfl : ad215 = ad219 := (by injection e219); replace p219 := eq_true p219; replace q219 := eq_true q219; have p220 : 0 ≤ (x5_2 : Int) := of_decide_eq_true (by first | (with_reducible assumption) | assumption); have q220 : x5_2 < (t212.length : Int) := of_decide_eq_true (by first | (with_reducible assumption) | assumption); obtain ⟨ad220, e220, hx220_0, hx220_1⟩ := at_T34 (Kd.R_reads' HO_4.out).2.2 x5_2 p220 q220; obtain rfl : ad215 = ad220 := (by injection e220); replace p220 := eq_true p220; replace q220 := eq_true q220)))
                      go_roundg k2
                      case measure => have := HJ2.out; have := HK2.out; omega
                      case rel => exact ⟨((x3_2 ++ t216) ++ (⟨#[45]⟩ : ByteArray)), (wrap64 (x5_2 + 1)), (by first | rfl | (simp; done) | (simp [*]; done)), (by first | rfl | (simp; done) | (simp [*]; done)), H', ⟨by have := HJ2.out; have := HK2.out; omega⟩, ⟨by (with_reducible repeat (first | apply Kd.R_alloc | apply Kd.R_drewN | apply Kd.R_drew)); exact HO_4.out⟩, ⟨by (with_reducible repeat (first | refine Q9 ?_ _ | refine blk_drew ?_ | refine Q8 ?_ _)); exact BK204.out⟩, ⟨by repeat (first | (with_reducible first | exact HB.out | apply Q5 | apply Q4 | apply Q6 | refine Q7 ?_ GE204.out) | exact HB.out)⟩⟩
                  · rw [if_neg c21] at H
                    exact absurd H (by simp)
                · rw [if_neg c20] at H
                  have c20b0 : decide (1 < ((((Q10 t212 x5_2).f1) - ((Q10 t212 x5_2).f0)) % 256)) = false := decide_eq_false c20
                  clear c20
                  by_cases c30 : ((Q10 t212 x5_2).f1) > ((Q10 t212 x5_2).f0)
                  · rw [if_pos c30] at H
                    have c30b0 : decide (((Q10 t212 x5_2).f0) < ((Q10 t212 x5_2).f1)) = true := decide_eq_true c30
                    clear c30
                    replace H := Option.bind_eq_some_iff.mp H
                    obtain ⟨t226, A310, H⟩ := H
                    replace H : (if (x3_2 ++ t216).size + t226.size ≤ 9223372036854775807 then (dowelref03_Text.l0 k2 ((x3_2 ++ t216) ++ t226) t212 (wrap64 (x5_2 + 1))) else (none)) = some r := H
                    have A31 := Aside0.mk A310
                    clear A310
                    by_cases c32 : (x3_2 ++ t216).size + t226.size ≤ 9223372036854775807
                    · rw [if_pos c32] at H
                      have c32b0 := eq_true c32
                      have c32b1 : decide ((x3_2 ++ t216).size + t226.size ≤ 9223372036854775807) = true := decide_eq_true c32
                      have c32z : (9223372036854775807 < x3_2.size + t216.size + t226.size) = False := eq_false (by have h_ := c32; simp only [ByteArray.size_append] at h_; skip; omega)
                      try have c32b2 : (9223372036854775807 < (x3_2 ++ t216).size + t226.size) = False := eq_false (Nat.not_lt.2 c32)
                      have H' := Aside0.mk H
                      clear H
                      obtain ⟨Ao33, co33, eo33⟩ := Kd.R_slice HO_4.out
                      subst eo33
                      have p215 : 0 ≤ (x5_2 : Int) := of_decide_eq_true (by first | (with_reducible assumption) | assumption)
                      have q215 : x5_2 < (t212.length : Int) := of_decide_eq_true (by first | (with_reducible assumption) | assumption)
                      obtain ⟨ad215, e215, hx215_0, hx215_1⟩ := at_T34 (Kd.R_reads' HO_4.out).2.2 x5_2 p215 q215
                      cases e215
                      replace p215 := eq_true p215
                      replace q215 := eq_true q215
                      go_wp2_with (first | (go_at_call 41; (with_reducible refine (dowelref03_spelled.calls k2 ((Q10 t212 x5_2).f0) t216 _ A18.out).mono ?_); rintro e w34 ⟨rfl, hb⟩; have n0_ := Aside0.mk (Kd.R_below (by (with_reducible repeat (first | apply Kd.R_alloc | apply Kd.R_drewN | apply Kd.R_drew)); exact HO_4.out) hb); have n1_ := Aside0.mk (blk_below (g := gb204) (o := .cells #[.int .u64 x205000_2, .int .u64 x205001_2, .int .u64 x205002_2, .int .u64 x205003_2] 24 (0, 0)) (by (with_reducible repeat (first | refine Q9 ?_ _ | refine blk_drew ?_ | refine Q8 ?_ _)); exact BK204.out) hb); have n2_ := Aside0.mk (below_step (by repeat (first | (with_reducible first | exact HB.out | apply Q5 | apply Q4 | apply Q6 | refine Q7 ?_ GE204.out) | exact HB.out)) hb); clear HO_4; clear BK204; clear HB; have HO_4 := n0_; have BK204 := n1_; have HB := n2_; clear n0_ n1_ n2_; (try clear hb); (try clear hb2); (try clear hk); (try clear hi); have p217 : 0 ≤ (x5_2 : Int) := of_decide_eq_true (by first | (with_reducible assumption) | assumption); have q217 : x5_2 < (t212.length : Int) := of_decide_eq_true (by first | (with_reducible assumption) | assumption); obtain ⟨ad217, e217, hx217_0, hx217_1⟩ := at_T34 (Kd.R_reads' HO_4.out).2.2 x5_2 p217 q217; obtain rfl : ad215 = ad217 := (by injection e217); replace p217 := eq_true p217; replace q217 := eq_true q217; have p218 : 0 ≤ (x5_2 : Int) := of_decide_eq_true (by first | (with_reducible assumption) | assumption); have q218 : x5_2 < (t212.length : Int) := of_decide_eq_true (by first | (with_reducible assumption) | assumption); obtain ⟨ad218, e218, hx218_0, hx218_1⟩ := at_T34 (Kd.R_reads' HO_4.out).2.2 x5_2 p218 q218; obtain rfl : ad215 = ad218 := (by injection e218); replace p218 := eq_true p218; replace q218 := eq_true q218; have p223 : 0 ≤ (x5_2 : Int) := of_decide_eq_true (by first | (with_reducible assumption) | assumption); have q223 : x5_2 < (t212.length : Int) := of_decide_eq_true (by first | (with_reducible assumption) | assumption); obtain ⟨ad223, e223, hx223_0, hx223_1⟩ := at_T34 (Kd.R_reads' HO_4.out).2.2 x5_2 p223 q223; obtain rfl : ad215 = ad223 := (by injection e223); replace p223 := eq_true p223; replace q223 := eq_true q223; have p224 : 0 ≤ (x5_2 : Int) := of_decide_eq_true (by first | (with_reducible assumption) | assumption); have q224 : x5_2 < (t212.length : Int) := of_decide_eq_true (by first | (with_reducible assumption) | assumption); obtain ⟨ad224, e224, hx224_0, hx224_1⟩ := at_T34 (Kd.R_reads' HO_4.out).2.2 x5_2 p224 q224; obtain rfl : ad215 = ad224 := (by injection e224); replace p224 := eq_true p224; replace q224 := eq_true q224; have p225 : 0 ≤ (x5_2 : Int) := of_decide_eq_true (by first | (with_reducible assumption) | assumption); have q225 : x5_2 < (t212.length : Int) := of_decide_eq_true (by first | (with_reducible assumption) | assumption); obtain ⟨ad225, e225, hx225_0, hx225_1⟩ := at_T34 (Kd.R_reads' HO_4.out).2.2 x5_2 p225 q225; obtain rfl : ad215 = ad225 := (by injection e225); replace p225 := eq_true p225; replace q225 := eq_true q225) | (go_at_call 41; (with_reducible refine (dowelref03_spelled.calls k2 ((Q10 t212 x5_2).f1) t226 _ A31.out).mono ?_); rintro e w35 ⟨rfl, hb⟩; have n0_ := Aside0.mk (Kd.R_below (by (with_reducible repeat (first | apply Kd.R_alloc | apply Kd.R_drewN | apply Kd.R_drew)); exact HO_4.out) hb); have n1_ := Aside0.mk (blk_below (g := gb204) (o := .cells #[.int .u64 x205000_2, .int .u64 x205001_2, .int .u64 x205002_2, .int .u64 x205003_2] 24 (0, 0)) (by (with_reducible repeat (first | refine Q9 ?_ _ | refine blk_drew ?_ | refine Q8 ?_ _)); exact BK204.out) hb); have n2_ := Aside0.mk (below_step (by repeat (first | (with_reducible first | exact HB.out | apply Q5 | apply Q4 | apply Q6 | refine Q7 ?_ GE204.out) | exact HB.out)) hb); clear HO_4; clear BK204; clear HB; have HO_4 := n0_; have BK204 := n1_; have HB := n2_; clear n0_ n1_ n2_; (try clear hb); (try clear hb2); (try clear hk); (try clear hi)))
                      repeat (go_quiet (first | (go_at_call 41; (with_reducible refine (dowelref03_spelled.calls k2 ((Q10 t212 x5_2).f0) t216 _ A18.out).mono ?_); rintro e w34 ⟨rfl, hb⟩; have n0_ := Aside0.mk (Kd.R_below (by (with_reducible repeat (first | apply Kd.R_alloc | apply Kd.R_drewN | apply Kd.R_drew)); exact HO_4.out) hb); have n1_ := Aside0.mk (blk_below (g := gb204) (o := .cells #[.int .u64 x205000_2, .int .u64 x205001_2, .int .u64 x205002_2, .int .u64 x205003_2] 24 (0, 0)) (by (with_reducible repeat (first | refine Q9 ?_ _ | refine blk_drew ?_ | refine Q8 ?_ _)); exact BK204.out) hb); have n2_ := Aside0.mk (below_step (by repeat (first | (with_reducible first | exact HB.out | apply Q5 | apply Q4 | apply Q6 | refine Q7 ?_ GE204.out) | exact HB.out)) hb); clear HO_4; clear BK204; clear HB; have HO_4 := n0_; have BK204 := n1_; have HB := n2_; clear n0_ n1_ n2_; (try clear hb); (try clear hb2); (try clear hk); (try clear hi); have p217 : 0 ≤ (x5_2 : Int) := of_decide_eq_true (by first | (with_reducible assumption) | assumption); have q217 : x5_2 < (t212.length : Int) := of_decide_eq_true (by first | (with_reducible assumption) | assumption); obtain ⟨ad217, e217, hx217_0, hx217_1⟩ := at_T34 (Kd.R_reads' HO_4.out).2.2 x5_2 p217 q217; obtain rfl : ad215 = ad217 := (by injection e217); replace p217 := eq_true p217; replace q217 := eq_true q217; have p218 : 0 ≤ (x5_2 : Int) := of_decide_eq_true (by first | (with_reducible assumption) | assumption); have q218 : x5_2 < (t212.length : Int) := of_decide_eq_true (by first | (with_reducible assumption) | assumption); obtain ⟨ad218, e218, hx218_0, hx218_1⟩ := at_T34 (Kd.R_reads' HO_4.out).2.2 x5_2 p218 q218; obtain rfl : ad215 = ad218 := (by injection e218); replace p218 := eq_true p218; replace q218 := eq_true q218; have p223 : 0 ≤ (x5_2 : Int) := of_decide_eq_true (by first | (with_reducible assumption) | assumption); have q223 : x5_2 < (t212.length : Int) := of_decide_eq_true (by first | (with_reducible assumption) | assumption); obtain ⟨ad223, e223, hx223_0, hx223_1⟩ := at_T34 (Kd.R_reads' HO_4.out).2.2 x5_2 p223 q223; obtain rfl : ad215 = ad223 := (by injection e223); replace p223 := eq_true p223; replace q223 := eq_true q223; have p224 : 0 ≤ (x5_2 : Int) := of_decide_eq_true (by first | (with_reducible assumption) | assumption); have q224 : x5_2 < (t212.length : Int) := of_decide_eq_true (by first | (with_reducible assumption) | assumption); obtain ⟨ad224, e224, hx224_0, hx224_1⟩ := at_T34 (Kd.R_reads' HO_4.out).2.2 x5_2 p224 q224; obtain rfl : ad215 = ad224 := (by injection e224); replace p224 := eq_true p224; replace q224 := eq_true q224; have p225 : 0 ≤ (x5_2 : Int) := of_decide_eq_true (by first | (with_reducible assumption) | assumption); have q225 : x5_2 < (t212.length : Int) := of_decide_eq_true (by first | (with_reducible assumption) | assumption); obtain ⟨ad225, e225, hx225_0, hx225_1⟩ := at_T34 (Kd.R_reads' HO_4.out).2.2 x5_2 p225 q225; obtain rfl : ad215 = ad225 := (by injection e225); replace p225 := eq_true p225; replace q225 := eq_true q225) | (go_at_call 41; (with_reducible refine (dowelref03_spelled.calls k2 ((Q10 t212 x5_2).f1) t226 _ A31.out).mono ?_); rintro e w35 ⟨rfl, hb⟩; have n0_ := Aside0.mk (Kd.R_below (by (with_reducible repeat (first | apply Kd.R_alloc | apply Kd.R_drewN | apply Kd.R_drew)); exact HO_4.out) hb); have n1_ := Aside0.mk (blk_below (g := gb204) (o := .cells #[.int .u64 x205000_2, .int .u64 x205001_2, .int .u64 x205002_2, .int .u64 x205003_2] 24 (0, 0)) (by (with_reducible repeat (first | refine Q9 ?_ _ | refine blk_drew ?_ | refine Q8 ?_ _)); exact BK204.out) hb); have n2_ := Aside0.mk (below_step (by repeat (first | (with_reducible first | exact HB.out | apply Q5 | apply Q4 | apply Q6 | refine Q7 ?_ GE204.out) | exact HB.out)) hb); clear HO_4; clear BK204; clear HB; have HO_4 := n0_; have BK204 := n1_; have HB := n2_; clear n0_ n1_ n2_; (try clear hb); (try clear hb2); (try clear hk); (try clear hi))); try go_wp2_with (first | (go_at_call 41; (with_reducible refine (dowelref03_spelled.calls k2 ((Q10 t212 x5_2).f0) t216 _ A18.out).mono ?_); rintro e w34 ⟨rfl, hb⟩; have n0_ := Aside0.mk (Kd.R_below (by (with_reducible repeat (first | apply Kd.R_alloc | apply Kd.R_drewN | apply Kd.R_drew)); exact HO_4.out) hb); have n1_ := Aside0.mk (blk_below (g := gb204) (o := .cells #[.int .u64 x205000_2, .int .u64 x205001_2, .int .u64 x205002_2, .int .u64 x205003_2] 24 (0, 0)) (by (with_reducible repeat (first | refine Q9 ?_ _ | refine blk_drew ?_ | refine Q8 ?_ _)); exact BK204.out) hb); have n2_ := Aside0.mk (below_step (by repeat (first | (with_reducible first | exact HB.out | apply Q5 | apply Q4 | apply Q6 | refine Q7 ?_ GE204.out) | exact HB.out)) hb); clear HO_4; clear BK204; clear HB; have HO_4 := n0_; have BK204 := n1_; have HB := n2_; clear n0_ n1_ n2_; (try clear hb); (try clear hb2); (try clear hk); (try clear hi); have p217 : 0 ≤ (x5_2 : Int) := of_decide_eq_true (by first | (with_reducible assumption) | assumption); have q217 : x5_2 < (t212.length : Int) := of_decide_eq_true (by first | (with_reducible assumption) | assumption); obtain ⟨ad217, e217, hx217_0, hx217_1⟩ := at_T34 (Kd.R_reads' HO_4.out).2.2 x5_2 p217 q217; obtain rfl : ad215 = ad217 := (by injection e217); replace p217 := eq_true p217; replace q217 := eq_true q217; have p218 : 0 ≤ (x5_2 : Int) := of_decide_eq_true (by first | (with_reducible assumption) | assumption); have q218 : x5_2 < (t212.length : Int) := of_decide_eq_true (by first | (with_reducible assumption) | assumption); obtain ⟨ad218, e218, hx218_0, hx218_1⟩ := at_T34 (Kd.R_reads' HO_4.out).2.2 x5_2 p218 q218; obtain rfl : ad215 = ad218 := (by injection e218); replace p218 := eq_true p218; replace q218 := eq_true q218; have p223 : 0 ≤ (x5_2 : Int) := of_decide_eq_true (by first | (with_reducible assumption) | assumption); have q223 : x5_2 < (t212.length : Int) := of_decide_eq_true (by first | (with_reducible assumption) | assumption); obtain ⟨ad223, e223, hx223_0, hx223_1⟩ := at_T34 (Kd.R_reads' HO_4.out).2.2 x5_2 p223 q223; obtain rfl : ad215 = ad223 := (by injection e223); replace p223 := eq_true p223; replace q223 := eq_true q223; have p224 : 0 ≤ (x5_2 : Int) := of_decide_eq_true (by first | (with_reducible assumption) | assumption); have q224 : x5_2 < (t212.length : Int) := of_decide_eq_true (by first | (with_reducible assumption) | assumption); obtain ⟨ad224, e224, hx224_0, hx224_1⟩ := at_T34 (Kd.R_reads' HO_4.out).2.2 x5_2 p224 q224; obtain rfl : ad215 = ad224 := (by injection e224); replace p224 := eq_true p224; replace q224 := eq_true q224; have p225 : 0 ≤ (x5_2 : Int) := of_decide_eq_true (by first | (with_reducible assumption) | assumption); have q225 : x5_2 < (t212.length : Int) := of_decide_eq_true (by first | (with_reducible assumption) | assumption); obtain ⟨ad225, e225, hx225_0, hx225_1⟩ := at_T34 (Kd.R_reads' HO_4.out).2.2 x5_2 p225 q225; obtain rfl : ad215 = ad225 := (by injection e225); replace p225 := eq_true p225; replace q225 := eq_true q225) | (go_at_call 41; (with_reducible refine (dowelref03_spelled.calls k2 ((Q10 t212 x5_2).f1) t226 _ A31.out).mono ?_); rintro e w35 ⟨rfl, hb⟩; have n0_ := Aside0.mk (Kd.R_below (by (with_reducible repeat (first | apply Kd.R_alloc | apply Kd.R_drewN | apply Kd.R_drew)); exact HO_4.out) hb); have n1_ := Aside0.mk (blk_below (g := gb204) (o := .cells #[.int .u64 x205000_2, .int .u64 x205001_2, .int .u64 x205002_2, .int .u64 x205003_2] 24 (0, 0)) (by (with_reducible repeat (first | refine Q9 ?_ _ | refine blk_drew ?_ | refine Q8 ?_ _)); exact BK204.out) hb); have n2_ := Aside0.mk (below_step (by repeat (first | (with_reducible first | exact HB.out | apply Q5 | apply Q4 | apply Q6 | refine Q7 ?_ GE204.out) | exact HB.out)) hb); clear HO_4; clear BK204; clear HB; have HO_4 := n0_; have BK204 := n1_; have HB := n2_; clear n0_ n1_ n2_; (try clear hb); (try clear hb2); (try clear hk); (try clear hi))))
                      go_roundg k2
                      case measure => have := HJ2.out; have := HK2.out; omega
                      case rel => exact ⟨((x3_2 ++ t216) ++ t226), (wrap64 (x5_2 + 1)), (by first | rfl | (simp; done) | (simp [*]; done)), (by first | rfl | (simp; done) | (simp [*]; done)), H', ⟨by have := HJ2.out; have := HK2.out; omega⟩, ⟨by (with_reducible repeat (first | apply Kd.R_alloc | apply Kd.R_drewN | apply Kd.R_drew)); exact HO_4.out⟩, ⟨by (with_reducible repeat (first | refine Q9 ?_ _ | refine blk_drew ?_ | refine Q8 ?_ _)); exact BK204.out⟩, ⟨by repeat (first | (with_reducible first | exact HB.out | apply Q5 | apply Q4 | apply Q6 | refine Q7 ?_ GE204.out) | exact HB.out)⟩⟩
                    · rw [if_neg c32] at H
                      exact absurd H (by simp)
                  · rw [if_neg c30] at H
                    have c30b0 : decide (((Q10 t212 x5_2).f0) < ((Q10 t212 x5_2).f1)) = false := decide_eq_false c30
                    clear c30
                    have H' := Aside0.mk H
                    clear H
                    obtain ⟨Ao36, co36, eo36⟩ := Kd.R_slice HO_4.out
                    subst eo36
                    have p215 : 0 ≤ (x5_2 : Int) := of_decide_eq_true (by first | (with_reducible assumption) | assumption)
                    have q215 : x5_2 < (t212.length : Int) := of_decide_eq_true (by first | (with_reducible assumption) | assumption)
                    obtain ⟨ad215, e215, hx215_0, hx215_1⟩ := at_T34 (Kd.R_reads' HO_4.out).2.2 x5_2 p215 q215
                    cases e215
                    replace p215 := eq_true p215
                    replace q215 := eq_true q215
                    go_wp2_with (first | (go_at_call 41; (with_reducible refine (dowelref03_spelled.calls k2 ((Q10 t212 x5_2).f0) t216 _ A18.out).mono ?_); rintro e w37 ⟨rfl, hb⟩; have n0_ := Aside0.mk (Kd.R_below (by (with_reducible repeat (first | apply Kd.R_alloc | apply Kd.R_drewN | apply Kd.R_drew)); exact HO_4.out) hb); have n1_ := Aside0.mk (blk_below (g := gb204) (o := .cells #[.int .u64 x205000_2, .int .u64 x205001_2, .int .u64 x205002_2, .int .u64 x205003_2] 24 (0, 0)) (by (with_reducible repeat (first | refine Q9 ?_ _ | refine blk_drew ?_ | refine Q8 ?_ _)); exact BK204.out) hb); have n2_ := Aside0.mk (below_step (by repeat (first | (with_reducible first | exact HB.out | apply Q5 | apply Q4 | apply Q6 | refine Q7 ?_ GE204.out) | exact HB.out)) hb); clear HO_4; clear BK204; clear HB; have HO_4 := n0_; have BK204 := n1_; have HB := n2_; clear n0_ n1_ n2_; (try clear hb); (try clear hb2); (try clear hk); (try clear hi); have p217 : 0 ≤ (x5_2 : Int) := of_decide_eq_true (by first | (with_reducible assumption) | assumption); have q217 : x5_2 < (t212.length : Int) := of_decide_eq_true (by first | (with_reducible assumption) | assumption); obtain ⟨ad217, e217, hx217_0, hx217_1⟩ := at_T34 (Kd.R_reads' HO_4.out).2.2 x5_2 p217 q217; obtain rfl : ad215 = ad217 := (by injection e217); replace p217 := eq_true p217; replace q217 := eq_true q217; have p218 : 0 ≤ (x5_2 : Int) := of_decide_eq_true (by first | (with_reducible assumption) | assumption); have q218 : x5_2 < (t212.length : Int) := of_decide_eq_true (by first | (with_reducible assumption) | assumption); obtain ⟨ad218, e218, hx218_0, hx218_1⟩ := at_T34 (Kd.R_reads' HO_4.out).2.2 x5_2 p218 q218; obtain rfl : ad215 = ad218 := (by injection e218); replace p218 := eq_true p218; replace q218 := eq_true q218; have p223 : 0 ≤ (x5_2 : Int) := of_decide_eq_true (by first | (with_reducible assumption) | assumption); have q223 : x5_2 < (t212.length : Int) := of_decide_eq_true (by first | (with_reducible assumption) | assumption); obtain ⟨ad223, e223, hx223_0, hx223_1⟩ := at_T34 (Kd.R_reads' HO_4.out).2.2 x5_2 p223 q223; obtain rfl : ad215 = ad223 := (by injection e223); replace p223 := eq_true p223; replace q223 := eq_true q223; have p224 : 0 ≤ (x5_2 : Int) := of_decide_eq_true (by first | (with_reducible assumption) | assumption); have q224 : x5_2 < (t212.length : Int) := of_decide_eq_true (by first | (with_reducible assumption) | assumption); obtain ⟨ad224, e224, hx224_0, hx224_1⟩ := at_T34 (Kd.R_reads' HO_4.out).2.2 x5_2 p224 q224; obtain rfl : ad215 = ad224 := (by injection e224); replace p224 := eq_true p224; replace q224 := eq_true q224))
                    repeat (go_quiet (first | (go_at_call 41; (with_reducible refine (dowelref03_spelled.calls k2 ((Q10 t212 x5_2).f0) t216 _ A18.out).mono ?_); rintro e w37 ⟨rfl, hb⟩; have n0_ := Aside0.mk (Kd.R_below (by (with_reducible repeat (first | apply Kd.R_alloc | apply Kd.R_drewN | apply Kd.R_drew)); exact HO_4.out) hb); have n1_ := Aside0.mk (blk_below (g := gb204) (o := .cells #[.int .u64 x205000_2, .int .u64 x205001_2, .int .u64 x205002_2, .int .u64 x205003_2] 24 (0, 0)) (by (with_reducible repeat (first | refine Q9 ?_ _ | refine blk_drew ?_ | refine Q8 ?_ _)); exact BK204.out) hb); have n2_ := Aside0.mk (below_step (by repeat (first | (with_reducible first | exact HB.out | apply Q5 | apply Q4 | apply Q6 | refine Q7 ?_ GE204.out) | exact HB.out)) hb); clear HO_4; clear BK204; clear HB; have HO_4 := n0_; have BK204 := n1_; have HB := n2_; clear n0_ n1_ n2_; (try clear hb); (try clear hb2); (try clear hk); (try clear hi); have p217 : 0 ≤ (x5_2 : Int) := of_decide_eq_true (by first | (with_reducible assumption) | assumption); have q217 : x5_2 < (t212.length : Int) := of_decide_eq_true (by first | (with_reducible assumption) | assumption); obtain ⟨ad217, e217, hx217_0, hx217_1⟩ := at_T34 (Kd.R_reads' HO_4.out).2.2 x5_2 p217 q217; obtain rfl : ad215 = ad217 := (by injection e217); replace p217 := eq_true p217; replace q217 := eq_true q217; have p218 : 0 ≤ (x5_2 : Int) := of_decide_eq_true (by first | (with_reducible assumption) | assumption); have q218 : x5_2 < (t212.length : Int) := of_decide_eq_true (by first | (with_reducible assumption) | assumption); obtain ⟨ad218, e218, hx218_0, hx218_1⟩ := at_T34 (Kd.R_reads' HO_4.out).2.2 x5_2 p218 q218; obtain rfl : ad215 = ad218 := (by injection e218); replace p218 := eq_true p218; replace q218 := eq_true q218; have p223 : 0 ≤ (x5_2 : Int) := of_decide_eq_true (by first | (with_reducible assumption) | assumption); have q223 : x5_2 < (t212.length : Int) := of_decide_eq_true (by first | (with_reducible assumption) | assumption); obtain ⟨ad223, e223, hx223_0, hx223_1⟩ := at_T34 (Kd.R_reads' HO_4.out).2.2 x5_2 p223 q223; obtain rfl : ad215 = ad223 := (by injection e223); replace p223 := eq_true p223; replace q223 := eq_true q223; have p224 : 0 ≤ (x5_2 : Int) := of_decide_eq_true (by first | (with_reducible assumption) | assumption); have q224 : x5_2 < (t212.length : Int) := of_decide_eq_true (by first | (with_reducible assumption) | assumption); obtain ⟨ad224, e224, hx224_0, hx224_1⟩ := at_T34 (Kd.R_reads' HO_4.out).2.2 x5_2 p224 q224; obtain rfl : ad215 = ad224 := (by injection e224); replace p224 := eq_true p224; replace q224 := eq_true q224)); try go_wp2_with (first | (go_at_call 41; (with_reducible refine (dowelref03_spelled.calls k2 ((Q10 t212 x5_2).f0) t216 _ A18.out).mono ?_); rintro e w37 ⟨rfl, hb⟩; have n0_ := Aside0.mk (Kd.R_below (by (with_reducible repeat (first | apply Kd.R_alloc | apply Kd.R_drewN | apply Kd.R_drew)); exact HO_4.out) hb); have n1_ := Aside0.mk (blk_below (g := gb204) (o := .cells #[.int .u64 x205000_2, .int .u64 x205001_2, .int .u64 x205002_2, .int .u64 x205003_2] 24 (0, 0)) (by (with_reducible repeat (first | refine Q9 ?_ _ | refine blk_drew ?_ | refine Q8 ?_ _)); exact BK204.out) hb); have n2_ := Aside0.mk (below_step (by repeat (first | (with_reducible first | exact HB.out | apply Q5 | apply Q4 | apply Q6 | refine Q7 ?_ GE204.out) | exact HB.out)) hb); clear HO_4; clear BK204; clear HB; have HO_4 := n0_; have BK204 := n1_; have HB := n2_; clear n0_ n1_ n2_; (try clear hb); (try clear hb2); (try clear hk); (try clear hi); have p217 : 0 ≤ (x5_2 : Int) := of_decide_eq_true (by first | (with_reducible assumption) | assumption); have q217 : x5_2 < (t212.length : Int) := of_decide_eq_true (by first | (with_reducible assumption) | assumption); obtain ⟨ad217, e217, hx217_0, hx217_1⟩ := at_T34 (Kd.R_reads' HO_4.out).2.2 x5_2 p217 q217; obtain rfl : ad215 = ad217 := (by injection e217); replace p217 := eq_true p217; replace q217 := eq_true q217; have p218 : 0 ≤ (x5_2 : Int) := of_decide_eq_true (by first | (with_reducible assumption) | assumption); have q218 : x5_2 < (t212.length : Int) := of_decide_eq_true (by first | (with_reducible assumption) | assumption); obtain ⟨ad218, e218, hx218_0, hx218_1⟩ := at_T34 (Kd.R_reads' HO_4.out).2.2 x5_2 p218 q218; obtain rfl : ad215 = ad218 := (by injection e218); replace p218 := eq_true p218; replace q218 := eq_true q218; have p223 : 0 ≤ (x5_2 : Int) := of_decide_eq_true (by first | (with_reducible assumption) | assumption); have q223 : x5_2 < (t212.length : Int) := of_decide_eq_true (by first | (with_reducible assumption) | assumption); obtain ⟨ad223, e223, hx223_0, hx223_1⟩ := at_T34 (Kd.R_reads' HO_4.out).2.2 x5_2 p223 q223; obtain rfl : ad215 = ad223 := (by injection e223); replace p223 := eq_true p223; replace q223 := eq_true q223; have p224 : 0 ≤ (x5_2 : Int) := of_decide_eq_true (by first | (with_reducible assumption) | assumption); have q224 : x5_2 < (t212.length : Int) := of_decide_eq_true (by first | (with_reducible assumption) | assumption); obtain ⟨ad224, e224, hx224_0, hx224_1⟩ := at_T34 (Kd.R_reads' HO_4.out).2.2 x5_2 p224 q224; obtain rfl : ad215 = ad224 := (by injection e224); replace p224 := eq_true p224; replace q224 := eq_true q224)))
                    go_roundg k2
                    case measure => have := HJ2.out; have := HK2.out; omega
                    case rel => exact ⟨(x3_2 ++ t216), (wrap64 (x5_2 + 1)), (by first | rfl | (simp; done) | (simp [*]; done)), (by first | rfl | (simp; done) | (simp [*]; done)), H', ⟨by have := HJ2.out; have := HK2.out; omega⟩, ⟨by (with_reducible repeat (first | apply Kd.R_alloc | apply Kd.R_drewN | apply Kd.R_drew)); exact HO_4.out⟩, ⟨by (with_reducible repeat (first | refine Q9 ?_ _ | refine blk_drew ?_ | refine Q8 ?_ _)); exact BK204.out⟩, ⟨by repeat (first | (with_reducible first | exact HB.out | apply Q5 | apply Q4 | apply Q6 | refine Q7 ?_ GE204.out) | exact HB.out)⟩⟩
              · rw [if_neg c19] at H
                exact absurd H (by simp)
            · rw [if_neg c17] at H
              exact absurd H (by simp)
          · rw [if_neg c16] at H
            have c16b0 : decide (x5_2 < (t212.length : Int)) = false := decide_eq_false c16
            clear c16
            by_cases c38 : x3_2.size + 1 ≤ 9223372036854775807
            · rw [if_pos c38] at H
              have c38b0 := eq_true c38
              have c38b1 : decide (x3_2.size + 1 ≤ 9223372036854775807) = true := decide_eq_true c38
              try have c38b2 : (9223372036854775807 < x3_2.size + 1) = False := eq_false (Nat.not_lt.2 c38)
              obtain rfl := Option.some.inj H
              obtain ⟨Ao39, co39, eo39⟩ := Kd.R_slice HO_4.out
              subst eo39
              go_wp2
              repeat (go_quiet (fail); try go_wp2)
              go_ret
              exact ⟨by first | rfl | (simp [errW_none, errW_some] <;> rfl) | (simp [*, errW_none, errW_some] <;> rfl), by repeat (first | (with_reducible first | exact HB.out | apply Q5 | apply Q4 | apply Q6 | refine Q7 ?_ GE204.out) | exact HB.out)⟩
            · rw [if_neg c38] at H
              exact absurd H (by simp)
end Go.Proofs.Ytachpdeejificaa.P
