import Derived.Test.YtflkgoggnomehaaZ3
import Derived.Test.YtflkgoggnomehaaZ8
import Derived.Test.YtflkgoggnomehaaZ10
import Derived.Test.YtflkgoggnomehaaZ12
namespace Go.Proofs.Ytflkgoggnomehaa.P
open Go.RowKit Go.Proofs.YtflkgoggnomehaaW.PrintWords Go.Proofs.YtflkgoggnomehaaW.PrintLast Go.Proofs.YtflkgoggnomehaaW.PrintMore
set_option linter.unusedVariables false
set_option linter.unusedSimpArgs false
def dowelref03_spelled.j0 : Nat → Int → Bool → Option (ByteArray)
  | 0, _, _ => none
  | k + 1, x0, x10 => if x10 = true then ((some (([x0] : List Int) : List Int)).bind fun y289 => (if 1 + (strOfNums y289).size ≤ 9223372036854775807 then (some ((⟨#[92]⟩ : ByteArray) ++ (strOfNums y289))) else (none))) else (if x0 ≥ 32 then (if x0 ≤ 126 then (some (strOfNums (([x0] : List Int)))) else ((dowelref03_Hex.f x0).bind fun t295 => (if 2 + t295.size ≤ 9223372036854775807 then (some ((⟨#[92, 120]⟩ : ByteArray) ++ t295)) else (none)))) else ((dowelref03_Hex.f x0).bind fun t296 => (if 2 + t296.size ≤ 9223372036854775807 then (some ((⟨#[92, 120]⟩ : ByteArray) ++ t296)) else (none))))
def dowelref03_spelled.f (k : Nat) (a0 : Int) : Option (ByteArray) := if a0 = 9 then (some (⟨#[92, 116]⟩ : ByteArray)) else (if a0 = 10 then (some (⟨#[92, 110]⟩ : ByteArray)) else (if a0 = 13 then (some (⟨#[92, 114]⟩ : ByteArray)) else (if a0 = 92 then (dowelref03_spelled.j0 k a0 (a0 == 92)) else (if a0 = 93 then (dowelref03_spelled.j0 k a0 (a0 == 93)) else (if a0 = 45 then (dowelref03_spelled.j0 k a0 (a0 == 45)) else (dowelref03_spelled.j0 k a0 (a0 == 94)))))))
theorem dowelref03_spelled.mono_l : ∀ k, (∀ y0 y1, LeO (dowelref03_spelled.j0 k y0 y1) (dowelref03_spelled.j0 (k + 1) y0 y1))
  | 0 => fun _ _ r h => by simp [dowelref03_spelled.j0] at h
  | k + 1 => by
    have ih0 := dowelref03_spelled.mono_l k
    · intro y0 y1
      unfold dowelref03_spelled.j0
      repeat' first
      | (with_reducible exact ih0 _ _)
      | (with_reducible exact LeO.refl _)
      | (with_reducible exact LeO.none _)
      | (with_reducible refine LeO.ite ?_ ?_)
      | (with_reducible refine LeO.bind ?_ (fun _ => ?_))
      | exact ih0 _ _
      | exact LeO.none _
      | refine LeO.ite ?_ ?_
      | refine LeO.bind ?_ (fun _ => ?_)
theorem dowelref03_spelled.mono : ∀ a0 k, LeO (dowelref03_spelled.f k a0) (dowelref03_spelled.f (k + 1) a0) := by
  intro a0 k
  have ih0 := dowelref03_spelled.mono_l k
  unfold dowelref03_spelled.f
  repeat' first
      | (with_reducible exact ih0 _ _)
      | (with_reducible exact LeO.refl _)
      | (with_reducible exact LeO.none _)
      | (with_reducible refine LeO.ite ?_ ?_)
      | (with_reducible refine LeO.bind ?_ (fun _ => ?_))
      | exact ih0 _ _
      | exact LeO.none _
      | refine LeO.ite ?_ ?_
      | refine LeO.bind ?_ (fun _ => ?_)
set_option maxHeartbeats 8000000 in
set_option maxRecDepth 100000 in
theorem dowelref03_spelled.calls (k : Nat) (a0 : Int) (r : ByteArray) (w : World) (h : dowelref03_spelled.f k a0 = some r) :
    Calls Try.prog 119 #[.int .u8 a0] w fun e w' => e = .returned (.string r) ∧ Below w.heap.size w w' := by
  have HB := Aside0.mk (Below.refl w.heap.size w)
  have H : (if a0 = 9 then (some (⟨#[92, 116]⟩ : ByteArray)) else (if a0 = 10 then (some (⟨#[92, 110]⟩ : ByteArray)) else (if a0 = 13 then (some (⟨#[92, 114]⟩ : ByteArray)) else (if a0 = 92 then (dowelref03_spelled.j0 k a0 (a0 == 92)) else (if a0 = 93 then (dowelref03_spelled.j0 k a0 (a0 == 93)) else (if a0 = 45 then (dowelref03_spelled.j0 k a0 (a0 == 45)) else (dowelref03_spelled.j0 k a0 (a0 == 94)))))))) = some r := h
  clear h
  by_cases c2 : a0 = 9
  · rw [if_pos c2] at H
    have c2b0 : (a0 == 9) = true := beq_iff_eq.mpr c2
    have c2b1 : (a0 != 9) = false := bne_eq_false_iff_eq.mpr c2
    clear c2
    obtain rfl := Option.some.inj H
    go_enter Try.func119, Try.ntmps119
    go_wp2
    go_ret
    exact ⟨by first | rfl | (simp [Q24, Q25] <;> rfl) | (simp [*, Q24, Q25] <;> rfl), by repeat (first | (with_reducible first | exact HB.out | apply Q9 | apply Q7 | apply Q8) | exact HB.out)⟩
  · rw [if_neg c2] at H
    have c2b0 : (a0 == 9) = false := beq_eq_false_iff_ne.mpr c2
    have c2b1 : (a0 != 9) = true := bne_iff_ne.mpr c2
    by_cases c3 : a0 = 10
    · rw [if_pos c3] at H
      have c3b0 : (a0 == 10) = true := beq_iff_eq.mpr c3
      have c3b1 : (a0 != 10) = false := bne_eq_false_iff_eq.mpr c3
      clear c3
      obtain rfl := Option.some.inj H
      go_enter Try.func119, Try.ntmps119
      go_wp2
      go_ret
      exact ⟨by first | rfl | (simp [Q24, Q25] <;> rfl) | (simp [*, Q24, Q25] <;> rfl), by repeat (first | (with_reducible first | exact HB.out | apply Q9 | apply Q7 | apply Q8) | exact HB.out)⟩
    · rw [if_neg c3] at H
      have c3b0 : (a0 == 10) = false := beq_eq_false_iff_ne.mpr c3
      have c3b1 : (a0 != 10) = true := bne_iff_ne.mpr c3
      by_cases c4 : a0 = 13
      · rw [if_pos c4] at H
        have c4b0 : (a0 == 13) = true := beq_iff_eq.mpr c4
        have c4b1 : (a0 != 13) = false := bne_eq_false_iff_eq.mpr c4
        clear c4
        obtain rfl := Option.some.inj H
        go_enter Try.func119, Try.ntmps119
        go_wp2
        go_ret
        exact ⟨by first | rfl | (simp [Q24, Q25] <;> rfl) | (simp [*, Q24, Q25] <;> rfl), by repeat (first | (with_reducible first | exact HB.out | apply Q9 | apply Q7 | apply Q8) | exact HB.out)⟩
      · rw [if_neg c4] at H
        have c4b0 : (a0 == 13) = false := beq_eq_false_iff_ne.mpr c4
        have c4b1 : (a0 != 13) = true := bne_iff_ne.mpr c4
        have HC5 := Aside0.mk H
        clear H
        go_enter Try.func119, Try.ntmps119
        go_upto_if 10 with (fail)
        go_cut [10] (fun v10 wc => ∃ (kq : Nat) (x10_4 : Bool), v10 = .bool x10_4 ∧ Aside0 (dowelref03_spelled.j0 kq a0 x10_4 = some r) ∧ Aside0 (kq ≤ k) ∧ Aside0 (Below w.heap.size w wc))
        case first =>
          have H := HC5.out
          clear HC5
          by_cases c6 : a0 = 92
          · rw [if_pos c6] at H
            have c6b0 : (a0 == 92) = true := beq_iff_eq.mpr c6
            have c6b1 : (a0 != 92) = false := bne_eq_false_iff_eq.mpr c6
            clear c6
            (first | rw [c6b0] | (simp only [i64_w, i32_w]; rw [c6b0]) | skip)
            have H' := Aside0.mk H
            clear H
            go_wp2
            go_meet
            case rel => exact ⟨_, ((a0 == 92)), (by first | rfl | (simp; done) | (simp [*]; done)), H', ⟨by first | omega | exact Nat.le_refl _⟩, ⟨by repeat (first | (with_reducible first | exact HB.out | apply Q9 | apply Q7 | apply Q8) | exact HB.out)⟩⟩
          · rw [if_neg c6] at H
            have c6b0 : (a0 == 92) = false := beq_eq_false_iff_ne.mpr c6
            have c6b1 : (a0 != 92) = true := bne_iff_ne.mpr c6
            (first | rw [c6b0] | (simp only [i64_w, i32_w]; rw [c6b0]) | skip)
            by_cases c7 : a0 = 93
            · rw [if_pos c7] at H
              have c7b0 : (a0 == 93) = true := beq_iff_eq.mpr c7
              have c7b1 : (a0 != 93) = false := bne_eq_false_iff_eq.mpr c7
              clear c7
              have H' := Aside0.mk H
              clear H
              go_wp2
              go_meet
              case rel => exact ⟨_, ((a0 == 93)), (by first | rfl | (simp; done) | (simp [*]; done)), H', ⟨by first | omega | exact Nat.le_refl _⟩, ⟨by repeat (first | (with_reducible first | exact HB.out | apply Q9 | apply Q7 | apply Q8) | exact HB.out)⟩⟩
            · rw [if_neg c7] at H
              have c7b0 : (a0 == 93) = false := beq_eq_false_iff_ne.mpr c7
              have c7b1 : (a0 != 93) = true := bne_iff_ne.mpr c7
              by_cases c8 : a0 = 45
              · rw [if_pos c8] at H
                have c8b0 : (a0 == 45) = true := beq_iff_eq.mpr c8
                have c8b1 : (a0 != 45) = false := bne_eq_false_iff_eq.mpr c8
                clear c8
                have H' := Aside0.mk H
                clear H
                go_wp2
                go_meet
                case rel => exact ⟨_, ((a0 == 45)), (by first | rfl | (simp; done) | (simp [*]; done)), H', ⟨by first | omega | exact Nat.le_refl _⟩, ⟨by repeat (first | (with_reducible first | exact HB.out | apply Q9 | apply Q7 | apply Q8) | exact HB.out)⟩⟩
              · rw [if_neg c8] at H
                have c8b0 : (a0 == 45) = false := beq_eq_false_iff_ne.mpr c8
                have c8b1 : (a0 != 45) = true := bne_iff_ne.mpr c8
                have H' := Aside0.mk H
                clear H
                go_wp2
                go_meet
                case rel => exact ⟨_, ((a0 == 94)), (by first | rfl | (simp; done) | (simp [*]; done)), H', ⟨by first | omega | exact Nat.le_refl _⟩, ⟨by repeat (first | (with_reducible first | exact HB.out | apply Q9 | apply Q7 | apply Q8) | exact HB.out)⟩⟩
        case rest =>
          clear HC5
          try clear c1
          try clear c2
          try clear c2b0
          try clear c2b1
          try clear p2
          try clear c3
          try clear c3b0
          try clear c3b1
          try clear c4
          try clear c4b0
          try clear c4b1
          try clear c6
          try clear c6b0
          try clear c6b1
          try clear c7
          try clear c7b0
          try clear c7b1
          try clear c8
          try clear c8b0
          try clear c8b1
          obtain ⟨kq, x10_4, rfl, HA, HJ4, HB⟩ := hcut
          cases kq with
          | zero => exact absurd HA.out (by simp [dowelref03_spelled.j0])
          | succ kj4 =>
            have H := HA.out
            clear HA
            simp only [dowelref03_spelled.j0] at H
            by_cases c9 : x10_4 = true
            · subst c9
              have H1 : ((some (([a0] : List Int) : List Int)).bind fun y289 => (if 1 + (strOfNums y289).size ≤ 9223372036854775807 then (some ((⟨#[92]⟩ : ByteArray) ++ (strOfNums y289))) else (none))) = some r := by rw [if_pos rfl] at H; exact H
              clear H
              have H := H1
              clear H1
              obtain ⟨y289, hy289⟩ : ∃ y_ : List Int, y_ = (([a0] : List Int)) := ⟨_, rfl⟩
              replace H : (if 1 + (strOfNums y289).size ≤ 9223372036854775807 then (some ((⟨#[92]⟩ : ByteArray) ++ (strOfNums y289))) else (none)) = some r := by first | (rw [hy289]; with_reducible exact H) | (have H2_ := (Option.bind_some _ _).symm.trans H; rw [hy289]; with_reducible exact H2_) | (have H2_ := (Option.bind_some _ _).symm.trans H; with_reducible exact H2_) | with_reducible exact H | (rw [hy289]; exact H) | exact H
              have Ny289 := Aside0.mk hy289
              clear hy289
              by_cases c10 : 1 + (strOfNums y289).size ≤ 9223372036854775807
              · rw [if_pos c10] at H
                have c10b0 := eq_true c10
                have c10b1 : decide (1 + (strOfNums y289).size ≤ 9223372036854775807) = true := decide_eq_true c10
                try have c10b2 : (9223372036854775807 < 1 + (strOfNums y289).size) = False := eq_false (Nat.not_lt.2 c10)
                obtain rfl := Option.some.inj H
                go_wp2_with (first | ((with_reducible refine gate_dst (N := 16) rfl ?_); refine Kd.R_lit (Kd.int .u8) _ 5 ?hg (N := 16) ?hd (xs := ([a0] : List Int)) (inner := [.int .u8 a0]) (ok := fun _ => True) (okp := fun _ => True) ?hr ?hp (fun _ hk => hk) trivial (Below.refl _ _) (Nat.le_refl _) (by simp) ?_; (case hd => rfl); (case hg => rfl); (case hr => first | (go_simp; done) | (go_simp; rfl)); (case hp => exact (Reps.one (show Kd.M (Kd.int .u8) _ _ _ a0 [.int .u8 a0] from rfl) (Reps.none _ _))); intro v290 w11 ho12 hb hg_ hnew_; clear hg_ hnew_; (first | rw [← Ny289.out] at ho12 | (simp only [Int.reduceToNat] at ho12; rw [← Ny289.out] at ho12)); have n0_ := Aside0.mk (Kd.R_lower ho12 (Q23 (by repeat (first | (with_reducible first | exact HB.out | apply Q9 | apply Q7 | apply Q8) | exact HB.out)))); have n1_ := Aside0.mk (Q27 (by repeat (first | (with_reducible first | exact HB.out | apply Q9 | apply Q7 | apply Q8) | exact HB.out)) hb); clear HB; have HO291 := n0_; have HB := n1_; clear n0_ n1_; clear hb ho12; have hcv13 := own_string (P := Try.prog) Try.underlying71 Try.underlying5 Try.underlying9 (Kd.own_of_R HO291.out); have hcw14 := fun n_ : Nat => own_string (P := Try.prog) Try.underlying71 Try.underlying5 Try.underlying9 (Kd.own_of_R (Kd.R_drewN HO291.out n_))))
                go_ret
                exact ⟨by first | rfl | (simp [Q24, Q25] <;> rfl) | (simp [*, Q24, Q25] <;> rfl), by repeat (first | (with_reducible first | exact HB.out | apply Q9 | apply Q7 | apply Q8) | exact HB.out)⟩
              · rw [if_neg c10] at H
                exact absurd H (by simp)
            · replace c9 := Bool.eq_false_iff.mpr c9
              subst c9
              have H1 : (if a0 ≥ 32 then (if a0 ≤ 126 then (some (strOfNums (([a0] : List Int)))) else ((dowelref03_Hex.f a0).bind fun t295 => (if 2 + t295.size ≤ 9223372036854775807 then (some ((⟨#[92, 120]⟩ : ByteArray) ++ t295)) else (none)))) else ((dowelref03_Hex.f a0).bind fun t296 => (if 2 + t296.size ≤ 9223372036854775807 then (some ((⟨#[92, 120]⟩ : ByteArray) ++ t296)) else (none)))) = some r := by rw [if_neg (show ¬ (false = true) by decide)] at H; exact H
              clear H
              have H := H1
              clear H1
              by_cases c15 : a0 ≥ 32
              · rw [if_pos c15] at H
                have c15b0 : decide (32 ≤ a0) = true := decide_eq_true c15
                clear c15
                by_cases c16 : a0 ≤ 126
                · rw [if_pos c16] at H
                  have c16b0 : decide (a0 ≤ 126) = true := decide_eq_true c16
                  clear c16
                  obtain ⟨y292, hy292⟩ : ∃ y_ : List Int, y_ = (([a0] : List Int)) := ⟨_, rfl⟩
                  replace H : (some (strOfNums y292)) = some r := by first | (rw [hy292]; with_reducible exact H) | (have H2_ := (Option.bind_some _ _).symm.trans H; rw [hy292]; with_reducible exact H2_) | (have H2_ := (Option.bind_some _ _).symm.trans H; with_reducible exact H2_) | with_reducible exact H | (rw [hy292]; exact H) | exact H
                  have Ny292 := Aside0.mk hy292
                  clear hy292
                  obtain rfl := Option.some.inj H
                  go_wp2_with (first | ((with_reducible refine gate_dst (N := 26) rfl ?_); refine Kd.R_lit (Kd.int .u8) _ 5 ?hg (N := 26) ?hd (xs := ([a0] : List Int)) (inner := [.int .u8 a0]) (ok := fun _ => True) (okp := fun _ => True) ?hr ?hp (fun _ hk => hk) trivial (Below.refl _ _) (Nat.le_refl _) (by simp) ?_; (case hd => rfl); (case hg => rfl); (case hr => first | (go_simp; done) | (go_simp; rfl)); (case hp => exact (Reps.one (show Kd.M (Kd.int .u8) _ _ _ a0 [.int .u8 a0] from rfl) (Reps.none _ _))); intro v293 w17 ho18 hb hg_ hnew_; clear hg_ hnew_; (first | rw [← Ny292.out] at ho18 | (simp only [Int.reduceToNat] at ho18; rw [← Ny292.out] at ho18)); have n0_ := Aside0.mk (Kd.R_lower ho18 (Q23 (by repeat (first | (with_reducible first | exact HB.out | apply Q9 | apply Q7 | apply Q8) | exact HB.out)))); have n1_ := Aside0.mk (Q27 (by repeat (first | (with_reducible first | exact HB.out | apply Q9 | apply Q7 | apply Q8) | exact HB.out)) hb); clear HB; have HO294 := n0_; have HB := n1_; clear n0_ n1_; clear hb ho18; have hcv19 := own_string (P := Try.prog) Try.underlying71 Try.underlying5 Try.underlying9 (Kd.own_of_R HO294.out); have hcw20 := fun n_ : Nat => own_string (P := Try.prog) Try.underlying71 Try.underlying5 Try.underlying9 (Kd.own_of_R (Kd.R_drewN HO294.out n_))))
                  go_ret
                  exact ⟨by first | rfl | (simp [Q24, Q25] <;> rfl) | (simp [*, Q24, Q25] <;> rfl), by repeat (first | (with_reducible first | exact HB.out | apply Q9 | apply Q7 | apply Q8) | exact HB.out)⟩
                · rw [if_neg c16] at H
                  have c16b0 : decide (a0 ≤ 126) = false := decide_eq_false c16
                  clear c16
                  replace H := Option.bind_eq_some_iff.mp H
                  obtain ⟨t295, A210, H⟩ := H
                  replace H : (if 2 + t295.size ≤ 9223372036854775807 then (some ((⟨#[92, 120]⟩ : ByteArray) ++ t295)) else (none)) = some r := H
                  have A21 := Aside0.mk A210
                  clear A210
                  by_cases c22 : 2 + t295.size ≤ 9223372036854775807
                  · rw [if_pos c22] at H
                    have c22b0 := eq_true c22
                    have c22b1 : decide (2 + t295.size ≤ 9223372036854775807) = true := decide_eq_true c22
                    try have c22b2 : (9223372036854775807 < 2 + t295.size) = False := eq_false (Nat.not_lt.2 c22)
                    obtain rfl := Option.some.inj H
                    go_wp2_with (first | ((with_reducible refine gate_callee (f := 116) rfl ?_); refine goesL_ (some 29) rfl rfl Try.func116 (by kernel_rfl) rfl #[.int .u8 a0] rfl (by (try simp only [List.map_toArray, List.map_cons, List.map_nil]); first | done | rfl | (simp only [List.length_drop, List.length_take]; rfl)) ?_; (with_reducible refine (dowelref03_Hex.calls a0 t295 _ A21.out).mono ?_); rintro e w' ⟨rfl, ⟨nd, rfl⟩⟩; refine ⟨_, rfl, ?_⟩))
                    go_ret
                    exact ⟨by first | rfl | (simp [Q24, Q25] <;> rfl) | (simp [*, Q24, Q25] <;> rfl), by repeat (first | (with_reducible first | exact HB.out | apply Q9 | apply Q7 | apply Q8) | exact HB.out)⟩
                  · rw [if_neg c22] at H
                    exact absurd H (by simp)
              · rw [if_neg c15] at H
                have c15b0 : decide (32 ≤ a0) = false := decide_eq_false c15
                clear c15
                replace H := Option.bind_eq_some_iff.mp H
                obtain ⟨t296, A230, H⟩ := H
                replace H : (if 2 + t296.size ≤ 9223372036854775807 then (some ((⟨#[92, 120]⟩ : ByteArray) ++ t296)) else (none)) = some r := H
                have A23 := Aside0.mk A230
                clear A230
                by_cases c24 : 2 + t296.size ≤ 9223372036854775807
                · rw [if_pos c24] at H
                  have c24b0 := eq_true c24
                  have c24b1 : decide (2 + t296.size ≤ 9223372036854775807) = true := decide_eq_true c24
                  try have c24b2 : (9223372036854775807 < 2 + t296.size) = False := eq_false (Nat.not_lt.2 c24)
                  obtain rfl := Option.some.inj H
                  go_wp2_with (first | ((with_reducible refine gate_callee (f := 116) rfl ?_); refine goesL_ (some 29) rfl rfl Try.func116 (by kernel_rfl) rfl #[.int .u8 a0] rfl (by (try simp only [List.map_toArray, List.map_cons, List.map_nil]); first | done | rfl | (simp only [List.length_drop, List.length_take]; rfl)) ?_; (with_reducible refine (dowelref03_Hex.calls a0 t296 _ A23.out).mono ?_); rintro e w' ⟨rfl, ⟨nd, rfl⟩⟩; refine ⟨_, rfl, ?_⟩))
                  go_ret
                  exact ⟨by first | rfl | (simp [Q24, Q25] <;> rfl) | (simp [*, Q24, Q25] <;> rfl), by repeat (first | (with_reducible first | exact HB.out | apply Q9 | apply Q7 | apply Q8) | exact HB.out)⟩
                · rw [if_neg c24] at H
                  exact absurd H (by simp)
mutual
def dowelref03_Text.j0 : Nat → ByteArray → Int → Int → Int → Int → Option (ByteArray)
  | 0, _, _, _, _, _ => none
  | k + 1, x3, x298000, x298001, x298002, x298003 => (dowelref03_Ranges.f x298000 x298001 x298002 x298003).bind fun t305 => (dowelref03_Text.l0 k x3 t305 0)
def dowelref03_Text.l0 : Nat → ByteArray → List (S158) → Int → Option (ByteArray)
  | 0, _, _, _ => none
  | k + 1, x3, x4, x5 => if x5 < (x4.length : Int) then (if 0 ≤ x5 then ((dowelref03_spelled.f k ((Q20 x4 x5).f0)).bind fun t309 => (if x3.size + t309.size ≤ 9223372036854775807 then (if ((((Q20 x4 x5).f1) - ((Q20 x4 x5).f0)) % 256) > 1 then (if (x3 ++ t309).size + 1 ≤ 9223372036854775807 then (if ((Q20 x4 x5).f1) > ((Q20 x4 x5).f0) then ((dowelref03_spelled.f k ((Q20 x4 x5).f1)).bind fun t315 => (if ((x3 ++ t309) ++ (⟨#[45]⟩ : ByteArray)).size + t315.size ≤ 9223372036854775807 then (dowelref03_Text.l0 k (((x3 ++ t309) ++ (⟨#[45]⟩ : ByteArray)) ++ t315) x4 (wrap64 (x5 + 1))) else (none))) else (dowelref03_Text.l0 k ((x3 ++ t309) ++ (⟨#[45]⟩ : ByteArray)) x4 (wrap64 (x5 + 1)))) else (none)) else (if ((Q20 x4 x5).f1) > ((Q20 x4 x5).f0) then ((dowelref03_spelled.f k ((Q20 x4 x5).f1)).bind fun t319 => (if (x3 ++ t309).size + t319.size ≤ 9223372036854775807 then (dowelref03_Text.l0 k ((x3 ++ t309) ++ t319) x4 (wrap64 (x5 + 1))) else (none))) else (dowelref03_Text.l0 k (x3 ++ t309) x4 (wrap64 (x5 + 1))))) else (none))) else (none)) else (if x3.size + 1 ≤ 9223372036854775807 then (some (x3 ++ (⟨#[93]⟩ : ByteArray))) else (none))
end
def dowelref03_Text.f (k : Nat) (a0_0 : Int) (a0_1 : Int) (a0_2 : Int) (a0_3 : Int) : Option (ByteArray) := (dowelref03_Bytes.f a0_0 a0_1 a0_2 a0_3).bind fun t298 => (if (t298.length : Int) > 128 then ((dowelref03_Not.f a0_0 a0_1 a0_2 a0_3).bind fun bt301 => (dowelref03_Text.j0 k (⟨#[91, 94]⟩ : ByteArray) bt301.1 bt301.2.1 bt301.2.2.1 bt301.2.2.2)) else (dowelref03_Text.j0 k (⟨#[91]⟩ : ByteArray) a0_0 a0_1 a0_2 a0_3))
set_option maxHeartbeats 8000000 in
set_option maxRecDepth 100000 in
theorem dowelref03_Text.calls (k : Nat) (a0_0 : Int) (a0_1 : Int) (a0_2 : Int) (a0_3 : Int) (r : ByteArray) (w : World) (h : dowelref03_Text.f k a0_0 a0_1 a0_2 a0_3 = some r) :
    Calls Try.prog 96 #[.agg #[.int .u64 a0_0, .int .u64 a0_1, .int .u64 a0_2, .int .u64 a0_3]] w fun e w' => e = .returned (.string r) ∧ Below w.heap.size w w' := by
  have hu43 := Try.underlying43
  have HB := Aside0.mk (Below.refl w.heap.size w)
  have H : ((dowelref03_Bytes.f a0_0 a0_1 a0_2 a0_3).bind fun t298 => (if (t298.length : Int) > 128 then ((dowelref03_Not.f a0_0 a0_1 a0_2 a0_3).bind fun bt301 => (dowelref03_Text.j0 k (⟨#[91, 94]⟩ : ByteArray) bt301.1 bt301.2.1 bt301.2.2.1 bt301.2.2.2)) else (dowelref03_Text.j0 k (⟨#[91]⟩ : ByteArray) a0_0 a0_1 a0_2 a0_3))) = some r := h
  clear h
  replace H := Option.bind_eq_some_iff.mp H
  obtain ⟨t298, A20, H⟩ := H
  replace H : (if (t298.length : Int) > 128 then ((dowelref03_Not.f a0_0 a0_1 a0_2 a0_3).bind fun bt301 => (dowelref03_Text.j0 k (⟨#[91, 94]⟩ : ByteArray) bt301.1 bt301.2.1 bt301.2.2.1 bt301.2.2.2)) else (dowelref03_Text.j0 k (⟨#[91]⟩ : ByteArray) a0_0 a0_1 a0_2 a0_3)) = some r := H
  have A2 := Aside0.mk A20
  clear A20
  have HC3 := Aside0.mk H
  clear H
  go_enter Try.func96, Try.ntmps96
  go_upto_if 9 with (first | ((with_reducible refine gate_dst (N := 1) rfl ?_); refine box_event ?hg (N := 1) ?hd (cs := #[.int .u64 a0_0, .int .u64 a0_1, .int .u64 a0_2, .int .u64 a0_3]) (t := 43) ?hr ?_; (case hd => rfl); (case hg => rfl); (case hr => first | (go_simp; done) | (go_simp; rfl)); intro gb297 hg w4 hbox hb; have n0_ := Aside0.mk (Q27 (by repeat (first | (with_reducible first | exact HB.out | apply Q9 | apply Q7 | apply Q8) | exact HB.out)) hb); have n1_ := Aside0.mk (hbox); have n2_ := Aside0.mk ((by rw [hg]; exact (Q23 (by repeat (first | (with_reducible first | exact HB.out | apply Q9 | apply Q7 | apply Q8) | exact HB.out))) : w.heap.size ≤ gb297)); have n3_ := Aside0.mk ((by rw [hg]; exact (Q23 (by repeat (first | (with_reducible first | exact HB.out | apply Q9 | apply Q7 | apply Q8) | exact HB.out))) : w.heap.size ≤ gb297)); clear HB; have HB := n0_; have BK297 := n1_; have GW297 := n2_; have GE297 := n3_; clear n0_ n1_ n2_ n3_; clear hb hbox hg; have hcz5_0 : w4.cell? ⟨gb297, 0, none⟩ = some (.int .u64 a0_0) := (Q10 BK297.out 0).trans rfl; have hcz5_1 : w4.cell? ⟨gb297, 1, none⟩ = some (.int .u64 a0_1) := (Q10 BK297.out 1).trans rfl; have hcz5_2 : w4.cell? ⟨gb297, 2, none⟩ = some (.int .u64 a0_2) := (Q10 BK297.out 2).trans rfl; have hcz5_3 : w4.cell? ⟨gb297, 3, none⟩ = some (.int .u64 a0_3) := (Q10 BK297.out 3).trans rfl; have hfz5_0 := Q11 BK297.out 0; have hfz5_1 := Q11 BK297.out 1; have hfz5_2 := Q11 BK297.out 2; have hfz5_3 := Q11 BK297.out 3) | (go_at_call 94; (with_reducible refine (dowelref03_Bytes.calls a0_0 a0_1 a0_2 a0_3 t298 _ A2.out).mono ?_); rintro e w6 ⟨v299, rfl, ho0, hb⟩; have n0_ := Aside0.mk (Kd.R_lower ho0 (Q23 (by repeat (first | (with_reducible first | exact HB.out | apply Q9 | apply Q7 | apply Q8 | refine Q14 ?_ GE297.out) | exact HB.out)))); have n1_ := Aside0.mk (blk_below (g := gb297) (o := .cells #[.int .u64 a0_0, .int .u64 a0_1, .int .u64 a0_2, .int .u64 a0_3] 43 (0, 0)) (by (with_reducible repeat (first | refine Q19 ?_ _ | refine Q17 ?_ | refine Q15 ?_ _)); exact BK297.out) hb); have n2_ := Aside0.mk (Q27 (by repeat (first | (with_reducible first | exact HB.out | apply Q9 | apply Q7 | apply Q8 | refine Q14 ?_ GE297.out) | exact HB.out)) hb); clear BK297; clear HB; have HO300 := n0_; have BK297 := n1_; have HB := n2_; clear n0_ n1_ n2_; (try clear hb); (try clear hb2); (try clear hk); (try clear hi); (try clear ho0); obtain ⟨Ao7, co7, eo7⟩ := Kd.R_slice HO300.out; subst eo7))
  repeat (go_quiet (first | ((with_reducible refine gate_dst (N := 1) rfl ?_); refine box_event ?hg (N := 1) ?hd (cs := #[.int .u64 a0_0, .int .u64 a0_1, .int .u64 a0_2, .int .u64 a0_3]) (t := 43) ?hr ?_; (case hd => rfl); (case hg => rfl); (case hr => first | (go_simp; done) | (go_simp; rfl)); intro gb297 hg w4 hbox hb; have n0_ := Aside0.mk (Q27 (by repeat (first | (with_reducible first | exact HB.out | apply Q9 | apply Q7 | apply Q8) | exact HB.out)) hb); have n1_ := Aside0.mk (hbox); have n2_ := Aside0.mk ((by rw [hg]; exact (Q23 (by repeat (first | (with_reducible first | exact HB.out | apply Q9 | apply Q7 | apply Q8) | exact HB.out))) : w.heap.size ≤ gb297)); have n3_ := Aside0.mk ((by rw [hg]; exact (Q23 (by repeat (first | (with_reducible first | exact HB.out | apply Q9 | apply Q7 | apply Q8) | exact HB.out))) : w.heap.size ≤ gb297)); clear HB; have HB := n0_; have BK297 := n1_; have GW297 := n2_; have GE297 := n3_; clear n0_ n1_ n2_ n3_; clear hb hbox hg; have hcz5_0 : w4.cell? ⟨gb297, 0, none⟩ = some (.int .u64 a0_0) := (Q10 BK297.out 0).trans rfl; have hcz5_1 : w4.cell? ⟨gb297, 1, none⟩ = some (.int .u64 a0_1) := (Q10 BK297.out 1).trans rfl; have hcz5_2 : w4.cell? ⟨gb297, 2, none⟩ = some (.int .u64 a0_2) := (Q10 BK297.out 2).trans rfl; have hcz5_3 : w4.cell? ⟨gb297, 3, none⟩ = some (.int .u64 a0_3) := (Q10 BK297.out 3).trans rfl; have hfz5_0 := Q11 BK297.out 0; have hfz5_1 := Q11 BK297.out 1; have hfz5_2 := Q11 BK297.out 2; have hfz5_3 := Q11 BK297.out 3) | (go_at_call 94; (with_reducible refine (dowelref03_Bytes.calls a0_0 a0_1 a0_2 a0_3 t298 _ A2.out).mono ?_); rintro e w6 ⟨v299, rfl, ho0, hb⟩; have n0_ := Aside0.mk (Kd.R_lower ho0 (Q23 (by repeat (first | (with_reducible first | exact HB.out | apply Q9 | apply Q7 | apply Q8 | refine Q14 ?_ GE297.out) | exact HB.out)))); have n1_ := Aside0.mk (blk_below (g := gb297) (o := .cells #[.int .u64 a0_0, .int .u64 a0_1, .int .u64 a0_2, .int .u64 a0_3] 43 (0, 0)) (by (with_reducible repeat (first | refine Q19 ?_ _ | refine Q17 ?_ | refine Q15 ?_ _)); exact BK297.out) hb); have n2_ := Aside0.mk (Q27 (by repeat (first | (with_reducible first | exact HB.out | apply Q9 | apply Q7 | apply Q8 | refine Q14 ?_ GE297.out) | exact HB.out)) hb); clear BK297; clear HB; have HO300 := n0_; have BK297 := n1_; have HB := n2_; clear n0_ n1_ n2_; (try clear hb); (try clear hb2); (try clear hk); (try clear hi); (try clear ho0); obtain ⟨Ao7, co7, eo7⟩ := Kd.R_slice HO300.out; subst eo7)); go_upto_if 9 with (first | ((with_reducible refine gate_dst (N := 1) rfl ?_); refine box_event ?hg (N := 1) ?hd (cs := #[.int .u64 a0_0, .int .u64 a0_1, .int .u64 a0_2, .int .u64 a0_3]) (t := 43) ?hr ?_; (case hd => rfl); (case hg => rfl); (case hr => first | (go_simp; done) | (go_simp; rfl)); intro gb297 hg w4 hbox hb; have n0_ := Aside0.mk (Q27 (by repeat (first | (with_reducible first | exact HB.out | apply Q9 | apply Q7 | apply Q8) | exact HB.out)) hb); have n1_ := Aside0.mk (hbox); have n2_ := Aside0.mk ((by rw [hg]; exact (Q23 (by repeat (first | (with_reducible first | exact HB.out | apply Q9 | apply Q7 | apply Q8) | exact HB.out))) : w.heap.size ≤ gb297)); have n3_ := Aside0.mk ((by rw [hg]; exact (Q23 (by repeat (first | (with_reducible first | exact HB.out | apply Q9 | apply Q7 | apply Q8) | exact HB.out))) : w.heap.size ≤ gb297)); clear HB; have HB := n0_; have BK297 := n1_; have GW297 := n2_; have GE297 := n3_; clear n0_ n1_ n2_ n3_; clear hb hbox hg; have hcz5_0 : w4.cell? ⟨gb297, 0, none⟩ = some (.int .u64 a0_0) := (Q10 BK297.out 0).trans rfl; have hcz5_1 : w4.cell? ⟨gb297, 1, none⟩ = some (.int .u64 a0_1) := (Q10 BK297.out 1).trans rfl; have hcz5_2 : w4.cell? ⟨gb297, 2, none⟩ = some (.int .u64 a0_2) := (Q10 BK297.out 2).trans rfl; have hcz5_3 : w4.cell? ⟨gb297, 3, none⟩ = some (.int .u64 a0_3) := (Q10 BK297.out 3).trans rfl; have hfz5_0 := Q11 BK297.out 0; have hfz5_1 := Q11 BK297.out 1; have hfz5_2 := Q11 BK297.out 2; have hfz5_3 := Q11 BK297.out 3) | (go_at_call 94; (with_reducible refine (dowelref03_Bytes.calls a0_0 a0_1 a0_2 a0_3 t298 _ A2.out).mono ?_); rintro e w6 ⟨v299, rfl, ho0, hb⟩; have n0_ := Aside0.mk (Kd.R_lower ho0 (Q23 (by repeat (first | (with_reducible first | exact HB.out | apply Q9 | apply Q7 | apply Q8 | refine Q14 ?_ GE297.out) | exact HB.out)))); have n1_ := Aside0.mk (blk_below (g := gb297) (o := .cells #[.int .u64 a0_0, .int .u64 a0_1, .int .u64 a0_2, .int .u64 a0_3] 43 (0, 0)) (by (with_reducible repeat (first | refine Q19 ?_ _ | refine Q17 ?_ | refine Q15 ?_ _)); exact BK297.out) hb); have n2_ := Aside0.mk (Q27 (by repeat (first | (with_reducible first | exact HB.out | apply Q9 | apply Q7 | apply Q8 | refine Q14 ?_ GE297.out) | exact HB.out)) hb); clear BK297; clear HB; have HO300 := n0_; have BK297 := n1_; have HB := n2_; clear n0_ n1_ n2_; (try clear hb); (try clear hb2); (try clear hk); (try clear hi); (try clear ho0); obtain ⟨Ao7, co7, eo7⟩ := Kd.R_slice HO300.out; subst eo7)))
  (try simp only [Act.put, List.setIfInBounds_toArray, List.set_cons_zero, List.set_cons_succ])
  go_cut [3] (fun v3 wc => ∃ (kq : Nat) (x3_2 : ByteArray) (x298000_2 : Int) (x298001_2 : Int) (x298002_2 : Int) (x298003_2 : Int), v3 = .string x3_2 ∧ Aside0 (dowelref03_Text.j0 kq x3_2 x298000_2 x298001_2 x298002_2 x298003_2 = some r) ∧ Aside0 (kq ≤ k) ∧ Aside0 (wc.heap[gb297]? = some (.cells #[.int .u64 x298000_2, .int .u64 x298001_2, .int .u64 x298002_2, .int .u64 x298003_2] 43 (0, 0))) ∧ Aside0 (Below w.heap.size w wc))
  case first =>
    have H := HC3.out
    clear HC3
    by_cases c8 : (t298.length : Int) > 128
    · rw [if_pos c8] at H
      have c8b0 : decide (128 < (t298.length : Int)) = true := decide_eq_true c8
      have c8b1 : decide (128 < t298.length) = true := decide_eq_true (by omega)
      clear c8
      (first | rw [c8b0] | (simp only [i64_w, i32_w]; rw [c8b0]) | skip)
      replace H := Option.bind_eq_some_iff.mp H
      obtain ⟨⟨t301, t302, t303, t304⟩, A90, H⟩ := H
      replace H : (dowelref03_Text.j0 k (⟨#[91, 94]⟩ : ByteArray) t301 t302 t303 t304) = some r := H
      have A9 := Aside0.mk A90
      clear A90
      have H' := Aside0.mk H
      clear H
      have hcz10_0 : w6.cell? ⟨gb297, 0, none⟩ = some (.int .u64 a0_0) := (Q10 BK297.out 0).trans rfl
      have hcz10_1 : w6.cell? ⟨gb297, 1, none⟩ = some (.int .u64 a0_1) := (Q10 BK297.out 1).trans rfl
      have hcz10_2 : w6.cell? ⟨gb297, 2, none⟩ = some (.int .u64 a0_2) := (Q10 BK297.out 2).trans rfl
      have hcz10_3 : w6.cell? ⟨gb297, 3, none⟩ = some (.int .u64 a0_3) := (Q10 BK297.out 3).trans rfl
      have hfz10_0 := Q11 BK297.out 0
      have hfz10_1 := Q11 BK297.out 1
      have hfz10_2 := Q11 BK297.out 2
      have hfz10_3 := Q11 BK297.out 3
      go_wp2_with (first | (go_at_call 117; (with_reducible refine (dowelref03_Not.calls a0_0 a0_1 a0_2 a0_3 t301 t302 t303 t304 _ A9.out).mono ?_); rintro e w11 ⟨rfl, hb⟩; have n0_ := Aside0.mk (Kd.R_below (by (with_reducible repeat (first | apply Kd.R_alloc | apply Kd.R_drewN | apply Kd.R_drew)); exact HO300.out) hb); have n1_ := Aside0.mk (blk_below (g := gb297) (o := .cells #[.int .u64 a0_0, .int .u64 a0_1, .int .u64 a0_2, .int .u64 a0_3] 43 (0, 0)) (by (with_reducible repeat (first | refine Q19 ?_ _ | refine Q17 ?_ | refine Q15 ?_ _)); exact BK297.out) hb); have n2_ := Aside0.mk (Q27 (by repeat (first | (with_reducible first | exact HB.out | apply Q9 | apply Q7 | apply Q8 | refine Q14 ?_ GE297.out) | exact HB.out)) hb); clear HO300; clear BK297; clear HB; have HO300 := n0_; have BK297 := n1_; have HB := n2_; clear n0_ n1_ n2_; (try clear hb); (try clear hb2); (try clear hk); (try clear hi); have hcz12_0 : w11.cell? ⟨gb297, 0, none⟩ = some (.int .u64 a0_0) := (Q10 BK297.out 0).trans rfl; have hcz12_1 : w11.cell? ⟨gb297, 1, none⟩ = some (.int .u64 a0_1) := (Q10 BK297.out 1).trans rfl; have hcz12_2 : w11.cell? ⟨gb297, 2, none⟩ = some (.int .u64 a0_2) := (Q10 BK297.out 2).trans rfl; have hcz12_3 : w11.cell? ⟨gb297, 3, none⟩ = some (.int .u64 a0_3) := (Q10 BK297.out 3).trans rfl; have hfz12_0 := Q11 BK297.out 0; have hfz12_1 := Q11 BK297.out 1; have hfz12_2 := Q11 BK297.out 2; have hfz12_3 := Q11 BK297.out 3))
      repeat (go_quiet (first | (go_at_call 117; (with_reducible refine (dowelref03_Not.calls a0_0 a0_1 a0_2 a0_3 t301 t302 t303 t304 _ A9.out).mono ?_); rintro e w11 ⟨rfl, hb⟩; have n0_ := Aside0.mk (Kd.R_below (by (with_reducible repeat (first | apply Kd.R_alloc | apply Kd.R_drewN | apply Kd.R_drew)); exact HO300.out) hb); have n1_ := Aside0.mk (blk_below (g := gb297) (o := .cells #[.int .u64 a0_0, .int .u64 a0_1, .int .u64 a0_2, .int .u64 a0_3] 43 (0, 0)) (by (with_reducible repeat (first | refine Q19 ?_ _ | refine Q17 ?_ | refine Q15 ?_ _)); exact BK297.out) hb); have n2_ := Aside0.mk (Q27 (by repeat (first | (with_reducible first | exact HB.out | apply Q9 | apply Q7 | apply Q8 | refine Q14 ?_ GE297.out) | exact HB.out)) hb); clear HO300; clear BK297; clear HB; have HO300 := n0_; have BK297 := n1_; have HB := n2_; clear n0_ n1_ n2_; (try clear hb); (try clear hb2); (try clear hk); (try clear hi); have hcz12_0 : w11.cell? ⟨gb297, 0, none⟩ = some (.int .u64 a0_0) := (Q10 BK297.out 0).trans rfl; have hcz12_1 : w11.cell? ⟨gb297, 1, none⟩ = some (.int .u64 a0_1) := (Q10 BK297.out 1).trans rfl; have hcz12_2 : w11.cell? ⟨gb297, 2, none⟩ = some (.int .u64 a0_2) := (Q10 BK297.out 2).trans rfl; have hcz12_3 : w11.cell? ⟨gb297, 3, none⟩ = some (.int .u64 a0_3) := (Q10 BK297.out 3).trans rfl; have hfz12_0 := Q11 BK297.out 0; have hfz12_1 := Q11 BK297.out 1; have hfz12_2 := Q11 BK297.out 2; have hfz12_3 := Q11 BK297.out 3)); try go_wp2_with (first | (go_at_call 117; (with_reducible refine (dowelref03_Not.calls a0_0 a0_1 a0_2 a0_3 t301 t302 t303 t304 _ A9.out).mono ?_); rintro e w11 ⟨rfl, hb⟩; have n0_ := Aside0.mk (Kd.R_below (by (with_reducible repeat (first | apply Kd.R_alloc | apply Kd.R_drewN | apply Kd.R_drew)); exact HO300.out) hb); have n1_ := Aside0.mk (blk_below (g := gb297) (o := .cells #[.int .u64 a0_0, .int .u64 a0_1, .int .u64 a0_2, .int .u64 a0_3] 43 (0, 0)) (by (with_reducible repeat (first | refine Q19 ?_ _ | refine Q17 ?_ | refine Q15 ?_ _)); exact BK297.out) hb); have n2_ := Aside0.mk (Q27 (by repeat (first | (with_reducible first | exact HB.out | apply Q9 | apply Q7 | apply Q8 | refine Q14 ?_ GE297.out) | exact HB.out)) hb); clear HO300; clear BK297; clear HB; have HO300 := n0_; have BK297 := n1_; have HB := n2_; clear n0_ n1_ n2_; (try clear hb); (try clear hb2); (try clear hk); (try clear hi); have hcz12_0 : w11.cell? ⟨gb297, 0, none⟩ = some (.int .u64 a0_0) := (Q10 BK297.out 0).trans rfl; have hcz12_1 : w11.cell? ⟨gb297, 1, none⟩ = some (.int .u64 a0_1) := (Q10 BK297.out 1).trans rfl; have hcz12_2 : w11.cell? ⟨gb297, 2, none⟩ = some (.int .u64 a0_2) := (Q10 BK297.out 2).trans rfl; have hcz12_3 : w11.cell? ⟨gb297, 3, none⟩ = some (.int .u64 a0_3) := (Q10 BK297.out 3).trans rfl; have hfz12_0 := Q11 BK297.out 0; have hfz12_1 := Q11 BK297.out 1; have hfz12_2 := Q11 BK297.out 2; have hfz12_3 := Q11 BK297.out 3)))
      go_meet
      case rel => exact ⟨_, ((⟨#[91, 94]⟩ : ByteArray)), (t301), (t302), (t303), (t304), (by first | rfl | (simp; done) | (simp [*]; done)), H', ⟨by first | omega | exact Nat.le_refl _⟩, ⟨by (with_reducible repeat (first | refine Q19 ?_ _ | refine Q17 ?_ | refine Q15 ?_ _)); refine blk_put (cs := #[.int .u64 t301, .int .u64 t302, .int .u64 t303, .int .u64 a0_3]) ?_ 3 _ rfl; (with_reducible repeat (first | refine Q19 ?_ _ | refine Q17 ?_ | refine Q15 ?_ _)); refine blk_put (cs := #[.int .u64 t301, .int .u64 t302, .int .u64 a0_2, .int .u64 a0_3]) ?_ 2 _ rfl; (with_reducible repeat (first | refine Q19 ?_ _ | refine Q17 ?_ | refine Q15 ?_ _)); refine blk_put (cs := #[.int .u64 t301, .int .u64 a0_1, .int .u64 a0_2, .int .u64 a0_3]) ?_ 1 _ rfl; (with_reducible repeat (first | refine Q19 ?_ _ | refine Q17 ?_ | refine Q15 ?_ _)); refine blk_put (cs := #[.int .u64 a0_0, .int .u64 a0_1, .int .u64 a0_2, .int .u64 a0_3]) ?_ 0 _ rfl; (with_reducible repeat (first | refine Q19 ?_ _ | refine Q17 ?_ | refine Q15 ?_ _)); exact BK297.out⟩, ⟨by repeat (first | (with_reducible first | exact HB.out | apply Q9 | apply Q7 | apply Q8 | refine Q14 ?_ GE297.out) | exact HB.out)⟩⟩
    · rw [if_neg c8] at H
      have c8b0 : decide (128 < (t298.length : Int)) = false := decide_eq_false c8
      have c8b1 : decide (128 < t298.length) = false := decide_eq_false (by omega)
      clear c8
      (first | rw [c8b0] | (simp only [i64_w, i32_w]; rw [c8b0]) | skip)
      have H' := Aside0.mk H
      clear H
      go_wp2
      repeat (go_quiet (fail); try go_wp2)
      go_meet
      case rel => exact ⟨_, ((⟨#[91]⟩ : ByteArray)), (a0_0), (a0_1), (a0_2), (a0_3), (by first | rfl | (simp; done) | (simp [*]; done)), H', ⟨by first | omega | exact Nat.le_refl _⟩, ⟨by (with_reducible repeat (first | refine Q19 ?_ _ | refine Q17 ?_ | refine Q15 ?_ _)); exact BK297.out⟩, ⟨by repeat (first | (with_reducible first | exact HB.out | apply Q9 | apply Q7 | apply Q8 | refine Q14 ?_ GE297.out) | exact HB.out)⟩⟩
  case rest =>
    clear HC3
    try clear p2
    try clear c8
    try clear c8b0
    try clear c8b1
    try clear c9
    try clear hcz10_0
    try clear hcz10_1
    try clear hcz10_2
    try clear hcz10_3
    try clear hcz12_0
    try clear hcz12_1
    try clear hcz12_2
    try clear hcz12_3
    try clear hcz5_0
    try clear hcz5_1
    try clear hcz5_2
    try clear hcz5_3
    try clear hfz10_0
    try clear hfz10_1
    try clear hfz10_2
    try clear hfz10_3
    try clear hfz12_0
    try clear hfz12_1
    try clear hfz12_2
    try clear hfz12_3
    try clear hfz5_0
    try clear hfz5_1
    try clear hfz5_2
    try clear hfz5_3
    obtain ⟨kq, x3_2, x298000_2, x298001_2, x298002_2, x298003_2, rfl, HA, HJ2, BK297, HB⟩ := hcut
    cases kq with
    | zero => exact absurd HA.out (by simp [dowelref03_Text.j0])
    | succ kj2 =>
      have H := HA.out
      clear HA
      simp only [dowelref03_Text.j0] at H
      replace H := Option.bind_eq_some_iff.mp H
      obtain ⟨t305, A130, H⟩ := H
      replace H : (dowelref03_Text.l0 kj2 x3_2 t305 0) = some r := H
      have A13 := Aside0.mk A130
      clear A130
      have H' := Aside0.mk H
      clear H
      have hcz14_0 : wc.cell? ⟨gb297, 0, none⟩ = some (.int .u64 x298000_2) := (Q10 BK297.out 0).trans rfl
      have hcz14_1 : wc.cell? ⟨gb297, 1, none⟩ = some (.int .u64 x298001_2) := (Q10 BK297.out 1).trans rfl
      have hcz14_2 : wc.cell? ⟨gb297, 2, none⟩ = some (.int .u64 x298002_2) := (Q10 BK297.out 2).trans rfl
      have hcz14_3 : wc.cell? ⟨gb297, 3, none⟩ = some (.int .u64 x298003_2) := (Q10 BK297.out 3).trans rfl
      have hfz14_0 := Q11 BK297.out 0
      have hfz14_1 := Q11 BK297.out 1
      have hfz14_2 := Q11 BK297.out 2
      have hfz14_3 := Q11 BK297.out 3
      go_wp2_with (first | (go_at_call 118; (with_reducible refine (dowelref03_Ranges.calls x298000_2 x298001_2 x298002_2 x298003_2 t305 _ A13.out).mono ?_); rintro e w15 ⟨v306, rfl, ho0, hb⟩; have n0_ := Aside0.mk (Kd.R_lower ho0 (Q23 (by repeat (first | (with_reducible first | exact HB.out | apply Q9 | apply Q7 | apply Q8 | refine Q14 ?_ GE297.out) | exact HB.out)))); have n1_ := Aside0.mk (blk_below (g := gb297) (o := .cells #[.int .u64 x298000_2, .int .u64 x298001_2, .int .u64 x298002_2, .int .u64 x298003_2] 43 (0, 0)) (by (with_reducible repeat (first | refine Q19 ?_ _ | refine Q17 ?_ | refine Q15 ?_ _)); exact BK297.out) hb); have n2_ := Aside0.mk (Q27 (by repeat (first | (with_reducible first | exact HB.out | apply Q9 | apply Q7 | apply Q8 | refine Q14 ?_ GE297.out) | exact HB.out)) hb); clear BK297; clear HB; have HO307 := n0_; have BK297 := n1_; have HB := n2_; clear n0_ n1_ n2_; (try clear hb); (try clear hb2); (try clear hk); (try clear hi); (try clear ho0)))
      repeat (go_quiet (first | (go_at_call 118; (with_reducible refine (dowelref03_Ranges.calls x298000_2 x298001_2 x298002_2 x298003_2 t305 _ A13.out).mono ?_); rintro e w15 ⟨v306, rfl, ho0, hb⟩; have n0_ := Aside0.mk (Kd.R_lower ho0 (Q23 (by repeat (first | (with_reducible first | exact HB.out | apply Q9 | apply Q7 | apply Q8 | refine Q14 ?_ GE297.out) | exact HB.out)))); have n1_ := Aside0.mk (blk_below (g := gb297) (o := .cells #[.int .u64 x298000_2, .int .u64 x298001_2, .int .u64 x298002_2, .int .u64 x298003_2] 43 (0, 0)) (by (with_reducible repeat (first | refine Q19 ?_ _ | refine Q17 ?_ | refine Q15 ?_ _)); exact BK297.out) hb); have n2_ := Aside0.mk (Q27 (by repeat (first | (with_reducible first | exact HB.out | apply Q9 | apply Q7 | apply Q8 | refine Q14 ?_ GE297.out) | exact HB.out)) hb); clear BK297; clear HB; have HO307 := n0_; have BK297 := n1_; have HB := n2_; clear n0_ n1_ n2_; (try clear hb); (try clear hb2); (try clear hk); (try clear hi); (try clear ho0))); try go_wp2_with (first | (go_at_call 118; (with_reducible refine (dowelref03_Ranges.calls x298000_2 x298001_2 x298002_2 x298003_2 t305 _ A13.out).mono ?_); rintro e w15 ⟨v306, rfl, ho0, hb⟩; have n0_ := Aside0.mk (Kd.R_lower ho0 (Q23 (by repeat (first | (with_reducible first | exact HB.out | apply Q9 | apply Q7 | apply Q8 | refine Q14 ?_ GE297.out) | exact HB.out)))); have n1_ := Aside0.mk (blk_below (g := gb297) (o := .cells #[.int .u64 x298000_2, .int .u64 x298001_2, .int .u64 x298002_2, .int .u64 x298003_2] 43 (0, 0)) (by (with_reducible repeat (first | refine Q19 ?_ _ | refine Q17 ?_ | refine Q15 ?_ _)); exact BK297.out) hb); have n2_ := Aside0.mk (Q27 (by repeat (first | (with_reducible first | exact HB.out | apply Q9 | apply Q7 | apply Q8 | refine Q14 ?_ GE297.out) | exact HB.out)) hb); clear BK297; clear HB; have HO307 := n0_; have BK297 := n1_; have HB := n2_; clear n0_ n1_ n2_; (try clear hb); (try clear hb2); (try clear hk); (try clear hi); (try clear ho0))))
      go_loopg [3, 5] kj2 (fun kq v3 v5 w' => ∃ (x3_2 : ByteArray) (x5_2 : Int), v3 = .string x3_2 ∧ v5 = .int .i64 x5_2 ∧ Aside0 (dowelref03_Text.l0 kq x3_2 t305 x5_2 = some r) ∧ Aside0 (kq ≤ kj2) ∧ Aside0 (Kd.R k158 158 w' w.heap.size (fun _ => True) v306 t305) ∧ Aside0 (w'.heap[gb297]? = some (.cells #[.int .u64 x298000_2, .int .u64 x298001_2, .int .u64 x298002_2, .int .u64 x298003_2] 43 (0, 0))) ∧ Aside0 (Below w.heap.size w w'))
      case atStart => exact ⟨(x3_2), (0), (by first | rfl | (simp; done) | (simp [*]; done)), (by first | rfl | (simp; done) | (simp [*]; done)), H', ⟨Nat.le_refl _⟩, ⟨by (with_reducible repeat (first | apply Kd.R_alloc | apply Kd.R_drewN | apply Kd.R_drew)); exact HO307.out⟩, ⟨by (with_reducible repeat (first | refine Q19 ?_ _ | refine Q17 ?_ | refine Q15 ?_ _)); exact BK297.out⟩, ⟨by repeat (first | (with_reducible first | exact HB.out | apply Q9 | apply Q7 | apply Q8 | refine Q14 ?_ GE297.out) | exact HB.out)⟩⟩
      case round =>
        clear H'
        try clear p2
        try clear c8
        try clear c8b0
        try clear c8b1
        try clear c9
        try clear hcz10_0
        try clear hcz10_1
        try clear hcz10_2
        try clear hcz10_3
        try clear hcz12_0
        try clear hcz12_1
        try clear hcz12_2
        try clear hcz12_3
        try clear hcz14_0
        try clear hcz14_1
        try clear hcz14_2
        try clear hcz14_3
        try clear hcz5_0
        try clear hcz5_1
        try clear hcz5_2
        try clear hcz5_3
        try clear hfz10_0
        try clear hfz10_1
        try clear hfz10_2
        try clear hfz10_3
        try clear hfz12_0
        try clear hfz12_1
        try clear hfz12_2
        try clear hfz12_3
        try clear hfz14_0
        try clear hfz14_1
        try clear hfz14_2
        try clear hfz14_3
        try clear hfz5_0
        try clear hfz5_1
        try clear hfz5_2
        try clear hfz5_3
        try clear p2
        obtain ⟨x3_2, x5_2, rfl, rfl, HA, HK2, HO_4, BK297, HB⟩ := hrel
        cases gk with
        | zero => exact absurd HA.out (by simp [dowelref03_Text.l0])
        | succ k2 =>
          have H := HA.out
          clear HA
          simp only [dowelref03_Text.l0] at H
          by_cases c16 : x5_2 < (t305.length : Int)
          · rw [if_pos c16] at H
            have c16b0 : decide (x5_2 < (t305.length : Int)) = true := decide_eq_true c16
            clear c16
            by_cases c17 : 0 ≤ x5_2
            · rw [if_pos c17] at H
              have c17b0 : decide (0 ≤ x5_2) = true := decide_eq_true c17
              clear c17
              replace H := Option.bind_eq_some_iff.mp H
              obtain ⟨t309, A180, H⟩ := H
              replace H : (if x3_2.size + t309.size ≤ 9223372036854775807 then (if ((((Q20 t305 x5_2).f1) - ((Q20 t305 x5_2).f0)) % 256) > 1 then (if (x3_2 ++ t309).size + 1 ≤ 9223372036854775807 then (if ((Q20 t305 x5_2).f1) > ((Q20 t305 x5_2).f0) then ((dowelref03_spelled.f k2 ((Q20 t305 x5_2).f1)).bind fun t315 => (if ((x3_2 ++ t309) ++ (⟨#[45]⟩ : ByteArray)).size + t315.size ≤ 9223372036854775807 then (dowelref03_Text.l0 k2 (((x3_2 ++ t309) ++ (⟨#[45]⟩ : ByteArray)) ++ t315) t305 (wrap64 (x5_2 + 1))) else (none))) else (dowelref03_Text.l0 k2 ((x3_2 ++ t309) ++ (⟨#[45]⟩ : ByteArray)) t305 (wrap64 (x5_2 + 1)))) else (none)) else (if ((Q20 t305 x5_2).f1) > ((Q20 t305 x5_2).f0) then ((dowelref03_spelled.f k2 ((Q20 t305 x5_2).f1)).bind fun t319 => (if (x3_2 ++ t309).size + t319.size ≤ 9223372036854775807 then (dowelref03_Text.l0 k2 ((x3_2 ++ t309) ++ t319) t305 (wrap64 (x5_2 + 1))) else (none))) else (dowelref03_Text.l0 k2 (x3_2 ++ t309) t305 (wrap64 (x5_2 + 1))))) else (none)) = some r := H
              have A18 := Aside0.mk A180
              clear A180
              by_cases c19 : x3_2.size + t309.size ≤ 9223372036854775807
              · rw [if_pos c19] at H
                have c19b0 := eq_true c19
                have c19b1 : decide (x3_2.size + t309.size ≤ 9223372036854775807) = true := decide_eq_true c19
                try have c19b2 : (9223372036854775807 < x3_2.size + t309.size) = False := eq_false (Nat.not_lt.2 c19)
                by_cases c20 : ((((Q20 t305 x5_2).f1) - ((Q20 t305 x5_2).f0)) % 256) > 1
                · rw [if_pos c20] at H
                  have c20b0 : decide (1 < ((((Q20 t305 x5_2).f1) - ((Q20 t305 x5_2).f0)) % 256)) = true := decide_eq_true c20
                  clear c20
                  by_cases c21 : (x3_2 ++ t309).size + 1 ≤ 9223372036854775807
                  · rw [if_pos c21] at H
                    have c21b0 := eq_true c21
                    have c21b1 : decide ((x3_2 ++ t309).size + 1 ≤ 9223372036854775807) = true := decide_eq_true c21
                    have c21z : (9223372036854775807 < x3_2.size + t309.size + 1) = False := eq_false (by have h_ := c21; simp only [ByteArray.size_append] at h_; skip; omega)
                    try have c21b2 : (9223372036854775807 < (x3_2 ++ t309).size + 1) = False := eq_false (Nat.not_lt.2 c21)
                    by_cases c22 : ((Q20 t305 x5_2).f1) > ((Q20 t305 x5_2).f0)
                    · rw [if_pos c22] at H
                      have c22b0 : decide (((Q20 t305 x5_2).f0) < ((Q20 t305 x5_2).f1)) = true := decide_eq_true c22
                      clear c22
                      replace H := Option.bind_eq_some_iff.mp H
                      obtain ⟨t315, A230, H⟩ := H
                      replace H : (if ((x3_2 ++ t309) ++ (⟨#[45]⟩ : ByteArray)).size + t315.size ≤ 9223372036854775807 then (dowelref03_Text.l0 k2 (((x3_2 ++ t309) ++ (⟨#[45]⟩ : ByteArray)) ++ t315) t305 (wrap64 (x5_2 + 1))) else (none)) = some r := H
                      have A23 := Aside0.mk A230
                      clear A230
                      by_cases c24 : ((x3_2 ++ t309) ++ (⟨#[45]⟩ : ByteArray)).size + t315.size ≤ 9223372036854775807
                      · rw [if_pos c24] at H
                        have c24b0 := eq_true c24
                        have c24b1 : decide (((x3_2 ++ t309) ++ (⟨#[45]⟩ : ByteArray)).size + t315.size ≤ 9223372036854775807) = true := decide_eq_true c24
                        have c24z : (9223372036854775807 < x3_2.size + t309.size + 1 + t315.size) = False := eq_false (by have h_ := c24; simp only [ByteArray.size_append] at h_; have : (⟨#[45]⟩ : ByteArray).size = 1 := rfl; omega)
                        try have c24b2 : (9223372036854775807 < ((x3_2 ++ t309) ++ (⟨#[45]⟩ : ByteArray)).size + t315.size) = False := eq_false (Nat.not_lt.2 c24)
                        have H' := Aside0.mk H
                        clear H
                        obtain ⟨Ao25, co25, eo25⟩ := Kd.R_slice HO_4.out
                        subst eo25
                        have p308 : 0 ≤ (x5_2 : Int) := of_decide_eq_true (by first | (with_reducible assumption) | assumption)
                        have q308 : x5_2 < (t305.length : Int) := of_decide_eq_true (by first | (with_reducible assumption) | assumption)
                        obtain ⟨ad308, e308, hx308_0, hx308_1⟩ := at_T158 (Kd.R_reads' HO_4.out).2.2 x5_2 p308 q308
                        cases e308
                        replace p308 := eq_true p308
                        replace q308 := eq_true q308
                        go_wp2_with (first | (go_at_call 119; (with_reducible refine (dowelref03_spelled.calls k2 ((Q20 t305 x5_2).f0) t309 _ A18.out).mono ?_); rintro e w26 ⟨rfl, hb⟩; have n0_ := Aside0.mk (Kd.R_below (by (with_reducible repeat (first | apply Kd.R_alloc | apply Kd.R_drewN | apply Kd.R_drew)); exact HO_4.out) hb); have n1_ := Aside0.mk (blk_below (g := gb297) (o := .cells #[.int .u64 x298000_2, .int .u64 x298001_2, .int .u64 x298002_2, .int .u64 x298003_2] 43 (0, 0)) (by (with_reducible repeat (first | refine Q19 ?_ _ | refine Q17 ?_ | refine Q15 ?_ _)); exact BK297.out) hb); have n2_ := Aside0.mk (Q27 (by repeat (first | (with_reducible first | exact HB.out | apply Q9 | apply Q7 | apply Q8 | refine Q14 ?_ GE297.out) | exact HB.out)) hb); clear HO_4; clear BK297; clear HB; have HO_4 := n0_; have BK297 := n1_; have HB := n2_; clear n0_ n1_ n2_; (try clear hb); (try clear hb2); (try clear hk); (try clear hi); have p310 : 0 ≤ (x5_2 : Int) := of_decide_eq_true (by first | (with_reducible assumption) | assumption); have q310 : x5_2 < (t305.length : Int) := of_decide_eq_true (by first | (with_reducible assumption) | assumption); obtain ⟨ad310, e310, hx310_0, hx310_1⟩ := at_T158 (Kd.R_reads' HO_4.out).2.2 x5_2 p310 q310; obtain rfl : ad308 = ad310 := (by injection e310); replace p310 := eq_true p310; replace q310 := eq_true q310; have p311 : 0 ≤ (x5_2 : Int) := of_decide_eq_true (by first | (with_reducible assumption) | assumption); have q311 : x5_2 < (t305.length : Int) := of_decide_eq_true (by first | (with_reducible assumption) | assumption); obtain ⟨ad311, e311, hx311_0, hx311_1⟩ := at_T158 (Kd.R_reads' HO_4.out).2.2 x5_2 p311 q311; obtain rfl : ad308 = ad311 := (by injection e311); replace p311 := eq_true p311; replace q311 := eq_true q311; have p312 : 0 ≤ (x5_2 : Int) := of_decide_eq_true (by first | (with_reducible assumption) | assumption); have q312 : x5_2 < (t305.length : Int) := of_decide_eq_true (by first | (with_reducible assumption) | assumption); obtain ⟨ad312, e312, hx312_0, hx312_1⟩ := at_T158 (Kd.R_reads' HO_4.out).2.2 x5_2 p312 q312; obtain rfl : ad308 = ad312 := (by injection e312); replace p312 := eq_true p312; replace q312 := eq_true q312; have p313 : 0 ≤ (x5_2 : Int) := of_decide_eq_true (by first | (with_reducible assumption) | assumption); have q313 : x5_2 < (t305.length : Int) := of_decide_eq_true (by first | (with_reducible assumption) | assumption); obtain ⟨ad313, e313, hx313_0, hx313_1⟩ := at_T158 (Kd.R_reads' HO_4.out).2.2 x5_2 p313 q313; obtain rfl : ad308 = ad313 := (by injection e313); replace p313 := eq_true p313; replace q313 := eq_true q313; have p314 : 0 ≤ (x5_2 : Int) := of_decide_eq_true (by first | (with_reducible assumption) | assumption); have q314 : x5_2 < (t305.length : Int) := of_decide_eq_true (by first | (with_reducible assumption) | assumption); obtain ⟨ad314, e314, hx314_0, hx314_1⟩ := at_T158 (Kd.R_reads' HO_4.out).2.2 x5_2 p314 q314; obtain rfl : ad308 = ad314 := (by injection e314); replace p314 := eq_true p314; replace q314 := eq_true q314) | (go_at_call 119; (with_reducible refine (dowelref03_spelled.calls k2 ((Q20 t305 x5_2).f1) t315 _ A23.out).mono ?_); rintro e w27 ⟨rfl, hb⟩; have n0_ := Aside0.mk (Kd.R_below (by (with_reducible repeat (first | apply Kd.R_alloc | apply Kd.R_drewN | apply Kd.R_drew)); exact HO_4.out) hb); have n1_ := Aside0.mk (blk_below (g := gb297) (o := .cells #[.int .u64 x298000_2, .int .u64 x298001_2, .int .u64 x298002_2, .int .u64 x298003_2] 43 (0, 0)) (by (with_reducible repeat (first | refine Q19 ?_ _ | refine Q17 ?_ | refine Q15 ?_ _)); exact BK297.out) hb); have n2_ := Aside0.mk (Q27 (by repeat (first | (with_reducible first | exact HB.out | apply Q9 | apply Q7 | apply Q8 | refine Q14 ?_ GE297.out) | exact HB.out)) hb); clear HO_4; clear BK297; clear HB; have HO_4 := n0_; have BK297 := n1_; have HB := n2_; clear n0_ n1_ n2_; (try clear hb); (try clear hb2); (try clear hk); (try clear hi)))
                        repeat (go_quiet (first | (go_at_call 119; (with_reducible refine (dowelref03_spelled.calls k2 ((Q20 t305 x5_2).f0) t309 _ A18.out).mono ?_); rintro e w26 ⟨rfl, hb⟩; have n0_ := Aside0.mk (Kd.R_below (by (with_reducible repeat (first | apply Kd.R_alloc | apply Kd.R_drewN | apply Kd.R_drew)); exact HO_4.out) hb); have n1_ := Aside0.mk (blk_below (g := gb297) (o := .cells #[.int .u64 x298000_2, .int .u64 x298001_2, .int .u64 x298002_2, .int .u64 x298003_2] 43 (0, 0)) (by (with_reducible repeat (first | refine Q19 ?_ _ | refine Q17 ?_ | refine Q15 ?_ _)); exact BK297.out) hb); have n2_ := Aside0.mk (Q27 (by repeat (first | (with_reducible first | exact HB.out | apply Q9 | apply Q7 | apply Q8 | refine Q14 ?_ GE297.out) | exact HB.out)) hb); clear HO_4; clear BK297; clear HB; have HO_4 := n0_; have BK297 := n1_; have HB := n2_; clear n0_ n1_ n2_; (try clear hb); (try clear hb2); (try clear hk); (try clear hi); have p310 : 0 ≤ (x5_2 : Int) := of_decide_eq_true (by first | (with_reducible assumption) | assumption); have q310 : x5_2 < (t305.length : Int) := of_decide_eq_true (by first | (with_reducible assumption) | assumption); obtain ⟨ad310, e310, hx310_0, hx310_1⟩ := at_T158 (Kd.R_reads' HO_4.out).2.2 x5_2 p310 q310; obtain rfl : ad308 = ad310 := (by injection e310); replace p310 := eq_true p310; replace q310 := eq_true q310; have p311 : 0 ≤ (x5_2 : Int) := of_decide_eq_true (by first | (with_reducible assumption) | assumption); have q311 : x5_2 < (t305.length : Int) := of_decide_eq_true (by first | (with_reducible assumption) | assumption); obtain ⟨ad311, e311, hx311_0, hx311_1⟩ := at_T158 (Kd.R_reads' HO_4.out).2.2 x5_2 p311 q311; obtain rfl : ad308 = ad311 := (by injection e311); replace p311 := eq_true p311; replace q311 := eq_true q311; have p312 : 0 ≤ (x5_2 : Int) := of_decide_eq_true (by first | (with_reducible assumption) | assumption); have q312 : x5_2 < (t305.length : Int) := of_decide_eq_true (by first | (with_reducible assumption) | assumption); obtain ⟨ad312, e312, hx312_0, hx312_1⟩ := at_T158 (Kd.R_reads' HO_4.out).2.2 x5_2 p312 q312; obtain rfl : ad308 = ad312 := (by injection e312); replace p312 := eq_true p312; replace q312 := eq_true q312; have p313 : 0 ≤ (x5_2 : Int) := of_decide_eq_true (by first | (with_reducible assumption) | assumption); have q313 : x5_2 < (t305.length : Int) := of_decide_eq_true (by first | (with_reducible assumption) | assumption); obtain ⟨ad313, e313, hx313_0, hx313_1⟩ := at_T158 (Kd.R_reads' HO_4.out).2.2 x5_2 p313 q313; obtain rfl : ad308 = ad313 := (by injection e313); replace p313 := eq_true p313; replace q313 := eq_true q313; have p314 : 0 ≤ (x5_2 : Int) := of_decide_eq_true (by first | (with_reducible assumption) | assumption); have q314 : x5_2 < (t305.length : Int) := of_decide_eq_true (by first | (with_reducible assumption) | assumption); obtain ⟨ad314, e314, hx314_0, hx314_1⟩ := at_T158 (Kd.R_reads' HO_4.out).2.2 x5_2 p314 q314; obtain rfl : ad308 = ad314 := (by injection e314); replace p314 := eq_true p314; replace q314 := eq_true q314) | (go_at_call 119; (with_reducible refine (dowelref03_spelled.calls k2 ((Q20 t305 x5_2).f1) t315 _ A23.out).mono ?_); rintro e w27 ⟨rfl, hb⟩; have n0_ := Aside0.mk (Kd.R_below (by (with_reducible repeat (first | apply Kd.R_alloc | apply Kd.R_drewN | apply Kd.R_drew)); exact HO_4.out) hb); have n1_ := Aside0.mk (blk_below (g := gb297) (o := .cells #[.int .u64 x298000_2, .int .u64 x298001_2, .int .u64 x298002_2, .int .u64 x298003_2] 43 (0, 0)) (by (with_reducible repeat (first | refine Q19 ?_ _ | refine Q17 ?_ | refine Q15 ?_ _)); exact BK297.out) hb); have n2_ := Aside0.mk (Q27 (by repeat (first | (with_reducible first | exact HB.out | apply Q9 | apply Q7 | apply Q8 | refine Q14 ?_ GE297.out) | exact HB.out)) hb); clear HO_4; clear BK297; clear HB; have HO_4 := n0_; have BK297 := n1_; have HB := n2_; clear n0_ n1_ n2_; (try clear hb); (try clear hb2); (try clear hk); (try clear hi))); try go_wp2_with (first | (go_at_call 119; (with_reducible refine (dowelref03_spelled.calls k2 ((Q20 t305 x5_2).f0) t309 _ A18.out).mono ?_); rintro e w26 ⟨rfl, hb⟩; have n0_ := Aside0.mk (Kd.R_below (by (with_reducible repeat (first | apply Kd.R_alloc | apply Kd.R_drewN | apply Kd.R_drew)); exact HO_4.out) hb); have n1_ := Aside0.mk (blk_below (g := gb297) (o := .cells #[.int .u64 x298000_2, .int .u64 x298001_2, .int .u64 x298002_2, .int .u64 x298003_2] 43 (0, 0)) (by (with_reducible repeat (first | refine Q19 ?_ _ | refine Q17 ?_ | refine Q15 ?_ _)); exact BK297.out) hb); have n2_ := Aside0.mk (Q27 (by repeat (first | (with_reducible first | exact HB.out | apply Q9 | apply Q7 | apply Q8 | refine Q14 ?_ GE297.out) | exact HB.out)) hb); clear HO_4; clear BK297; clear HB; have HO_4 := n0_; have BK297 := n1_; have HB := n2_; clear n0_ n1_ n2_; (try clear hb); (try clear hb2); (try clear hk); (try clear hi); have p310 : 0 ≤ (x5_2 : Int) := of_decide_eq_true (by first | (with_reducible assumption) | assumption); have q310 : x5_2 < (t305.length : Int) := of_decide_eq_true (by first | (with_reducible assumption) | assumption); obtain ⟨ad310, e310, hx310_0, hx310_1⟩ := at_T158 (Kd.R_reads' HO_4.out).2.2 x5_2 p310 q310; obtain rfl : ad308 = ad310 := (by injection e310); replace p310 := eq_true p310; replace q310 := eq_true q310; have p311 : 0 ≤ (x5_2 : Int) := of_decide_eq_true (by first | (with_reducible assumption) | assumption); have q311 : x5_2 < (t305.length : Int) := of_decide_eq_true (by first | (with_reducible assumption) | assumption); obtain ⟨ad311, e311, hx311_0, hx311_1⟩ := at_T158 (Kd.R_reads' HO_4.out).2.2 x5_2 p311 q311; obtain rfl : ad308 = ad311 := (by injection e311); replace p311 := eq_true p311; replace q311 := eq_true q311; have p312 : 0 ≤ (x5_2 : Int) := of_decide_eq_true (by first | (with_reducible assumption) | assumption); have q312 : x5_2 < (t305.length : Int) := of_decide_eq_true (by first | (with_reducible assumption) | assumption); obtain ⟨ad312, e312, hx312_0, hx312_1⟩ := at_T158 (Kd.R_reads' HO_4.out).2.2 x5_2 p312 q312; obtain rfl : ad308 = ad312 := (by injection e312); replace p312 := eq_true p312; replace q312 := eq_true q312; have p313 : 0 ≤ (x5_2 : Int) := of_decide_eq_true (by first | (with_reducible assumption) | assumption); have q313 : x5_2 < (t305.length : Int) := of_decide_eq_true (by first | (with_reducible assumption) | assumption); obtain ⟨ad313, e313, hx313_0, hx313_1⟩ := at_T158 (Kd.R_reads' HO_4.out).2.2 x5_2 p313 q313; obtain rfl : ad308 = ad313 := (by injection e313); replace p313 := eq_true p313; replace q313 := eq_true q313; have p314 : 0 ≤ (x5_2 : Int) := of_decide_eq_true (by first | (with_reducible assumption) | assumption); have q314 : x5_2 < (t305.length : Int) := of_decide_eq_true (by first | (with_reducible assumption) | assumption); obtain ⟨ad314, e314, hx314_0, hx314_1⟩ := at_T158 (Kd.R_reads' HO_4.out).2.2 x5_2 p314 q314; obtain rfl : ad308 = ad314 := (by injection e314); replace p314 := eq_true p314; replace q314 := eq_true q314) | (go_at_call 119; (with_reducible refine (dowelref03_spelled.calls k2 ((Q20 t305 x5_2).f1) t315 _ A23.out).mono ?_); rintro e w27 ⟨rfl, hb⟩; have n0_ := Aside0.mk (Kd.R_below (by (with_reducible repeat (first | apply Kd.R_alloc | apply Kd.R_drewN | apply Kd.R_drew)); exact HO_4.out) hb); have n1_ := Aside0.mk (blk_below (g := gb297) (o := .cells #[.int .u64 x298000_2, .int .u64 x298001_2, .int .u64 x298002_2, .int .u64 x298003_2] 43 (0, 0)) (by (with_reducible repeat (first | refine Q19 ?_ _ | refine Q17 ?_ | refine Q15 ?_ _)); exact BK297.out) hb); have n2_ := Aside0.mk (Q27 (by repeat (first | (with_reducible first | exact HB.out | apply Q9 | apply Q7 | apply Q8 | refine Q14 ?_ GE297.out) | exact HB.out)) hb); clear HO_4; clear BK297; clear HB; have HO_4 := n0_; have BK297 := n1_; have HB := n2_; clear n0_ n1_ n2_; (try clear hb); (try clear hb2); (try clear hk); (try clear hi))))
                        go_roundg k2
                        case measure => have := HJ2.out; have := HK2.out; omega
                        case rel => exact ⟨(((x3_2 ++ t309) ++ (⟨#[45]⟩ : ByteArray)) ++ t315), (wrap64 (x5_2 + 1)), (by first | rfl | (simp; done) | (simp [*]; done)), (by first | rfl | (simp; done) | (simp [*]; done)), H', ⟨by have := HJ2.out; have := HK2.out; omega⟩, ⟨by (with_reducible repeat (first | apply Kd.R_alloc | apply Kd.R_drewN | apply Kd.R_drew)); exact HO_4.out⟩, ⟨by (with_reducible repeat (first | refine Q19 ?_ _ | refine Q17 ?_ | refine Q15 ?_ _)); exact BK297.out⟩, ⟨by repeat (first | (with_reducible first | exact HB.out | apply Q9 | apply Q7 | apply Q8 | refine Q14 ?_ GE297.out) | exact HB.out)⟩⟩
                      · rw [if_neg c24] at H
                        exact absurd H (by simp)
                    · rw [if_neg c22] at H
                      have c22b0 : decide (((Q20 t305 x5_2).f0) < ((Q20 t305 x5_2).f1)) = false := decide_eq_false c22
                      clear c22
                      have H' := Aside0.mk H
                      clear H
                      obtain ⟨Ao28, co28, eo28⟩ := Kd.R_slice HO_4.out
                      subst eo28
                      have p308 : 0 ≤ (x5_2 : Int) := of_decide_eq_true (by first | (with_reducible assumption) | assumption)
                      have q308 : x5_2 < (t305.length : Int) := of_decide_eq_true (by first | (with_reducible assumption) | assumption)
                      obtain ⟨ad308, e308, hx308_0, hx308_1⟩ := at_T158 (Kd.R_reads' HO_4.out).2.2 x5_2 p308 q308
                      cases e308
                      replace p308 := eq_true p308
                      replace q308 := eq_true q308
                      go_wp2_with (first | (go_at_call 119; (with_reducible refine (dowelref03_spelled.calls k2 ((Q20 t305 x5_2).f0) t309 _ A18.out).mono ?_); rintro e w29 ⟨rfl, hb⟩; have n0_ := Aside0.mk (Kd.R_below (by (with_reducible repeat (first | apply Kd.R_alloc | apply Kd.R_drewN | apply Kd.R_drew)); exact HO_4.out) hb); have n1_ := Aside0.mk (blk_below (g := gb297) (o := .cells #[.int .u64 x298000_2, .int .u64 x298001_2, .int .u64 x298002_2, .int .u64 x298003_2] 43 (0, 0)) (by (with_reducible repeat (first | refine Q19 ?_ _ | refine Q17 ?_ | refine Q15 ?_ _)); exact BK297.out) hb); have n2_ := Aside0.mk (Q27 (by repeat (first | (with_reducible first | exact HB.out | apply Q9 | apply Q7 | apply Q8 | refine Q14 ?_ GE297.out) | exact HB.out)) hb); clear HO_4; clear BK297; clear HB; have HO_4 := n0_; have BK297 := n1_; have HB := n2_; clear n0_ n1_ n2_; (try clear hb); (try clear hb2); (try clear hk); (try clear hi); have p310 : 0 ≤ (x5_2 : Int) := of_decide_eq_true (by first | (with_reducible assumption) | assumption); have q310 : x5_2 < (t305.length : Int) := of_decide_eq_true (by first | (with_reducible assumption) | assumption); obtain ⟨ad310, e310, hx310_0, hx310_1⟩ := at_T158 (Kd.R_reads' HO_4.out).2.2 x5_2 p310 q310; obtain rfl : ad308 = ad310 := (by injection e310); replace p310 := eq_true p310; replace q310 := eq_true q310; have p311 : 0 ≤ (x5_2 : Int) := of_decide_eq_true (by first | (with_reducible assumption) | assumption); have q311 : x5_2 < (t305.length : Int) := of_decide_eq_true (by first | (with_reducible assumption) | assumption); obtain ⟨ad311, e311, hx311_0, hx311_1⟩ := at_T158 (Kd.R_reads' HO_4.out).2.2 x5_2 p311 q311; obtain rfl : ad308 = ad311 := (by injection e311); replace p311 := eq_true p311; replace q311 := eq_true q311; have p312 : 0 ≤ (x5_2 : Int) := of_decide_eq_true (by first | (with_reducible assumption) | assumption); have q312 : x5_2 < (t305.length : Int) := of_decide_eq_true (by first | (with_reducible assumption) | assumption); obtain ⟨ad312, e312, hx312_0, hx312_1⟩ := at_T158 (Kd.R_reads' HO_4.out).2.2 x5_2 p312 q312; obtain rfl : ad308 = ad312 := (by injection e312); replace p312 := eq_true p312; replace q312 := eq_true q312; have p313 : 0 ≤ (x5_2 : Int) := of_decide_eq_true (by first | (with_reducible assumption) | assumption); have q313 : x5_2 < (t305.length : Int) := of_decide_eq_true (by first | (with_reducible assumption) | assumption); obtain ⟨ad313, e313, hx313_0, hx313_1⟩ := at_T158 (Kd.R_reads' HO_4.out).2.2 x5_2 p313 q313; obtain rfl : ad308 = ad313 := (by injection e313); replace p313 := eq_true p313; replace q313 := eq_true q313))
                      repeat (go_quiet (first | (go_at_call 119; (with_reducible refine (dowelref03_spelled.calls k2 ((Q20 t305 x5_2).f0) t309 _ A18.out).mono ?_); rintro e w29 ⟨rfl, hb⟩; have n0_ := Aside0.mk (Kd.R_below (by (with_reducible repeat (first | apply Kd.R_alloc | apply Kd.R_drewN | apply Kd.R_drew)); exact HO_4.out) hb); have n1_ := Aside0.mk (blk_below (g := gb297) (o := .cells #[.int .u64 x298000_2, .int .u64 x298001_2, .int .u64 x298002_2, .int .u64 x298003_2] 43 (0, 0)) (by (with_reducible repeat (first | refine Q19 ?_ _ | refine Q17 ?_ | refine Q15 ?_ _)); exact BK297.out) hb); have n2_ := Aside0.mk (Q27 (by repeat (first | (with_reducible first | exact HB.out | apply Q9 | apply Q7 | apply Q8 | refine Q14 ?_ GE297.out) | exact HB.out)) hb); clear HO_4; clear BK297; clear HB; have HO_4 := n0_; have BK297 := n1_; have HB := n2_; clear n0_ n1_ n2_; (try clear hb); (try clear hb2); (try clear hk); (try clear hi); have p310 : 0 ≤ (x5_2 : Int) := of_decide_eq_true (by first | (with_reducible assumption) | assumption); have q310 : x5_2 < (t305.length : Int) := of_decide_eq_true (by first | (with_reducible assumption) | assumption); obtain ⟨ad310, e310, hx310_0, hx310_1⟩ := at_T158 (Kd.R_reads' HO_4.out).2.2 x5_2 p310 q310; obtain rfl : ad308 = ad310 := (by injection e310); replace p310 := eq_true p310; replace q310 := eq_true q310; have p311 : 0 ≤ (x5_2 : Int) := of_decide_eq_true (by first | (with_reducible assumption) | assumption); have q311 : x5_2 < (t305.length : Int) := of_decide_eq_true (by first | (with_reducible assumption) | assumption); obtain ⟨ad311, e311, hx311_0, hx311_1⟩ := at_T158 (Kd.R_reads' HO_4.out).2.2 x5_2 p311 q311; obtain rfl : ad308 = ad311 := (by injection e311); replace p311 := eq_true p311; replace q311 := eq_true q311; have p312 : 0 ≤ (x5_2 : Int) := of_decide_eq_true (by first | (with_reducible assumption) | assumption); have q312 : x5_2 < (t305.length : Int) := of_decide_eq_true (by first | (with_reducible assumption) | assumption); obtain ⟨ad312, e312, hx312_0, hx312_1⟩ := at_T158 (Kd.R_reads' HO_4.out).2.2 x5_2 p312 q312; obtain rfl : ad308 = ad312 := (by injection e312); replace p312 := eq_true p312; replace q312 := eq_true q312; have p313 : 0 ≤ (x5_2 : Int) := of_decide_eq_true (by first | (with_reducible assumption) | assumption); have q313 : x5_2 < (t305.length : Int) := of_decide_eq_true (by first | (with_reducible assumption) | assumption); obtain ⟨ad313, e313, hx313_0, hx313_1⟩ := at_T158 (Kd.R_reads' HO_4.out).2.2 x5_2 p313 q313; obtain rfl : ad308 = ad313 := (by injection e313); replace p313 := eq_true p313; replace q313 := eq_true q313)); try go_wp2_with (first | (go_at_call 119; (with_reducible refine (dowelref03_spelled.calls k2 ((Q20 t305 x5_2).f0) t309 _ A18.out).mono ?_); rintro e w29 ⟨rfl, hb⟩; have n0_ := Aside0.mk (Kd.R_below (by (with_reducible repeat (first | apply Kd.R_alloc | apply Kd.R_drewN | apply Kd.R_drew)); exact HO_4.out) hb); have n1_ := Aside0.mk (blk_below (g := gb297) (o := .cells #[.int .u64 x298000_2, .int .u64 x298001_2, .int .u64 x298002_2, .int .u64 x298003_2] 43 (0, 0)) (by (with_reducible repeat (first | refine Q19 ?_ _ | refine Q17 ?_ | refine Q15 ?_ _)); exact BK297.out) hb); have n2_ := Aside0.mk (Q27 (by repeat (first | (with_reducible first | exact HB.out | apply Q9 | apply Q7 | apply Q8 | refine Q14 ?_ GE297.out) | exact HB.out)) hb); clear HO_4; clear BK297; clear HB; have HO_4 := n0_; have BK297 := n1_; have HB := n2_; clear n0_ n1_ n2_; (try clear hb); (try clear hb2); (try clear hk); (try clear hi); have p310 : 0 ≤ (x5_2 : Int) := of_decide_eq_true (by first | (with_reducible assumption) | assumption); have q310 : x5_2 < (t305.length : Int) := of_decide_eq_true (by first | (with_reducible assumption) | assumption); obtain ⟨ad310, e310, hx310_0, hx310_1⟩ := at_T158 (Kd.R_reads' HO_4.out).2.2 x5_2 p310 q310; obtain rfl : ad308 = ad310 := (by injection e310); replace p310 := eq_true p310; replace q310 := eq_true q310; have p311 : 0 ≤ (x5_2 : Int) := of_decide_eq_true (by first | (with_reducible assumption) | assumption); have q311 : x5_2 < (t305.length : Int) := of_decide_eq_true (by first | (with_reducible assumption) | assumption); obtain ⟨ad311, e311, hx311_0, hx311_1⟩ := at_T158 (Kd.R_reads' HO_4.out).2.2 x5_2 p311 q311; obtain rfl : ad308 = ad311 := (by injection e311); replace p311 := eq_true p311; replace q311 := eq_true q311; have p312 : 0 ≤ (x5_2 : Int) := of_decide_eq_true (by first | (with_reducible assumption) | assumption); have q312 : x5_2 < (t305.length : Int) := of_decide_eq_true (by first | (with_reducible assumption) | assumption); obtain ⟨ad312, e312, hx312_0, hx312_1⟩ := at_T158 (Kd.R_reads' HO_4.out).2.2 x5_2 p312 q312; obtain rfl : ad308 = ad312 := (by injection e312); replace p312 := eq_true p312; replace q312 := eq_true q312; have p313 : 0 ≤ (x5_2 : Int) := of_decide_eq_true (by first | (with_reducible assumption) | assumption); have q313 : x5_2 < (t305.length : Int) := of_decide_eq_true (by first | (with_reducible assumption) | assumption); obtain ⟨ad313, e313, hx313_0, hx313_1⟩ := at_T158 (Kd.R_reads' HO_4.out).2.2 x5_2 p313 q313; obtain rfl : ad308 = ad313 := (by injection e313); replace p313 := eq_true p313; replace q313 := eq_true q313)))
                      go_roundg k2
                      case measure => have := HJ2.out; have := HK2.out; omega
                      case rel => exact ⟨((x3_2 ++ t309) ++ (⟨#[45]⟩ : ByteArray)), (wrap64 (x5_2 + 1)), (by first | rfl | (simp; done) | (simp [*]; done)), (by first | rfl | (simp; done) | (simp [*]; done)), H', ⟨by have := HJ2.out; have := HK2.out; omega⟩, ⟨by (with_reducible repeat (first | apply Kd.R_alloc | apply Kd.R_drewN | apply Kd.R_drew)); exact HO_4.out⟩, ⟨by (with_reducible repeat (first | refine Q19 ?_ _ | refine Q17 ?_ | refine Q15 ?_ _)); exact BK297.out⟩, ⟨by repeat (first | (with_reducible first | exact HB.out | apply Q9 | apply Q7 | apply Q8 | refine Q14 ?_ GE297.out) | exact HB.out)⟩⟩
                  · rw [if_neg c21] at H
                    exact absurd H (by simp)
                · rw [if_neg c20] at H
                  have c20b0 : decide (1 < ((((Q20 t305 x5_2).f1) - ((Q20 t305 x5_2).f0)) % 256)) = false := decide_eq_false c20
                  clear c20
                  by_cases c30 : ((Q20 t305 x5_2).f1) > ((Q20 t305 x5_2).f0)
                  · rw [if_pos c30] at H
                    have c30b0 : decide (((Q20 t305 x5_2).f0) < ((Q20 t305 x5_2).f1)) = true := decide_eq_true c30
                    clear c30
                    replace H := Option.bind_eq_some_iff.mp H
                    obtain ⟨t319, A310, H⟩ := H
                    replace H : (if (x3_2 ++ t309).size + t319.size ≤ 9223372036854775807 then (dowelref03_Text.l0 k2 ((x3_2 ++ t309) ++ t319) t305 (wrap64 (x5_2 + 1))) else (none)) = some r := H
                    have A31 := Aside0.mk A310
                    clear A310
                    by_cases c32 : (x3_2 ++ t309).size + t319.size ≤ 9223372036854775807
                    · rw [if_pos c32] at H
                      have c32b0 := eq_true c32
                      have c32b1 : decide ((x3_2 ++ t309).size + t319.size ≤ 9223372036854775807) = true := decide_eq_true c32
                      have c32z : (9223372036854775807 < x3_2.size + t309.size + t319.size) = False := eq_false (by have h_ := c32; simp only [ByteArray.size_append] at h_; skip; omega)
                      try have c32b2 : (9223372036854775807 < (x3_2 ++ t309).size + t319.size) = False := eq_false (Nat.not_lt.2 c32)
                      have H' := Aside0.mk H
                      clear H
                      obtain ⟨Ao33, co33, eo33⟩ := Kd.R_slice HO_4.out
                      subst eo33
                      have p308 : 0 ≤ (x5_2 : Int) := of_decide_eq_true (by first | (with_reducible assumption) | assumption)
                      have q308 : x5_2 < (t305.length : Int) := of_decide_eq_true (by first | (with_reducible assumption) | assumption)
                      obtain ⟨ad308, e308, hx308_0, hx308_1⟩ := at_T158 (Kd.R_reads' HO_4.out).2.2 x5_2 p308 q308
                      cases e308
                      replace p308 := eq_true p308
                      replace q308 := eq_true q308
                      go_wp2_with (first | (go_at_call 119; (with_reducible refine (dowelref03_spelled.calls k2 ((Q20 t305 x5_2).f0) t309 _ A18.out).mono ?_); rintro e w34 ⟨rfl, hb⟩; have n0_ := Aside0.mk (Kd.R_below (by (with_reducible repeat (first | apply Kd.R_alloc | apply Kd.R_drewN | apply Kd.R_drew)); exact HO_4.out) hb); have n1_ := Aside0.mk (blk_below (g := gb297) (o := .cells #[.int .u64 x298000_2, .int .u64 x298001_2, .int .u64 x298002_2, .int .u64 x298003_2] 43 (0, 0)) (by (with_reducible repeat (first | refine Q19 ?_ _ | refine Q17 ?_ | refine Q15 ?_ _)); exact BK297.out) hb); have n2_ := Aside0.mk (Q27 (by repeat (first | (with_reducible first | exact HB.out | apply Q9 | apply Q7 | apply Q8 | refine Q14 ?_ GE297.out) | exact HB.out)) hb); clear HO_4; clear BK297; clear HB; have HO_4 := n0_; have BK297 := n1_; have HB := n2_; clear n0_ n1_ n2_; (try clear hb); (try clear hb2); (try clear hk); (try clear hi); have p310 : 0 ≤ (x5_2 : Int) := of_decide_eq_true (by first | (with_reducible assumption) | assumption); have q310 : x5_2 < (t305.length : Int) := of_decide_eq_true (by first | (with_reducible assumption) | assumption); obtain ⟨ad310, e310, hx310_0, hx310_1⟩ := at_T158 (Kd.R_reads' HO_4.out).2.2 x5_2 p310 q310; obtain rfl : ad308 = ad310 := (by injection e310); replace p310 := eq_true p310; replace q310 := eq_true q310; have p311 : 0 ≤ (x5_2 : Int) := of_decide_eq_true (by first | (with_reducible assumption) | assumption); have q311 : x5_2 < (t305.length : Int) := of_decide_eq_true (by first | (with_reducible assumption) | assumption); obtain ⟨ad311, e311, hx311_0, hx311_1⟩ := at_T158 (Kd.R_reads' HO_4.out).2.2 x5_2 p311 q311; obtain rfl : ad308 = ad311 := (by injection e311); replace p311 := eq_true p311; replace q311 := eq_true q311; have p316 : 0 ≤ (x5_2 : Int) := of_decide_eq_true (by first | (with_reducible assumption) | assumption); have q316 : x5_2 < (t305.length : Int) := of_decide_eq_true (by first | (with_reducible assumption) | assumption); obtain ⟨ad316, e316, hx316_0, hx316_1⟩ := at_T158 (Kd.R_reads' HO_4.out).2.2 x5_2 p316 q316; obtain rfl : ad308 = ad316 := (by injection e316); replace p316 := eq_true p316; replace q316 := eq_true q316; have p317 : 0 ≤ (x5_2 : Int) := of_decide_eq_true (by first | (with_reducible assumption) | assumption); have q317 : x5_2 < (t305.length : Int) := of_decide_eq_true (by first | (with_reducible assumption) | assumption); obtain ⟨ad317, e317, hx317_0, hx317_1⟩ := at_T158 (Kd.R_reads' HO_4.out).2.2 x5_2 p317 q317; obtain rfl : ad308 = ad317 := (by injection e317); replace p317 := eq_true p317; replace q317 := eq_true q317; have p318 : 0 ≤ (x5_2 : Int) := of_decide_eq_true (by first | (with_reducible assumption) | assumption); have q318 : x5_2 < (t305.length : Int) := of_decide_eq_true (by first | (with_reducible assumption) | assumption); obtain ⟨ad318, e318, hx318_0, hx318_1⟩ := at_T158 (Kd.R_reads' HO_4.out).2.2 x5_2 p318 q318; obtain rfl : ad308 = ad318 := (by injection e318); replace p318 := eq_true p318; replace q318 := eq_true q318) | (go_at_call 119; (with_reducible refine (dowelref03_spelled.calls k2 ((Q20 t305 x5_2).f1) t319 _ A31.out).mono ?_); rintro e w35 ⟨rfl, hb⟩; have n0_ := Aside0.mk (Kd.R_below (by (with_reducible repeat (first | apply Kd.R_alloc | apply Kd.R_drewN | apply Kd.R_drew)); exact HO_4.out) hb); have n1_ := Aside0.mk (blk_below (g := gb297) (o := .cells #[.int .u64 x298000_2, .int .u64 x298001_2, .int .u64 x298002_2, .int .u64 x298003_2] 43 (0, 0)) (by (with_reducible repeat (first | refine Q19 ?_ _ | refine Q17 ?_ | refine Q15 ?_ _)); exact BK297.out) hb); have n2_ := Aside0.mk (Q27 (by repeat (first | (with_reducible first | exact HB.out | apply Q9 | apply Q7 | apply Q8 | refine Q14 ?_ GE297.out) | exact HB.out)) hb); clear HO_4; clear BK297; clear HB; have HO_4 := n0_; have BK297 := n1_; have HB := n2_; clear n0_ n1_ n2_; (try clear hb); (try clear hb2); (try clear hk); (try clear hi)))
                      repeat (go_quiet (first | (go_at_call 119; (with_reducible refine (dowelref03_spelled.calls k2 ((Q20 t305 x5_2).f0) t309 _ A18.out).mono ?_); rintro e w34 ⟨rfl, hb⟩; have n0_ := Aside0.mk (Kd.R_below (by (with_reducible repeat (first | apply Kd.R_alloc | apply Kd.R_drewN | apply Kd.R_drew)); exact HO_4.out) hb); have n1_ := Aside0.mk (blk_below (g := gb297) (o := .cells #[.int .u64 x298000_2, .int .u64 x298001_2, .int .u64 x298002_2, .int .u64 x298003_2] 43 (0, 0)) (by (with_reducible repeat (first | refine Q19 ?_ _ | refine Q17 ?_ | refine Q15 ?_ _)); exact BK297.out) hb); have n2_ := Aside0.mk (Q27 (by repeat (first | (with_reducible first | exact HB.out | apply Q9 | apply Q7 | apply Q8 | refine Q14 ?_ GE297.out) | exact HB.out)) hb); clear HO_4; clear BK297; clear HB; have HO_4 := n0_; have BK297 := n1_; have HB := n2_; clear n0_ n1_ n2_; (try clear hb); (try clear hb2); (try clear hk); (try clear hi); have p310 : 0 ≤ (x5_2 : Int) := of_decide_eq_true (by first | (with_reducible assumption) | assumption); have q310 : x5_2 < (t305.length : Int) := of_decide_eq_true (by first | (with_reducible assumption) | assumption); obtain ⟨ad310, e310, hx310_0, hx310_1⟩ := at_T158 (Kd.R_reads' HO_4.out).2.2 x5_2 p310 q310; obtain rfl : ad308 = ad310 := (by injection e310); replace p310 := eq_true p310; replace q310 := eq_true q310; have p311 : 0 ≤ (x5_2 : Int) := of_decide_eq_true (by first | (with_reducible assumption) | assumption); have q311 : x5_2 < (t305.length : Int) := of_decide_eq_true (by first | (with_reducible assumption) | assumption); obtain ⟨ad311, e311, hx311_0, hx311_1⟩ := at_T158 (Kd.R_reads' HO_4.out).2.2 x5_2 p311 q311; obtain rfl : ad308 = ad311 := (by injection e311); replace p311 := eq_true p311; replace q311 := eq_true q311; have p316 : 0 ≤ (x5_2 : Int) := of_decide_eq_true (by first | (with_reducible assumption) | assumption); have q316 : x5_2 < (t305.length : Int) := of_decide_eq_true (by first | (with_reducible assumption) | assumption); obtain ⟨ad316, e316, hx316_0, hx316_1⟩ := at_T158 (Kd.R_reads' HO_4.out).2.2 x5_2 p316 q316; obtain rfl : ad308 = ad316 := (by injection e316); replace p316 := eq_true p316; replace q316 := eq_true q316; have p317 : 0 ≤ (x5_2 : Int) := of_decide_eq_true (by first | (with_reducible assumption) | assumption); have q317 : x5_2 < (t305.length : Int) := of_decide_eq_true (by first | (with_reducible assumption) | assumption); obtain ⟨ad317, e317, hx317_0, hx317_1⟩ := at_T158 (Kd.R_reads' HO_4.out).2.2 x5_2 p317 q317; obtain rfl : ad308 = ad317 := (by injection e317); replace p317 := eq_true p317; replace q317 := eq_true q317; have p318 : 0 ≤ (x5_2 : Int) := of_decide_eq_true (by first | (with_reducible assumption) | assumption); have q318 : x5_2 < (t305.length : Int) := of_decide_eq_true (by first | (with_reducible assumption) | assumption); obtain ⟨ad318, e318, hx318_0, hx318_1⟩ := at_T158 (Kd.R_reads' HO_4.out).2.2 x5_2 p318 q318; obtain rfl : ad308 = ad318 := (by injection e318); replace p318 := eq_true p318; replace q318 := eq_true q318) | (go_at_call 119; (with_reducible refine (dowelref03_spelled.calls k2 ((Q20 t305 x5_2).f1) t319 _ A31.out).mono ?_); rintro e w35 ⟨rfl, hb⟩; have n0_ := Aside0.mk (Kd.R_below (by (with_reducible repeat (first | apply Kd.R_alloc | apply Kd.R_drewN | apply Kd.R_drew)); exact HO_4.out) hb); have n1_ := Aside0.mk (blk_below (g := gb297) (o := .cells #[.int .u64 x298000_2, .int .u64 x298001_2, .int .u64 x298002_2, .int .u64 x298003_2] 43 (0, 0)) (by (with_reducible repeat (first | refine Q19 ?_ _ | refine Q17 ?_ | refine Q15 ?_ _)); exact BK297.out) hb); have n2_ := Aside0.mk (Q27 (by repeat (first | (with_reducible first | exact HB.out | apply Q9 | apply Q7 | apply Q8 | refine Q14 ?_ GE297.out) | exact HB.out)) hb); clear HO_4; clear BK297; clear HB; have HO_4 := n0_; have BK297 := n1_; have HB := n2_; clear n0_ n1_ n2_; (try clear hb); (try clear hb2); (try clear hk); (try clear hi))); try go_wp2_with (first | (go_at_call 119; (with_reducible refine (dowelref03_spelled.calls k2 ((Q20 t305 x5_2).f0) t309 _ A18.out).mono ?_); rintro e w34 ⟨rfl, hb⟩; have n0_ := Aside0.mk (Kd.R_below (by (with_reducible repeat (first | apply Kd.R_alloc | apply Kd.R_drewN | apply Kd.R_drew)); exact HO_4.out) hb); have n1_ := Aside0.mk (blk_below (g := gb297) (o := .cells #[.int .u64 x298000_2, .int .u64 x298001_2, .int .u64 x298002_2, .int .u64 x298003_2] 43 (0, 0)) (by (with_reducible repeat (first | refine Q19 ?_ _ | refine Q17 ?_ | refine Q15 ?_ _)); exact BK297.out) hb); have n2_ := Aside0.mk (Q27 (by repeat (first | (with_reducible first | exact HB.out | apply Q9 | apply Q7 | apply Q8 | refine Q14 ?_ GE297.out) | exact HB.out)) hb); clear HO_4; clear BK297; clear HB; have HO_4 := n0_; have BK297 := n1_; have HB := n2_; clear n0_ n1_ n2_; (try clear hb); (try clear hb2); (try clear hk); (try clear hi); have p310 : 0 ≤ (x5_2 : Int) := of_decide_eq_true (by first | (with_reducible assumption) | assumption); have q310 : x5_2 < (t305.length : Int) := of_decide_eq_true (by first | (with_reducible assumption) | assumption); obtain ⟨ad310, e310, hx310_0, hx310_1⟩ := at_T158 (Kd.R_reads' HO_4.out).2.2 x5_2 p310 q310; obtain rfl : ad308 = ad310 := (by injection e310); replace p310 := eq_true p310; replace q310 := eq_true q310; have p311 : 0 ≤ (x5_2 : Int) := of_decide_eq_true (by first | (with_reducible assumption) | assumption); have q311 : x5_2 < (t305.length : Int) := of_decide_eq_true (by first | (with_reducible assumption) | assumption); obtain ⟨ad311, e311, hx311_0, hx311_1⟩ := at_T158 (Kd.R_reads' HO_4.out).2.2 x5_2 p311 q311; obtain rfl : ad308 = ad311 := (by injection e311); replace p311 := eq_true p311; replace q311 := eq_true q311; have p316 : 0 ≤ (x5_2 : Int) := of_decide_eq_true (by first | (with_reducible assumption) | assumption); have q316 : x5_2 < (t305.length : Int) := of_decide_eq_true (by first | (with_reducible assumption) | assumption); obtain ⟨ad316, e316, hx316_0, hx316_1⟩ := at_T158 (Kd.R_reads' HO_4.out).2.2 x5_2 p316 q316; obtain rfl : ad308 = ad316 := (by injection e316); replace p316 := eq_true p316; replace q316 := eq_true q316; have p317 : 0 ≤ (x5_2 : Int) := of_decide_eq_true (by first | (with_reducible assumption) | assumption); have q317 : x5_2 < (t305.length : Int) := of_decide_eq_true (by first | (with_reducible assumption) | assumption); obtain ⟨ad317, e317, hx317_0, hx317_1⟩ := at_T158 (Kd.R_reads' HO_4.out).2.2 x5_2 p317 q317; obtain rfl : ad308 = ad317 := (by injection e317); replace p317 := eq_true p317; replace q317 := eq_true q317; have p318 : 0 ≤ (x5_2 : Int) := of_decide_eq_true (by first | (with_reducible assumption) | assumption); have q318 : x5_2 < (t305.length : Int) := of_decide_eq_true (by first | (with_reducible assumption) | assumption); obtain ⟨ad318, e318, hx318_0, hx318_1⟩ := at_T158 (Kd.R_reads' HO_4.out).2.2 x5_2 p318 q318; obtain rfl : ad308 = ad318 := (by injection e318); replace p318 := eq_true p318; replace q318 := eq_true q318) | (go_at_call 119; (with_reducible refine (dowelref03_spelled.calls k2 ((Q20 t305 x5_2).f1) t319 _ A31.out).mono ?_); rintro e w35 ⟨rfl, hb⟩; have n0_ := Aside0.mk (Kd.R_below (by (with_reducible repeat (first | apply Kd.R_alloc | apply Kd.R_drewN | apply Kd.R_drew)); exact HO_4.out) hb); have n1_ := Aside0.mk (blk_below (g := gb297) (o := .cells #[.int .u64 x298000_2, .int .u64 x298001_2, .int .u64 x298002_2, .int .u64 x298003_2] 43 (0, 0)) (by (with_reducible repeat (first | refine Q19 ?_ _ | refine Q17 ?_ | refine Q15 ?_ _)); exact BK297.out) hb); have n2_ := Aside0.mk (Q27 (by repeat (first | (with_reducible first | exact HB.out | apply Q9 | apply Q7 | apply Q8 | refine Q14 ?_ GE297.out) | exact HB.out)) hb); clear HO_4; clear BK297; clear HB; have HO_4 := n0_; have BK297 := n1_; have HB := n2_; clear n0_ n1_ n2_; (try clear hb); (try clear hb2); (try clear hk); (try clear hi))))
                      go_roundg k2
                      case measure => have := HJ2.out; have := HK2.out; omega
                      case rel => exact ⟨((x3_2 ++ t309) ++ t319), (wrap64 (x5_2 + 1)), (by first | rfl | (simp; done) | (simp [*]; done)), (by first | rfl | (simp; done) | (simp [*]; done)), H', ⟨by have := HJ2.out; have := HK2.out; omega⟩, ⟨by (with_reducible repeat (first | apply Kd.R_alloc | apply Kd.R_drewN | apply Kd.R_drew)); exact HO_4.out⟩, ⟨by (with_reducible repeat (first | refine Q19 ?_ _ | refine Q17 ?_ | refine Q15 ?_ _)); exact BK297.out⟩, ⟨by repeat (first | (with_reducible first | exact HB.out | apply Q9 | apply Q7 | apply Q8 | refine Q14 ?_ GE297.out) | exact HB.out)⟩⟩
                    · rw [if_neg c32] at H
                      exact absurd H (by simp)
                  · rw [if_neg c30] at H
                    have c30b0 : decide (((Q20 t305 x5_2).f0) < ((Q20 t305 x5_2).f1)) = false := decide_eq_false c30
                    clear c30
                    have H' := Aside0.mk H
                    clear H
                    obtain ⟨Ao36, co36, eo36⟩ := Kd.R_slice HO_4.out
                    subst eo36
                    have p308 : 0 ≤ (x5_2 : Int) := of_decide_eq_true (by first | (with_reducible assumption) | assumption)
                    have q308 : x5_2 < (t305.length : Int) := of_decide_eq_true (by first | (with_reducible assumption) | assumption)
                    obtain ⟨ad308, e308, hx308_0, hx308_1⟩ := at_T158 (Kd.R_reads' HO_4.out).2.2 x5_2 p308 q308
                    cases e308
                    replace p308 := eq_true p308
                    replace q308 := eq_true q308
                    go_wp2_with (first | (go_at_call 119; (with_reducible refine (dowelref03_spelled.calls k2 ((Q20 t305 x5_2).f0) t309 _ A18.out).mono ?_); rintro e w37 ⟨rfl, hb⟩; have n0_ := Aside0.mk (Kd.R_below (by (with_reducible repeat (first | apply Kd.R_alloc | apply Kd.R_drewN | apply Kd.R_drew)); exact HO_4.out) hb); have n1_ := Aside0.mk (blk_below (g := gb297) (o := .cells #[.int .u64 x298000_2, .int .u64 x298001_2, .int .u64 x298002_2, .int .u64 x298003_2] 43 (0, 0)) (by (with_reducible repeat (first | refine Q19 ?_ _ | refine Q17 ?_ | refine Q15 ?_ _)); exact BK297.out) hb); have n2_ := Aside0.mk (Q27 (by repeat (first | (with_reducible first | exact HB.out | apply Q9 | apply Q7 | apply Q8 | refine Q14 ?_ GE297.out) | exact HB.out)) hb); clear HO_4; clear BK297; clear HB; have HO_4 := n0_; have BK297 := n1_; have HB := n2_; clear n0_ n1_ n2_; (try clear hb); (try clear hb2); (try clear hk); (try clear hi); have p310 : 0 ≤ (x5_2 : Int) := of_decide_eq_true (by first | (with_reducible assumption) | assumption); have q310 : x5_2 < (t305.length : Int) := of_decide_eq_true (by first | (with_reducible assumption) | assumption); obtain ⟨ad310, e310, hx310_0, hx310_1⟩ := at_T158 (Kd.R_reads' HO_4.out).2.2 x5_2 p310 q310; obtain rfl : ad308 = ad310 := (by injection e310); replace p310 := eq_true p310; replace q310 := eq_true q310; have p311 : 0 ≤ (x5_2 : Int) := of_decide_eq_true (by first | (with_reducible assumption) | assumption); have q311 : x5_2 < (t305.length : Int) := of_decide_eq_true (by first | (with_reducible assumption) | assumption); obtain ⟨ad311, e311, hx311_0, hx311_1⟩ := at_T158 (Kd.R_reads' HO_4.out).2.2 x5_2 p311 q311; obtain rfl : ad308 = ad311 := (by injection e311); replace p311 := eq_true p311; replace q311 := eq_true q311; have p316 : 0 ≤ (x5_2 : Int) := of_decide_eq_true (by first | (with_reducible assumption) | assumption); have q316 : x5_2 < (t305.length : Int) := of_decide_eq_true (by first | (with_reducible assumption) | assumption); obtain ⟨ad316, e316, hx316_0, hx316_1⟩ := at_T158 (Kd.R_reads' HO_4.out).2.2 x5_2 p316 q316; obtain rfl : ad308 = ad316 := (by injection e316); replace p316 := eq_true p316; replace q316 := eq_true q316; have p317 : 0 ≤ (x5_2 : Int) := of_decide_eq_true (by first | (with_reducible assumption) | assumption); have q317 : x5_2 < (t305.length : Int) := of_decide_eq_true (by first | (with_reducible assumption) | assumption); obtain ⟨ad317, e317, hx317_0, hx317_1⟩ := at_T158 (Kd.R_reads' HO_4.out).2.2 x5_2 p317 q317; obtain rfl : ad308 = ad317 := (by injection e317); replace p317 := eq_true p317; replace q317 := eq_true q317))
                    repeat (go_quiet (first | (go_at_call 119; (with_reducible refine (dowelref03_spelled.calls k2 ((Q20 t305 x5_2).f0) t309 _ A18.out).mono ?_); rintro e w37 ⟨rfl, hb⟩; have n0_ := Aside0.mk (Kd.R_below (by (with_reducible repeat (first | apply Kd.R_alloc | apply Kd.R_drewN | apply Kd.R_drew)); exact HO_4.out) hb); have n1_ := Aside0.mk (blk_below (g := gb297) (o := .cells #[.int .u64 x298000_2, .int .u64 x298001_2, .int .u64 x298002_2, .int .u64 x298003_2] 43 (0, 0)) (by (with_reducible repeat (first | refine Q19 ?_ _ | refine Q17 ?_ | refine Q15 ?_ _)); exact BK297.out) hb); have n2_ := Aside0.mk (Q27 (by repeat (first | (with_reducible first | exact HB.out | apply Q9 | apply Q7 | apply Q8 | refine Q14 ?_ GE297.out) | exact HB.out)) hb); clear HO_4; clear BK297; clear HB; have HO_4 := n0_; have BK297 := n1_; have HB := n2_; clear n0_ n1_ n2_; (try clear hb); (try clear hb2); (try clear hk); (try clear hi); have p310 : 0 ≤ (x5_2 : Int) := of_decide_eq_true (by first | (with_reducible assumption) | assumption); have q310 : x5_2 < (t305.length : Int) := of_decide_eq_true (by first | (with_reducible assumption) | assumption); obtain ⟨ad310, e310, hx310_0, hx310_1⟩ := at_T158 (Kd.R_reads' HO_4.out).2.2 x5_2 p310 q310; obtain rfl : ad308 = ad310 := (by injection e310); replace p310 := eq_true p310; replace q310 := eq_true q310; have p311 : 0 ≤ (x5_2 : Int) := of_decide_eq_true (by first | (with_reducible assumption) | assumption); have q311 : x5_2 < (t305.length : Int) := of_decide_eq_true (by first | (with_reducible assumption) | assumption); obtain ⟨ad311, e311, hx311_0, hx311_1⟩ := at_T158 (Kd.R_reads' HO_4.out).2.2 x5_2 p311 q311; obtain rfl : ad308 = ad311 := (by injection e311); replace p311 := eq_true p311; replace q311 := eq_true q311; have p316 : 0 ≤ (x5_2 : Int) := of_decide_eq_true (by first | (with_reducible assumption) | assumption); have q316 : x5_2 < (t305.length : Int) := of_decide_eq_true (by first | (with_reducible assumption) | assumption); obtain ⟨ad316, e316, hx316_0, hx316_1⟩ := at_T158 (Kd.R_reads' HO_4.out).2.2 x5_2 p316 q316; obtain rfl : ad308 = ad316 := (by injection e316); replace p316 := eq_true p316; replace q316 := eq_true q316; have p317 : 0 ≤ (x5_2 : Int) := of_decide_eq_true (by first | (with_reducible assumption) | assumption); have q317 : x5_2 < (t305.length : Int) := of_decide_eq_true (by first | (with_reducible assumption) | assumption); obtain ⟨ad317, e317, hx317_0, hx317_1⟩ := at_T158 (Kd.R_reads' HO_4.out).2.2 x5_2 p317 q317; obtain rfl : ad308 = ad317 := (by injection e317); replace p317 := eq_true p317; replace q317 := eq_true q317)); try go_wp2_with (first | (go_at_call 119; (with_reducible refine (dowelref03_spelled.calls k2 ((Q20 t305 x5_2).f0) t309 _ A18.out).mono ?_); rintro e w37 ⟨rfl, hb⟩; have n0_ := Aside0.mk (Kd.R_below (by (with_reducible repeat (first | apply Kd.R_alloc | apply Kd.R_drewN | apply Kd.R_drew)); exact HO_4.out) hb); have n1_ := Aside0.mk (blk_below (g := gb297) (o := .cells #[.int .u64 x298000_2, .int .u64 x298001_2, .int .u64 x298002_2, .int .u64 x298003_2] 43 (0, 0)) (by (with_reducible repeat (first | refine Q19 ?_ _ | refine Q17 ?_ | refine Q15 ?_ _)); exact BK297.out) hb); have n2_ := Aside0.mk (Q27 (by repeat (first | (with_reducible first | exact HB.out | apply Q9 | apply Q7 | apply Q8 | refine Q14 ?_ GE297.out) | exact HB.out)) hb); clear HO_4; clear BK297; clear HB; have HO_4 := n0_; have BK297 := n1_; have HB := n2_; clear n0_ n1_ n2_; (try clear hb); (try clear hb2); (try clear hk); (try clear hi); have p310 : 0 ≤ (x5_2 : Int) := of_decide_eq_true (by first | (with_reducible assumption) | assumption); have q310 : x5_2 < (t305.length : Int) := of_decide_eq_true (by first | (with_reducible assumption) | assumption); obtain ⟨ad310, e310, hx310_0, hx310_1⟩ := at_T158 (Kd.R_reads' HO_4.out).2.2 x5_2 p310 q310; obtain rfl : ad308 = ad310 := (by injection e310); replace p310 := eq_true p310; replace q310 := eq_true q310; have p311 : 0 ≤ (x5_2 : Int) := of_decide_eq_true (by first | (with_reducible assumption) | assumption); have q311 : x5_2 < (t305.length : Int) := of_decide_eq_true (by first | (with_reducible assumption) | assumption); obtain ⟨ad311, e311, hx311_0, hx311_1⟩ := at_T158 (Kd.R_reads' HO_4.out).2.2 x5_2 p311 q311; obtain rfl : ad308 = ad311 := (by injection e311); replace p311 := eq_true p311; replace q311 := eq_true q311; have p316 : 0 ≤ (x5_2 : Int) := of_decide_eq_true (by first | (with_reducible assumption) | assumption); have q316 : x5_2 < (t305.length : Int) := of_decide_eq_true (by first | (with_reducible assumption) | assumption); obtain ⟨ad316, e316, hx316_0, hx316_1⟩ := at_T158 (Kd.R_reads' HO_4.out).2.2 x5_2 p316 q316; obtain rfl : ad308 = ad316 := (by injection e316); replace p316 := eq_true p316; replace q316 := eq_true q316; have p317 : 0 ≤ (x5_2 : Int) := of_decide_eq_true (by first | (with_reducible assumption) | assumption); have q317 : x5_2 < (t305.length : Int) := of_decide_eq_true (by first | (with_reducible assumption) | assumption); obtain ⟨ad317, e317, hx317_0, hx317_1⟩ := at_T158 (Kd.R_reads' HO_4.out).2.2 x5_2 p317 q317; obtain rfl : ad308 = ad317 := (by injection e317); replace p317 := eq_true p317; replace q317 := eq_true q317)))
                    go_roundg k2
                    case measure => have := HJ2.out; have := HK2.out; omega
                    case rel => exact ⟨(x3_2 ++ t309), (wrap64 (x5_2 + 1)), (by first | rfl | (simp; done) | (simp [*]; done)), (by first | rfl | (simp; done) | (simp [*]; done)), H', ⟨by have := HJ2.out; have := HK2.out; omega⟩, ⟨by (with_reducible repeat (first | apply Kd.R_alloc | apply Kd.R_drewN | apply Kd.R_drew)); exact HO_4.out⟩, ⟨by (with_reducible repeat (first | refine Q19 ?_ _ | refine Q17 ?_ | refine Q15 ?_ _)); exact BK297.out⟩, ⟨by repeat (first | (with_reducible first | exact HB.out | apply Q9 | apply Q7 | apply Q8 | refine Q14 ?_ GE297.out) | exact HB.out)⟩⟩
              · rw [if_neg c19] at H
                exact absurd H (by simp)
            · rw [if_neg c17] at H
              exact absurd H (by simp)
          · rw [if_neg c16] at H
            have c16b0 : decide (x5_2 < (t305.length : Int)) = false := decide_eq_false c16
            clear c16
            by_cases c38 : x3_2.size + 1 ≤ 9223372036854775807
            · rw [if_pos c38] at H
              have c38b0 := eq_true c38
              have c38b1 : decide (x3_2.size + 1 ≤ 9223372036854775807) = true := decide_eq_true c38
              try have c38b2 : (9223372036854775807 < x3_2.size + 1) = False := eq_false (Nat.not_lt.2 c38)
              obtain rfl := Option.some.inj H
              obtain ⟨Ao39, co39, eo39⟩ := Kd.R_slice HO_4.out
              subst eo39
              go_wp2
              repeat (go_quiet (fail); try go_wp2)
              go_ret
              exact ⟨by first | rfl | (simp [Q24, Q25] <;> rfl) | (simp [*, Q24, Q25] <;> rfl), by repeat (first | (with_reducible first | exact HB.out | apply Q9 | apply Q7 | apply Q8 | refine Q14 ?_ GE297.out) | exact HB.out)⟩
            · rw [if_neg c38] at H
              exact absurd H (by simp)
end Go.Proofs.Ytflkgoggnomehaa.P
