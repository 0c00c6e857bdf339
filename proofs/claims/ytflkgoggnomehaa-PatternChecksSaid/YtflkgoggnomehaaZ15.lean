import Derived.Test.YtflkgoggnomehaaZ3
import Derived.Test.YtflkgoggnomehaaZ8
import Derived.Test.YtflkgoggnomehaaZ10
import Derived.Test.YtflkgoggnomehaaZ13
namespace Go.Proofs.Ytflkgoggnomehaa.P
open Go.RowKit Go.Proofs.YtflkgoggnomehaaW.PrintWords Go.Proofs.YtflkgoggnomehaaW.PrintLast Go.Proofs.YtflkgoggnomehaaW.PrintMore
set_option linter.unusedVariables false
set_option linter.unusedSimpArgs false
def dowelref22_special.l0 : Nat → Int → Int → Option (Bool)
  | 0, _, _ => none
  | k + 1, x0, x3 => if x3 < 11 then (if 0 ≤ x3 then (if (bt (⟨#[92, 124, 42, 43, 63, 40, 41, 91, 93, 46, 126]⟩ : ByteArray) x3) = x0 then (some true) else (dowelref22_special.l0 k x0 (wrap64 (x3 + 1)))) else (none)) else (some false)
def dowelref22_special.f (k : Nat) (a0 : Int) : Option (Bool) := dowelref22_special.l0 k a0 0
theorem dowelref22_special.mono_l : ∀ k, (∀ y0 y1, LeO (dowelref22_special.l0 k y0 y1) (dowelref22_special.l0 (k + 1) y0 y1))
  | 0 => fun _ _ r h => by simp [dowelref22_special.l0] at h
  | k + 1 => by
    have ih0 := dowelref22_special.mono_l k
    · intro y0 y1
      unfold dowelref22_special.l0
      repeat' first
      | (with_reducible exact ih0 _ _)
      | (with_reducible exact LeO.refl _)
      | (with_reducible exact LeO.none _)
      | (with_reducible refine LeO.ite ?_ ?_)
      | (with_reducible refine LeO.bind ?_ (fun _ => ?_))
      | exact ih0 _ _
      | exact LeO.none _
      | refine LeO.ite ?_ ?_
      | refine LeO.bind ?_ (fun _ => ?_)
theorem dowelref22_special.mono : ∀ a0 k, LeO (dowelref22_special.f k a0) (dowelref22_special.f (k + 1) a0) := by
  intro a0 k
  have ih0 := dowelref22_special.mono_l k
  unfold dowelref22_special.f
  repeat' first
      | (with_reducible exact ih0 _ _)
      | (with_reducible exact LeO.refl _)
      | (with_reducible exact LeO.none _)
      | (with_reducible refine LeO.ite ?_ ?_)
      | (with_reducible refine LeO.bind ?_ (fun _ => ?_))
      | exact ih0 _ _
      | exact LeO.none _
      | refine LeO.ite ?_ ?_
      | refine LeO.bind ?_ (fun _ => ?_)
set_option maxHeartbeats 8000000 in
set_option maxRecDepth 100000 in
theorem dowelref22_special.calls (k : Nat) (a0 : Int) (r : Bool) (w : World) (h : dowelref22_special.f k a0 = some r) :
    Calls Try.prog 115 #[.int .u8 a0] w fun e w' => e = .returned (.bool r) ∧ Drawn0 w w' := by
  have H : (dowelref22_special.l0 k a0 0) = some r := h
  clear h
  have H' := Aside0.mk H
  clear H
  go_enter Try.func115, Try.ntmps115
  go_wp2
  go_loopg [3] k (fun kq v3 w' => ∃ (x3_1 : Int), v3 = .int .i64 x3_1 ∧ Aside0 (dowelref22_special.l0 kq a0 x3_1 = some r) ∧ Aside0 (kq ≤ k) ∧ Drawn0 w w')
  case atStart => exact ⟨(0), (by first | rfl | (simp; done) | (simp [*]; done)), H', ⟨Nat.le_refl _⟩, by repeat (first | exact Drawn0.refl _ | apply Drawn0.step)⟩
  case round =>
    clear H'
    try clear c1
    obtain ⟨x3_1, rfl, HA, HK1, ⟨m1, rfl⟩⟩ := hrel
    cases gk with
    | zero => exact absurd HA.out (by simp [dowelref22_special.l0])
    | succ k1 =>
      have H := HA.out
      clear HA
      simp only [dowelref22_special.l0] at H
      by_cases c2 : x3_1 < 11
      · rw [if_pos c2] at H
        have c2b0 : decide (x3_1 < 11) = true := decide_eq_true c2
        clear c2
        by_cases c3 : 0 ≤ x3_1
        · rw [if_pos c3] at H
          have c3b0 : decide (0 ≤ x3_1) = true := decide_eq_true c3
          clear c3
          by_cases c5 : (bt (⟨#[92, 124, 42, 43, 63, 40, 41, 91, 93, 46, 126]⟩ : ByteArray) x3_1) = a0
          · rw [if_pos c5] at H
            have c5b0 : ((bt (⟨#[92, 124, 42, 43, 63, 40, 41, 91, 93, 46, 126]⟩ : ByteArray) x3_1) == a0) = true := beq_iff_eq.mpr c5
            have c5b1 : ((bt (⟨#[92, 124, 42, 43, 63, 40, 41, 91, 93, 46, 126]⟩ : ByteArray) x3_1) != a0) = false := bne_eq_false_iff_eq.mpr c5
            clear c5
            obtain rfl := Option.some.inj H
            have p4 : 0 ≤ (x3_1 : Int) := of_decide_eq_true (by first | (with_reducible assumption) | assumption)
            have q4 : x3_1 < (11 : Int) := of_decide_eq_true (by first | (with_reducible assumption) | assumption)
            have hx4 := bt_at (⟨#[92, 124, 42, 43, 63, 40, 41, 91, 93, 46, 126]⟩ : ByteArray) x3_1
            replace p4 := eq_true p4
            replace q4 := eq_true q4
            go_wp2
            go_ret
            exact ⟨by first | rfl | (simp; done) | (simp [*]; done), by repeat (first | exact Drawn0.refl _ | apply Drawn0.step)⟩
          · rw [if_neg c5] at H
            have c5b0 : ((bt (⟨#[92, 124, 42, 43, 63, 40, 41, 91, 93, 46, 126]⟩ : ByteArray) x3_1) == a0) = false := beq_eq_false_iff_ne.mpr c5
            have c5b1 : ((bt (⟨#[92, 124, 42, 43, 63, 40, 41, 91, 93, 46, 126]⟩ : ByteArray) x3_1) != a0) = true := bne_iff_ne.mpr c5
            have H' := Aside0.mk H
            clear H
            have p4 : 0 ≤ (x3_1 : Int) := of_decide_eq_true (by first | (with_reducible assumption) | assumption)
            have q4 : x3_1 < (11 : Int) := of_decide_eq_true (by first | (with_reducible assumption) | assumption)
            have hx4 := bt_at (⟨#[92, 124, 42, 43, 63, 40, 41, 91, 93, 46, 126]⟩ : ByteArray) x3_1
            replace p4 := eq_true p4
            replace q4 := eq_true q4
            go_wp2
            go_roundg k1
            case measure => have := HK1.out; omega
            case rel => exact ⟨(wrap64 (x3_1 + 1)), (by first | rfl | (simp; done) | (simp [*]; done)), H', ⟨by have := HK1.out; omega⟩, by repeat (first | exact Drawn0.refl _ | apply Drawn0.step)⟩
        · rw [if_neg c3] at H
          exact absurd H (by simp)
      · rw [if_neg c2] at H
        have c2b0 : decide (x3_1 < 11) = false := decide_eq_false c2
        clear c2
        obtain rfl := Option.some.inj H
        go_wp2
        go_ret
        exact ⟨by first | rfl | (simp; done) | (simp [*]; done), by repeat (first | exact Drawn0.refl _ | apply Drawn0.step)⟩
end Go.Proofs.Ytflkgoggnomehaa.P
namespace Go.Proofs.Ytflkgoggnomehaa.P
open Go.RowKit Go.Proofs.YtflkgoggnomehaaW.PrintWords Go.Proofs.YtflkgoggnomehaaW.PrintLast Go.Proofs.YtflkgoggnomehaaW.PrintMore
set_option linter.unusedVariables false
set_option linter.unusedSimpArgs false
def dowelref22_spelled.f (k : Nat) (a0 : Int) : Option (ByteArray) := if a0 = 10 then (some (⟨#[92, 110]⟩ : ByteArray)) else (if a0 = 13 then (some (⟨#[92, 114]⟩ : ByteArray)) else (if a0 = 9 then (some (⟨#[92, 116]⟩ : ByteArray)) else ((dowelref22_special.f k a0).bind fun t280 => (if t280 = true then ((some (([a0] : List Int) : List Int)).bind fun y281 => (if 1 + (strOfNums y281).size ≤ 9223372036854775807 then (some ((⟨#[92]⟩ : ByteArray) ++ (strOfNums y281))) else (none))) else (if a0 ≥ 32 then (if a0 ≤ 126 then (some (strOfNums (([a0] : List Int)))) else ((dowelref03_Hex.f a0).bind fun t287 => (if 2 + t287.size ≤ 9223372036854775807 then (some ((⟨#[92, 120]⟩ : ByteArray) ++ t287)) else (none)))) else ((dowelref03_Hex.f a0).bind fun t288 => (if 2 + t288.size ≤ 9223372036854775807 then (some ((⟨#[92, 120]⟩ : ByteArray) ++ t288)) else (none))))))))
theorem dowelref22_spelled.mono : ∀ a0 k, LeO (dowelref22_spelled.f k a0) (dowelref22_spelled.f (k + 1) a0) := by
  intro a0 k
  unfold dowelref22_spelled.f
  repeat' first
      | (with_reducible exact dowelref22_special.mono _ _)
      | (with_reducible exact LeO.refl _)
      | (with_reducible exact LeO.none _)
      | (with_reducible refine LeO.ite ?_ ?_)
      | (with_reducible refine LeO.bind ?_ (fun _ => ?_))
      | exact dowelref22_special.mono _ _
      | exact LeO.none _
      | refine LeO.ite ?_ ?_
      | refine LeO.bind ?_ (fun _ => ?_)
set_option maxHeartbeats 8000000 in
set_option maxRecDepth 100000 in
theorem dowelref22_spelled.calls (k : Nat) (a0 : Int) (r : ByteArray) (w : World) (h : dowelref22_spelled.f k a0 = some r) :
    Calls Try.prog 95 #[.int .u8 a0] w fun e w' => e = .returned (.string r) ∧ Below w.heap.size w w' := by
  have HB := Aside0.mk (Below.refl w.heap.size w)
  have H : (if a0 = 10 then (some (⟨#[92, 110]⟩ : ByteArray)) else (if a0 = 13 then (some (⟨#[92, 114]⟩ : ByteArray)) else (if a0 = 9 then (some (⟨#[92, 116]⟩ : ByteArray)) else ((dowelref22_special.f k a0).bind fun t280 => (if t280 = true then ((some (([a0] : List Int) : List Int)).bind fun y281 => (if 1 + (strOfNums y281).size ≤ 9223372036854775807 then (some ((⟨#[92]⟩ : ByteArray) ++ (strOfNums y281))) else (none))) else (if a0 ≥ 32 then (if a0 ≤ 126 then (some (strOfNums (([a0] : List Int)))) else ((dowelref03_Hex.f a0).bind fun t287 => (if 2 + t287.size ≤ 9223372036854775807 then (some ((⟨#[92, 120]⟩ : ByteArray) ++ t287)) else (none)))) else ((dowelref03_Hex.f a0).bind fun t288 => (if 2 + t288.size ≤ 9223372036854775807 then (some ((⟨#[92, 120]⟩ : ByteArray) ++ t288)) else (none))))))))) = some r := h
  clear h
  by_cases c2 : a0 = 10
  · rw [if_pos c2] at H
    have c2b0 : (a0 == 10) = true := beq_iff_eq.mpr c2
    have c2b1 : (a0 != 10) = false := bne_eq_false_iff_eq.mpr c2
    clear c2
    obtain rfl := Option.some.inj H
    go_enter Try.func95, Try.ntmps95
    go_wp2
    go_ret
    exact ⟨by first | rfl | (simp [Q24, Q25] <;> rfl) | (simp [*, Q24, Q25] <;> rfl), by repeat (first | (with_reducible first | exact HB.out | apply Q9 | apply Q7 | apply Q8) | exact HB.out)⟩
  · rw [if_neg c2] at H
    have c2b0 : (a0 == 10) = false := beq_eq_false_iff_ne.mpr c2
    have c2b1 : (a0 != 10) = true := bne_iff_ne.mpr c2
    by_cases c3 : a0 = 13
    · rw [if_pos c3] at H
      have c3b0 : (a0 == 13) = true := beq_iff_eq.mpr c3
      have c3b1 : (a0 != 13) = false := bne_eq_false_iff_eq.mpr c3
      clear c3
      obtain rfl := Option.some.inj H
      go_enter Try.func95, Try.ntmps95
      go_wp2
      go_ret
      exact ⟨by first | rfl | (simp [Q24, Q25] <;> rfl) | (simp [*, Q24, Q25] <;> rfl), by repeat (first | (with_reducible first | exact HB.out | apply Q9 | apply Q7 | apply Q8) | exact HB.out)⟩
    · rw [if_neg c3] at H
      have c3b0 : (a0 == 13) = false := beq_eq_false_iff_ne.mpr c3
      have c3b1 : (a0 != 13) = true := bne_iff_ne.mpr c3
      by_cases c4 : a0 = 9
      · rw [if_pos c4] at H
        have c4b0 : (a0 == 9) = true := beq_iff_eq.mpr c4
        have c4b1 : (a0 != 9) = false := bne_eq_false_iff_eq.mpr c4
        clear c4
        obtain rfl := Option.some.inj H
        go_enter Try.func95, Try.ntmps95
        go_wp2
        go_ret
        exact ⟨by first | rfl | (simp [Q24, Q25] <;> rfl) | (simp [*, Q24, Q25] <;> rfl), by repeat (first | (with_reducible first | exact HB.out | apply Q9 | apply Q7 | apply Q8) | exact HB.out)⟩
      · rw [if_neg c4] at H
        have c4b0 : (a0 == 9) = false := beq_eq_false_iff_ne.mpr c4
        have c4b1 : (a0 != 9) = true := bne_iff_ne.mpr c4
        replace H := Option.bind_eq_some_iff.mp H
        obtain ⟨t280, A50, H⟩ := H
        replace H : (if t280 = true then ((some (([a0] : List Int) : List Int)).bind fun y281 => (if 1 + (strOfNums y281).size ≤ 9223372036854775807 then (some ((⟨#[92]⟩ : ByteArray) ++ (strOfNums y281))) else (none))) else (if a0 ≥ 32 then (if a0 ≤ 126 then (some (strOfNums (([a0] : List Int)))) else ((dowelref03_Hex.f a0).bind fun t287 => (if 2 + t287.size ≤ 9223372036854775807 then (some ((⟨#[92, 120]⟩ : ByteArray) ++ t287)) else (none)))) else ((dowelref03_Hex.f a0).bind fun t288 => (if 2 + t288.size ≤ 9223372036854775807 then (some ((⟨#[92, 120]⟩ : ByteArray) ++ t288)) else (none))))) = some r := H
        have A5 := Aside0.mk A50
        clear A50
        by_cases c6 : t280 = true
        · subst c6
          have H1 : ((some (([a0] : List Int) : List Int)).bind fun y281 => (if 1 + (strOfNums y281).size ≤ 9223372036854775807 then (some ((⟨#[92]⟩ : ByteArray) ++ (strOfNums y281))) else (none))) = some r := by rw [if_pos rfl] at H; exact H
          clear H
          have H := H1
          clear H1
          obtain ⟨y281, hy281⟩ : ∃ y_ : List Int, y_ = (([a0] : List Int)) := ⟨_, rfl⟩
          replace H : (if 1 + (strOfNums y281).size ≤ 9223372036854775807 then (some ((⟨#[92]⟩ : ByteArray) ++ (strOfNums y281))) else (none)) = some r := by first | (rw [hy281]; with_reducible exact H) | (have H2_ := (Option.bind_some _ _).symm.trans H; rw [hy281]; with_reducible exact H2_) | (have H2_ := (Option.bind_some _ _).symm.trans H; with_reducible exact H2_) | with_reducible exact H | (rw [hy281]; exact H) | exact H
          have Ny281 := Aside0.mk hy281
          clear hy281
          by_cases c7 : 1 + (strOfNums y281).size ≤ 9223372036854775807
          · rw [if_pos c7] at H
            have c7b0 := eq_true c7
            have c7b1 : decide (1 + (strOfNums y281).size ≤ 9223372036854775807) = true := decide_eq_true c7
            try have c7b2 : (9223372036854775807 < 1 + (strOfNums y281).size) = False := eq_false (Nat.not_lt.2 c7)
            obtain rfl := Option.some.inj H
            go_enter Try.func95, Try.ntmps95
            go_wp2_with (first | ((with_reducible refine gate_callee (f := 115) rfl ?_); refine goesL_ (some 14) rfl rfl Try.func115 (by kernel_rfl) rfl #[.int .u8 a0] rfl (by (try simp only [List.map_toArray, List.map_cons, List.map_nil]); first | done | rfl | (simp only [List.length_drop, List.length_take]; rfl)) ?_; (with_reducible refine (dowelref22_special.calls k a0 true _ A5.out).mono ?_); rintro e w' ⟨rfl, ⟨nd, rfl⟩⟩; refine ⟨_, rfl, ?_⟩) | ((with_reducible refine gate_dst (N := 16) rfl ?_); refine Kd.R_lit (Kd.int .u8) _ 5 ?hg (N := 16) ?hd (xs := ([a0] : List Int)) (inner := [.int .u8 a0]) (ok := fun _ => True) (okp := fun _ => True) ?hr ?hp (fun _ hk => hk) trivial (Below.refl _ _) (Nat.le_refl _) (by simp) ?_; (case hd => rfl); (case hg => rfl); (case hr => first | (go_simp; done) | (go_simp; rfl)); (case hp => exact (Reps.one (show Kd.M (Kd.int .u8) _ _ _ a0 [.int .u8 a0] from rfl) (Reps.none _ _))); intro v282 w8 ho9 hb hg_ hnew_; clear hg_ hnew_; (first | rw [← Ny281.out] at ho9 | (simp only [Int.reduceToNat] at ho9; rw [← Ny281.out] at ho9)); have n0_ := Aside0.mk (Kd.R_lower ho9 (Q23 (by repeat (first | (with_reducible first | exact HB.out | apply Q9 | apply Q7 | apply Q8) | exact HB.out)))); have n1_ := Aside0.mk (Q27 (by repeat (first | (with_reducible first | exact HB.out | apply Q9 | apply Q7 | apply Q8) | exact HB.out)) hb); clear HB; have HO283 := n0_; have HB := n1_; clear n0_ n1_; clear hb ho9; have hcv10 := own_string (P := Try.prog) Try.underlying71 Try.underlying5 Try.underlying9 (Kd.own_of_R HO283.out); have hcw11 := fun n_ : Nat => own_string (P := Try.prog) Try.underlying71 Try.underlying5 Try.underlying9 (Kd.own_of_R (Kd.R_drewN HO283.out n_))))
            go_ret
            exact ⟨by first | rfl | (simp [Q24, Q25] <;> rfl) | (simp [*, Q24, Q25] <;> rfl), by repeat (first | (with_reducible first | exact HB.out | apply Q9 | apply Q7 | apply Q8) | exact HB.out)⟩
          · rw [if_neg c7] at H
            exact absurd H (by simp)
        · replace c6 := Bool.eq_false_iff.mpr c6
          subst c6
          have H1 : (if a0 ≥ 32 then (if a0 ≤ 126 then (some (strOfNums (([a0] : List Int)))) else ((dowelref03_Hex.f a0).bind fun t287 => (if 2 + t287.size ≤ 9223372036854775807 then (some ((⟨#[92, 120]⟩ : ByteArray) ++ t287)) else (none)))) else ((dowelref03_Hex.f a0).bind fun t288 => (if 2 + t288.size ≤ 9223372036854775807 then (some ((⟨#[92, 120]⟩ : ByteArray) ++ t288)) else (none)))) = some r := by rw [if_neg (show ¬ (false = true) by decide)] at H; exact H
          clear H
          have H := H1
          clear H1
          by_cases c12 : a0 ≥ 32
          · rw [if_pos c12] at H
            have c12b0 : decide (32 ≤ a0) = true := decide_eq_true c12
            clear c12
            by_cases c13 : a0 ≤ 126
            · rw [if_pos c13] at H
              have c13b0 : decide (a0 ≤ 126) = true := decide_eq_true c13
              clear c13
              obtain ⟨y284, hy284⟩ : ∃ y_ : List Int, y_ = (([a0] : List Int)) := ⟨_, rfl⟩
              replace H : (some (strOfNums y284)) = some r := by first | (rw [hy284]; with_reducible exact H) | (have H2_ := (Option.bind_some _ _).symm.trans H; rw [hy284]; with_reducible exact H2_) | (have H2_ := (Option.bind_some _ _).symm.trans H; with_reducible exact H2_) | with_reducible exact H | (rw [hy284]; exact H) | exact H
              have Ny284 := Aside0.mk hy284
              clear hy284
              obtain rfl := Option.some.inj H
              go_enter Try.func95, Try.ntmps95
              go_wp2_with (first | ((with_reducible refine gate_callee (f := 115) rfl ?_); refine goesL_ (some 14) rfl rfl Try.func115 (by kernel_rfl) rfl #[.int .u8 a0] rfl (by (try simp only [List.map_toArray, List.map_cons, List.map_nil]); first | done | rfl | (simp only [List.length_drop, List.length_take]; rfl)) ?_; (with_reducible refine (dowelref22_special.calls k a0 false _ A5.out).mono ?_); rintro e w' ⟨rfl, ⟨nd, rfl⟩⟩; refine ⟨_, rfl, ?_⟩) | ((with_reducible refine gate_dst (N := 27) rfl ?_); refine Kd.R_lit (Kd.int .u8) _ 5 ?hg (N := 27) ?hd (xs := ([a0] : List Int)) (inner := [.int .u8 a0]) (ok := fun _ => True) (okp := fun _ => True) ?hr ?hp (fun _ hk => hk) trivial (Below.refl _ _) (Nat.le_refl _) (by simp) ?_; (case hd => rfl); (case hg => rfl); (case hr => first | (go_simp; done) | (go_simp; rfl)); (case hp => exact (Reps.one (show Kd.M (Kd.int .u8) _ _ _ a0 [.int .u8 a0] from rfl) (Reps.none _ _))); intro v285 w14 ho15 hb hg_ hnew_; clear hg_ hnew_; (first | rw [← Ny284.out] at ho15 | (simp only [Int.reduceToNat] at ho15; rw [← Ny284.out] at ho15)); have n0_ := Aside0.mk (Kd.R_lower ho15 (Q23 (by repeat (first | (with_reducible first | exact HB.out | apply Q9 | apply Q7 | apply Q8) | exact HB.out)))); have n1_ := Aside0.mk (Q27 (by repeat (first | (with_reducible first | exact HB.out | apply Q9 | apply Q7 | apply Q8) | exact HB.out)) hb); clear HB; have HO286 := n0_; have HB := n1_; clear n0_ n1_; clear hb ho15; have hcv16 := own_string (P := Try.prog) Try.underlying71 Try.underlying5 Try.underlying9 (Kd.own_of_R HO286.out); have hcw17 := fun n_ : Nat => own_string (P := Try.prog) Try.underlying71 Try.underlying5 Try.underlying9 (Kd.own_of_R (Kd.R_drewN HO286.out n_))))
              go_ret
              exact ⟨by first | rfl | (simp [Q24, Q25] <;> rfl) | (simp [*, Q24, Q25] <;> rfl), by repeat (first | (with_reducible first | exact HB.out | apply Q9 | apply Q7 | apply Q8) | exact HB.out)⟩
            · rw [if_neg c13] at H
              have c13b0 : decide (a0 ≤ 126) = false := decide_eq_false c13
              clear c13
              replace H := Option.bind_eq_some_iff.mp H
              obtain ⟨t287, A180, H⟩ := H
              replace H : (if 2 + t287.size ≤ 9223372036854775807 then (some ((⟨#[92, 120]⟩ : ByteArray) ++ t287)) else (none)) = some r := H
              have A18 := Aside0.mk A180
              clear A180
              by_cases c19 : 2 + t287.size ≤ 9223372036854775807
              · rw [if_pos c19] at H
                have c19b0 := eq_true c19
                have c19b1 : decide (2 + t287.size ≤ 9223372036854775807) = true := decide_eq_true c19
                try have c19b2 : (9223372036854775807 < 2 + t287.size) = False := eq_false (Nat.not_lt.2 c19)
                obtain rfl := Option.some.inj H
                go_enter Try.func95, Try.ntmps95
                go_wp2_with (first | ((with_reducible refine gate_callee (f := 115) rfl ?_); refine goesL_ (some 14) rfl rfl Try.func115 (by kernel_rfl) rfl #[.int .u8 a0] rfl (by (try simp only [List.map_toArray, List.map_cons, List.map_nil]); first | done | rfl | (simp only [List.length_drop, List.length_take]; rfl)) ?_; (with_reducible refine (dowelref22_special.calls k a0 false _ A5.out).mono ?_); rintro e w' ⟨rfl, ⟨nd, rfl⟩⟩; refine ⟨_, rfl, ?_⟩) | ((with_reducible refine gate_callee (f := 116) rfl ?_); refine goesL_ (some 30) rfl rfl Try.func116 (by kernel_rfl) rfl #[.int .u8 a0] rfl (by (try simp only [List.map_toArray, List.map_cons, List.map_nil]); first | done | rfl | (simp only [List.length_drop, List.length_take]; rfl)) ?_; (with_reducible refine (dowelref03_Hex.calls a0 t287 _ A18.out).mono ?_); rintro e w' ⟨rfl, ⟨nd, rfl⟩⟩; refine ⟨_, rfl, ?_⟩))
                go_ret
                exact ⟨by first | rfl | (simp [Q24, Q25] <;> rfl) | (simp [*, Q24, Q25] <;> rfl), by repeat (first | (with_reducible first | exact HB.out | apply Q9 | apply Q7 | apply Q8) | exact HB.out)⟩
              · rw [if_neg c19] at H
                exact absurd H (by simp)
          · rw [if_neg c12] at H
            have c12b0 : decide (32 ≤ a0) = false := decide_eq_false c12
            clear c12
            replace H := Option.bind_eq_some_iff.mp H
            obtain ⟨t288, A200, H⟩ := H
            replace H : (if 2 + t288.size ≤ 9223372036854775807 then (some ((⟨#[92, 120]⟩ : ByteArray) ++ t288)) else (none)) = some r := H
            have A20 := Aside0.mk A200
            clear A200
            by_cases c21 : 2 + t288.size ≤ 9223372036854775807
            · rw [if_pos c21] at H
              have c21b0 := eq_true c21
              have c21b1 : decide (2 + t288.size ≤ 9223372036854775807) = true := decide_eq_true c21
              try have c21b2 : (9223372036854775807 < 2 + t288.size) = False := eq_false (Nat.not_lt.2 c21)
              obtain rfl := Option.some.inj H
              go_enter Try.func95, Try.ntmps95
              go_wp2_with (first | ((with_reducible refine gate_callee (f := 115) rfl ?_); refine goesL_ (some 14) rfl rfl Try.func115 (by kernel_rfl) rfl #[.int .u8 a0] rfl (by (try simp only [List.map_toArray, List.map_cons, List.map_nil]); first | done | rfl | (simp only [List.length_drop, List.length_take]; rfl)) ?_; (with_reducible refine (dowelref22_special.calls k a0 false _ A5.out).mono ?_); rintro e w' ⟨rfl, ⟨nd, rfl⟩⟩; refine ⟨_, rfl, ?_⟩) | ((with_reducible refine gate_callee (f := 116) rfl ?_); refine goesL_ (some 30) rfl rfl Try.func116 (by kernel_rfl) rfl #[.int .u8 a0] rfl (by (try simp only [List.map_toArray, List.map_cons, List.map_nil]); first | done | rfl | (simp only [List.length_drop, List.length_take]; rfl)) ?_; (with_reducible refine (dowelref03_Hex.calls a0 t288 _ A20.out).mono ?_); rintro e w' ⟨rfl, ⟨nd, rfl⟩⟩; refine ⟨_, rfl, ?_⟩))
              go_ret
              exact ⟨by first | rfl | (simp [Q24, Q25] <;> rfl) | (simp [*, Q24, Q25] <;> rfl), by repeat (first | (with_reducible first | exact HB.out | apply Q9 | apply Q7 | apply Q8) | exact HB.out)⟩
            · rw [if_neg c21] at H
              exact absurd H (by simp)
end Go.Proofs.Ytflkgoggnomehaa.P
namespace Go.Proofs.Ytflkgoggnomehaa.P
open Go.RowKit Go.Proofs.YtflkgoggnomehaaW.PrintWords Go.Proofs.YtflkgoggnomehaaW.PrintLast Go.Proofs.YtflkgoggnomehaaW.PrintMore
set_option linter.unusedVariables false
set_option linter.unusedSimpArgs false
def dowelref22_atom.f (k : Nat) (a0_0 : Int) (a0_1 : Int) (a0_2 : Int) (a0_3 : Int) : Option (ByteArray) := (dowelref03_Bytes.f a0_0 a0_1 a0_2 a0_3).bind fun t321 => (if (t321.length : Int) = 1 then (if 0 < (t321.length : Int) then ((dowelref22_spelled.f k (rd t321 0)).bind fun t325 => (some t325)) else (none)) else (if (t321.length : Int) = 256 then (some (⟨#[46]⟩ : ByteArray)) else ((dowelref03_Text.f k a0_0 a0_1 a0_2 a0_3).bind fun t326 => (some t326))))
set_option maxHeartbeats 8000000 in
set_option maxRecDepth 100000 in
theorem dowelref22_atom.calls (k : Nat) (a0_0 : Int) (a0_1 : Int) (a0_2 : Int) (a0_3 : Int) (r : ByteArray) (w : World) (h : dowelref22_atom.f k a0_0 a0_1 a0_2 a0_3 = some r) :
    Calls Try.prog 68 #[.agg #[.int .u64 a0_0, .int .u64 a0_1, .int .u64 a0_2, .int .u64 a0_3]] w fun e w' => e = .returned (.string r) ∧ Below w.heap.size w w' := by
  have hu43 := Try.underlying43
  have HB := Aside0.mk (Below.refl w.heap.size w)
  have H : ((dowelref03_Bytes.f a0_0 a0_1 a0_2 a0_3).bind fun t321 => (if (t321.length : Int) = 1 then (if 0 < (t321.length : Int) then ((dowelref22_spelled.f k (rd t321 0)).bind fun t325 => (some t325)) else (none)) else (if (t321.length : Int) = 256 then (some (⟨#[46]⟩ : ByteArray)) else ((dowelref03_Text.f k a0_0 a0_1 a0_2 a0_3).bind fun t326 => (some t326))))) = some r := h
  clear h
  replace H := Option.bind_eq_some_iff.mp H
  obtain ⟨t321, A20, H⟩ := H
  replace H : (if (t321.length : Int) = 1 then (if 0 < (t321.length : Int) then ((dowelref22_spelled.f k (rd t321 0)).bind fun t325 => (some t325)) else (none)) else (if (t321.length : Int) = 256 then (some (⟨#[46]⟩ : ByteArray)) else ((dowelref03_Text.f k a0_0 a0_1 a0_2 a0_3).bind fun t326 => (some t326)))) = some r := H
  have A2 := Aside0.mk A20
  clear A20
  by_cases c3 : (t321.length : Int) = 1
  · rw [if_pos c3] at H
    have c3b0 : ((t321.length : Int) == 1) = true := beq_iff_eq.mpr c3
    have c3b1 : ((t321.length : Int) != 1) = false := bne_eq_false_iff_eq.mpr c3
    clear c3
    by_cases c4 : 0 < (t321.length : Int)
    · rw [if_pos c4] at H
      have c4b0 : decide (0 < (t321.length : Int)) = true := decide_eq_true c4
      have c4b1 : decide (0 < t321.length) = true := decide_eq_true (by omega)
      clear c4
      replace H := Option.bind_eq_some_iff.mp H
      obtain ⟨t325, A50, H⟩ := H
      replace H : (some t325) = some r := H
      have A5 := Aside0.mk A50
      clear A50
      obtain rfl := Option.some.inj H
      go_enter Try.func68, Try.ntmps68
      go_wp2_with (first | ((with_reducible refine gate_dst (N := 1) rfl ?_); refine box_event ?hg (N := 1) ?hd (cs := #[.int .u64 a0_0, .int .u64 a0_1, .int .u64 a0_2, .int .u64 a0_3]) (t := 43) ?hr ?_; (case hd => rfl); (case hg => rfl); (case hr => first | (go_simp; done) | (go_simp; rfl)); intro gb320 hg w6 hbox hb; have n0_ := Aside0.mk (Q27 (by repeat (first | (with_reducible first | exact HB.out | apply Q9 | apply Q7 | apply Q8) | exact HB.out)) hb); have n1_ := Aside0.mk (hbox); have n2_ := Aside0.mk ((by rw [hg]; exact (Q23 (by repeat (first | (with_reducible first | exact HB.out | apply Q9 | apply Q7 | apply Q8) | exact HB.out))) : w.heap.size ≤ gb320)); have n3_ := Aside0.mk ((by rw [hg]; exact (Q23 (by repeat (first | (with_reducible first | exact HB.out | apply Q9 | apply Q7 | apply Q8) | exact HB.out))) : w.heap.size ≤ gb320)); clear HB; have HB := n0_; have BK320 := n1_; have GW320 := n2_; have GE320 := n3_; clear n0_ n1_ n2_ n3_; clear hb hbox hg; have hcz7_0 : w6.cell? ⟨gb320, 0, none⟩ = some (.int .u64 a0_0) := (Q10 BK320.out 0).trans rfl; have hcz7_1 : w6.cell? ⟨gb320, 1, none⟩ = some (.int .u64 a0_1) := (Q10 BK320.out 1).trans rfl; have hcz7_2 : w6.cell? ⟨gb320, 2, none⟩ = some (.int .u64 a0_2) := (Q10 BK320.out 2).trans rfl; have hcz7_3 : w6.cell? ⟨gb320, 3, none⟩ = some (.int .u64 a0_3) := (Q10 BK320.out 3).trans rfl; have hfz7_0 := Q11 BK320.out 0; have hfz7_1 := Q11 BK320.out 1; have hfz7_2 := Q11 BK320.out 2; have hfz7_3 := Q11 BK320.out 3) | ((with_reducible refine gate_callee (f := 94) rfl ?_); refine goesL_ (some 5) rfl rfl Try.func94 (by kernel_rfl) rfl #[.agg #[.int .u64 a0_0, .int .u64 a0_1, .int .u64 a0_2, .int .u64 a0_3]] rfl (by (try simp only [List.map_toArray, List.map_cons, List.map_nil]); first | done | rfl | (simp only [List.length_drop, List.length_take]; rfl)) ?_; (with_reducible refine (dowelref03_Bytes.calls a0_0 a0_1 a0_2 a0_3 t321 _ A2.out).mono ?_); rintro e w8 ⟨v322, rfl, ho0, hb⟩; refine ⟨_, rfl, ?_⟩; have n0_ := Aside0.mk (Kd.R_lower ho0 (Q23 (by repeat (first | (with_reducible first | exact HB.out | apply Q9 | apply Q7 | apply Q8 | refine Q14 ?_ GE320.out) | exact HB.out)))); have n1_ := Aside0.mk (blk_below (g := gb320) (o := .cells #[.int .u64 a0_0, .int .u64 a0_1, .int .u64 a0_2, .int .u64 a0_3] 43 (0, 0)) (by (with_reducible repeat (first | refine Q19 ?_ _ | refine Q17 ?_ | refine Q15 ?_ _)); exact BK320.out) hb); have n2_ := Aside0.mk (Q27 (by repeat (first | (with_reducible first | exact HB.out | apply Q9 | apply Q7 | apply Q8 | refine Q14 ?_ GE320.out) | exact HB.out)) hb); clear BK320; clear HB; have HO323 := n0_; have BK320 := n1_; have HB := n2_; clear n0_ n1_ n2_; (try clear hb); (try clear hb2); (try clear hk); (try clear hi); (try clear ho0); obtain ⟨Ao9, co9, eo9⟩ := Kd.R_slice HO323.out; subst eo9; have p324 : 0 ≤ (0 : Int) := (by omega); have q324 : 0 < (t321.length : Int) := of_decide_eq_true (by first | (with_reducible assumption) | assumption); obtain ⟨ad324, e324, hx324_0⟩ := Kd.at_int (Kd.R_reads' HO323.out).2.2 0 p324 q324; cases e324; have qi324 : (0 < t321.length) = True := eq_true (by omega); (try rw [show ((0 : Int)).toNat = 0 from rfl] at hx324_0); (try rw [Addr.add_zero'] at hx324_0); replace p324 := eq_true p324; replace q324 := eq_true q324) | ((with_reducible refine gate_callee (f := 95) rfl ?_); refine goesL_ (some 13) rfl rfl Try.func95 (by kernel_rfl) rfl #[.int .u8 (rd t321 0)] rfl (by (try simp only [List.map_toArray, List.map_cons, List.map_nil]); first | done | rfl | (simp only [List.length_drop, List.length_take]; rfl)) ?_; (with_reducible refine (dowelref22_spelled.calls k (rd t321 0) t325 _ A5.out).mono ?_); rintro e w10 ⟨rfl, hb⟩; refine ⟨_, rfl, ?_⟩; have n0_ := Aside0.mk (Kd.R_below (by (with_reducible repeat (first | apply Kd.R_alloc | apply Kd.R_drewN | apply Kd.R_drew)); exact HO323.out) hb); have n1_ := Aside0.mk (blk_below (g := gb320) (o := .cells #[.int .u64 a0_0, .int .u64 a0_1, .int .u64 a0_2, .int .u64 a0_3] 43 (0, 0)) (by (with_reducible repeat (first | refine Q19 ?_ _ | refine Q17 ?_ | refine Q15 ?_ _)); exact BK320.out) hb); have n2_ := Aside0.mk (Q27 (by repeat (first | (with_reducible first | exact HB.out | apply Q9 | apply Q7 | apply Q8 | refine Q14 ?_ GE320.out) | exact HB.out)) hb); clear HO323; clear BK320; clear HB; have HO323 := n0_; have BK320 := n1_; have HB := n2_; clear n0_ n1_ n2_; (try clear hb); (try clear hb2); (try clear hk); (try clear hi)))
      go_ret
      exact ⟨by first | rfl | (simp [Q24, Q25] <;> rfl) | (simp [*, Q24, Q25] <;> rfl), by repeat (first | (with_reducible first | exact HB.out | apply Q9 | apply Q7 | apply Q8 | refine Q14 ?_ GE320.out) | exact HB.out)⟩
    · rw [if_neg c4] at H
      exact absurd H (by simp)
  · rw [if_neg c3] at H
    have c3b0 : ((t321.length : Int) == 1) = false := beq_eq_false_iff_ne.mpr c3
    have c3b1 : ((t321.length : Int) != 1) = true := bne_iff_ne.mpr c3
    by_cases c11 : (t321.length : Int) = 256
    · rw [if_pos c11] at H
      have c11b0 : ((t321.length : Int) == 256) = true := beq_iff_eq.mpr c11
      have c11b1 : ((t321.length : Int) != 256) = false := bne_eq_false_iff_eq.mpr c11
      clear c11
      obtain rfl := Option.some.inj H
      go_enter Try.func68, Try.ntmps68
      go_wp2_with (first | ((with_reducible refine gate_dst (N := 1) rfl ?_); refine box_event ?hg (N := 1) ?hd (cs := #[.int .u64 a0_0, .int .u64 a0_1, .int .u64 a0_2, .int .u64 a0_3]) (t := 43) ?hr ?_; (case hd => rfl); (case hg => rfl); (case hr => first | (go_simp; done) | (go_simp; rfl)); intro gb320 hg w12 hbox hb; have n0_ := Aside0.mk (Q27 (by repeat (first | (with_reducible first | exact HB.out | apply Q9 | apply Q7 | apply Q8) | exact HB.out)) hb); have n1_ := Aside0.mk (hbox); have n2_ := Aside0.mk ((by rw [hg]; exact (Q23 (by repeat (first | (with_reducible first | exact HB.out | apply Q9 | apply Q7 | apply Q8) | exact HB.out))) : w.heap.size ≤ gb320)); have n3_ := Aside0.mk ((by rw [hg]; exact (Q23 (by repeat (first | (with_reducible first | exact HB.out | apply Q9 | apply Q7 | apply Q8) | exact HB.out))) : w.heap.size ≤ gb320)); clear HB; have HB := n0_; have BK320 := n1_; have GW320 := n2_; have GE320 := n3_; clear n0_ n1_ n2_ n3_; clear hb hbox hg; have hcz13_0 : w12.cell? ⟨gb320, 0, none⟩ = some (.int .u64 a0_0) := (Q10 BK320.out 0).trans rfl; have hcz13_1 : w12.cell? ⟨gb320, 1, none⟩ = some (.int .u64 a0_1) := (Q10 BK320.out 1).trans rfl; have hcz13_2 : w12.cell? ⟨gb320, 2, none⟩ = some (.int .u64 a0_2) := (Q10 BK320.out 2).trans rfl; have hcz13_3 : w12.cell? ⟨gb320, 3, none⟩ = some (.int .u64 a0_3) := (Q10 BK320.out 3).trans rfl; have hfz13_0 := Q11 BK320.out 0; have hfz13_1 := Q11 BK320.out 1; have hfz13_2 := Q11 BK320.out 2; have hfz13_3 := Q11 BK320.out 3) | ((with_reducible refine gate_callee (f := 94) rfl ?_); refine goesL_ (some 5) rfl rfl Try.func94 (by kernel_rfl) rfl #[.agg #[.int .u64 a0_0, .int .u64 a0_1, .int .u64 a0_2, .int .u64 a0_3]] rfl (by (try simp only [List.map_toArray, List.map_cons, List.map_nil]); first | done | rfl | (simp only [List.length_drop, List.length_take]; rfl)) ?_; (with_reducible refine (dowelref03_Bytes.calls a0_0 a0_1 a0_2 a0_3 t321 _ A2.out).mono ?_); rintro e w14 ⟨v322, rfl, ho0, hb⟩; refine ⟨_, rfl, ?_⟩; have n0_ := Aside0.mk (Kd.R_lower ho0 (Q23 (by repeat (first | (with_reducible first | exact HB.out | apply Q9 | apply Q7 | apply Q8 | refine Q14 ?_ GE320.out) | exact HB.out)))); have n1_ := Aside0.mk (blk_below (g := gb320) (o := .cells #[.int .u64 a0_0, .int .u64 a0_1, .int .u64 a0_2, .int .u64 a0_3] 43 (0, 0)) (by (with_reducible repeat (first | refine Q19 ?_ _ | refine Q17 ?_ | refine Q15 ?_ _)); exact BK320.out) hb); have n2_ := Aside0.mk (Q27 (by repeat (first | (with_reducible first | exact HB.out | apply Q9 | apply Q7 | apply Q8 | refine Q14 ?_ GE320.out) | exact HB.out)) hb); clear BK320; clear HB; have HO323 := n0_; have BK320 := n1_; have HB := n2_; clear n0_ n1_ n2_; (try clear hb); (try clear hb2); (try clear hk); (try clear hi); (try clear ho0); obtain ⟨Ao15, co15, eo15⟩ := Kd.R_slice HO323.out; subst eo15))
      go_ret
      exact ⟨by first | rfl | (simp [Q24, Q25] <;> rfl) | (simp [*, Q24, Q25] <;> rfl), by repeat (first | (with_reducible first | exact HB.out | apply Q9 | apply Q7 | apply Q8 | refine Q14 ?_ GE320.out) | exact HB.out)⟩
    · rw [if_neg c11] at H
      have c11b0 : ((t321.length : Int) == 256) = false := beq_eq_false_iff_ne.mpr c11
      have c11b1 : ((t321.length : Int) != 256) = true := bne_iff_ne.mpr c11
      replace H := Option.bind_eq_some_iff.mp H
      obtain ⟨t326, A160, H⟩ := H
      replace H : (some t326) = some r := H
      have A16 := Aside0.mk A160
      clear A160
      obtain rfl := Option.some.inj H
      go_enter Try.func68, Try.ntmps68
      go_wp2_with (first | ((with_reducible refine gate_dst (N := 1) rfl ?_); refine box_event ?hg (N := 1) ?hd (cs := #[.int .u64 a0_0, .int .u64 a0_1, .int .u64 a0_2, .int .u64 a0_3]) (t := 43) ?hr ?_; (case hd => rfl); (case hg => rfl); (case hr => first | (go_simp; done) | (go_simp; rfl)); intro gb320 hg w17 hbox hb; have n0_ := Aside0.mk (Q27 (by repeat (first | (with_reducible first | exact HB.out | apply Q9 | apply Q7 | apply Q8) | exact HB.out)) hb); have n1_ := Aside0.mk (hbox); have n2_ := Aside0.mk ((by rw [hg]; exact (Q23 (by repeat (first | (with_reducible first | exact HB.out | apply Q9 | apply Q7 | apply Q8) | exact HB.out))) : w.heap.size ≤ gb320)); have n3_ := Aside0.mk ((by rw [hg]; exact (Q23 (by repeat (first | (with_reducible first | exact HB.out | apply Q9 | apply Q7 | apply Q8) | exact HB.out))) : w.heap.size ≤ gb320)); clear HB; have HB := n0_; have BK320 := n1_; have GW320 := n2_; have GE320 := n3_; clear n0_ n1_ n2_ n3_; clear hb hbox hg; have hcz18_0 : w17.cell? ⟨gb320, 0, none⟩ = some (.int .u64 a0_0) := (Q10 BK320.out 0).trans rfl; have hcz18_1 : w17.cell? ⟨gb320, 1, none⟩ = some (.int .u64 a0_1) := (Q10 BK320.out 1).trans rfl; have hcz18_2 : w17.cell? ⟨gb320, 2, none⟩ = some (.int .u64 a0_2) := (Q10 BK320.out 2).trans rfl; have hcz18_3 : w17.cell? ⟨gb320, 3, none⟩ = some (.int .u64 a0_3) := (Q10 BK320.out 3).trans rfl; have hfz18_0 := Q11 BK320.out 0; have hfz18_1 := Q11 BK320.out 1; have hfz18_2 := Q11 BK320.out 2; have hfz18_3 := Q11 BK320.out 3) | ((with_reducible refine gate_callee (f := 94) rfl ?_); refine goesL_ (some 5) rfl rfl Try.func94 (by kernel_rfl) rfl #[.agg #[.int .u64 a0_0, .int .u64 a0_1, .int .u64 a0_2, .int .u64 a0_3]] rfl (by (try simp only [List.map_toArray, List.map_cons, List.map_nil]); first | done | rfl | (simp only [List.length_drop, List.length_take]; rfl)) ?_; (with_reducible refine (dowelref03_Bytes.calls a0_0 a0_1 a0_2 a0_3 t321 _ A2.out).mono ?_); rintro e w19 ⟨v322, rfl, ho0, hb⟩; refine ⟨_, rfl, ?_⟩; have n0_ := Aside0.mk (Kd.R_lower ho0 (Q23 (by repeat (first | (with_reducible first | exact HB.out | apply Q9 | apply Q7 | apply Q8 | refine Q14 ?_ GE320.out) | exact HB.out)))); have n1_ := Aside0.mk (blk_below (g := gb320) (o := .cells #[.int .u64 a0_0, .int .u64 a0_1, .int .u64 a0_2, .int .u64 a0_3] 43 (0, 0)) (by (with_reducible repeat (first | refine Q19 ?_ _ | refine Q17 ?_ | refine Q15 ?_ _)); exact BK320.out) hb); have n2_ := Aside0.mk (Q27 (by repeat (first | (with_reducible first | exact HB.out | apply Q9 | apply Q7 | apply Q8 | refine Q14 ?_ GE320.out) | exact HB.out)) hb); clear BK320; clear HB; have HO323 := n0_; have BK320 := n1_; have HB := n2_; clear n0_ n1_ n2_; (try clear hb); (try clear hb2); (try clear hk); (try clear hi); (try clear ho0); obtain ⟨Ao20, co20, eo20⟩ := Kd.R_slice HO323.out; subst eo20; have hcz21_0 : w19.cell? ⟨gb320, 0, none⟩ = some (.int .u64 a0_0) := (Q10 BK320.out 0).trans rfl; have hcz21_1 : w19.cell? ⟨gb320, 1, none⟩ = some (.int .u64 a0_1) := (Q10 BK320.out 1).trans rfl; have hcz21_2 : w19.cell? ⟨gb320, 2, none⟩ = some (.int .u64 a0_2) := (Q10 BK320.out 2).trans rfl; have hcz21_3 : w19.cell? ⟨gb320, 3, none⟩ = some (.int .u64 a0_3) := (Q10 BK320.out 3).trans rfl; have hfz21_0 := Q11 BK320.out 0; have hfz21_1 := Q11 BK320.out 1; have hfz21_2 := Q11 BK320.out 2; have hfz21_3 := Q11 BK320.out 3) | ((with_reducible refine gate_callee (f := 96) rfl ?_); refine goesL_ (some 17) rfl rfl Try.func96 (by kernel_rfl) rfl #[.agg #[.int .u64 a0_0, .int .u64 a0_1, .int .u64 a0_2, .int .u64 a0_3]] rfl (by (try simp only [List.map_toArray, List.map_cons, List.map_nil]); first | done | rfl | (simp only [List.length_drop, List.length_take]; rfl)) ?_; (with_reducible refine (dowelref03_Text.calls k a0_0 a0_1 a0_2 a0_3 t326 _ A16.out).mono ?_); rintro e w22 ⟨rfl, hb⟩; refine ⟨_, rfl, ?_⟩; have n0_ := Aside0.mk (Kd.R_below (by (with_reducible repeat (first | apply Kd.R_alloc | apply Kd.R_drewN | apply Kd.R_drew)); exact HO323.out) hb); have n1_ := Aside0.mk (blk_below (g := gb320) (o := .cells #[.int .u64 a0_0, .int .u64 a0_1, .int .u64 a0_2, .int .u64 a0_3] 43 (0, 0)) (by (with_reducible repeat (first | refine Q19 ?_ _ | refine Q17 ?_ | refine Q15 ?_ _)); exact BK320.out) hb); have n2_ := Aside0.mk (Q27 (by repeat (first | (with_reducible first | exact HB.out | apply Q9 | apply Q7 | apply Q8 | refine Q14 ?_ GE320.out) | exact HB.out)) hb); clear HO323; clear BK320; clear HB; have HO323 := n0_; have BK320 := n1_; have HB := n2_; clear n0_ n1_ n2_; (try clear hb); (try clear hb2); (try clear hk); (try clear hi)))
      go_ret
      exact ⟨by first | rfl | (simp [Q24, Q25] <;> rfl) | (simp [*, Q24, Q25] <;> rfl), by repeat (first | (with_reducible first | exact HB.out | apply Q9 | apply Q7 | apply Q8 | refine Q14 ?_ GE320.out) | exact HB.out)⟩
end Go.Proofs.Ytflkgoggnomehaa.P
