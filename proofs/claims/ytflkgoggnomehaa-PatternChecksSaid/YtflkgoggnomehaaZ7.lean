import Derived.Test.YtflkgoggnomehaaZ3
import Derived.Test.YtflkgoggnomehaaZ5
import Derived.Test.YtflkgoggnomehaaZ6
namespace Go.Proofs.Ytflkgoggnomehaa.P
open Go.RowKit Go.Proofs.YtflkgoggnomehaaW.PrintWords Go.Proofs.YtflkgoggnomehaaW.PrintLast Go.Proofs.YtflkgoggnomehaaW.PrintMore
set_option linter.unusedVariables false
set_option linter.unusedSimpArgs false
def class_spelling.j0 : Nat → Int → Bool → Option (ByteArray)
  | 0, _, _ => none
  | k + 1, x0, x10 => if x10 = true then (some (strOfNums (([92, x0] : List Int)))) else (if x0 < 32 then (if 0 ≤ (x0 / 16) then (if (x0 / 16) < 16 then (if 0 ≤ (Go.bits .and .u8 x0 15) then (if (Go.bits .and .u8 x0 15) < 16 then (some (strOfNums (([92, 120, bt (⟨#[48, 49, 50, 51, 52, 53, 54, 55, 56, 57, 97, 98, 99, 100, 101, 102]⟩ : ByteArray) (x0 / 16), bt (⟨#[48, 49, 50, 51, 52, 53, 54, 55, 56, 57, 97, 98, 99, 100, 101, 102]⟩ : ByteArray) (Go.bits .and .u8 x0 15)] : List Int)))) else (none)) else (none)) else (none)) else (none)) else (if x0 > 126 then (if 0 ≤ (x0 / 16) then (if (x0 / 16) < 16 then (if 0 ≤ (Go.bits .and .u8 x0 15) then (if (Go.bits .and .u8 x0 15) < 16 then (some (strOfNums (([92, 120, bt (⟨#[48, 49, 50, 51, 52, 53, 54, 55, 56, 57, 97, 98, 99, 100, 101, 102]⟩ : ByteArray) (x0 / 16), bt (⟨#[48, 49, 50, 51, 52, 53, 54, 55, 56, 57, 97, 98, 99, 100, 101, 102]⟩ : ByteArray) (Go.bits .and .u8 x0 15)] : List Int)))) else (none)) else (none)) else (none)) else (none)) else (some (strOfNums (([x0] : List Int))))))
def class_spelling.f (k : Nat) (a0 : Int) : Option (ByteArray) := if a0 = 9 then (some (⟨#[92, 116]⟩ : ByteArray)) else (if a0 = 10 then (some (⟨#[92, 110]⟩ : ByteArray)) else (if a0 = 13 then (some (⟨#[92, 114]⟩ : ByteArray)) else (if a0 = 92 then (class_spelling.j0 k a0 (a0 == 92)) else (if a0 = 93 then (class_spelling.j0 k a0 (a0 == 93)) else (if a0 = 45 then (class_spelling.j0 k a0 (a0 == 45)) else (class_spelling.j0 k a0 (a0 == 94)))))))
theorem class_spelling.mono_l : ∀ k, (∀ y0 y1, LeO (class_spelling.j0 k y0 y1) (class_spelling.j0 (k + 1) y0 y1))
  | 0 => fun _ _ r h => by simp [class_spelling.j0] at h
  | k + 1 => by
    have ih0 := class_spelling.mono_l k
    · intro y0 y1
      unfold class_spelling.j0
      repeat' first
      | (with_reducible exact ih0 _ _)
      | (with_reducible exact LeO.refl _)
      | (with_reducible exact LeO.none _)
      | (with_reducible refine LeO.ite ?_ ?_)
      | (with_reducible refine LeO.bind ?_ (fun _ => ?_))
      | exact ih0 _ _
      | exact LeO.none _
      | refine LeO.ite ?_ ?_
      | refine LeO.bind ?_ (fun _ => ?_)
theorem class_spelling.mono : ∀ a0 k, LeO (class_spelling.f k a0) (class_spelling.f (k + 1) a0) := by
  intro a0 k
  have ih0 := class_spelling.mono_l k
  unfold class_spelling.f
  repeat' first
      | (with_reducible exact ih0 _ _)
      | (with_reducible exact LeO.refl _)
      | (with_reducible exact LeO.none _)
      | (with_reducible refine LeO.ite ?_ ?_)
      | (with_reducible refine LeO.bind ?_ (fun _ => ?_))
      | exact ih0 _ _
      | exact LeO.none _
      | refine LeO.ite ?_ ?_
      | refine LeO.bind ?_ (fun _ => ?_)
def class_spelling.T14 : Bool × List (List Nat × List Nat) := (true, [([], []), ([0], [0]), ([1], [1]), ([], []), ([3], [3]), ([4], [4]), ([2, 5], [2, 5]), ([6], [6]), ([7, 0, 1, 2, 3, 4, 5, 6, 7], [7])])
def class_spelling.B14 : List Nat := [0, 1, 3, 0, 8, 24, 63, 127, 255]
theorem class_spelling.tab14 : rtab .any (opsOf Try.f93 14) = class_spelling.T14 := by kernel_rfl
theorem class_spelling.bits14 : waitsOk class_spelling.T14.2 class_spelling.B14 = true := by kernel_rfl
set_option maxHeartbeats 8000000 in
set_option maxRecDepth 100000 in
theorem class_spelling.calls (k : Nat) (a0 : Int) (r : ByteArray) (w : World) (h : class_spelling.f k a0 = some r) :
    Calls Try.prog 93 #[.int .u8 a0] w fun e w' => e = .returned (.string r) ∧ Below w.heap.size w w' := by
  have HB := Aside0.mk (Below.refl w.heap.size w)
  have H : (if a0 = 9 then (some (⟨#[92, 116]⟩ : ByteArray)) else (if a0 = 10 then (some (⟨#[92, 110]⟩ : ByteArray)) else (if a0 = 13 then (some (⟨#[92, 114]⟩ : ByteArray)) else (if a0 = 92 then (class_spelling.j0 k a0 (a0 == 92)) else (if a0 = 93 then (class_spelling.j0 k a0 (a0 == 93)) else (if a0 = 45 then (class_spelling.j0 k a0 (a0 == 45)) else (class_spelling.j0 k a0 (a0 == 94)))))))) = some r := h
  clear h
  by_cases c2 : a0 = 9
  · rw [if_pos c2] at H
    have c2b0 : (a0 == 9) = true := beq_iff_eq.mpr c2
    have c2b1 : (a0 != 9) = false := bne_eq_false_iff_eq.mpr c2
    clear c2
    obtain rfl := Option.some.inj H
    go_enter Try.func93, Try.ntmps93
    go_wp2
    go_ret
    exact ⟨by first | rfl | (simp [Q24, Q25] <;> rfl) | (simp [*, Q24, Q25] <;> rfl), by repeat (first | (with_reducible first | exact HB.out | apply Q9 | apply Q7 | apply Q8) | exact HB.out)⟩
  · rw [if_neg c2] at H
    have c2b0 : (a0 == 9) = false := beq_eq_false_iff_ne.mpr c2
    have c2b1 : (a0 != 9) = true := bne_iff_ne.mpr c2
    by_cases c3 : a0 = 10
    · rw [if_pos c3] at H
      have c3b0 : (a0 == 10) = true := beq_iff_eq.mpr c3
      have c3b1 : (a0 != 10) = false := bne_eq_false_iff_eq.mpr c3
      clear c3
      obtain rfl := Option.some.inj H
      go_enter Try.func93, Try.ntmps93
      go_wp2
      go_ret
      exact ⟨by first | rfl | (simp [Q24, Q25] <;> rfl) | (simp [*, Q24, Q25] <;> rfl), by repeat (first | (with_reducible first | exact HB.out | apply Q9 | apply Q7 | apply Q8) | exact HB.out)⟩
    · rw [if_neg c3] at H
      have c3b0 : (a0 == 10) = false := beq_eq_false_iff_ne.mpr c3
      have c3b1 : (a0 != 10) = true := bne_iff_ne.mpr c3
      by_cases c4 : a0 = 13
      · rw [if_pos c4] at H
        have c4b0 : (a0 == 13) = true := beq_iff_eq.mpr c4
        have c4b1 : (a0 != 13) = false := bne_eq_false_iff_eq.mpr c4
        clear c4
        obtain rfl := Option.some.inj H
        go_enter Try.func93, Try.ntmps93
        go_wp2
        go_ret
        exact ⟨by first | rfl | (simp [Q24, Q25] <;> rfl) | (simp [*, Q24, Q25] <;> rfl), by repeat (first | (with_reducible first | exact HB.out | apply Q9 | apply Q7 | apply Q8) | exact HB.out)⟩
      · rw [if_neg c4] at H
        have c4b0 : (a0 == 13) = false := beq_eq_false_iff_ne.mpr c4
        have c4b1 : (a0 != 13) = true := bne_iff_ne.mpr c4
        have HC5 := Aside0.mk H
        clear H
        go_enter Try.func93, Try.ntmps93
        go_upto_if 10 with (fail)
        go_cut [10] (fun v10 wc => ∃ (kq : Nat) (x10_4 : Bool), v10 = .bool x10_4 ∧ Aside0 (class_spelling.j0 kq a0 x10_4 = some r) ∧ Aside0 (kq ≤ k) ∧ Aside0 (Below w.heap.size w wc))
        case first =>
          have H := HC5.out
          clear HC5
          by_cases c6 : a0 = 92
          · rw [if_pos c6] at H
            have c6b0 : (a0 == 92) = true := beq_iff_eq.mpr c6
            have c6b1 : (a0 != 92) = false := bne_eq_false_iff_eq.mpr c6
            clear c6
            (first | rw [c6b0] | (simp only [i64_w, i32_w]; rw [c6b0]) | skip)
            have H' := Aside0.mk H
            clear H
            go_wp2
            go_meet
            case rel => exact ⟨_, ((a0 == 92)), (by first | rfl | (simp; done) | (simp [*]; done)), H', ⟨by first | omega | exact Nat.le_refl _⟩, ⟨by repeat (first | (with_reducible first | exact HB.out | apply Q9 | apply Q7 | apply Q8) | exact HB.out)⟩⟩
          · rw [if_neg c6] at H
            have c6b0 : (a0 == 92) = false := beq_eq_false_iff_ne.mpr c6
            have c6b1 : (a0 != 92) = true := bne_iff_ne.mpr c6
            (first | rw [c6b0] | (simp only [i64_w, i32_w]; rw [c6b0]) | skip)
            by_cases c7 : a0 = 93
            · rw [if_pos c7] at H
              have c7b0 : (a0 == 93) = true := beq_iff_eq.mpr c7
              have c7b1 : (a0 != 93) = false := bne_eq_false_iff_eq.mpr c7
              clear c7
              have H' := Aside0.mk H
              clear H
              go_wp2
              go_meet
              case rel => exact ⟨_, ((a0 == 93)), (by first | rfl | (simp; done) | (simp [*]; done)), H', ⟨by first | omega | exact Nat.le_refl _⟩, ⟨by repeat (first | (with_reducible first | exact HB.out | apply Q9 | apply Q7 | apply Q8) | exact HB.out)⟩⟩
            · rw [if_neg c7] at H
              have c7b0 : (a0 == 93) = false := beq_eq_false_iff_ne.mpr c7
              have c7b1 : (a0 != 93) = true := bne_iff_ne.mpr c7
              by_cases c8 : a0 = 45
              · rw [if_pos c8] at H
                have c8b0 : (a0 == 45) = true := beq_iff_eq.mpr c8
                have c8b1 : (a0 != 45) = false := bne_eq_false_iff_eq.mpr c8
                clear c8
                have H' := Aside0.mk H
                clear H
                go_wp2
                go_meet
                case rel => exact ⟨_, ((a0 == 45)), (by first | rfl | (simp; done) | (simp [*]; done)), H', ⟨by first | omega | exact Nat.le_refl _⟩, ⟨by repeat (first | (with_reducible first | exact HB.out | apply Q9 | apply Q7 | apply Q8) | exact HB.out)⟩⟩
              · rw [if_neg c8] at H
                have c8b0 : (a0 == 45) = false := beq_eq_false_iff_ne.mpr c8
                have c8b1 : (a0 != 45) = true := bne_iff_ne.mpr c8
                have H' := Aside0.mk H
                clear H
                go_wp2
                go_meet
                case rel => exact ⟨_, ((a0 == 94)), (by first | rfl | (simp; done) | (simp [*]; done)), H', ⟨by first | omega | exact Nat.le_refl _⟩, ⟨by repeat (first | (with_reducible first | exact HB.out | apply Q9 | apply Q7 | apply Q8) | exact HB.out)⟩⟩
        case rest =>
          clear HC5
          try clear c2
          try clear c2b0
          try clear c2b1
          try clear p2
          try clear c3
          try clear c3b0
          try clear c3b1
          try clear c4
          try clear c4b0
          try clear c4b1
          try clear c6
          try clear c6b0
          try clear c6b1
          try clear c7
          try clear c7b0
          try clear c7b1
          try clear c8
          try clear c8b0
          try clear c8b1
          obtain ⟨kq, x10_4, rfl, HA, HJ4, HB⟩ := hcut
          cases kq with
          | zero => exact absurd HA.out (by simp [class_spelling.j0])
          | succ kj4 =>
            have H := HA.out
            clear HA
            simp only [class_spelling.j0] at H
            by_cases c9 : x10_4 = true
            · subst c9
              have H1 : (some (strOfNums (([92, a0] : List Int)))) = some r := by rw [if_pos rfl] at H; exact H
              clear H
              have H := H1
              clear H1
              obtain ⟨y233, hy233⟩ : ∃ y_ : List Int, y_ = (([92, a0] : List Int)) := ⟨_, rfl⟩
              replace H : (some (strOfNums y233)) = some r := by first | (rw [hy233]; with_reducible exact H) | (have H2_ := (Option.bind_some _ _).symm.trans H; rw [hy233]; with_reducible exact H2_) | (have H2_ := (Option.bind_some _ _).symm.trans H; with_reducible exact H2_) | with_reducible exact H | (rw [hy233]; exact H) | exact H
              have Ny233 := Aside0.mk hy233
              clear hy233
              obtain rfl := Option.some.inj H
              go_wp2_with (first | ((with_reducible refine gate_dst (N := 16) rfl ?_); refine Kd.R_lit (Kd.int .u8) _ 5 ?hg (N := 16) ?hd (xs := ([92, a0] : List Int)) (inner := [.int .u8 92, .int .u8 a0]) (ok := fun _ => True) (okp := fun _ => True) ?hr ?hp (fun _ hk => hk) trivial (Below.refl _ _) (Nat.le_refl _) (by simp) ?_; (case hd => rfl); (case hg => rfl); (case hr => first | (go_simp; done) | (go_simp; rfl)); (case hp => exact (Reps.one (show Kd.M (Kd.int .u8) _ _ _ 92 [.int .u8 92] from rfl) (Reps.one (show Kd.M (Kd.int .u8) _ _ _ a0 [.int .u8 a0] from rfl) (Reps.none _ _)))); intro v234 w10 ho11 hb hg_ hnew_; clear hg_ hnew_; (first | rw [← Ny233.out] at ho11 | (simp only [Int.reduceToNat] at ho11; rw [← Ny233.out] at ho11)); have n0_ := Aside0.mk (Kd.R_lower ho11 (Q23 (by repeat (first | (with_reducible first | exact HB.out | apply Q9 | apply Q7 | apply Q8) | exact HB.out)))); have n1_ := Aside0.mk (Q27 (by repeat (first | (with_reducible first | exact HB.out | apply Q9 | apply Q7 | apply Q8) | exact HB.out)) hb); clear HB; have HO235 := n0_; have HB := n1_; clear n0_ n1_; clear hb ho11; have hcv12 := own_string (P := Try.prog) Try.underlying71 Try.underlying5 Try.underlying9 (Kd.own_of_R HO235.out); have hcw13 := fun n_ : Nat => own_string (P := Try.prog) Try.underlying71 Try.underlying5 Try.underlying9 (Kd.own_of_R (Kd.R_drewN HO235.out n_))))
              go_ret
              exact ⟨by first | rfl | (simp [Q24, Q25] <;> rfl) | (simp [*, Q24, Q25] <;> rfl), by repeat (first | (with_reducible first | exact HB.out | apply Q9 | apply Q7 | apply Q8) | exact HB.out)⟩
            · replace c9 := Bool.eq_false_iff.mpr c9
              subst c9
              have H1 : (if a0 < 32 then (if 0 ≤ (a0 / 16) then (if (a0 / 16) < 16 then (if 0 ≤ (Go.bits .and .u8 a0 15) then (if (Go.bits .and .u8 a0 15) < 16 then (some (strOfNums (([92, 120, bt (⟨#[48, 49, 50, 51, 52, 53, 54, 55, 56, 57, 97, 98, 99, 100, 101, 102]⟩ : ByteArray) (a0 / 16), bt (⟨#[48, 49, 50, 51, 52, 53, 54, 55, 56, 57, 97, 98, 99, 100, 101, 102]⟩ : ByteArray) (Go.bits .and .u8 a0 15)] : List Int)))) else (none)) else (none)) else (none)) else (none)) else (if a0 > 126 then (if 0 ≤ (a0 / 16) then (if (a0 / 16) < 16 then (if 0 ≤ (Go.bits .and .u8 a0 15) then (if (Go.bits .and .u8 a0 15) < 16 then (some (strOfNums (([92, 120, bt (⟨#[48, 49, 50, 51, 52, 53, 54, 55, 56, 57, 97, 98, 99, 100, 101, 102]⟩ : ByteArray) (a0 / 16), bt (⟨#[48, 49, 50, 51, 52, 53, 54, 55, 56, 57, 97, 98, 99, 100, 101, 102]⟩ : ByteArray) (Go.bits .and .u8 a0 15)] : List Int)))) else (none)) else (none)) else (none)) else (none)) else (some (strOfNums (([a0] : List Int)))))) = some r := by rw [if_neg (show ¬ (false = true) by decide)] at H; exact H
              clear H
              have H := H1
              clear H1
              by_cases c14 : a0 < 32
              · rw [if_pos c14] at H
                have c14b0 : decide (a0 < 32) = true := decide_eq_true c14
                clear c14
                obtain ⟨ji15, hji15⟩ : ∃ j_ : Int, (a0 / 16) = j_ := ⟨_, rfl⟩
                replace H : (if 0 ≤ (ji15) then (if (ji15) < 16 then (if 0 ≤ (Go.bits .and .u8 a0 15) then (if (Go.bits .and .u8 a0 15) < 16 then (some (strOfNums (([92, 120, bt (⟨#[48, 49, 50, 51, 52, 53, 54, 55, 56, 57, 97, 98, 99, 100, 101, 102]⟩ : ByteArray) (ji15), bt (⟨#[48, 49, 50, 51, 52, 53, 54, 55, 56, 57, 97, 98, 99, 100, 101, 102]⟩ : ByteArray) (Go.bits .and .u8 a0 15)] : List Int)))) else (none)) else (none)) else (none)) else (none)) = some r := by first | (rw [hji15] at H; exact H) | (simp only [hji15] at H ⊢; exact H)
                by_cases c16 : 0 ≤ (ji15)
                · rw [if_pos c16] at H
                  have c16b0 : decide (0 ≤ (ji15)) = true := decide_eq_true c16
                  clear c16
                  by_cases c17 : (ji15) < 16
                  · rw [if_pos c17] at H
                    have c17b0 : decide ((ji15) < 16) = true := decide_eq_true c17
                    clear c17
                    by_cases c19 : 0 ≤ (Go.bits .and .u8 a0 15)
                    · rw [if_pos c19] at H
                      have c19b0 : decide (0 ≤ (Go.bits .and .u8 a0 15)) = true := decide_eq_true c19
                      clear c19
                      by_cases c20 : (Go.bits .and .u8 a0 15) < 16
                      · rw [if_pos c20] at H
                        have c20b0 : decide ((Go.bits .and .u8 a0 15) < 16) = true := decide_eq_true c20
                        clear c20
                        obtain ⟨y236, hy236⟩ : ∃ y_ : List Int, y_ = (([92, 120, bt (⟨#[48, 49, 50, 51, 52, 53, 54, 55, 56, 57, 97, 98, 99, 100, 101, 102]⟩ : ByteArray) (ji15), bt (⟨#[48, 49, 50, 51, 52, 53, 54, 55, 56, 57, 97, 98, 99, 100, 101, 102]⟩ : ByteArray) (Go.bits .and .u8 a0 15)] : List Int)) := ⟨_, rfl⟩
                        replace H : (some (strOfNums y236)) = some r := by first | (rw [hy236]; with_reducible exact H) | (have H2_ := (Option.bind_some _ _).symm.trans H; rw [hy236]; with_reducible exact H2_) | (have H2_ := (Option.bind_some _ _).symm.trans H; with_reducible exact H2_) | with_reducible exact H | (rw [hy236]; exact H) | exact H
                        have Ny236 := Aside0.mk hy236
                        clear hy236
                        obtain rfl := Option.some.inj H
                        try go_wp2
                        have n0_ := Aside0.mk (Q8 HB.out)
                        clear HB
                        have HB := n0_
                        clear n0_
                        have p18 : 0 ≤ ((ji15) : Int) := of_decide_eq_true (by first | (with_reducible assumption) | assumption)
                        have q18 : (ji15) < (16 : Int) := of_decide_eq_true (by first | (with_reducible assumption) | assumption)
                        have hx18 := bt_at (⟨#[48, 49, 50, 51, 52, 53, 54, 55, 56, 57, 97, 98, 99, 100, 101, 102]⟩ : ByteArray) (ji15)
                        replace p18 := eq_true p18
                        replace q18 := eq_true q18
                        have p21 : 0 ≤ ((Go.bits .and .u8 a0 15) : Int) := of_decide_eq_true (by first | (with_reducible assumption) | assumption)
                        have q21 : (Go.bits .and .u8 a0 15) < (16 : Int) := of_decide_eq_true (by first | (with_reducible assumption) | assumption)
                        have hx21 := bt_at (⟨#[48, 49, 50, 51, 52, 53, 54, 55, 56, 57, 97, 98, 99, 100, 101, 102]⟩ : ByteArray) (Go.bits .and .u8 a0 15)
                        replace p21 := eq_true p21
                        replace q21 := eq_true q21
                        refine start_ (n := 9) (S := fun w' => True) (ds := []) #[ff, ff, ff, ff, ff, ff, ff, ff, ff] (by kernel_rfl) rfl rfl trivial (fun hHeld => ?_); refine with_tabW class_spelling.tab14 class_spelling.bits14 (fun HT_ HW_ => ?_)
                        generalize wc.drew = w22 at HB hHeld ⊢
                        refine Q26 (i := 0) (N := some 24) (v := ?_) (a' := ?_) #[tt, ff, ff, ff, ff, ff, ff, ff, ff] rfl rfl (any_of HT_.out (by kernel_rfl)) (fun _ _ _ h => h) (Or.inl ⟨by rfl, ?_⟩) ?_ ?_; rotate_left; intro w'; go_simp; with_reducible rfl; rotate_left; simp only [pS]; rfl
                        refine Q26 (i := 1) (N := some 25) (v := ?_) (a' := ?_) #[tt, tt, ff, ff, ff, ff, ff, ff, ff] rfl rfl (any_of HT_.out (by kernel_rfl)) (fun _ _ _ h => h) (Or.inl ⟨by rfl, ?_⟩) ?_ ?_; rotate_left; intro w'; go_simp; with_reducible rfl; rotate_left; simp only [pS]; rfl
                        refine Q26 (i := 3) (N := some 27) (v := ?_) (a' := ?_) #[tt, tt, ff, tt, ff, ff, ff, ff, ff] rfl rfl (any_of HT_.out (by kernel_rfl)) (fun _ _ _ h => h) (Or.inl ⟨by rfl, ?_⟩) ?_ ?_; rotate_left; intro w'; go_simp; with_reducible rfl; rotate_left; simp only [pS]; rfl
                        refine Q26 (i := 4) (N := some 28) (v := ?_) (a' := ?_) #[tt, tt, ff, tt, tt, ff, ff, ff, ff] rfl rfl (any_of HT_.out (by kernel_rfl)) (fun _ _ _ h => h) (Or.inl ⟨by rfl, ?_⟩) ?_ ?_; rotate_left; intro w'; go_simp; with_reducible rfl; rotate_left; simp only [pS]; rfl
                        refine take_ (i := 2) (N := some 26) (v := ?_) (a' := ?_) #[tt, tt, tt, tt, tt, ff, ff, ff, ff] rfl rfl (take_ofW HT_.out HW_.out (by kernel_rfl)) (fun _ _ _ h => h) (Or.inl ⟨by rfl, ?_⟩) hHeld ?_ ?_
                        rotate_left
                        · intro w' _
                          go_simp
                          with_reducible rfl
                        rotate_left
                        · simp only [pS]
                          rfl
                        refine take_ (i := 5) (N := some 29) (v := ?_) (a' := ?_) #[tt, tt, tt, tt, tt, tt, ff, ff, ff] rfl rfl (take_ofW HT_.out HW_.out (by kernel_rfl)) (fun _ _ _ h => h) (Or.inl ⟨by rfl, ?_⟩) hHeld ?_ ?_
                        rotate_left
                        · intro w' _
                          go_simp
                          with_reducible rfl
                        rotate_left
                        · simp only [pS]
                          rfl
                        refine one_ (i := 6) (N := some 30) #[tt, tt, tt, tt, tt, tt, tt, ff, ff] rfl rfl (one_of HT_.out (by kernel_rfl)) (by decide) (fun K hK => ?_)
                        refine Kd.R_lit_step (Kd.int .u8) _ 5 ?hg (N := 30) ?hd (xs := ([92, 120, bt (⟨#[48, 49, 50, 51, 52, 53, 54, 55, 56, 57, 97, 98, 99, 100, 101, 102]⟩ : ByteArray) (ji15), bt (⟨#[48, 49, 50, 51, 52, 53, 54, 55, 56, 57, 97, 98, 99, 100, 101, 102]⟩ : ByteArray) (Go.bits .and .u8 a0 15)] : List Int)) (inner := [.int .u8 92, .int .u8 120, .int .u8 (bt (⟨#[48, 49, 50, 51, 52, 53, 54, 55, 56, 57, 97, 98, 99, 100, 101, 102]⟩ : ByteArray) (ji15)), .int .u8 (bt (⟨#[48, 49, 50, 51, 52, 53, 54, 55, 56, 57, 97, 98, 99, 100, 101, 102]⟩ : ByteArray) (Go.bits .and .u8 a0 15))]) (ok := fun _ => True) (okp := fun _ => True) ?hr ?hp (fun _ hk => hk) trivial (Below.refl _ _) (Nat.le_refl _) (by simp) ?_; (case hd => rfl); (case hg => rfl); (case hr => first | (go_simp; done) | (go_simp; rfl)); (case hp => exact (Reps.one (show Kd.M (Kd.int .u8) _ _ _ 92 [.int .u8 92] from rfl) (Reps.one (show Kd.M (Kd.int .u8) _ _ _ 120 [.int .u8 120] from rfl) (Reps.one (show Kd.M (Kd.int .u8) _ _ _ (bt (⟨#[48, 49, 50, 51, 52, 53, 54, 55, 56, 57, 97, 98, 99, 100, 101, 102]⟩ : ByteArray) (ji15)) [.int .u8 (bt (⟨#[48, 49, 50, 51, 52, 53, 54, 55, 56, 57, 97, 98, 99, 100, 101, 102]⟩ : ByteArray) (ji15))] from rfl) (Reps.one (show Kd.M (Kd.int .u8) _ _ _ (bt (⟨#[48, 49, 50, 51, 52, 53, 54, 55, 56, 57, 97, 98, 99, 100, 101, 102]⟩ : ByteArray) (Go.bits .and .u8 a0 15)) [.int .u8 (bt (⟨#[48, 49, 50, 51, 52, 53, 54, 55, 56, 57, 97, 98, 99, 100, 101, 102]⟩ : ByteArray) (Go.bits .and .u8 a0 15))] from rfl) (Reps.none _ _))))))
                        intro v237 w23 ho24 hb hg_ hnew_
                        clear hg_ hnew_
                        (first | rw [← Ny236.out] at ho24 | (simp only [Int.reduceToNat] at ho24; rw [← Ny236.out] at ho24))
                        have n0_ := Aside0.mk (Kd.R_lower ho24 (Q23 (by repeat (first | (with_reducible first | exact HB.out | apply Q9 | apply Q7 | apply Q8) | exact HB.out))))
                        have n1_ := Aside0.mk (Q27 (by repeat (first | (with_reducible first | exact HB.out | apply Q9 | apply Q7 | apply Q8) | exact HB.out)) hb)
                        clear HB
                        have HO238 := n0_
                        have HB := n1_
                        clear n0_ n1_
                        clear hb ho24
                        refine hK.out _ _ trivial (fun hHeld => ?_)
                        clear hK K
                        refine norm_ (a' := ?_) ?_ ?_; rotate_left; show Act.put _ (some 30) _ = _; simp only [pS]; rfl
                        refine one_ (i := 7) (N := some 31) #[tt, tt, tt, tt, tt, tt, tt, tt, ff] rfl rfl (one_of HT_.out (by kernel_rfl)) (by decide) (fun K hK => ?_)
                        have hcv25 := own_string (P := Try.prog) Try.underlying71 Try.underlying5 Try.underlying9 (Kd.own_of_R HO238.out)
                        refine value_ (w1 := ?_) (v := ?_) (by rfl) rfl ?_ ?_
                        rotate_left 2
                        · go_simp
                          constructor
                          · rfl
                          · rfl
                        clear hcv25
                        refine hK.out _ _ trivial (fun hHeld => ?_)
                        clear hK K
                        refine norm_ (a' := ?_) ?_ ?_; rotate_left; show Act.put _ (some 31) _ = _; simp only [pS]; rfl
                        refine Q26 (i := 8) (N := some 2) (v := ?_) (a' := ?_) #[tt, tt, tt, tt, tt, tt, tt, tt, tt] rfl rfl (any_of HT_.out (by kernel_rfl)) (fun _ _ _ h => h) (Or.inl ⟨by rfl, ?_⟩) ?_ ?_; rotate_left; intro w'; go_simp; with_reducible rfl; rotate_left; simp only [pS]; rfl
                        refine done_ (done_of HT_.out (by kernel_rfl)) ?_
                        try go_wp2
                        go_ret
                        exact ⟨by first | rfl | (simp [Q24, Q25] <;> rfl) | (simp only [← hji15]; first | rfl | (simp [Q24, Q25] <;> rfl)) | (simp [*, Q24, Q25] <;> rfl), by repeat (first | (with_reducible first | exact HB.out | apply Q9 | apply Q7 | apply Q8) | exact HB.out)⟩
                      · rw [if_neg c20] at H
                        exact absurd H (by simp)
                    · rw [if_neg c19] at H
                      exact absurd H (by simp)
                  · rw [if_neg c17] at H
                    exact absurd H (by simp)
                · rw [if_neg c16] at H
                  exact absurd H (by simp)
              · rw [if_neg c14] at H
                have c14b0 : decide (a0 < 32) = false := decide_eq_false c14
                clear c14
                by_cases c26 : a0 > 126
                · rw [if_pos c26] at H
                  have c26b0 : decide (126 < a0) = true := decide_eq_true c26
                  clear c26
                  obtain ⟨ji27, hji27⟩ : ∃ j_ : Int, (a0 / 16) = j_ := ⟨_, rfl⟩
                  replace H : (if 0 ≤ (ji27) then (if (ji27) < 16 then (if 0 ≤ (Go.bits .and .u8 a0 15) then (if (Go.bits .and .u8 a0 15) < 16 then (some (strOfNums (([92, 120, bt (⟨#[48, 49, 50, 51, 52, 53, 54, 55, 56, 57, 97, 98, 99, 100, 101, 102]⟩ : ByteArray) (ji27), bt (⟨#[48, 49, 50, 51, 52, 53, 54, 55, 56, 57, 97, 98, 99, 100, 101, 102]⟩ : ByteArray) (Go.bits .and .u8 a0 15)] : List Int)))) else (none)) else (none)) else (none)) else (none)) = some r := by first | (rw [hji27] at H; exact H) | (simp only [hji27] at H ⊢; exact H)
                  by_cases c28 : 0 ≤ (ji27)
                  · rw [if_pos c28] at H
                    have c28b0 : decide (0 ≤ (ji27)) = true := decide_eq_true c28
                    clear c28
                    by_cases c29 : (ji27) < 16
                    · rw [if_pos c29] at H
                      have c29b0 : decide ((ji27) < 16) = true := decide_eq_true c29
                      clear c29
                      by_cases c31 : 0 ≤ (Go.bits .and .u8 a0 15)
                      · rw [if_pos c31] at H
                        have c31b0 : decide (0 ≤ (Go.bits .and .u8 a0 15)) = true := decide_eq_true c31
                        clear c31
                        by_cases c32 : (Go.bits .and .u8 a0 15) < 16
                        · rw [if_pos c32] at H
                          have c32b0 : decide ((Go.bits .and .u8 a0 15) < 16) = true := decide_eq_true c32
                          clear c32
                          obtain ⟨y239, hy239⟩ : ∃ y_ : List Int, y_ = (([92, 120, bt (⟨#[48, 49, 50, 51, 52, 53, 54, 55, 56, 57, 97, 98, 99, 100, 101, 102]⟩ : ByteArray) (ji27), bt (⟨#[48, 49, 50, 51, 52, 53, 54, 55, 56, 57, 97, 98, 99, 100, 101, 102]⟩ : ByteArray) (Go.bits .and .u8 a0 15)] : List Int)) := ⟨_, rfl⟩
                          replace H : (some (strOfNums y239)) = some r := by first | (rw [hy239]; with_reducible exact H) | (have H2_ := (Option.bind_some _ _).symm.trans H; rw [hy239]; with_reducible exact H2_) | (have H2_ := (Option.bind_some _ _).symm.trans H; with_reducible exact H2_) | with_reducible exact H | (rw [hy239]; exact H) | exact H
                          have Ny239 := Aside0.mk hy239
                          clear hy239
                          obtain rfl := Option.some.inj H
                          try go_wp2
                          have n0_ := Aside0.mk (Q8 HB.out)
                          clear HB
                          have HB := n0_
                          clear n0_
                          have p30 : 0 ≤ ((ji27) : Int) := of_decide_eq_true (by first | (with_reducible assumption) | assumption)
                          have q30 : (ji27) < (16 : Int) := of_decide_eq_true (by first | (with_reducible assumption) | assumption)
                          have hx30 := bt_at (⟨#[48, 49, 50, 51, 52, 53, 54, 55, 56, 57, 97, 98, 99, 100, 101, 102]⟩ : ByteArray) (ji27)
                          replace p30 := eq_true p30
                          replace q30 := eq_true q30
                          have p33 : 0 ≤ ((Go.bits .and .u8 a0 15) : Int) := of_decide_eq_true (by first | (with_reducible assumption) | assumption)
                          have q33 : (Go.bits .and .u8 a0 15) < (16 : Int) := of_decide_eq_true (by first | (with_reducible assumption) | assumption)
                          have hx33 := bt_at (⟨#[48, 49, 50, 51, 52, 53, 54, 55, 56, 57, 97, 98, 99, 100, 101, 102]⟩ : ByteArray) (Go.bits .and .u8 a0 15)
                          replace p33 := eq_true p33
                          replace q33 := eq_true q33
                          refine start_ (n := 9) (S := fun w' => True) (ds := []) #[ff, ff, ff, ff, ff, ff, ff, ff, ff] (by kernel_rfl) rfl rfl trivial (fun hHeld => ?_); refine with_tabW class_spelling.tab14 class_spelling.bits14 (fun HT_ HW_ => ?_)
                          generalize wc.drew = w34 at HB hHeld ⊢
                          refine Q26 (i := 0) (N := some 24) (v := ?_) (a' := ?_) #[tt, ff, ff, ff, ff, ff, ff, ff, ff] rfl rfl (any_of HT_.out (by kernel_rfl)) (fun _ _ _ h => h) (Or.inl ⟨by rfl, ?_⟩) ?_ ?_; rotate_left; intro w'; go_simp; with_reducible rfl; rotate_left; simp only [pS]; rfl
                          refine Q26 (i := 1) (N := some 25) (v := ?_) (a' := ?_) #[tt, tt, ff, ff, ff, ff, ff, ff, ff] rfl rfl (any_of HT_.out (by kernel_rfl)) (fun _ _ _ h => h) (Or.inl ⟨by rfl, ?_⟩) ?_ ?_; rotate_left; intro w'; go_simp; with_reducible rfl; rotate_left; simp only [pS]; rfl
                          refine Q26 (i := 3) (N := some 27) (v := ?_) (a' := ?_) #[tt, tt, ff, tt, ff, ff, ff, ff, ff] rfl rfl (any_of HT_.out (by kernel_rfl)) (fun _ _ _ h => h) (Or.inl ⟨by rfl, ?_⟩) ?_ ?_; rotate_left; intro w'; go_simp; with_reducible rfl; rotate_left; simp only [pS]; rfl
                          refine Q26 (i := 4) (N := some 28) (v := ?_) (a' := ?_) #[tt, tt, ff, tt, tt, ff, ff, ff, ff] rfl rfl (any_of HT_.out (by kernel_rfl)) (fun _ _ _ h => h) (Or.inl ⟨by rfl, ?_⟩) ?_ ?_; rotate_left; intro w'; go_simp; with_reducible rfl; rotate_left; simp only [pS]; rfl
                          refine take_ (i := 2) (N := some 26) (v := ?_) (a' := ?_) #[tt, tt, tt, tt, tt, ff, ff, ff, ff] rfl rfl (take_ofW HT_.out HW_.out (by kernel_rfl)) (fun _ _ _ h => h) (Or.inl ⟨by rfl, ?_⟩) hHeld ?_ ?_
                          rotate_left
                          · intro w' _
                            go_simp
                            with_reducible rfl
                          rotate_left
                          · simp only [pS]
                            rfl
                          refine take_ (i := 5) (N := some 29) (v := ?_) (a' := ?_) #[tt, tt, tt, tt, tt, tt, ff, ff, ff] rfl rfl (take_ofW HT_.out HW_.out (by kernel_rfl)) (fun _ _ _ h => h) (Or.inl ⟨by rfl, ?_⟩) hHeld ?_ ?_
                          rotate_left
                          · intro w' _
                            go_simp
                            with_reducible rfl
                          rotate_left
                          · simp only [pS]
                            rfl
                          refine one_ (i := 6) (N := some 30) #[tt, tt, tt, tt, tt, tt, tt, ff, ff] rfl rfl (one_of HT_.out (by kernel_rfl)) (by decide) (fun K hK => ?_)
                          refine Kd.R_lit_step (Kd.int .u8) _ 5 ?hg (N := 30) ?hd (xs := ([92, 120, bt (⟨#[48, 49, 50, 51, 52, 53, 54, 55, 56, 57, 97, 98, 99, 100, 101, 102]⟩ : ByteArray) (ji27), bt (⟨#[48, 49, 50, 51, 52, 53, 54, 55, 56, 57, 97, 98, 99, 100, 101, 102]⟩ : ByteArray) (Go.bits .and .u8 a0 15)] : List Int)) (inner := [.int .u8 92, .int .u8 120, .int .u8 (bt (⟨#[48, 49, 50, 51, 52, 53, 54, 55, 56, 57, 97, 98, 99, 100, 101, 102]⟩ : ByteArray) (ji27)), .int .u8 (bt (⟨#[48, 49, 50, 51, 52, 53, 54, 55, 56, 57, 97, 98, 99, 100, 101, 102]⟩ : ByteArray) (Go.bits .and .u8 a0 15))]) (ok := fun _ => True) (okp := fun _ => True) ?hr ?hp (fun _ hk => hk) trivial (Below.refl _ _) (Nat.le_refl _) (by simp) ?_; (case hd => rfl); (case hg => rfl); (case hr => first | (go_simp; done) | (go_simp; rfl)); (case hp => exact (Reps.one (show Kd.M (Kd.int .u8) _ _ _ 92 [.int .u8 92] from rfl) (Reps.one (show Kd.M (Kd.int .u8) _ _ _ 120 [.int .u8 120] from rfl) (Reps.one (show Kd.M (Kd.int .u8) _ _ _ (bt (⟨#[48, 49, 50, 51, 52, 53, 54, 55, 56, 57, 97, 98, 99, 100, 101, 102]⟩ : ByteArray) (ji27)) [.int .u8 (bt (⟨#[48, 49, 50, 51, 52, 53, 54, 55, 56, 57, 97, 98, 99, 100, 101, 102]⟩ : ByteArray) (ji27))] from rfl) (Reps.one (show Kd.M (Kd.int .u8) _ _ _ (bt (⟨#[48, 49, 50, 51, 52, 53, 54, 55, 56, 57, 97, 98, 99, 100, 101, 102]⟩ : ByteArray) (Go.bits .and .u8 a0 15)) [.int .u8 (bt (⟨#[48, 49, 50, 51, 52, 53, 54, 55, 56, 57, 97, 98, 99, 100, 101, 102]⟩ : ByteArray) (Go.bits .and .u8 a0 15))] from rfl) (Reps.none _ _))))))
                          intro v240 w35 ho36 hb hg_ hnew_
                          clear hg_ hnew_
                          (first | rw [← Ny239.out] at ho36 | (simp only [Int.reduceToNat] at ho36; rw [← Ny239.out] at ho36))
                          have n0_ := Aside0.mk (Kd.R_lower ho36 (Q23 (by repeat (first | (with_reducible first | exact HB.out | apply Q9 | apply Q7 | apply Q8) | exact HB.out))))
                          have n1_ := Aside0.mk (Q27 (by repeat (first | (with_reducible first | exact HB.out | apply Q9 | apply Q7 | apply Q8) | exact HB.out)) hb)
                          clear HB
                          have HO241 := n0_
                          have HB := n1_
                          clear n0_ n1_
                          clear hb ho36
                          refine hK.out _ _ trivial (fun hHeld => ?_)
                          clear hK K
                          refine norm_ (a' := ?_) ?_ ?_; rotate_left; show Act.put _ (some 30) _ = _; simp only [pS]; rfl
                          refine one_ (i := 7) (N := some 31) #[tt, tt, tt, tt, tt, tt, tt, tt, ff] rfl rfl (one_of HT_.out (by kernel_rfl)) (by decide) (fun K hK => ?_)
                          have hcv37 := own_string (P := Try.prog) Try.underlying71 Try.underlying5 Try.underlying9 (Kd.own_of_R HO241.out)
                          refine value_ (w1 := ?_) (v := ?_) (by rfl) rfl ?_ ?_
                          rotate_left 2
                          · go_simp
                            constructor
                            · rfl
                            · rfl
                          clear hcv37
                          refine hK.out _ _ trivial (fun hHeld => ?_)
                          clear hK K
                          refine norm_ (a' := ?_) ?_ ?_; rotate_left; show Act.put _ (some 31) _ = _; simp only [pS]; rfl
                          refine Q26 (i := 8) (N := some 2) (v := ?_) (a' := ?_) #[tt, tt, tt, tt, tt, tt, tt, tt, tt] rfl rfl (any_of HT_.out (by kernel_rfl)) (fun _ _ _ h => h) (Or.inl ⟨by rfl, ?_⟩) ?_ ?_; rotate_left; intro w'; go_simp; with_reducible rfl; rotate_left; simp only [pS]; rfl
                          refine done_ (done_of HT_.out (by kernel_rfl)) ?_
                          try go_wp2
                          go_ret
                          exact ⟨by first | rfl | (simp [Q24, Q25] <;> rfl) | (simp only [← hji27]; first | rfl | (simp [Q24, Q25] <;> rfl)) | (simp [*, Q24, Q25] <;> rfl), by repeat (first | (with_reducible first | exact HB.out | apply Q9 | apply Q7 | apply Q8) | exact HB.out)⟩
                        · rw [if_neg c32] at H
                          exact absurd H (by simp)
                      · rw [if_neg c31] at H
                        exact absurd H (by simp)
                    · rw [if_neg c29] at H
                      exact absurd H (by simp)
                  · rw [if_neg c28] at H
                    exact absurd H (by simp)
                · rw [if_neg c26] at H
                  have c26b0 : decide (126 < a0) = false := decide_eq_false c26
                  clear c26
                  obtain ⟨y242, hy242⟩ : ∃ y_ : List Int, y_ = (([a0] : List Int)) := ⟨_, rfl⟩
                  replace H : (some (strOfNums y242)) = some r := by first | (rw [hy242]; with_reducible exact H) | (have H2_ := (Option.bind_some _ _).symm.trans H; rw [hy242]; with_reducible exact H2_) | (have H2_ := (Option.bind_some _ _).symm.trans H; with_reducible exact H2_) | with_reducible exact H | (rw [hy242]; exact H) | exact H
                  have Ny242 := Aside0.mk hy242
                  clear hy242
                  obtain rfl := Option.some.inj H
                  go_wp2_with (first | ((with_reducible refine gate_dst (N := 33) rfl ?_); refine Kd.R_lit (Kd.int .u8) _ 5 ?hg (N := 33) ?hd (xs := ([a0] : List Int)) (inner := [.int .u8 a0]) (ok := fun _ => True) (okp := fun _ => True) ?hr ?hp (fun _ hk => hk) trivial (Below.refl _ _) (Nat.le_refl _) (by simp) ?_; (case hd => rfl); (case hg => rfl); (case hr => first | (go_simp; done) | (go_simp; rfl)); (case hp => exact (Reps.one (show Kd.M (Kd.int .u8) _ _ _ a0 [.int .u8 a0] from rfl) (Reps.none _ _))); intro v243 w38 ho39 hb hg_ hnew_; clear hg_ hnew_; (first | rw [← Ny242.out] at ho39 | (simp only [Int.reduceToNat] at ho39; rw [← Ny242.out] at ho39)); have n0_ := Aside0.mk (Kd.R_lower ho39 (Q23 (by repeat (first | (with_reducible first | exact HB.out | apply Q9 | apply Q7 | apply Q8) | exact HB.out)))); have n1_ := Aside0.mk (Q27 (by repeat (first | (with_reducible first | exact HB.out | apply Q9 | apply Q7 | apply Q8) | exact HB.out)) hb); clear HB; have HO244 := n0_; have HB := n1_; clear n0_ n1_; clear hb ho39; have hcv40 := own_string (P := Try.prog) Try.underlying71 Try.underlying5 Try.underlying9 (Kd.own_of_R HO244.out); have hcw41 := fun n_ : Nat => own_string (P := Try.prog) Try.underlying71 Try.underlying5 Try.underlying9 (Kd.own_of_R (Kd.R_drewN HO244.out n_))))
                  go_ret
                  exact ⟨by first | rfl | (simp [Q24, Q25] <;> rfl) | (simp [*, Q24, Q25] <;> rfl), by repeat (first | (with_reducible first | exact HB.out | apply Q9 | apply Q7 | apply Q8) | exact HB.out)⟩
mutual
def class_Text.j0 : Nat → List Int → Int → Int → Int → Int → Option (ByteArray)
  | 0, _, _, _, _, _ => none
  | k + 1, x3, x246000, x246001, x246002, x246003 => (class_Ranges.f x246000 x246001 x246002 x246003).bind fun t257 => (class_Text.l0 k x3 t257 (t257.length : Int) 0)
def class_Text.l0 : Nat → List Int → List (S158) → Int → Int → Option (ByteArray)
  | 0, _, _, _, _ => none
  | k + 1, x3, x16, x17, x18 => if x18 < x17 then (if 0 ≤ x18 then (if x18 < (x16.length : Int) then ((class_spelling.f k ((Q20 x16 x18).f0)).bind fun t265 => (if x3.length + t265.size < 140737488355328 then ((some (x3 ++ bytesOf t265 : List Int)).bind fun y266 => (if ((((Q20 x16 x18).f1) - ((Q20 x16 x18).f0)) % 256) > 1 then (if y266.length < 140737488355328 then ((some (y266 ++ [45] : List Int)).bind fun y269 => (if ((Q20 x16 x18).f1) > ((Q20 x16 x18).f0) then ((class_spelling.f k ((Q20 x16 x18).f1)).bind fun t272 => (if y269.length + t272.size < 140737488355328 then (class_Text.l0 k (y269 ++ bytesOf t272) x16 x17 (wrap64 (x18 + 1))) else (none))) else (class_Text.l0 k y269 x16 x17 (wrap64 (x18 + 1))))) else (none)) else (if ((Q20 x16 x18).f1) > ((Q20 x16 x18).f0) then ((class_spelling.f k ((Q20 x16 x18).f1)).bind fun t276 => (if y266.length + t276.size < 140737488355328 then (class_Text.l0 k (y266 ++ bytesOf t276) x16 x17 (wrap64 (x18 + 1))) else (none))) else (class_Text.l0 k y266 x16 x17 (wrap64 (x18 + 1)))))) else (none))) else (none)) else (none)) else (if x3.length < 140737488355328 then (some (strOfNums (x3 ++ [93]))) else (none))
end
def class_Text.f (k : Nat) (a0_0 : Int) (a0_1 : Int) (a0_2 : Int) (a0_3 : Int) : Option (ByteArray) := (some (([91] : List Int) : List Int)).bind fun y246 => ((class_Count.f a0_0 a0_1 a0_2 a0_3).bind fun t249 => (if t249 > 128 then (if y246.length < 140737488355328 then ((class_Not.f a0_0 a0_1 a0_2 a0_3).bind fun bt253 => (class_Text.j0 k (y246 ++ [94]) bt253.1 bt253.2.1 bt253.2.2.1 bt253.2.2.2)) else (none)) else (class_Text.j0 k y246 a0_0 a0_1 a0_2 a0_3)))
set_option maxHeartbeats 8000000 in
set_option maxRecDepth 100000 in
theorem class_Text.calls (k : Nat) (a0_0 : Int) (a0_1 : Int) (a0_2 : Int) (a0_3 : Int) (r : ByteArray) (w : World) (h : class_Text.f k a0_0 a0_1 a0_2 a0_3 = some r) :
    Calls Try.prog 66 #[.agg #[.int .u64 a0_0, .int .u64 a0_1, .int .u64 a0_2, .int .u64 a0_3]] w fun e w' => e = .returned (.string r) ∧ Below w.heap.size w w' := by
  have hu43 := Try.underlying43
  have hu158 := Try.underlying158
  have HB := Aside0.mk (Below.refl w.heap.size w)
  have H : ((some (([91] : List Int) : List Int)).bind fun y246 => ((class_Count.f a0_0 a0_1 a0_2 a0_3).bind fun t249 => (if t249 > 128 then (if y246.length < 140737488355328 then ((class_Not.f a0_0 a0_1 a0_2 a0_3).bind fun bt253 => (class_Text.j0 k (y246 ++ [94]) bt253.1 bt253.2.1 bt253.2.2.1 bt253.2.2.2)) else (none)) else (class_Text.j0 k y246 a0_0 a0_1 a0_2 a0_3)))) = some r := h
  clear h
  obtain ⟨y246, hy246⟩ : ∃ y_ : List Int, y_ = (([91] : List Int)) := ⟨_, rfl⟩
  replace H : ((class_Count.f a0_0 a0_1 a0_2 a0_3).bind fun t249 => (if t249 > 128 then (if y246.length < 140737488355328 then ((class_Not.f a0_0 a0_1 a0_2 a0_3).bind fun bt253 => (class_Text.j0 k (y246 ++ [94]) bt253.1 bt253.2.1 bt253.2.2.1 bt253.2.2.2)) else (none)) else (class_Text.j0 k y246 a0_0 a0_1 a0_2 a0_3))) = some r := by first | (rw [hy246]; with_reducible exact H) | (have H2_ := (Option.bind_some _ _).symm.trans H; rw [hy246]; with_reducible exact H2_) | (have H2_ := (Option.bind_some _ _).symm.trans H; with_reducible exact H2_) | with_reducible exact H | (rw [hy246]; exact H) | exact H
  have Ny246 := Aside0.mk hy246
  clear hy246
  replace H := Option.bind_eq_some_iff.mp H
  obtain ⟨t249, A20, H⟩ := H
  replace H : (if t249 > 128 then (if y246.length < 140737488355328 then ((class_Not.f a0_0 a0_1 a0_2 a0_3).bind fun bt253 => (class_Text.j0 k (y246 ++ [94]) bt253.1 bt253.2.1 bt253.2.2.1 bt253.2.2.2)) else (none)) else (class_Text.j0 k y246 a0_0 a0_1 a0_2 a0_3)) = some r := H
  have A2 := Aside0.mk A20
  clear A20
  have HC3 := Aside0.mk H
  clear H
  go_enter Try.func66, Try.ntmps66
  go_upto_if 9 with (first | ((with_reducible refine gate_dst (N := 1) rfl ?_); refine box_event ?hg (N := 1) ?hd (cs := #[.int .u64 a0_0, .int .u64 a0_1, .int .u64 a0_2, .int .u64 a0_3]) (t := 43) ?hr ?_; (case hd => rfl); (case hg => rfl); (case hr => first | (go_simp; done) | (go_simp; rfl)); intro gb245 hg w4 hbox hb; have n0_ := Aside0.mk (Q27 (by repeat (first | (with_reducible first | exact HB.out | apply Q9 | apply Q7 | apply Q8) | exact HB.out)) hb); have n1_ := Aside0.mk (hbox); have n2_ := Aside0.mk ((by rw [hg]; exact (Q23 (by repeat (first | (with_reducible first | exact HB.out | apply Q9 | apply Q7 | apply Q8) | exact HB.out))) : w.heap.size ≤ gb245)); have n3_ := Aside0.mk ((by rw [hg]; exact (Q23 (by repeat (first | (with_reducible first | exact HB.out | apply Q9 | apply Q7 | apply Q8) | exact HB.out))) : w.heap.size ≤ gb245)); clear HB; have HB := n0_; have BK245 := n1_; have GW245 := n2_; have GE245 := n3_; clear n0_ n1_ n2_ n3_; clear hb hbox hg) | ((with_reducible refine gate_dst (N := 6) rfl ?_); refine Kd.R_lit (Kd.int .u8) _ 5 ?hg (N := 6) ?hd (xs := ([91] : List Int)) (inner := [.int .u8 91]) (ok := fun _ => True) (okp := fun _ => True) ?hr ?hp (fun _ hk => hk) trivial (Below.refl _ _) (Nat.le_refl _) (by simp) ?_; (case hd => rfl); (case hg => rfl); (case hr => first | (go_simp; done) | (go_simp; rfl)); (case hp => exact (Reps.one (show Kd.M (Kd.int .u8) _ _ _ 91 [.int .u8 91] from rfl) (Reps.none _ _))); intro v247 w5 ho6 hb hg_ hnew_; clear hg_ hnew_; (first | rw [← Ny246.out] at ho6 | (simp only [Int.reduceToNat] at ho6; rw [← Ny246.out] at ho6)); have n0_ := Aside0.mk (Kd.R_lower ho6 (Q23 (by repeat (first | (with_reducible first | exact HB.out | apply Q9 | apply Q7 | apply Q8 | refine Q14 ?_ GE245.out) | exact HB.out)))); have n1_ := Aside0.mk (blk_below (g := gb245) (o := .cells #[.int .u64 a0_0, .int .u64 a0_1, .int .u64 a0_2, .int .u64 a0_3] 43 (0, 0)) (by (with_reducible repeat (first | refine Q19 ?_ _ | refine Q17 ?_ | refine Q15 ?_ _)); exact BK245.out) hb); have n2_ := Aside0.mk (Q27 (by repeat (first | (with_reducible first | exact HB.out | apply Q9 | apply Q7 | apply Q8 | refine Q14 ?_ GE245.out) | exact HB.out)) hb); clear BK245; clear HB; have HO248 := n0_; have BK245 := n1_; have HB := n2_; clear n0_ n1_ n2_; clear hb ho6; have hcz7_0 : w5.cell? ⟨gb245, 0, none⟩ = some (.int .u64 a0_0) := (Q10 BK245.out 0).trans rfl; have hcz7_1 : w5.cell? ⟨gb245, 1, none⟩ = some (.int .u64 a0_1) := (Q10 BK245.out 1).trans rfl; have hcz7_2 : w5.cell? ⟨gb245, 2, none⟩ = some (.int .u64 a0_2) := (Q10 BK245.out 2).trans rfl; have hcz7_3 : w5.cell? ⟨gb245, 3, none⟩ = some (.int .u64 a0_3) := (Q10 BK245.out 3).trans rfl; have hfz7_0 := Q11 BK245.out 0; have hfz7_1 := Q11 BK245.out 1; have hfz7_2 := Q11 BK245.out 2; have hfz7_3 := Q11 BK245.out 3) | ((with_reducible refine gate_callee (f := 63) rfl ?_); refine goesL_ (some 8) rfl rfl Try.func63 (by kernel_rfl) rfl #[.agg #[.int .u64 a0_0, .int .u64 a0_1, .int .u64 a0_2, .int .u64 a0_3]] rfl (by (try simp only [List.map_toArray, List.map_cons, List.map_nil]); first | done | rfl | (simp only [List.length_drop, List.length_take]; rfl)) ?_; (with_reducible refine (class_Count.calls a0_0 a0_1 a0_2 a0_3 t249 _ A2.out).mono ?_); rintro e w8 ⟨rfl, hb⟩; refine ⟨_, rfl, ?_⟩; have n0_ := Aside0.mk (Kd.R_below (by (with_reducible repeat (first | apply Kd.R_alloc | apply Kd.R_drewN | apply Kd.R_drew)); exact HO248.out) hb); have n1_ := Aside0.mk (blk_below (g := gb245) (o := .cells #[.int .u64 a0_0, .int .u64 a0_1, .int .u64 a0_2, .int .u64 a0_3] 43 (0, 0)) (by (with_reducible repeat (first | refine Q19 ?_ _ | refine Q17 ?_ | refine Q15 ?_ _)); exact BK245.out) hb); have n2_ := Aside0.mk (Q27 (by repeat (first | (with_reducible first | exact HB.out | apply Q9 | apply Q7 | apply Q8 | refine Q14 ?_ GE245.out) | exact HB.out)) hb); clear HO248; clear BK245; clear HB; have HO248 := n0_; have BK245 := n1_; have HB := n2_; clear n0_ n1_ n2_; (try clear hb); (try clear hb2); (try clear hk); (try clear hi)))
  (try simp only [Act.put, List.setIfInBounds_toArray, List.set_cons_zero, List.set_cons_succ])
  go_cut [3] (fun v3 wc => ∃ (kq : Nat) (x3_2 : List Int) (x246000_2 : Int) (x246001_2 : Int) (x246002_2 : Int) (x246003_2 : Int), Aside0 (class_Text.j0 kq x3_2 x246000_2 x246001_2 x246002_2 x246003_2 = some r) ∧ Aside0 (kq ≤ k) ∧ Aside0 (Kd.R (Kd.int .u8) 5 wc w.heap.size (fun _ => True) v3 x3_2) ∧ Aside0 (wc.heap[gb245]? = some (.cells #[.int .u64 x246000_2, .int .u64 x246001_2, .int .u64 x246002_2, .int .u64 x246003_2] 43 (0, 0))) ∧ Aside0 (Below w.heap.size w wc))
  case first =>
    have H := HC3.out
    clear HC3
    by_cases c9 : t249 > 128
    · rw [if_pos c9] at H
      have c9b0 : decide (128 < t249) = true := decide_eq_true c9
      clear c9
      (first | rw [c9b0] | (simp only [i64_w, i32_w]; rw [c9b0]) | skip)
      by_cases c10 : y246.length < 140737488355328
      · rw [if_pos c10] at H
        have LMc10 := Aside0.mk c10
        clear c10
        obtain ⟨y250, hy250⟩ : ∃ y_ : List Int, y_ = (y246 ++ [94]) := ⟨_, rfl⟩
        replace H : ((class_Not.f a0_0 a0_1 a0_2 a0_3).bind fun bt253 => (class_Text.j0 k y250 bt253.1 bt253.2.1 bt253.2.2.1 bt253.2.2.2)) = some r := by first | (rw [hy250]; with_reducible exact H) | (have H2_ := (Option.bind_some _ _).symm.trans H; rw [hy250]; with_reducible exact H2_) | (have H2_ := (Option.bind_some _ _).symm.trans H; with_reducible exact H2_) | with_reducible exact H | (rw [hy250]; exact H) | exact H
        have Ny250 := Aside0.mk hy250
        clear hy250
        replace H := Option.bind_eq_some_iff.mp H
        obtain ⟨⟨t253, t254, t255, t256⟩, A110, H⟩ := H
        replace H : (class_Text.j0 k y250 t253 t254 t255 t256) = some r := H
        have A11 := Aside0.mk A110
        clear A110
        have H' := Aside0.mk H
        clear H
        go_wp2_with (first | ((with_reducible refine gate_builtin (b := .append) (xs := #[.tmp 10, .tmp 11]) rfl ?_); at_builtin; refine Kd.R_append (Kd.int .u8) (w0 := w) w.heap.size rfl (.tmp 10) (.tmp 11) 71 5 (.int .u8 0) 1 rfl Try.underlying71 info5 rfl (by decide) (by omega) v247 y246 94 [.int .u8 94] (fun _ => True) (fun _ => False) rfl rfl ?aP (fun _ hk => hk.elim) ?aF ?aO ?aB ?aS ?aL ?_; (case aP => exact rfl); (case aB => exact (by repeat (first | (with_reducible first | exact HB.out | apply Q9 | apply Q7 | apply Q8 | refine Q14 ?_ GE245.out) | exact HB.out))); (case aF => exact (fun _ _ => trivial)); (case aO => exact (by (with_reducible repeat (first | apply Kd.R_alloc | apply Kd.R_drewN | apply Kd.R_drew)); exact HO248.out)); (case aS => exact (Q23 (by repeat (first | (with_reducible first | exact HB.out | apply Q9 | apply Q7 | apply Q8 | refine Q14 ?_ GE245.out) | exact HB.out)))); (case aL => have := LMc10.out; omega); intro v251 w12 ho hb hg hat; rw [← Ny250.out] at ho; have n0_ := Aside0.mk (blk_grown (g := gb245) (o := .cells #[.int .u64 a0_0, .int .u64 a0_1, .int .u64 a0_2, .int .u64 a0_3] 43 (0, 0)) (by (with_reducible repeat (first | refine Q19 ?_ _ | refine Q17 ?_ | refine Q15 ?_ _)); exact BK245.out) hg (Kd.R_ne HO248.out BK245.out (by decide))); have n1_ := Aside0.mk (hb); have n2_ := Aside0.mk (ho); clear BK245; clear HB; clear HO248; have BK245 := n0_; have HB := n1_; have HO252 := n2_; clear n0_ n1_ n2_; clear ho hb hg hat; have hcz13_0 : w12.cell? ⟨gb245, 0, none⟩ = some (.int .u64 a0_0) := (Q10 BK245.out 0).trans rfl; have hcz13_1 : w12.cell? ⟨gb245, 1, none⟩ = some (.int .u64 a0_1) := (Q10 BK245.out 1).trans rfl; have hcz13_2 : w12.cell? ⟨gb245, 2, none⟩ = some (.int .u64 a0_2) := (Q10 BK245.out 2).trans rfl; have hcz13_3 : w12.cell? ⟨gb245, 3, none⟩ = some (.int .u64 a0_3) := (Q10 BK245.out 3).trans rfl; have hfz13_0 := Q11 BK245.out 0; have hfz13_1 := Q11 BK245.out 1; have hfz13_2 := Q11 BK245.out 2; have hfz13_3 := Q11 BK245.out 3) | ((with_reducible refine gate_callee (f := 91) rfl ?_); refine goesL_ (some 14) rfl rfl Try.func91 (by kernel_rfl) rfl #[.agg #[.int .u64 a0_0, .int .u64 a0_1, .int .u64 a0_2, .int .u64 a0_3]] rfl (by (try simp only [List.map_toArray, List.map_cons, List.map_nil]); first | done | rfl | (simp only [List.length_drop, List.length_take]; rfl)) ?_; (with_reducible refine (class_Not.calls a0_0 a0_1 a0_2 a0_3 t253 t254 t255 t256 _ A11.out).mono ?_); rintro e w14 ⟨rfl, hb⟩; refine ⟨_, rfl, ?_⟩; have n0_ := Aside0.mk (Kd.R_below (by (with_reducible repeat (first | apply Kd.R_alloc | apply Kd.R_drewN | apply Kd.R_drew)); exact HO252.out) hb); have n1_ := Aside0.mk (blk_below (g := gb245) (o := .cells #[.int .u64 a0_0, .int .u64 a0_1, .int .u64 a0_2, .int .u64 a0_3] 43 (0, 0)) (by (with_reducible repeat (first | refine Q19 ?_ _ | refine Q17 ?_ | refine Q15 ?_ _)); exact BK245.out) hb); have n2_ := Aside0.mk (Q27 (by repeat (first | (with_reducible first | exact HB.out | apply Q9 | apply Q7 | apply Q8 | refine Q14 ?_ GE245.out) | exact HB.out)) hb); clear HO252; clear BK245; clear HB; have HO252 := n0_; have BK245 := n1_; have HB := n2_; clear n0_ n1_ n2_; (try clear hb); (try clear hb2); (try clear hk); (try clear hi); have hcz15_0 : w14.cell? ⟨gb245, 0, none⟩ = some (.int .u64 a0_0) := (Q10 BK245.out 0).trans rfl; have hcz15_1 : w14.cell? ⟨gb245, 1, none⟩ = some (.int .u64 a0_1) := (Q10 BK245.out 1).trans rfl; have hcz15_2 : w14.cell? ⟨gb245, 2, none⟩ = some (.int .u64 a0_2) := (Q10 BK245.out 2).trans rfl; have hcz15_3 : w14.cell? ⟨gb245, 3, none⟩ = some (.int .u64 a0_3) := (Q10 BK245.out 3).trans rfl; have hfz15_0 := Q11 BK245.out 0; have hfz15_1 := Q11 BK245.out 1; have hfz15_2 := Q11 BK245.out 2; have hfz15_3 := Q11 BK245.out 3))
        go_meet
        case rel => exact ⟨_, (y250), (t253), (t254), (t255), (t256), H', ⟨by first | omega | exact Nat.le_refl _⟩, ⟨by (with_reducible repeat (first | apply Kd.R_alloc | apply Kd.R_drewN | apply Kd.R_drew)); exact Kd.R_mono (Kd.R_far (p := ⟨gb245, 3, none⟩) (Kd.R_far (p := ⟨gb245, 2, none⟩) (Kd.R_far (p := ⟨gb245, 1, none⟩) (Kd.R_far (p := ⟨gb245, 0, none⟩) (Kd.R_types HO252.out BK245.out (by decide)) (fun _ hk => hk.2) (.int .u64 t253)) (fun _ hk => hk.2) (.int .u64 t254)) (fun _ hk => hk.2) (.int .u64 t255)) (fun _ hk => hk.2) (.int .u64 t256)) (fun _ hk => trivial)⟩, ⟨by (with_reducible repeat (first | refine Q19 ?_ _ | refine Q17 ?_ | refine Q15 ?_ _)); refine blk_put (cs := #[.int .u64 t253, .int .u64 t254, .int .u64 t255, .int .u64 a0_3]) ?_ 3 _ rfl; (with_reducible repeat (first | refine Q19 ?_ _ | refine Q17 ?_ | refine Q15 ?_ _)); refine blk_put (cs := #[.int .u64 t253, .int .u64 t254, .int .u64 a0_2, .int .u64 a0_3]) ?_ 2 _ rfl; (with_reducible repeat (first | refine Q19 ?_ _ | refine Q17 ?_ | refine Q15 ?_ _)); refine blk_put (cs := #[.int .u64 t253, .int .u64 a0_1, .int .u64 a0_2, .int .u64 a0_3]) ?_ 1 _ rfl; (with_reducible repeat (first | refine Q19 ?_ _ | refine Q17 ?_ | refine Q15 ?_ _)); refine blk_put (cs := #[.int .u64 a0_0, .int .u64 a0_1, .int .u64 a0_2, .int .u64 a0_3]) ?_ 0 _ rfl; (with_reducible repeat (first | refine Q19 ?_ _ | refine Q17 ?_ | refine Q15 ?_ _)); exact BK245.out⟩, ⟨by repeat (first | (with_reducible first | exact HB.out | apply Q9 | apply Q7 | apply Q8 | refine Q14 ?_ GE245.out) | exact HB.out)⟩⟩
      · rw [if_neg c10] at H
        exact absurd H (by simp)
    · rw [if_neg c9] at H
      have c9b0 : decide (128 < t249) = false := decide_eq_false c9
      clear c9
      (first | rw [c9b0] | (simp only [i64_w, i32_w]; rw [c9b0]) | skip)
      have H' := Aside0.mk H
      clear H
      go_wp2
      go_meet
      case rel => exact ⟨_, (y246), (a0_0), (a0_1), (a0_2), (a0_3), H', ⟨by first | omega | exact Nat.le_refl _⟩, ⟨by (with_reducible repeat (first | apply Kd.R_alloc | apply Kd.R_drewN | apply Kd.R_drew)); exact HO248.out⟩, ⟨by (with_reducible repeat (first | refine Q19 ?_ _ | refine Q17 ?_ | refine Q15 ?_ _)); exact BK245.out⟩, ⟨by repeat (first | (with_reducible first | exact HB.out | apply Q9 | apply Q7 | apply Q8 | refine Q14 ?_ GE245.out) | exact HB.out)⟩⟩
  case rest =>
    clear HC3
    try clear c1
    try clear p2
    try clear c6
    try clear c9
    try clear c9b0
    try clear c10
    try clear hcz13_0
    try clear hcz13_1
    try clear hcz13_2
    try clear hcz13_3
    try clear hcz15_0
    try clear hcz15_1
    try clear hcz15_2
    try clear hcz15_3
    try clear hcz7_0
    try clear hcz7_1
    try clear hcz7_2
    try clear hcz7_3
    try clear hfz13_0
    try clear hfz13_1
    try clear hfz13_2
    try clear hfz13_3
    try clear hfz15_0
    try clear hfz15_1
    try clear hfz15_2
    try clear hfz15_3
    try clear hfz7_0
    try clear hfz7_1
    try clear hfz7_2
    try clear hfz7_3
    obtain ⟨kq, x3_2, x246000_2, x246001_2, x246002_2, x246003_2, HA, HJ2, HO_3, BK245, HB⟩ := hcut
    cases kq with
    | zero => exact absurd HA.out (by simp [class_Text.j0])
    | succ kj2 =>
      have H := HA.out
      clear HA
      simp only [class_Text.j0] at H
      replace H := Option.bind_eq_some_iff.mp H
      obtain ⟨t257, A160, H⟩ := H
      replace H : (class_Text.l0 kj2 x3_2 t257 (t257.length : Int) 0) = some r := H
      have A16 := Aside0.mk A160
      clear A160
      have H' := Aside0.mk H
      clear H
      have hcz17_0 : wc.cell? ⟨gb245, 0, none⟩ = some (.int .u64 x246000_2) := (Q10 BK245.out 0).trans rfl
      have hcz17_1 : wc.cell? ⟨gb245, 1, none⟩ = some (.int .u64 x246001_2) := (Q10 BK245.out 1).trans rfl
      have hcz17_2 : wc.cell? ⟨gb245, 2, none⟩ = some (.int .u64 x246002_2) := (Q10 BK245.out 2).trans rfl
      have hcz17_3 : wc.cell? ⟨gb245, 3, none⟩ = some (.int .u64 x246003_2) := (Q10 BK245.out 3).trans rfl
      have hfz17_0 := Q11 BK245.out 0
      have hfz17_1 := Q11 BK245.out 1
      have hfz17_2 := Q11 BK245.out 2
      have hfz17_3 := Q11 BK245.out 3
      go_wp2_with (first | ((with_reducible refine gate_callee (f := 92) rfl ?_); refine goesL_ (some 16) rfl rfl Try.func92 (by kernel_rfl) rfl #[.agg #[.int .u64 x246000_2, .int .u64 x246001_2, .int .u64 x246002_2, .int .u64 x246003_2]] rfl (by (try simp only [List.map_toArray, List.map_cons, List.map_nil]); first | done | rfl | (simp only [List.length_drop, List.length_take]; rfl)) ?_; (with_reducible refine (class_Ranges.calls x246000_2 x246001_2 x246002_2 x246003_2 t257 _ A16.out).mono ?_); rintro e w18 ⟨v258, rfl, ho0, hb⟩; refine ⟨_, rfl, ?_⟩; have n0_ := Aside0.mk (Kd.R_below (by (with_reducible repeat (first | apply Kd.R_alloc | apply Kd.R_drewN | apply Kd.R_drew)); exact HO_3.out) hb); have n1_ := Aside0.mk (Kd.R_lower ho0 (Q23 (by repeat (first | (with_reducible first | exact HB.out | apply Q9 | apply Q7 | apply Q8 | refine Q14 ?_ GE245.out) | exact HB.out)))); have n2_ := Aside0.mk (blk_below (g := gb245) (o := .cells #[.int .u64 x246000_2, .int .u64 x246001_2, .int .u64 x246002_2, .int .u64 x246003_2] 43 (0, 0)) (by (with_reducible repeat (first | refine Q19 ?_ _ | refine Q17 ?_ | refine Q15 ?_ _)); exact BK245.out) hb); have n3_ := Aside0.mk (Q27 (by repeat (first | (with_reducible first | exact HB.out | apply Q9 | apply Q7 | apply Q8 | refine Q14 ?_ GE245.out) | exact HB.out)) hb); clear HO_3; clear BK245; clear HB; have HO_3 := n0_; have HO259 := n1_; have BK245 := n2_; have HB := n3_; clear n0_ n1_ n2_ n3_; (try clear hb); (try clear hb2); (try clear hk); (try clear hi); (try clear ho0); obtain ⟨Ao19, co19, eo19⟩ := Kd.R_slice HO259.out; subst eo19))
      go_loopg [3, 18] kj2 (fun kq v3 v18 w' => ∃ (x3_2 : List Int) (x18_2 : Int), v18 = .int .i64 x18_2 ∧ Aside0 (class_Text.l0 kq x3_2 t257 (t257.length : Int) x18_2 = some r) ∧ Aside0 (kq ≤ kj2) ∧ Aside0 (Kd.R (Kd.int .u8) 5 w' w.heap.size (fun _ => True) v3 x3_2) ∧ Aside0 (Kd.R k158 158 w' w.heap.size (fun _ => True) (.slice Ao19 t257.length co19) t257) ∧ Aside0 (w'.heap[gb245]? = some (.cells #[.int .u64 x246000_2, .int .u64 x246001_2, .int .u64 x246002_2, .int .u64 x246003_2] 43 (0, 0))) ∧ Aside0 (Below w.heap.size w w'))
      case atStart => exact ⟨(x3_2), (0), (by first | rfl | (simp; done) | (simp [*]; done)), H', ⟨Nat.le_refl _⟩, ⟨by (with_reducible repeat (first | apply Kd.R_alloc | apply Kd.R_drewN | apply Kd.R_drew)); exact HO_3.out⟩, ⟨by (with_reducible repeat (first | apply Kd.R_alloc | apply Kd.R_drewN | apply Kd.R_drew)); exact HO259.out⟩, ⟨by (with_reducible repeat (first | refine Q19 ?_ _ | refine Q17 ?_ | refine Q15 ?_ _)); exact BK245.out⟩, ⟨by repeat (first | (with_reducible first | exact HB.out | apply Q9 | apply Q7 | apply Q8 | refine Q14 ?_ GE245.out) | exact HB.out)⟩⟩
      case round =>
        clear H'
        try clear c1
        try clear p2
        try clear c6
        try clear c9
        try clear c9b0
        try clear c10
        try clear hcz13_0
        try clear hcz13_1
        try clear hcz13_2
        try clear hcz13_3
        try clear hcz15_0
        try clear hcz15_1
        try clear hcz15_2
        try clear hcz15_3
        try clear hcz17_0
        try clear hcz17_1
        try clear hcz17_2
        try clear hcz17_3
        try clear hcz7_0
        try clear hcz7_1
        try clear hcz7_2
        try clear hcz7_3
        try clear hfz13_0
        try clear hfz13_1
        try clear hfz13_2
        try clear hfz13_3
        try clear hfz15_0
        try clear hfz15_1
        try clear hfz15_2
        try clear hfz15_3
        try clear hfz17_0
        try clear hfz17_1
        try clear hfz17_2
        try clear hfz17_3
        try clear hfz7_0
        try clear hfz7_1
        try clear hfz7_2
        try clear hfz7_3
        try clear p2
        obtain ⟨x3_2, x18_2, rfl, HA, HK2, HO_3, HO_16, BK245, HB⟩ := hrel
        cases gk with
        | zero => exact absurd HA.out (by simp [class_Text.l0])
        | succ k2 =>
          have H := HA.out
          clear HA
          simp only [class_Text.l0] at H
          by_cases c20 : x18_2 < (t257.length : Int)
          · rw [if_pos c20] at H
            have c20b0 : decide (x18_2 < (t257.length : Int)) = true := decide_eq_true c20
            clear c20
            by_cases c21 : 0 ≤ x18_2
            · rw [if_pos c21] at H
              have c21b0 : decide (0 ≤ x18_2) = true := decide_eq_true c21
              clear c21
              by_cases c22 : x18_2 < (t257.length : Int)
              · rw [if_pos c22] at H
                have c22b0 : decide (x18_2 < (t257.length : Int)) = true := decide_eq_true c22
                clear c22
                replace H := Option.bind_eq_some_iff.mp H
                obtain ⟨t265, A230, H⟩ := H
                replace H : (if x3_2.length + t265.size < 140737488355328 then ((some (x3_2 ++ bytesOf t265 : List Int)).bind fun y266 => (if ((((Q20 t257 x18_2).f1) - ((Q20 t257 x18_2).f0)) % 256) > 1 then (if y266.length < 140737488355328 then ((some (y266 ++ [45] : List Int)).bind fun y269 => (if ((Q20 t257 x18_2).f1) > ((Q20 t257 x18_2).f0) then ((class_spelling.f k2 ((Q20 t257 x18_2).f1)).bind fun t272 => (if y269.length + t272.size < 140737488355328 then (class_Text.l0 k2 (y269 ++ bytesOf t272) t257 (t257.length : Int) (wrap64 (x18_2 + 1))) else (none))) else (class_Text.l0 k2 y269 t257 (t257.length : Int) (wrap64 (x18_2 + 1))))) else (none)) else (if ((Q20 t257 x18_2).f1) > ((Q20 t257 x18_2).f0) then ((class_spelling.f k2 ((Q20 t257 x18_2).f1)).bind fun t276 => (if y266.length + t276.size < 140737488355328 then (class_Text.l0 k2 (y266 ++ bytesOf t276) t257 (t257.length : Int) (wrap64 (x18_2 + 1))) else (none))) else (class_Text.l0 k2 y266 t257 (t257.length : Int) (wrap64 (x18_2 + 1)))))) else (none)) = some r := H
                have A23 := Aside0.mk A230
                clear A230
                by_cases c24 : x3_2.length + t265.size < 140737488355328
                · rw [if_pos c24] at H
                  have LMc24 := Aside0.mk c24
                  clear c24
                  obtain ⟨y266, hy266⟩ : ∃ y_ : List Int, y_ = (x3_2 ++ bytesOf t265) := ⟨_, rfl⟩
                  replace H : (if ((((Q20 t257 x18_2).f1) - ((Q20 t257 x18_2).f0)) % 256) > 1 then (if y266.length < 140737488355328 then ((some (y266 ++ [45] : List Int)).bind fun y269 => (if ((Q20 t257 x18_2).f1) > ((Q20 t257 x18_2).f0) then ((class_spelling.f k2 ((Q20 t257 x18_2).f1)).bind fun t272 => (if y269.length + t272.size < 140737488355328 then (class_Text.l0 k2 (y269 ++ bytesOf t272) t257 (t257.length : Int) (wrap64 (x18_2 + 1))) else (none))) else (class_Text.l0 k2 y269 t257 (t257.length : Int) (wrap64 (x18_2 + 1))))) else (none)) else (if ((Q20 t257 x18_2).f1) > ((Q20 t257 x18_2).f0) then ((class_spelling.f k2 ((Q20 t257 x18_2).f1)).bind fun t276 => (if y266.length + t276.size < 140737488355328 then (class_Text.l0 k2 (y266 ++ bytesOf t276) t257 (t257.length : Int) (wrap64 (x18_2 + 1))) else (none))) else (class_Text.l0 k2 y266 t257 (t257.length : Int) (wrap64 (x18_2 + 1))))) = some r := by first | (rw [hy266]; with_reducible exact H) | (have H2_ := (Option.bind_some _ _).symm.trans H; rw [hy266]; with_reducible exact H2_) | (have H2_ := (Option.bind_some _ _).symm.trans H; with_reducible exact H2_) | with_reducible exact H | (rw [hy266]; exact H) | exact H
                  have Ny266 := Aside0.mk hy266
                  clear hy266
                  by_cases c25 : ((((Q20 t257 x18_2).f1) - ((Q20 t257 x18_2).f0)) % 256) > 1
                  · rw [if_pos c25] at H
                    have c25b0 : decide (1 < ((((Q20 t257 x18_2).f1) - ((Q20 t257 x18_2).f0)) % 256)) = true := decide_eq_true c25
                    clear c25
                    by_cases c26 : y266.length < 140737488355328
                    · rw [if_pos c26] at H
                      have LMc26 := Aside0.mk c26
                      clear c26
                      obtain ⟨y269, hy269⟩ : ∃ y_ : List Int, y_ = (y266 ++ [45]) := ⟨_, rfl⟩
                      replace H : (if ((Q20 t257 x18_2).f1) > ((Q20 t257 x18_2).f0) then ((class_spelling.f k2 ((Q20 t257 x18_2).f1)).bind fun t272 => (if y269.length + t272.size < 140737488355328 then (class_Text.l0 k2 (y269 ++ bytesOf t272) t257 (t257.length : Int) (wrap64 (x18_2 + 1))) else (none))) else (class_Text.l0 k2 y269 t257 (t257.length : Int) (wrap64 (x18_2 + 1)))) = some r := by first | (rw [hy269]; with_reducible exact H) | (have H2_ := (Option.bind_some _ _).symm.trans H; rw [hy269]; with_reducible exact H2_) | (have H2_ := (Option.bind_some _ _).symm.trans H; with_reducible exact H2_) | with_reducible exact H | (rw [hy269]; exact H) | exact H
                      have Ny269 := Aside0.mk hy269
                      clear hy269
                      by_cases c27 : ((Q20 t257 x18_2).f1) > ((Q20 t257 x18_2).f0)
                      · rw [if_pos c27] at H
                        have c27b0 : decide (((Q20 t257 x18_2).f0) < ((Q20 t257 x18_2).f1)) = true := decide_eq_true c27
                        clear c27
                        replace H := Option.bind_eq_some_iff.mp H
                        obtain ⟨t272, A280, H⟩ := H
                        replace H : (if y269.length + t272.size < 140737488355328 then (class_Text.l0 k2 (y269 ++ bytesOf t272) t257 (t257.length : Int) (wrap64 (x18_2 + 1))) else (none)) = some r := H
                        have A28 := Aside0.mk A280
                        clear A280
                        by_cases c29 : y269.length + t272.size < 140737488355328
                        · rw [if_pos c29] at H
                          have LMc29 := Aside0.mk c29
                          clear c29
                          obtain ⟨y273, hy273⟩ : ∃ y_ : List Int, y_ = (y269 ++ bytesOf t272) := ⟨_, rfl⟩
                          replace H : (class_Text.l0 k2 y273 t257 (t257.length : Int) (wrap64 (x18_2 + 1))) = some r := by first | (rw [hy273]; with_reducible exact H) | (have H2_ := (Option.bind_some _ _).symm.trans H; rw [hy273]; with_reducible exact H2_) | (have H2_ := (Option.bind_some _ _).symm.trans H; with_reducible exact H2_) | with_reducible exact H | (rw [hy273]; exact H) | exact H
                          have Ny273 := Aside0.mk hy273
                          clear hy273
                          have H' := Aside0.mk H
                          clear H
                          have p263 : 0 ≤ (x18_2 : Int) := of_decide_eq_true (by first | (with_reducible assumption) | assumption)
                          have q263 : x18_2 < (t257.length : Int) := of_decide_eq_true (by first | (with_reducible assumption) | assumption)
                          obtain ⟨ad263, e263, hx263_0, hx263_1⟩ := at_T158 (Kd.R_reads' HO_16.out).2.2 x18_2 p263 q263
                          cases e263
                          replace p263 := eq_true p263
                          replace q263 := eq_true q263
                          go_wp2_with (first | ((with_reducible refine gate_dst (N := 5) rfl ?_); refine box_event ?hg (N := 5) ?hd (cs := #[.int .u8 0, .int .u8 0]) (t := 158) ?hr ?_; (case hd => rfl); (case hg => rfl); (case hr => first | (go_simp; done) | (go_simp; rfl)); intro gb264 hg w30 hbox hb; have n0_ := Aside0.mk (Kd.R_below (by (with_reducible repeat (first | apply Kd.R_alloc | apply Kd.R_drewN | apply Kd.R_drew)); exact HO_3.out) hb); have n1_ := Aside0.mk (Kd.R_below (Kd.R_elderB (by (with_reducible repeat (first | apply Kd.R_alloc | apply Kd.R_drewN | apply Kd.R_drew)); exact HO_16.out) gb264 (Nat.le_of_eq hg.symm)) hb); have n2_ := Aside0.mk (blk_below (g := gb245) (o := .cells #[.int .u64 x246000_2, .int .u64 x246001_2, .int .u64 x246002_2, .int .u64 x246003_2] 43 (0, 0)) (by (with_reducible repeat (first | refine Q19 ?_ _ | refine Q17 ?_ | refine Q15 ?_ _)); exact BK245.out) hb); have n3_ := Aside0.mk (Q27 (by repeat (first | (with_reducible first | exact HB.out | apply Q9 | apply Q7 | apply Q8 | refine Q14 ?_ GE245.out) | exact HB.out)) hb); have n4_ := Aside0.mk (hbox); have n5_ := Aside0.mk ((by rw [hg]; exact (Q23 (by repeat (first | (with_reducible first | exact HB.out | apply Q9 | apply Q7 | apply Q8 | refine Q14 ?_ GE245.out) | exact HB.out))) : w.heap.size ≤ gb264)); have n6_ := Aside0.mk ((by rw [hg]; exact (Q23 (by repeat (first | (with_reducible first | exact HB.out | apply Q9 | apply Q7 | apply Q8 | refine Q14 ?_ GE245.out) | exact HB.out))) : w.heap.size ≤ gb264)); have n7_ := Aside0.mk ((by rw [hg]; exact Nat.ne_of_lt (blk_lt (g := gb245) (o := .cells #[.int .u64 x246000_2, .int .u64 x246001_2, .int .u64 x246002_2, .int .u64 x246003_2] 43 (0, 0)) (by (with_reducible repeat (first | refine Q19 ?_ _ | refine Q17 ?_ | refine Q15 ?_ _)); exact BK245.out)) : gb245 ≠ gb264)); have n8_ := Aside0.mk ((by rw [hg]; exact Nat.ne_of_gt (blk_lt (g := gb245) (o := .cells #[.int .u64 x246000_2, .int .u64 x246001_2, .int .u64 x246002_2, .int .u64 x246003_2] 43 (0, 0)) (by (with_reducible repeat (first | refine Q19 ?_ _ | refine Q17 ?_ | refine Q15 ?_ _)); exact BK245.out)) : gb264 ≠ gb245)); clear HO_3; clear HO_16; clear BK245; clear HB; have HO_3 := n0_; have HO_16 := n1_; have BK245 := n2_; have HB := n3_; have BK264 := n4_; have GW264 := n5_; have GE264 := n6_; have NB245_264 := n7_; have NB264_245 := n8_; clear n0_ n1_ n2_ n3_ n4_ n5_ n6_ n7_ n8_; clear hb hbox hg; have hnb31 := NB264_245.out; have hnc31 := NB245_264.out; have hcz32_0 : w30.cell? ⟨gb264, 0, none⟩ = some (.int .u8 0) := (Q10 BK264.out 0).trans rfl; have hcz32_1 : w30.cell? ⟨gb264, 1, none⟩ = some (.int .u8 0) := (Q10 BK264.out 1).trans rfl; have hfz32_0 := Q11 BK264.out 0; have hfz32_1 := Q11 BK264.out 1) | ((with_reducible refine gate_callee (f := 93) rfl ?_); refine goesL_ (some 25) rfl rfl Try.func93 (by kernel_rfl) rfl #[.int .u8 ((Q20 t257 x18_2).f0)] rfl (by (try simp only [List.map_toArray, List.map_cons, List.map_nil]); first | done | rfl | (simp only [List.length_drop, List.length_take]; rfl)) ?_; (with_reducible refine (class_spelling.calls k2 ((Q20 t257 x18_2).f0) t265 _ A23.out).mono ?_); rintro e w33 ⟨rfl, hb⟩; refine ⟨_, rfl, ?_⟩; have n0_ := Aside0.mk (Kd.R_below (by (with_reducible repeat (first | apply Kd.R_alloc | apply Kd.R_drewN | apply Kd.R_drew)); exact (Kd.R_mono (Kd.R_far (p := ⟨gb264, 1, none⟩) (Kd.R_far (p := ⟨gb264, 0, none⟩) (Kd.R_types HO_3.out BK264.out (by decide)) (fun _ hk => hk.2) (.int .u8 ((Q20 t257 x18_2).f0))) (fun _ hk => hk.2) (.int .u8 ((Q20 t257 x18_2).f1))) (fun _ h_ => h_.1))) hb); have n1_ := Aside0.mk (Kd.R_below (by (with_reducible repeat (first | apply Kd.R_alloc | apply Kd.R_drewN | apply Kd.R_drew)); exact (Kd.R_mono (Kd.R_far (p := ⟨gb264, 1, none⟩) (Kd.R_far (p := ⟨gb264, 0, none⟩) (Kd.R_mono HO_16.out (fun k_ hk => (⟨hk, hk.2⟩ : _ ∧ k_ ≠ gb264))) (fun _ hk => hk.2) (.int .u8 ((Q20 t257 x18_2).f0))) (fun _ hk => hk.2) (.int .u8 ((Q20 t257 x18_2).f1))) (fun _ h_ => h_.1))) hb); have n2_ := Aside0.mk (blk_below (g := gb245) (o := .cells #[.int .u64 x246000_2, .int .u64 x246001_2, .int .u64 x246002_2, .int .u64 x246003_2] 43 (0, 0)) (by (with_reducible repeat (first | refine Q19 ?_ _ | refine Q17 ?_ | refine Q15 ?_ _)); refine blk_far ?_ NB245_264.out _; (with_reducible repeat (first | refine Q19 ?_ _ | refine Q17 ?_ | refine Q15 ?_ _)); refine blk_far ?_ NB245_264.out _; (with_reducible repeat (first | refine Q19 ?_ _ | refine Q17 ?_ | refine Q15 ?_ _)); exact BK245.out) hb); have n3_ := Aside0.mk (blk_below (g := gb264) (o := .cells #[.int .u8 ((Q20 t257 x18_2).f0), .int .u8 ((Q20 t257 x18_2).f1)] 158 (0, 0)) (by (with_reducible repeat (first | refine Q19 ?_ _ | refine Q17 ?_ | refine Q15 ?_ _)); refine blk_put (cs := #[.int .u8 ((Q20 t257 x18_2).f0), .int .u8 0]) ?_ 1 _ rfl; (with_reducible repeat (first | refine Q19 ?_ _ | refine Q17 ?_ | refine Q15 ?_ _)); refine blk_put (cs := #[.int .u8 0, .int .u8 0]) ?_ 0 _ rfl; (with_reducible repeat (first | refine Q19 ?_ _ | refine Q17 ?_ | refine Q15 ?_ _)); exact BK264.out) hb); have n4_ := Aside0.mk (Q27 (by repeat (first | (with_reducible first | exact HB.out | apply Q9 | apply Q7 | apply Q8 | refine Q14 ?_ GE245.out | refine Q14 ?_ GE264.out) | exact HB.out)) hb); clear HO_3; clear HO_16; clear BK245; clear BK264; clear HB; have HO_3 := n0_; have HO_16 := n1_; have BK245 := n2_; have BK264 := n3_; have HB := n4_; clear n0_ n1_ n2_ n3_ n4_; (try clear hb); (try clear hb2); (try clear hk); (try clear hi)) | (at_builtin; refine print_append_str (w0 := w) w.heap.size rfl (.tmp 22) _ 71 9 5 rfl Try.underlying71 Try.underlying9 info5 u3 x3_2 t265 rfl rfl ?aO ?aB ?aS ?aL ?_; (case aB => exact (by repeat (first | (with_reducible first | exact HB.out | apply Q9 | apply Q7 | apply Q8 | refine Q14 ?_ GE245.out | refine Q14 ?_ GE264.out) | exact HB.out))); (case aO => exact (Kd.own_of_R (by (with_reducible repeat (first | apply Kd.R_alloc | apply Kd.R_drewN | apply Kd.R_drew)); exact HO_3.out))); (case aS => exact (Q23 (by repeat (first | (with_reducible first | exact HB.out | apply Q9 | apply Q7 | apply Q8 | refine Q14 ?_ GE245.out | refine Q14 ?_ GE264.out) | exact HB.out)))); (case aL => have := LMc24.out; omega); intro v267 w34 ho0 hb hg; have ho := Kd.R_of_own (h1 := fun _ => rfl) (ok := fun _ => True) ho0 (fun _ _ => trivial); clear ho0; have hat := True.intro; rw [← Ny266.out] at ho; change Kd.R (Kd.int .u8) 5 w34 w.heap.size (fun _ => True) v267 y266 at ho; have n0_ := Aside0.mk (Kd.R_over' (by (with_reducible repeat (first | apply Kd.R_alloc | apply Kd.R_drewN | apply Kd.R_drew)); exact HO_16.out) (Kd.R_typed (by (with_reducible repeat (first | apply Kd.R_alloc | apply Kd.R_drewN | apply Kd.R_drew)); exact HO_3.out)) (by decide) hg); have n1_ := Aside0.mk (blk_grown (g := gb245) (o := .cells #[.int .u64 x246000_2, .int .u64 x246001_2, .int .u64 x246002_2, .int .u64 x246003_2] 43 (0, 0)) (by (with_reducible repeat (first | refine Q19 ?_ _ | refine Q17 ?_ | refine Q15 ?_ _)); exact BK245.out) hg (Kd.R_ne HO_3.out BK245.out (by decide))); have n2_ := Aside0.mk (blk_grown (g := gb264) (o := .cells #[.int .u8 ((Q20 t257 x18_2).f0), .int .u8 ((Q20 t257 x18_2).f1)] 158 (0, 0)) (by (with_reducible repeat (first | refine Q19 ?_ _ | refine Q17 ?_ | refine Q15 ?_ _)); exact BK264.out) hg (Kd.R_ne HO_3.out BK264.out (by decide))); have n3_ := Aside0.mk (hb); have n4_ := Aside0.mk (ho); clear HO_16; clear BK245; clear BK264; clear HB; clear HO_3; have HO_16 := n0_; have BK245 := n1_; have BK264 := n2_; have HB := n3_; have HO268 := n4_; clear n0_ n1_ n2_ n3_ n4_; clear ho hb hg hat; have hcz35_0 : w34.cell? ⟨gb264, 0, none⟩ = some (.int .u8 ((Q20 t257 x18_2).f0)) := (Q10 BK264.out 0).trans rfl; have hcz35_1 : w34.cell? ⟨gb264, 1, none⟩ = some (.int .u8 ((Q20 t257 x18_2).f1)) := (Q10 BK264.out 1).trans rfl; have hfz35_0 := Q11 BK264.out 0; have hfz35_1 := Q11 BK264.out 1) | ((with_reducible refine gate_builtin (b := .append) (xs := #[.tmp 33, .tmp 34]) rfl ?_); at_builtin; refine Kd.R_append (Kd.int .u8) (w0 := w) w.heap.size rfl (.tmp 33) (.tmp 34) 71 5 (.int .u8 0) 1 rfl Try.underlying71 info5 rfl (by decide) (by omega) v267 y266 45 [.int .u8 45] (fun _ => True) (fun _ => False) rfl rfl ?aP (fun _ hk => hk.elim) ?aF ?aO ?aB ?aS ?aL ?_; (case aP => exact rfl); (case aB => exact (by repeat (first | (with_reducible first | exact HB.out | apply Q9 | apply Q7 | apply Q8 | refine Q14 ?_ GE245.out | refine Q14 ?_ GE264.out) | exact HB.out))); (case aF => exact (fun _ _ => trivial)); (case aO => exact (by (with_reducible repeat (first | apply Kd.R_alloc | apply Kd.R_drewN | apply Kd.R_drew)); exact HO268.out)); (case aS => exact (Q23 (by repeat (first | (with_reducible first | exact HB.out | apply Q9 | apply Q7 | apply Q8 | refine Q14 ?_ GE245.out | refine Q14 ?_ GE264.out) | exact HB.out)))); (case aL => have := LMc26.out; omega); intro v270 w36 ho hb hg hat; rw [← Ny269.out] at ho; have n0_ := Aside0.mk (Kd.R_over' (by (with_reducible repeat (first | apply Kd.R_alloc | apply Kd.R_drewN | apply Kd.R_drew)); exact HO_16.out) (Kd.R_typed (by (with_reducible repeat (first | apply Kd.R_alloc | apply Kd.R_drewN | apply Kd.R_drew)); exact HO268.out)) (by decide) hg); have n1_ := Aside0.mk (blk_grown (g := gb245) (o := .cells #[.int .u64 x246000_2, .int .u64 x246001_2, .int .u64 x246002_2, .int .u64 x246003_2] 43 (0, 0)) (by (with_reducible repeat (first | refine Q19 ?_ _ | refine Q17 ?_ | refine Q15 ?_ _)); exact BK245.out) hg (Kd.R_ne HO268.out BK245.out (by decide))); have n2_ := Aside0.mk (blk_grown (g := gb264) (o := .cells #[.int .u8 ((Q20 t257 x18_2).f0), .int .u8 ((Q20 t257 x18_2).f1)] 158 (0, 0)) (by (with_reducible repeat (first | refine Q19 ?_ _ | refine Q17 ?_ | refine Q15 ?_ _)); exact BK264.out) hg (Kd.R_ne HO268.out BK264.out (by decide))); have n3_ := Aside0.mk (hb); have n4_ := Aside0.mk (ho); clear HO_16; clear BK245; clear BK264; clear HB; clear HO268; have HO_16 := n0_; have BK245 := n1_; have BK264 := n2_; have HB := n3_; have HO271 := n4_; clear n0_ n1_ n2_ n3_ n4_; clear ho hb hg hat; have hcz37_0 : w36.cell? ⟨gb264, 0, none⟩ = some (.int .u8 ((Q20 t257 x18_2).f0)) := (Q10 BK264.out 0).trans rfl; have hcz37_1 : w36.cell? ⟨gb264, 1, none⟩ = some (.int .u8 ((Q20 t257 x18_2).f1)) := (Q10 BK264.out 1).trans rfl; have hfz37_0 := Q11 BK264.out 0; have hfz37_1 := Q11 BK264.out 1) | ((with_reducible refine gate_callee (f := 93) rfl ?_); refine goesL_ (some 44) rfl rfl Try.func93 (by kernel_rfl) rfl #[.int .u8 ((Q20 t257 x18_2).f1)] rfl (by (try simp only [List.map_toArray, List.map_cons, List.map_nil]); first | done | rfl | (simp only [List.length_drop, List.length_take]; rfl)) ?_; (with_reducible refine (class_spelling.calls k2 ((Q20 t257 x18_2).f1) t272 _ A28.out).mono ?_); rintro e w38 ⟨rfl, hb⟩; refine ⟨_, rfl, ?_⟩; have n0_ := Aside0.mk (Kd.R_below (by (with_reducible repeat (first | apply Kd.R_alloc | apply Kd.R_drewN | apply Kd.R_drew)); exact HO_16.out) hb); have n1_ := Aside0.mk (Kd.R_below (by (with_reducible repeat (first | apply Kd.R_alloc | apply Kd.R_drewN | apply Kd.R_drew)); exact HO271.out) hb); have n2_ := Aside0.mk (blk_below (g := gb245) (o := .cells #[.int .u64 x246000_2, .int .u64 x246001_2, .int .u64 x246002_2, .int .u64 x246003_2] 43 (0, 0)) (by (with_reducible repeat (first | refine Q19 ?_ _ | refine Q17 ?_ | refine Q15 ?_ _)); exact BK245.out) hb); have n3_ := Aside0.mk (blk_below (g := gb264) (o := .cells #[.int .u8 ((Q20 t257 x18_2).f0), .int .u8 ((Q20 t257 x18_2).f1)] 158 (0, 0)) (by (with_reducible repeat (first | refine Q19 ?_ _ | refine Q17 ?_ | refine Q15 ?_ _)); exact BK264.out) hb); have n4_ := Aside0.mk (Q27 (by repeat (first | (with_reducible first | exact HB.out | apply Q9 | apply Q7 | apply Q8 | refine Q14 ?_ GE245.out | refine Q14 ?_ GE264.out) | exact HB.out)) hb); clear HO_16; clear HO271; clear BK245; clear BK264; clear HB; have HO_16 := n0_; have HO271 := n1_; have BK245 := n2_; have BK264 := n3_; have HB := n4_; clear n0_ n1_ n2_ n3_ n4_; (try clear hb); (try clear hb2); (try clear hk); (try clear hi)) | (at_builtin; refine print_append_str (w0 := w) w.heap.size rfl (.tmp 41) _ 71 9 5 rfl Try.underlying71 Try.underlying9 info5 v270 y269 t272 rfl rfl ?aO ?aB ?aS ?aL ?_; (case aB => exact (by repeat (first | (with_reducible first | exact HB.out | apply Q9 | apply Q7 | apply Q8 | refine Q14 ?_ GE245.out | refine Q14 ?_ GE264.out) | exact HB.out))); (case aO => exact (Kd.own_of_R (by (with_reducible repeat (first | apply Kd.R_alloc | apply Kd.R_drewN | apply Kd.R_drew)); exact HO271.out))); (case aS => exact (Q23 (by repeat (first | (with_reducible first | exact HB.out | apply Q9 | apply Q7 | apply Q8 | refine Q14 ?_ GE245.out | refine Q14 ?_ GE264.out) | exact HB.out)))); (case aL => have := LMc29.out; omega); intro v274 w39 ho0 hb hg; have ho := Kd.R_of_own (h1 := fun _ => rfl) (ok := fun _ => True) ho0 (fun _ _ => trivial); clear ho0; have hat := True.intro; rw [← Ny273.out] at ho; change Kd.R (Kd.int .u8) 5 w39 w.heap.size (fun _ => True) v274 y273 at ho; have n0_ := Aside0.mk (Kd.R_over' (by (with_reducible repeat (first | apply Kd.R_alloc | apply Kd.R_drewN | apply Kd.R_drew)); exact HO_16.out) (Kd.R_typed (by (with_reducible repeat (first | apply Kd.R_alloc | apply Kd.R_drewN | apply Kd.R_drew)); exact HO271.out)) (by decide) hg); have n1_ := Aside0.mk (blk_grown (g := gb245) (o := .cells #[.int .u64 x246000_2, .int .u64 x246001_2, .int .u64 x246002_2, .int .u64 x246003_2] 43 (0, 0)) (by (with_reducible repeat (first | refine Q19 ?_ _ | refine Q17 ?_ | refine Q15 ?_ _)); exact BK245.out) hg (Kd.R_ne HO271.out BK245.out (by decide))); have n2_ := Aside0.mk (blk_grown (g := gb264) (o := .cells #[.int .u8 ((Q20 t257 x18_2).f0), .int .u8 ((Q20 t257 x18_2).f1)] 158 (0, 0)) (by (with_reducible repeat (first | refine Q19 ?_ _ | refine Q17 ?_ | refine Q15 ?_ _)); exact BK264.out) hg (Kd.R_ne HO271.out BK264.out (by decide))); have n3_ := Aside0.mk (hb); have n4_ := Aside0.mk (ho); clear HO_16; clear BK245; clear BK264; clear HB; clear HO271; have HO_16 := n0_; have BK245 := n1_; have BK264 := n2_; have HB := n3_; have HO275 := n4_; clear n0_ n1_ n2_ n3_ n4_; clear ho hb hg hat))
                          go_roundg k2
                          case measure => have := HJ2.out; have := HK2.out; omega
                          case rel => exact ⟨(y273), (wrap64 (x18_2 + 1)), (by first | rfl | (simp; done) | (simp [*]; done)), H', ⟨by have := HJ2.out; have := HK2.out; omega⟩, ⟨by (with_reducible repeat (first | apply Kd.R_alloc | apply Kd.R_drewN | apply Kd.R_drew)); exact HO275.out⟩, ⟨by (with_reducible repeat (first | apply Kd.R_alloc | apply Kd.R_drewN | apply Kd.R_drew)); exact Kd.R_mono HO_16.out (fun _ hk => trivial)⟩, ⟨by (with_reducible repeat (first | refine Q19 ?_ _ | refine Q17 ?_ | refine Q15 ?_ _)); exact BK245.out⟩, ⟨by repeat (first | (with_reducible first | exact HB.out | apply Q9 | apply Q7 | apply Q8 | refine Q14 ?_ GE245.out | refine Q14 ?_ GE264.out) | exact HB.out)⟩⟩
                        · rw [if_neg c29] at H
                          exact absurd H (by simp)
                      · rw [if_neg c27] at H
                        have c27b0 : decide (((Q20 t257 x18_2).f0) < ((Q20 t257 x18_2).f1)) = false := decide_eq_false c27
                        clear c27
                        have H' := Aside0.mk H
                        clear H
                        have p263 : 0 ≤ (x18_2 : Int) := of_decide_eq_true (by first | (with_reducible assumption) | assumption)
                        have q263 : x18_2 < (t257.length : Int) := of_decide_eq_true (by first | (with_reducible assumption) | assumption)
                        obtain ⟨ad263, e263, hx263_0, hx263_1⟩ := at_T158 (Kd.R_reads' HO_16.out).2.2 x18_2 p263 q263
                        cases e263
                        replace p263 := eq_true p263
                        replace q263 := eq_true q263
                        go_wp2_with (first | ((with_reducible refine gate_dst (N := 5) rfl ?_); refine box_event ?hg (N := 5) ?hd (cs := #[.int .u8 0, .int .u8 0]) (t := 158) ?hr ?_; (case hd => rfl); (case hg => rfl); (case hr => first | (go_simp; done) | (go_simp; rfl)); intro gb264 hg w40 hbox hb; have n0_ := Aside0.mk (Kd.R_below (by (with_reducible repeat (first | apply Kd.R_alloc | apply Kd.R_drewN | apply Kd.R_drew)); exact HO_3.out) hb); have n1_ := Aside0.mk (Kd.R_below (Kd.R_elderB (by (with_reducible repeat (first | apply Kd.R_alloc | apply Kd.R_drewN | apply Kd.R_drew)); exact HO_16.out) gb264 (Nat.le_of_eq hg.symm)) hb); have n2_ := Aside0.mk (blk_below (g := gb245) (o := .cells #[.int .u64 x246000_2, .int .u64 x246001_2, .int .u64 x246002_2, .int .u64 x246003_2] 43 (0, 0)) (by (with_reducible repeat (first | refine Q19 ?_ _ | refine Q17 ?_ | refine Q15 ?_ _)); exact BK245.out) hb); have n3_ := Aside0.mk (Q27 (by repeat (first | (with_reducible first | exact HB.out | apply Q9 | apply Q7 | apply Q8 | refine Q14 ?_ GE245.out) | exact HB.out)) hb); have n4_ := Aside0.mk (hbox); have n5_ := Aside0.mk ((by rw [hg]; exact (Q23 (by repeat (first | (with_reducible first | exact HB.out | apply Q9 | apply Q7 | apply Q8 | refine Q14 ?_ GE245.out) | exact HB.out))) : w.heap.size ≤ gb264)); have n6_ := Aside0.mk ((by rw [hg]; exact (Q23 (by repeat (first | (with_reducible first | exact HB.out | apply Q9 | apply Q7 | apply Q8 | refine Q14 ?_ GE245.out) | exact HB.out))) : w.heap.size ≤ gb264)); have n7_ := Aside0.mk ((by rw [hg]; exact Nat.ne_of_lt (blk_lt (g := gb245) (o := .cells #[.int .u64 x246000_2, .int .u64 x246001_2, .int .u64 x246002_2, .int .u64 x246003_2] 43 (0, 0)) (by (with_reducible repeat (first | refine Q19 ?_ _ | refine Q17 ?_ | refine Q15 ?_ _)); exact BK245.out)) : gb245 ≠ gb264)); have n8_ := Aside0.mk ((by rw [hg]; exact Nat.ne_of_gt (blk_lt (g := gb245) (o := .cells #[.int .u64 x246000_2, .int .u64 x246001_2, .int .u64 x246002_2, .int .u64 x246003_2] 43 (0, 0)) (by (with_reducible repeat (first | refine Q19 ?_ _ | refine Q17 ?_ | refine Q15 ?_ _)); exact BK245.out)) : gb264 ≠ gb245)); clear HO_3; clear HO_16; clear BK245; clear HB; have HO_3 := n0_; have HO_16 := n1_; have BK245 := n2_; have HB := n3_; have BK264 := n4_; have GW264 := n5_; have GE264 := n6_; have NB245_264 := n7_; have NB264_245 := n8_; clear n0_ n1_ n2_ n3_ n4_ n5_ n6_ n7_ n8_; clear hb hbox hg; have hnb41 := NB264_245.out; have hnc41 := NB245_264.out; have hcz42_0 : w40.cell? ⟨gb264, 0, none⟩ = some (.int .u8 0) := (Q10 BK264.out 0).trans rfl; have hcz42_1 : w40.cell? ⟨gb264, 1, none⟩ = some (.int .u8 0) := (Q10 BK264.out 1).trans rfl; have hfz42_0 := Q11 BK264.out 0; have hfz42_1 := Q11 BK264.out 1) | ((with_reducible refine gate_callee (f := 93) rfl ?_); refine goesL_ (some 25) rfl rfl Try.func93 (by kernel_rfl) rfl #[.int .u8 ((Q20 t257 x18_2).f0)] rfl (by (try simp only [List.map_toArray, List.map_cons, List.map_nil]); first | done | rfl | (simp only [List.length_drop, List.length_take]; rfl)) ?_; (with_reducible refine (class_spelling.calls k2 ((Q20 t257 x18_2).f0) t265 _ A23.out).mono ?_); rintro e w43 ⟨rfl, hb⟩; refine ⟨_, rfl, ?_⟩; have n0_ := Aside0.mk (Kd.R_below (by (with_reducible repeat (first | apply Kd.R_alloc | apply Kd.R_drewN | apply Kd.R_drew)); exact (Kd.R_mono (Kd.R_far (p := ⟨gb264, 1, none⟩) (Kd.R_far (p := ⟨gb264, 0, none⟩) (Kd.R_types HO_3.out BK264.out (by decide)) (fun _ hk => hk.2) (.int .u8 ((Q20 t257 x18_2).f0))) (fun _ hk => hk.2) (.int .u8 ((Q20 t257 x18_2).f1))) (fun _ h_ => h_.1))) hb); have n1_ := Aside0.mk (Kd.R_below (by (with_reducible repeat (first | apply Kd.R_alloc | apply Kd.R_drewN | apply Kd.R_drew)); exact (Kd.R_mono (Kd.R_far (p := ⟨gb264, 1, none⟩) (Kd.R_far (p := ⟨gb264, 0, none⟩) (Kd.R_mono HO_16.out (fun k_ hk => (⟨hk, hk.2⟩ : _ ∧ k_ ≠ gb264))) (fun _ hk => hk.2) (.int .u8 ((Q20 t257 x18_2).f0))) (fun _ hk => hk.2) (.int .u8 ((Q20 t257 x18_2).f1))) (fun _ h_ => h_.1))) hb); have n2_ := Aside0.mk (blk_below (g := gb245) (o := .cells #[.int .u64 x246000_2, .int .u64 x246001_2, .int .u64 x246002_2, .int .u64 x246003_2] 43 (0, 0)) (by (with_reducible repeat (first | refine Q19 ?_ _ | refine Q17 ?_ | refine Q15 ?_ _)); refine blk_far ?_ NB245_264.out _; (with_reducible repeat (first | refine Q19 ?_ _ | refine Q17 ?_ | refine Q15 ?_ _)); refine blk_far ?_ NB245_264.out _; (with_reducible repeat (first | refine Q19 ?_ _ | refine Q17 ?_ | refine Q15 ?_ _)); exact BK245.out) hb); have n3_ := Aside0.mk (blk_below (g := gb264) (o := .cells #[.int .u8 ((Q20 t257 x18_2).f0), .int .u8 ((Q20 t257 x18_2).f1)] 158 (0, 0)) (by (with_reducible repeat (first | refine Q19 ?_ _ | refine Q17 ?_ | refine Q15 ?_ _)); refine blk_put (cs := #[.int .u8 ((Q20 t257 x18_2).f0), .int .u8 0]) ?_ 1 _ rfl; (with_reducible repeat (first | refine Q19 ?_ _ | refine Q17 ?_ | refine Q15 ?_ _)); refine blk_put (cs := #[.int .u8 0, .int .u8 0]) ?_ 0 _ rfl; (with_reducible repeat (first | refine Q19 ?_ _ | refine Q17 ?_ | refine Q15 ?_ _)); exact BK264.out) hb); have n4_ := Aside0.mk (Q27 (by repeat (first | (with_reducible first | exact HB.out | apply Q9 | apply Q7 | apply Q8 | refine Q14 ?_ GE245.out | refine Q14 ?_ GE264.out) | exact HB.out)) hb); clear HO_3; clear HO_16; clear BK245; clear BK264; clear HB; have HO_3 := n0_; have HO_16 := n1_; have BK245 := n2_; have BK264 := n3_; have HB := n4_; clear n0_ n1_ n2_ n3_ n4_; (try clear hb); (try clear hb2); (try clear hk); (try clear hi)) | (at_builtin; refine print_append_str (w0 := w) w.heap.size rfl (.tmp 22) _ 71 9 5 rfl Try.underlying71 Try.underlying9 info5 u3 x3_2 t265 rfl rfl ?aO ?aB ?aS ?aL ?_; (case aB => exact (by repeat (first | (with_reducible first | exact HB.out | apply Q9 | apply Q7 | apply Q8 | refine Q14 ?_ GE245.out | refine Q14 ?_ GE264.out) | exact HB.out))); (case aO => exact (Kd.own_of_R (by (with_reducible repeat (first | apply Kd.R_alloc | apply Kd.R_drewN | apply Kd.R_drew)); exact HO_3.out))); (case aS => exact (Q23 (by repeat (first | (with_reducible first | exact HB.out | apply Q9 | apply Q7 | apply Q8 | refine Q14 ?_ GE245.out | refine Q14 ?_ GE264.out) | exact HB.out)))); (case aL => have := LMc24.out; omega); intro v267 w44 ho0 hb hg; have ho := Kd.R_of_own (h1 := fun _ => rfl) (ok := fun _ => True) ho0 (fun _ _ => trivial); clear ho0; have hat := True.intro; rw [← Ny266.out] at ho; change Kd.R (Kd.int .u8) 5 w44 w.heap.size (fun _ => True) v267 y266 at ho; have n0_ := Aside0.mk (Kd.R_over' (by (with_reducible repeat (first | apply Kd.R_alloc | apply Kd.R_drewN | apply Kd.R_drew)); exact HO_16.out) (Kd.R_typed (by (with_reducible repeat (first | apply Kd.R_alloc | apply Kd.R_drewN | apply Kd.R_drew)); exact HO_3.out)) (by decide) hg); have n1_ := Aside0.mk (blk_grown (g := gb245) (o := .cells #[.int .u64 x246000_2, .int .u64 x246001_2, .int .u64 x246002_2, .int .u64 x246003_2] 43 (0, 0)) (by (with_reducible repeat (first | refine Q19 ?_ _ | refine Q17 ?_ | refine Q15 ?_ _)); exact BK245.out) hg (Kd.R_ne HO_3.out BK245.out (by decide))); have n2_ := Aside0.mk (blk_grown (g := gb264) (o := .cells #[.int .u8 ((Q20 t257 x18_2).f0), .int .u8 ((Q20 t257 x18_2).f1)] 158 (0, 0)) (by (with_reducible repeat (first | refine Q19 ?_ _ | refine Q17 ?_ | refine Q15 ?_ _)); exact BK264.out) hg (Kd.R_ne HO_3.out BK264.out (by decide))); have n3_ := Aside0.mk (hb); have n4_ := Aside0.mk (ho); clear HO_16; clear BK245; clear BK264; clear HB; clear HO_3; have HO_16 := n0_; have BK245 := n1_; have BK264 := n2_; have HB := n3_; have HO268 := n4_; clear n0_ n1_ n2_ n3_ n4_; clear ho hb hg hat; have hcz45_0 : w44.cell? ⟨gb264, 0, none⟩ = some (.int .u8 ((Q20 t257 x18_2).f0)) := (Q10 BK264.out 0).trans rfl; have hcz45_1 : w44.cell? ⟨gb264, 1, none⟩ = some (.int .u8 ((Q20 t257 x18_2).f1)) := (Q10 BK264.out 1).trans rfl; have hfz45_0 := Q11 BK264.out 0; have hfz45_1 := Q11 BK264.out 1) | ((with_reducible refine gate_builtin (b := .append) (xs := #[.tmp 33, .tmp 34]) rfl ?_); at_builtin; refine Kd.R_append (Kd.int .u8) (w0 := w) w.heap.size rfl (.tmp 33) (.tmp 34) 71 5 (.int .u8 0) 1 rfl Try.underlying71 info5 rfl (by decide) (by omega) v267 y266 45 [.int .u8 45] (fun _ => True) (fun _ => False) rfl rfl ?aP (fun _ hk => hk.elim) ?aF ?aO ?aB ?aS ?aL ?_; (case aP => exact rfl); (case aB => exact (by repeat (first | (with_reducible first | exact HB.out | apply Q9 | apply Q7 | apply Q8 | refine Q14 ?_ GE245.out | refine Q14 ?_ GE264.out) | exact HB.out))); (case aF => exact (fun _ _ => trivial)); (case aO => exact (by (with_reducible repeat (first | apply Kd.R_alloc | apply Kd.R_drewN | apply Kd.R_drew)); exact HO268.out)); (case aS => exact (Q23 (by repeat (first | (with_reducible first | exact HB.out | apply Q9 | apply Q7 | apply Q8 | refine Q14 ?_ GE245.out | refine Q14 ?_ GE264.out) | exact HB.out)))); (case aL => have := LMc26.out; omega); intro v270 w46 ho hb hg hat; rw [← Ny269.out] at ho; have n0_ := Aside0.mk (Kd.R_over' (by (with_reducible repeat (first | apply Kd.R_alloc | apply Kd.R_drewN | apply Kd.R_drew)); exact HO_16.out) (Kd.R_typed (by (with_reducible repeat (first | apply Kd.R_alloc | apply Kd.R_drewN | apply Kd.R_drew)); exact HO268.out)) (by decide) hg); have n1_ := Aside0.mk (blk_grown (g := gb245) (o := .cells #[.int .u64 x246000_2, .int .u64 x246001_2, .int .u64 x246002_2, .int .u64 x246003_2] 43 (0, 0)) (by (with_reducible repeat (first | refine Q19 ?_ _ | refine Q17 ?_ | refine Q15 ?_ _)); exact BK245.out) hg (Kd.R_ne HO268.out BK245.out (by decide))); have n2_ := Aside0.mk (blk_grown (g := gb264) (o := .cells #[.int .u8 ((Q20 t257 x18_2).f0), .int .u8 ((Q20 t257 x18_2).f1)] 158 (0, 0)) (by (with_reducible repeat (first | refine Q19 ?_ _ | refine Q17 ?_ | refine Q15 ?_ _)); exact BK264.out) hg (Kd.R_ne HO268.out BK264.out (by decide))); have n3_ := Aside0.mk (hb); have n4_ := Aside0.mk (ho); clear HO_16; clear BK245; clear BK264; clear HB; clear HO268; have HO_16 := n0_; have BK245 := n1_; have BK264 := n2_; have HB := n3_; have HO271 := n4_; clear n0_ n1_ n2_ n3_ n4_; clear ho hb hg hat; have hcz47_0 : w46.cell? ⟨gb264, 0, none⟩ = some (.int .u8 ((Q20 t257 x18_2).f0)) := (Q10 BK264.out 0).trans rfl; have hcz47_1 : w46.cell? ⟨gb264, 1, none⟩ = some (.int .u8 ((Q20 t257 x18_2).f1)) := (Q10 BK264.out 1).trans rfl; have hfz47_0 := Q11 BK264.out 0; have hfz47_1 := Q11 BK264.out 1))
                        go_roundg k2
                        case measure => have := HJ2.out; have := HK2.out; omega
                        case rel => exact ⟨(y269), (wrap64 (x18_2 + 1)), (by first | rfl | (simp; done) | (simp [*]; done)), H', ⟨by have := HJ2.out; have := HK2.out; omega⟩, ⟨by (with_reducible repeat (first | apply Kd.R_alloc | apply Kd.R_drewN | apply Kd.R_drew)); exact HO271.out⟩, ⟨by (with_reducible repeat (first | apply Kd.R_alloc | apply Kd.R_drewN | apply Kd.R_drew)); exact Kd.R_mono HO_16.out (fun _ hk => trivial)⟩, ⟨by (with_reducible repeat (first | refine Q19 ?_ _ | refine Q17 ?_ | refine Q15 ?_ _)); exact BK245.out⟩, ⟨by repeat (first | (with_reducible first | exact HB.out | apply Q9 | apply Q7 | apply Q8 | refine Q14 ?_ GE245.out | refine Q14 ?_ GE264.out) | exact HB.out)⟩⟩
                    · rw [if_neg c26] at H
                      exact absurd H (by simp)
                  · rw [if_neg c25] at H
                    have c25b0 : decide (1 < ((((Q20 t257 x18_2).f1) - ((Q20 t257 x18_2).f0)) % 256)) = false := decide_eq_false c25
                    clear c25
                    by_cases c48 : ((Q20 t257 x18_2).f1) > ((Q20 t257 x18_2).f0)
                    · rw [if_pos c48] at H
                      have c48b0 : decide (((Q20 t257 x18_2).f0) < ((Q20 t257 x18_2).f1)) = true := decide_eq_true c48
                      clear c48
                      replace H := Option.bind_eq_some_iff.mp H
                      obtain ⟨t276, A490, H⟩ := H
                      replace H : (if y266.length + t276.size < 140737488355328 then (class_Text.l0 k2 (y266 ++ bytesOf t276) t257 (t257.length : Int) (wrap64 (x18_2 + 1))) else (none)) = some r := H
                      have A49 := Aside0.mk A490
                      clear A490
                      by_cases c50 : y266.length + t276.size < 140737488355328
                      · rw [if_pos c50] at H
                        have LMc50 := Aside0.mk c50
                        clear c50
                        obtain ⟨y277, hy277⟩ : ∃ y_ : List Int, y_ = (y266 ++ bytesOf t276) := ⟨_, rfl⟩
                        replace H : (class_Text.l0 k2 y277 t257 (t257.length : Int) (wrap64 (x18_2 + 1))) = some r := by first | (rw [hy277]; with_reducible exact H) | (have H2_ := (Option.bind_some _ _).symm.trans H; rw [hy277]; with_reducible exact H2_) | (have H2_ := (Option.bind_some _ _).symm.trans H; with_reducible exact H2_) | with_reducible exact H | (rw [hy277]; exact H) | exact H
                        have Ny277 := Aside0.mk hy277
                        clear hy277
                        have H' := Aside0.mk H
                        clear H
                        have p263 : 0 ≤ (x18_2 : Int) := of_decide_eq_true (by first | (with_reducible assumption) | assumption)
                        have q263 : x18_2 < (t257.length : Int) := of_decide_eq_true (by first | (with_reducible assumption) | assumption)
                        obtain ⟨ad263, e263, hx263_0, hx263_1⟩ := at_T158 (Kd.R_reads' HO_16.out).2.2 x18_2 p263 q263
                        cases e263
                        replace p263 := eq_true p263
                        replace q263 := eq_true q263
                        go_wp2_with (first | ((with_reducible refine gate_dst (N := 5) rfl ?_); refine box_event ?hg (N := 5) ?hd (cs := #[.int .u8 0, .int .u8 0]) (t := 158) ?hr ?_; (case hd => rfl); (case hg => rfl); (case hr => first | (go_simp; done) | (go_simp; rfl)); intro gb264 hg w51 hbox hb; have n0_ := Aside0.mk (Kd.R_below (by (with_reducible repeat (first | apply Kd.R_alloc | apply Kd.R_drewN | apply Kd.R_drew)); exact HO_3.out) hb); have n1_ := Aside0.mk (Kd.R_below (Kd.R_elderB (by (with_reducible repeat (first | apply Kd.R_alloc | apply Kd.R_drewN | apply Kd.R_drew)); exact HO_16.out) gb264 (Nat.le_of_eq hg.symm)) hb); have n2_ := Aside0.mk (blk_below (g := gb245) (o := .cells #[.int .u64 x246000_2, .int .u64 x246001_2, .int .u64 x246002_2, .int .u64 x246003_2] 43 (0, 0)) (by (with_reducible repeat (first | refine Q19 ?_ _ | refine Q17 ?_ | refine Q15 ?_ _)); exact BK245.out) hb); have n3_ := Aside0.mk (Q27 (by repeat (first | (with_reducible first | exact HB.out | apply Q9 | apply Q7 | apply Q8 | refine Q14 ?_ GE245.out) | exact HB.out)) hb); have n4_ := Aside0.mk (hbox); have n5_ := Aside0.mk ((by rw [hg]; exact (Q23 (by repeat (first | (with_reducible first | exact HB.out | apply Q9 | apply Q7 | apply Q8 | refine Q14 ?_ GE245.out) | exact HB.out))) : w.heap.size ≤ gb264)); have n6_ := Aside0.mk ((by rw [hg]; exact (Q23 (by repeat (first | (with_reducible first | exact HB.out | apply Q9 | apply Q7 | apply Q8 | refine Q14 ?_ GE245.out) | exact HB.out))) : w.heap.size ≤ gb264)); have n7_ := Aside0.mk ((by rw [hg]; exact Nat.ne_of_lt (blk_lt (g := gb245) (o := .cells #[.int .u64 x246000_2, .int .u64 x246001_2, .int .u64 x246002_2, .int .u64 x246003_2] 43 (0, 0)) (by (with_reducible repeat (first | refine Q19 ?_ _ | refine Q17 ?_ | refine Q15 ?_ _)); exact BK245.out)) : gb245 ≠ gb264)); have n8_ := Aside0.mk ((by rw [hg]; exact Nat.ne_of_gt (blk_lt (g := gb245) (o := .cells #[.int .u64 x246000_2, .int .u64 x246001_2, .int .u64 x246002_2, .int .u64 x246003_2] 43 (0, 0)) (by (with_reducible repeat (first | refine Q19 ?_ _ | refine Q17 ?_ | refine Q15 ?_ _)); exact BK245.out)) : gb264 ≠ gb245)); clear HO_3; clear HO_16; clear BK245; clear HB; have HO_3 := n0_; have HO_16 := n1_; have BK245 := n2_; have HB := n3_; have BK264 := n4_; have GW264 := n5_; have GE264 := n6_; have NB245_264 := n7_; have NB264_245 := n8_; clear n0_ n1_ n2_ n3_ n4_ n5_ n6_ n7_ n8_; clear hb hbox hg; have hnb52 := NB264_245.out; have hnc52 := NB245_264.out; have hcz53_0 : w51.cell? ⟨gb264, 0, none⟩ = some (.int .u8 0) := (Q10 BK264.out 0).trans rfl; have hcz53_1 : w51.cell? ⟨gb264, 1, none⟩ = some (.int .u8 0) := (Q10 BK264.out 1).trans rfl; have hfz53_0 := Q11 BK264.out 0; have hfz53_1 := Q11 BK264.out 1) | ((with_reducible refine gate_callee (f := 93) rfl ?_); refine goesL_ (some 25) rfl rfl Try.func93 (by kernel_rfl) rfl #[.int .u8 ((Q20 t257 x18_2).f0)] rfl (by (try simp only [List.map_toArray, List.map_cons, List.map_nil]); first | done | rfl | (simp only [List.length_drop, List.length_take]; rfl)) ?_; (with_reducible refine (class_spelling.calls k2 ((Q20 t257 x18_2).f0) t265 _ A23.out).mono ?_); rintro e w54 ⟨rfl, hb⟩; refine ⟨_, rfl, ?_⟩; have n0_ := Aside0.mk (Kd.R_below (by (with_reducible repeat (first | apply Kd.R_alloc | apply Kd.R_drewN | apply Kd.R_drew)); exact (Kd.R_mono (Kd.R_far (p := ⟨gb264, 1, none⟩) (Kd.R_far (p := ⟨gb264, 0, none⟩) (Kd.R_types HO_3.out BK264.out (by decide)) (fun _ hk => hk.2) (.int .u8 ((Q20 t257 x18_2).f0))) (fun _ hk => hk.2) (.int .u8 ((Q20 t257 x18_2).f1))) (fun _ h_ => h_.1))) hb); have n1_ := Aside0.mk (Kd.R_below (by (with_reducible repeat (first | apply Kd.R_alloc | apply Kd.R_drewN | apply Kd.R_drew)); exact (Kd.R_mono (Kd.R_far (p := ⟨gb264, 1, none⟩) (Kd.R_far (p := ⟨gb264, 0, none⟩) (Kd.R_mono HO_16.out (fun k_ hk => (⟨hk, hk.2⟩ : _ ∧ k_ ≠ gb264))) (fun _ hk => hk.2) (.int .u8 ((Q20 t257 x18_2).f0))) (fun _ hk => hk.2) (.int .u8 ((Q20 t257 x18_2).f1))) (fun _ h_ => h_.1))) hb); have n2_ := Aside0.mk (blk_below (g := gb245) (o := .cells #[.int .u64 x246000_2, .int .u64 x246001_2, .int .u64 x246002_2, .int .u64 x246003_2] 43 (0, 0)) (by (with_reducible repeat (first | refine Q19 ?_ _ | refine Q17 ?_ | refine Q15 ?_ _)); refine blk_far ?_ NB245_264.out _; (with_reducible repeat (first | refine Q19 ?_ _ | refine Q17 ?_ | refine Q15 ?_ _)); refine blk_far ?_ NB245_264.out _; (with_reducible repeat (first | refine Q19 ?_ _ | refine Q17 ?_ | refine Q15 ?_ _)); exact BK245.out) hb); have n3_ := Aside0.mk (blk_below (g := gb264) (o := .cells #[.int .u8 ((Q20 t257 x18_2).f0), .int .u8 ((Q20 t257 x18_2).f1)] 158 (0, 0)) (by (with_reducible repeat (first | refine Q19 ?_ _ | refine Q17 ?_ | refine Q15 ?_ _)); refine blk_put (cs := #[.int .u8 ((Q20 t257 x18_2).f0), .int .u8 0]) ?_ 1 _ rfl; (with_reducible repeat (first | refine Q19 ?_ _ | refine Q17 ?_ | refine Q15 ?_ _)); refine blk_put (cs := #[.int .u8 0, .int .u8 0]) ?_ 0 _ rfl; (with_reducible repeat (first | refine Q19 ?_ _ | refine Q17 ?_ | refine Q15 ?_ _)); exact BK264.out) hb); have n4_ := Aside0.mk (Q27 (by repeat (first | (with_reducible first | exact HB.out | apply Q9 | apply Q7 | apply Q8 | refine Q14 ?_ GE245.out | refine Q14 ?_ GE264.out) | exact HB.out)) hb); clear HO_3; clear HO_16; clear BK245; clear BK264; clear HB; have HO_3 := n0_; have HO_16 := n1_; have BK245 := n2_; have BK264 := n3_; have HB := n4_; clear n0_ n1_ n2_ n3_ n4_; (try clear hb); (try clear hb2); (try clear hk); (try clear hi)) | (at_builtin; refine print_append_str (w0 := w) w.heap.size rfl (.tmp 22) _ 71 9 5 rfl Try.underlying71 Try.underlying9 info5 u3 x3_2 t265 rfl rfl ?aO ?aB ?aS ?aL ?_; (case aB => exact (by repeat (first | (with_reducible first | exact HB.out | apply Q9 | apply Q7 | apply Q8 | refine Q14 ?_ GE245.out | refine Q14 ?_ GE264.out) | exact HB.out))); (case aO => exact (Kd.own_of_R (by (with_reducible repeat (first | apply Kd.R_alloc | apply Kd.R_drewN | apply Kd.R_drew)); exact HO_3.out))); (case aS => exact (Q23 (by repeat (first | (with_reducible first | exact HB.out | apply Q9 | apply Q7 | apply Q8 | refine Q14 ?_ GE245.out | refine Q14 ?_ GE264.out) | exact HB.out)))); (case aL => have := LMc24.out; omega); intro v267 w55 ho0 hb hg; have ho := Kd.R_of_own (h1 := fun _ => rfl) (ok := fun _ => True) ho0 (fun _ _ => trivial); clear ho0; have hat := True.intro; rw [← Ny266.out] at ho; change Kd.R (Kd.int .u8) 5 w55 w.heap.size (fun _ => True) v267 y266 at ho; have n0_ := Aside0.mk (Kd.R_over' (by (with_reducible repeat (first | apply Kd.R_alloc | apply Kd.R_drewN | apply Kd.R_drew)); exact HO_16.out) (Kd.R_typed (by (with_reducible repeat (first | apply Kd.R_alloc | apply Kd.R_drewN | apply Kd.R_drew)); exact HO_3.out)) (by decide) hg); have n1_ := Aside0.mk (blk_grown (g := gb245) (o := .cells #[.int .u64 x246000_2, .int .u64 x246001_2, .int .u64 x246002_2, .int .u64 x246003_2] 43 (0, 0)) (by (with_reducible repeat (first | refine Q19 ?_ _ | refine Q17 ?_ | refine Q15 ?_ _)); exact BK245.out) hg (Kd.R_ne HO_3.out BK245.out (by decide))); have n2_ := Aside0.mk (blk_grown (g := gb264) (o := .cells #[.int .u8 ((Q20 t257 x18_2).f0), .int .u8 ((Q20 t257 x18_2).f1)] 158 (0, 0)) (by (with_reducible repeat (first | refine Q19 ?_ _ | refine Q17 ?_ | refine Q15 ?_ _)); exact BK264.out) hg (Kd.R_ne HO_3.out BK264.out (by decide))); have n3_ := Aside0.mk (hb); have n4_ := Aside0.mk (ho); clear HO_16; clear BK245; clear BK264; clear HB; clear HO_3; have HO_16 := n0_; have BK245 := n1_; have BK264 := n2_; have HB := n3_; have HO268 := n4_; clear n0_ n1_ n2_ n3_ n4_; clear ho hb hg hat; have hcz56_0 : w55.cell? ⟨gb264, 0, none⟩ = some (.int .u8 ((Q20 t257 x18_2).f0)) := (Q10 BK264.out 0).trans rfl; have hcz56_1 : w55.cell? ⟨gb264, 1, none⟩ = some (.int .u8 ((Q20 t257 x18_2).f1)) := (Q10 BK264.out 1).trans rfl; have hfz56_0 := Q11 BK264.out 0; have hfz56_1 := Q11 BK264.out 1) | ((with_reducible refine gate_callee (f := 93) rfl ?_); refine goesL_ (some 44) rfl rfl Try.func93 (by kernel_rfl) rfl #[.int .u8 ((Q20 t257 x18_2).f1)] rfl (by (try simp only [List.map_toArray, List.map_cons, List.map_nil]); first | done | rfl | (simp only [List.length_drop, List.length_take]; rfl)) ?_; (with_reducible refine (class_spelling.calls k2 ((Q20 t257 x18_2).f1) t276 _ A49.out).mono ?_); rintro e w57 ⟨rfl, hb⟩; refine ⟨_, rfl, ?_⟩; have n0_ := Aside0.mk (Kd.R_below (by (with_reducible repeat (first | apply Kd.R_alloc | apply Kd.R_drewN | apply Kd.R_drew)); exact HO_16.out) hb); have n1_ := Aside0.mk (Kd.R_below (by (with_reducible repeat (first | apply Kd.R_alloc | apply Kd.R_drewN | apply Kd.R_drew)); exact HO268.out) hb); have n2_ := Aside0.mk (blk_below (g := gb245) (o := .cells #[.int .u64 x246000_2, .int .u64 x246001_2, .int .u64 x246002_2, .int .u64 x246003_2] 43 (0, 0)) (by (with_reducible repeat (first | refine Q19 ?_ _ | refine Q17 ?_ | refine Q15 ?_ _)); exact BK245.out) hb); have n3_ := Aside0.mk (blk_below (g := gb264) (o := .cells #[.int .u8 ((Q20 t257 x18_2).f0), .int .u8 ((Q20 t257 x18_2).f1)] 158 (0, 0)) (by (with_reducible repeat (first | refine Q19 ?_ _ | refine Q17 ?_ | refine Q15 ?_ _)); exact BK264.out) hb); have n4_ := Aside0.mk (Q27 (by repeat (first | (with_reducible first | exact HB.out | apply Q9 | apply Q7 | apply Q8 | refine Q14 ?_ GE245.out | refine Q14 ?_ GE264.out) | exact HB.out)) hb); clear HO_16; clear HO268; clear BK245; clear BK264; clear HB; have HO_16 := n0_; have HO268 := n1_; have BK245 := n2_; have BK264 := n3_; have HB := n4_; clear n0_ n1_ n2_ n3_ n4_; (try clear hb); (try clear hb2); (try clear hk); (try clear hi)) | (at_builtin; refine print_append_str (w0 := w) w.heap.size rfl (.tmp 41) _ 71 9 5 rfl Try.underlying71 Try.underlying9 info5 v267 y266 t276 rfl rfl ?aO ?aB ?aS ?aL ?_; (case aB => exact (by repeat (first | (with_reducible first | exact HB.out | apply Q9 | apply Q7 | apply Q8 | refine Q14 ?_ GE245.out | refine Q14 ?_ GE264.out) | exact HB.out))); (case aO => exact (Kd.own_of_R (by (with_reducible repeat (first | apply Kd.R_alloc | apply Kd.R_drewN | apply Kd.R_drew)); exact HO268.out))); (case aS => exact (Q23 (by repeat (first | (with_reducible first | exact HB.out | apply Q9 | apply Q7 | apply Q8 | refine Q14 ?_ GE245.out | refine Q14 ?_ GE264.out) | exact HB.out)))); (case aL => have := LMc50.out; omega); intro v278 w58 ho0 hb hg; have ho := Kd.R_of_own (h1 := fun _ => rfl) (ok := fun _ => True) ho0 (fun _ _ => trivial); clear ho0; have hat := True.intro; rw [← Ny277.out] at ho; change Kd.R (Kd.int .u8) 5 w58 w.heap.size (fun _ => True) v278 y277 at ho; have n0_ := Aside0.mk (Kd.R_over' (by (with_reducible repeat (first | apply Kd.R_alloc | apply Kd.R_drewN | apply Kd.R_drew)); exact HO_16.out) (Kd.R_typed (by (with_reducible repeat (first | apply Kd.R_alloc | apply Kd.R_drewN | apply Kd.R_drew)); exact HO268.out)) (by decide) hg); have n1_ := Aside0.mk (blk_grown (g := gb245) (o := .cells #[.int .u64 x246000_2, .int .u64 x246001_2, .int .u64 x246002_2, .int .u64 x246003_2] 43 (0, 0)) (by (with_reducible repeat (first | refine Q19 ?_ _ | refine Q17 ?_ | refine Q15 ?_ _)); exact BK245.out) hg (Kd.R_ne HO268.out BK245.out (by decide))); have n2_ := Aside0.mk (blk_grown (g := gb264) (o := .cells #[.int .u8 ((Q20 t257 x18_2).f0), .int .u8 ((Q20 t257 x18_2).f1)] 158 (0, 0)) (by (with_reducible repeat (first | refine Q19 ?_ _ | refine Q17 ?_ | refine Q15 ?_ _)); exact BK264.out) hg (Kd.R_ne HO268.out BK264.out (by decide))); have n3_ := Aside0.mk (hb); have n4_ := Aside0.mk (ho); clear HO_16; clear BK245; clear BK264; clear HB; clear HO268; have HO_16 := n0_; have BK245 := n1_; have BK264 := n2_; have HB := n3_; have HO279 := n4_; clear n0_ n1_ n2_ n3_ n4_; clear ho hb hg hat))
                        go_roundg k2
                        case measure => have := HJ2.out; have := HK2.out; omega
                        case rel => exact ⟨(y277), (wrap64 (x18_2 + 1)), (by first | rfl | (simp; done) | (simp [*]; done)), H', ⟨by have := HJ2.out; have := HK2.out; omega⟩, ⟨by (with_reducible repeat (first | apply Kd.R_alloc | apply Kd.R_drewN | apply Kd.R_drew)); exact HO279.out⟩, ⟨by (with_reducible repeat (first | apply Kd.R_alloc | apply Kd.R_drewN | apply Kd.R_drew)); exact Kd.R_mono HO_16.out (fun _ hk => trivial)⟩, ⟨by (with_reducible repeat (first | refine Q19 ?_ _ | refine Q17 ?_ | refine Q15 ?_ _)); exact BK245.out⟩, ⟨by repeat (first | (with_reducible first | exact HB.out | apply Q9 | apply Q7 | apply Q8 | refine Q14 ?_ GE245.out | refine Q14 ?_ GE264.out) | exact HB.out)⟩⟩
                      · rw [if_neg c50] at H
                        exact absurd H (by simp)
                    · rw [if_neg c48] at H
                      have c48b0 : decide (((Q20 t257 x18_2).f0) < ((Q20 t257 x18_2).f1)) = false := decide_eq_false c48
                      clear c48
                      have H' := Aside0.mk H
                      clear H
                      have p263 : 0 ≤ (x18_2 : Int) := of_decide_eq_true (by first | (with_reducible assumption) | assumption)
                      have q263 : x18_2 < (t257.length : Int) := of_decide_eq_true (by first | (with_reducible assumption) | assumption)
                      obtain ⟨ad263, e263, hx263_0, hx263_1⟩ := at_T158 (Kd.R_reads' HO_16.out).2.2 x18_2 p263 q263
                      cases e263
                      replace p263 := eq_true p263
                      replace q263 := eq_true q263
                      go_wp2_with (first | ((with_reducible refine gate_dst (N := 5) rfl ?_); refine box_event ?hg (N := 5) ?hd (cs := #[.int .u8 0, .int .u8 0]) (t := 158) ?hr ?_; (case hd => rfl); (case hg => rfl); (case hr => first | (go_simp; done) | (go_simp; rfl)); intro gb264 hg w59 hbox hb; have n0_ := Aside0.mk (Kd.R_below (by (with_reducible repeat (first | apply Kd.R_alloc | apply Kd.R_drewN | apply Kd.R_drew)); exact HO_3.out) hb); have n1_ := Aside0.mk (Kd.R_below (Kd.R_elderB (by (with_reducible repeat (first | apply Kd.R_alloc | apply Kd.R_drewN | apply Kd.R_drew)); exact HO_16.out) gb264 (Nat.le_of_eq hg.symm)) hb); have n2_ := Aside0.mk (blk_below (g := gb245) (o := .cells #[.int .u64 x246000_2, .int .u64 x246001_2, .int .u64 x246002_2, .int .u64 x246003_2] 43 (0, 0)) (by (with_reducible repeat (first | refine Q19 ?_ _ | refine Q17 ?_ | refine Q15 ?_ _)); exact BK245.out) hb); have n3_ := Aside0.mk (Q27 (by repeat (first | (with_reducible first | exact HB.out | apply Q9 | apply Q7 | apply Q8 | refine Q14 ?_ GE245.out) | exact HB.out)) hb); have n4_ := Aside0.mk (hbox); have n5_ := Aside0.mk ((by rw [hg]; exact (Q23 (by repeat (first | (with_reducible first | exact HB.out | apply Q9 | apply Q7 | apply Q8 | refine Q14 ?_ GE245.out) | exact HB.out))) : w.heap.size ≤ gb264)); have n6_ := Aside0.mk ((by rw [hg]; exact (Q23 (by repeat (first | (with_reducible first | exact HB.out | apply Q9 | apply Q7 | apply Q8 | refine Q14 ?_ GE245.out) | exact HB.out))) : w.heap.size ≤ gb264)); have n7_ := Aside0.mk ((by rw [hg]; exact Nat.ne_of_lt (blk_lt (g := gb245) (o := .cells #[.int .u64 x246000_2, .int .u64 x246001_2, .int .u64 x246002_2, .int .u64 x246003_2] 43 (0, 0)) (by (with_reducible repeat (first | refine Q19 ?_ _ | refine Q17 ?_ | refine Q15 ?_ _)); exact BK245.out)) : gb245 ≠ gb264)); have n8_ := Aside0.mk ((by rw [hg]; exact Nat.ne_of_gt (blk_lt (g := gb245) (o := .cells #[.int .u64 x246000_2, .int .u64 x246001_2, .int .u64 x246002_2, .int .u64 x246003_2] 43 (0, 0)) (by (with_reducible repeat (first | refine Q19 ?_ _ | refine Q17 ?_ | refine Q15 ?_ _)); exact BK245.out)) : gb264 ≠ gb245)); clear HO_3; clear HO_16; clear BK245; clear HB; have HO_3 := n0_; have HO_16 := n1_; have BK245 := n2_; have HB := n3_; have BK264 := n4_; have GW264 := n5_; have GE264 := n6_; have NB245_264 := n7_; have NB264_245 := n8_; clear n0_ n1_ n2_ n3_ n4_ n5_ n6_ n7_ n8_; clear hb hbox hg; have hnb60 := NB264_245.out; have hnc60 := NB245_264.out; have hcz61_0 : w59.cell? ⟨gb264, 0, none⟩ = some (.int .u8 0) := (Q10 BK264.out 0).trans rfl; have hcz61_1 : w59.cell? ⟨gb264, 1, none⟩ = some (.int .u8 0) := (Q10 BK264.out 1).trans rfl; have hfz61_0 := Q11 BK264.out 0; have hfz61_1 := Q11 BK264.out 1) | ((with_reducible refine gate_callee (f := 93) rfl ?_); refine goesL_ (some 25) rfl rfl Try.func93 (by kernel_rfl) rfl #[.int .u8 ((Q20 t257 x18_2).f0)] rfl (by (try simp only [List.map_toArray, List.map_cons, List.map_nil]); first | done | rfl | (simp only [List.length_drop, List.length_take]; rfl)) ?_; (with_reducible refine (class_spelling.calls k2 ((Q20 t257 x18_2).f0) t265 _ A23.out).mono ?_); rintro e w62 ⟨rfl, hb⟩; refine ⟨_, rfl, ?_⟩; have n0_ := Aside0.mk (Kd.R_below (by (with_reducible repeat (first | apply Kd.R_alloc | apply Kd.R_drewN | apply Kd.R_drew)); exact (Kd.R_mono (Kd.R_far (p := ⟨gb264, 1, none⟩) (Kd.R_far (p := ⟨gb264, 0, none⟩) (Kd.R_types HO_3.out BK264.out (by decide)) (fun _ hk => hk.2) (.int .u8 ((Q20 t257 x18_2).f0))) (fun _ hk => hk.2) (.int .u8 ((Q20 t257 x18_2).f1))) (fun _ h_ => h_.1))) hb); have n1_ := Aside0.mk (Kd.R_below (by (with_reducible repeat (first | apply Kd.R_alloc | apply Kd.R_drewN | apply Kd.R_drew)); exact (Kd.R_mono (Kd.R_far (p := ⟨gb264, 1, none⟩) (Kd.R_far (p := ⟨gb264, 0, none⟩) (Kd.R_mono HO_16.out (fun k_ hk => (⟨hk, hk.2⟩ : _ ∧ k_ ≠ gb264))) (fun _ hk => hk.2) (.int .u8 ((Q20 t257 x18_2).f0))) (fun _ hk => hk.2) (.int .u8 ((Q20 t257 x18_2).f1))) (fun _ h_ => h_.1))) hb); have n2_ := Aside0.mk (blk_below (g := gb245) (o := .cells #[.int .u64 x246000_2, .int .u64 x246001_2, .int .u64 x246002_2, .int .u64 x246003_2] 43 (0, 0)) (by (with_reducible repeat (first | refine Q19 ?_ _ | refine Q17 ?_ | refine Q15 ?_ _)); refine blk_far ?_ NB245_264.out _; (with_reducible repeat (first | refine Q19 ?_ _ | refine Q17 ?_ | refine Q15 ?_ _)); refine blk_far ?_ NB245_264.out _; (with_reducible repeat (first | refine Q19 ?_ _ | refine Q17 ?_ | refine Q15 ?_ _)); exact BK245.out) hb); have n3_ := Aside0.mk (blk_below (g := gb264) (o := .cells #[.int .u8 ((Q20 t257 x18_2).f0), .int .u8 ((Q20 t257 x18_2).f1)] 158 (0, 0)) (by (with_reducible repeat (first | refine Q19 ?_ _ | refine Q17 ?_ | refine Q15 ?_ _)); refine blk_put (cs := #[.int .u8 ((Q20 t257 x18_2).f0), .int .u8 0]) ?_ 1 _ rfl; (with_reducible repeat (first | refine Q19 ?_ _ | refine Q17 ?_ | refine Q15 ?_ _)); refine blk_put (cs := #[.int .u8 0, .int .u8 0]) ?_ 0 _ rfl; (with_reducible repeat (first | refine Q19 ?_ _ | refine Q17 ?_ | refine Q15 ?_ _)); exact BK264.out) hb); have n4_ := Aside0.mk (Q27 (by repeat (first | (with_reducible first | exact HB.out | apply Q9 | apply Q7 | apply Q8 | refine Q14 ?_ GE245.out | refine Q14 ?_ GE264.out) | exact HB.out)) hb); clear HO_3; clear HO_16; clear BK245; clear BK264; clear HB; have HO_3 := n0_; have HO_16 := n1_; have BK245 := n2_; have BK264 := n3_; have HB := n4_; clear n0_ n1_ n2_ n3_ n4_; (try clear hb); (try clear hb2); (try clear hk); (try clear hi)) | (at_builtin; refine print_append_str (w0 := w) w.heap.size rfl (.tmp 22) _ 71 9 5 rfl Try.underlying71 Try.underlying9 info5 u3 x3_2 t265 rfl rfl ?aO ?aB ?aS ?aL ?_; (case aB => exact (by repeat (first | (with_reducible first | exact HB.out | apply Q9 | apply Q7 | apply Q8 | refine Q14 ?_ GE245.out | refine Q14 ?_ GE264.out) | exact HB.out))); (case aO => exact (Kd.own_of_R (by (with_reducible repeat (first | apply Kd.R_alloc | apply Kd.R_drewN | apply Kd.R_drew)); exact HO_3.out))); (case aS => exact (Q23 (by repeat (first | (with_reducible first | exact HB.out | apply Q9 | apply Q7 | apply Q8 | refine Q14 ?_ GE245.out | refine Q14 ?_ GE264.out) | exact HB.out)))); (case aL => have := LMc24.out; omega); intro v267 w63 ho0 hb hg; have ho := Kd.R_of_own (h1 := fun _ => rfl) (ok := fun _ => True) ho0 (fun _ _ => trivial); clear ho0; have hat := True.intro; rw [← Ny266.out] at ho; change Kd.R (Kd.int .u8) 5 w63 w.heap.size (fun _ => True) v267 y266 at ho; have n0_ := Aside0.mk (Kd.R_over' (by (with_reducible repeat (first | apply Kd.R_alloc | apply Kd.R_drewN | apply Kd.R_drew)); exact HO_16.out) (Kd.R_typed (by (with_reducible repeat (first | apply Kd.R_alloc | apply Kd.R_drewN | apply Kd.R_drew)); exact HO_3.out)) (by decide) hg); have n1_ := Aside0.mk (blk_grown (g := gb245) (o := .cells #[.int .u64 x246000_2, .int .u64 x246001_2, .int .u64 x246002_2, .int .u64 x246003_2] 43 (0, 0)) (by (with_reducible repeat (first | refine Q19 ?_ _ | refine Q17 ?_ | refine Q15 ?_ _)); exact BK245.out) hg (Kd.R_ne HO_3.out BK245.out (by decide))); have n2_ := Aside0.mk (blk_grown (g := gb264) (o := .cells #[.int .u8 ((Q20 t257 x18_2).f0), .int .u8 ((Q20 t257 x18_2).f1)] 158 (0, 0)) (by (with_reducible repeat (first | refine Q19 ?_ _ | refine Q17 ?_ | refine Q15 ?_ _)); exact BK264.out) hg (Kd.R_ne HO_3.out BK264.out (by decide))); have n3_ := Aside0.mk (hb); have n4_ := Aside0.mk (ho); clear HO_16; clear BK245; clear BK264; clear HB; clear HO_3; have HO_16 := n0_; have BK245 := n1_; have BK264 := n2_; have HB := n3_; have HO268 := n4_; clear n0_ n1_ n2_ n3_ n4_; clear ho hb hg hat; have hcz64_0 : w63.cell? ⟨gb264, 0, none⟩ = some (.int .u8 ((Q20 t257 x18_2).f0)) := (Q10 BK264.out 0).trans rfl; have hcz64_1 : w63.cell? ⟨gb264, 1, none⟩ = some (.int .u8 ((Q20 t257 x18_2).f1)) := (Q10 BK264.out 1).trans rfl; have hfz64_0 := Q11 BK264.out 0; have hfz64_1 := Q11 BK264.out 1))
                      go_roundg k2
                      case measure => have := HJ2.out; have := HK2.out; omega
                      case rel => exact ⟨(y266), (wrap64 (x18_2 + 1)), (by first | rfl | (simp; done) | (simp [*]; done)), H', ⟨by have := HJ2.out; have := HK2.out; omega⟩, ⟨by (with_reducible repeat (first | apply Kd.R_alloc | apply Kd.R_drewN | apply Kd.R_drew)); exact HO268.out⟩, ⟨by (with_reducible repeat (first | apply Kd.R_alloc | apply Kd.R_drewN | apply Kd.R_drew)); exact Kd.R_mono HO_16.out (fun _ hk => trivial)⟩, ⟨by (with_reducible repeat (first | refine Q19 ?_ _ | refine Q17 ?_ | refine Q15 ?_ _)); exact BK245.out⟩, ⟨by repeat (first | (with_reducible first | exact HB.out | apply Q9 | apply Q7 | apply Q8 | refine Q14 ?_ GE245.out | refine Q14 ?_ GE264.out) | exact HB.out)⟩⟩
                · rw [if_neg c24] at H
                  exact absurd H (by simp)
              · rw [if_neg c22] at H
                exact absurd H (by simp)
            · rw [if_neg c21] at H
              exact absurd H (by simp)
          · rw [if_neg c20] at H
            have c20b0 : decide (x18_2 < (t257.length : Int)) = false := decide_eq_false c20
            clear c20
            by_cases c65 : x3_2.length < 140737488355328
            · rw [if_pos c65] at H
              have LMc65 := Aside0.mk c65
              clear c65
              obtain ⟨y260, hy260⟩ : ∃ y_ : List Int, y_ = (x3_2 ++ [93]) := ⟨_, rfl⟩
              replace H : (some (strOfNums y260)) = some r := by first | (rw [hy260]; with_reducible exact H) | (have H2_ := (Option.bind_some _ _).symm.trans H; rw [hy260]; with_reducible exact H2_) | (have H2_ := (Option.bind_some _ _).symm.trans H; with_reducible exact H2_) | with_reducible exact H | (rw [hy260]; exact H) | exact H
              have Ny260 := Aside0.mk hy260
              clear hy260
              obtain rfl := Option.some.inj H
              go_wp2_with (first | ((with_reducible refine gate_builtin (b := .append) (xs := #[.tmp 47, .tmp 48]) rfl ?_); at_builtin; refine Kd.R_append (Kd.int .u8) (w0 := w) w.heap.size rfl (.tmp 47) (.tmp 48) 71 5 (.int .u8 0) 1 rfl Try.underlying71 info5 rfl (by decide) (by omega) u3 x3_2 93 [.int .u8 93] (fun _ => True) (fun _ => False) rfl rfl ?aP (fun _ hk => hk.elim) ?aF ?aO ?aB ?aS ?aL ?_; (case aP => exact rfl); (case aB => exact (by repeat (first | (with_reducible first | exact HB.out | apply Q9 | apply Q7 | apply Q8 | refine Q14 ?_ GE245.out) | exact HB.out))); (case aF => exact (fun _ _ => trivial)); (case aO => exact (by (with_reducible repeat (first | apply Kd.R_alloc | apply Kd.R_drewN | apply Kd.R_drew)); exact HO_3.out)); (case aS => exact (Q23 (by repeat (first | (with_reducible first | exact HB.out | apply Q9 | apply Q7 | apply Q8 | refine Q14 ?_ GE245.out) | exact HB.out)))); (case aL => have := LMc65.out; omega); intro v261 w66 ho hb hg hat; rw [← Ny260.out] at ho; have n0_ := Aside0.mk (Kd.R_over' (by (with_reducible repeat (first | apply Kd.R_alloc | apply Kd.R_drewN | apply Kd.R_drew)); exact HO_16.out) (Kd.R_typed (by (with_reducible repeat (first | apply Kd.R_alloc | apply Kd.R_drewN | apply Kd.R_drew)); exact HO_3.out)) (by decide) hg); have n1_ := Aside0.mk (blk_grown (g := gb245) (o := .cells #[.int .u64 x246000_2, .int .u64 x246001_2, .int .u64 x246002_2, .int .u64 x246003_2] 43 (0, 0)) (by (with_reducible repeat (first | refine Q19 ?_ _ | refine Q17 ?_ | refine Q15 ?_ _)); exact BK245.out) hg (Kd.R_ne HO_3.out BK245.out (by decide))); have n2_ := Aside0.mk (hb); have n3_ := Aside0.mk (ho); clear HO_16; clear BK245; clear HB; clear HO_3; have HO_16 := n0_; have BK245 := n1_; have HB := n2_; have HO262 := n3_; clear n0_ n1_ n2_ n3_; clear ho hb hg hat; have hcv67 := own_string (P := Try.prog) Try.underlying71 Try.underlying5 Try.underlying9 (Kd.own_of_R HO262.out); have hcw68 := fun n_ : Nat => own_string (P := Try.prog) Try.underlying71 Try.underlying5 Try.underlying9 (Kd.own_of_R (Kd.R_drewN HO262.out n_))))
              go_ret
              exact ⟨by first | rfl | (simp [Q24, Q25] <;> rfl) | (simp [*, Q24, Q25] <;> rfl), by repeat (first | (with_reducible first | exact HB.out | apply Q9 | apply Q7 | apply Q8 | refine Q14 ?_ GE245.out) | exact HB.out)⟩
            · rw [if_neg c65] at H
              exact absurd H (by simp)
end Go.Proofs.Ytflkgoggnomehaa.P
