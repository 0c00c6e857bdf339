import Derived.Test.YtflkgoggnomehaaZ3
import Derived.Test.YtflkgoggnomehaaZ5
import Derived.Test.YtflkgoggnomehaaZ21
namespace Go.Proofs.Ytflkgoggnomehaa.P
open Go.RowKit Go.Proofs.YtflkgoggnomehaaW.PrintWords Go.Proofs.YtflkgoggnomehaaW.PrintLast Go.Proofs.YtflkgoggnomehaaW.PrintMore
attribute [local go_sem] max2_int min2_int max_two min_two max_three min_three max_four min_four   -- for this text's walks alone
set_option linter.unusedVariables false
set_option linter.unusedSimpArgs false
def dowelref22_Depths.l0 : Nat → List (S45) → List (S100) → List Int → Int → Option (List Int)
  | 0, _, _, _, _ => none
  | k + 1, x0, x1, x5, x6 => if x6 < (x0.length : Int) then (if 0 ≤ x6 then (if x6 < (x1.length : Int) then (if ((Q13 x0 x6).f0) = 1 then (if x6 < (x5.length : Int) then (dowelref22_Depths.l0 k x0 x1 (x5.set (x6 : Int).toNat 1) (wrap64 (x6 + 1))) else (none)) else (if ((Q13 x0 x6).f0) = 5 then (if 0 ≤ ((Q16 x1 x6).f0) then (if ((Q16 x1 x6).f0) < (x5.length : Int) then (if ((Q16 x1 x6).f0) < (x0.length : Int) then ((dowelref22_in.f ((Q13 x0 ((Q16 x1 x6).f0)).f0) true true).bind fun t204 => (if x6 < (x5.length : Int) then (dowelref22_Depths.l0 k x0 x1 (x5.set (x6 : Int).toNat (wrap64 ((rd x5 ((Q16 x1 x6).f0)) + t204))) (wrap64 (x6 + 1))) else (none))) else (none)) else (none)) else (none)) else (if ((Q13 x0 x6).f0) = 3 then (if 0 ≤ ((Q16 x1 x6).f0) then (if ((Q16 x1 x6).f0) < (x5.length : Int) then (if ((Q16 x1 x6).f0) < (x0.length : Int) then ((dowelref22_in.f ((Q13 x0 ((Q16 x1 x6).f0)).f0) true true).bind fun t208 => (if 0 ≤ ((Q16 x1 x6).f1) then (if ((Q16 x1 x6).f1) < (x5.length : Int) then (if ((Q16 x1 x6).f1) < (x0.length : Int) then ((dowelref22_in.f ((Q13 x0 ((Q16 x1 x6).f1)).f0) false true).bind fun t211 => (if x6 < (x5.length : Int) then (dowelref22_Depths.l0 k x0 x1 (x5.set (x6 : Int).toNat (mx (wrap64 ((rd x5 ((Q16 x1 x6).f0)) + t208)) (wrap64 ((rd x5 ((Q16 x1 x6).f1)) + t211)))) (wrap64 (x6 + 1))) else (none))) else (none)) else (none)) else (none))) else (none)) else (none)) else (none)) else (if ((Q13 x0 x6).f0) = 4 then (if 0 ≤ ((Q16 x1 x6).f0) then (if ((Q16 x1 x6).f0) < (x5.length : Int) then (if ((Q16 x1 x6).f0) < (x0.length : Int) then ((dowelref22_in.f ((Q13 x0 ((Q16 x1 x6).f0)).f0) false true).bind fun t215 => (if 0 ≤ ((Q16 x1 x6).f1) then (if ((Q16 x1 x6).f1) < (x5.length : Int) then (if x6 < (x5.length : Int) then (dowelref22_Depths.l0 k x0 x1 (x5.set (x6 : Int).toNat (mx (wrap64 ((rd x5 ((Q16 x1 x6).f0)) + t215)) (rd x5 ((Q16 x1 x6).f1)))) (wrap64 (x6 + 1))) else (none)) else (none)) else (none))) else (none)) else (none)) else (none)) else (dowelref22_Depths.l0 k x0 x1 x5 (wrap64 (x6 + 1))))))) else (none)) else (none)) else (some x5)
def dowelref22_Depths.f (k : Nat) (l0 : List (S45)) (l1 : List (S100)) : Option (List Int) := if 0 ≤ (l0.length : Int) then (if ((l0.length : Int) : Int).toNat ≤ 35184372088832 then (dowelref22_Depths.l0 k l0 l1 (List.replicate ((l0.length : Int) : Int).toNat 0) 0) else (none)) else (none)
def dowelref22_Depths.T5 : Bool × List (List Nat × List Nat) := (true, [([], []), ([], []), ([0, 1], [0, 1]), ([2], [2]), ([3], [3]), ([], []), ([], []), ([5, 6], [5, 6]), ([7], [7]), ([8], [8]), ([4, 0, 1, 2, 3, 4], [4]), ([9, 10, 0, 1, 2, 3, 4, 5, 6, 7, 8, 9, 10], [9])])
def dowelref22_Depths.B5 : List Nat := [0, 0, 3, 7, 15, 0, 0, 96, 224, 480, 31, 2047]
theorem dowelref22_Depths.tab5 : rtab .any (opsOf Try.f51 5) = dowelref22_Depths.T5 := by kernel_rfl
theorem dowelref22_Depths.bits5 : waitsOk dowelref22_Depths.T5.2 dowelref22_Depths.B5 = true := by kernel_rfl
def dowelref22_Depths.T10 : Bool × List (List Nat × List Nat) := (true, [([], []), ([], []), ([], []), ([], []), ([2, 3], [2, 3]), ([4], [4]), ([], []), ([], []), ([6, 7], [6, 7]), ([8], [8]), ([9], [9]), ([10], [10]), ([5, 11], [5, 11]), ([0, 1, 0, 1, 2, 3, 4, 5, 6, 7, 8, 9, 10, 11, 12], [0, 1]), ([13, 12, 11, 0, 1, 2, 3, 4, 5, 6, 7, 8, 9, 10, 11, 12], [12, 13])])
def dowelref22_Depths.B10 : List Nat := [0, 0, 0, 0, 12, 28, 0, 0, 192, 448, 960, 1984, 4092, 8191, 16383]
theorem dowelref22_Depths.tab10 : rtab .any (opsOf Try.f51 10) = dowelref22_Depths.T10 := by kernel_rfl
theorem dowelref22_Depths.bits10 : waitsOk dowelref22_Depths.T10.2 dowelref22_Depths.B10 = true := by kernel_rfl
def dowelref22_Depths.T12 : Bool × List (List Nat × List Nat) := (true, [([], []), ([], []), ([], []), ([], []), ([2, 3], [2, 3]), ([4], [4]), ([], []), ([], []), ([6, 7], [6, 7]), ([8], [8]), ([9], [9]), ([10], [10]), ([5, 11], [5, 11]), ([], []), ([], []), ([13, 14], [13, 14]), ([15], [15]), ([], []), ([], []), ([17, 18], [17, 18]), ([19], [19]), ([20], [20]), ([21, 11], [21]), ([16, 22], [16, 22]), ([12, 23], [12, 23]), ([0, 1, 0, 1, 2, 3, 4, 5, 6, 7, 8, 9, 10, 11, 12, 13, 14, 15, 16, 17, 18, 19, 20, 21, 22, 23, 24], [0, 1]), ([25, 24, 22, 0, 1, 2, 3, 4, 5, 6, 7, 8, 9, 10, 11, 12, 13, 14, 15, 16, 17, 18, 19, 20, 21, 22, 23, 24], [24, 25])])
def dowelref22_Depths.B12 : List Nat := [0, 0, 0, 0, 12, 28, 0, 0, 192, 448, 960, 1984, 4092, 0, 0, 24576, 57344, 0, 0, 393216, 917504, 1966080, 4067264, 8384448, 16777212, 33554431, 67108863]
theorem dowelref22_Depths.tab12 : rtab .any (opsOf Try.f51 12) = dowelref22_Depths.T12 := by kernel_rfl
theorem dowelref22_Depths.bits12 : waitsOk dowelref22_Depths.T12.2 dowelref22_Depths.B12 = true := by kernel_rfl
def dowelref22_Depths.T14 : Bool × List (List Nat × List Nat) := (true, [([], []), ([], []), ([], []), ([], []), ([2, 3], [2, 3]), ([4], [4]), ([], []), ([], []), ([6, 7], [6, 7]), ([8], [8]), ([9], [9]), ([10], [10]), ([5, 11], [5, 11]), ([], []), ([], []), ([13, 14], [13, 14]), ([15], [15]), ([12, 16], [12, 16]), ([0, 1, 0, 1, 2, 3, 4, 5, 6, 7, 8, 9, 10, 11, 12, 13, 14, 15, 16, 17], [0, 1]), ([18, 17, 11, 0, 1, 2, 3, 4, 5, 6, 7, 8, 9, 10, 11, 12, 13, 14, 15, 16, 17], [17, 18])])
def dowelref22_Depths.B14 : List Nat := [0, 0, 0, 0, 12, 28, 0, 0, 192, 448, 960, 1984, 4092, 0, 0, 24576, 57344, 131068, 262143, 524287]
theorem dowelref22_Depths.tab14 : rtab .any (opsOf Try.f51 14) = dowelref22_Depths.T14 := by kernel_rfl
theorem dowelref22_Depths.bits14 : waitsOk dowelref22_Depths.T14.2 dowelref22_Depths.B14 = true := by kernel_rfl
set_option maxHeartbeats 8000000 in
set_option maxRecDepth 100000 in
theorem dowelref22_Depths.calls (k : Nat) (A0 : Option Addr) (c0 : Nat) (l0 : List (S45)) (A1 : Option Addr) (c1 : Nat) (l1 : List (S100)) (r : List Int) (w : World) (hr0 : Kd.C k45 w A0 l0.length l0) (hc0 : l0.length ≤ c0) (hr1 : Kd.C k100 w A1 l1.length l1) (hc1 : l1.length ≤ c1) (h : dowelref22_Depths.f k l0 l1 = some r) :
    Calls Try.prog 51 #[.slice A0 l0.length c0, .slice A1 l1.length c1] w fun e w' => ∃ v0_ : Value, e = .returned (v0_) ∧ Kd.R (Kd.int .i64) 3 w' w.heap.size (fun _ => True) v0_ r ∧ Below w.heap.size w w' := by
  have HR0 := Aside0.mk hr0
  have HC0 := Aside0.mk hc0
  clear hr0 hc0
  have HR1 := Aside0.mk hr1
  have HC1 := Aside0.mk hc1
  clear hr1 hc1
  have HB := Aside0.mk (Below.refl w.heap.size w)
  have H : (if 0 ≤ (l0.length : Int) then (if ((l0.length : Int) : Int).toNat ≤ 35184372088832 then (dowelref22_Depths.l0 k l0 l1 (List.replicate ((l0.length : Int) : Int).toNat 0) 0) else (none)) else (none)) = some r := h
  clear h
  by_cases c3 : 0 ≤ (l0.length : Int)
  · rw [if_pos c3] at H
    have c3b0 := eq_true c3
    have c3b1 : decide (0 ≤ (l0.length : Int)) = true := decide_eq_true c3
    clear c3
    by_cases c4 : ((l0.length : Int) : Int).toNat ≤ 35184372088832
    · rw [if_pos c4] at H
      have c4b0 := eq_true c4
      have c4b1 : decide (((l0.length : Int) : Int).toNat ≤ 35184372088832) = true := decide_eq_true c4
      clear c4
      obtain ⟨y195, hy195⟩ : ∃ y_ : List Int, y_ = (List.replicate ((l0.length : Int) : Int).toNat 0) := ⟨_, rfl⟩
      replace H : (dowelref22_Depths.l0 k l0 l1 y195 0) = some r := by first | (rw [hy195]; with_reducible exact H) | (have H2_ := (Option.bind_some _ _).symm.trans H; rw [hy195]; with_reducible exact H2_) | (have H2_ := (Option.bind_some _ _).symm.trans H; with_reducible exact H2_) | with_reducible exact H | (rw [hy195]; exact H) | exact H
      have Ny195 := Aside0.mk hy195
      clear hy195
      have H' := Aside0.mk H
      clear H
      go_enter Try.func51, Try.ntmps51
      go_wp2_with (first | ((with_reducible refine gate_dst (N := 11) rfl ?_); refine Kd.R_make (Kd.int .i64) _ 3 rfl (N := 11) rfl 81 _ _ rfl (l0.length : Int) rfl rfl Try.underlying81 (.int .i64 0) 8 info3 rfl (by decide) (by omega) 0 (ok := fun _ => True) (okp := fun _ => True) rfl (fun _ hk => hk) trivial (of_decide_eq_true (by first | (with_reducible assumption) | assumption)) (Nat.le_trans (Nat.mul_le_mul_right _ (of_decide_eq_true (by first | (with_reducible assumption) | assumption) : (l0.length : Int).toNat ≤ 35184372088832)) (by omega)) (Below.refl _ _) (Nat.le_refl _) ?_; intro v196 w5 ho6 hb hg_ hnew_; clear hg_ hnew_; (first | rw [← Ny195.out] at ho6 | (simp only [Int.reduceToNat] at ho6; rw [← Ny195.out] at ho6)); have n0_ := Aside0.mk (Kd.R_lower ho6 (Q23 (by repeat (first | (with_reducible first | exact HB.out | apply Q9 | apply Q7 | apply Q8) | exact HB.out)))); have n1_ := Aside0.mk (Q27 (by repeat (first | (with_reducible first | exact HB.out | apply Q9 | apply Q7 | apply Q8) | exact HB.out)) hb); clear HB; have HO197 := n0_; have HB := n1_; clear n0_ n1_; clear hb ho6))
      go_loopg [6] k (fun kq v6 w' => ∃ (x5_1 : List Int) (x6_1 : Int), v6 = .int .i64 x6_1 ∧ Aside0 (dowelref22_Depths.l0 kq l0 l1 x5_1 x6_1 = some r) ∧ Aside0 (kq ≤ k) ∧ Aside0 (Kd.R (Kd.int .i64) 3 w' w.heap.size (fun _ => True) v196 x5_1) ∧ Aside0 (Below w.heap.size w w'))
      case atStart => exact ⟨(y195), (0), (by first | rfl | (simp; done) | (simp [*]; done)), H', ⟨Nat.le_refl _⟩, ⟨by (with_reducible repeat (first | apply Kd.R_alloc | apply Kd.R_drewN | apply Kd.R_drew)); exact HO197.out⟩, ⟨by repeat (first | (with_reducible first | exact HB.out | apply Q9 | apply Q7 | apply Q8) | exact HB.out)⟩⟩
      case round =>
        clear H'
        try clear c1
        try clear p2
        try clear c3
        try clear c3b0
        try clear c3b1
        try clear c4
        try clear c4b0
        try clear c4b1
        try clear c5
        obtain ⟨x5_1, x6_1, rfl, HA, HK1, HO_5, HB⟩ := hrel
        cases gk with
        | zero => exact absurd HA.out (by simp [dowelref22_Depths.l0])
        | succ k1 =>
          have H := HA.out
          clear HA
          simp only [dowelref22_Depths.l0] at H
          by_cases c7 : x6_1 < (l0.length : Int)
          · rw [if_pos c7] at H
            have c7b0 : decide (x6_1 < (l0.length : Int)) = true := decide_eq_true c7
            clear c7
            by_cases c8 : 0 ≤ x6_1
            · rw [if_pos c8] at H
              have c8b0 : decide (0 ≤ x6_1) = true := decide_eq_true c8
              clear c8
              by_cases c9 : x6_1 < (l1.length : Int)
              · rw [if_pos c9] at H
                have c9b0 : decide (x6_1 < (l1.length : Int)) = true := decide_eq_true c9
                clear c9
                by_cases c10 : ((Q13 l0 x6_1).f0) = 1
                · rw [if_pos c10] at H
                  have c10b0 : (((Q13 l0 x6_1).f0) == 1) = true := beq_iff_eq.mpr c10
                  have c10b1 : (((Q13 l0 x6_1).f0) != 1) = false := bne_eq_false_iff_eq.mpr c10
                  clear c10
                  by_cases c11 : x6_1 < (x5_1.length : Int)
                  · rw [if_pos c11] at H
                    have c11b0 : decide (x6_1 < (x5_1.length : Int)) = true := decide_eq_true c11
                    clear c11
                    obtain ⟨y201, hy201⟩ : ∃ y_ : List Int, y_ = (x5_1.set (x6_1 : Int).toNat 1) := ⟨_, rfl⟩
                    replace H : (dowelref22_Depths.l0 k1 l0 l1 y201 (wrap64 (x6_1 + 1))) = some r := by first | (rw [hy201]; with_reducible exact H) | (have H2_ := (Option.bind_some _ _).symm.trans H; rw [hy201]; with_reducible exact H2_) | (have H2_ := (Option.bind_some _ _).symm.trans H; with_reducible exact H2_) | with_reducible exact H | (rw [hy201]; exact H) | exact H
                    have Ny201 := Aside0.mk hy201
                    clear hy201
                    have H' := Aside0.mk H
                    clear H
                    try go_wp2
                    have n0_ := Aside0.mk (Kd.R_drew HO_5.out)
                    have n1_ := Aside0.mk (Q8 HB.out)
                    clear HO_5
                    clear HB
                    have HO_5 := n0_
                    have HB := n1_
                    clear n0_ n1_
                    have p198 : 0 ≤ (x6_1 : Int) := of_decide_eq_true (by first | (with_reducible assumption) | assumption)
                    have q198 : x6_1 < (l1.length : Int) := of_decide_eq_true (by first | (with_reducible assumption) | assumption)
                    obtain ⟨ad198, e198, hx198_0, hx198_1⟩ := at_T100 HR1.out x6_1 p198 q198
                    have hw198_1 := hx198_1
                    have hw198_0 := hx198_0
                    cases e198
                    replace hx198_0 := (HB.out.cell (World.block_lt_of_cell? w _ hx198_0)).trans hx198_0
                    replace hx198_1 := (HB.out.cell (World.block_lt_of_cell? w _ hx198_1)).trans hx198_1
                    replace p198 := eq_true p198
                    replace q198 := eq_true q198
                    have p199 : 0 ≤ (x6_1 : Int) := of_decide_eq_true (by first | (with_reducible assumption) | assumption)
                    have q199 : x6_1 < (l1.length : Int) := of_decide_eq_true (by first | (with_reducible assumption) | assumption)
                    obtain ⟨ad199, e199, hx199_0, hx199_1⟩ := at_T100 HR1.out x6_1 p199 q199
                    have hw199_1 := hx199_1
                    have hw199_0 := hx199_0
                    obtain rfl : ad198 = ad199 := (by injection e199)
                    replace hx199_0 := (HB.out.cell (World.block_lt_of_cell? w _ hx199_0)).trans hx199_0
                    replace hx199_1 := (HB.out.cell (World.block_lt_of_cell? w _ hx199_1)).trans hx199_1
                    replace p199 := eq_true p199
                    replace q199 := eq_true q199
                    refine start_ (n := 12) (S := fun w' => w'.cell? (ad198.add ((x6_1).toNat * 2)) = some (.int .i64 ((Q16 l1 x6_1).f0)) ∧ w'.cell? ⟨(ad198.add ((x6_1).toNat * 2)).block, (ad198.add ((x6_1).toNat * 2)).off + 1, none⟩ = some (.int .i64 ((Q16 l1 x6_1).f1)) ∧ w'.cell? (ad198.add ((x6_1).toNat * 2)) = some (.int .i64 ((Q16 l1 x6_1).f0)) ∧ w'.cell? ⟨(ad198.add ((x6_1).toNat * 2)).block, (ad198.add ((x6_1).toNat * 2)).off + 1, none⟩ = some (.int .i64 ((Q16 l1 x6_1).f1))) (ds := []) #[ff, ff, ff, ff, ff, ff, ff, ff, ff, ff, ff, ff] (by kernel_rfl) rfl rfl ⟨((HB.out.cell (World.block_lt_of_cell? w _ hw198_0)).trans hw198_0), ((HB.out.cell (World.block_lt_of_cell? w _ hw198_1)).trans hw198_1), ((HB.out.cell (World.block_lt_of_cell? w _ hw199_0)).trans hw199_0), ((HB.out.cell (World.block_lt_of_cell? w _ hw199_1)).trans hw199_1)⟩ (fun hHeld => ?_); refine with_tabW dowelref22_Depths.tab5 dowelref22_Depths.bits5 (fun HT_ HW_ => ?_)
                    generalize wr.drew = w13 at HO_5 HB hx198_0 hx198_1 hx199_0 hx199_1 hHeld ⊢
                    refine Q26 (i := 0) (N := some 18) (v := ?_) (a' := ?_) #[tt, ff, ff, ff, ff, ff, ff, ff, ff, ff, ff, ff] rfl rfl (any_of HT_.out (by kernel_rfl)) (fun _ _ _ h => h) (Or.inl ⟨by rfl, ?_⟩) ?_ ?_; rotate_left; intro w'; go_simp; with_reducible rfl; rotate_left; simp only [pS]; rfl
                    refine Q26 (i := 1) (N := some 19) (v := ?_) (a' := ?_) #[tt, tt, ff, ff, ff, ff, ff, ff, ff, ff, ff, ff] rfl rfl (any_of HT_.out (by kernel_rfl)) (fun _ _ _ h => h) (Or.inl ⟨by rfl, ?_⟩) ?_ ?_; rotate_left; intro w'; go_simp; with_reducible rfl; rotate_left; simp only [pS]; rfl
                    refine Q26 (i := 2) (N := some 20) (v := ?_) (a' := ?_) #[tt, tt, tt, ff, ff, ff, ff, ff, ff, ff, ff, ff] rfl rfl (any_of HT_.out (by kernel_rfl)) (fun _ _ _ h => h) (Or.inl ⟨by rfl, ?_⟩) ?_ ?_; rotate_left; intro w'; go_simp; with_reducible rfl; rotate_left; simp only [pS]; rfl
                    refine Q26 (i := 3) (N := some 21) (v := ?_) (a' := ?_) #[tt, tt, tt, tt, ff, ff, ff, ff, ff, ff, ff, ff] rfl rfl (any_of HT_.out (by kernel_rfl)) (fun _ _ _ h => h) (Or.inl ⟨by rfl, ?_⟩) ?_ ?_; rotate_left; intro w'; go_simp; with_reducible rfl; rotate_left; simp only [pS]; rfl
                    refine Q26 (i := 5) (N := some 23) (v := ?_) (a' := ?_) #[tt, tt, tt, tt, ff, tt, ff, ff, ff, ff, ff, ff] rfl rfl (any_of HT_.out (by kernel_rfl)) (fun _ _ _ h => h) (Or.inl ⟨by rfl, ?_⟩) ?_ ?_; rotate_left; intro w'; go_simp; with_reducible rfl; rotate_left; simp only [pS]; rfl
                    refine Q26 (i := 6) (N := some 24) (v := ?_) (a' := ?_) #[tt, tt, tt, tt, ff, tt, tt, ff, ff, ff, ff, ff] rfl rfl (any_of HT_.out (by kernel_rfl)) (fun _ _ _ h => h) (Or.inl ⟨by rfl, ?_⟩) ?_ ?_; rotate_left; intro w'; go_simp; with_reducible rfl; rotate_left; simp only [pS]; rfl
                    refine Q26 (i := 7) (N := some 25) (v := ?_) (a' := ?_) #[tt, tt, tt, tt, ff, tt, tt, tt, ff, ff, ff, ff] rfl rfl (any_of HT_.out (by kernel_rfl)) (fun _ _ _ h => h) (Or.inl ⟨by rfl, ?_⟩) ?_ ?_; rotate_left; intro w'; go_simp; with_reducible rfl; rotate_left; simp only [pS]; rfl
                    refine Q26 (i := 8) (N := some 26) (v := ?_) (a' := ?_) #[tt, tt, tt, tt, ff, tt, tt, tt, tt, ff, ff, ff] rfl rfl (any_of HT_.out (by kernel_rfl)) (fun _ _ _ h => h) (Or.inl ⟨by rfl, ?_⟩) ?_ ?_; rotate_left; intro w'; go_simp; with_reducible rfl; rotate_left; simp only [pS]; rfl
                    refine take_ (i := 4) (N := some 22) (v := ?_) (a' := ?_) #[tt, tt, tt, tt, tt, tt, tt, tt, tt, ff, ff, ff] rfl rfl (take_ofW HT_.out HW_.out (by kernel_rfl)) (fun _ _ _ h => h) (Or.inl ⟨by rfl, ?_⟩) hHeld ?_ ?_; rotate_left; rintro w' ⟨s0, s1, s2, s3⟩; go_simp; with_reducible rfl; rotate_left; simp only [pS]; rfl
                    refine Q26 (i := 10) (N := some 7) (v := ?_) (a' := ?_) #[tt, tt, tt, tt, tt, tt, tt, tt, tt, ff, tt, ff] rfl rfl (any_of HT_.out (by kernel_rfl)) (fun _ _ _ h => h) (Or.inl ⟨by rfl, ?_⟩) ?_ ?_; rotate_left; intro w'; go_simp; with_reducible rfl; rotate_left; simp only [pS]; rfl
                    refine take_ (i := 9) (N := some 27) (v := ?_) (a' := ?_) #[tt, tt, tt, tt, tt, tt, tt, tt, tt, tt, tt, ff] rfl rfl (take_ofW HT_.out HW_.out (by kernel_rfl)) (fun _ _ _ h => h) (Or.inl ⟨by rfl, ?_⟩) hHeld ?_ ?_; rotate_left; rintro w' ⟨s0, s1, s2, s3⟩; go_simp; with_reducible rfl; rotate_left; simp only [pS]; rfl
                    refine Q26 (i := 11) (N := some 8) (v := ?_) (a' := ?_) #[tt, tt, tt, tt, tt, tt, tt, tt, tt, tt, tt, tt] rfl rfl (any_of HT_.out (by kernel_rfl)) (fun _ _ _ h => h) (Or.inl ⟨by rfl, ?_⟩) ?_ ?_; rotate_left; intro w'; go_simp; with_reducible rfl; rotate_left; simp only [pS]; rfl
                    refine done_ (done_of HT_.out (by kernel_rfl)) ?_
                    have p200 : 0 ≤ (x6_1 : Int) := of_decide_eq_true (by first | (with_reducible assumption) | assumption)
                    have q200 : x6_1 < (l0.length : Int) := of_decide_eq_true (by first | (with_reducible assumption) | assumption)
                    obtain ⟨ad200, e200, hx200_0, hx200_1, hx200_2, hx200_3, hx200_4⟩ := at_T45 HR0.out x6_1 p200 q200
                    cases e200
                    replace hx200_0 := (HB.out.cell (World.block_lt_of_cell? w _ hx200_0)).trans hx200_0
                    replace hx200_1 := (HB.out.cell (World.block_lt_of_cell? w _ hx200_1)).trans hx200_1
                    replace hx200_2 := (HB.out.cell (World.block_lt_of_cell? w _ hx200_2)).trans hx200_2
                    replace hx200_3 := (HB.out.cell (World.block_lt_of_cell? w _ hx200_3)).trans hx200_3
                    replace hx200_4 := (HB.out.cell (World.block_lt_of_cell? w _ hx200_4)).trans hx200_4
                    replace p200 := eq_true p200
                    replace q200 := eq_true q200
                    have p12 : 0 ≤ (x6_1 : Int) := of_decide_eq_true (by first | (with_reducible assumption) | assumption)
                    have q12 : (x6_1 : Int) < ((x5_1.length : Int) : Int) := of_decide_eq_true (by first | (with_reducible assumption) | assumption)
                    obtain ⟨go12, co12, eo12, gb12, gl12, cl12, HG12⟩ := Kd.R_form HO_5.out (by omega)
                    (first | cases eo12 | (injection eo12 with ea_ en_ ec_; (first | subst ea_ | (injection ea_ with ea_; subst ea_)); subst ec_; clear en_))
                    have GB12 := Aside0.mk gb12
                    have GG12 := Aside0.mk HG12
                    clear gb12 gl12 HG12
                    obtain ⟨hx12_0, hf12_0⟩ := Kd.R_celln 0 HO_5.out (x6_1 : Int) p12 q12
                    replace p12 := eq_true p12
                    replace q12 := eq_true q12
                    obtain ⟨hy14_, hz14_⟩ := Kd.R_celln 0 HO_5.out (x6_1 : Int) (of_decide_eq_true (by first | (with_reducible assumption) | assumption)) (of_decide_eq_true (by first | (with_reducible assumption) | assumption))
                    have HP14 := Kd.R_putg HO_5.out (x6_1 : Int) 1
                    try go_wp2_with (first | ((with_reducible refine gate_store (t := 3) (p := 37) rfl ?_); refine store_event (t := 3) (p := 37) (v := ?vo_w15) (w1 := (w13.setCell ⟨go12, (x6_1 : Int).toNat, none⟩ (.int .i64 1))) ?hg ?ho ?hn ?hr ?_; (case ho => rfl); (case hg => rfl); (case hn => rfl); (case hr => first | (go_simp; done) | (go_simp; rfl)); intro w15 hw; have hg : w13.grownBy w15 (some go12) := (by rw [hw]; exact HP14.2); have hp_ : Kd.R (Kd.int .i64) 3 w15 w.heap.size (fun _ => True) (.slice (some ⟨go12, 0, none⟩) x5_1.length co12) y201 := (by rw [hw, Ny201.out]; exact HP14.1); clear HP14; have n0_ := Aside0.mk (hp_); have n1_ := Aside0.mk ((by rw [hw]; exact Q14 (HB.out) GB12.out : Below w.heap.size w w15)); clear HO_5; clear HB; have HO_5 := n0_; have HB := n1_; clear n0_ n1_; clear hg hw hp_))
                    go_roundg k1
                    case measure => have := HK1.out; omega
                    case rel => exact ⟨(y201), (wrap64 (x6_1 + 1)), (by first | rfl | (simp; done) | (simp [*]; done)), H', ⟨by have := HK1.out; omega⟩, ⟨by (with_reducible repeat (first | apply Kd.R_alloc | apply Kd.R_drewN | apply Kd.R_drew)); exact HO_5.out⟩, ⟨by repeat (first | (with_reducible first | exact HB.out | apply Q9 | apply Q7 | apply Q8) | exact HB.out)⟩⟩
                  · rw [if_neg c11] at H
                    exact absurd H (by simp)
                · rw [if_neg c10] at H
                  have c10b0 : (((Q13 l0 x6_1).f0) == 1) = false := beq_eq_false_iff_ne.mpr c10
                  have c10b1 : (((Q13 l0 x6_1).f0) != 1) = true := bne_iff_ne.mpr c10
                  by_cases c16 : ((Q13 l0 x6_1).f0) = 5
                  · rw [if_pos c16] at H
                    have c16b0 : (((Q13 l0 x6_1).f0) == 5) = true := beq_iff_eq.mpr c16
                    have c16b1 : (((Q13 l0 x6_1).f0) != 5) = false := bne_eq_false_iff_eq.mpr c16
                    clear c16
                    by_cases c17 : 0 ≤ ((Q16 l1 x6_1).f0)
                    · rw [if_pos c17] at H
                      have c17b0 : decide (0 ≤ ((Q16 l1 x6_1).f0)) = true := decide_eq_true c17
                      clear c17
                      by_cases c18 : ((Q16 l1 x6_1).f0) < (x5_1.length : Int)
                      · rw [if_pos c18] at H
                        have c18b0 : decide (((Q16 l1 x6_1).f0) < (x5_1.length : Int)) = true := decide_eq_true c18
                        clear c18
                        by_cases c19 : ((Q16 l1 x6_1).f0) < (l0.length : Int)
                        · rw [if_pos c19] at H
                          have c19b0 : decide (((Q16 l1 x6_1).f0) < (l0.length : Int)) = true := decide_eq_true c19
                          clear c19
                          replace H := Option.bind_eq_some_iff.mp H
                          obtain ⟨t204, A200, H⟩ := H
                          replace H : (if x6_1 < (x5_1.length : Int) then (dowelref22_Depths.l0 k1 l0 l1 (x5_1.set (x6_1 : Int).toNat (wrap64 ((rd x5_1 ((Q16 l1 x6_1).f0)) + t204))) (wrap64 (x6_1 + 1))) else (none)) = some r := H
                          have A20 := Aside0.mk A200
                          clear A200
                          by_cases c21 : x6_1 < (x5_1.length : Int)
                          · rw [if_pos c21] at H
                            have c21b0 : decide (x6_1 < (x5_1.length : Int)) = true := decide_eq_true c21
                            clear c21
                            obtain ⟨y205, hy205⟩ : ∃ y_ : List Int, y_ = (x5_1.set (x6_1 : Int).toNat (wrap64 ((rd x5_1 ((Q16 l1 x6_1).f0)) + t204))) := ⟨_, rfl⟩
                            replace H : (dowelref22_Depths.l0 k1 l0 l1 y205 (wrap64 (x6_1 + 1))) = some r := by first | (rw [hy205]; with_reducible exact H) | (have H2_ := (Option.bind_some _ _).symm.trans H; rw [hy205]; with_reducible exact H2_) | (have H2_ := (Option.bind_some _ _).symm.trans H; with_reducible exact H2_) | with_reducible exact H | (rw [hy205]; exact H) | exact H
                            have Ny205 := Aside0.mk hy205
                            clear hy205
                            have H' := Aside0.mk H
                            clear H
                            try go_wp2
                            have n0_ := Aside0.mk (Kd.R_drew HO_5.out)
                            have n1_ := Aside0.mk (Q8 HB.out)
                            clear HO_5
                            clear HB
                            have HO_5 := n0_
                            have HB := n1_
                            clear n0_ n1_
                            have p198 : 0 ≤ (x6_1 : Int) := of_decide_eq_true (by first | (with_reducible assumption) | assumption)
                            have q198 : x6_1 < (l1.length : Int) := of_decide_eq_true (by first | (with_reducible assumption) | assumption)
                            obtain ⟨ad198, e198, hx198_0, hx198_1⟩ := at_T100 HR1.out x6_1 p198 q198
                            have hw198_1 := hx198_1
                            have hw198_0 := hx198_0
                            cases e198
                            replace hx198_0 := (HB.out.cell (World.block_lt_of_cell? w _ hx198_0)).trans hx198_0
                            replace hx198_1 := (HB.out.cell (World.block_lt_of_cell? w _ hx198_1)).trans hx198_1
                            replace p198 := eq_true p198
                            replace q198 := eq_true q198
                            have p199 : 0 ≤ (x6_1 : Int) := of_decide_eq_true (by first | (with_reducible assumption) | assumption)
                            have q199 : x6_1 < (l1.length : Int) := of_decide_eq_true (by first | (with_reducible assumption) | assumption)
                            obtain ⟨ad199, e199, hx199_0, hx199_1⟩ := at_T100 HR1.out x6_1 p199 q199
                            have hw199_1 := hx199_1
                            have hw199_0 := hx199_0
                            obtain rfl : ad198 = ad199 := (by injection e199)
                            replace hx199_0 := (HB.out.cell (World.block_lt_of_cell? w _ hx199_0)).trans hx199_0
                            replace hx199_1 := (HB.out.cell (World.block_lt_of_cell? w _ hx199_1)).trans hx199_1
                            replace p199 := eq_true p199
                            replace q199 := eq_true q199
                            refine start_ (n := 12) (S := fun w' => w'.cell? (ad198.add ((x6_1).toNat * 2)) = some (.int .i64 ((Q16 l1 x6_1).f0)) ∧ w'.cell? ⟨(ad198.add ((x6_1).toNat * 2)).block, (ad198.add ((x6_1).toNat * 2)).off + 1, none⟩ = some (.int .i64 ((Q16 l1 x6_1).f1)) ∧ w'.cell? (ad198.add ((x6_1).toNat * 2)) = some (.int .i64 ((Q16 l1 x6_1).f0)) ∧ w'.cell? ⟨(ad198.add ((x6_1).toNat * 2)).block, (ad198.add ((x6_1).toNat * 2)).off + 1, none⟩ = some (.int .i64 ((Q16 l1 x6_1).f1))) (ds := []) #[ff, ff, ff, ff, ff, ff, ff, ff, ff, ff, ff, ff] (by kernel_rfl) rfl rfl ⟨((HB.out.cell (World.block_lt_of_cell? w _ hw198_0)).trans hw198_0), ((HB.out.cell (World.block_lt_of_cell? w _ hw198_1)).trans hw198_1), ((HB.out.cell (World.block_lt_of_cell? w _ hw199_0)).trans hw199_0), ((HB.out.cell (World.block_lt_of_cell? w _ hw199_1)).trans hw199_1)⟩ (fun hHeld => ?_); refine with_tabW dowelref22_Depths.tab5 dowelref22_Depths.bits5 (fun HT_ HW_ => ?_)
                            generalize wr.drew = w23 at HO_5 HB hx198_0 hx198_1 hx199_0 hx199_1 hHeld ⊢
                            refine Q26 (i := 0) (N := some 18) (v := ?_) (a' := ?_) #[tt, ff, ff, ff, ff, ff, ff, ff, ff, ff, ff, ff] rfl rfl (any_of HT_.out (by kernel_rfl)) (fun _ _ _ h => h) (Or.inl ⟨by rfl, ?_⟩) ?_ ?_; rotate_left; intro w'; go_simp; with_reducible rfl; rotate_left; simp only [pS]; rfl
                            refine Q26 (i := 1) (N := some 19) (v := ?_) (a' := ?_) #[tt, tt, ff, ff, ff, ff, ff, ff, ff, ff, ff, ff] rfl rfl (any_of HT_.out (by kernel_rfl)) (fun _ _ _ h => h) (Or.inl ⟨by rfl, ?_⟩) ?_ ?_; rotate_left; intro w'; go_simp; with_reducible rfl; rotate_left; simp only [pS]; rfl
                            refine Q26 (i := 2) (N := some 20) (v := ?_) (a' := ?_) #[tt, tt, tt, ff, ff, ff, ff, ff, ff, ff, ff, ff] rfl rfl (any_of HT_.out (by kernel_rfl)) (fun _ _ _ h => h) (Or.inl ⟨by rfl, ?_⟩) ?_ ?_; rotate_left; intro w'; go_simp; with_reducible rfl; rotate_left; simp only [pS]; rfl
                            refine Q26 (i := 3) (N := some 21) (v := ?_) (a' := ?_) #[tt, tt, tt, tt, ff, ff, ff, ff, ff, ff, ff, ff] rfl rfl (any_of HT_.out (by kernel_rfl)) (fun _ _ _ h => h) (Or.inl ⟨by rfl, ?_⟩) ?_ ?_; rotate_left; intro w'; go_simp; with_reducible rfl; rotate_left; simp only [pS]; rfl
                            refine Q26 (i := 5) (N := some 23) (v := ?_) (a' := ?_) #[tt, tt, tt, tt, ff, tt, ff, ff, ff, ff, ff, ff] rfl rfl (any_of HT_.out (by kernel_rfl)) (fun _ _ _ h => h) (Or.inl ⟨by rfl, ?_⟩) ?_ ?_; rotate_left; intro w'; go_simp; with_reducible rfl; rotate_left; simp only [pS]; rfl
                            refine Q26 (i := 6) (N := some 24) (v := ?_) (a' := ?_) #[tt, tt, tt, tt, ff, tt, tt, ff, ff, ff, ff, ff] rfl rfl (any_of HT_.out (by kernel_rfl)) (fun _ _ _ h => h) (Or.inl ⟨by rfl, ?_⟩) ?_ ?_; rotate_left; intro w'; go_simp; with_reducible rfl; rotate_left; simp only [pS]; rfl
                            refine Q26 (i := 7) (N := some 25) (v := ?_) (a' := ?_) #[tt, tt, tt, tt, ff, tt, tt, tt, ff, ff, ff, ff] rfl rfl (any_of HT_.out (by kernel_rfl)) (fun _ _ _ h => h) (Or.inl ⟨by rfl, ?_⟩) ?_ ?_; rotate_left; intro w'; go_simp; with_reducible rfl; rotate_left; simp only [pS]; rfl
                            refine Q26 (i := 8) (N := some 26) (v := ?_) (a' := ?_) #[tt, tt, tt, tt, ff, tt, tt, tt, tt, ff, ff, ff] rfl rfl (any_of HT_.out (by kernel_rfl)) (fun _ _ _ h => h) (Or.inl ⟨by rfl, ?_⟩) ?_ ?_; rotate_left; intro w'; go_simp; with_reducible rfl; rotate_left; simp only [pS]; rfl
                            refine take_ (i := 4) (N := some 22) (v := ?_) (a' := ?_) #[tt, tt, tt, tt, tt, tt, tt, tt, tt, ff, ff, ff] rfl rfl (take_ofW HT_.out HW_.out (by kernel_rfl)) (fun _ _ _ h => h) (Or.inl ⟨by rfl, ?_⟩) hHeld ?_ ?_; rotate_left; rintro w' ⟨s0, s1, s2, s3⟩; go_simp; with_reducible rfl; rotate_left; simp only [pS]; rfl
                            refine Q26 (i := 10) (N := some 7) (v := ?_) (a' := ?_) #[tt, tt, tt, tt, tt, tt, tt, tt, tt, ff, tt, ff] rfl rfl (any_of HT_.out (by kernel_rfl)) (fun _ _ _ h => h) (Or.inl ⟨by rfl, ?_⟩) ?_ ?_; rotate_left; intro w'; go_simp; with_reducible rfl; rotate_left; simp only [pS]; rfl
                            refine take_ (i := 9) (N := some 27) (v := ?_) (a' := ?_) #[tt, tt, tt, tt, tt, tt, tt, tt, tt, tt, tt, ff] rfl rfl (take_ofW HT_.out HW_.out (by kernel_rfl)) (fun _ _ _ h => h) (Or.inl ⟨by rfl, ?_⟩) hHeld ?_ ?_; rotate_left; rintro w' ⟨s0, s1, s2, s3⟩; go_simp; with_reducible rfl; rotate_left; simp only [pS]; rfl
                            refine Q26 (i := 11) (N := some 8) (v := ?_) (a' := ?_) #[tt, tt, tt, tt, tt, tt, tt, tt, tt, tt, tt, tt] rfl rfl (any_of HT_.out (by kernel_rfl)) (fun _ _ _ h => h) (Or.inl ⟨by rfl, ?_⟩) ?_ ?_; rotate_left; intro w'; go_simp; with_reducible rfl; rotate_left; simp only [pS]; rfl
                            refine done_ (done_of HT_.out (by kernel_rfl)) ?_
                            have p200 : 0 ≤ (x6_1 : Int) := of_decide_eq_true (by first | (with_reducible assumption) | assumption)
                            have q200 : x6_1 < (l0.length : Int) := of_decide_eq_true (by first | (with_reducible assumption) | assumption)
                            obtain ⟨ad200, e200, hx200_0, hx200_1, hx200_2, hx200_3, hx200_4⟩ := at_T45 HR0.out x6_1 p200 q200
                            cases e200
                            replace hx200_0 := (HB.out.cell (World.block_lt_of_cell? w _ hx200_0)).trans hx200_0
                            replace hx200_1 := (HB.out.cell (World.block_lt_of_cell? w _ hx200_1)).trans hx200_1
                            replace hx200_2 := (HB.out.cell (World.block_lt_of_cell? w _ hx200_2)).trans hx200_2
                            replace hx200_3 := (HB.out.cell (World.block_lt_of_cell? w _ hx200_3)).trans hx200_3
                            replace hx200_4 := (HB.out.cell (World.block_lt_of_cell? w _ hx200_4)).trans hx200_4
                            replace p200 := eq_true p200
                            replace q200 := eq_true q200
                            try go_wp2
                            have n0_ := Aside0.mk (Kd.R_drew HO_5.out)
                            have n1_ := Aside0.mk (Q8 HB.out)
                            clear HO_5
                            clear HB
                            have HO_5 := n0_
                            have HB := n1_
                            clear n0_ n1_
                            obtain ⟨Ao25, co25, eo25⟩ := Kd.R_slice HO_5.out
                            (first | subst eo25 | (injection eo25 with f1_ f2_ f3_; have f4_ := f1_.symm; have f5_ := f3_.symm; clear f1_ f2_ f3_; subst f4_; subst f5_))
                            have p202 : 0 ≤ (((Q16 l1 x6_1).f0) : Int) := of_decide_eq_true (by first | (with_reducible assumption) | assumption)
                            have q202 : ((Q16 l1 x6_1).f0) < (x5_1.length : Int) := of_decide_eq_true (by first | (with_reducible assumption) | assumption)
                            obtain ⟨ad202, e202, hx202_0⟩ := Kd.at_int (Kd.R_reads' HO_5.out).2.2 ((Q16 l1 x6_1).f0) p202 q202
                            cases e202
                            replace p202 := eq_true p202
                            replace q202 := eq_true q202
                            have p203 : 0 ≤ (((Q16 l1 x6_1).f0) : Int) := of_decide_eq_true (by first | (with_reducible assumption) | assumption)
                            have q203 : ((Q16 l1 x6_1).f0) < (l0.length : Int) := of_decide_eq_true (by first | (with_reducible assumption) | assumption)
                            obtain ⟨ad203, e203, hx203_0, hx203_1, hx203_2, hx203_3, hx203_4⟩ := at_T45 HR0.out ((Q16 l1 x6_1).f0) p203 q203
                            have hw203_4 := hx203_4
                            have hw203_3 := hx203_3
                            have hw203_2 := hx203_2
                            have hw203_1 := hx203_1
                            have hw203_0 := hx203_0
                            obtain rfl : ad200 = ad203 := (by injection e203)
                            replace hx203_0 := (HB.out.cell (World.block_lt_of_cell? w _ hx203_0)).trans hx203_0
                            replace hx203_1 := (HB.out.cell (World.block_lt_of_cell? w _ hx203_1)).trans hx203_1
                            replace hx203_2 := (HB.out.cell (World.block_lt_of_cell? w _ hx203_2)).trans hx203_2
                            replace hx203_3 := (HB.out.cell (World.block_lt_of_cell? w _ hx203_3)).trans hx203_3
                            replace hx203_4 := (HB.out.cell (World.block_lt_of_cell? w _ hx203_4)).trans hx203_4
                            replace p203 := eq_true p203
                            replace q203 := eq_true q203
                            refine start_ (n := 15) (S := fun w' => w'.cell? (ad202.add (((Q16 l1 x6_1).f0)).toNat) = some (.int .i64 (rd x5_1 ((Q16 l1 x6_1).f0))) ∧ w'.cell? (ad200.add ((((Q16 l1 x6_1).f0)).toNat * 5)) = some (.int .i64 ((Q13 l0 ((Q16 l1 x6_1).f0)).f0)) ∧ w'.cell? ⟨(ad200.add ((((Q16 l1 x6_1).f0)).toNat * 5)).block, (ad200.add ((((Q16 l1 x6_1).f0)).toNat * 5)).off + 1, none⟩ = some (.int .u64 ((Q13 l0 ((Q16 l1 x6_1).f0)).f1.f0)) ∧ w'.cell? ⟨(ad200.add ((((Q16 l1 x6_1).f0)).toNat * 5)).block, (ad200.add ((((Q16 l1 x6_1).f0)).toNat * 5)).off + 2, none⟩ = some (.int .u64 ((Q13 l0 ((Q16 l1 x6_1).f0)).f1.f1)) ∧ w'.cell? ⟨(ad200.add ((((Q16 l1 x6_1).f0)).toNat * 5)).block, (ad200.add ((((Q16 l1 x6_1).f0)).toNat * 5)).off + 3, none⟩ = some (.int .u64 ((Q13 l0 ((Q16 l1 x6_1).f0)).f1.f2)) ∧ w'.cell? ⟨(ad200.add ((((Q16 l1 x6_1).f0)).toNat * 5)).block, (ad200.add ((((Q16 l1 x6_1).f0)).toNat * 5)).off + 4, none⟩ = some (.int .u64 ((Q13 l0 ((Q16 l1 x6_1).f0)).f1.f3))) (ds := [14]) #[ff, ff, ff, ff, ff, ff, ff, ff, ff, ff, ff, ff, ff, ff, ff] (by kernel_rfl) rfl rfl ⟨hx202_0, ((HB.out.cell (World.block_lt_of_cell? w _ hw203_0)).trans hw203_0), ((HB.out.cell (World.block_lt_of_cell? w _ hw203_1)).trans hw203_1), ((HB.out.cell (World.block_lt_of_cell? w _ hw203_2)).trans hw203_2), ((HB.out.cell (World.block_lt_of_cell? w _ hw203_3)).trans hw203_3), ((HB.out.cell (World.block_lt_of_cell? w _ hw203_4)).trans hw203_4)⟩ (fun hHeld => ?_); refine with_tabW dowelref22_Depths.tab10 dowelref22_Depths.bits10 (fun HT_ HW_ => ?_)
                            generalize w23.drew = w24 at HO_5 HB hx202_0 hx203_0 hx203_1 hx203_2 hx203_3 hx203_4 hHeld ⊢
                            refine Q26 (i := 0) (N := some 40) (v := ?_) (a' := ?_) #[tt, ff, ff, ff, ff, ff, ff, ff, ff, ff, ff, ff, ff, ff, ff] rfl rfl (any_of HT_.out (by kernel_rfl)) (fun _ _ _ h => h) (Or.inl ⟨by rfl, ?_⟩) ?_ ?_; rotate_left; intro w'; go_simp; with_reducible rfl; rotate_left; simp only [pS]; rfl
                            refine Q26 (i := 1) (N := some 41) (v := ?_) (a' := ?_) #[tt, tt, ff, ff, ff, ff, ff, ff, ff, ff, ff, ff, ff, ff, ff] rfl rfl (any_of HT_.out (by kernel_rfl)) (fun _ _ _ h => h) (Or.inl ⟨by rfl, ?_⟩) ?_ ?_; rotate_left; intro w'; go_simp; with_reducible rfl; rotate_left; simp only [pS]; rfl
                            refine Q26 (i := 2) (N := some 42) (v := ?_) (a' := ?_) #[tt, tt, tt, ff, ff, ff, ff, ff, ff, ff, ff, ff, ff, ff, ff] rfl rfl (any_of HT_.out (by kernel_rfl)) (fun _ _ _ h => h) (Or.inl ⟨by rfl, ?_⟩) ?_ ?_; rotate_left; intro w'; go_simp; with_reducible rfl; rotate_left; simp only [pS]; rfl
                            refine Q26 (i := 3) (N := some 43) (v := ?_) (a' := ?_) #[tt, tt, tt, tt, ff, ff, ff, ff, ff, ff, ff, ff, ff, ff, ff] rfl rfl (any_of HT_.out (by kernel_rfl)) (fun _ _ _ h => h) (Or.inl ⟨by rfl, ?_⟩) ?_ ?_; rotate_left; intro w'; go_simp; with_reducible rfl; rotate_left; simp only [pS]; rfl
                            refine Q26 (i := 4) (N := some 44) (v := ?_) (a' := ?_) #[tt, tt, tt, tt, tt, ff, ff, ff, ff, ff, ff, ff, ff, ff, ff] rfl rfl (any_of HT_.out (by kernel_rfl)) (fun _ _ _ h => h) (Or.inl ⟨by rfl, ?_⟩) ?_ ?_; rotate_left; intro w'; go_simp; with_reducible rfl; rotate_left; simp only [pS]; rfl
                            refine Q26 (i := 6) (N := some 46) (v := ?_) (a' := ?_) #[tt, tt, tt, tt, tt, ff, tt, ff, ff, ff, ff, ff, ff, ff, ff] rfl rfl (any_of HT_.out (by kernel_rfl)) (fun _ _ _ h => h) (Or.inl ⟨by rfl, ?_⟩) ?_ ?_; rotate_left; intro w'; go_simp; with_reducible rfl; rotate_left; simp only [pS]; rfl
                            refine Q26 (i := 7) (N := some 47) (v := ?_) (a' := ?_) #[tt, tt, tt, tt, tt, ff, tt, tt, ff, ff, ff, ff, ff, ff, ff] rfl rfl (any_of HT_.out (by kernel_rfl)) (fun _ _ _ h => h) (Or.inl ⟨by rfl, ?_⟩) ?_ ?_; rotate_left; intro w'; go_simp; with_reducible rfl; rotate_left; simp only [pS]; rfl
                            refine Q26 (i := 8) (N := some 48) (v := ?_) (a' := ?_) #[tt, tt, tt, tt, tt, ff, tt, tt, tt, ff, ff, ff, ff, ff, ff] rfl rfl (any_of HT_.out (by kernel_rfl)) (fun _ _ _ h => h) (Or.inl ⟨by rfl, ?_⟩) ?_ ?_; rotate_left; intro w'; go_simp; with_reducible rfl; rotate_left; simp only [pS]; rfl
                            refine Q26 (i := 9) (N := some 49) (v := ?_) (a' := ?_) #[tt, tt, tt, tt, tt, ff, tt, tt, tt, tt, ff, ff, ff, ff, ff] rfl rfl (any_of HT_.out (by kernel_rfl)) (fun _ _ _ h => h) (Or.inl ⟨by rfl, ?_⟩) ?_ ?_; rotate_left; intro w'; go_simp; with_reducible rfl; rotate_left; simp only [pS]; rfl
                            refine take_ (i := 5) (N := some 45) (v := ?_) (a' := ?_) #[tt, tt, tt, tt, tt, tt, tt, tt, tt, tt, ff, ff, ff, ff, ff] rfl rfl (take_ofW HT_.out HW_.out (by kernel_rfl)) (fun _ _ _ h => h) (Or.inl ⟨by rfl, ?_⟩) hHeld ?_ ?_; rotate_left; rintro w' ⟨s0, s1, s2, s3, s4, s5⟩; go_simp; with_reducible rfl; rotate_left; simp only [pS]; rfl
                            refine take_ (i := 10) (N := some 50) (v := ?_) (a' := ?_) #[tt, tt, tt, tt, tt, tt, tt, tt, tt, tt, tt, ff, ff, ff, ff] rfl rfl (take_ofW HT_.out HW_.out (by kernel_rfl)) (fun _ _ _ h => h) (Or.inl ⟨by rfl, ?_⟩) hHeld ?_ ?_; rotate_left; rintro w' ⟨s0, s1, s2, s3, s4, s5⟩; go_simp; with_reducible rfl; rotate_left; simp only [pS]; rfl
                            refine one_ (i := 11) (N := some 51) #[tt, tt, tt, tt, tt, tt, tt, tt, tt, tt, tt, tt, ff, ff, ff] rfl rfl (one_of HT_.out (by kernel_rfl)) (by decide) (fun K hK => ?_)
                            refine goes_ Try.func70 (by kernel_rfl) rfl #[.int .i64 ((Q13 l0 ((Q16 l1 x6_1).f0)).f0), .bool true, .bool true] (by rfl) rfl rfl (by (try simp only [List.map_toArray, List.map_cons, List.map_nil]); first | done | rfl | (simp only [List.length_drop, List.length_take]; rfl)) ?_
                            with_reducible refine (dowelref22_in.calls ((Q13 l0 ((Q16 l1 x6_1).f0)).f0) true true t204 _ A20.out).mono ?_
                            rintro e w' ⟨rfl, ⟨nd, rfl⟩⟩
                            refine ⟨_, rfl, ?_⟩
                            have p22 : 0 ≤ (x6_1 : Int) := of_decide_eq_true (by first | (with_reducible assumption) | assumption)
                            have q22 : (x6_1 : Int) < ((x5_1.length : Int) : Int) := of_decide_eq_true (by first | (with_reducible assumption) | assumption)
                            obtain ⟨go22, co22, eo22, gb22, gl22, cl22, HG22⟩ := Kd.R_form HO_5.out (by omega)
                            (first | cases eo22 | (injection eo22 with ea_ en_ ec_; (first | subst ea_ | (injection ea_ with ea_; subst ea_)); subst ec_; clear en_))
                            have GB22 := Aside0.mk gb22
                            have GG22 := Aside0.mk HG22
                            clear gb22 gl22 HG22
                            (first | simp only [add_plain] at hx202_0 | skip)
                            obtain ⟨hx22_0, hf22_0⟩ := Kd.R_celln 0 HO_5.out (x6_1 : Int) p22 q22
                            replace p22 := eq_true p22
                            replace q22 := eq_true q22
                            have HP26 := Kd.R_putn HO_5.out (x6_1 : Int) (wrap64 ((rd x5_1 ((Q16 l1 x6_1).f0)) + t204))
                            rw [← Ny205.out] at HP26
                            have HQ26 := Aside0.mk HP26
                            clear HP26
                            refine hK.out _ _ ⟨hHeld.1, ((HB.out.cell (World.block_lt_of_cell? w _ hw203_0)).trans hw203_0), ((HB.out.cell (World.block_lt_of_cell? w _ hw203_1)).trans hw203_1), ((HB.out.cell (World.block_lt_of_cell? w _ hw203_2)).trans hw203_2), ((HB.out.cell (World.block_lt_of_cell? w _ hw203_3)).trans hw203_3), ((HB.out.cell (World.block_lt_of_cell? w _ hw203_4)).trans hw203_4)⟩ (fun hHeld => ?_)
                            clear hK K
                            refine norm_ (a' := ?_) ?_ ?_; rotate_left; show Act.put _ (some 51) _ = _; simp only [pS]; rfl
                            refine Q26 (i := 12) (N := some 52) (v := ?_) (a' := ?_) #[tt, tt, tt, tt, tt, tt, tt, tt, tt, tt, tt, tt, tt, ff, ff] rfl rfl (any_of HT_.out (by kernel_rfl)) (fun _ _ _ h => h) (Or.inl ⟨by rfl, ?_⟩) ?_ ?_; rotate_left; intro w'; go_simp; with_reducible rfl; rotate_left; simp only [pS]; rfl
                            refine Q26 (i := 13) (N := some 53) (v := ?_) (a' := ?_) #[tt, tt, tt, tt, tt, tt, tt, tt, tt, tt, tt, tt, tt, tt, ff] rfl rfl (any_of HT_.out (by kernel_rfl)) (fun _ _ _ h => h) (Or.inl ⟨by rfl, ?_⟩) ?_ ?_; rotate_left; intro w'; go_simp; with_reducible rfl; rotate_left; simp only [pS]; rfl
                            refine last_ (i := 14) (N := none) #[tt, tt, tt, tt, tt, tt, tt, tt, tt, tt, tt, tt, tt, tt, tt] rfl rfl (one_of HT_.out (by kernel_rfl)) (by decide) (fun K hK => ?_)
                            (with_reducible refine skip_ (w1 := ?_) ?hw_ ?hN_ ?_ ?_); (case hw_ => rfl); (case hN_ => rfl)
                            rotate_left
                            · go_simp
                              rfl
                            refine hK.out _ _ ?_
                            clear hK K
                            refine done_ (done_of HT_.out (by kernel_rfl)) ?_
                            try go_wp2
                            go_roundg k1
                            case measure => have := HK1.out; omega
                            case rel => exact ⟨(y205), (wrap64 (x6_1 + 1)), (by first | rfl | (simp; done) | (simp [*]; done)), H', ⟨by have := HK1.out; omega⟩, ⟨by (with_reducible repeat (first | apply Kd.R_alloc | apply Kd.R_drewN | apply Kd.R_drew)); exact HQ26.out⟩, ⟨by repeat (first | (with_reducible first | exact HB.out | apply Q9 | apply Q7 | apply Q8 | refine Q14 ?_ GB22.out) | exact HB.out)⟩⟩
                          · rw [if_neg c21] at H
                            exact absurd H (by simp)
                        · rw [if_neg c19] at H
                          exact absurd H (by simp)
                      · rw [if_neg c18] at H
                        exact absurd H (by simp)
                    · rw [if_neg c17] at H
                      exact absurd H (by simp)
                  · rw [if_neg c16] at H
                    have c16b0 : (((Q13 l0 x6_1).f0) == 5) = false := beq_eq_false_iff_ne.mpr c16
                    have c16b1 : (((Q13 l0 x6_1).f0) != 5) = true := bne_iff_ne.mpr c16
                    by_cases c27 : ((Q13 l0 x6_1).f0) = 3
                    · rw [if_pos c27] at H
                      have c27b0 : (((Q13 l0 x6_1).f0) == 3) = true := beq_iff_eq.mpr c27
                      have c27b1 : (((Q13 l0 x6_1).f0) != 3) = false := bne_eq_false_iff_eq.mpr c27
                      clear c27
                      by_cases c28 : 0 ≤ ((Q16 l1 x6_1).f0)
                      · rw [if_pos c28] at H
                        have c28b0 : decide (0 ≤ ((Q16 l1 x6_1).f0)) = true := decide_eq_true c28
                        clear c28
                        by_cases c29 : ((Q16 l1 x6_1).f0) < (x5_1.length : Int)
                        · rw [if_pos c29] at H
                          have c29b0 : decide (((Q16 l1 x6_1).f0) < (x5_1.length : Int)) = true := decide_eq_true c29
                          clear c29
                          by_cases c30 : ((Q16 l1 x6_1).f0) < (l0.length : Int)
                          · rw [if_pos c30] at H
                            have c30b0 : decide (((Q16 l1 x6_1).f0) < (l0.length : Int)) = true := decide_eq_true c30
                            clear c30
                            replace H := Option.bind_eq_some_iff.mp H
                            obtain ⟨t208, A310, H⟩ := H
                            replace H : (if 0 ≤ ((Q16 l1 x6_1).f1) then (if ((Q16 l1 x6_1).f1) < (x5_1.length : Int) then (if ((Q16 l1 x6_1).f1) < (l0.length : Int) then ((dowelref22_in.f ((Q13 l0 ((Q16 l1 x6_1).f1)).f0) false true).bind fun t211 => (if x6_1 < (x5_1.length : Int) then (dowelref22_Depths.l0 k1 l0 l1 (x5_1.set (x6_1 : Int).toNat (mx (wrap64 ((rd x5_1 ((Q16 l1 x6_1).f0)) + t208)) (wrap64 ((rd x5_1 ((Q16 l1 x6_1).f1)) + t211)))) (wrap64 (x6_1 + 1))) else (none))) else (none)) else (none)) else (none)) = some r := H
                            have A31 := Aside0.mk A310
                            clear A310
                            by_cases c32 : 0 ≤ ((Q16 l1 x6_1).f1)
                            · rw [if_pos c32] at H
                              have c32b0 : decide (0 ≤ ((Q16 l1 x6_1).f1)) = true := decide_eq_true c32
                              clear c32
                              by_cases c33 : ((Q16 l1 x6_1).f1) < (x5_1.length : Int)
                              · rw [if_pos c33] at H
                                have c33b0 : decide (((Q16 l1 x6_1).f1) < (x5_1.length : Int)) = true := decide_eq_true c33
                                clear c33
                                by_cases c34 : ((Q16 l1 x6_1).f1) < (l0.length : Int)
                                · rw [if_pos c34] at H
                                  have c34b0 : decide (((Q16 l1 x6_1).f1) < (l0.length : Int)) = true := decide_eq_true c34
                                  clear c34
                                  replace H := Option.bind_eq_some_iff.mp H
                                  obtain ⟨t211, A350, H⟩ := H
                                  replace H : (if x6_1 < (x5_1.length : Int) then (dowelref22_Depths.l0 k1 l0 l1 (x5_1.set (x6_1 : Int).toNat (mx (wrap64 ((rd x5_1 ((Q16 l1 x6_1).f0)) + t208)) (wrap64 ((rd x5_1 ((Q16 l1 x6_1).f1)) + t211)))) (wrap64 (x6_1 + 1))) else (none)) = some r := H
                                  have A35 := Aside0.mk A350
                                  clear A350
                                  obtain ⟨ji36, hji36⟩ : ∃ j_ : Int, (mx (wrap64 ((rd x5_1 ((Q16 l1 x6_1).f0)) + t208)) (wrap64 ((rd x5_1 ((Q16 l1 x6_1).f1)) + t211))) = j_ := ⟨_, rfl⟩
                                  replace H : (if x6_1 < (x5_1.length : Int) then (dowelref22_Depths.l0 k1 l0 l1 (x5_1.set (x6_1 : Int).toNat (ji36)) (wrap64 (x6_1 + 1))) else (none)) = some r := by first | (rw [hji36] at H; exact H) | (simp only [hji36] at H ⊢; exact H)
                                  (try rw [hji36] at A31)
                                  (try rw [hji36] at A35)
                                  have hji36_ : (if (wrap64 ((rd x5_1 ((Q16 l1 x6_1).f0)) + t208)) < (wrap64 ((rd x5_1 ((Q16 l1 x6_1).f1)) + t211)) then (wrap64 ((rd x5_1 ((Q16 l1 x6_1).f1)) + t211)) else (wrap64 ((rd x5_1 ((Q16 l1 x6_1).f0)) + t208))) = ji36 := hji36
                                  by_cases c37 : x6_1 < (x5_1.length : Int)
                                  · rw [if_pos c37] at H
                                    have c37b0 : decide (x6_1 < (x5_1.length : Int)) = true := decide_eq_true c37
                                    clear c37
                                    obtain ⟨y212, hy212⟩ : ∃ y_ : List Int, y_ = (x5_1.set (x6_1 : Int).toNat (ji36)) := ⟨_, rfl⟩
                                    replace H : (dowelref22_Depths.l0 k1 l0 l1 y212 (wrap64 (x6_1 + 1))) = some r := by first | (rw [hy212]; with_reducible exact H) | (have H2_ := (Option.bind_some _ _).symm.trans H; rw [hy212]; with_reducible exact H2_) | (have H2_ := (Option.bind_some _ _).symm.trans H; with_reducible exact H2_) | with_reducible exact H | (rw [hy212]; exact H) | exact H
                                    have Ny212 := Aside0.mk hy212
                                    clear hy212
                                    have H' := Aside0.mk H
                                    clear H
                                    try go_wp2
                                    have n0_ := Aside0.mk (Kd.R_drew HO_5.out)
                                    have n1_ := Aside0.mk (Q8 HB.out)
                                    clear HO_5
                                    clear HB
                                    have HO_5 := n0_
                                    have HB := n1_
                                    clear n0_ n1_
                                    have p198 : 0 ≤ (x6_1 : Int) := of_decide_eq_true (by first | (with_reducible assumption) | assumption)
                                    have q198 : x6_1 < (l1.length : Int) := of_decide_eq_true (by first | (with_reducible assumption) | assumption)
                                    obtain ⟨ad198, e198, hx198_0, hx198_1⟩ := at_T100 HR1.out x6_1 p198 q198
                                    have hw198_1 := hx198_1
                                    have hw198_0 := hx198_0
                                    cases e198
                                    replace hx198_0 := (HB.out.cell (World.block_lt_of_cell? w _ hx198_0)).trans hx198_0
                                    replace hx198_1 := (HB.out.cell (World.block_lt_of_cell? w _ hx198_1)).trans hx198_1
                                    replace p198 := eq_true p198
                                    replace q198 := eq_true q198
                                    have p199 : 0 ≤ (x6_1 : Int) := of_decide_eq_true (by first | (with_reducible assumption) | assumption)
                                    have q199 : x6_1 < (l1.length : Int) := of_decide_eq_true (by first | (with_reducible assumption) | assumption)
                                    obtain ⟨ad199, e199, hx199_0, hx199_1⟩ := at_T100 HR1.out x6_1 p199 q199
                                    have hw199_1 := hx199_1
                                    have hw199_0 := hx199_0
                                    obtain rfl : ad198 = ad199 := (by injection e199)
                                    replace hx199_0 := (HB.out.cell (World.block_lt_of_cell? w _ hx199_0)).trans hx199_0
                                    replace hx199_1 := (HB.out.cell (World.block_lt_of_cell? w _ hx199_1)).trans hx199_1
                                    replace p199 := eq_true p199
                                    replace q199 := eq_true q199
                                    refine start_ (n := 12) (S := fun w' => w'.cell? (ad198.add ((x6_1).toNat * 2)) = some (.int .i64 ((Q16 l1 x6_1).f0)) ∧ w'.cell? ⟨(ad198.add ((x6_1).toNat * 2)).block, (ad198.add ((x6_1).toNat * 2)).off + 1, none⟩ = some (.int .i64 ((Q16 l1 x6_1).f1)) ∧ w'.cell? (ad198.add ((x6_1).toNat * 2)) = some (.int .i64 ((Q16 l1 x6_1).f0)) ∧ w'.cell? ⟨(ad198.add ((x6_1).toNat * 2)).block, (ad198.add ((x6_1).toNat * 2)).off + 1, none⟩ = some (.int .i64 ((Q16 l1 x6_1).f1))) (ds := []) #[ff, ff, ff, ff, ff, ff, ff, ff, ff, ff, ff, ff] (by kernel_rfl) rfl rfl ⟨((HB.out.cell (World.block_lt_of_cell? w _ hw198_0)).trans hw198_0), ((HB.out.cell (World.block_lt_of_cell? w _ hw198_1)).trans hw198_1), ((HB.out.cell (World.block_lt_of_cell? w _ hw199_0)).trans hw199_0), ((HB.out.cell (World.block_lt_of_cell? w _ hw199_1)).trans hw199_1)⟩ (fun hHeld => ?_); refine with_tabW dowelref22_Depths.tab5 dowelref22_Depths.bits5 (fun HT_ HW_ => ?_)
                                    generalize wr.drew = w39 at HO_5 HB hx198_0 hx198_1 hx199_0 hx199_1 hHeld ⊢
                                    refine Q26 (i := 0) (N := some 18) (v := ?_) (a' := ?_) #[tt, ff, ff, ff, ff, ff, ff, ff, ff, ff, ff, ff] rfl rfl (any_of HT_.out (by kernel_rfl)) (fun _ _ _ h => h) (Or.inl ⟨by rfl, ?_⟩) ?_ ?_; rotate_left; intro w'; go_simp; with_reducible rfl; rotate_left; simp only [pS]; rfl
                                    refine Q26 (i := 1) (N := some 19) (v := ?_) (a' := ?_) #[tt, tt, ff, ff, ff, ff, ff, ff, ff, ff, ff, ff] rfl rfl (any_of HT_.out (by kernel_rfl)) (fun _ _ _ h => h) (Or.inl ⟨by rfl, ?_⟩) ?_ ?_; rotate_left; intro w'; go_simp; with_reducible rfl; rotate_left; simp only [pS]; rfl
                                    refine Q26 (i := 2) (N := some 20) (v := ?_) (a' := ?_) #[tt, tt, tt, ff, ff, ff, ff, ff, ff, ff, ff, ff] rfl rfl (any_of HT_.out (by kernel_rfl)) (fun _ _ _ h => h) (Or.inl ⟨by rfl, ?_⟩) ?_ ?_; rotate_left; intro w'; go_simp; with_reducible rfl; rotate_left; simp only [pS]; rfl
                                    refine Q26 (i := 3) (N := some 21) (v := ?_) (a' := ?_) #[tt, tt, tt, tt, ff, ff, ff, ff, ff, ff, ff, ff] rfl rfl (any_of HT_.out (by kernel_rfl)) (fun _ _ _ h => h) (Or.inl ⟨by rfl, ?_⟩) ?_ ?_; rotate_left; intro w'; go_simp; with_reducible rfl; rotate_left; simp only [pS]; rfl
                                    refine Q26 (i := 5) (N := some 23) (v := ?_) (a' := ?_) #[tt, tt, tt, tt, ff, tt, ff, ff, ff, ff, ff, ff] rfl rfl (any_of HT_.out (by kernel_rfl)) (fun _ _ _ h => h) (Or.inl ⟨by rfl, ?_⟩) ?_ ?_; rotate_left; intro w'; go_simp; with_reducible rfl; rotate_left; simp only [pS]; rfl
                                    refine Q26 (i := 6) (N := some 24) (v := ?_) (a' := ?_) #[tt, tt, tt, tt, ff, tt, tt, ff, ff, ff, ff, ff] rfl rfl (any_of HT_.out (by kernel_rfl)) (fun _ _ _ h => h) (Or.inl ⟨by rfl, ?_⟩) ?_ ?_; rotate_left; intro w'; go_simp; with_reducible rfl; rotate_left; simp only [pS]; rfl
                                    refine Q26 (i := 7) (N := some 25) (v := ?_) (a' := ?_) #[tt, tt, tt, tt, ff, tt, tt, tt, ff, ff, ff, ff] rfl rfl (any_of HT_.out (by kernel_rfl)) (fun _ _ _ h => h) (Or.inl ⟨by rfl, ?_⟩) ?_ ?_; rotate_left; intro w'; go_simp; with_reducible rfl; rotate_left; simp only [pS]; rfl
                                    refine Q26 (i := 8) (N := some 26) (v := ?_) (a' := ?_) #[tt, tt, tt, tt, ff, tt, tt, tt, tt, ff, ff, ff] rfl rfl (any_of HT_.out (by kernel_rfl)) (fun _ _ _ h => h) (Or.inl ⟨by rfl, ?_⟩) ?_ ?_; rotate_left; intro w'; go_simp; with_reducible rfl; rotate_left; simp only [pS]; rfl
                                    refine take_ (i := 4) (N := some 22) (v := ?_) (a' := ?_) #[tt, tt, tt, tt, tt, tt, tt, tt, tt, ff, ff, ff] rfl rfl (take_ofW HT_.out HW_.out (by kernel_rfl)) (fun _ _ _ h => h) (Or.inl ⟨by rfl, ?_⟩) hHeld ?_ ?_; rotate_left; rintro w' ⟨s0, s1, s2, s3⟩; go_simp; with_reducible rfl; rotate_left; simp only [pS]; rfl
                                    refine Q26 (i := 10) (N := some 7) (v := ?_) (a' := ?_) #[tt, tt, tt, tt, tt, tt, tt, tt, tt, ff, tt, ff] rfl rfl (any_of HT_.out (by kernel_rfl)) (fun _ _ _ h => h) (Or.inl ⟨by rfl, ?_⟩) ?_ ?_; rotate_left; intro w'; go_simp; with_reducible rfl; rotate_left; simp only [pS]; rfl
                                    refine take_ (i := 9) (N := some 27) (v := ?_) (a' := ?_) #[tt, tt, tt, tt, tt, tt, tt, tt, tt, tt, tt, ff] rfl rfl (take_ofW HT_.out HW_.out (by kernel_rfl)) (fun _ _ _ h => h) (Or.inl ⟨by rfl, ?_⟩) hHeld ?_ ?_; rotate_left; rintro w' ⟨s0, s1, s2, s3⟩; go_simp; with_reducible rfl; rotate_left; simp only [pS]; rfl
                                    refine Q26 (i := 11) (N := some 8) (v := ?_) (a' := ?_) #[tt, tt, tt, tt, tt, tt, tt, tt, tt, tt, tt, tt] rfl rfl (any_of HT_.out (by kernel_rfl)) (fun _ _ _ h => h) (Or.inl ⟨by rfl, ?_⟩) ?_ ?_; rotate_left; intro w'; go_simp; with_reducible rfl; rotate_left; simp only [pS]; rfl
                                    refine done_ (done_of HT_.out (by kernel_rfl)) ?_
                                    have p200 : 0 ≤ (x6_1 : Int) := of_decide_eq_true (by first | (with_reducible assumption) | assumption)
                                    have q200 : x6_1 < (l0.length : Int) := of_decide_eq_true (by first | (with_reducible assumption) | assumption)
                                    obtain ⟨ad200, e200, hx200_0, hx200_1, hx200_2, hx200_3, hx200_4⟩ := at_T45 HR0.out x6_1 p200 q200
                                    cases e200
                                    replace hx200_0 := (HB.out.cell (World.block_lt_of_cell? w _ hx200_0)).trans hx200_0
                                    replace hx200_1 := (HB.out.cell (World.block_lt_of_cell? w _ hx200_1)).trans hx200_1
                                    replace hx200_2 := (HB.out.cell (World.block_lt_of_cell? w _ hx200_2)).trans hx200_2
                                    replace hx200_3 := (HB.out.cell (World.block_lt_of_cell? w _ hx200_3)).trans hx200_3
                                    replace hx200_4 := (HB.out.cell (World.block_lt_of_cell? w _ hx200_4)).trans hx200_4
                                    replace p200 := eq_true p200
                                    replace q200 := eq_true q200
                                    try go_wp2
                                    have n0_ := Aside0.mk (Kd.R_drew HO_5.out)
                                    have n1_ := Aside0.mk (Q8 HB.out)
                                    clear HO_5
                                    clear HB
                                    have HO_5 := n0_
                                    have HB := n1_
                                    clear n0_ n1_
                                    obtain ⟨Ao41, co41, eo41⟩ := Kd.R_slice HO_5.out
                                    (first | subst eo41 | (injection eo41 with f1_ f2_ f3_; have f4_ := f1_.symm; have f5_ := f3_.symm; clear f1_ f2_ f3_; subst f4_; subst f5_))
                                    have p206 : 0 ≤ (((Q16 l1 x6_1).f0) : Int) := of_decide_eq_true (by first | (with_reducible assumption) | assumption)
                                    have q206 : ((Q16 l1 x6_1).f0) < (x5_1.length : Int) := of_decide_eq_true (by first | (with_reducible assumption) | assumption)
                                    obtain ⟨ad206, e206, hx206_0⟩ := Kd.at_int (Kd.R_reads' HO_5.out).2.2 ((Q16 l1 x6_1).f0) p206 q206
                                    cases e206
                                    replace p206 := eq_true p206
                                    replace q206 := eq_true q206
                                    have p207 : 0 ≤ (((Q16 l1 x6_1).f0) : Int) := of_decide_eq_true (by first | (with_reducible assumption) | assumption)
                                    have q207 : ((Q16 l1 x6_1).f0) < (l0.length : Int) := of_decide_eq_true (by first | (with_reducible assumption) | assumption)
                                    obtain ⟨ad207, e207, hx207_0, hx207_1, hx207_2, hx207_3, hx207_4⟩ := at_T45 HR0.out ((Q16 l1 x6_1).f0) p207 q207
                                    have hw207_4 := hx207_4
                                    have hw207_3 := hx207_3
                                    have hw207_2 := hx207_2
                                    have hw207_1 := hx207_1
                                    have hw207_0 := hx207_0
                                    obtain rfl : ad200 = ad207 := (by injection e207)
                                    replace hx207_0 := (HB.out.cell (World.block_lt_of_cell? w _ hx207_0)).trans hx207_0
                                    replace hx207_1 := (HB.out.cell (World.block_lt_of_cell? w _ hx207_1)).trans hx207_1
                                    replace hx207_2 := (HB.out.cell (World.block_lt_of_cell? w _ hx207_2)).trans hx207_2
                                    replace hx207_3 := (HB.out.cell (World.block_lt_of_cell? w _ hx207_3)).trans hx207_3
                                    replace hx207_4 := (HB.out.cell (World.block_lt_of_cell? w _ hx207_4)).trans hx207_4
                                    replace p207 := eq_true p207
                                    replace q207 := eq_true q207
                                    have p209 : 0 ≤ (((Q16 l1 x6_1).f1) : Int) := of_decide_eq_true (by first | (with_reducible assumption) | assumption)
                                    have q209 : ((Q16 l1 x6_1).f1) < (x5_1.length : Int) := of_decide_eq_true (by first | (with_reducible assumption) | assumption)
                                    obtain ⟨ad209, e209, hx209_0⟩ := Kd.at_int (Kd.R_reads' HO_5.out).2.2 ((Q16 l1 x6_1).f1) p209 q209
                                    obtain rfl : ad206 = ad209 := (by injection e209)
                                    replace p209 := eq_true p209
                                    replace q209 := eq_true q209
                                    have p210 : 0 ≤ (((Q16 l1 x6_1).f1) : Int) := of_decide_eq_true (by first | (with_reducible assumption) | assumption)
                                    have q210 : ((Q16 l1 x6_1).f1) < (l0.length : Int) := of_decide_eq_true (by first | (with_reducible assumption) | assumption)
                                    obtain ⟨ad210, e210, hx210_0, hx210_1, hx210_2, hx210_3, hx210_4⟩ := at_T45 HR0.out ((Q16 l1 x6_1).f1) p210 q210
                                    have hw210_4 := hx210_4
                                    have hw210_3 := hx210_3
                                    have hw210_2 := hx210_2
                                    have hw210_1 := hx210_1
                                    have hw210_0 := hx210_0
                                    obtain rfl : ad200 = ad210 := (by injection e210)
                                    replace hx210_0 := (HB.out.cell (World.block_lt_of_cell? w _ hx210_0)).trans hx210_0
                                    replace hx210_1 := (HB.out.cell (World.block_lt_of_cell? w _ hx210_1)).trans hx210_1
                                    replace hx210_2 := (HB.out.cell (World.block_lt_of_cell? w _ hx210_2)).trans hx210_2
                                    replace hx210_3 := (HB.out.cell (World.block_lt_of_cell? w _ hx210_3)).trans hx210_3
                                    replace hx210_4 := (HB.out.cell (World.block_lt_of_cell? w _ hx210_4)).trans hx210_4
                                    replace p210 := eq_true p210
                                    replace q210 := eq_true q210
                                    refine start_ (n := 27) (S := fun w' => w'.cell? (ad206.add (((Q16 l1 x6_1).f0)).toNat) = some (.int .i64 (rd x5_1 ((Q16 l1 x6_1).f0))) ∧ w'.cell? (ad200.add ((((Q16 l1 x6_1).f0)).toNat * 5)) = some (.int .i64 ((Q13 l0 ((Q16 l1 x6_1).f0)).f0)) ∧ w'.cell? ⟨(ad200.add ((((Q16 l1 x6_1).f0)).toNat * 5)).block, (ad200.add ((((Q16 l1 x6_1).f0)).toNat * 5)).off + 1, none⟩ = some (.int .u64 ((Q13 l0 ((Q16 l1 x6_1).f0)).f1.f0)) ∧ w'.cell? ⟨(ad200.add ((((Q16 l1 x6_1).f0)).toNat * 5)).block, (ad200.add ((((Q16 l1 x6_1).f0)).toNat * 5)).off + 2, none⟩ = some (.int .u64 ((Q13 l0 ((Q16 l1 x6_1).f0)).f1.f1)) ∧ w'.cell? ⟨(ad200.add ((((Q16 l1 x6_1).f0)).toNat * 5)).block, (ad200.add ((((Q16 l1 x6_1).f0)).toNat * 5)).off + 3, none⟩ = some (.int .u64 ((Q13 l0 ((Q16 l1 x6_1).f0)).f1.f2)) ∧ w'.cell? ⟨(ad200.add ((((Q16 l1 x6_1).f0)).toNat * 5)).block, (ad200.add ((((Q16 l1 x6_1).f0)).toNat * 5)).off + 4, none⟩ = some (.int .u64 ((Q13 l0 ((Q16 l1 x6_1).f0)).f1.f3)) ∧ w'.cell? (ad206.add (((Q16 l1 x6_1).f1)).toNat) = some (.int .i64 (rd x5_1 ((Q16 l1 x6_1).f1))) ∧ w'.cell? (ad200.add ((((Q16 l1 x6_1).f1)).toNat * 5)) = some (.int .i64 ((Q13 l0 ((Q16 l1 x6_1).f1)).f0)) ∧ w'.cell? ⟨(ad200.add ((((Q16 l1 x6_1).f1)).toNat * 5)).block, (ad200.add ((((Q16 l1 x6_1).f1)).toNat * 5)).off + 1, none⟩ = some (.int .u64 ((Q13 l0 ((Q16 l1 x6_1).f1)).f1.f0)) ∧ w'.cell? ⟨(ad200.add ((((Q16 l1 x6_1).f1)).toNat * 5)).block, (ad200.add ((((Q16 l1 x6_1).f1)).toNat * 5)).off + 2, none⟩ = some (.int .u64 ((Q13 l0 ((Q16 l1 x6_1).f1)).f1.f1)) ∧ w'.cell? ⟨(ad200.add ((((Q16 l1 x6_1).f1)).toNat * 5)).block, (ad200.add ((((Q16 l1 x6_1).f1)).toNat * 5)).off + 3, none⟩ = some (.int .u64 ((Q13 l0 ((Q16 l1 x6_1).f1)).f1.f2)) ∧ w'.cell? ⟨(ad200.add ((((Q16 l1 x6_1).f1)).toNat * 5)).block, (ad200.add ((((Q16 l1 x6_1).f1)).toNat * 5)).off + 4, none⟩ = some (.int .u64 ((Q13 l0 ((Q16 l1 x6_1).f1)).f1.f3))) (ds := [26]) #[ff, ff, ff, ff, ff, ff, ff, ff, ff, ff, ff, ff, ff, ff, ff, ff, ff, ff, ff, ff, ff, ff, ff, ff, ff, ff, ff] (by kernel_rfl) rfl rfl ⟨hx206_0, ((HB.out.cell (World.block_lt_of_cell? w _ hw207_0)).trans hw207_0), ((HB.out.cell (World.block_lt_of_cell? w _ hw207_1)).trans hw207_1), ((HB.out.cell (World.block_lt_of_cell? w _ hw207_2)).trans hw207_2), ((HB.out.cell (World.block_lt_of_cell? w _ hw207_3)).trans hw207_3), ((HB.out.cell (World.block_lt_of_cell? w _ hw207_4)).trans hw207_4), hx209_0, ((HB.out.cell (World.block_lt_of_cell? w _ hw210_0)).trans hw210_0), ((HB.out.cell (World.block_lt_of_cell? w _ hw210_1)).trans hw210_1), ((HB.out.cell (World.block_lt_of_cell? w _ hw210_2)).trans hw210_2), ((HB.out.cell (World.block_lt_of_cell? w _ hw210_3)).trans hw210_3), ((HB.out.cell (World.block_lt_of_cell? w _ hw210_4)).trans hw210_4)⟩ (fun hHeld => ?_); refine with_tabW dowelref22_Depths.tab12 dowelref22_Depths.bits12 (fun HT_ HW_ => ?_)
                                    generalize w39.drew = w40 at HO_5 HB hx206_0 hx207_0 hx207_1 hx207_2 hx207_3 hx207_4 hx209_0 hx210_0 hx210_1 hx210_2 hx210_3 hx210_4 hHeld ⊢
                                    refine Q26 (i := 0) (N := some 56) (v := ?_) (a' := ?_) #[tt, ff, ff, ff, ff, ff, ff, ff, ff, ff, ff, ff, ff, ff, ff, ff, ff, ff, ff, ff, ff, ff, ff, ff, ff, ff, ff] rfl rfl (any_of HT_.out (by kernel_rfl)) (fun _ _ _ h => h) (Or.inl ⟨by rfl, ?_⟩) ?_ ?_; rotate_left; intro w'; go_simp; with_reducible rfl; rotate_left; simp only [pS]; rfl
                                    refine Q26 (i := 1) (N := some 57) (v := ?_) (a' := ?_) #[tt, tt, ff, ff, ff, ff, ff, ff, ff, ff, ff, ff, ff, ff, ff, ff, ff, ff, ff, ff, ff, ff, ff, ff, ff, ff, ff] rfl rfl (any_of HT_.out (by kernel_rfl)) (fun _ _ _ h => h) (Or.inl ⟨by rfl, ?_⟩) ?_ ?_; rotate_left; intro w'; go_simp; with_reducible rfl; rotate_left; simp only [pS]; rfl
                                    refine Q26 (i := 2) (N := some 58) (v := ?_) (a' := ?_) #[tt, tt, tt, ff, ff, ff, ff, ff, ff, ff, ff, ff, ff, ff, ff, ff, ff, ff, ff, ff, ff, ff, ff, ff, ff, ff, ff] rfl rfl (any_of HT_.out (by kernel_rfl)) (fun _ _ _ h => h) (Or.inl ⟨by rfl, ?_⟩) ?_ ?_; rotate_left; intro w'; go_simp; with_reducible rfl; rotate_left; simp only [pS]; rfl
                                    refine Q26 (i := 3) (N := some 59) (v := ?_) (a' := ?_) #[tt, tt, tt, tt, ff, ff, ff, ff, ff, ff, ff, ff, ff, ff, ff, ff, ff, ff, ff, ff, ff, ff, ff, ff, ff, ff, ff] rfl rfl (any_of HT_.out (by kernel_rfl)) (fun _ _ _ h => h) (Or.inl ⟨by rfl, ?_⟩) ?_ ?_; rotate_left; intro w'; go_simp; with_reducible rfl; rotate_left; simp only [pS]; rfl
                                    refine Q26 (i := 4) (N := some 60) (v := ?_) (a' := ?_) #[tt, tt, tt, tt, tt, ff, ff, ff, ff, ff, ff, ff, ff, ff, ff, ff, ff, ff, ff, ff, ff, ff, ff, ff, ff, ff, ff] rfl rfl (any_of HT_.out (by kernel_rfl)) (fun _ _ _ h => h) (Or.inl ⟨by rfl, ?_⟩) ?_ ?_; rotate_left; intro w'; go_simp; with_reducible rfl; rotate_left; simp only [pS]; rfl
                                    refine Q26 (i := 6) (N := some 62) (v := ?_) (a' := ?_) #[tt, tt, tt, tt, tt, ff, tt, ff, ff, ff, ff, ff, ff, ff, ff, ff, ff, ff, ff, ff, ff, ff, ff, ff, ff, ff, ff] rfl rfl (any_of HT_.out (by kernel_rfl)) (fun _ _ _ h => h) (Or.inl ⟨by rfl, ?_⟩) ?_ ?_; rotate_left; intro w'; go_simp; with_reducible rfl; rotate_left; simp only [pS]; rfl
                                    refine Q26 (i := 7) (N := some 63) (v := ?_) (a' := ?_) #[tt, tt, tt, tt, tt, ff, tt, tt, ff, ff, ff, ff, ff, ff, ff, ff, ff, ff, ff, ff, ff, ff, ff, ff, ff, ff, ff] rfl rfl (any_of HT_.out (by kernel_rfl)) (fun _ _ _ h => h) (Or.inl ⟨by rfl, ?_⟩) ?_ ?_; rotate_left; intro w'; go_simp; with_reducible rfl; rotate_left; simp only [pS]; rfl
                                    refine Q26 (i := 8) (N := some 64) (v := ?_) (a' := ?_) #[tt, tt, tt, tt, tt, ff, tt, tt, tt, ff, ff, ff, ff, ff, ff, ff, ff, ff, ff, ff, ff, ff, ff, ff, ff, ff, ff] rfl rfl (any_of HT_.out (by kernel_rfl)) (fun _ _ _ h => h) (Or.inl ⟨by rfl, ?_⟩) ?_ ?_; rotate_left; intro w'; go_simp; with_reducible rfl; rotate_left; simp only [pS]; rfl
                                    refine Q26 (i := 9) (N := some 65) (v := ?_) (a' := ?_) #[tt, tt, tt, tt, tt, ff, tt, tt, tt, tt, ff, ff, ff, ff, ff, ff, ff, ff, ff, ff, ff, ff, ff, ff, ff, ff, ff] rfl rfl (any_of HT_.out (by kernel_rfl)) (fun _ _ _ h => h) (Or.inl ⟨by rfl, ?_⟩) ?_ ?_; rotate_left; intro w'; go_simp; with_reducible rfl; rotate_left; simp only [pS]; rfl
                                    refine Q26 (i := 13) (N := some 69) (v := ?_) (a' := ?_) #[tt, tt, tt, tt, tt, ff, tt, tt, tt, tt, ff, ff, ff, tt, ff, ff, ff, ff, ff, ff, ff, ff, ff, ff, ff, ff, ff] rfl rfl (any_of HT_.out (by kernel_rfl)) (fun _ _ _ h => h) (Or.inl ⟨by rfl, ?_⟩) ?_ ?_; rotate_left; intro w'; go_simp; with_reducible rfl; rotate_left; simp only [pS]; rfl
                                    refine Q26 (i := 14) (N := some 70) (v := ?_) (a' := ?_) #[tt, tt, tt, tt, tt, ff, tt, tt, tt, tt, ff, ff, ff, tt, tt, ff, ff, ff, ff, ff, ff, ff, ff, ff, ff, ff, ff] rfl rfl (any_of HT_.out (by kernel_rfl)) (fun _ _ _ h => h) (Or.inl ⟨by rfl, ?_⟩) ?_ ?_; rotate_left; intro w'; go_simp; with_reducible rfl; rotate_left; simp only [pS]; rfl
                                    refine Q26 (i := 15) (N := some 71) (v := ?_) (a' := ?_) #[tt, tt, tt, tt, tt, ff, tt, tt, tt, tt, ff, ff, ff, tt, tt, tt, ff, ff, ff, ff, ff, ff, ff, ff, ff, ff, ff] rfl rfl (any_of HT_.out (by kernel_rfl)) (fun _ _ _ h => h) (Or.inl ⟨by rfl, ?_⟩) ?_ ?_; rotate_left; intro w'; go_simp; with_reducible rfl; rotate_left; simp only [pS]; rfl
                                    refine Q26 (i := 17) (N := some 73) (v := ?_) (a' := ?_) #[tt, tt, tt, tt, tt, ff, tt, tt, tt, tt, ff, ff, ff, tt, tt, tt, ff, tt, ff, ff, ff, ff, ff, ff, ff, ff, ff] rfl rfl (any_of HT_.out (by kernel_rfl)) (fun _ _ _ h => h) (Or.inl ⟨by rfl, ?_⟩) ?_ ?_; rotate_left; intro w'; go_simp; with_reducible rfl; rotate_left; simp only [pS]; rfl
                                    refine Q26 (i := 18) (N := some 74) (v := ?_) (a' := ?_) #[tt, tt, tt, tt, tt, ff, tt, tt, tt, tt, ff, ff, ff, tt, tt, tt, ff, tt, tt, ff, ff, ff, ff, ff, ff, ff, ff] rfl rfl (any_of HT_.out (by kernel_rfl)) (fun _ _ _ h => h) (Or.inl ⟨by rfl, ?_⟩) ?_ ?_; rotate_left; intro w'; go_simp; with_reducible rfl; rotate_left; simp only [pS]; rfl
                                    refine Q26 (i := 19) (N := some 75) (v := ?_) (a' := ?_) #[tt, tt, tt, tt, tt, ff, tt, tt, tt, tt, ff, ff, ff, tt, tt, tt, ff, tt, tt, tt, ff, ff, ff, ff, ff, ff, ff] rfl rfl (any_of HT_.out (by kernel_rfl)) (fun _ _ _ h => h) (Or.inl ⟨by rfl, ?_⟩) ?_ ?_; rotate_left; intro w'; go_simp; with_reducible rfl; rotate_left; simp only [pS]; rfl
                                    refine Q26 (i := 20) (N := some 76) (v := ?_) (a' := ?_) #[tt, tt, tt, tt, tt, ff, tt, tt, tt, tt, ff, ff, ff, tt, tt, tt, ff, tt, tt, tt, tt, ff, ff, ff, ff, ff, ff] rfl rfl (any_of HT_.out (by kernel_rfl)) (fun _ _ _ h => h) (Or.inl ⟨by rfl, ?_⟩) ?_ ?_; rotate_left; intro w'; go_simp; with_reducible rfl; rotate_left; simp only [pS]; rfl
                                    refine take_ (i := 5) (N := some 61) (v := ?_) (a' := ?_) #[tt, tt, tt, tt, tt, tt, tt, tt, tt, tt, ff, ff, ff, tt, tt, tt, ff, tt, tt, tt, tt, ff, ff, ff, ff, ff, ff] rfl rfl (take_ofW HT_.out HW_.out (by kernel_rfl)) (fun _ _ _ h => h) (Or.inl ⟨by rfl, ?_⟩) hHeld ?_ ?_; rotate_left; rintro w' ⟨s0, s1, s2, s3, s4, s5, s6, s7, s8, s9, s10, s11⟩; go_simp; with_reducible rfl; rotate_left; simp only [pS]; rfl
                                    refine take_ (i := 10) (N := some 66) (v := ?_) (a' := ?_) #[tt, tt, tt, tt, tt, tt, tt, tt, tt, tt, tt, ff, ff, tt, tt, tt, ff, tt, tt, tt, tt, ff, ff, ff, ff, ff, ff] rfl rfl (take_ofW HT_.out HW_.out (by kernel_rfl)) (fun _ _ _ h => h) (Or.inl ⟨by rfl, ?_⟩) hHeld ?_ ?_; rotate_left; rintro w' ⟨s0, s1, s2, s3, s4, s5, s6, s7, s8, s9, s10, s11⟩; go_simp; with_reducible rfl; rotate_left; simp only [pS]; rfl
                                    refine take_ (i := 16) (N := some 72) (v := ?_) (a' := ?_) #[tt, tt, tt, tt, tt, tt, tt, tt, tt, tt, tt, ff, ff, tt, tt, tt, tt, tt, tt, tt, tt, ff, ff, ff, ff, ff, ff] rfl rfl (take_ofW HT_.out HW_.out (by kernel_rfl)) (fun _ _ _ h => h) (Or.inl ⟨by rfl, ?_⟩) hHeld ?_ ?_; rotate_left; rintro w' ⟨s0, s1, s2, s3, s4, s5, s6, s7, s8, s9, s10, s11⟩; go_simp; with_reducible rfl; rotate_left; simp only [pS]; rfl
                                    refine take_ (i := 21) (N := some 77) (v := ?_) (a' := ?_) #[tt, tt, tt, tt, tt, tt, tt, tt, tt, tt, tt, ff, ff, tt, tt, tt, tt, tt, tt, tt, tt, tt, ff, ff, ff, ff, ff] rfl rfl (take_ofW HT_.out HW_.out (by kernel_rfl)) (fun _ _ _ h => h) (Or.inl ⟨by rfl, ?_⟩) hHeld ?_ ?_; rotate_left; rintro w' ⟨s0, s1, s2, s3, s4, s5, s6, s7, s8, s9, s10, s11⟩; go_simp; with_reducible rfl; rotate_left; simp only [pS]; rfl
                                    refine one_ (i := 11) (N := some 67) #[tt, tt, tt, tt, tt, tt, tt, tt, tt, tt, tt, tt, ff, tt, tt, tt, tt, tt, tt, tt, tt, tt, ff, ff, ff, ff, ff] rfl rfl (one_of HT_.out (by kernel_rfl)) (by decide) (fun K hK => ?_)
                                    refine goes_ Try.func70 (by kernel_rfl) rfl #[.int .i64 ((Q13 l0 ((Q16 l1 x6_1).f0)).f0), .bool true, .bool true] (by rfl) rfl rfl (by (try simp only [List.map_toArray, List.map_cons, List.map_nil]); first | done | rfl | (simp only [List.length_drop, List.length_take]; rfl)) ?_
                                    with_reducible refine (dowelref22_in.calls ((Q13 l0 ((Q16 l1 x6_1).f0)).f0) true true t208 _ A31.out).mono ?_
                                    rintro e w' ⟨rfl, ⟨nd, rfl⟩⟩
                                    refine ⟨_, rfl, ?_⟩
                                    refine hK.out _ _ ⟨hHeld.1, ((HB.out.cell (World.block_lt_of_cell? w _ hw207_0)).trans hw207_0), ((HB.out.cell (World.block_lt_of_cell? w _ hw207_1)).trans hw207_1), ((HB.out.cell (World.block_lt_of_cell? w _ hw207_2)).trans hw207_2), ((HB.out.cell (World.block_lt_of_cell? w _ hw207_3)).trans hw207_3), ((HB.out.cell (World.block_lt_of_cell? w _ hw207_4)).trans hw207_4), hHeld.2.2.2.2.2.2.1, ((HB.out.cell (World.block_lt_of_cell? w _ hw210_0)).trans hw210_0), ((HB.out.cell (World.block_lt_of_cell? w _ hw210_1)).trans hw210_1), ((HB.out.cell (World.block_lt_of_cell? w _ hw210_2)).trans hw210_2), ((HB.out.cell (World.block_lt_of_cell? w _ hw210_3)).trans hw210_3), ((HB.out.cell (World.block_lt_of_cell? w _ hw210_4)).trans hw210_4)⟩ (fun hHeld => ?_)
                                    clear hK K
                                    refine norm_ (a' := ?_) ?_ ?_; rotate_left; show Act.put _ (some 67) _ = _; simp only [pS]; rfl
                                    refine Q26 (i := 12) (N := some 68) (v := ?_) (a' := ?_) #[tt, tt, tt, tt, tt, tt, tt, tt, tt, tt, tt, tt, tt, tt, tt, tt, tt, tt, tt, tt, tt, tt, ff, ff, ff, ff, ff] rfl rfl (any_of HT_.out (by kernel_rfl)) (fun _ _ _ h => h) (Or.inl ⟨by rfl, ?_⟩) ?_ ?_; rotate_left; intro w'; go_simp; with_reducible rfl; rotate_left; simp only [pS]; rfl
                                    refine one_ (i := 22) (N := some 78) #[tt, tt, tt, tt, tt, tt, tt, tt, tt, tt, tt, tt, tt, tt, tt, tt, tt, tt, tt, tt, tt, tt, tt, ff, ff, ff, ff] rfl rfl (one_of HT_.out (by kernel_rfl)) (by decide) (fun K hK => ?_)
                                    refine goes_ Try.func70 (by kernel_rfl) rfl #[.int .i64 ((Q13 l0 ((Q16 l1 x6_1).f1)).f0), .bool false, .bool true] (by rfl) rfl rfl (by (try simp only [List.map_toArray, List.map_cons, List.map_nil]); first | done | rfl | (simp only [List.length_drop, List.length_take]; rfl)) ?_
                                    with_reducible refine (dowelref22_in.calls ((Q13 l0 ((Q16 l1 x6_1).f1)).f0) false true t211 _ A35.out).mono ?_
                                    rintro e w' ⟨rfl, ⟨nd, rfl⟩⟩
                                    refine ⟨_, rfl, ?_⟩
                                    have p38 : 0 ≤ (x6_1 : Int) := of_decide_eq_true (by first | (with_reducible assumption) | assumption)
                                    have q38 : (x6_1 : Int) < ((x5_1.length : Int) : Int) := of_decide_eq_true (by first | (with_reducible assumption) | assumption)
                                    obtain ⟨go38, co38, eo38, gb38, gl38, cl38, HG38⟩ := Kd.R_form HO_5.out (by omega)
                                    (first | cases eo38 | (injection eo38 with ea_ en_ ec_; (first | subst ea_ | (injection ea_ with ea_; subst ea_)); subst ec_; clear en_))
                                    have GB38 := Aside0.mk gb38
                                    have GG38 := Aside0.mk HG38
                                    clear gb38 gl38 HG38
                                    (first | simp only [add_plain] at hx206_0 | skip)
                                    (first | simp only [add_plain] at hx209_0 | skip)
                                    obtain ⟨hx38_0, hf38_0⟩ := Kd.R_celln 0 HO_5.out (x6_1 : Int) p38 q38
                                    replace p38 := eq_true p38
                                    replace q38 := eq_true q38
                                    have HP42 := Kd.R_putn HO_5.out (x6_1 : Int) ji36
                                    rw [← Ny212.out] at HP42
                                    have HQ42 := Aside0.mk HP42
                                    clear HP42
                                    refine hK.out _ _ ⟨hHeld.1, ((HB.out.cell (World.block_lt_of_cell? w _ hw207_0)).trans hw207_0), ((HB.out.cell (World.block_lt_of_cell? w _ hw207_1)).trans hw207_1), ((HB.out.cell (World.block_lt_of_cell? w _ hw207_2)).trans hw207_2), ((HB.out.cell (World.block_lt_of_cell? w _ hw207_3)).trans hw207_3), ((HB.out.cell (World.block_lt_of_cell? w _ hw207_4)).trans hw207_4), hHeld.2.2.2.2.2.2.1, ((HB.out.cell (World.block_lt_of_cell? w _ hw210_0)).trans hw210_0), ((HB.out.cell (World.block_lt_of_cell? w _ hw210_1)).trans hw210_1), ((HB.out.cell (World.block_lt_of_cell? w _ hw210_2)).trans hw210_2), ((HB.out.cell (World.block_lt_of_cell? w _ hw210_3)).trans hw210_3), ((HB.out.cell (World.block_lt_of_cell? w _ hw210_4)).trans hw210_4)⟩ (fun hHeld => ?_)
                                    clear hK K
                                    refine norm_ (a' := ?_) ?_ ?_; rotate_left; show Act.put _ (some 78) _ = _; simp only [pS]; rfl
                                    refine Q26 (i := 23) (N := some 79) (v := ?_) (a' := ?_) #[tt, tt, tt, tt, tt, tt, tt, tt, tt, tt, tt, tt, tt, tt, tt, tt, tt, tt, tt, tt, tt, tt, tt, tt, ff, ff, ff] rfl rfl (any_of HT_.out (by kernel_rfl)) (fun _ _ _ h => h) (Or.inl ⟨by rfl, ?_⟩) ?_ ?_; rotate_left; intro w'; go_simp; with_reducible rfl; rotate_left; simp only [pS]; rfl
                                    refine Q26 (i := 24) (N := some 80) (v := ?_) (a' := ?_) #[tt, tt, tt, tt, tt, tt, tt, tt, tt, tt, tt, tt, tt, tt, tt, tt, tt, tt, tt, tt, tt, tt, tt, tt, tt, ff, ff] rfl rfl (any_of HT_.out (by kernel_rfl)) (fun _ _ _ h => h) (Or.inl ⟨by rfl, ?_⟩) ?_ ?_; rotate_left; intro w'; go_simp; with_reducible rfl; rotate_left; simp only [pS]; rfl
                                    refine Q26 (i := 25) (N := some 81) (v := ?_) (a' := ?_) #[tt, tt, tt, tt, tt, tt, tt, tt, tt, tt, tt, tt, tt, tt, tt, tt, tt, tt, tt, tt, tt, tt, tt, tt, tt, tt, ff] rfl rfl (any_of HT_.out (by kernel_rfl)) (fun _ _ _ h => h) (Or.inl ⟨by rfl, ?_⟩) ?_ ?_; rotate_left; intro w'; go_simp; with_reducible rfl; rotate_left; simp only [pS]; rfl
                                    refine last_ (i := 26) (N := none) #[tt, tt, tt, tt, tt, tt, tt, tt, tt, tt, tt, tt, tt, tt, tt, tt, tt, tt, tt, tt, tt, tt, tt, tt, tt, tt, tt] rfl rfl (one_of HT_.out (by kernel_rfl)) (by decide) (fun K hK => ?_)
                                    (with_reducible refine skip_ (w1 := ?_) ?hw_ ?hN_ ?_ ?_); (case hw_ => rfl); (case hN_ => rfl)
                                    rotate_left
                                    · go_simp
                                      rfl
                                    refine hK.out _ _ ?_
                                    clear hK K
                                    refine done_ (done_of HT_.out (by kernel_rfl)) ?_
                                    try go_wp2
                                    go_roundg k1
                                    case measure => have := HK1.out; omega
                                    case rel => exact ⟨(y212), (wrap64 (x6_1 + 1)), (by first | rfl | (simp; done) | (simp [*]; done)), H', ⟨by have := HK1.out; omega⟩, ⟨by (with_reducible repeat (first | apply Kd.R_alloc | apply Kd.R_drewN | apply Kd.R_drew)); exact HQ42.out⟩, ⟨by repeat (first | (with_reducible first | exact HB.out | apply Q9 | apply Q7 | apply Q8 | refine Q14 ?_ GB38.out) | exact HB.out)⟩⟩
                                  · rw [if_neg c37] at H
                                    exact absurd H (by simp)
                                · rw [if_neg c34] at H
                                  exact absurd H (by simp)
                              · rw [if_neg c33] at H
                                exact absurd H (by simp)
                            · rw [if_neg c32] at H
                              exact absurd H (by simp)
                          · rw [if_neg c30] at H
                            exact absurd H (by simp)
                        · rw [if_neg c29] at H
                          exact absurd H (by simp)
                      · rw [if_neg c28] at H
                        exact absurd H (by simp)
                    · rw [if_neg c27] at H
                      have c27b0 : (((Q13 l0 x6_1).f0) == 3) = false := beq_eq_false_iff_ne.mpr c27
                      have c27b1 : (((Q13 l0 x6_1).f0) != 3) = true := bne_iff_ne.mpr c27
                      by_cases c43 : ((Q13 l0 x6_1).f0) = 4
                      · rw [if_pos c43] at H
                        have c43b0 : (((Q13 l0 x6_1).f0) == 4) = true := beq_iff_eq.mpr c43
                        have c43b1 : (((Q13 l0 x6_1).f0) != 4) = false := bne_eq_false_iff_eq.mpr c43
                        clear c43
                        by_cases c44 : 0 ≤ ((Q16 l1 x6_1).f0)
                        · rw [if_pos c44] at H
                          have c44b0 : decide (0 ≤ ((Q16 l1 x6_1).f0)) = true := decide_eq_true c44
                          clear c44
                          by_cases c45 : ((Q16 l1 x6_1).f0) < (x5_1.length : Int)
                          · rw [if_pos c45] at H
                            have c45b0 : decide (((Q16 l1 x6_1).f0) < (x5_1.length : Int)) = true := decide_eq_true c45
                            clear c45
                            by_cases c46 : ((Q16 l1 x6_1).f0) < (l0.length : Int)
                            · rw [if_pos c46] at H
                              have c46b0 : decide (((Q16 l1 x6_1).f0) < (l0.length : Int)) = true := decide_eq_true c46
                              clear c46
                              replace H := Option.bind_eq_some_iff.mp H
                              obtain ⟨t215, A470, H⟩ := H
                              replace H : (if 0 ≤ ((Q16 l1 x6_1).f1) then (if ((Q16 l1 x6_1).f1) < (x5_1.length : Int) then (if x6_1 < (x5_1.length : Int) then (dowelref22_Depths.l0 k1 l0 l1 (x5_1.set (x6_1 : Int).toNat (mx (wrap64 ((rd x5_1 ((Q16 l1 x6_1).f0)) + t215)) (rd x5_1 ((Q16 l1 x6_1).f1)))) (wrap64 (x6_1 + 1))) else (none)) else (none)) else (none)) = some r := H
                              have A47 := Aside0.mk A470
                              clear A470
                              by_cases c48 : 0 ≤ ((Q16 l1 x6_1).f1)
                              · rw [if_pos c48] at H
                                have c48b0 : decide (0 ≤ ((Q16 l1 x6_1).f1)) = true := decide_eq_true c48
                                clear c48
                                by_cases c49 : ((Q16 l1 x6_1).f1) < (x5_1.length : Int)
                                · rw [if_pos c49] at H
                                  have c49b0 : decide (((Q16 l1 x6_1).f1) < (x5_1.length : Int)) = true := decide_eq_true c49
                                  clear c49
                                  obtain ⟨ji50, hji50⟩ : ∃ j_ : Int, (mx (wrap64 ((rd x5_1 ((Q16 l1 x6_1).f0)) + t215)) (rd x5_1 ((Q16 l1 x6_1).f1))) = j_ := ⟨_, rfl⟩
                                  replace H : (if x6_1 < (x5_1.length : Int) then (dowelref22_Depths.l0 k1 l0 l1 (x5_1.set (x6_1 : Int).toNat (ji50)) (wrap64 (x6_1 + 1))) else (none)) = some r := by first | (rw [hji50] at H; exact H) | (simp only [hji50] at H ⊢; exact H)
                                  (try rw [hji50] at A47)
                                  have hji50_ : (if (wrap64 ((rd x5_1 ((Q16 l1 x6_1).f0)) + t215)) < (rd x5_1 ((Q16 l1 x6_1).f1)) then (rd x5_1 ((Q16 l1 x6_1).f1)) else (wrap64 ((rd x5_1 ((Q16 l1 x6_1).f0)) + t215))) = ji50 := hji50
                                  by_cases c51 : x6_1 < (x5_1.length : Int)
                                  · rw [if_pos c51] at H
                                    have c51b0 : decide (x6_1 < (x5_1.length : Int)) = true := decide_eq_true c51
                                    clear c51
                                    obtain ⟨y217, hy217⟩ : ∃ y_ : List Int, y_ = (x5_1.set (x6_1 : Int).toNat (ji50)) := ⟨_, rfl⟩
                                    replace H : (dowelref22_Depths.l0 k1 l0 l1 y217 (wrap64 (x6_1 + 1))) = some r := by first | (rw [hy217]; with_reducible exact H) | (have H2_ := (Option.bind_some _ _).symm.trans H; rw [hy217]; with_reducible exact H2_) | (have H2_ := (Option.bind_some _ _).symm.trans H; with_reducible exact H2_) | with_reducible exact H | (rw [hy217]; exact H) | exact H
                                    have Ny217 := Aside0.mk hy217
                                    clear hy217
                                    have H' := Aside0.mk H
                                    clear H
                                    try go_wp2
                                    have n0_ := Aside0.mk (Kd.R_drew HO_5.out)
                                    have n1_ := Aside0.mk (Q8 HB.out)
                                    clear HO_5
                                    clear HB
                                    have HO_5 := n0_
                                    have HB := n1_
                                    clear n0_ n1_
                                    have p198 : 0 ≤ (x6_1 : Int) := of_decide_eq_true (by first | (with_reducible assumption) | assumption)
                                    have q198 : x6_1 < (l1.length : Int) := of_decide_eq_true (by first | (with_reducible assumption) | assumption)
                                    obtain ⟨ad198, e198, hx198_0, hx198_1⟩ := at_T100 HR1.out x6_1 p198 q198
                                    have hw198_1 := hx198_1
                                    have hw198_0 := hx198_0
                                    cases e198
                                    replace hx198_0 := (HB.out.cell (World.block_lt_of_cell? w _ hx198_0)).trans hx198_0
                                    replace hx198_1 := (HB.out.cell (World.block_lt_of_cell? w _ hx198_1)).trans hx198_1
                                    replace p198 := eq_true p198
                                    replace q198 := eq_true q198
                                    have p199 : 0 ≤ (x6_1 : Int) := of_decide_eq_true (by first | (with_reducible assumption) | assumption)
                                    have q199 : x6_1 < (l1.length : Int) := of_decide_eq_true (by first | (with_reducible assumption) | assumption)
                                    obtain ⟨ad199, e199, hx199_0, hx199_1⟩ := at_T100 HR1.out x6_1 p199 q199
                                    have hw199_1 := hx199_1
                                    have hw199_0 := hx199_0
                                    obtain rfl : ad198 = ad199 := (by injection e199)
                                    replace hx199_0 := (HB.out.cell (World.block_lt_of_cell? w _ hx199_0)).trans hx199_0
                                    replace hx199_1 := (HB.out.cell (World.block_lt_of_cell? w _ hx199_1)).trans hx199_1
                                    replace p199 := eq_true p199
                                    replace q199 := eq_true q199
                                    refine start_ (n := 12) (S := fun w' => w'.cell? (ad198.add ((x6_1).toNat * 2)) = some (.int .i64 ((Q16 l1 x6_1).f0)) ∧ w'.cell? ⟨(ad198.add ((x6_1).toNat * 2)).block, (ad198.add ((x6_1).toNat * 2)).off + 1, none⟩ = some (.int .i64 ((Q16 l1 x6_1).f1)) ∧ w'.cell? (ad198.add ((x6_1).toNat * 2)) = some (.int .i64 ((Q16 l1 x6_1).f0)) ∧ w'.cell? ⟨(ad198.add ((x6_1).toNat * 2)).block, (ad198.add ((x6_1).toNat * 2)).off + 1, none⟩ = some (.int .i64 ((Q16 l1 x6_1).f1))) (ds := []) #[ff, ff, ff, ff, ff, ff, ff, ff, ff, ff, ff, ff] (by kernel_rfl) rfl rfl ⟨((HB.out.cell (World.block_lt_of_cell? w _ hw198_0)).trans hw198_0), ((HB.out.cell (World.block_lt_of_cell? w _ hw198_1)).trans hw198_1), ((HB.out.cell (World.block_lt_of_cell? w _ hw199_0)).trans hw199_0), ((HB.out.cell (World.block_lt_of_cell? w _ hw199_1)).trans hw199_1)⟩ (fun hHeld => ?_); refine with_tabW dowelref22_Depths.tab5 dowelref22_Depths.bits5 (fun HT_ HW_ => ?_)
                                    generalize wr.drew = w53 at HO_5 HB hx198_0 hx198_1 hx199_0 hx199_1 hHeld ⊢
                                    refine Q26 (i := 0) (N := some 18) (v := ?_) (a' := ?_) #[tt, ff, ff, ff, ff, ff, ff, ff, ff, ff, ff, ff] rfl rfl (any_of HT_.out (by kernel_rfl)) (fun _ _ _ h => h) (Or.inl ⟨by rfl, ?_⟩) ?_ ?_; rotate_left; intro w'; go_simp; with_reducible rfl; rotate_left; simp only [pS]; rfl
                                    refine Q26 (i := 1) (N := some 19) (v := ?_) (a' := ?_) #[tt, tt, ff, ff, ff, ff, ff, ff, ff, ff, ff, ff] rfl rfl (any_of HT_.out (by kernel_rfl)) (fun _ _ _ h => h) (Or.inl ⟨by rfl, ?_⟩) ?_ ?_; rotate_left; intro w'; go_simp; with_reducible rfl; rotate_left; simp only [pS]; rfl
                                    refine Q26 (i := 2) (N := some 20) (v := ?_) (a' := ?_) #[tt, tt, tt, ff, ff, ff, ff, ff, ff, ff, ff, ff] rfl rfl (any_of HT_.out (by kernel_rfl)) (fun _ _ _ h => h) (Or.inl ⟨by rfl, ?_⟩) ?_ ?_; rotate_left; intro w'; go_simp; with_reducible rfl; rotate_left; simp only [pS]; rfl
                                    refine Q26 (i := 3) (N := some 21) (v := ?_) (a' := ?_) #[tt, tt, tt, tt, ff, ff, ff, ff, ff, ff, ff, ff] rfl rfl (any_of HT_.out (by kernel_rfl)) (fun _ _ _ h => h) (Or.inl ⟨by rfl, ?_⟩) ?_ ?_; rotate_left; intro w'; go_simp; with_reducible rfl; rotate_left; simp only [pS]; rfl
                                    refine Q26 (i := 5) (N := some 23) (v := ?_) (a' := ?_) #[tt, tt, tt, tt, ff, tt, ff, ff, ff, ff, ff, ff] rfl rfl (any_of HT_.out (by kernel_rfl)) (fun _ _ _ h => h) (Or.inl ⟨by rfl, ?_⟩) ?_ ?_; rotate_left; intro w'; go_simp; with_reducible rfl; rotate_left; simp only [pS]; rfl
                                    refine Q26 (i := 6) (N := some 24) (v := ?_) (a' := ?_) #[tt, tt, tt, tt, ff, tt, tt, ff, ff, ff, ff, ff] rfl rfl (any_of HT_.out (by kernel_rfl)) (fun _ _ _ h => h) (Or.inl ⟨by rfl, ?_⟩) ?_ ?_; rotate_left; intro w'; go_simp; with_reducible rfl; rotate_left; simp only [pS]; rfl
                                    refine Q26 (i := 7) (N := some 25) (v := ?_) (a' := ?_) #[tt, tt, tt, tt, ff, tt, tt, tt, ff, ff, ff, ff] rfl rfl (any_of HT_.out (by kernel_rfl)) (fun _ _ _ h => h) (Or.inl ⟨by rfl, ?_⟩) ?_ ?_; rotate_left; intro w'; go_simp; with_reducible rfl; rotate_left; simp only [pS]; rfl
                                    refine Q26 (i := 8) (N := some 26) (v := ?_) (a' := ?_) #[tt, tt, tt, tt, ff, tt, tt, tt, tt, ff, ff, ff] rfl rfl (any_of HT_.out (by kernel_rfl)) (fun _ _ _ h => h) (Or.inl ⟨by rfl, ?_⟩) ?_ ?_; rotate_left; intro w'; go_simp; with_reducible rfl; rotate_left; simp only [pS]; rfl
                                    refine take_ (i := 4) (N := some 22) (v := ?_) (a' := ?_) #[tt, tt, tt, tt, tt, tt, tt, tt, tt, ff, ff, ff] rfl rfl (take_ofW HT_.out HW_.out (by kernel_rfl)) (fun _ _ _ h => h) (Or.inl ⟨by rfl, ?_⟩) hHeld ?_ ?_; rotate_left; rintro w' ⟨s0, s1, s2, s3⟩; go_simp; with_reducible rfl; rotate_left; simp only [pS]; rfl
                                    refine Q26 (i := 10) (N := some 7) (v := ?_) (a' := ?_) #[tt, tt, tt, tt, tt, tt, tt, tt, tt, ff, tt, ff] rfl rfl (any_of HT_.out (by kernel_rfl)) (fun _ _ _ h => h) (Or.inl ⟨by rfl, ?_⟩) ?_ ?_; rotate_left; intro w'; go_simp; with_reducible rfl; rotate_left; simp only [pS]; rfl
                                    refine take_ (i := 9) (N := some 27) (v := ?_) (a' := ?_) #[tt, tt, tt, tt, tt, tt, tt, tt, tt, tt, tt, ff] rfl rfl (take_ofW HT_.out HW_.out (by kernel_rfl)) (fun _ _ _ h => h) (Or.inl ⟨by rfl, ?_⟩) hHeld ?_ ?_; rotate_left; rintro w' ⟨s0, s1, s2, s3⟩; go_simp; with_reducible rfl; rotate_left; simp only [pS]; rfl
                                    refine Q26 (i := 11) (N := some 8) (v := ?_) (a' := ?_) #[tt, tt, tt, tt, tt, tt, tt, tt, tt, tt, tt, tt] rfl rfl (any_of HT_.out (by kernel_rfl)) (fun _ _ _ h => h) (Or.inl ⟨by rfl, ?_⟩) ?_ ?_; rotate_left; intro w'; go_simp; with_reducible rfl; rotate_left; simp only [pS]; rfl
                                    refine done_ (done_of HT_.out (by kernel_rfl)) ?_
                                    have p200 : 0 ≤ (x6_1 : Int) := of_decide_eq_true (by first | (with_reducible assumption) | assumption)
                                    have q200 : x6_1 < (l0.length : Int) := of_decide_eq_true (by first | (with_reducible assumption) | assumption)
                                    obtain ⟨ad200, e200, hx200_0, hx200_1, hx200_2, hx200_3, hx200_4⟩ := at_T45 HR0.out x6_1 p200 q200
                                    cases e200
                                    replace hx200_0 := (HB.out.cell (World.block_lt_of_cell? w _ hx200_0)).trans hx200_0
                                    replace hx200_1 := (HB.out.cell (World.block_lt_of_cell? w _ hx200_1)).trans hx200_1
                                    replace hx200_2 := (HB.out.cell (World.block_lt_of_cell? w _ hx200_2)).trans hx200_2
                                    replace hx200_3 := (HB.out.cell (World.block_lt_of_cell? w _ hx200_3)).trans hx200_3
                                    replace hx200_4 := (HB.out.cell (World.block_lt_of_cell? w _ hx200_4)).trans hx200_4
                                    replace p200 := eq_true p200
                                    replace q200 := eq_true q200
                                    try go_wp2
                                    have n0_ := Aside0.mk (Kd.R_drew HO_5.out)
                                    have n1_ := Aside0.mk (Q8 HB.out)
                                    clear HO_5
                                    clear HB
                                    have HO_5 := n0_
                                    have HB := n1_
                                    clear n0_ n1_
                                    obtain ⟨Ao55, co55, eo55⟩ := Kd.R_slice HO_5.out
                                    (first | subst eo55 | (injection eo55 with f1_ f2_ f3_; have f4_ := f1_.symm; have f5_ := f3_.symm; clear f1_ f2_ f3_; subst f4_; subst f5_))
                                    have p213 : 0 ≤ (((Q16 l1 x6_1).f0) : Int) := of_decide_eq_true (by first | (with_reducible assumption) | assumption)
                                    have q213 : ((Q16 l1 x6_1).f0) < (x5_1.length : Int) := of_decide_eq_true (by first | (with_reducible assumption) | assumption)
                                    obtain ⟨ad213, e213, hx213_0⟩ := Kd.at_int (Kd.R_reads' HO_5.out).2.2 ((Q16 l1 x6_1).f0) p213 q213
                                    cases e213
                                    replace p213 := eq_true p213
                                    replace q213 := eq_true q213
                                    have p214 : 0 ≤ (((Q16 l1 x6_1).f0) : Int) := of_decide_eq_true (by first | (with_reducible assumption) | assumption)
                                    have q214 : ((Q16 l1 x6_1).f0) < (l0.length : Int) := of_decide_eq_true (by first | (with_reducible assumption) | assumption)
                                    obtain ⟨ad214, e214, hx214_0, hx214_1, hx214_2, hx214_3, hx214_4⟩ := at_T45 HR0.out ((Q16 l1 x6_1).f0) p214 q214
                                    have hw214_4 := hx214_4
                                    have hw214_3 := hx214_3
                                    have hw214_2 := hx214_2
                                    have hw214_1 := hx214_1
                                    have hw214_0 := hx214_0
                                    obtain rfl : ad200 = ad214 := (by injection e214)
                                    replace hx214_0 := (HB.out.cell (World.block_lt_of_cell? w _ hx214_0)).trans hx214_0
                                    replace hx214_1 := (HB.out.cell (World.block_lt_of_cell? w _ hx214_1)).trans hx214_1
                                    replace hx214_2 := (HB.out.cell (World.block_lt_of_cell? w _ hx214_2)).trans hx214_2
                                    replace hx214_3 := (HB.out.cell (World.block_lt_of_cell? w _ hx214_3)).trans hx214_3
                                    replace hx214_4 := (HB.out.cell (World.block_lt_of_cell? w _ hx214_4)).trans hx214_4
                                    replace p214 := eq_true p214
                                    replace q214 := eq_true q214
                                    have p216 : 0 ≤ (((Q16 l1 x6_1).f1) : Int) := of_decide_eq_true (by first | (with_reducible assumption) | assumption)
                                    have q216 : ((Q16 l1 x6_1).f1) < (x5_1.length : Int) := of_decide_eq_true (by first | (with_reducible assumption) | assumption)
                                    obtain ⟨ad216, e216, hx216_0⟩ := Kd.at_int (Kd.R_reads' HO_5.out).2.2 ((Q16 l1 x6_1).f1) p216 q216
                                    obtain rfl : ad213 = ad216 := (by injection e216)
                                    replace p216 := eq_true p216
                                    replace q216 := eq_true q216
                                    refine start_ (n := 20) (S := fun w' => w'.cell? (ad213.add (((Q16 l1 x6_1).f0)).toNat) = some (.int .i64 (rd x5_1 ((Q16 l1 x6_1).f0))) ∧ w'.cell? (ad200.add ((((Q16 l1 x6_1).f0)).toNat * 5)) = some (.int .i64 ((Q13 l0 ((Q16 l1 x6_1).f0)).f0)) ∧ w'.cell? ⟨(ad200.add ((((Q16 l1 x6_1).f0)).toNat * 5)).block, (ad200.add ((((Q16 l1 x6_1).f0)).toNat * 5)).off + 1, none⟩ = some (.int .u64 ((Q13 l0 ((Q16 l1 x6_1).f0)).f1.f0)) ∧ w'.cell? ⟨(ad200.add ((((Q16 l1 x6_1).f0)).toNat * 5)).block, (ad200.add ((((Q16 l1 x6_1).f0)).toNat * 5)).off + 2, none⟩ = some (.int .u64 ((Q13 l0 ((Q16 l1 x6_1).f0)).f1.f1)) ∧ w'.cell? ⟨(ad200.add ((((Q16 l1 x6_1).f0)).toNat * 5)).block, (ad200.add ((((Q16 l1 x6_1).f0)).toNat * 5)).off + 3, none⟩ = some (.int .u64 ((Q13 l0 ((Q16 l1 x6_1).f0)).f1.f2)) ∧ w'.cell? ⟨(ad200.add ((((Q16 l1 x6_1).f0)).toNat * 5)).block, (ad200.add ((((Q16 l1 x6_1).f0)).toNat * 5)).off + 4, none⟩ = some (.int .u64 ((Q13 l0 ((Q16 l1 x6_1).f0)).f1.f3)) ∧ w'.cell? (ad213.add (((Q16 l1 x6_1).f1)).toNat) = some (.int .i64 (rd x5_1 ((Q16 l1 x6_1).f1)))) (ds := [19]) #[ff, ff, ff, ff, ff, ff, ff, ff, ff, ff, ff, ff, ff, ff, ff, ff, ff, ff, ff, ff] (by kernel_rfl) rfl rfl ⟨hx213_0, ((HB.out.cell (World.block_lt_of_cell? w _ hw214_0)).trans hw214_0), ((HB.out.cell (World.block_lt_of_cell? w _ hw214_1)).trans hw214_1), ((HB.out.cell (World.block_lt_of_cell? w _ hw214_2)).trans hw214_2), ((HB.out.cell (World.block_lt_of_cell? w _ hw214_3)).trans hw214_3), ((HB.out.cell (World.block_lt_of_cell? w _ hw214_4)).trans hw214_4), hx216_0⟩ (fun hHeld => ?_); refine with_tabW dowelref22_Depths.tab14 dowelref22_Depths.bits14 (fun HT_ HW_ => ?_)
                                    generalize w53.drew = w54 at HO_5 HB hx213_0 hx214_0 hx214_1 hx214_2 hx214_3 hx214_4 hx216_0 hHeld ⊢
                                    refine Q26 (i := 0) (N := some 84) (v := ?_) (a' := ?_) #[tt, ff, ff, ff, ff, ff, ff, ff, ff, ff, ff, ff, ff, ff, ff, ff, ff, ff, ff, ff] rfl rfl (any_of HT_.out (by kernel_rfl)) (fun _ _ _ h => h) (Or.inl ⟨by rfl, ?_⟩) ?_ ?_; rotate_left; intro w'; go_simp; with_reducible rfl; rotate_left; simp only [pS]; rfl
                                    refine Q26 (i := 1) (N := some 85) (v := ?_) (a' := ?_) #[tt, tt, ff, ff, ff, ff, ff, ff, ff, ff, ff, ff, ff, ff, ff, ff, ff, ff, ff, ff] rfl rfl (any_of HT_.out (by kernel_rfl)) (fun _ _ _ h => h) (Or.inl ⟨by rfl, ?_⟩) ?_ ?_; rotate_left; intro w'; go_simp; with_reducible rfl; rotate_left; simp only [pS]; rfl
                                    refine Q26 (i := 2) (N := some 86) (v := ?_) (a' := ?_) #[tt, tt, tt, ff, ff, ff, ff, ff, ff, ff, ff, ff, ff, ff, ff, ff, ff, ff, ff, ff] rfl rfl (any_of HT_.out (by kernel_rfl)) (fun _ _ _ h => h) (Or.inl ⟨by rfl, ?_⟩) ?_ ?_; rotate_left; intro w'; go_simp; with_reducible rfl; rotate_left; simp only [pS]; rfl
                                    refine Q26 (i := 3) (N := some 87) (v := ?_) (a' := ?_) #[tt, tt, tt, tt, ff, ff, ff, ff, ff, ff, ff, ff, ff, ff, ff, ff, ff, ff, ff, ff] rfl rfl (any_of HT_.out (by kernel_rfl)) (fun _ _ _ h => h) (Or.inl ⟨by rfl, ?_⟩) ?_ ?_; rotate_left; intro w'; go_simp; with_reducible rfl; rotate_left; simp only [pS]; rfl
                                    refine Q26 (i := 4) (N := some 88) (v := ?_) (a' := ?_) #[tt, tt, tt, tt, tt, ff, ff, ff, ff, ff, ff, ff, ff, ff, ff, ff, ff, ff, ff, ff] rfl rfl (any_of HT_.out (by kernel_rfl)) (fun _ _ _ h => h) (Or.inl ⟨by rfl, ?_⟩) ?_ ?_; rotate_left; intro w'; go_simp; with_reducible rfl; rotate_left; simp only [pS]; rfl
                                    refine Q26 (i := 6) (N := some 90) (v := ?_) (a' := ?_) #[tt, tt, tt, tt, tt, ff, tt, ff, ff, ff, ff, ff, ff, ff, ff, ff, ff, ff, ff, ff] rfl rfl (any_of HT_.out (by kernel_rfl)) (fun _ _ _ h => h) (Or.inl ⟨by rfl, ?_⟩) ?_ ?_; rotate_left; intro w'; go_simp; with_reducible rfl; rotate_left; simp only [pS]; rfl
                                    refine Q26 (i := 7) (N := some 91) (v := ?_) (a' := ?_) #[tt, tt, tt, tt, tt, ff, tt, tt, ff, ff, ff, ff, ff, ff, ff, ff, ff, ff, ff, ff] rfl rfl (any_of HT_.out (by kernel_rfl)) (fun _ _ _ h => h) (Or.inl ⟨by rfl, ?_⟩) ?_ ?_; rotate_left; intro w'; go_simp; with_reducible rfl; rotate_left; simp only [pS]; rfl
                                    refine Q26 (i := 8) (N := some 92) (v := ?_) (a' := ?_) #[tt, tt, tt, tt, tt, ff, tt, tt, tt, ff, ff, ff, ff, ff, ff, ff, ff, ff, ff, ff] rfl rfl (any_of HT_.out (by kernel_rfl)) (fun _ _ _ h => h) (Or.inl ⟨by rfl, ?_⟩) ?_ ?_; rotate_left; intro w'; go_simp; with_reducible rfl; rotate_left; simp only [pS]; rfl
                                    refine Q26 (i := 9) (N := some 93) (v := ?_) (a' := ?_) #[tt, tt, tt, tt, tt, ff, tt, tt, tt, tt, ff, ff, ff, ff, ff, ff, ff, ff, ff, ff] rfl rfl (any_of HT_.out (by kernel_rfl)) (fun _ _ _ h => h) (Or.inl ⟨by rfl, ?_⟩) ?_ ?_; rotate_left; intro w'; go_simp; with_reducible rfl; rotate_left; simp only [pS]; rfl
                                    refine Q26 (i := 13) (N := some 97) (v := ?_) (a' := ?_) #[tt, tt, tt, tt, tt, ff, tt, tt, tt, tt, ff, ff, ff, tt, ff, ff, ff, ff, ff, ff] rfl rfl (any_of HT_.out (by kernel_rfl)) (fun _ _ _ h => h) (Or.inl ⟨by rfl, ?_⟩) ?_ ?_; rotate_left; intro w'; go_simp; with_reducible rfl; rotate_left; simp only [pS]; rfl
                                    refine Q26 (i := 14) (N := some 98) (v := ?_) (a' := ?_) #[tt, tt, tt, tt, tt, ff, tt, tt, tt, tt, ff, ff, ff, tt, tt, ff, ff, ff, ff, ff] rfl rfl (any_of HT_.out (by kernel_rfl)) (fun _ _ _ h => h) (Or.inl ⟨by rfl, ?_⟩) ?_ ?_; rotate_left; intro w'; go_simp; with_reducible rfl; rotate_left; simp only [pS]; rfl
                                    refine Q26 (i := 15) (N := some 99) (v := ?_) (a' := ?_) #[tt, tt, tt, tt, tt, ff, tt, tt, tt, tt, ff, ff, ff, tt, tt, tt, ff, ff, ff, ff] rfl rfl (any_of HT_.out (by kernel_rfl)) (fun _ _ _ h => h) (Or.inl ⟨by rfl, ?_⟩) ?_ ?_; rotate_left; intro w'; go_simp; with_reducible rfl; rotate_left; simp only [pS]; rfl
                                    refine take_ (i := 5) (N := some 89) (v := ?_) (a' := ?_) #[tt, tt, tt, tt, tt, tt, tt, tt, tt, tt, ff, ff, ff, tt, tt, tt, ff, ff, ff, ff] rfl rfl (take_ofW HT_.out HW_.out (by kernel_rfl)) (fun _ _ _ h => h) (Or.inl ⟨by rfl, ?_⟩) hHeld ?_ ?_; rotate_left; rintro w' ⟨s0, s1, s2, s3, s4, s5, s6⟩; go_simp; with_reducible rfl; rotate_left; simp only [pS]; rfl
                                    refine take_ (i := 10) (N := some 94) (v := ?_) (a' := ?_) #[tt, tt, tt, tt, tt, tt, tt, tt, tt, tt, tt, ff, ff, tt, tt, tt, ff, ff, ff, ff] rfl rfl (take_ofW HT_.out HW_.out (by kernel_rfl)) (fun _ _ _ h => h) (Or.inl ⟨by rfl, ?_⟩) hHeld ?_ ?_; rotate_left; rintro w' ⟨s0, s1, s2, s3, s4, s5, s6⟩; go_simp; with_reducible rfl; rotate_left; simp only [pS]; rfl
                                    refine take_ (i := 16) (N := some 100) (v := ?_) (a' := ?_) #[tt, tt, tt, tt, tt, tt, tt, tt, tt, tt, tt, ff, ff, tt, tt, tt, tt, ff, ff, ff] rfl rfl (take_ofW HT_.out HW_.out (by kernel_rfl)) (fun _ _ _ h => h) (Or.inl ⟨by rfl, ?_⟩) hHeld ?_ ?_; rotate_left; rintro w' ⟨s0, s1, s2, s3, s4, s5, s6⟩; go_simp; with_reducible rfl; rotate_left; simp only [pS]; rfl
                                    refine one_ (i := 11) (N := some 95) #[tt, tt, tt, tt, tt, tt, tt, tt, tt, tt, tt, tt, ff, tt, tt, tt, tt, ff, ff, ff] rfl rfl (one_of HT_.out (by kernel_rfl)) (by decide) (fun K hK => ?_)
                                    refine goes_ Try.func70 (by kernel_rfl) rfl #[.int .i64 ((Q13 l0 ((Q16 l1 x6_1).f0)).f0), .bool false, .bool true] (by rfl) rfl rfl (by (try simp only [List.map_toArray, List.map_cons, List.map_nil]); first | done | rfl | (simp only [List.length_drop, List.length_take]; rfl)) ?_
                                    with_reducible refine (dowelref22_in.calls ((Q13 l0 ((Q16 l1 x6_1).f0)).f0) false true t215 _ A47.out).mono ?_
                                    rintro e w' ⟨rfl, ⟨nd, rfl⟩⟩
                                    refine ⟨_, rfl, ?_⟩
                                    have p52 : 0 ≤ (x6_1 : Int) := of_decide_eq_true (by first | (with_reducible assumption) | assumption)
                                    have q52 : (x6_1 : Int) < ((x5_1.length : Int) : Int) := of_decide_eq_true (by first | (with_reducible assumption) | assumption)
                                    obtain ⟨go52, co52, eo52, gb52, gl52, cl52, HG52⟩ := Kd.R_form HO_5.out (by omega)
                                    (first | cases eo52 | (injection eo52 with ea_ en_ ec_; (first | subst ea_ | (injection ea_ with ea_; subst ea_)); subst ec_; clear en_))
                                    have GB52 := Aside0.mk gb52
                                    have GG52 := Aside0.mk HG52
                                    clear gb52 gl52 HG52
                                    (first | simp only [add_plain] at hx213_0 | skip)
                                    (first | simp only [add_plain] at hx216_0 | skip)
                                    obtain ⟨hx52_0, hf52_0⟩ := Kd.R_celln 0 HO_5.out (x6_1 : Int) p52 q52
                                    replace p52 := eq_true p52
                                    replace q52 := eq_true q52
                                    have HP56 := Kd.R_putn HO_5.out (x6_1 : Int) ji50
                                    rw [← Ny217.out] at HP56
                                    have HQ56 := Aside0.mk HP56
                                    clear HP56
                                    refine hK.out _ _ ⟨hHeld.1, ((HB.out.cell (World.block_lt_of_cell? w _ hw214_0)).trans hw214_0), ((HB.out.cell (World.block_lt_of_cell? w _ hw214_1)).trans hw214_1), ((HB.out.cell (World.block_lt_of_cell? w _ hw214_2)).trans hw214_2), ((HB.out.cell (World.block_lt_of_cell? w _ hw214_3)).trans hw214_3), ((HB.out.cell (World.block_lt_of_cell? w _ hw214_4)).trans hw214_4), hHeld.2.2.2.2.2.2⟩ (fun hHeld => ?_)
                                    clear hK K
                                    refine norm_ (a' := ?_) ?_ ?_; rotate_left; show Act.put _ (some 95) _ = _; simp only [pS]; rfl
                                    refine Q26 (i := 12) (N := some 96) (v := ?_) (a' := ?_) #[tt, tt, tt, tt, tt, tt, tt, tt, tt, tt, tt, tt, tt, tt, tt, tt, tt, ff, ff, ff] rfl rfl (any_of HT_.out (by kernel_rfl)) (fun _ _ _ h => h) (Or.inl ⟨by rfl, ?_⟩) ?_ ?_; rotate_left; intro w'; go_simp; with_reducible rfl; rotate_left; simp only [pS]; rfl
                                    refine Q26 (i := 17) (N := some 101) (v := ?_) (a' := ?_) #[tt, tt, tt, tt, tt, tt, tt, tt, tt, tt, tt, tt, tt, tt, tt, tt, tt, tt, ff, ff] rfl rfl (any_of HT_.out (by kernel_rfl)) (fun _ _ _ h => h) (Or.inl ⟨by rfl, ?_⟩) ?_ ?_; rotate_left; intro w'; go_simp; with_reducible rfl; rotate_left; simp only [pS]; rfl
                                    refine Q26 (i := 18) (N := some 102) (v := ?_) (a' := ?_) #[tt, tt, tt, tt, tt, tt, tt, tt, tt, tt, tt, tt, tt, tt, tt, tt, tt, tt, tt, ff] rfl rfl (any_of HT_.out (by kernel_rfl)) (fun _ _ _ h => h) (Or.inl ⟨by rfl, ?_⟩) ?_ ?_; rotate_left; intro w'; go_simp; with_reducible rfl; rotate_left; simp only [pS]; rfl
                                    refine last_ (i := 19) (N := none) #[tt, tt, tt, tt, tt, tt, tt, tt, tt, tt, tt, tt, tt, tt, tt, tt, tt, tt, tt, tt] rfl rfl (one_of HT_.out (by kernel_rfl)) (by decide) (fun K hK => ?_)
                                    (with_reducible refine skip_ (w1 := ?_) ?hw_ ?hN_ ?_ ?_); (case hw_ => rfl); (case hN_ => rfl)
                                    rotate_left
                                    · go_simp
                                      rfl
                                    refine hK.out _ _ ?_
                                    clear hK K
                                    refine done_ (done_of HT_.out (by kernel_rfl)) ?_
                                    try go_wp2
                                    go_roundg k1
                                    case measure => have := HK1.out; omega
                                    case rel => exact ⟨(y217), (wrap64 (x6_1 + 1)), (by first | rfl | (simp; done) | (simp [*]; done)), H', ⟨by have := HK1.out; omega⟩, ⟨by (with_reducible repeat (first | apply Kd.R_alloc | apply Kd.R_drewN | apply Kd.R_drew)); exact HQ56.out⟩, ⟨by repeat (first | (with_reducible first | exact HB.out | apply Q9 | apply Q7 | apply Q8 | refine Q14 ?_ GB52.out) | exact HB.out)⟩⟩
                                  · rw [if_neg c51] at H
                                    exact absurd H (by simp)
                                · rw [if_neg c49] at H
                                  exact absurd H (by simp)
                              · rw [if_neg c48] at H
                                exact absurd H (by simp)
                            · rw [if_neg c46] at H
                              exact absurd H (by simp)
                          · rw [if_neg c45] at H
                            exact absurd H (by simp)
                        · rw [if_neg c44] at H
                          exact absurd H (by simp)
                      · rw [if_neg c43] at H
                        have c43b0 : (((Q13 l0 x6_1).f0) == 4) = false := beq_eq_false_iff_ne.mpr c43
                        have c43b1 : (((Q13 l0 x6_1).f0) != 4) = true := bne_iff_ne.mpr c43
                        have H' := Aside0.mk H
                        clear H
                        try go_wp2
                        have n0_ := Aside0.mk (Kd.R_drew HO_5.out)
                        have n1_ := Aside0.mk (Q8 HB.out)
                        clear HO_5
                        clear HB
                        have HO_5 := n0_
                        have HB := n1_
                        clear n0_ n1_
                        have p198 : 0 ≤ (x6_1 : Int) := of_decide_eq_true (by first | (with_reducible assumption) | assumption)
                        have q198 : x6_1 < (l1.length : Int) := of_decide_eq_true (by first | (with_reducible assumption) | assumption)
                        obtain ⟨ad198, e198, hx198_0, hx198_1⟩ := at_T100 HR1.out x6_1 p198 q198
                        have hw198_1 := hx198_1
                        have hw198_0 := hx198_0
                        cases e198
                        replace hx198_0 := (HB.out.cell (World.block_lt_of_cell? w _ hx198_0)).trans hx198_0
                        replace hx198_1 := (HB.out.cell (World.block_lt_of_cell? w _ hx198_1)).trans hx198_1
                        replace p198 := eq_true p198
                        replace q198 := eq_true q198
                        have p199 : 0 ≤ (x6_1 : Int) := of_decide_eq_true (by first | (with_reducible assumption) | assumption)
                        have q199 : x6_1 < (l1.length : Int) := of_decide_eq_true (by first | (with_reducible assumption) | assumption)
                        obtain ⟨ad199, e199, hx199_0, hx199_1⟩ := at_T100 HR1.out x6_1 p199 q199
                        have hw199_1 := hx199_1
                        have hw199_0 := hx199_0
                        obtain rfl : ad198 = ad199 := (by injection e199)
                        replace hx199_0 := (HB.out.cell (World.block_lt_of_cell? w _ hx199_0)).trans hx199_0
                        replace hx199_1 := (HB.out.cell (World.block_lt_of_cell? w _ hx199_1)).trans hx199_1
                        replace p199 := eq_true p199
                        replace q199 := eq_true q199
                        refine start_ (n := 12) (S := fun w' => w'.cell? (ad198.add ((x6_1).toNat * 2)) = some (.int .i64 ((Q16 l1 x6_1).f0)) ∧ w'.cell? ⟨(ad198.add ((x6_1).toNat * 2)).block, (ad198.add ((x6_1).toNat * 2)).off + 1, none⟩ = some (.int .i64 ((Q16 l1 x6_1).f1)) ∧ w'.cell? (ad198.add ((x6_1).toNat * 2)) = some (.int .i64 ((Q16 l1 x6_1).f0)) ∧ w'.cell? ⟨(ad198.add ((x6_1).toNat * 2)).block, (ad198.add ((x6_1).toNat * 2)).off + 1, none⟩ = some (.int .i64 ((Q16 l1 x6_1).f1))) (ds := []) #[ff, ff, ff, ff, ff, ff, ff, ff, ff, ff, ff, ff] (by kernel_rfl) rfl rfl ⟨((HB.out.cell (World.block_lt_of_cell? w _ hw198_0)).trans hw198_0), ((HB.out.cell (World.block_lt_of_cell? w _ hw198_1)).trans hw198_1), ((HB.out.cell (World.block_lt_of_cell? w _ hw199_0)).trans hw199_0), ((HB.out.cell (World.block_lt_of_cell? w _ hw199_1)).trans hw199_1)⟩ (fun hHeld => ?_); refine with_tabW dowelref22_Depths.tab5 dowelref22_Depths.bits5 (fun HT_ HW_ => ?_)
                        generalize wr.drew = w57 at HO_5 HB hx198_0 hx198_1 hx199_0 hx199_1 hHeld ⊢
                        refine Q26 (i := 0) (N := some 18) (v := ?_) (a' := ?_) #[tt, ff, ff, ff, ff, ff, ff, ff, ff, ff, ff, ff] rfl rfl (any_of HT_.out (by kernel_rfl)) (fun _ _ _ h => h) (Or.inl ⟨by rfl, ?_⟩) ?_ ?_; rotate_left; intro w'; go_simp; with_reducible rfl; rotate_left; simp only [pS]; rfl
                        refine Q26 (i := 1) (N := some 19) (v := ?_) (a' := ?_) #[tt, tt, ff, ff, ff, ff, ff, ff, ff, ff, ff, ff] rfl rfl (any_of HT_.out (by kernel_rfl)) (fun _ _ _ h => h) (Or.inl ⟨by rfl, ?_⟩) ?_ ?_; rotate_left; intro w'; go_simp; with_reducible rfl; rotate_left; simp only [pS]; rfl
                        refine Q26 (i := 2) (N := some 20) (v := ?_) (a' := ?_) #[tt, tt, tt, ff, ff, ff, ff, ff, ff, ff, ff, ff] rfl rfl (any_of HT_.out (by kernel_rfl)) (fun _ _ _ h => h) (Or.inl ⟨by rfl, ?_⟩) ?_ ?_; rotate_left; intro w'; go_simp; with_reducible rfl; rotate_left; simp only [pS]; rfl
                        refine Q26 (i := 3) (N := some 21) (v := ?_) (a' := ?_) #[tt, tt, tt, tt, ff, ff, ff, ff, ff, ff, ff, ff] rfl rfl (any_of HT_.out (by kernel_rfl)) (fun _ _ _ h => h) (Or.inl ⟨by rfl, ?_⟩) ?_ ?_; rotate_left; intro w'; go_simp; with_reducible rfl; rotate_left; simp only [pS]; rfl
                        refine Q26 (i := 5) (N := some 23) (v := ?_) (a' := ?_) #[tt, tt, tt, tt, ff, tt, ff, ff, ff, ff, ff, ff] rfl rfl (any_of HT_.out (by kernel_rfl)) (fun _ _ _ h => h) (Or.inl ⟨by rfl, ?_⟩) ?_ ?_; rotate_left; intro w'; go_simp; with_reducible rfl; rotate_left; simp only [pS]; rfl
                        refine Q26 (i := 6) (N := some 24) (v := ?_) (a' := ?_) #[tt, tt, tt, tt, ff, tt, tt, ff, ff, ff, ff, ff] rfl rfl (any_of HT_.out (by kernel_rfl)) (fun _ _ _ h => h) (Or.inl ⟨by rfl, ?_⟩) ?_ ?_; rotate_left; intro w'; go_simp; with_reducible rfl; rotate_left; simp only [pS]; rfl
                        refine Q26 (i := 7) (N := some 25) (v := ?_) (a' := ?_) #[tt, tt, tt, tt, ff, tt, tt, tt, ff, ff, ff, ff] rfl rfl (any_of HT_.out (by kernel_rfl)) (fun _ _ _ h => h) (Or.inl ⟨by rfl, ?_⟩) ?_ ?_; rotate_left; intro w'; go_simp; with_reducible rfl; rotate_left; simp only [pS]; rfl
                        refine Q26 (i := 8) (N := some 26) (v := ?_) (a' := ?_) #[tt, tt, tt, tt, ff, tt, tt, tt, tt, ff, ff, ff] rfl rfl (any_of HT_.out (by kernel_rfl)) (fun _ _ _ h => h) (Or.inl ⟨by rfl, ?_⟩) ?_ ?_; rotate_left; intro w'; go_simp; with_reducible rfl; rotate_left; simp only [pS]; rfl
                        refine take_ (i := 4) (N := some 22) (v := ?_) (a' := ?_) #[tt, tt, tt, tt, tt, tt, tt, tt, tt, ff, ff, ff] rfl rfl (take_ofW HT_.out HW_.out (by kernel_rfl)) (fun _ _ _ h => h) (Or.inl ⟨by rfl, ?_⟩) hHeld ?_ ?_; rotate_left; rintro w' ⟨s0, s1, s2, s3⟩; go_simp; with_reducible rfl; rotate_left; simp only [pS]; rfl
                        refine Q26 (i := 10) (N := some 7) (v := ?_) (a' := ?_) #[tt, tt, tt, tt, tt, tt, tt, tt, tt, ff, tt, ff] rfl rfl (any_of HT_.out (by kernel_rfl)) (fun _ _ _ h => h) (Or.inl ⟨by rfl, ?_⟩) ?_ ?_; rotate_left; intro w'; go_simp; with_reducible rfl; rotate_left; simp only [pS]; rfl
                        refine take_ (i := 9) (N := some 27) (v := ?_) (a' := ?_) #[tt, tt, tt, tt, tt, tt, tt, tt, tt, tt, tt, ff] rfl rfl (take_ofW HT_.out HW_.out (by kernel_rfl)) (fun _ _ _ h => h) (Or.inl ⟨by rfl, ?_⟩) hHeld ?_ ?_; rotate_left; rintro w' ⟨s0, s1, s2, s3⟩; go_simp; with_reducible rfl; rotate_left; simp only [pS]; rfl
                        refine Q26 (i := 11) (N := some 8) (v := ?_) (a' := ?_) #[tt, tt, tt, tt, tt, tt, tt, tt, tt, tt, tt, tt] rfl rfl (any_of HT_.out (by kernel_rfl)) (fun _ _ _ h => h) (Or.inl ⟨by rfl, ?_⟩) ?_ ?_; rotate_left; intro w'; go_simp; with_reducible rfl; rotate_left; simp only [pS]; rfl
                        refine done_ (done_of HT_.out (by kernel_rfl)) ?_
                        have p200 : 0 ≤ (x6_1 : Int) := of_decide_eq_true (by first | (with_reducible assumption) | assumption)
                        have q200 : x6_1 < (l0.length : Int) := of_decide_eq_true (by first | (with_reducible assumption) | assumption)
                        obtain ⟨ad200, e200, hx200_0, hx200_1, hx200_2, hx200_3, hx200_4⟩ := at_T45 HR0.out x6_1 p200 q200
                        cases e200
                        replace hx200_0 := (HB.out.cell (World.block_lt_of_cell? w _ hx200_0)).trans hx200_0
                        replace hx200_1 := (HB.out.cell (World.block_lt_of_cell? w _ hx200_1)).trans hx200_1
                        replace hx200_2 := (HB.out.cell (World.block_lt_of_cell? w _ hx200_2)).trans hx200_2
                        replace hx200_3 := (HB.out.cell (World.block_lt_of_cell? w _ hx200_3)).trans hx200_3
                        replace hx200_4 := (HB.out.cell (World.block_lt_of_cell? w _ hx200_4)).trans hx200_4
                        replace p200 := eq_true p200
                        replace q200 := eq_true q200
                        try go_wp2
                        go_roundg k1
                        case measure => have := HK1.out; omega
                        case rel => exact ⟨(x5_1), (wrap64 (x6_1 + 1)), (by first | rfl | (simp; done) | (simp [*]; done)), H', ⟨by have := HK1.out; omega⟩, ⟨by (with_reducible repeat (first | apply Kd.R_alloc | apply Kd.R_drewN | apply Kd.R_drew)); exact HO_5.out⟩, ⟨by repeat (first | (with_reducible first | exact HB.out | apply Q9 | apply Q7 | apply Q8) | exact HB.out)⟩⟩
              · rw [if_neg c9] at H
                exact absurd H (by simp)
            · rw [if_neg c8] at H
              exact absurd H (by simp)
          · rw [if_neg c7] at H
            have c7b0 : decide (x6_1 < (l0.length : Int)) = false := decide_eq_false c7
            clear c7
            obtain rfl := Option.some.inj H
            go_wp2
            go_ret
            exact ⟨_, by first | rfl | (simp [Q24, Q25] <;> rfl) | (simp [*, Q24, Q25] <;> rfl), by (with_reducible repeat (first | apply Kd.R_alloc | apply Kd.R_drewN | apply Kd.R_drew)); exact HO_5.out, by repeat (first | (with_reducible first | exact HB.out | apply Q9 | apply Q7 | apply Q8) | exact HB.out)⟩
    · rw [if_neg c4] at H
      exact absurd H (by simp)
  · rw [if_neg c3] at H
    exact absurd H (by simp)
end Go.Proofs.Ytflkgoggnomehaa.P
