import Derived.Test.YtldjdcdoegjmoaaDoorV1
import Derived.Test.YtldjdcdoegjmoaaDoorV3
import Derived.Test.YtldjdcdoegjmoaaDoorV12
namespace Go.Proofs.YtldjdcdoegjmoaaDoor.P
open Go.RowKit Go.Proofs.YtldjdcdoegjmoaaDoorW.PrintWords Go.Proofs.YtldjdcdoegjmoaaDoorW.PrintLast Go.Proofs.YtldjdcdoegjmoaaDoorW.PrintMore
set_option linter.unusedVariables false
set_option linter.unusedSimpArgs false
mutual
def lexis_blanks.l0 : Nat → ByteArray → Int → Option (Int)
  | 0, _, _ => none
  | k + 1, x0, x1 => if x1 < (x0.size : Int) then (if 0 ≤ x1 then (if (bt x0 x1) = 32 then (lexis_blanks.j1 k x0 x1 (bt x0 x1) ((bt x0 x1) == 32)) else (if (bt x0 x1) = 9 then (lexis_blanks.j1 k x0 x1 (bt x0 x1) ((bt x0 x1) == 9)) else (if (bt x0 x1) = 13 then (lexis_blanks.j1 k x0 x1 (bt x0 x1) ((bt x0 x1) == 13)) else (lexis_blanks.j1 k x0 x1 (bt x0 x1) ((bt x0 x1) == 10))))) else (none)) else (some x1)
def lexis_blanks.j1 : Nat → ByteArray → Int → Int → Bool → Option (Int)
  | 0, _, _, _, _ => none
  | k + 1, x0, x1, x12, x14 => if x14 = true then (lexis_blanks.l0 k x0 (wrap64 (x1 + 1))) else (if x12 = 35 then (if 0 ≤ x1 then (if x1 ≤ (x0.size : Int) then ((strings_IndexByte.f (x0.extract (x1 : Int).toNat x0.size) 10).bind fun t498 => (if t498 < 0 then (some (x0.size : Int)) else (lexis_blanks.l0 k x0 (wrap64 (x1 + t498))))) else (none)) else (none)) else (some x1))
end
def lexis_blanks.f (k : Nat) (a0 : ByteArray) (a1 : Int) : Option (Int) := lexis_blanks.l0 k a0 a1
set_option maxHeartbeats 8000000 in
set_option maxRecDepth 100000 in
theorem lexis_blanks.calls (k : Nat) (a0 : ByteArray) (a1 : Int) (r : Int) (w : World) (h : lexis_blanks.f k a0 a1 = some r) :
    Calls Tryd.prog 33 #[.string a0, .int .i64 a1] w fun e w' => e = .returned (.int .i64 r) ∧ Drawn0 w w' := by
  have H : (lexis_blanks.l0 k a0 a1) = some r := h
  clear h
  have H' := Aside0.mk H
  clear H
  go_enter Tryd.func33, Tryd.ntmps33
  go_wp2
  go_loopg [1] k (fun kq v1 w' => ∃ (x1_1 : Int), v1 = .int .i64 x1_1 ∧ Aside0 (lexis_blanks.l0 kq a0 x1_1 = some r) ∧ Aside0 (kq ≤ k) ∧ Drawn0 w w')
  case atStart => exact ⟨(a1), (by first | rfl | (simp; done) | (simp [*]; done)), H', ⟨Nat.le_refl _⟩, by repeat (first | exact Drawn0.refl _ | apply Drawn0.step)⟩
  case round =>
    clear H'
    try clear p2
    obtain ⟨x1_1, rfl, HA, HK1, ⟨m1, rfl⟩⟩ := hrel
    cases gk with
    | zero => exact absurd HA.out (by simp [lexis_blanks.l0])
    | succ k1 =>
      have H := HA.out
      clear HA
      simp only [lexis_blanks.l0] at H
      by_cases c3 : x1_1 < (a0.size : Int)
      · rw [if_pos c3] at H
        have c3b0 : decide (x1_1 < (a0.size : Int)) = true := decide_eq_true c3
        clear c3
        by_cases c4 : 0 ≤ x1_1
        · rw [if_pos c4] at H
          have c4b0 : decide (0 ≤ x1_1) = true := decide_eq_true c4
          clear c4
          have HC6 := Aside0.mk H
          clear H
          have p5 : 0 ≤ (x1_1 : Int) := of_decide_eq_true (by first | (with_reducible assumption) | assumption)
          have q5 : x1_1 < (a0.size : Int) := of_decide_eq_true (by first | (with_reducible assumption) | assumption)
          have hx5 := bt_at a0 x1_1
          replace p5 := eq_true p5
          replace q5 := eq_true q5
          go_upto_if 14 with (fail)
          go_cut [14] (fun v14 wc => ∃ (kq : Nat) (x14_5 : Bool), v14 = .bool x14_5 ∧ Aside0 (lexis_blanks.j1 kq a0 x1_1 (bt a0 x1_1) x14_5 = some r) ∧ Aside0 (kq ≤ k1) ∧ Drawn0 w wc)
          case first =>
            have H := HC6.out
            clear HC6
            by_cases c7 : (bt a0 x1_1) = 32
            · rw [if_pos c7] at H
              have c7b0 : ((bt a0 x1_1) == 32) = true := beq_iff_eq.mpr c7
              have c7b1 : ((bt a0 x1_1) != 32) = false := bne_eq_false_iff_eq.mpr c7
              clear c7
              (first | rw [c7b0] | (simp only [i64_w, i32_w]; rw [c7b0]) | skip)
              have H' := Aside0.mk H
              clear H
              go_wp2
              go_meet
              case rel => exact ⟨_, (((bt a0 x1_1) == 32)), (by first | rfl | (simp; done) | (simp [*]; done)), H', ⟨by have := HK1.out; first | omega | exact Nat.le_refl _⟩, by repeat (first | exact Drawn0.refl _ | apply Drawn0.step)⟩
            · rw [if_neg c7] at H
              have c7b0 : ((bt a0 x1_1) == 32) = false := beq_eq_false_iff_ne.mpr c7
              have c7b1 : ((bt a0 x1_1) != 32) = true := bne_iff_ne.mpr c7
              (first | rw [c7b0] | (simp only [i64_w, i32_w]; rw [c7b0]) | skip)
              by_cases c8 : (bt a0 x1_1) = 9
              · rw [if_pos c8] at H
                have c8b0 : ((bt a0 x1_1) == 9) = true := beq_iff_eq.mpr c8
                have c8b1 : ((bt a0 x1_1) != 9) = false := bne_eq_false_iff_eq.mpr c8
                clear c8
                have H' := Aside0.mk H
                clear H
                go_wp2
                go_meet
                case rel => exact ⟨_, (((bt a0 x1_1) == 9)), (by first | rfl | (simp; done) | (simp [*]; done)), H', ⟨by have := HK1.out; first | omega | exact Nat.le_refl _⟩, by repeat (first | exact Drawn0.refl _ | apply Drawn0.step)⟩
              · rw [if_neg c8] at H
                have c8b0 : ((bt a0 x1_1) == 9) = false := beq_eq_false_iff_ne.mpr c8
                have c8b1 : ((bt a0 x1_1) != 9) = true := bne_iff_ne.mpr c8
                by_cases c9 : (bt a0 x1_1) = 13
                · rw [if_pos c9] at H
                  have c9b0 : ((bt a0 x1_1) == 13) = true := beq_iff_eq.mpr c9
                  have c9b1 : ((bt a0 x1_1) != 13) = false := bne_eq_false_iff_eq.mpr c9
                  clear c9
                  have H' := Aside0.mk H
                  clear H
                  go_wp2
                  go_meet
                  case rel => exact ⟨_, (((bt a0 x1_1) == 13)), (by first | rfl | (simp; done) | (simp [*]; done)), H', ⟨by have := HK1.out; first | omega | exact Nat.le_refl _⟩, by repeat (first | exact Drawn0.refl _ | apply Drawn0.step)⟩
                · rw [if_neg c9] at H
                  have c9b0 : ((bt a0 x1_1) == 13) = false := beq_eq_false_iff_ne.mpr c9
                  have c9b1 : ((bt a0 x1_1) != 13) = true := bne_iff_ne.mpr c9
                  have H' := Aside0.mk H
                  clear H
                  go_wp2
                  go_meet
                  case rel => exact ⟨_, (((bt a0 x1_1) == 10)), (by first | rfl | (simp; done) | (simp [*]; done)), H', ⟨by have := HK1.out; first | omega | exact Nat.le_refl _⟩, by repeat (first | exact Drawn0.refl _ | apply Drawn0.step)⟩
          case rest =>
            clear HC6
            try clear p2
            try clear c3
            try clear c3b0
            try clear c4
            try clear c4b0
            try clear p5
            try clear q5
            try clear hx5
            try clear c7
            try clear c7b0
            try clear c7b1
            try clear c8
            try clear c8b0
            try clear c8b1
            try clear c9
            try clear c9b0
            try clear c9b1
            try clear p2
            try clear p5
            try clear q5
            obtain ⟨kq, x14_5, rfl, HA, HJ5, ⟨mc5, rfl⟩⟩ := hcut
            cases kq with
            | zero => exact absurd HA.out (by simp [lexis_blanks.j1])
            | succ kj5 =>
              have H := HA.out
              clear HA
              simp only [lexis_blanks.j1] at H
              by_cases c10 : x14_5 = true
              · subst c10
                have H1 : (lexis_blanks.l0 kj5 a0 (wrap64 (x1_1 + 1))) = some r := by rw [if_pos rfl] at H; exact H
                clear H
                have H := H1
                clear H1
                have H' := Aside0.mk H
                clear H
                go_wp2
                go_roundg kj5
                case measure => have := HK1.out; have := HJ5.out; omega
                case rel => exact ⟨(wrap64 (x1_1 + 1)), (by first | rfl | (simp; done) | (simp [*]; done)), H', ⟨by have := HK1.out; have := HJ5.out; omega⟩, by repeat (first | exact Drawn0.refl _ | apply Drawn0.step)⟩
              · replace c10 := Bool.eq_false_iff.mpr c10
                subst c10
                have H1 : (if (bt a0 x1_1) = 35 then (if 0 ≤ x1_1 then (if x1_1 ≤ (a0.size : Int) then ((strings_IndexByte.f (a0.extract (x1_1 : Int).toNat a0.size) 10).bind fun t498 => (if t498 < 0 then (some (a0.size : Int)) else (lexis_blanks.l0 kj5 a0 (wrap64 (x1_1 + t498))))) else (none)) else (none)) else (some x1_1)) = some r := by rw [if_neg (show ¬ (false = true) by decide)] at H; exact H
                clear H
                have H := H1
                clear H1
                by_cases c11 : (bt a0 x1_1) = 35
                · rw [if_pos c11] at H
                  have c11b0 : ((bt a0 x1_1) == 35) = true := beq_iff_eq.mpr c11
                  have c11b1 : ((bt a0 x1_1) != 35) = false := bne_eq_false_iff_eq.mpr c11
                  clear c11
                  by_cases c12 : 0 ≤ x1_1
                  · rw [if_pos c12] at H
                    have c12b0 := eq_true c12
                    have c12b1 : decide (0 ≤ x1_1) = true := decide_eq_true c12
                    clear c12
                    by_cases c13 : x1_1 ≤ (a0.size : Int)
                    · rw [if_pos c13] at H
                      have c13b0 := eq_true c13
                      have c13b1 : decide (x1_1 ≤ (a0.size : Int)) = true := decide_eq_true c13
                      clear c13
                      replace H := Option.bind_eq_some_iff.mp H
                      obtain ⟨t498, A140, H⟩ := H
                      replace H : (if t498 < 0 then (some (a0.size : Int)) else (lexis_blanks.l0 kj5 a0 (wrap64 (x1_1 + t498)))) = some r := H
                      have A14 := Aside0.mk A140
                      clear A140
                      by_cases c15 : t498 < 0
                      · rw [if_pos c15] at H
                        have c15b0 : decide (t498 < 0) = true := decide_eq_true c15
                        clear c15
                        obtain rfl := Option.some.inj H
                        go_wp2_with (first | ((with_reducible refine Q40 (f := 57) rfl ?_); refine goesL_ (some 26) rfl rfl Tryd.func57 (by kernel_rfl) rfl #[.string (a0.extract (x1_1 : Int).toNat a0.size), .int .u8 10] rfl (by (try simp only [List.map_toArray, List.map_cons, List.map_nil]); first | done | rfl | (simp only [List.length_drop, List.length_take]; rfl)) ?_; (with_reducible refine (strings_IndexByte.calls (a0.extract (x1_1 : Int).toNat a0.size) 10 t498 _ A14.out).mono ?_); rintro e w' ⟨rfl, ⟨nd, rfl⟩⟩; refine ⟨_, rfl, ?_⟩))
                        go_ret
                        exact ⟨by first | rfl | (simp; done) | (simp [*]; done), by repeat (first | exact Drawn0.refl _ | apply Drawn0.step)⟩
                      · rw [if_neg c15] at H
                        have c15b0 : decide (t498 < 0) = false := decide_eq_false c15
                        clear c15
                        have H' := Aside0.mk H
                        clear H
                        go_wp2_with (first | ((with_reducible refine Q40 (f := 57) rfl ?_); refine goesL_ (some 26) rfl rfl Tryd.func57 (by kernel_rfl) rfl #[.string (a0.extract (x1_1 : Int).toNat a0.size), .int .u8 10] rfl (by (try simp only [List.map_toArray, List.map_cons, List.map_nil]); first | done | rfl | (simp only [List.length_drop, List.length_take]; rfl)) ?_; (with_reducible refine (strings_IndexByte.calls (a0.extract (x1_1 : Int).toNat a0.size) 10 t498 _ A14.out).mono ?_); rintro e w' ⟨rfl, ⟨nd, rfl⟩⟩; refine ⟨_, rfl, ?_⟩))
                        go_roundg kj5
                        case measure => have := HK1.out; have := HJ5.out; omega
                        case rel => exact ⟨(wrap64 (x1_1 + t498)), (by first | rfl | (simp; done) | (simp [*]; done)), H', ⟨by have := HK1.out; have := HJ5.out; omega⟩, by repeat (first | exact Drawn0.refl _ | apply Drawn0.step)⟩
                    · rw [if_neg c13] at H
                      exact absurd H (by simp)
                  · rw [if_neg c12] at H
                    exact absurd H (by simp)
                · rw [if_neg c11] at H
                  have c11b0 : ((bt a0 x1_1) == 35) = false := beq_eq_false_iff_ne.mpr c11
                  have c11b1 : ((bt a0 x1_1) != 35) = true := bne_iff_ne.mpr c11
                  obtain rfl := Option.some.inj H
                  go_wp2
                  go_ret
                  exact ⟨by first | rfl | (simp; done) | (simp [*]; done), by repeat (first | exact Drawn0.refl _ | apply Drawn0.step)⟩
        · rw [if_neg c4] at H
          exact absurd H (by simp)
      · rw [if_neg c3] at H
        have c3b0 : decide (x1_1 < (a0.size : Int)) = false := decide_eq_false c3
        clear c3
        obtain rfl := Option.some.inj H
        go_wp2
        go_ret
        exact ⟨by first | rfl | (simp; done) | (simp [*]; done), by repeat (first | exact Drawn0.refl _ | apply Drawn0.step)⟩
def lexis_Next.j0 : Nat → ByteArray → Int → Bool → Option (Int × Int × Int × ByteArray × Bool × Int × Int × Int × Int × Int × Int × Int × Int)
  | 0, _, _, _ => none
  | k + 1, x0, x1, x18 => if x18 = true then (some (0, 0, 0, (⟨#[]⟩ : ByteArray), false, 0, 0, 0, 0, 0, 0, 0, 5)) else ((lexis_blanks.f k x0 x1).bind fun t501 => ((lexis_read.f k x0 t501).bind fun bt502 => (some (bt502.1, bt502.2.1, bt502.2.2.1, bt502.2.2.2.1, bt502.2.2.2.2.1, bt502.2.2.2.2.2.1, bt502.2.2.2.2.2.2.1, bt502.2.2.2.2.2.2.2.1, bt502.2.2.2.2.2.2.2.2.1, bt502.2.2.2.2.2.2.2.2.2.1, bt502.2.2.2.2.2.2.2.2.2.2.1, bt502.2.2.2.2.2.2.2.2.2.2.2.1, bt502.2.2.2.2.2.2.2.2.2.2.2.2))))
def lexis_Next.f (k : Nat) (a0 : ByteArray) (a1 : Int) : Option (Int × Int × Int × ByteArray × Bool × Int × Int × Int × Int × Int × Int × Int × Int) := if (a0.size : Int) > 65536 then (some (0, 0, 0, (⟨#[]⟩ : ByteArray), false, 0, 0, 0, 0, 0, 0, 0, 1)) else (if a1 < 0 then (lexis_Next.j0 k a0 a1 true) else (lexis_Next.j0 k a0 a1 (decide (a1 > (a0.size : Int)))))
set_option maxHeartbeats 8000000 in
set_option maxRecDepth 100000 in
theorem lexis_Next.calls (k : Nat) (a0 : ByteArray) (a1 : Int) (r1 : Int) (r2 : Int) (r3 : Int) (r4 : ByteArray) (r5 : Bool) (r6 : Int) (r7 : Int) (r8 : Int) (r9 : Int) (r10 : Int) (r11 : Int) (r12 : Int) (r13 : Int) (w : World) (h : lexis_Next.f k a0 a1 = some (r1, r2, r3, r4, r5, r6, r7, r8, r9, r10, r11, r12, r13)) :
    Calls Tryd.prog 17 #[.string a0, .int .i64 a1] w fun e w' => e = .returned (.tuple #[.agg #[.int .i64 r1, .int .i64 r2, .int .i64 r3, .string r4, .bool r5, .int .u64 r6, .int .u64 r7, .int .u64 r8, .int .u64 r9, .int .i64 r10, .int .i64 r11], .agg #[.int .i64 r12, .int .i64 r13]]) ∧ Below w.heap.size w w' := by
  have hu26 := Tryd.underlying26
  have hu41 := Tryd.underlying41
  have HB := Aside0.mk (Below.refl w.heap.size w)
  have H : (if (a0.size : Int) > 65536 then (some (0, 0, 0, (⟨#[]⟩ : ByteArray), false, 0, 0, 0, 0, 0, 0, 0, 1)) else (if a1 < 0 then (lexis_Next.j0 k a0 a1 true) else (lexis_Next.j0 k a0 a1 (decide (a1 > (a0.size : Int)))))) = some (r1, r2, r3, r4, r5, r6, r7, r8, r9, r10, r11, r12, r13) := h
  clear h
  by_cases c3 : (a0.size : Int) > 65536
  · rw [if_pos c3] at H
    have c3b0 : decide (65536 < (a0.size : Int)) = true := decide_eq_true c3
    have c3b1 : decide (65536 < a0.size) = true := decide_eq_true (by omega)
    clear c3
    simp only [Option.some.injEq, Prod.mk.injEq] at H
    obtain ⟨rfl, rfl, rfl, rfl, rfl, rfl, rfl, rfl, rfl, rfl, rfl, rfl, rfl⟩ := H
    go_enter Tryd.func17, Tryd.ntmps17
    go_wp2_with (first | ((with_reducible refine gate_dst (N := 4) rfl ?_); (try (refine gate_guard (by rfl) ?_; dsimp only)); refine Q43 ?hg (N := 4) ?hd (cs := #[.int .i64 0, .int .i64 0, .int .i64 0, .string (⟨#[]⟩ : ByteArray), .bool false, .int .u64 0, .int .u64 0, .int .u64 0, .int .u64 0, .int .i64 0, .int .i64 0]) (t := 26) ?hr ?_; (case hd => rfl); (case hg => rfl); (case hr => first | (go_simp; done) | (go_simp; rfl)); intro gb499 hg w4 hbox hb; have n0_ := Aside0.mk (Q34 (by repeat (first | (with_reducible first | exact HB.out | apply Q19 | apply Q8 | apply Q23) | exact HB.out)) hb); have n1_ := Aside0.mk (hbox); have n2_ := Aside0.mk ((by rw [hg]; exact (Q29 (by repeat (first | (with_reducible first | exact HB.out | apply Q19 | apply Q8 | apply Q23) | exact HB.out))) : w.heap.size ≤ gb499)); have n3_ := Aside0.mk ((by rw [hg]; exact (Q29 (by repeat (first | (with_reducible first | exact HB.out | apply Q19 | apply Q8 | apply Q23) | exact HB.out))) : w.heap.size ≤ gb499)); clear HB; have HB := n0_; have BK499 := n1_; have GW499 := n2_; have GE499 := n3_; clear n0_ n1_ n2_ n3_; clear hb hbox hg) | ((with_reducible refine gate_dst (N := 5) rfl ?_); (try (refine gate_guard (by rfl) ?_; dsimp only)); refine Q43 ?hg (N := 5) ?hd (cs := #[.int .i64 0, .int .i64 0]) (t := 41) ?hr ?_; (case hd => rfl); (case hg => rfl); (case hr => first | (go_simp; done) | (go_simp; rfl)); intro gb500 hg w5 hbox hb; have n0_ := Aside0.mk (Q38 (g := gb499) (o := .cells #[.int .i64 0, .int .i64 0, .int .i64 0, .string (⟨#[]⟩ : ByteArray), .bool false, .int .u64 0, .int .u64 0, .int .u64 0, .int .u64 0, .int .i64 0, .int .i64 0] 26 (0, 0)) (by (with_reducible repeat (first | refine Q12 ?_ _ | refine Q24 ?_ | refine Q17 ?_ _)); exact BK499.out) hb); have n1_ := Aside0.mk (Q34 (by repeat (first | (with_reducible first | exact HB.out | apply Q19 | apply Q8 | apply Q23 | refine Q26 ?_ GE499.out) | exact HB.out)) hb); have n2_ := Aside0.mk (hbox); have n3_ := Aside0.mk ((by rw [hg]; exact (Q29 (by repeat (first | (with_reducible first | exact HB.out | apply Q19 | apply Q8 | apply Q23 | refine Q26 ?_ GE499.out) | exact HB.out))) : w.heap.size ≤ gb500)); have n4_ := Aside0.mk ((by rw [hg]; exact (Q29 (by repeat (first | (with_reducible first | exact HB.out | apply Q19 | apply Q8 | apply Q23 | refine Q26 ?_ GE499.out) | exact HB.out))) : w.heap.size ≤ gb500)); have n5_ := Aside0.mk ((by rw [hg]; exact Nat.ne_of_lt (blk_lt (g := gb499) (o := .cells #[.int .i64 0, .int .i64 0, .int .i64 0, .string (⟨#[]⟩ : ByteArray), .bool false, .int .u64 0, .int .u64 0, .int .u64 0, .int .u64 0, .int .i64 0, .int .i64 0] 26 (0, 0)) (by (with_reducible repeat (first | refine Q12 ?_ _ | refine Q24 ?_ | refine Q17 ?_ _)); exact BK499.out)) : gb499 ≠ gb500)); have n6_ := Aside0.mk ((by rw [hg]; exact Nat.ne_of_gt (blk_lt (g := gb499) (o := .cells #[.int .i64 0, .int .i64 0, .int .i64 0, .string (⟨#[]⟩ : ByteArray), .bool false, .int .u64 0, .int .u64 0, .int .u64 0, .int .u64 0, .int .i64 0, .int .i64 0] 26 (0, 0)) (by (with_reducible repeat (first | refine Q12 ?_ _ | refine Q24 ?_ | refine Q17 ?_ _)); exact BK499.out)) : gb500 ≠ gb499)); clear BK499; clear HB; have BK499 := n0_; have HB := n1_; have BK500 := n2_; have GW500 := n3_; have GE500 := n4_; have NB499_500 := n5_; have NB500_499 := n6_; clear n0_ n1_ n2_ n3_ n4_ n5_ n6_; clear hb hbox hg; have hnb6 := NB499_500.out; have hnc6 := NB500_499.out; obtain ⟨hcz7_0, hcz7_1, hcz7_2, hcz7_3, hcz7_4, hcz7_5, hcz7_6, hcz7_7, hcz7_8, hcz7_9, hcz7_10, hfz7_0, hfz7_1, hfz7_2, hfz7_3, hfz7_4, hfz7_5, hfz7_6, hfz7_7, hfz7_8, hfz7_9, hfz7_10⟩ := Q41 BK499.out; obtain ⟨hcz8_0, hcz8_1, hfz8_0, hfz8_1⟩ := blk_cells2 BK500.out))
    refine bodyPost_ret (results_cc rfl _ _ gb499 gb500 26 41 #[.int .i64 0, .int .i64 0, .int .i64 0, .string (⟨#[]⟩ : ByteArray), .bool false, .int .u64 0, .int .u64 0, .int .u64 0, .int .u64 0, .int .i64 0, .int .i64 0] #[.int .i64 0, .int .i64 1] (0, 0) (0, 0) _ _ rfl (by (with_reducible repeat (first | refine Q12 ?_ _ | refine Q24 ?_ | refine Q17 ?_ _)); refine blk_far2 ?_ NB499_500.out; (with_reducible repeat (first | refine Q12 ?_ _ | refine Q24 ?_ | refine Q17 ?_ _)); apply blk_put11; (with_reducible repeat (first | refine Q12 ?_ _ | refine Q24 ?_ | refine Q17 ?_ _)); exact BK499.out) Tryd.underlying26 rfl (by kernel_rfl) rfl (by (with_reducible repeat (first | refine Q12 ?_ _ | refine Q24 ?_ | refine Q17 ?_ _)); apply blk_put2; (with_reducible repeat (first | refine Q12 ?_ _ | refine Q24 ?_ | refine Q17 ?_ _)); refine blk_far11 ?_ NB500_499.out; (with_reducible repeat (first | refine Q12 ?_ _ | refine Q24 ?_ | refine Q17 ?_ _)); exact BK500.out) Tryd.underlying41 rfl (by kernel_rfl)) rfl ?_
    exact ⟨by first | rfl | (simp [Q37, Q35] <;> rfl) | (simp [*, Q37, Q35] <;> rfl), by repeat (first | (with_reducible first | exact HB.out | apply Q19 | apply Q8 | apply Q23 | refine Q26 ?_ GE499.out | refine Q26 ?_ GE500.out) | exact HB.out)⟩
  · rw [if_neg c3] at H
    have c3b0 : decide (65536 < (a0.size : Int)) = false := decide_eq_false c3
    have c3b1 : decide (65536 < a0.size) = false := decide_eq_false (by omega)
    clear c3
    have HC9 := Aside0.mk H
    clear H
    go_enter Tryd.func17, Tryd.ntmps17
    go_upto_region 3 with (first | ((with_reducible refine gate_dst (N := 4) rfl ?_); (try (refine gate_guard (by rfl) ?_; dsimp only)); refine Q43 ?hg (N := 4) ?hd (cs := #[.int .i64 0, .int .i64 0, .int .i64 0, .string (⟨#[]⟩ : ByteArray), .bool false, .int .u64 0, .int .u64 0, .int .u64 0, .int .u64 0, .int .i64 0, .int .i64 0]) (t := 26) ?hr ?_; (case hd => rfl); (case hg => rfl); (case hr => first | (go_simp; done) | (go_simp; rfl)); intro gb499 hg w10 hbox hb; have n0_ := Aside0.mk (Q34 (by repeat (first | (with_reducible first | exact HB.out | apply Q19 | apply Q8 | apply Q23) | exact HB.out)) hb); have n1_ := Aside0.mk (hbox); have n2_ := Aside0.mk ((by rw [hg]; exact (Q29 (by repeat (first | (with_reducible first | exact HB.out | apply Q19 | apply Q8 | apply Q23) | exact HB.out))) : w.heap.size ≤ gb499)); have n3_ := Aside0.mk ((by rw [hg]; exact (Q29 (by repeat (first | (with_reducible first | exact HB.out | apply Q19 | apply Q8 | apply Q23) | exact HB.out))) : w.heap.size ≤ gb499)); clear HB; have HB := n0_; have BK499 := n1_; have GW499 := n2_; have GE499 := n3_; clear n0_ n1_ n2_ n3_; clear hb hbox hg) | ((with_reducible refine gate_dst (N := 5) rfl ?_); (try (refine gate_guard (by rfl) ?_; dsimp only)); refine Q43 ?hg (N := 5) ?hd (cs := #[.int .i64 0, .int .i64 0]) (t := 41) ?hr ?_; (case hd => rfl); (case hg => rfl); (case hr => first | (go_simp; done) | (go_simp; rfl)); intro gb500 hg w11 hbox hb; have n0_ := Aside0.mk (Q38 (g := gb499) (o := .cells #[.int .i64 0, .int .i64 0, .int .i64 0, .string (⟨#[]⟩ : ByteArray), .bool false, .int .u64 0, .int .u64 0, .int .u64 0, .int .u64 0, .int .i64 0, .int .i64 0] 26 (0, 0)) (by (with_reducible repeat (first | refine Q12 ?_ _ | refine Q24 ?_ | refine Q17 ?_ _)); exact BK499.out) hb); have n1_ := Aside0.mk (Q34 (by repeat (first | (with_reducible first | exact HB.out | apply Q19 | apply Q8 | apply Q23 | refine Q26 ?_ GE499.out) | exact HB.out)) hb); have n2_ := Aside0.mk (hbox); have n3_ := Aside0.mk ((by rw [hg]; exact (Q29 (by repeat (first | (with_reducible first | exact HB.out | apply Q19 | apply Q8 | apply Q23 | refine Q26 ?_ GE499.out) | exact HB.out))) : w.heap.size ≤ gb500)); have n4_ := Aside0.mk ((by rw [hg]; exact (Q29 (by repeat (first | (with_reducible first | exact HB.out | apply Q19 | apply Q8 | apply Q23 | refine Q26 ?_ GE499.out) | exact HB.out))) : w.heap.size ≤ gb500)); have n5_ := Aside0.mk ((by rw [hg]; exact Nat.ne_of_lt (blk_lt (g := gb499) (o := .cells #[.int .i64 0, .int .i64 0, .int .i64 0, .string (⟨#[]⟩ : ByteArray), .bool false, .int .u64 0, .int .u64 0, .int .u64 0, .int .u64 0, .int .i64 0, .int .i64 0] 26 (0, 0)) (by (with_reducible repeat (first | refine Q12 ?_ _ | refine Q24 ?_ | refine Q17 ?_ _)); exact BK499.out)) : gb499 ≠ gb500)); have n6_ := Aside0.mk ((by rw [hg]; exact Nat.ne_of_gt (blk_lt (g := gb499) (o := .cells #[.int .i64 0, .int .i64 0, .int .i64 0, .string (⟨#[]⟩ : ByteArray), .bool false, .int .u64 0, .int .u64 0, .int .u64 0, .int .u64 0, .int .i64 0, .int .i64 0] 26 (0, 0)) (by (with_reducible repeat (first | refine Q12 ?_ _ | refine Q24 ?_ | refine Q17 ?_ _)); exact BK499.out)) : gb500 ≠ gb499)); clear BK499; clear HB; have BK499 := n0_; have HB := n1_; have BK500 := n2_; have GW500 := n3_; have GE500 := n4_; have NB499_500 := n5_; have NB500_499 := n6_; clear n0_ n1_ n2_ n3_ n4_ n5_ n6_; clear hb hbox hg))
    (try simp only [Act.put, List.setIfInBounds_toArray, List.set_cons_zero, List.set_cons_succ])
    go_cut [18] (fun v18 wc => ∃ (kq : Nat) (x18_8 : Bool), v18 = .bool x18_8 ∧ Aside0 (lexis_Next.j0 kq a0 a1 x18_8 = some (r1, r2, r3, r4, r5, r6, r7, r8, r9, r10, r11, r12, r13)) ∧ Aside0 (kq ≤ k) ∧ Aside0 (wc.heap[gb499]? = some (.cells #[.int .i64 0, .int .i64 0, .int .i64 0, .string (⟨#[]⟩ : ByteArray), .bool false, .int .u64 0, .int .u64 0, .int .u64 0, .int .u64 0, .int .i64 0, .int .i64 0] 26 (0, 0))) ∧ Aside0 (wc.heap[gb500]? = some (.cells #[.int .i64 0, .int .i64 0] 41 (0, 0))) ∧ Aside0 (Below w.heap.size w wc))
    case first =>
      have H := HC9.out
      clear HC9
      by_cases c12 : a1 < 0
      · rw [if_pos c12] at H
        have c12b0 : decide (a1 < 0) = true := decide_eq_true c12
        clear c12
        (first | rw [c12b0] | (simp only [i64_w, i32_w]; rw [c12b0]) | skip)
        have H' := Aside0.mk H
        clear H
        go_wp2
        go_meet
        case rel => exact ⟨_, (true), (by first | rfl | (simp; done) | (simp [*]; done)), H', ⟨by first | omega | exact Nat.le_refl _⟩, ⟨by (with_reducible repeat (first | refine Q12 ?_ _ | refine Q24 ?_ | refine Q17 ?_ _)); exact BK499.out⟩, ⟨by (with_reducible repeat (first | refine Q12 ?_ _ | refine Q24 ?_ | refine Q17 ?_ _)); exact BK500.out⟩, ⟨by repeat (first | (with_reducible first | exact HB.out | apply Q19 | apply Q8 | apply Q23 | refine Q26 ?_ GE499.out | refine Q26 ?_ GE500.out) | exact HB.out)⟩⟩
      · rw [if_neg c12] at H
        have c12b0 : decide (a1 < 0) = false := decide_eq_false c12
        clear c12
        (first | rw [c12b0] | (simp only [i64_w, i32_w]; rw [c12b0]) | skip)
        have H' := Aside0.mk H
        clear H
        go_wp2
        go_meet
        case rel => exact ⟨_, (decide (a1 > (a0.size : Int))), (by first | rfl | (simp; done) | (simp [*]; done)), H', ⟨by first | omega | exact Nat.le_refl _⟩, ⟨by (with_reducible repeat (first | refine Q12 ?_ _ | refine Q24 ?_ | refine Q17 ?_ _)); exact BK499.out⟩, ⟨by (with_reducible repeat (first | refine Q12 ?_ _ | refine Q24 ?_ | refine Q17 ?_ _)); exact BK500.out⟩, ⟨by repeat (first | (with_reducible first | exact HB.out | apply Q19 | apply Q8 | apply Q23 | refine Q26 ?_ GE499.out | refine Q26 ?_ GE500.out) | exact HB.out)⟩⟩
    case rest =>
      clear HC9
      try clear c1
      try clear p2
      try clear c3
      try clear c3b0
      try clear c3b1
      try clear c6
      try clear c12
      try clear c12b0
      try clear hcz7_0
      try clear hcz7_1
      try clear hcz7_10
      try clear hcz7_2
      try clear hcz7_3
      try clear hcz7_4
      try clear hcz7_5
      try clear hcz7_6
      try clear hcz7_7
      try clear hcz7_8
      try clear hcz7_9
      try clear hcz8_0
      try clear hcz8_1
      try clear hfz7_0
      try clear hfz7_1
      try clear hfz7_10
      try clear hfz7_2
      try clear hfz7_3
      try clear hfz7_4
      try clear hfz7_5
      try clear hfz7_6
      try clear hfz7_7
      try clear hfz7_8
      try clear hfz7_9
      try clear hfz8_0
      try clear hfz8_1
      obtain ⟨kq, x18_8, rfl, HA, HJ8, BK499, BK500, HB⟩ := hcut
      cases kq with
      | zero => exact absurd HA.out (by simp [lexis_Next.j0])
      | succ kj8 =>
        have H := HA.out
        clear HA
        simp only [lexis_Next.j0] at H
        by_cases c13 : x18_8 = true
        · subst c13
          have H1 : (some (0, 0, 0, (⟨#[]⟩ : ByteArray), false, 0, 0, 0, 0, 0, 0, 0, 5)) = some (r1, r2, r3, r4, r5, r6, r7, r8, r9, r10, r11, r12, r13) := by rw [if_pos rfl] at H; exact H
          clear H
          have H := H1
          clear H1
          simp only [Option.some.injEq, Prod.mk.injEq] at H
          obtain ⟨rfl, rfl, rfl, rfl, rfl, rfl, rfl, rfl, rfl, rfl, rfl, rfl, rfl⟩ := H
          have hnb14 := NB499_500.out
          have hnc14 := NB500_499.out
          have hcz15_0 : wc.cell? ⟨gb499, 0, none⟩ = some (.int .i64 0) := (Q32 BK499.out 0).trans rfl
          have hcz15_1 : wc.cell? ⟨gb499, 1, none⟩ = some (.int .i64 0) := (Q32 BK499.out 1).trans rfl
          have hcz15_2 : wc.cell? ⟨gb499, 2, none⟩ = some (.int .i64 0) := (Q32 BK499.out 2).trans rfl
          have hcz15_3 : wc.cell? ⟨gb499, 3, none⟩ = some (.string (⟨#[]⟩ : ByteArray)) := (Q32 BK499.out 3).trans rfl
          have hcz15_4 : wc.cell? ⟨gb499, 4, none⟩ = some (.bool false) := (Q32 BK499.out 4).trans rfl
          have hcz15_5 : wc.cell? ⟨gb499, 5, none⟩ = some (.int .u64 0) := (Q32 BK499.out 5).trans rfl
          have hcz15_6 : wc.cell? ⟨gb499, 6, none⟩ = some (.int .u64 0) := (Q32 BK499.out 6).trans rfl
          have hcz15_7 : wc.cell? ⟨gb499, 7, none⟩ = some (.int .u64 0) := (Q32 BK499.out 7).trans rfl
          have hcz15_8 : wc.cell? ⟨gb499, 8, none⟩ = some (.int .u64 0) := (Q32 BK499.out 8).trans rfl
          have hcz15_9 : wc.cell? ⟨gb499, 9, none⟩ = some (.int .i64 0) := (Q32 BK499.out 9).trans rfl
          have hcz15_10 : wc.cell? ⟨gb499, 10, none⟩ = some (.int .i64 0) := (Q32 BK499.out 10).trans rfl
          have hfz15_0 := Q28 BK499.out 0
          have hfz15_1 := Q28 BK499.out 1
          have hfz15_2 := Q28 BK499.out 2
          have hfz15_3 := Q28 BK499.out 3
          have hfz15_4 := Q28 BK499.out 4
          have hfz15_5 := Q28 BK499.out 5
          have hfz15_6 := Q28 BK499.out 6
          have hfz15_7 := Q28 BK499.out 7
          have hfz15_8 := Q28 BK499.out 8
          have hfz15_9 := Q28 BK499.out 9
          have hfz15_10 := Q28 BK499.out 10
          have hcz16_0 : wc.cell? ⟨gb500, 0, none⟩ = some (.int .i64 0) := (Q32 BK500.out 0).trans rfl
          have hcz16_1 : wc.cell? ⟨gb500, 1, none⟩ = some (.int .i64 0) := (Q32 BK500.out 1).trans rfl
          have hfz16_0 := Q28 BK500.out 0
          have hfz16_1 := Q28 BK500.out 1
          go_wp2
          refine bodyPost_ret (results_cc rfl _ _ gb499 gb500 26 41 #[.int .i64 0, .int .i64 0, .int .i64 0, .string (⟨#[]⟩ : ByteArray), .bool false, .int .u64 0, .int .u64 0, .int .u64 0, .int .u64 0, .int .i64 0, .int .i64 0] #[.int .i64 0, .int .i64 5] (0, 0) (0, 0) _ _ rfl (by (with_reducible repeat (first | refine Q12 ?_ _ | refine Q24 ?_ | refine Q17 ?_ _)); refine blk_far2 ?_ NB499_500.out; (with_reducible repeat (first | refine Q12 ?_ _ | refine Q24 ?_ | refine Q17 ?_ _)); apply blk_put11; (with_reducible repeat (first | refine Q12 ?_ _ | refine Q24 ?_ | refine Q17 ?_ _)); exact BK499.out) Tryd.underlying26 rfl (by kernel_rfl) rfl (by (with_reducible repeat (first | refine Q12 ?_ _ | refine Q24 ?_ | refine Q17 ?_ _)); apply blk_put2; (with_reducible repeat (first | refine Q12 ?_ _ | refine Q24 ?_ | refine Q17 ?_ _)); refine blk_far11 ?_ NB500_499.out; (with_reducible repeat (first | refine Q12 ?_ _ | refine Q24 ?_ | refine Q17 ?_ _)); exact BK500.out) Tryd.underlying41 rfl (by kernel_rfl)) rfl ?_
          exact ⟨by first | rfl | (simp [Q37, Q35] <;> rfl) | (simp [*, Q37, Q35] <;> rfl), by repeat (first | (with_reducible first | exact HB.out | apply Q19 | apply Q8 | apply Q23 | refine Q26 ?_ GE499.out | refine Q26 ?_ GE500.out) | exact HB.out)⟩
        · replace c13 := Bool.eq_false_iff.mpr c13
          subst c13
          have H1 : ((lexis_blanks.f kj8 a0 a1).bind fun t501 => ((lexis_read.f kj8 a0 t501).bind fun bt502 => (some (bt502.1, bt502.2.1, bt502.2.2.1, bt502.2.2.2.1, bt502.2.2.2.2.1, bt502.2.2.2.2.2.1, bt502.2.2.2.2.2.2.1, bt502.2.2.2.2.2.2.2.1, bt502.2.2.2.2.2.2.2.2.1, bt502.2.2.2.2.2.2.2.2.2.1, bt502.2.2.2.2.2.2.2.2.2.2.1, bt502.2.2.2.2.2.2.2.2.2.2.2.1, bt502.2.2.2.2.2.2.2.2.2.2.2.2)))) = some (r1, r2, r3, r4, r5, r6, r7, r8, r9, r10, r11, r12, r13) := by rw [if_neg (show ¬ (false = true) by decide)] at H; exact H
          clear H
          have H := H1
          clear H1
          replace H := Option.bind_eq_some_iff.mp H
          obtain ⟨t501, A170, H⟩ := H
          replace H : ((lexis_read.f kj8 a0 t501).bind fun bt502 => (some (bt502.1, bt502.2.1, bt502.2.2.1, bt502.2.2.2.1, bt502.2.2.2.2.1, bt502.2.2.2.2.2.1, bt502.2.2.2.2.2.2.1, bt502.2.2.2.2.2.2.2.1, bt502.2.2.2.2.2.2.2.2.1, bt502.2.2.2.2.2.2.2.2.2.1, bt502.2.2.2.2.2.2.2.2.2.2.1, bt502.2.2.2.2.2.2.2.2.2.2.2.1, bt502.2.2.2.2.2.2.2.2.2.2.2.2))) = some (r1, r2, r3, r4, r5, r6, r7, r8, r9, r10, r11, r12, r13) := H
          have A17 := Aside0.mk A170
          clear A170
          replace H := Option.bind_eq_some_iff.mp H
          obtain ⟨⟨t502, t503, t504, t505, t506, t507, t508, t509, t510, t511, t512, t513, t514⟩, A180, H⟩ := H
          replace H : (some (t502, t503, t504, t505, t506, t507, t508, t509, t510, t511, t512, t513, t514)) = some (r1, r2, r3, r4, r5, r6, r7, r8, r9, r10, r11, r12, r13) := H
          have A18 := Aside0.mk A180
          clear A180
          simp only [Option.some.injEq, Prod.mk.injEq] at H
          obtain ⟨rfl, rfl, rfl, rfl, rfl, rfl, rfl, rfl, rfl, rfl, rfl, rfl, rfl⟩ := H
          go_wp2_with (first | ((with_reducible refine Q40 (f := 33) rfl ?_); refine goesL_ (some 24) rfl rfl Tryd.func33 (by kernel_rfl) rfl #[.string a0, .int .i64 a1] rfl (by (try simp only [List.map_toArray, List.map_cons, List.map_nil]); first | done | rfl | (simp only [List.length_drop, List.length_take]; rfl)) ?_; (with_reducible refine (lexis_blanks.calls kj8 a0 a1 t501 _ A17.out).mono ?_); rintro e w' ⟨rfl, ⟨nd, rfl⟩⟩; refine ⟨_, rfl, ?_⟩; (try (rw [drewN_self wc]; generalize hq_ : World.drewN wc _ = wc; have n0_ : Aside0 (wc.heap[gb499]? = some (.cells #[.int .i64 0, .int .i64 0, .int .i64 0, .string (⟨#[]⟩ : ByteArray), .bool false, .int .u64 0, .int .u64 0, .int .u64 0, .int .u64 0, .int .i64 0, .int .i64 0] 26 (0, 0))) := ⟨by rw [← hq_]; exact (by (with_reducible repeat (first | refine Q12 ?_ _ | refine Q24 ?_ | refine Q17 ?_ _)); exact BK499.out)⟩; have n1_ : Aside0 (wc.heap[gb500]? = some (.cells #[.int .i64 0, .int .i64 0] 41 (0, 0))) := ⟨by rw [← hq_]; exact (by (with_reducible repeat (first | refine Q12 ?_ _ | refine Q24 ?_ | refine Q17 ?_ _)); exact BK500.out)⟩; have n2_ : Aside0 (Below w.heap.size w wc) := ⟨by rw [← hq_]; exact (by repeat (first | (with_reducible first | exact HB.out | apply Q19 | apply Q8 | apply Q23 | refine Q26 ?_ GE499.out | refine Q26 ?_ GE500.out) | exact HB.out))⟩; clear BK499 BK500 HB hq_; have BK499 := n0_; have BK500 := n1_; have HB := n2_; clear n0_ n1_ n2_))) | ((with_reducible refine Q40 (f := 32) rfl ?_); refine goesL_ (some 25) rfl rfl Tryd.func32 (by kernel_rfl) rfl #[.string a0, .int .i64 t501] rfl (by (try simp only [List.map_toArray, List.map_cons, List.map_nil]); first | done | rfl | (simp only [List.length_drop, List.length_take]; rfl)) ?_; (with_reducible refine (lexis_read.calls kj8 a0 t501 t502 t503 t504 t505 t506 t507 t508 t509 t510 t511 t512 t513 t514 _ A18.out).mono ?_); rintro e w19 ⟨rfl, hb⟩; refine ⟨_, rfl, ?_⟩; have n0_ := Aside0.mk (Q38 (g := gb499) (o := .cells #[.int .i64 0, .int .i64 0, .int .i64 0, .string (⟨#[]⟩ : ByteArray), .bool false, .int .u64 0, .int .u64 0, .int .u64 0, .int .u64 0, .int .i64 0, .int .i64 0] 26 (0, 0)) (by (with_reducible repeat (first | refine Q12 ?_ _ | refine Q24 ?_ | refine Q17 ?_ _)); exact BK499.out) hb); have n1_ := Aside0.mk (Q38 (g := gb500) (o := .cells #[.int .i64 0, .int .i64 0] 41 (0, 0)) (by (with_reducible repeat (first | refine Q12 ?_ _ | refine Q24 ?_ | refine Q17 ?_ _)); exact BK500.out) hb); have n2_ := Aside0.mk (Q34 (by repeat (first | (with_reducible first | exact HB.out | apply Q19 | apply Q8 | apply Q23 | refine Q26 ?_ GE499.out | refine Q26 ?_ GE500.out) | exact HB.out)) hb); clear BK499; clear BK500; clear HB; have BK499 := n0_; have BK500 := n1_; have HB := n2_; clear n0_ n1_ n2_; (try clear hb); (try clear hb2); (try clear hk); (try clear hi); have hnb20 := NB499_500.out; have hnc20 := NB500_499.out; obtain ⟨hcz21_0, hcz21_1, hcz21_2, hcz21_3, hcz21_4, hcz21_5, hcz21_6, hcz21_7, hcz21_8, hcz21_9, hcz21_10, hfz21_0, hfz21_1, hfz21_2, hfz21_3, hfz21_4, hfz21_5, hfz21_6, hfz21_7, hfz21_8, hfz21_9, hfz21_10⟩ := Q41 BK499.out; obtain ⟨hcz22_0, hcz22_1, hfz22_0, hfz22_1⟩ := blk_cells2 BK500.out))
          refine bodyPost_ret (results_cc rfl _ _ gb499 gb500 26 41 #[.int .i64 t502, .int .i64 t503, .int .i64 t504, .string t505, .bool t506, .int .u64 t507, .int .u64 t508, .int .u64 t509, .int .u64 t510, .int .i64 t511, .int .i64 t512] #[.int .i64 t513, .int .i64 t514] (0, 0) (0, 0) _ _ rfl (by (with_reducible repeat (first | refine Q12 ?_ _ | refine Q24 ?_ | refine Q17 ?_ _)); refine blk_far2 ?_ NB499_500.out; (with_reducible repeat (first | refine Q12 ?_ _ | refine Q24 ?_ | refine Q17 ?_ _)); apply blk_put11; (with_reducible repeat (first | refine Q12 ?_ _ | refine Q24 ?_ | refine Q17 ?_ _)); exact BK499.out) Tryd.underlying26 rfl (by kernel_rfl) rfl (by (with_reducible repeat (first | refine Q12 ?_ _ | refine Q24 ?_ | refine Q17 ?_ _)); apply blk_put2; (with_reducible repeat (first | refine Q12 ?_ _ | refine Q24 ?_ | refine Q17 ?_ _)); refine blk_far11 ?_ NB500_499.out; (with_reducible repeat (first | refine Q12 ?_ _ | refine Q24 ?_ | refine Q17 ?_ _)); exact BK500.out) Tryd.underlying41 rfl (by kernel_rfl)) rfl ?_
          exact ⟨by first | rfl | (simp [Q37, Q35] <;> rfl) | (simp [*, Q37, Q35] <;> rfl), by repeat (first | (with_reducible first | exact HB.out | apply Q19 | apply Q8 | apply Q23 | refine Q26 ?_ GE499.out | refine Q26 ?_ GE500.out) | exact HB.out)⟩
end Go.Proofs.YtldjdcdoegjmoaaDoor.P
