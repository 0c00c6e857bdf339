import Derived.Test.YtldjdcdoegjmoaaZ0
import Derived.Test.YtldjdcdoegjmoaaZ13
import Derived.Test.YtldjdcdoegjmoaaZ19
namespace Go.Proofs.Ytldjdcdoegjmoaa.P
open Go.RowKit Go.Proofs.YtldjdcdoegjmoaaW.PrintWords Go.Proofs.YtldjdcdoegjmoaaW.PrintLast Go.Proofs.YtldjdcdoegjmoaaW.PrintMore
set_option linter.unusedVariables false
set_option linter.unusedSimpArgs false
mutual
def dowelref04_blanks.l0 : Nat → ByteArray → Int → Option (Int)
 | 0, _, _ => none
 | k + 1, x0, x1 => if x1 < (x0.size : Int) then (if 0 ≤ x1 then (if (bt x0 x1) = 32 then (dowelref04_blanks.j1 k x0 x1 (bt x0 x1) ((bt x0 x1) == 32)) else (if (bt x0 x1) = 9 then (dowelref04_blanks.j1 k x0 x1 (bt x0 x1) ((bt x0 x1) == 9)) else (if (bt x0 x1) = 13 then (dowelref04_blanks.j1 k x0 x1 (bt x0 x1) ((bt x0 x1) == 13)) else (dowelref04_blanks.j1 k x0 x1 (bt x0 x1) ((bt x0 x1) == 10))))) else (none)) else (some x1)
def dowelref04_blanks.j1 : Nat → ByteArray → Int → Int → Bool → Option (Int)
 | 0, _, _, _, _ => none
 | k + 1, x0, x1, x11, x13 => if x13 = true then (dowelref04_blanks.l0 k x0 (wrap64 (x1 + 1))) else (if x11 = 35 then (dowelref04_blanks.l1 k x0 x1) else (some x1))
def dowelref04_blanks.l1 : Nat → ByteArray → Int → Option (Int)
 | 0, _, _ => none
 | k + 1, x0, x1 => if x1 < (x0.size : Int) then (if 0 ≤ x1 then (if (bt x0 x1) = 10 then (dowelref04_blanks.l0 k x0 x1) else (dowelref04_blanks.l1 k x0 (wrap64 (x1 + 1)))) else (none)) else (dowelref04_blanks.l0 k x0 x1)
end
def dowelref04_blanks.f (k : Nat) (a0 : ByteArray) (a1 : Int) : Option (Int) := dowelref04_blanks.l0 k a0 a1
set_option maxHeartbeats 8000000 in
set_option maxRecDepth 100000 in
theorem dowelref04_blanks.calls (k : Nat) (a0 : ByteArray) (a1 : Int) (r : Int) (w : World) (h : dowelref04_blanks.f k a0 a1 = some r) :
 Calls Try.prog 25 #[.string a0, .int .i64 a1] w fun e w' => e = .returned (.int .i64 r) ∧ Drawn0 w w' := by
 have H : (dowelref04_blanks.l0 k a0 a1) = some r := h
 clear h; have H' := Aside0.mk H; clear H
 go_enter Try.func25, Try.ntmps25
 go_wp2
 go_loopg [1] k (fun kq v1 w' => ∃ (x1_1 : Int), v1 = .int .i64 x1_1 ∧ Aside0 (dowelref04_blanks.l0 kq a0 x1_1 = some r) ∧ Aside0 (kq ≤ k) ∧ Drawn0 w w')
 case atStart => exact ⟨(a1), (by first | rfl | (simp; done) | (simp [*]; done)), H', ⟨Nat.le_refl _⟩, by repeat (first | exact Drawn0.refl _ | apply Drawn0.step)⟩
 case round =>
  clear H'
  (try clear c2); (try clear p2)
  obtain ⟨x1_1, rfl, HA, HK1, ⟨m1, rfl⟩⟩ := hrel
  cases gk with
  | zero => exact absurd HA.out (by simp [dowelref04_blanks.l0])
  | succ k1 =>
    have H := HA.out; clear HA
    simp only [dowelref04_blanks.l0] at H
    by_cases c3 : x1_1 < (a0.size : Int)
    · rw [if_pos c3] at H
      have c3b0 : decide (x1_1 < (a0.size : Int)) = true := decide_eq_true c3
      clear c3
      by_cases c4 : 0 ≤ x1_1
      · rw [if_pos c4] at H
        have c4b0 : decide (0 ≤ x1_1) = true := decide_eq_true c4
        clear c4; have HC6 := Aside0.mk H; clear H
        have p5 : 0 ≤ (x1_1 : Int) := of_decide_eq_true (by first | (with_reducible assumption) | assumption)
        have q5 : x1_1 < (a0.size : Int) := of_decide_eq_true (by first | (with_reducible assumption) | assumption)
        have hx5 := bt_at a0 x1_1; replace p5 := eq_true p5; replace q5 := eq_true q5
        go_upto_if 13 with (fail)
        go_cut [13] (fun v13 wc => ∃ (kq : Nat) (x13_5 : Bool), v13 = .bool x13_5 ∧ Aside0 (dowelref04_blanks.j1 kq a0 x1_1 (bt a0 x1_1) x13_5 = some r) ∧ Aside0 (kq ≤ k1) ∧ Drawn0 w wc)
        case first =>
         have H := HC6.out; clear HC6
         by_cases c7 : (bt a0 x1_1) = 32
         · rw [if_pos c7] at H
           have c7b0 : ((bt a0 x1_1) == 32) = true := beq_iff_eq.mpr c7
           have c7b1 : ((bt a0 x1_1) != 32) = false := bne_eq_false_iff_eq.mpr c7
           clear c7
           (first | rw [c7b0] | (simp only [i64_w, i32_w]; rw [c7b0]) | skip)
           have H' := Aside0.mk H; clear H
           go_wp2
           go_meet
           case rel => exact ⟨_, (((bt a0 x1_1) == 32)), (by first | rfl | (simp; done) | (simp [*]; done)), H', ⟨by have := HK1.out; first | omega | exact Nat.le_refl _⟩, by repeat (first | exact Drawn0.refl _ | apply Drawn0.step)⟩
         rw [if_neg c7] at H
         have c7b0 : ((bt a0 x1_1) == 32) = false := beq_eq_false_iff_ne.mpr c7
         have c7b1 : ((bt a0 x1_1) != 32) = true := bne_iff_ne.mpr c7
         (first | rw [c7b0] | (simp only [i64_w, i32_w]; rw [c7b0]) | skip)
         by_cases c8 : (bt a0 x1_1) = 9
         · rw [if_pos c8] at H
           have c8b0 : ((bt a0 x1_1) == 9) = true := beq_iff_eq.mpr c8
           have c8b1 : ((bt a0 x1_1) != 9) = false := bne_eq_false_iff_eq.mpr c8
           clear c8; have H' := Aside0.mk H; clear H
           go_wp2
           go_meet
           case rel => exact ⟨_, (((bt a0 x1_1) == 9)), (by first | rfl | (simp; done) | (simp [*]; done)), H', ⟨by have := HK1.out; first | omega | exact Nat.le_refl _⟩, by repeat (first | exact Drawn0.refl _ | apply Drawn0.step)⟩
         rw [if_neg c8] at H
         have c8b0 : ((bt a0 x1_1) == 9) = false := beq_eq_false_iff_ne.mpr c8
         have c8b1 : ((bt a0 x1_1) != 9) = true := bne_iff_ne.mpr c8
         by_cases c9 : (bt a0 x1_1) = 13
         · rw [if_pos c9] at H
           have c9b0 : ((bt a0 x1_1) == 13) = true := beq_iff_eq.mpr c9
           have c9b1 : ((bt a0 x1_1) != 13) = false := bne_eq_false_iff_eq.mpr c9
           clear c9; have H' := Aside0.mk H; clear H
           go_wp2
           go_meet
           case rel => exact ⟨_, (((bt a0 x1_1) == 13)), (by first | rfl | (simp; done) | (simp [*]; done)), H', ⟨by have := HK1.out; first | omega | exact Nat.le_refl _⟩, by repeat (first | exact Drawn0.refl _ | apply Drawn0.step)⟩
         rw [if_neg c9] at H
         have c9b0 : ((bt a0 x1_1) == 13) = false := beq_eq_false_iff_ne.mpr c9
         have c9b1 : ((bt a0 x1_1) != 13) = true := bne_iff_ne.mpr c9
         have H' := Aside0.mk H; clear H
         go_wp2
         go_meet
         case rel => exact ⟨_, (((bt a0 x1_1) == 10)), (by first | rfl | (simp; done) | (simp [*]; done)), H', ⟨by have := HK1.out; first | omega | exact Nat.le_refl _⟩, by repeat (first | exact Drawn0.refl _ | apply Drawn0.step)⟩
        case rest =>
         clear HC6; (try clear c2); (try clear p2); (try clear c3); (try clear c3b0); (try clear c4); (try clear c4b0); (try clear p5); (try clear q5); (try clear hx5); (try clear c7); (try clear c7b0); (try clear c7b1); (try clear c8); (try clear c8b0); (try clear c8b1); (try clear c9); (try clear c9b0); (try clear c9b1); (try clear p2); (try clear p5); (try clear q5)
         obtain ⟨kq, x13_5, rfl, HA, HJ5, ⟨mc5, rfl⟩⟩ := hcut
         cases kq with
         | zero => exact absurd HA.out (by simp [dowelref04_blanks.j1])
         | succ kj5 =>
           have H := HA.out; clear HA
           simp only [dowelref04_blanks.j1] at H
           by_cases c10 : x13_5 = true
           · subst c10
             have H1 : (dowelref04_blanks.l0 kj5 a0 (wrap64 (x1_1 + 1))) = some r := by rw [if_pos rfl] at H; exact H
             clear H; have H := H1; clear H1; have H' := Aside0.mk H; clear H
             go_wp2
             go_roundg kj5
             case measure => have := HK1.out; have := HJ5.out; omega
             case rel => exact ⟨(wrap64 (x1_1 + 1)), (by first | rfl | (simp; done) | (simp [*]; done)), H', ⟨by have := HK1.out; have := HJ5.out; omega⟩, by repeat (first | exact Drawn0.refl _ | apply Drawn0.step)⟩
           replace c10 := Bool.eq_false_iff.mpr c10; subst c10
           have H1 : (if (bt a0 x1_1) = 35 then (dowelref04_blanks.l1 kj5 a0 x1_1) else (some x1_1)) = some r := by rw [if_neg (show ¬ (false = true) by decide)] at H; exact H
           clear H; have H := H1; clear H1
           by_cases c11 : (bt a0 x1_1) = 35
           · rw [if_pos c11] at H
             have c11b0 : ((bt a0 x1_1) == 35) = true := beq_iff_eq.mpr c11
             have c11b1 : ((bt a0 x1_1) != 35) = false := bne_eq_false_iff_eq.mpr c11
             clear c11; have H' := Aside0.mk H; clear H
             go_wp2
             go_loopg [1] kj5 (fun kq v1 w' => ∃ (x1_3 : Int), v1 = .int .i64 x1_3 ∧ Aside0 (dowelref04_blanks.l1 kq a0 x1_3 = some r) ∧ Aside0 (kq ≤ kj5) ∧ Drawn0 w w')
             case atStart => exact ⟨(x1_1), (by first | rfl | (simp; done) | (simp [*]; done)), H', ⟨Nat.le_refl _⟩, by repeat (first | exact Drawn0.refl _ | apply Drawn0.step)⟩
             case round =>
              clear H'
              (try clear c1); (try clear c2); (try clear p2); (try clear c3); (try clear c3b0); (try clear c4); (try clear c4b0); (try clear c5); (try clear p5); (try clear q5); (try clear hx5); (try clear p6); (try clear c7); (try clear c7b0); (try clear c7b1); (try clear c8); (try clear c8b0); (try clear c8b1); (try clear c9); (try clear c9b0); (try clear c9b1); (try clear c10); (try clear c11); (try clear c11b0); (try clear c11b1); (try clear p2); (try clear p5); (try clear q5)
              obtain ⟨x1_3, rfl, HA, HK3, ⟨m3, rfl⟩⟩ := hrel
              cases gk with
              | zero => exact absurd HA.out (by simp [dowelref04_blanks.l1])
              | succ k3 =>
                have H := HA.out; clear HA
                simp only [dowelref04_blanks.l1] at H
                by_cases c12 : x1_3 < (a0.size : Int)
                · rw [if_pos c12] at H
                  have c12b0 : decide (x1_3 < (a0.size : Int)) = true := decide_eq_true c12
                  clear c12
                  by_cases c13 : 0 ≤ x1_3
                  · rw [if_pos c13] at H
                    have c13b0 : decide (0 ≤ x1_3) = true := decide_eq_true c13
                    clear c13
                    by_cases c15 : (bt a0 x1_3) = 10
                    · rw [if_pos c15] at H
                      have c15b0 : ((bt a0 x1_3) == 10) = true := beq_iff_eq.mpr c15
                      have c15b1 : ((bt a0 x1_3) != 10) = false := bne_eq_false_iff_eq.mpr c15
                      clear c15; have H' := Aside0.mk H; clear H
                      have p14 : 0 ≤ (x1_3 : Int) := of_decide_eq_true (by first | (with_reducible assumption) | assumption)
                      have q14 : x1_3 < (a0.size : Int) := of_decide_eq_true (by first | (with_reducible assumption) | assumption)
                      have hx14 := bt_at a0 x1_3; replace p14 := eq_true p14; replace q14 := eq_true q14
                      go_wp2
                      go_roundg k3
                      case measure => have := HK1.out; have := HJ5.out; have := HK3.out; omega
                      case rel => exact ⟨(x1_3), (by first | rfl | (simp; done) | (simp [*]; done)), H', ⟨by have := HK1.out; have := HJ5.out; have := HK3.out; omega⟩, by repeat (first | exact Drawn0.refl _ | apply Drawn0.step)⟩
                    rw [if_neg c15] at H
                    have c15b0 : ((bt a0 x1_3) == 10) = false := beq_eq_false_iff_ne.mpr c15
                    have c15b1 : ((bt a0 x1_3) != 10) = true := bne_iff_ne.mpr c15
                    have H' := Aside0.mk H; clear H
                    have p14 : 0 ≤ (x1_3 : Int) := of_decide_eq_true (by first | (with_reducible assumption) | assumption)
                    have q14 : x1_3 < (a0.size : Int) := of_decide_eq_true (by first | (with_reducible assumption) | assumption)
                    have hx14 := bt_at a0 x1_3; replace p14 := eq_true p14; replace q14 := eq_true q14
                    go_wp2
                    go_roundg k3
                    case measure => have := HK1.out; have := HJ5.out; have := HK3.out; omega
                    case rel => exact ⟨(wrap64 (x1_3 + 1)), (by first | rfl | (simp; done) | (simp [*]; done)), H', ⟨by have := HK1.out; have := HJ5.out; have := HK3.out; omega⟩, by repeat (first | exact Drawn0.refl _ | apply Drawn0.step)⟩
                  rw [if_neg c13] at H
                  exact absurd H (by simp)
                rw [if_neg c12] at H
                have c12b0 : decide (x1_3 < (a0.size : Int)) = false := decide_eq_false c12
                clear c12; have H' := Aside0.mk H; clear H
                go_wp2
                go_roundg k3
                case measure => have := HK1.out; have := HJ5.out; have := HK3.out; omega
                case rel => exact ⟨(x1_3), (by first | rfl | (simp; done) | (simp [*]; done)), H', ⟨by have := HK1.out; have := HJ5.out; have := HK3.out; omega⟩, by repeat (first | exact Drawn0.refl _ | apply Drawn0.step)⟩
           rw [if_neg c11] at H
           have c11b0 : ((bt a0 x1_1) == 35) = false := beq_eq_false_iff_ne.mpr c11
           have c11b1 : ((bt a0 x1_1) != 35) = true := bne_iff_ne.mpr c11
           obtain rfl := Option.some.inj H
           go_wp2
           go_ret
           exact ⟨by first | rfl | (simp; done) | (simp [*]; done), by repeat (first | exact Drawn0.refl _ | apply Drawn0.step)⟩
      rw [if_neg c4] at H
      exact absurd H (by simp)
    rw [if_neg c3] at H
    have c3b0 : decide (x1_1 < (a0.size : Int)) = false := decide_eq_false c3
    clear c3
    obtain rfl := Option.some.inj H
    go_wp2
    go_ret
    exact ⟨by first | rfl | (simp; done) | (simp [*]; done), by repeat (first | exact Drawn0.refl _ | apply Drawn0.step)⟩
def dowelref04_Next.j0 : Nat → ByteArray → Int → Bool → Option (Int × Int × Int × ByteArray × Bool × Int × Int × Int × Int × Int × Int × Int × Int)
 | 0, _, _, _ => none
 | k + 1, x0, x1, x19 => if x19 = true then ((dowelref04_fault.f 0 5).bind fun bt664 => (some (bt664.1, bt664.2.1, bt664.2.2.1, bt664.2.2.2.1, bt664.2.2.2.2.1, bt664.2.2.2.2.2.1, bt664.2.2.2.2.2.2.1, bt664.2.2.2.2.2.2.2.1, bt664.2.2.2.2.2.2.2.2.1, bt664.2.2.2.2.2.2.2.2.2.1, bt664.2.2.2.2.2.2.2.2.2.2.1, bt664.2.2.2.2.2.2.2.2.2.2.2.1, bt664.2.2.2.2.2.2.2.2.2.2.2.2))) else ((dowelref04_blanks.f k x0 x1).bind fun t677 => ((dowelref04_token.f k x0 t677).bind fun bt678 => (some (bt678.1, bt678.2.1, bt678.2.2.1, bt678.2.2.2.1, bt678.2.2.2.2.1, bt678.2.2.2.2.2.1, bt678.2.2.2.2.2.2.1, bt678.2.2.2.2.2.2.2.1, bt678.2.2.2.2.2.2.2.2.1, bt678.2.2.2.2.2.2.2.2.2.1, bt678.2.2.2.2.2.2.2.2.2.2.1, bt678.2.2.2.2.2.2.2.2.2.2.2.1, bt678.2.2.2.2.2.2.2.2.2.2.2.2))))
def dowelref04_Next.f (k : Nat) (a0 : ByteArray) (a1 : Int) : Option (Int × Int × Int × ByteArray × Bool × Int × Int × Int × Int × Int × Int × Int × Int) := if (a0.size : Int) > 65536 then ((dowelref04_fault.f 0 1).bind fun bt651 => (some (bt651.1, bt651.2.1, bt651.2.2.1, bt651.2.2.2.1, bt651.2.2.2.2.1, bt651.2.2.2.2.2.1, bt651.2.2.2.2.2.2.1, bt651.2.2.2.2.2.2.2.1, bt651.2.2.2.2.2.2.2.2.1, bt651.2.2.2.2.2.2.2.2.2.1, bt651.2.2.2.2.2.2.2.2.2.2.1, bt651.2.2.2.2.2.2.2.2.2.2.2.1, bt651.2.2.2.2.2.2.2.2.2.2.2.2))) else (if a1 < 0 then (dowelref04_Next.j0 k a0 a1 true) else (dowelref04_Next.j0 k a0 a1 (decide (a1 > (a0.size : Int)))))
set_option maxHeartbeats 8000000 in
set_option maxRecDepth 100000 in
theorem dowelref04_Next.calls (k : Nat) (a0 : ByteArray) (a1 : Int) (r1 : Int) (r2 : Int) (r3 : Int) (r4 : ByteArray) (r5 : Bool) (r6 : Int) (r7 : Int) (r8 : Int) (r9 : Int) (r10 : Int) (r11 : Int) (r12 : Int) (r13 : Int) (w : World) (h : dowelref04_Next.f k a0 a1 = some (r1, r2, r3, r4, r5, r6, r7, r8, r9, r10, r11, r12, r13)) :
 Calls Try.prog 11 #[.string a0, .int .i64 a1] w fun e w' => e = .returned (.tuple #[.agg #[.int .i64 r1, .int .i64 r2, .int .i64 r3, .string r4, .bool r5, .int .u64 r6, .int .u64 r7, .int .u64 r8, .int .u64 r9, .int .i64 r10, .int .i64 r11], .agg #[.int .i64 r12, .int .i64 r13]]) ∧ Below w.heap.size w w' := by
 have hu28 := Try.underlying28; have hu35 := Try.underlying35; have HB := Aside0.mk (Below.refl w.heap.size w)
 have H : (if (a0.size : Int) > 65536 then ((dowelref04_fault.f 0 1).bind fun bt651 => (some (bt651.1, bt651.2.1, bt651.2.2.1, bt651.2.2.2.1, bt651.2.2.2.2.1, bt651.2.2.2.2.2.1, bt651.2.2.2.2.2.2.1, bt651.2.2.2.2.2.2.2.1, bt651.2.2.2.2.2.2.2.2.1, bt651.2.2.2.2.2.2.2.2.2.1, bt651.2.2.2.2.2.2.2.2.2.2.1, bt651.2.2.2.2.2.2.2.2.2.2.2.1, bt651.2.2.2.2.2.2.2.2.2.2.2.2))) else (if a1 < 0 then (dowelref04_Next.j0 k a0 a1 true) else (dowelref04_Next.j0 k a0 a1 (decide (a1 > (a0.size : Int)))))) = some (r1, r2, r3, r4, r5, r6, r7, r8, r9, r10, r11, r12, r13) := h
 clear h
 by_cases c3 : (a0.size : Int) > 65536
 · rw [if_pos c3] at H
   have c3b0 : decide (65536 < (a0.size : Int)) = true := decide_eq_true c3
   have c3b1 : decide (65536 < a0.size) = true := decide_eq_true (by omega)
   clear c3; replace H := Option.bind_eq_some_iff.mp H
   obtain ⟨⟨t651, t652, t653, t654, t655, t656, t657, t658, t659, t660, t661, t662, t663⟩, A40, H⟩ := H
   replace H : (some (t651, t652, t653, t654, t655, t656, t657, t658, t659, t660, t661, t662, t663)) = some (r1, r2, r3, r4, r5, r6, r7, r8, r9, r10, r11, r12, r13) := H
   have A4 := Aside0.mk A40; clear A40
   simp only [Option.some.injEq, Prod.mk.injEq] at H
   obtain ⟨rfl, rfl, rfl, rfl, rfl, rfl, rfl, rfl, rfl, rfl, rfl, rfl, rfl⟩ := H
   go_enter Try.func11, Try.ntmps11
   go_wp2_with (first | ((with_reducible refine gate_dst (N := 4) rfl ?_); (try (refine gate_guard (by rfl) ?_; dsimp only)); refine Q61 ?hg (N := 4) ?hd (cs := #[.int .i64 0, .int .i64 0, .int .i64 0, .string (⟨#[]⟩ : ByteArray), .bool false, .int .u64 0, .int .u64 0, .int .u64 0, .int .u64 0, .int .i64 0, .int .i64 0]) (t := 28) ?hr ?_; (case hd => rfl); (case hg => rfl); (case hr => first | (go_simp; done) | (go_simp; rfl)); intro gb649 hg w5 hbox hb; have n0_ := Aside0.mk (Q52 (by repeat (first | (with_reducible first | exact HB.out | apply Q46 | apply Q43 | apply Q45) | exact HB.out)) hb); have n1_ := Aside0.mk (hbox); have n2_ := Aside0.mk ((by rw [hg]; exact (Q55 (by repeat (first | (with_reducible first | exact HB.out | apply Q46 | apply Q43 | apply Q45) | exact HB.out))) : w.heap.size ≤ gb649)); have n3_ := n2_; clear HB; have HB := n0_; have BK649 := n1_; have GW649 := n2_; have GE649 := n3_; clear n0_ n1_ n2_ n3_; clear hb hbox hg) | ((with_reducible refine gate_dst (N := 5) rfl ?_); (try (refine gate_guard (by rfl) ?_; dsimp only)); refine Q61 ?hg (N := 5) ?hd (cs := #[.int .i64 0, .int .i64 0]) (t := 35) ?hr ?_; (case hd => rfl); (case hg => rfl); (case hr => first | (go_simp; done) | (go_simp; rfl)); intro gb650 hg w6 hbox hb; have n0_ := Aside0.mk (Q48 (g := gb649) (by (with_reducible repeat (first | apply Q35 | apply Q40 | apply Q37)); exact BK649.out) hb); have n1_ := Aside0.mk (Q52 (by repeat (first | (with_reducible first | exact HB.out | apply Q46 | apply Q43 | apply Q45 | refine Q44 ?_ GE649.out) | exact HB.out)) hb); have n2_ := Aside0.mk (hbox); have n3_ := Aside0.mk ((by rw [hg]; exact (Q55 (by repeat (first | (with_reducible first | exact HB.out | apply Q46 | apply Q43 | apply Q45 | refine Q44 ?_ GE649.out) | exact HB.out))) : w.heap.size ≤ gb650)); have n4_ := n3_; have n5_ := Aside0.mk ((by rw [hg]; exact Nat.ne_of_lt (blk_lt (g := gb649) (by (with_reducible repeat (first | apply Q35 | apply Q40 | apply Q37)); exact BK649.out)) : gb649 ≠ gb650)); have n6_ := Aside0.mk ((by rw [hg]; exact Nat.ne_of_gt (blk_lt (g := gb649) (by (with_reducible repeat (first | apply Q35 | apply Q40 | apply Q37)); exact BK649.out)) : gb650 ≠ gb649)); clear BK649; clear HB; have BK649 := n0_; have HB := n1_; have BK650 := n2_; have GW650 := n3_; have GE650 := n4_; have NB649_650 := n5_; have NB650_649 := n6_; clear n0_ n1_ n2_ n3_ n4_ n5_ n6_; clear hb hbox hg) | ((with_reducible refine Q51 (f := 23) rfl ?_); refine goesL_ (some 9) rfl rfl Try.func23 (by kernel_rfl) rfl #[.int .i64 0, .int .i64 1] rfl (by (try simp only [List.map_toArray, List.map_cons, List.map_nil]); first | done | rfl | (simp only [List.length_drop, List.length_take]; rfl)) ?_; (with_reducible refine (dowelref04_fault.calls 0 1 t651 t652 t653 t654 t655 t656 t657 t658 t659 t660 t661 t662 t663 _ A4.out).mono ?_); rintro e w7 ⟨rfl, hb⟩; refine ⟨_, rfl, ?_⟩; have n0_ := Aside0.mk (Q48 (g := gb649) (by (with_reducible repeat (first | apply Q35 | apply Q40 | apply Q37)); exact BK649.out) hb); have n1_ := Aside0.mk (Q48 (g := gb650) (by (with_reducible repeat (first | apply Q35 | apply Q40 | apply Q37)); exact BK650.out) hb); have n2_ := Aside0.mk (Q52 (by repeat (first | (with_reducible first | exact HB.out | apply Q46 | apply Q43 | apply Q45 | refine Q44 ?_ GE649.out | refine Q44 ?_ GE650.out) | exact HB.out)) hb); clear BK649; clear BK650; clear HB; have BK649 := n0_; have BK650 := n1_; have HB := n2_; clear n0_ n1_ n2_; (try clear hb); (try clear hb2); (try clear hk); (try clear hi); have hnb8 := NB649_650.out; have hnc8 := NB650_649.out; obtain ⟨hcz9_0, hcz9_1, hcz9_2, hcz9_3, hcz9_4, hcz9_5, hcz9_6, hcz9_7, hcz9_8, hcz9_9, hcz9_10, hfz9_0, hfz9_1, hfz9_2, hfz9_3, hfz9_4, hfz9_5, hfz9_6, hfz9_7, hfz9_8, hfz9_9, hfz9_10⟩ := Q54 BK649.out; obtain ⟨hcz10_0, hcz10_1, hfz10_0, hfz10_1⟩ := Q56 BK650.out))
   refine bodyPost_ret (Q58 rfl _ _ gb649 gb650 28 35 #[.int .i64 t651, .int .i64 t652, .int .i64 t653, .string t654, .bool t655, .int .u64 t656, .int .u64 t657, .int .u64 t658, .int .u64 t659, .int .i64 t660, .int .i64 t661] #[.int .i64 t662, .int .i64 t663] (0, 0) (0, 0) _ _ rfl (by (with_reducible repeat (first | apply Q35 | apply Q40 | apply Q37)); refine blk_far2 ?_ NB649_650.out; (with_reducible repeat (first | apply Q35 | apply Q40 | apply Q37)); apply Q62; (with_reducible repeat (first | apply Q35 | apply Q40 | apply Q37)); exact BK649.out) Try.underlying28 rfl (by kernel_rfl) rfl (by (with_reducible repeat (first | apply Q35 | apply Q40 | apply Q37)); apply blk_put2; (with_reducible repeat (first | apply Q35 | apply Q40 | apply Q37)); refine Q59 ?_ NB650_649.out; (with_reducible repeat (first | apply Q35 | apply Q40 | apply Q37)); exact BK650.out) Try.underlying35 rfl (by kernel_rfl)) rfl ?_
   exact ⟨by first | rfl | (simp [Q50, Q49] <;> rfl) | (simp [*, Q50, Q49] <;> rfl), by repeat (first | (with_reducible first | exact HB.out | apply Q46 | apply Q43 | apply Q45 | refine Q44 ?_ GE649.out | refine Q44 ?_ GE650.out) | exact HB.out)⟩
 rw [if_neg c3] at H
 have c3b0 : decide (65536 < (a0.size : Int)) = false := decide_eq_false c3
 have c3b1 : decide (65536 < a0.size) = false := decide_eq_false (by omega)
 clear c3; have HC11 := Aside0.mk H; clear H
 go_enter Try.func11, Try.ntmps11
 go_upto_region 3 with (first | ((with_reducible refine gate_dst (N := 4) rfl ?_); (try (refine gate_guard (by rfl) ?_; dsimp only)); refine Q61 ?hg (N := 4) ?hd (cs := #[.int .i64 0, .int .i64 0, .int .i64 0, .string (⟨#[]⟩ : ByteArray), .bool false, .int .u64 0, .int .u64 0, .int .u64 0, .int .u64 0, .int .i64 0, .int .i64 0]) (t := 28) ?hr ?_; (case hd => rfl); (case hg => rfl); (case hr => first | (go_simp; done) | (go_simp; rfl)); intro gb649 hg w12 hbox hb; have n0_ := Aside0.mk (Q52 (by repeat (first | (with_reducible first | exact HB.out | apply Q46 | apply Q43 | apply Q45) | exact HB.out)) hb); have n1_ := Aside0.mk (hbox); have n2_ := Aside0.mk ((by rw [hg]; exact (Q55 (by repeat (first | (with_reducible first | exact HB.out | apply Q46 | apply Q43 | apply Q45) | exact HB.out))) : w.heap.size ≤ gb649)); have n3_ := n2_; clear HB; have HB := n0_; have BK649 := n1_; have GW649 := n2_; have GE649 := n3_; clear n0_ n1_ n2_ n3_; clear hb hbox hg) | ((with_reducible refine gate_dst (N := 5) rfl ?_); (try (refine gate_guard (by rfl) ?_; dsimp only)); refine Q61 ?hg (N := 5) ?hd (cs := #[.int .i64 0, .int .i64 0]) (t := 35) ?hr ?_; (case hd => rfl); (case hg => rfl); (case hr => first | (go_simp; done) | (go_simp; rfl)); intro gb650 hg w13 hbox hb; have n0_ := Aside0.mk (Q48 (g := gb649) (by (with_reducible repeat (first | apply Q35 | apply Q40 | apply Q37)); exact BK649.out) hb); have n1_ := Aside0.mk (Q52 (by repeat (first | (with_reducible first | exact HB.out | apply Q46 | apply Q43 | apply Q45 | refine Q44 ?_ GE649.out) | exact HB.out)) hb); have n2_ := Aside0.mk (hbox); have n3_ := Aside0.mk ((by rw [hg]; exact (Q55 (by repeat (first | (with_reducible first | exact HB.out | apply Q46 | apply Q43 | apply Q45 | refine Q44 ?_ GE649.out) | exact HB.out))) : w.heap.size ≤ gb650)); have n4_ := n3_; have n5_ := Aside0.mk ((by rw [hg]; exact Nat.ne_of_lt (blk_lt (g := gb649) (by (with_reducible repeat (first | apply Q35 | apply Q40 | apply Q37)); exact BK649.out)) : gb649 ≠ gb650)); have n6_ := Aside0.mk ((by rw [hg]; exact Nat.ne_of_gt (blk_lt (g := gb649) (by (with_reducible repeat (first | apply Q35 | apply Q40 | apply Q37)); exact BK649.out)) : gb650 ≠ gb649)); clear BK649; clear HB; have BK649 := n0_; have HB := n1_; have BK650 := n2_; have GW650 := n3_; have GE650 := n4_; have NB649_650 := n5_; have NB650_649 := n6_; clear n0_ n1_ n2_ n3_ n4_ n5_ n6_; clear hb hbox hg))
 (try simp only [Act.put, List.setIfInBounds_toArray, List.set_cons_zero, List.set_cons_succ])
 go_cut [19] (fun v19 wc => ∃ (kq : Nat) (x19_10 : Bool), v19 = .bool x19_10 ∧ Aside0 (dowelref04_Next.j0 kq a0 a1 x19_10 = some (r1, r2, r3, r4, r5, r6, r7, r8, r9, r10, r11, r12, r13)) ∧ Aside0 (kq ≤ k) ∧ Aside0 (wc.heap[gb649]? = some (.cells #[.int .i64 0, .int .i64 0, .int .i64 0, .string (⟨#[]⟩ : ByteArray), .bool false, .int .u64 0, .int .u64 0, .int .u64 0, .int .u64 0, .int .i64 0, .int .i64 0] 28 (0, 0))) ∧ Aside0 (wc.heap[gb650]? = some (.cells #[.int .i64 0, .int .i64 0] 35 (0, 0))) ∧ Aside0 (Below w.heap.size w wc))
 case first =>
  have H := HC11.out; clear HC11
  by_cases c14 : a1 < 0
  · rw [if_pos c14] at H
    have c14b0 : decide (a1 < 0) = true := decide_eq_true c14
    clear c14
    (first | rw [c14b0] | (simp only [i64_w, i32_w]; rw [c14b0]) | skip)
    have H' := Aside0.mk H; clear H
    go_wp2
    go_meet
    case rel => exact ⟨_, (true), (by first | rfl | (simp; done) | (simp [*]; done)), H', ⟨by first | omega | exact Nat.le_refl _⟩, ⟨by (with_reducible repeat (first | apply Q35 | apply Q40 | apply Q37)); exact BK649.out⟩, ⟨by (with_reducible repeat (first | apply Q35 | apply Q40 | apply Q37)); exact BK650.out⟩, ⟨by repeat (first | (with_reducible first | exact HB.out | apply Q46 | apply Q43 | apply Q45 | refine Q44 ?_ GE649.out | refine Q44 ?_ GE650.out) | exact HB.out)⟩⟩
  rw [if_neg c14] at H
  have c14b0 : decide (a1 < 0) = false := decide_eq_false c14
  clear c14
  (first | rw [c14b0] | (simp only [i64_w, i32_w]; rw [c14b0]) | skip)
  have H' := Aside0.mk H; clear H
  go_wp2
  go_meet
  case rel => exact ⟨_, (decide (a1 > (a0.size : Int))), (by first | rfl | (simp; done) | (simp [*]; done)), H', ⟨by first | omega | exact Nat.le_refl _⟩, ⟨by (with_reducible repeat (first | apply Q35 | apply Q40 | apply Q37)); exact BK649.out⟩, ⟨by (with_reducible repeat (first | apply Q35 | apply Q40 | apply Q37)); exact BK650.out⟩, ⟨by repeat (first | (with_reducible first | exact HB.out | apply Q46 | apply Q43 | apply Q45 | refine Q44 ?_ GE649.out | refine Q44 ?_ GE650.out) | exact HB.out)⟩⟩
 case rest =>
  clear HC11; (try clear c1); (try clear c2); (try clear p2); (try clear c3); (try clear c3b0); (try clear c3b1); (try clear c8); (try clear c11); (try clear c14); (try clear c14b0); (try clear hcz10_0); (try clear hcz10_1); (try clear hcz9_0); (try clear hcz9_1); (try clear hcz9_10); (try clear hcz9_2); (try clear hcz9_3); (try clear hcz9_4); (try clear hcz9_5); (try clear hcz9_6); (try clear hcz9_7); (try clear hcz9_8); (try clear hcz9_9); (try clear hfz10_0); (try clear hfz10_1); (try clear hfz9_0); (try clear hfz9_1); (try clear hfz9_10); (try clear hfz9_2); (try clear hfz9_3); (try clear hfz9_4); (try clear hfz9_5); (try clear hfz9_6); (try clear hfz9_7); (try clear hfz9_8); (try clear hfz9_9)
  obtain ⟨kq, x19_10, rfl, HA, HJ10, BK649, BK650, HB⟩ := hcut
  cases kq with
  | zero => exact absurd HA.out (by simp [dowelref04_Next.j0])
  | succ kj10 =>
    have H := HA.out; clear HA
    simp only [dowelref04_Next.j0] at H
    by_cases c15 : x19_10 = true
    · subst c15
      have H1 : ((dowelref04_fault.f 0 5).bind fun bt664 => (some (bt664.1, bt664.2.1, bt664.2.2.1, bt664.2.2.2.1, bt664.2.2.2.2.1, bt664.2.2.2.2.2.1, bt664.2.2.2.2.2.2.1, bt664.2.2.2.2.2.2.2.1, bt664.2.2.2.2.2.2.2.2.1, bt664.2.2.2.2.2.2.2.2.2.1, bt664.2.2.2.2.2.2.2.2.2.2.1, bt664.2.2.2.2.2.2.2.2.2.2.2.1, bt664.2.2.2.2.2.2.2.2.2.2.2.2))) = some (r1, r2, r3, r4, r5, r6, r7, r8, r9, r10, r11, r12, r13) := by rw [if_pos rfl] at H; exact H
      clear H; have H := H1; clear H1; replace H := Option.bind_eq_some_iff.mp H
      obtain ⟨⟨t664, t665, t666, t667, t668, t669, t670, t671, t672, t673, t674, t675, t676⟩, A160, H⟩ := H
      replace H : (some (t664, t665, t666, t667, t668, t669, t670, t671, t672, t673, t674, t675, t676)) = some (r1, r2, r3, r4, r5, r6, r7, r8, r9, r10, r11, r12, r13) := H
      have A16 := Aside0.mk A160; clear A160
      simp only [Option.some.injEq, Prod.mk.injEq] at H
      obtain ⟨rfl, rfl, rfl, rfl, rfl, rfl, rfl, rfl, rfl, rfl, rfl, rfl, rfl⟩ := H
      go_wp2_with (first | ((with_reducible refine Q51 (f := 23) rfl ?_); refine goesL_ (some 20) rfl rfl Try.func23 (by kernel_rfl) rfl #[.int .i64 0, .int .i64 5] rfl (by (try simp only [List.map_toArray, List.map_cons, List.map_nil]); first | done | rfl | (simp only [List.length_drop, List.length_take]; rfl)) ?_; (with_reducible refine (dowelref04_fault.calls 0 5 t664 t665 t666 t667 t668 t669 t670 t671 t672 t673 t674 t675 t676 _ A16.out).mono ?_); rintro e w17 ⟨rfl, hb⟩; refine ⟨_, rfl, ?_⟩; have n0_ := Aside0.mk (Q48 (g := gb649) (by (with_reducible repeat (first | apply Q35 | apply Q40 | apply Q37)); exact BK649.out) hb); have n1_ := Aside0.mk (Q48 (g := gb650) (by (with_reducible repeat (first | apply Q35 | apply Q40 | apply Q37)); exact BK650.out) hb); have n2_ := Aside0.mk (Q52 (by repeat (first | (with_reducible first | exact HB.out | apply Q46 | apply Q43 | apply Q45 | refine Q44 ?_ GE649.out | refine Q44 ?_ GE650.out) | exact HB.out)) hb); clear BK649; clear BK650; clear HB; have BK649 := n0_; have BK650 := n1_; have HB := n2_; clear n0_ n1_ n2_; (try clear hb); (try clear hb2); (try clear hk); (try clear hi); have hnb18 := NB649_650.out; have hnc18 := NB650_649.out; obtain ⟨hcz19_0, hcz19_1, hcz19_2, hcz19_3, hcz19_4, hcz19_5, hcz19_6, hcz19_7, hcz19_8, hcz19_9, hcz19_10, hfz19_0, hfz19_1, hfz19_2, hfz19_3, hfz19_4, hfz19_5, hfz19_6, hfz19_7, hfz19_8, hfz19_9, hfz19_10⟩ := Q54 BK649.out; obtain ⟨hcz20_0, hcz20_1, hfz20_0, hfz20_1⟩ := Q56 BK650.out))
      refine bodyPost_ret (Q58 rfl _ _ gb649 gb650 28 35 #[.int .i64 t664, .int .i64 t665, .int .i64 t666, .string t667, .bool t668, .int .u64 t669, .int .u64 t670, .int .u64 t671, .int .u64 t672, .int .i64 t673, .int .i64 t674] #[.int .i64 t675, .int .i64 t676] (0, 0) (0, 0) _ _ rfl (by (with_reducible repeat (first | apply Q35 | apply Q40 | apply Q37)); refine blk_far2 ?_ NB649_650.out; (with_reducible repeat (first | apply Q35 | apply Q40 | apply Q37)); apply Q62; (with_reducible repeat (first | apply Q35 | apply Q40 | apply Q37)); exact BK649.out) Try.underlying28 rfl (by kernel_rfl) rfl (by (with_reducible repeat (first | apply Q35 | apply Q40 | apply Q37)); apply blk_put2; (with_reducible repeat (first | apply Q35 | apply Q40 | apply Q37)); refine Q59 ?_ NB650_649.out; (with_reducible repeat (first | apply Q35 | apply Q40 | apply Q37)); exact BK650.out) Try.underlying35 rfl (by kernel_rfl)) rfl ?_
      exact ⟨by first | rfl | (simp [Q50, Q49] <;> rfl) | (simp [*, Q50, Q49] <;> rfl), by repeat (first | (with_reducible first | exact HB.out | apply Q46 | apply Q43 | apply Q45 | refine Q44 ?_ GE649.out | refine Q44 ?_ GE650.out) | exact HB.out)⟩
    replace c15 := Bool.eq_false_iff.mpr c15; subst c15
    have H1 : ((dowelref04_blanks.f kj10 a0 a1).bind fun t677 => ((dowelref04_token.f kj10 a0 t677).bind fun bt678 => (some (bt678.1, bt678.2.1, bt678.2.2.1, bt678.2.2.2.1, bt678.2.2.2.2.1, bt678.2.2.2.2.2.1, bt678.2.2.2.2.2.2.1, bt678.2.2.2.2.2.2.2.1, bt678.2.2.2.2.2.2.2.2.1, bt678.2.2.2.2.2.2.2.2.2.1, bt678.2.2.2.2.2.2.2.2.2.2.1, bt678.2.2.2.2.2.2.2.2.2.2.2.1, bt678.2.2.2.2.2.2.2.2.2.2.2.2)))) = some (r1, r2, r3, r4, r5, r6, r7, r8, r9, r10, r11, r12, r13) := by rw [if_neg (show ¬ (false = true) by decide)] at H; exact H
    clear H; have H := H1; clear H1; replace H := Option.bind_eq_some_iff.mp H
    obtain ⟨t677, A210, H⟩ := H
    replace H : ((dowelref04_token.f kj10 a0 t677).bind fun bt678 => (some (bt678.1, bt678.2.1, bt678.2.2.1, bt678.2.2.2.1, bt678.2.2.2.2.1, bt678.2.2.2.2.2.1, bt678.2.2.2.2.2.2.1, bt678.2.2.2.2.2.2.2.1, bt678.2.2.2.2.2.2.2.2.1, bt678.2.2.2.2.2.2.2.2.2.1, bt678.2.2.2.2.2.2.2.2.2.2.1, bt678.2.2.2.2.2.2.2.2.2.2.2.1, bt678.2.2.2.2.2.2.2.2.2.2.2.2))) = some (r1, r2, r3, r4, r5, r6, r7, r8, r9, r10, r11, r12, r13) := H
    have A21 := Aside0.mk A210; clear A210; replace H := Option.bind_eq_some_iff.mp H
    obtain ⟨⟨t678, t679, t680, t681, t682, t683, t684, t685, t686, t687, t688, t689, t690⟩, A220, H⟩ := H
    replace H : (some (t678, t679, t680, t681, t682, t683, t684, t685, t686, t687, t688, t689, t690)) = some (r1, r2, r3, r4, r5, r6, r7, r8, r9, r10, r11, r12, r13) := H
    have A22 := Aside0.mk A220; clear A220
    simp only [Option.some.injEq, Prod.mk.injEq] at H
    obtain ⟨rfl, rfl, rfl, rfl, rfl, rfl, rfl, rfl, rfl, rfl, rfl, rfl, rfl⟩ := H
    go_wp2_with (first | ((with_reducible refine Q51 (f := 25) rfl ?_); refine goesL_ (some 26) rfl rfl Try.func25 (by kernel_rfl) rfl #[.string a0, .int .i64 a1] rfl (by (try simp only [List.map_toArray, List.map_cons, List.map_nil]); first | done | rfl | (simp only [List.length_drop, List.length_take]; rfl)) ?_; (with_reducible refine (dowelref04_blanks.calls kj10 a0 a1 t677 _ A21.out).mono ?_); rintro e w' ⟨rfl, ⟨nd, rfl⟩⟩; refine ⟨_, rfl, ?_⟩; (try (rw [drewN_self wc]; generalize hq_ : World.drewN wc _ = wc; have n0_ : Aside0 (wc.heap[gb649]? = some (.cells #[.int .i64 0, .int .i64 0, .int .i64 0, .string (⟨#[]⟩ : ByteArray), .bool false, .int .u64 0, .int .u64 0, .int .u64 0, .int .u64 0, .int .i64 0, .int .i64 0] 28 (0, 0))) := ⟨by rw [← hq_]; exact (by (with_reducible repeat (first | apply Q35 | apply Q40 | apply Q37)); exact BK649.out)⟩; have n1_ : Aside0 (wc.heap[gb650]? = some (.cells #[.int .i64 0, .int .i64 0] 35 (0, 0))) := ⟨by rw [← hq_]; exact (by (with_reducible repeat (first | apply Q35 | apply Q40 | apply Q37)); exact BK650.out)⟩; have n2_ : Aside0 (Below w.heap.size w wc) := ⟨by rw [← hq_]; exact (by repeat (first | (with_reducible first | exact HB.out | apply Q46 | apply Q43 | apply Q45 | refine Q44 ?_ GE649.out | refine Q44 ?_ GE650.out) | exact HB.out))⟩; clear BK649 BK650 HB hq_; have BK649 := n0_; have BK650 := n1_; have HB := n2_; clear n0_ n1_ n2_))) | ((with_reducible refine Q51 (f := 24) rfl ?_); refine goesL_ (some 27) rfl rfl Try.func24 (by kernel_rfl) rfl #[.string a0, .int .i64 t677] rfl (by (try simp only [List.map_toArray, List.map_cons, List.map_nil]); first | done | rfl | (simp only [List.length_drop, List.length_take]; rfl)) ?_; (with_reducible refine (dowelref04_token.calls kj10 a0 t677 t678 t679 t680 t681 t682 t683 t684 t685 t686 t687 t688 t689 t690 _ A22.out).mono ?_); rintro e w23 ⟨rfl, hb⟩; refine ⟨_, rfl, ?_⟩; have n0_ := Aside0.mk (Q48 (g := gb649) (by (with_reducible repeat (first | apply Q35 | apply Q40 | apply Q37)); exact BK649.out) hb); have n1_ := Aside0.mk (Q48 (g := gb650) (by (with_reducible repeat (first | apply Q35 | apply Q40 | apply Q37)); exact BK650.out) hb); have n2_ := Aside0.mk (Q52 (by repeat (first | (with_reducible first | exact HB.out | apply Q46 | apply Q43 | apply Q45 | refine Q44 ?_ GE649.out | refine Q44 ?_ GE650.out) | exact HB.out)) hb); clear BK649; clear BK650; clear HB; have BK649 := n0_; have BK650 := n1_; have HB := n2_; clear n0_ n1_ n2_; (try clear hb); (try clear hb2); (try clear hk); (try clear hi); have hnb24 := NB649_650.out; have hnc24 := NB650_649.out; obtain ⟨hcz25_0, hcz25_1, hcz25_2, hcz25_3, hcz25_4, hcz25_5, hcz25_6, hcz25_7, hcz25_8, hcz25_9, hcz25_10, hfz25_0, hfz25_1, hfz25_2, hfz25_3, hfz25_4, hfz25_5, hfz25_6, hfz25_7, hfz25_8, hfz25_9, hfz25_10⟩ := Q54 BK649.out; obtain ⟨hcz26_0, hcz26_1, hfz26_0, hfz26_1⟩ := Q56 BK650.out))
    refine bodyPost_ret (Q58 rfl _ _ gb649 gb650 28 35 #[.int .i64 t678, .int .i64 t679, .int .i64 t680, .string t681, .bool t682, .int .u64 t683, .int .u64 t684, .int .u64 t685, .int .u64 t686, .int .i64 t687, .int .i64 t688] #[.int .i64 t689, .int .i64 t690] (0, 0) (0, 0) _ _ rfl (by (with_reducible repeat (first | apply Q35 | apply Q40 | apply Q37)); refine blk_far2 ?_ NB649_650.out; (with_reducible repeat (first | apply Q35 | apply Q40 | apply Q37)); apply Q62; (with_reducible repeat (first | apply Q35 | apply Q40 | apply Q37)); exact BK649.out) Try.underlying28 rfl (by kernel_rfl) rfl (by (with_reducible repeat (first | apply Q35 | apply Q40 | apply Q37)); apply blk_put2; (with_reducible repeat (first | apply Q35 | apply Q40 | apply Q37)); refine Q59 ?_ NB650_649.out; (with_reducible repeat (first | apply Q35 | apply Q40 | apply Q37)); exact BK650.out) Try.underlying35 rfl (by kernel_rfl)) rfl ?_
    exact ⟨by first | rfl | (simp [Q50, Q49] <;> rfl) | (simp [*, Q50, Q49] <;> rfl), by repeat (first | (with_reducible first | exact HB.out | apply Q46 | apply Q43 | apply Q45 | refine Q44 ?_ GE649.out | refine Q44 ?_ GE650.out) | exact HB.out)⟩
end Go.Proofs.Ytldjdcdoegjmoaa.P
