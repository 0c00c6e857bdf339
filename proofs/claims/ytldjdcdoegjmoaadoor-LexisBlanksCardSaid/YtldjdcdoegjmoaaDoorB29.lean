import Derived.Test.YtldjdcdoegjmoaaDoorB1
import Derived.Test.YtldjdcdoegjmoaaDoorB3
import Derived.Test.YtldjdcdoegjmoaaDoorB16
import Derived.Test.YtldjdcdoegjmoaaDoorB25
import Derived.Test.YtldjdcdoegjmoaaDoorB27
import Derived.Test.YtldjdcdoegjmoaaDoorB28
namespace Go.Proofs.YtldjdcdoegjmoaaDoor.P
open Go.RowKit Go.Proofs.YtldjdcdoegjmoaaDoorW.PrintWords Go.Proofs.YtldjdcdoegjmoaaDoorW.PrintLast Go.Proofs.YtldjdcdoegjmoaaDoorW.PrintMore
set_option linter.unusedVariables false
set_option linter.unusedSimpArgs false
attribute [local go_sem high] eqA41
def dowellaw04_works.f (k : Nat) : Option Bool := some true
theorem dowellaw04_works.calls (k : Nat)  (r : Bool) (w : World) (h : dowellaw04_works.f k  = some r) (ht : TabOk w) :
    Calls Tryd.prog 14 #[] w fun e w' => e = .returned (.bool r) ∧ Below w.heap.size w w' := by
  obtain rfl := Option.some.inj h; exact works_w w ht
mutual
def dowellaw04_blank.l0 : Nat → ByteArray → Int → Option (Bool)
  | 0, _, _ => none
  | k + 1, x0, x3 => if x3 < (x0.size : Int) then (if 0 ≤ x3 then (if (bt x0 x3) = 32 then (dowellaw04_blank.j1 k x0 x3 (bt x0 x3) ((bt x0 x3) == 32)) else (if (bt x0 x3) = 9 then (dowellaw04_blank.j1 k x0 x3 (bt x0 x3) ((bt x0 x3) == 9)) else (if (bt x0 x3) = 13 then (dowellaw04_blank.j1 k x0 x3 (bt x0 x3) ((bt x0 x3) == 13)) else (dowellaw04_blank.j1 k x0 x3 (bt x0 x3) ((bt x0 x3) == 10))))) else (none)) else (some true)
def dowellaw04_blank.j1 : Nat → ByteArray → Int → Int → Bool → Option (Bool)
  | 0, _, _, _, _ => none
  | k + 1, x0, x3, x12, x13 => if x13 = true then (dowellaw04_blank.l0 k x0 (wrap64 (x3 + 1))) else (if x12 = 35 then (dowellaw04_blank.l1 k x0 x3) else (some false))
def dowellaw04_blank.l1 : Nat → ByteArray → Int → Option (Bool)
  | 0, _, _ => none
  | k + 1, x0, x3 => if x3 < (x0.size : Int) then (if 0 ≤ x3 then (if (bt x0 x3) = 10 then (dowellaw04_blank.l0 k x0 (wrap64 (x3 + 1))) else (dowellaw04_blank.l1 k x0 (wrap64 (x3 + 1)))) else (none)) else (dowellaw04_blank.l0 k x0 (wrap64 (x3 + 1)))
end
def dowellaw04_blank.f (k : Nat) (a0 : ByteArray) : Option (Bool) := dowellaw04_blank.l0 k a0 0
set_option maxHeartbeats 8000000 in
set_option maxRecDepth 100000 in
theorem dowellaw04_blank.calls (k : Nat) (a0 : ByteArray) (r : Bool) (w : World) (h : dowellaw04_blank.f k a0 = some r) :
    Calls Tryd.prog 16 #[.string a0] w fun e w' => e = .returned (.bool r) ∧ Drawn0 w w' := by
  have H : (dowellaw04_blank.l0 k a0 0) = some r := h; clear h; have H' := Aside0.mk H; clear H; go_enter Tryd.func16, Tryd.ntmps16; go_wp2
  go_loopg [3] k (fun kq v3 w' => ∃ (x3_1 : Int), v3 = .int .i64 x3_1 ∧ Aside0 (dowellaw04_blank.l0 kq a0 x3_1 = some r) ∧ Aside0 (kq ≤ k) ∧ Drawn0 w w')
  case atStart => exact ⟨(0), zi, H', ⟨Nat.le_refl _⟩, zn⟩
  case round =>
    clear H'; (try clear c1); obtain ⟨x3_1, rfl, HA, HK1, ⟨m1, rfl⟩⟩ := hrel
    cases gk with
    | zero => exact absurd HA.out (by simp [dowellaw04_blank.l0])
    | succ k1 =>
      have H := HA.out; clear HA; simp only [dowellaw04_blank.l0] at H
      by_cases c2 : x3_1 < (a0.size : Int)
      · rw [if_pos c2] at H; have c2b0 : decide (x3_1 < (a0.size : Int)) = true := decide_eq_true c2; clear c2
        by_cases c3 : 0 ≤ x3_1
        · rw [if_pos c3] at H; have c3b0 : decide (0 ≤ x3_1) = true := decide_eq_true c3; clear c3; have HC5 := Aside0.mk H; clear H; have p4 : 0 ≤ (x3_1 : Int) := zd; have q4 : x3_1 < (a0.size : Int) := zd; have hx4 := bt_at a0 x3_1; replace p4 := eq_true p4; replace q4 := eq_true q4
          go_upto_if 13 with (fail)
          go_cut [13] (fun v13 wc => ∃ (kq : Nat) (x13_4 : Bool), v13 = .bool x13_4 ∧ Aside0 (dowellaw04_blank.j1 kq a0 x3_1 (bt a0 x3_1) x13_4 = some r) ∧ Aside0 (kq ≤ k1) ∧ Drawn0 w wc)
          case first =>
            have H := HC5.out; clear HC5
            by_cases c6 : (bt a0 x3_1) = 32
            · rw [if_pos c6] at H; have c6b0 : ((bt a0 x3_1) == 32) = true := beq_iff_eq.mpr c6; have c6b1 : ((bt a0 x3_1) != 32) = false := bne_eq_false_iff_eq.mpr c6; clear c6; (first | rw [c6b0] | (simp only [i64_w, i32_w]; rw [c6b0]) | skip); have H' := Aside0.mk H; clear H; go_wp2; go_meet
              case rel => exact ⟨_, (((bt a0 x3_1) == 32)), zi, H', ⟨by have := HK1.out; first | omega | exact Nat.le_refl _⟩, zn⟩
            · rw [if_neg c6] at H; have c6b0 : ((bt a0 x3_1) == 32) = false := beq_eq_false_iff_ne.mpr c6; have c6b1 : ((bt a0 x3_1) != 32) = true := bne_iff_ne.mpr c6; (first | rw [c6b0] | (simp only [i64_w, i32_w]; rw [c6b0]) | skip)
              by_cases c7 : (bt a0 x3_1) = 9
              · rw [if_pos c7] at H; have c7b0 : ((bt a0 x3_1) == 9) = true := beq_iff_eq.mpr c7; have c7b1 : ((bt a0 x3_1) != 9) = false := bne_eq_false_iff_eq.mpr c7; clear c7; have H' := Aside0.mk H; clear H; go_wp2; go_meet
                case rel => exact ⟨_, (((bt a0 x3_1) == 9)), zi, H', ⟨by have := HK1.out; first | omega | exact Nat.le_refl _⟩, zn⟩
              · rw [if_neg c7] at H; have c7b0 : ((bt a0 x3_1) == 9) = false := beq_eq_false_iff_ne.mpr c7; have c7b1 : ((bt a0 x3_1) != 9) = true := bne_iff_ne.mpr c7
                by_cases c8 : (bt a0 x3_1) = 13
                · rw [if_pos c8] at H; have c8b0 : ((bt a0 x3_1) == 13) = true := beq_iff_eq.mpr c8; have c8b1 : ((bt a0 x3_1) != 13) = false := bne_eq_false_iff_eq.mpr c8; clear c8; have H' := Aside0.mk H; clear H; go_wp2; go_meet
                  case rel => exact ⟨_, (((bt a0 x3_1) == 13)), zi, H', ⟨by have := HK1.out; first | omega | exact Nat.le_refl _⟩, zn⟩
                · rw [if_neg c8] at H; have c8b0 : ((bt a0 x3_1) == 13) = false := beq_eq_false_iff_ne.mpr c8; have c8b1 : ((bt a0 x3_1) != 13) = true := bne_iff_ne.mpr c8; have H' := Aside0.mk H; clear H; go_wp2; go_meet
                  case rel => exact ⟨_, (((bt a0 x3_1) == 10)), zi, H', ⟨by have := HK1.out; first | omega | exact Nat.le_refl _⟩, zn⟩
          case rest =>
            clear HC5; (try clear c1); (try clear c2); (try clear c2b0); (try clear p2); (try clear c3); (try clear c3b0); (try clear p4); (try clear q4); (try clear hx4); (try clear c6); (try clear c6b0); (try clear c6b1); (try clear c7); (try clear c7b0); (try clear c7b1); (try clear c8); (try clear c8b0); (try clear c8b1); (try clear p4); (try clear q4); obtain ⟨kq, x13_4, rfl, HA, HJ4, ⟨mc4, rfl⟩⟩ := hcut
            cases kq with
            | zero => exact absurd HA.out (by simp [dowellaw04_blank.j1])
            | succ kj4 =>
              have H := HA.out; clear HA; simp only [dowellaw04_blank.j1] at H
              by_cases c9 : x13_4 = true
              · subst c9
                have H1 : (dowellaw04_blank.l0 kj4 a0 (wrap64 (x3_1 + 1))) = some r := by rw [if_pos rfl] at H; exact H
                clear H; have H := H1; clear H1; have H' := Aside0.mk H; clear H; go_wp2
                go_roundg kj4
                case measure => have := HK1.out; have := HJ4.out; omega
                case rel => exact ⟨(wrap64 (x3_1 + 1)), zi, H', ⟨by have := HK1.out; have := HJ4.out; omega⟩, zn⟩
              · replace c9 := Bool.eq_false_iff.mpr c9; subst c9
                have H1 : (if (bt a0 x3_1) = 35 then (dowellaw04_blank.l1 kj4 a0 x3_1) else (some false)) = some r := by rw [if_neg (show ¬ (false = true) by decide)] at H; exact H
                clear H; have H := H1; clear H1
                by_cases c10 : (bt a0 x3_1) = 35
                · rw [if_pos c10] at H; have c10b0 : ((bt a0 x3_1) == 35) = true := beq_iff_eq.mpr c10; have c10b1 : ((bt a0 x3_1) != 35) = false := bne_eq_false_iff_eq.mpr c10; clear c10; have H' := Aside0.mk H; clear H; go_wp2
                  go_loopg [3] kj4 (fun kq v3 w' => ∃ (x3_3 : Int), v3 = .int .i64 x3_3 ∧ Aside0 (dowellaw04_blank.l1 kq a0 x3_3 = some r) ∧ Aside0 (kq ≤ kj4) ∧ Drawn0 w w')
                  case atStart => exact ⟨(x3_1), zi, H', ⟨Nat.le_refl _⟩, zn⟩
                  case round =>
                    clear H'; (try clear c1); (try clear c2); (try clear c2b0); (try clear p2); (try clear c3); (try clear c3b0); (try clear c4); (try clear p4); (try clear q4); (try clear hx4); (try clear c6); (try clear c6b0); (try clear c6b1); (try clear p6); (try clear c7); (try clear c7b0); (try clear c7b1); (try clear c8); (try clear c8b0); (try clear c8b1); (try clear c9); (try clear c10); (try clear c10b0); (try clear c10b1); (try clear p2); (try clear p4); (try clear q4); obtain ⟨x3_3, rfl, HA, HK3, ⟨m3, rfl⟩⟩ := hrel
                    cases gk with
                    | zero => exact absurd HA.out (by simp [dowellaw04_blank.l1])
                    | succ k3 =>
                      have H := HA.out; clear HA; simp only [dowellaw04_blank.l1] at H
                      by_cases c11 : x3_3 < (a0.size : Int)
                      · rw [if_pos c11] at H; have c11b0 : decide (x3_3 < (a0.size : Int)) = true := decide_eq_true c11; clear c11
                        by_cases c12 : 0 ≤ x3_3
                        · rw [if_pos c12] at H; have c12b0 : decide (0 ≤ x3_3) = true := decide_eq_true c12; clear c12
                          by_cases c14 : (bt a0 x3_3) = 10
                          · rw [if_pos c14] at H; have c14b0 : ((bt a0 x3_3) == 10) = true := beq_iff_eq.mpr c14; have c14b1 : ((bt a0 x3_3) != 10) = false := bne_eq_false_iff_eq.mpr c14; clear c14; have H' := Aside0.mk H; clear H; have p13 : 0 ≤ (x3_3 : Int) := zd; have q13 : x3_3 < (a0.size : Int) := zd; have hx13 := bt_at a0 x3_3; replace p13 := eq_true p13; replace q13 := eq_true q13; go_wp2
                            go_roundg k3
                            case measure => have := HK1.out; have := HJ4.out; have := HK3.out; omega
                            case rel => exact ⟨(wrap64 (x3_3 + 1)), zi, H', ⟨by have := HK1.out; have := HJ4.out; have := HK3.out; omega⟩, zn⟩
                          · rw [if_neg c14] at H; have c14b0 : ((bt a0 x3_3) == 10) = false := beq_eq_false_iff_ne.mpr c14; have c14b1 : ((bt a0 x3_3) != 10) = true := bne_iff_ne.mpr c14; have H' := Aside0.mk H; clear H; have p13 : 0 ≤ (x3_3 : Int) := zd; have q13 : x3_3 < (a0.size : Int) := zd; have hx13 := bt_at a0 x3_3; replace p13 := eq_true p13; replace q13 := eq_true q13; go_wp2
                            go_roundg k3
                            case measure => have := HK1.out; have := HJ4.out; have := HK3.out; omega
                            case rel => exact ⟨(wrap64 (x3_3 + 1)), zi, H', ⟨by have := HK1.out; have := HJ4.out; have := HK3.out; omega⟩, zn⟩
                        · rw [if_neg c12] at H; exact absurd H (by simp)
                      · rw [if_neg c11] at H; have c11b0 : decide (x3_3 < (a0.size : Int)) = false := decide_eq_false c11; clear c11; have H' := Aside0.mk H; clear H; go_wp2
                        go_roundg k3
                        case measure => have := HK1.out; have := HJ4.out; have := HK3.out; omega
                        case rel => exact ⟨(wrap64 (x3_3 + 1)), zi, H', ⟨by have := HK1.out; have := HJ4.out; have := HK3.out; omega⟩, zn⟩
                · rw [if_neg c10] at H; have c10b0 : ((bt a0 x3_1) == 35) = false := beq_eq_false_iff_ne.mpr c10; have c10b1 : ((bt a0 x3_1) != 35) = true := bne_iff_ne.mpr c10; obtain rfl := Option.some.inj H; go_wp2
                  go_ret
                  exact ⟨zi, zn⟩
        · rw [if_neg c3] at H; exact absurd H (by simp)
      · rw [if_neg c2] at H; have c2b0 : decide (x3_1 < (a0.size : Int)) = false := decide_eq_false c2; clear c2; obtain rfl := Option.some.inj H; go_wp2
        go_ret
        exact ⟨zi, zn⟩
end Go.Proofs.YtldjdcdoegjmoaaDoor.P
