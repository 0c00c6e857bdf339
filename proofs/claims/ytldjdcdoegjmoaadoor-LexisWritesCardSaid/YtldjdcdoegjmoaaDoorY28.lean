import Derived.Test.YtldjdcdoegjmoaaDoorY1
import Derived.Test.YtldjdcdoegjmoaaDoorY5
import Derived.Test.YtldjdcdoegjmoaaDoorY26
import Derived.Test.YtldjdcdoegjmoaaDoorY27
namespace Go.Proofs.YtldjdcdoegjmoaaDoor.P
open Go.RowKit Go.Proofs.YtldjdcdoegjmoaaDoorW.PrintWords Go.Proofs.YtldjdcdoegjmoaaDoorW.PrintLast Go.Proofs.YtldjdcdoegjmoaaDoorW.PrintMore
set_option linter.unusedVariables false
set_option linter.unusedSimpArgs false
mutual
def dowelref04_Write.l0 : Nat → List (S26) → Int → Option (ByteArray × Int)
  | 0, _, _ => none
  | k + 1, x0, x4 => if x4 < (x0.length : Int) then (if 0 ≤ x4 then ((dowelref04_Right.f k ((rd_T26 x0 x4).f0) ((rd_T26 x0 x4).f1) ((rd_T26 x0 x4).f2) ((rd_T26 x0 x4).f3) ((rd_T26 x0 x4).f4) ((rd_T26 x0 x4).f5.f0) ((rd_T26 x0 x4).f5.f1) ((rd_T26 x0 x4).f5.f2) ((rd_T26 x0 x4).f5.f3) ((rd_T26 x0 x4).f6) ((rd_T26 x0 x4).f7)).bind fun t253 => (if t253 = true then (if ((rd_T26 x0 x4).f0) = 0 then (if x4 < (wrap64 ((x0.length : Int) - 1)) then (some ((⟨#[]⟩ : ByteArray), 6)) else (dowelref04_Write.l0 k x0 (wrap64 (x4 + 1)))) else (dowelref04_Write.l0 k x0 (wrap64 (x4 + 1)))) else (some ((⟨#[]⟩ : ByteArray), 6)))) else (none)) else (dowelref04_Write.l1 k x0 ([] : List Int) 0)
def dowelref04_Write.l1 : Nat → List (S26) → List Int → Int → Option (ByteArray × Int)
  | 0, _, _, _ => none
  | k + 1, x0, x5, x6 => if x6 < (x0.length : Int) then (if x6 > 0 then (if 0 ≤ x6 then (dowelref04_Write.j2 k x0 x5 x6 (((rd_T26 x0 x6).f0) != 0)) else (none)) else (dowelref04_Write.j2 k x0 x5 x6 false)) else (some (strOfNums x5, 0))
def dowelref04_Write.j2 : Nat → List (S26) → List Int → Int → Bool → Option (ByteArray × Int)
  | 0, _, _, _, _ => none
  | k + 1, x0, x5, x6, x51 => if x51 = true then (if x5.length < 140737488355328 then (dowelref04_Write.j3 k x0 (x5 ++ [32]) x6) else (none)) else (dowelref04_Write.j3 k x0 x5 x6)
def dowelref04_Write.j3 : Nat → List (S26) → List Int → Int → Option (ByteArray × Int)
  | 0, _, _, _ => none
  | k + 1, x0, x5, x6 => if 0 ≤ x6 then (if x6 < (x0.length : Int) then ((dowelref04_Spell.f k ((rd_T26 x0 x6).f0) ((rd_T26 x0 x6).f1) ((rd_T26 x0 x6).f2) ((rd_T26 x0 x6).f3) ((rd_T26 x0 x6).f4) ((rd_T26 x0 x6).f5.f0) ((rd_T26 x0 x6).f5.f1) ((rd_T26 x0 x6).f5.f2) ((rd_T26 x0 x6).f5.f3) ((rd_T26 x0 x6).f6) ((rd_T26 x0 x6).f7)).bind fun bt260 => (if bt260.2 = 0 then (if x5.length + bt260.1.size < 140737488355328 then ((some (x5 ++ bytesOf bt260.1 : List Int)).bind fun y262 => (if (y262.length : Int) > 65536 then (some ((⟨#[]⟩ : ByteArray), 2)) else (dowelref04_Write.l1 k x0 y262 (wrap64 (x6 + 1))))) else (none)) else (some ((⟨#[]⟩ : ByteArray), bt260.2)))) else (none)) else (none)
end
def dowelref04_Write.f (k : Nat) (l0 : List (S26)) : Option (ByteArray × Int) := dowelref04_Write.l0 k l0 0
set_option maxHeartbeats 8000000 in
set_option maxRecDepth 100000 in
theorem dowelref04_Write.calls (k : Nat) (A0 : Option Addr) (c0 : Nat) (l0 : List (S26)) (r1 : ByteArray) (r2 : Int) (w : World) (hr0 : Kd.C k26 w A0 l0.length l0) (hc0 : l0.length ≤ c0) (h : dowelref04_Write.f k l0 = some (r1, r2)) :
    Calls Tryd.prog 12 #[.slice A0 l0.length c0] w fun e w' => e = .returned (.tuple #[.string r1, .int .i64 r2]) ∧ Below w.heap.size w w' := by
  have hu26 := Tryd.underlying26
  have HR0 := Aside0.mk hr0
  have HC0 := Aside0.mk hc0
  clear hr0 hc0
  have HB := Aside0.mk (Below.refl w.heap.size w)
  have H : (dowelref04_Write.l0 k l0 0) = some (r1, r2) := h
  clear h
  have H' := Aside0.mk H
  clear H
  go_enter Tryd.func12, Tryd.ntmps12
  go_wp2
  go_loopg [4] k (fun kq v4 w' => ∃ (x4_1 : Int), v4 = .int .i64 x4_1 ∧ Aside0 (dowelref04_Write.l0 kq l0 x4_1 = some (r1, r2)) ∧ Aside0 (kq ≤ k) ∧ Aside0 (Below w.heap.size w w'))
  case atStart => exact ⟨(0), (by first | rfl | (simp; done) | (simp [*]; done)), H', ⟨Nat.le_refl _⟩, ⟨by repeat (first | (with_reducible first | exact HB.out | apply Q17 | apply Q11 | apply Q16) | exact HB.out)⟩⟩
  case round =>
    clear H'
    try clear c1
    obtain ⟨x4_1, rfl, HA, HK1, HB⟩ := hrel
    cases gk with
    | zero => exact absurd HA.out (by simp [dowelref04_Write.l0])
    | succ k1 =>
      have H := HA.out
      clear HA
      simp only [dowelref04_Write.l0] at H
      by_cases c2 : x4_1 < (l0.length : Int)
      · rw [if_pos c2] at H
        have c2b0 : decide (x4_1 < (l0.length : Int)) = true := decide_eq_true c2
        clear c2
        by_cases c3 : 0 ≤ x4_1
        · rw [if_pos c3] at H
          have c3b0 : decide (0 ≤ x4_1) = true := decide_eq_true c3
          clear c3
          replace H := Option.bind_eq_some_iff.mp H
          obtain ⟨t253, A40, H⟩ := H
          replace H : (if t253 = true then (if ((rd_T26 l0 x4_1).f0) = 0 then (if x4_1 < (wrap64 ((l0.length : Int) - 1)) then (some ((⟨#[]⟩ : ByteArray), 6)) else (dowelref04_Write.l0 k1 l0 (wrap64 (x4_1 + 1)))) else (dowelref04_Write.l0 k1 l0 (wrap64 (x4_1 + 1)))) else (some ((⟨#[]⟩ : ByteArray), 6))) = some (r1, r2) := H
          have A4 := Aside0.mk A40
          clear A40
          by_cases c5 : t253 = true
          · subst c5
            have H1 : (if ((rd_T26 l0 x4_1).f0) = 0 then (if x4_1 < (wrap64 ((l0.length : Int) - 1)) then (some ((⟨#[]⟩ : ByteArray), 6)) else (dowelref04_Write.l0 k1 l0 (wrap64 (x4_1 + 1)))) else (dowelref04_Write.l0 k1 l0 (wrap64 (x4_1 + 1)))) = some (r1, r2) := by rw [if_pos rfl] at H; exact H
            clear H
            have H := H1
            clear H1
            by_cases c6 : ((rd_T26 l0 x4_1).f0) = 0
            · rw [if_pos c6] at H
              have c6b0 : (((rd_T26 l0 x4_1).f0) == 0) = true := beq_iff_eq.mpr c6
              have c6b1 : (((rd_T26 l0 x4_1).f0) != 0) = false := bne_eq_false_iff_eq.mpr c6
              clear c6
              by_cases c7 : x4_1 < (wrap64 ((l0.length : Int) - 1))
              · rw [if_pos c7] at H
                have c7b0 : decide (x4_1 < (wrap64 ((l0.length : Int) - 1))) = true := decide_eq_true c7
                clear c7
                simp only [Option.some.injEq, Prod.mk.injEq] at H
                obtain ⟨rfl, rfl⟩ := H
                have p252 : 0 ≤ (x4_1 : Int) := of_decide_eq_true (by first | (with_reducible assumption) | assumption)
                have q252 : x4_1 < (l0.length : Int) := of_decide_eq_true (by first | (with_reducible assumption) | assumption)
                obtain ⟨ad252, e252, hx252_0, hx252_1, hx252_2, hx252_3, hx252_4, hx252_5, hx252_6, hx252_7, hx252_8, hx252_9, hx252_10⟩ := at_T26 HR0.out x4_1 p252 q252
                cases e252
                replace hx252_0 := (HB.out.cell (World.block_lt_of_cell? w _ hx252_0)).trans hx252_0
                replace hx252_1 := (HB.out.cell (World.block_lt_of_cell? w _ hx252_1)).trans hx252_1
                replace hx252_2 := (HB.out.cell (World.block_lt_of_cell? w _ hx252_2)).trans hx252_2
                replace hx252_3 := (HB.out.cell (World.block_lt_of_cell? w _ hx252_3)).trans hx252_3
                replace hx252_4 := (HB.out.cell (World.block_lt_of_cell? w _ hx252_4)).trans hx252_4
                replace hx252_5 := (HB.out.cell (World.block_lt_of_cell? w _ hx252_5)).trans hx252_5
                replace hx252_6 := (HB.out.cell (World.block_lt_of_cell? w _ hx252_6)).trans hx252_6
                replace hx252_7 := (HB.out.cell (World.block_lt_of_cell? w _ hx252_7)).trans hx252_7
                replace hx252_8 := (HB.out.cell (World.block_lt_of_cell? w _ hx252_8)).trans hx252_8
                replace hx252_9 := (HB.out.cell (World.block_lt_of_cell? w _ hx252_9)).trans hx252_9
                replace hx252_10 := (HB.out.cell (World.block_lt_of_cell? w _ hx252_10)).trans hx252_10
                replace p252 := eq_true p252
                replace q252 := eq_true q252
                go_wp2_with (first | ((with_reducible refine Q34 (f := 21) rfl ?_); refine goesL_ (some 19) rfl rfl Tryd.func21 (by kernel_rfl) rfl #[.agg #[.int .i64 ((rd_T26 l0 x4_1).f0), .int .i64 ((rd_T26 l0 x4_1).f1), .int .i64 ((rd_T26 l0 x4_1).f2), .string ((rd_T26 l0 x4_1).f3), .bool ((rd_T26 l0 x4_1).f4), .int .u64 ((rd_T26 l0 x4_1).f5.f0), .int .u64 ((rd_T26 l0 x4_1).f5.f1), .int .u64 ((rd_T26 l0 x4_1).f5.f2), .int .u64 ((rd_T26 l0 x4_1).f5.f3), .int .i64 ((rd_T26 l0 x4_1).f6), .int .i64 ((rd_T26 l0 x4_1).f7)]] rfl (by (try simp only [List.map_toArray, List.map_cons, List.map_nil]); first | done | rfl | (simp only [List.length_drop, List.length_take]; rfl)) ?_; (with_reducible refine (dowelref04_Right.calls k1 ((rd_T26 l0 x4_1).f0) ((rd_T26 l0 x4_1).f1) ((rd_T26 l0 x4_1).f2) ((rd_T26 l0 x4_1).f3) ((rd_T26 l0 x4_1).f4) ((rd_T26 l0 x4_1).f5.f0) ((rd_T26 l0 x4_1).f5.f1) ((rd_T26 l0 x4_1).f5.f2) ((rd_T26 l0 x4_1).f5.f3) ((rd_T26 l0 x4_1).f6) ((rd_T26 l0 x4_1).f7) true _ A4.out).mono ?_); rintro e w8 ⟨rfl, hb⟩; refine ⟨_, rfl, ?_⟩; have n0_ := Aside0.mk (Q25 (by repeat (first | (with_reducible first | exact HB.out | apply Q17 | apply Q11 | apply Q16) | exact HB.out)) hb); clear HB; have HB := n0_; clear n0_; (try clear hb); (try clear hb2); (try clear hk); (try clear hi); have p254 : 0 ≤ (x4_1 : Int) := of_decide_eq_true (by first | (with_reducible assumption) | assumption); have q254 : x4_1 < (l0.length : Int) := of_decide_eq_true (by first | (with_reducible assumption) | assumption); obtain ⟨ad254, e254, hx254_0, hx254_1, hx254_2, hx254_3, hx254_4, hx254_5, hx254_6, hx254_7, hx254_8, hx254_9, hx254_10⟩ := at_T26 HR0.out x4_1 p254 q254; obtain rfl : ad252 = ad254 := (by injection e254); replace hx254_0 := (HB.out.cell (World.block_lt_of_cell? w _ hx254_0)).trans hx254_0; replace hx254_1 := (HB.out.cell (World.block_lt_of_cell? w _ hx254_1)).trans hx254_1; replace hx254_2 := (HB.out.cell (World.block_lt_of_cell? w _ hx254_2)).trans hx254_2; replace hx254_3 := (HB.out.cell (World.block_lt_of_cell? w _ hx254_3)).trans hx254_3; replace hx254_4 := (HB.out.cell (World.block_lt_of_cell? w _ hx254_4)).trans hx254_4; replace hx254_5 := (HB.out.cell (World.block_lt_of_cell? w _ hx254_5)).trans hx254_5; replace hx254_6 := (HB.out.cell (World.block_lt_of_cell? w _ hx254_6)).trans hx254_6; replace hx254_7 := (HB.out.cell (World.block_lt_of_cell? w _ hx254_7)).trans hx254_7; replace hx254_8 := (HB.out.cell (World.block_lt_of_cell? w _ hx254_8)).trans hx254_8; replace hx254_9 := (HB.out.cell (World.block_lt_of_cell? w _ hx254_9)).trans hx254_9; replace hx254_10 := (HB.out.cell (World.block_lt_of_cell? w _ hx254_10)).trans hx254_10; replace p254 := eq_true p254; replace q254 := eq_true q254))
                go_ret2
                exact ⟨by first | rfl | (simp [Q31, Q28] <;> rfl) | (simp [*, Q31, Q28] <;> rfl), by repeat (first | (with_reducible first | exact HB.out | apply Q17 | apply Q11 | apply Q16) | exact HB.out)⟩
              · rw [if_neg c7] at H
                have c7b0 : decide (x4_1 < (wrap64 ((l0.length : Int) - 1))) = false := decide_eq_false c7
                clear c7
                have H' := Aside0.mk H
                clear H
                have p252 : 0 ≤ (x4_1 : Int) := of_decide_eq_true (by first | (with_reducible assumption) | assumption)
                have q252 : x4_1 < (l0.length : Int) := of_decide_eq_true (by first | (with_reducible assumption) | assumption)
                obtain ⟨ad252, e252, hx252_0, hx252_1, hx252_2, hx252_3, hx252_4, hx252_5, hx252_6, hx252_7, hx252_8, hx252_9, hx252_10⟩ := at_T26 HR0.out x4_1 p252 q252
                cases e252
                replace hx252_0 := (HB.out.cell (World.block_lt_of_cell? w _ hx252_0)).trans hx252_0
                replace hx252_1 := (HB.out.cell (World.block_lt_of_cell? w _ hx252_1)).trans hx252_1
                replace hx252_2 := (HB.out.cell (World.block_lt_of_cell? w _ hx252_2)).trans hx252_2
                replace hx252_3 := (HB.out.cell (World.block_lt_of_cell? w _ hx252_3)).trans hx252_3
                replace hx252_4 := (HB.out.cell (World.block_lt_of_cell? w _ hx252_4)).trans hx252_4
                replace hx252_5 := (HB.out.cell (World.block_lt_of_cell? w _ hx252_5)).trans hx252_5
                replace hx252_6 := (HB.out.cell (World.block_lt_of_cell? w _ hx252_6)).trans hx252_6
                replace hx252_7 := (HB.out.cell (World.block_lt_of_cell? w _ hx252_7)).trans hx252_7
                replace hx252_8 := (HB.out.cell (World.block_lt_of_cell? w _ hx252_8)).trans hx252_8
                replace hx252_9 := (HB.out.cell (World.block_lt_of_cell? w _ hx252_9)).trans hx252_9
                replace hx252_10 := (HB.out.cell (World.block_lt_of_cell? w _ hx252_10)).trans hx252_10
                replace p252 := eq_true p252
                replace q252 := eq_true q252
                go_wp2_with (first | ((with_reducible refine Q34 (f := 21) rfl ?_); refine goesL_ (some 19) rfl rfl Tryd.func21 (by kernel_rfl) rfl #[.agg #[.int .i64 ((rd_T26 l0 x4_1).f0), .int .i64 ((rd_T26 l0 x4_1).f1), .int .i64 ((rd_T26 l0 x4_1).f2), .string ((rd_T26 l0 x4_1).f3), .bool ((rd_T26 l0 x4_1).f4), .int .u64 ((rd_T26 l0 x4_1).f5.f0), .int .u64 ((rd_T26 l0 x4_1).f5.f1), .int .u64 ((rd_T26 l0 x4_1).f5.f2), .int .u64 ((rd_T26 l0 x4_1).f5.f3), .int .i64 ((rd_T26 l0 x4_1).f6), .int .i64 ((rd_T26 l0 x4_1).f7)]] rfl (by (try simp only [List.map_toArray, List.map_cons, List.map_nil]); first | done | rfl | (simp only [List.length_drop, List.length_take]; rfl)) ?_; (with_reducible refine (dowelref04_Right.calls k1 ((rd_T26 l0 x4_1).f0) ((rd_T26 l0 x4_1).f1) ((rd_T26 l0 x4_1).f2) ((rd_T26 l0 x4_1).f3) ((rd_T26 l0 x4_1).f4) ((rd_T26 l0 x4_1).f5.f0) ((rd_T26 l0 x4_1).f5.f1) ((rd_T26 l0 x4_1).f5.f2) ((rd_T26 l0 x4_1).f5.f3) ((rd_T26 l0 x4_1).f6) ((rd_T26 l0 x4_1).f7) true _ A4.out).mono ?_); rintro e w9 ⟨rfl, hb⟩; refine ⟨_, rfl, ?_⟩; have n0_ := Aside0.mk (Q25 (by repeat (first | (with_reducible first | exact HB.out | apply Q17 | apply Q11 | apply Q16) | exact HB.out)) hb); clear HB; have HB := n0_; clear n0_; (try clear hb); (try clear hb2); (try clear hk); (try clear hi); have p254 : 0 ≤ (x4_1 : Int) := of_decide_eq_true (by first | (with_reducible assumption) | assumption); have q254 : x4_1 < (l0.length : Int) := of_decide_eq_true (by first | (with_reducible assumption) | assumption); obtain ⟨ad254, e254, hx254_0, hx254_1, hx254_2, hx254_3, hx254_4, hx254_5, hx254_6, hx254_7, hx254_8, hx254_9, hx254_10⟩ := at_T26 HR0.out x4_1 p254 q254; obtain rfl : ad252 = ad254 := (by injection e254); replace hx254_0 := (HB.out.cell (World.block_lt_of_cell? w _ hx254_0)).trans hx254_0; replace hx254_1 := (HB.out.cell (World.block_lt_of_cell? w _ hx254_1)).trans hx254_1; replace hx254_2 := (HB.out.cell (World.block_lt_of_cell? w _ hx254_2)).trans hx254_2; replace hx254_3 := (HB.out.cell (World.block_lt_of_cell? w _ hx254_3)).trans hx254_3; replace hx254_4 := (HB.out.cell (World.block_lt_of_cell? w _ hx254_4)).trans hx254_4; replace hx254_5 := (HB.out.cell (World.block_lt_of_cell? w _ hx254_5)).trans hx254_5; replace hx254_6 := (HB.out.cell (World.block_lt_of_cell? w _ hx254_6)).trans hx254_6; replace hx254_7 := (HB.out.cell (World.block_lt_of_cell? w _ hx254_7)).trans hx254_7; replace hx254_8 := (HB.out.cell (World.block_lt_of_cell? w _ hx254_8)).trans hx254_8; replace hx254_9 := (HB.out.cell (World.block_lt_of_cell? w _ hx254_9)).trans hx254_9; replace hx254_10 := (HB.out.cell (World.block_lt_of_cell? w _ hx254_10)).trans hx254_10; replace p254 := eq_true p254; replace q254 := eq_true q254))
                go_roundg k1
                case measure => have := HK1.out; omega
                case rel => exact ⟨(wrap64 (x4_1 + 1)), (by first | rfl | (simp; done) | (simp [*]; done)), H', ⟨by have := HK1.out; omega⟩, ⟨by repeat (first | (with_reducible first | exact HB.out | apply Q17 | apply Q11 | apply Q16) | exact HB.out)⟩⟩
            · rw [if_neg c6] at H
              have c6b0 : (((rd_T26 l0 x4_1).f0) == 0) = false := beq_eq_false_iff_ne.mpr c6
              have c6b1 : (((rd_T26 l0 x4_1).f0) != 0) = true := bne_iff_ne.mpr c6
              have H' := Aside0.mk H
              clear H
              have p252 : 0 ≤ (x4_1 : Int) := of_decide_eq_true (by first | (with_reducible assumption) | assumption)
              have q252 : x4_1 < (l0.length : Int) := of_decide_eq_true (by first | (with_reducible assumption) | assumption)
              obtain ⟨ad252, e252, hx252_0, hx252_1, hx252_2, hx252_3, hx252_4, hx252_5, hx252_6, hx252_7, hx252_8, hx252_9, hx252_10⟩ := at_T26 HR0.out x4_1 p252 q252
              cases e252
              replace hx252_0 := (HB.out.cell (World.block_lt_of_cell? w _ hx252_0)).trans hx252_0
              replace hx252_1 := (HB.out.cell (World.block_lt_of_cell? w _ hx252_1)).trans hx252_1
              replace hx252_2 := (HB.out.cell (World.block_lt_of_cell? w _ hx252_2)).trans hx252_2
              replace hx252_3 := (HB.out.cell (World.block_lt_of_cell? w _ hx252_3)).trans hx252_3
              replace hx252_4 := (HB.out.cell (World.block_lt_of_cell? w _ hx252_4)).trans hx252_4
              replace hx252_5 := (HB.out.cell (World.block_lt_of_cell? w _ hx252_5)).trans hx252_5
              replace hx252_6 := (HB.out.cell (World.block_lt_of_cell? w _ hx252_6)).trans hx252_6
              replace hx252_7 := (HB.out.cell (World.block_lt_of_cell? w _ hx252_7)).trans hx252_7
              replace hx252_8 := (HB.out.cell (World.block_lt_of_cell? w _ hx252_8)).trans hx252_8
              replace hx252_9 := (HB.out.cell (World.block_lt_of_cell? w _ hx252_9)).trans hx252_9
              replace hx252_10 := (HB.out.cell (World.block_lt_of_cell? w _ hx252_10)).trans hx252_10
              replace p252 := eq_true p252
              replace q252 := eq_true q252
              go_wp2_with (first | ((with_reducible refine Q34 (f := 21) rfl ?_); refine goesL_ (some 19) rfl rfl Tryd.func21 (by kernel_rfl) rfl #[.agg #[.int .i64 ((rd_T26 l0 x4_1).f0), .int .i64 ((rd_T26 l0 x4_1).f1), .int .i64 ((rd_T26 l0 x4_1).f2), .string ((rd_T26 l0 x4_1).f3), .bool ((rd_T26 l0 x4_1).f4), .int .u64 ((rd_T26 l0 x4_1).f5.f0), .int .u64 ((rd_T26 l0 x4_1).f5.f1), .int .u64 ((rd_T26 l0 x4_1).f5.f2), .int .u64 ((rd_T26 l0 x4_1).f5.f3), .int .i64 ((rd_T26 l0 x4_1).f6), .int .i64 ((rd_T26 l0 x4_1).f7)]] rfl (by (try simp only [List.map_toArray, List.map_cons, List.map_nil]); first | done | rfl | (simp only [List.length_drop, List.length_take]; rfl)) ?_; (with_reducible refine (dowelref04_Right.calls k1 ((rd_T26 l0 x4_1).f0) ((rd_T26 l0 x4_1).f1) ((rd_T26 l0 x4_1).f2) ((rd_T26 l0 x4_1).f3) ((rd_T26 l0 x4_1).f4) ((rd_T26 l0 x4_1).f5.f0) ((rd_T26 l0 x4_1).f5.f1) ((rd_T26 l0 x4_1).f5.f2) ((rd_T26 l0 x4_1).f5.f3) ((rd_T26 l0 x4_1).f6) ((rd_T26 l0 x4_1).f7) true _ A4.out).mono ?_); rintro e w10 ⟨rfl, hb⟩; refine ⟨_, rfl, ?_⟩; have n0_ := Aside0.mk (Q25 (by repeat (first | (with_reducible first | exact HB.out | apply Q17 | apply Q11 | apply Q16) | exact HB.out)) hb); clear HB; have HB := n0_; clear n0_; (try clear hb); (try clear hb2); (try clear hk); (try clear hi); have p254 : 0 ≤ (x4_1 : Int) := of_decide_eq_true (by first | (with_reducible assumption) | assumption); have q254 : x4_1 < (l0.length : Int) := of_decide_eq_true (by first | (with_reducible assumption) | assumption); obtain ⟨ad254, e254, hx254_0, hx254_1, hx254_2, hx254_3, hx254_4, hx254_5, hx254_6, hx254_7, hx254_8, hx254_9, hx254_10⟩ := at_T26 HR0.out x4_1 p254 q254; obtain rfl : ad252 = ad254 := (by injection e254); replace hx254_0 := (HB.out.cell (World.block_lt_of_cell? w _ hx254_0)).trans hx254_0; replace hx254_1 := (HB.out.cell (World.block_lt_of_cell? w _ hx254_1)).trans hx254_1; replace hx254_2 := (HB.out.cell (World.block_lt_of_cell? w _ hx254_2)).trans hx254_2; replace hx254_3 := (HB.out.cell (World.block_lt_of_cell? w _ hx254_3)).trans hx254_3; replace hx254_4 := (HB.out.cell (World.block_lt_of_cell? w _ hx254_4)).trans hx254_4; replace hx254_5 := (HB.out.cell (World.block_lt_of_cell? w _ hx254_5)).trans hx254_5; replace hx254_6 := (HB.out.cell (World.block_lt_of_cell? w _ hx254_6)).trans hx254_6; replace hx254_7 := (HB.out.cell (World.block_lt_of_cell? w _ hx254_7)).trans hx254_7; replace hx254_8 := (HB.out.cell (World.block_lt_of_cell? w _ hx254_8)).trans hx254_8; replace hx254_9 := (HB.out.cell (World.block_lt_of_cell? w _ hx254_9)).trans hx254_9; replace hx254_10 := (HB.out.cell (World.block_lt_of_cell? w _ hx254_10)).trans hx254_10; replace p254 := eq_true p254; replace q254 := eq_true q254))
              go_roundg k1
              case measure => have := HK1.out; omega
              case rel => exact ⟨(wrap64 (x4_1 + 1)), (by first | rfl | (simp; done) | (simp [*]; done)), H', ⟨by have := HK1.out; omega⟩, ⟨by repeat (first | (with_reducible first | exact HB.out | apply Q17 | apply Q11 | apply Q16) | exact HB.out)⟩⟩
          · replace c5 := Bool.eq_false_iff.mpr c5
            subst c5
            have H1 : (some ((⟨#[]⟩ : ByteArray), 6)) = some (r1, r2) := by rw [if_neg (show ¬ (false = true) by decide)] at H; exact H
            clear H
            have H := H1
            clear H1
            simp only [Option.some.injEq, Prod.mk.injEq] at H
            obtain ⟨rfl, rfl⟩ := H
            have p252 : 0 ≤ (x4_1 : Int) := of_decide_eq_true (by first | (with_reducible assumption) | assumption)
            have q252 : x4_1 < (l0.length : Int) := of_decide_eq_true (by first | (with_reducible assumption) | assumption)
            obtain ⟨ad252, e252, hx252_0, hx252_1, hx252_2, hx252_3, hx252_4, hx252_5, hx252_6, hx252_7, hx252_8, hx252_9, hx252_10⟩ := at_T26 HR0.out x4_1 p252 q252
            cases e252
            replace hx252_0 := (HB.out.cell (World.block_lt_of_cell? w _ hx252_0)).trans hx252_0
            replace hx252_1 := (HB.out.cell (World.block_lt_of_cell? w _ hx252_1)).trans hx252_1
            replace hx252_2 := (HB.out.cell (World.block_lt_of_cell? w _ hx252_2)).trans hx252_2
            replace hx252_3 := (HB.out.cell (World.block_lt_of_cell? w _ hx252_3)).trans hx252_3
            replace hx252_4 := (HB.out.cell (World.block_lt_of_cell? w _ hx252_4)).trans hx252_4
            replace hx252_5 := (HB.out.cell (World.block_lt_of_cell? w _ hx252_5)).trans hx252_5
            replace hx252_6 := (HB.out.cell (World.block_lt_of_cell? w _ hx252_6)).trans hx252_6
            replace hx252_7 := (HB.out.cell (World.block_lt_of_cell? w _ hx252_7)).trans hx252_7
            replace hx252_8 := (HB.out.cell (World.block_lt_of_cell? w _ hx252_8)).trans hx252_8
            replace hx252_9 := (HB.out.cell (World.block_lt_of_cell? w _ hx252_9)).trans hx252_9
            replace hx252_10 := (HB.out.cell (World.block_lt_of_cell? w _ hx252_10)).trans hx252_10
            replace p252 := eq_true p252
            replace q252 := eq_true q252
            go_wp2_with (first | ((with_reducible refine Q34 (f := 21) rfl ?_); refine goesL_ (some 19) rfl rfl Tryd.func21 (by kernel_rfl) rfl #[.agg #[.int .i64 ((rd_T26 l0 x4_1).f0), .int .i64 ((rd_T26 l0 x4_1).f1), .int .i64 ((rd_T26 l0 x4_1).f2), .string ((rd_T26 l0 x4_1).f3), .bool ((rd_T26 l0 x4_1).f4), .int .u64 ((rd_T26 l0 x4_1).f5.f0), .int .u64 ((rd_T26 l0 x4_1).f5.f1), .int .u64 ((rd_T26 l0 x4_1).f5.f2), .int .u64 ((rd_T26 l0 x4_1).f5.f3), .int .i64 ((rd_T26 l0 x4_1).f6), .int .i64 ((rd_T26 l0 x4_1).f7)]] rfl (by (try simp only [List.map_toArray, List.map_cons, List.map_nil]); first | done | rfl | (simp only [List.length_drop, List.length_take]; rfl)) ?_; (with_reducible refine (dowelref04_Right.calls k1 ((rd_T26 l0 x4_1).f0) ((rd_T26 l0 x4_1).f1) ((rd_T26 l0 x4_1).f2) ((rd_T26 l0 x4_1).f3) ((rd_T26 l0 x4_1).f4) ((rd_T26 l0 x4_1).f5.f0) ((rd_T26 l0 x4_1).f5.f1) ((rd_T26 l0 x4_1).f5.f2) ((rd_T26 l0 x4_1).f5.f3) ((rd_T26 l0 x4_1).f6) ((rd_T26 l0 x4_1).f7) false _ A4.out).mono ?_); rintro e w11 ⟨rfl, hb⟩; refine ⟨_, rfl, ?_⟩; have n0_ := Aside0.mk (Q25 (by repeat (first | (with_reducible first | exact HB.out | apply Q17 | apply Q11 | apply Q16) | exact HB.out)) hb); clear HB; have HB := n0_; clear n0_; (try clear hb); (try clear hb2); (try clear hk); (try clear hi)))
            go_ret2
            exact ⟨by first | rfl | (simp [Q31, Q28] <;> rfl) | (simp [*, Q31, Q28] <;> rfl), by repeat (first | (with_reducible first | exact HB.out | apply Q17 | apply Q11 | apply Q16) | exact HB.out)⟩
        · rw [if_neg c3] at H
          exact absurd H (by simp)
      · rw [if_neg c2] at H
        have c2b0 : decide (x4_1 < (l0.length : Int)) = false := decide_eq_false c2
        clear c2
        have H' := Aside0.mk H
        clear H
        go_wp2
        go_loopg [5, 6] k1 (fun kq v5 v6 w' => ∃ (x5_2 : List Int) (x6_2 : Int), v6 = .int .i64 x6_2 ∧ Aside0 (dowelref04_Write.l1 kq l0 x5_2 x6_2 = some (r1, r2)) ∧ Aside0 (kq ≤ k1) ∧ Aside0 (Kd.R (Kd.int .u8) 5 w' w.heap.size (fun _ => True) v5 x5_2) ∧ Aside0 (Below w.heap.size w w'))
        case atStart => exact ⟨(([] : List Int)), (0), (by first | rfl | (simp; done) | (simp [*]; done)), H', ⟨Nat.le_refl _⟩, ⟨by first | exact Kd.R_nil _ _ _ _ _ | exact Kd.N_nil _ _ _ _ _ | exact Kd.V_nil _ _ _ _ _ | exact Kd.Q_nil _ _ _ _ _ | exact Kd.S_nil _ _ _ _ _⟩, ⟨by repeat (first | (with_reducible first | exact HB.out | apply Q17 | apply Q11 | apply Q16) | exact HB.out)⟩⟩
        case round =>
          clear H'
          try clear c1
          try clear c2
          try clear c2b0
          try clear p2
          try clear q2
          try clear hx2
          try clear c3
          try clear c3b0
          try clear c5
          try clear c6
          try clear c6b0
          try clear c6b1
          try clear p6
          try clear c7
          try clear c7b0
          try clear hx252_0
          try clear hx252_1
          try clear hx252_10
          try clear hx252_2
          try clear hx252_3
          try clear hx252_4
          try clear hx252_5
          try clear hx252_6
          try clear hx252_7
          try clear hx252_8
          try clear hx252_9
          try clear hx254_0
          try clear hx254_1
          try clear hx254_10
          try clear hx254_2
          try clear hx254_3
          try clear hx254_4
          try clear hx254_5
          try clear hx254_6
          try clear hx254_7
          try clear hx254_8
          try clear hx254_9
          try clear p252
          try clear p254
          try clear q252
          try clear q254
          obtain ⟨x5_2, x6_2, rfl, HA, HK2, HO_5, HB⟩ := hrel
          cases gk with
          | zero => exact absurd HA.out (by simp [dowelref04_Write.l1])
          | succ k2 =>
            have H := HA.out
            clear HA
            simp only [dowelref04_Write.l1] at H
            by_cases c12 : x6_2 < (l0.length : Int)
            · rw [if_pos c12] at H
              have c12b0 : decide (x6_2 < (l0.length : Int)) = true := decide_eq_true c12
              clear c12
              have HC13 := Aside0.mk H
              clear H
              go_upto_region 10 with (fail)
              go_cut [51] (fun v51 wc => ∃ (kq : Nat) (x51_12 : Bool), v51 = .bool x51_12 ∧ Aside0 (dowelref04_Write.j2 kq l0 x5_2 x6_2 x51_12 = some (r1, r2)) ∧ Aside0 (kq ≤ k2) ∧ Aside0 (Kd.R (Kd.int .u8) 5 wc w.heap.size (fun _ => True) u5 x5_2) ∧ Aside0 (Below w.heap.size w wc))
              case first =>
                have H := HC13.out
                clear HC13
                by_cases c14 : x6_2 > 0
                · rw [if_pos c14] at H
                  have c14b0 : decide (0 < x6_2) = true := decide_eq_true c14
                  clear c14
                  (first | rw [c14b0] | (simp only [i64_w, i32_w]; rw [c14b0]) | skip)
                  by_cases c15 : 0 ≤ x6_2
                  · rw [if_pos c15] at H
                    have c15b0 : decide (0 ≤ x6_2) = true := decide_eq_true c15
                    clear c15
                    have H' := Aside0.mk H
                    clear H
                    have p255 : 0 ≤ (x6_2 : Int) := of_decide_eq_true (by first | (with_reducible assumption) | assumption)
                    have q255 : x6_2 < (l0.length : Int) := of_decide_eq_true (by first | (with_reducible assumption) | assumption)
                    obtain ⟨ad255, e255, hx255_0, hx255_1, hx255_2, hx255_3, hx255_4, hx255_5, hx255_6, hx255_7, hx255_8, hx255_9, hx255_10⟩ := at_T26 HR0.out x6_2 p255 q255
                    cases e255
                    replace hx255_0 := (HB.out.cell (World.block_lt_of_cell? w _ hx255_0)).trans hx255_0
                    replace hx255_1 := (HB.out.cell (World.block_lt_of_cell? w _ hx255_1)).trans hx255_1
                    replace hx255_2 := (HB.out.cell (World.block_lt_of_cell? w _ hx255_2)).trans hx255_2
                    replace hx255_3 := (HB.out.cell (World.block_lt_of_cell? w _ hx255_3)).trans hx255_3
                    replace hx255_4 := (HB.out.cell (World.block_lt_of_cell? w _ hx255_4)).trans hx255_4
                    replace hx255_5 := (HB.out.cell (World.block_lt_of_cell? w _ hx255_5)).trans hx255_5
                    replace hx255_6 := (HB.out.cell (World.block_lt_of_cell? w _ hx255_6)).trans hx255_6
                    replace hx255_7 := (HB.out.cell (World.block_lt_of_cell? w _ hx255_7)).trans hx255_7
                    replace hx255_8 := (HB.out.cell (World.block_lt_of_cell? w _ hx255_8)).trans hx255_8
                    replace hx255_9 := (HB.out.cell (World.block_lt_of_cell? w _ hx255_9)).trans hx255_9
                    replace hx255_10 := (HB.out.cell (World.block_lt_of_cell? w _ hx255_10)).trans hx255_10
                    replace p255 := eq_true p255
                    replace q255 := eq_true q255
                    go_wp2
                    go_meet
                    case rel => exact ⟨_, ((((rd_T26 l0 x6_2).f0) != 0)), (by first | rfl | (simp; done) | (simp [*]; done)), H', ⟨by have := HK1.out; have := HK2.out; first | omega | exact Nat.le_refl _⟩, ⟨by (with_reducible repeat (first | apply Kd.R_alloc | apply Kd.R_drewN | apply Kd.R_drew)); exact HO_5.out⟩, ⟨by repeat (first | (with_reducible first | exact HB.out | apply Q17 | apply Q11 | apply Q16) | exact HB.out)⟩⟩
                  · rw [if_neg c15] at H
                    exact absurd H (by simp)
                · rw [if_neg c14] at H
                  have c14b0 : decide (0 < x6_2) = false := decide_eq_false c14
                  clear c14
                  (first | rw [c14b0] | (simp only [i64_w, i32_w]; rw [c14b0]) | skip)
                  have H' := Aside0.mk H
                  clear H
                  go_wp2
                  go_meet
                  case rel => exact ⟨_, (false), (by first | rfl | (simp; done) | (simp [*]; done)), H', ⟨by have := HK1.out; have := HK2.out; first | omega | exact Nat.le_refl _⟩, ⟨by (with_reducible repeat (first | apply Kd.R_alloc | apply Kd.R_drewN | apply Kd.R_drew)); exact HO_5.out⟩, ⟨by repeat (first | (with_reducible first | exact HB.out | apply Q17 | apply Q11 | apply Q16) | exact HB.out)⟩⟩
              case rest =>
                clear HC13
                try clear c1
                try clear c2
                try clear c2b0
                try clear p2
                try clear q2
                try clear hx2
                try clear c3
                try clear c3b0
                try clear c5
                try clear c6
                try clear c6b0
                try clear c6b1
                try clear p6
                try clear c7
                try clear c7b0
                try clear c12
                try clear c12b0
                try clear c14
                try clear c14b0
                try clear c15
                try clear c15b0
                try clear hx252_0
                try clear hx252_1
                try clear hx252_10
                try clear hx252_2
                try clear hx252_3
                try clear hx252_4
                try clear hx252_5
                try clear hx252_6
                try clear hx252_7
                try clear hx252_8
                try clear hx252_9
                try clear hx254_0
                try clear hx254_1
                try clear hx254_10
                try clear hx254_2
                try clear hx254_3
                try clear hx254_4
                try clear hx254_5
                try clear hx254_6
                try clear hx254_7
                try clear hx254_8
                try clear hx254_9
                try clear hx255_0
                try clear hx255_1
                try clear hx255_10
                try clear hx255_2
                try clear hx255_3
                try clear hx255_4
                try clear hx255_5
                try clear hx255_6
                try clear hx255_7
                try clear hx255_8
                try clear hx255_9
                try clear p2
                try clear p252
                try clear p254
                try clear p255
                try clear p6
                try clear q2
                try clear q252
                try clear q254
                try clear q255
                obtain ⟨kq, x51_12, rfl, HA, HJ12, HO_5, HB⟩ := hcut
                cases kq with
                | zero => exact absurd HA.out (by simp [dowelref04_Write.j2])
                | succ kj12 =>
                  have H := HA.out
                  clear HA
                  simp only [dowelref04_Write.j2] at H
                  have HC16 := Aside0.mk H
                  clear H
                  go_upto_if 51 with (fail)
                  go_cut [5] (fun v5 wc => ∃ (kq : Nat) (x5_15 : List Int), Aside0 (dowelref04_Write.j3 kq l0 x5_15 x6_2 = some (r1, r2)) ∧ Aside0 (kq ≤ kj12) ∧ Aside0 (Kd.R (Kd.int .u8) 5 wc w.heap.size (fun _ => True) v5 x5_15) ∧ Aside0 (Below w.heap.size w wc))
                  case first =>
                    have H := HC16.out
                    clear HC16
                    by_cases c17 : x51_12 = true
                    · subst c17
                      have H1 : (if x5_2.length < 140737488355328 then (dowelref04_Write.j3 kj12 l0 (x5_2 ++ [32]) x6_2) else (none)) = some (r1, r2) := by rw [if_pos rfl] at H; exact H
                      clear H
                      have H := H1
                      clear H1
                      by_cases c18 : x5_2.length < 140737488355328
                      · rw [if_pos c18] at H
                        have LMc18 := Aside0.mk c18
                        clear c18
                        obtain ⟨y256, hy256⟩ : ∃ y_ : List Int, y_ = (x5_2 ++ [32]) := ⟨_, rfl⟩
                        replace H : (dowelref04_Write.j3 kj12 l0 y256 x6_2) = some (r1, r2) := by first | (rw [hy256]; with_reducible exact H) | (have H2_ := (Option.bind_some _ _).symm.trans H; rw [hy256]; with_reducible exact H2_) | (have H2_ := (Option.bind_some _ _).symm.trans H; with_reducible exact H2_) | with_reducible exact H | (rw [hy256]; exact H) | exact H
                        have Ny256 := Aside0.mk hy256
                        clear hy256
                        have H' := Aside0.mk H
                        clear H
                        go_wp2_with (first | ((with_reducible refine gate_builtin (b := .append) (xs := #[.tmp 52, .tmp 53]) rfl ?_); (try (refine gate_guard (by rfl) ?_; dsimp only)); at_builtin; refine Kd.R_append (Kd.int .u8) (w0 := w) w.heap.size rfl (.tmp 52) (.tmp 53) 52 5 (.int .u8 0) 1 rfl Tryd.underlying52 info5 rfl (by decide) (by omega) u5 x5_2 32 [.int .u8 32] (fun _ => True) (fun _ => False) rfl rfl ?aP (fun _ hk => hk.elim) ?aF ?aO ?aB ?aS ?aL ?_; (case aP => exact rfl); (case aB => exact (by repeat (first | (with_reducible first | exact HB.out | apply Q17 | apply Q11 | apply Q16) | exact HB.out))); (case aF => exact (fun _ _ => trivial)); (case aO => exact (by (with_reducible repeat (first | apply Kd.R_alloc | apply Kd.R_drewN | apply Kd.R_drew)); exact HO_5.out)); (case aS => exact (Q27 (by repeat (first | (with_reducible first | exact HB.out | apply Q17 | apply Q11 | apply Q16) | exact HB.out)))); (case aL => have := LMc18.out; omega); intro v257 w19 ho hb hg hat; rw [← Ny256.out] at ho; have n0_ := Aside0.mk (hb); have n1_ := Aside0.mk (ho); clear HB; clear HO_5; have HB := n0_; have HO258 := n1_; clear n0_ n1_; clear ho hb hg hat))
                        go_meet
                        case rel => exact ⟨_, (y256), H', ⟨by have := HK1.out; have := HK2.out; have := HJ12.out; first | omega | exact Nat.le_refl _⟩, ⟨by (with_reducible repeat (first | apply Kd.R_alloc | apply Kd.R_drewN | apply Kd.R_drew)); exact HO258.out⟩, ⟨by repeat (first | (with_reducible first | exact HB.out | apply Q17 | apply Q11 | apply Q16) | exact HB.out)⟩⟩
                      · rw [if_neg c18] at H
                        exact absurd H (by simp)
                    · replace c17 := Bool.eq_false_iff.mpr c17
                      subst c17
                      have H1 : (dowelref04_Write.j3 kj12 l0 x5_2 x6_2) = some (r1, r2) := by rw [if_neg (show ¬ (false = true) by decide)] at H; exact H
                      clear H
                      have H := H1
                      clear H1
                      have H' := Aside0.mk H
                      clear H
                      go_wp2
                      go_meet
                      case rel => exact ⟨_, (x5_2), H', ⟨by have := HK1.out; have := HK2.out; have := HJ12.out; first | omega | exact Nat.le_refl _⟩, ⟨by (with_reducible repeat (first | apply Kd.R_alloc | apply Kd.R_drewN | apply Kd.R_drew)); exact HO_5.out⟩, ⟨by repeat (first | (with_reducible first | exact HB.out | apply Q17 | apply Q11 | apply Q16) | exact HB.out)⟩⟩
                  case rest =>
                    clear HC16
                    try clear c1
                    try clear c2
                    try clear c2b0
                    try clear p2
                    try clear q2
                    try clear hx2
                    try clear c3
                    try clear c3b0
                    try clear c5
                    try clear c6
                    try clear c6b0
                    try clear c6b1
                    try clear p6
                    try clear c7
                    try clear c7b0
                    try clear c12
                    try clear c12b0
                    try clear c14
                    try clear c14b0
                    try clear c15
                    try clear c15b0
                    try clear c17
                    try clear c18
                    try clear hx252_0
                    try clear hx252_1
                    try clear hx252_10
                    try clear hx252_2
                    try clear hx252_3
                    try clear hx252_4
                    try clear hx252_5
                    try clear hx252_6
                    try clear hx252_7
                    try clear hx252_8
                    try clear hx252_9
                    try clear hx254_0
                    try clear hx254_1
                    try clear hx254_10
                    try clear hx254_2
                    try clear hx254_3
                    try clear hx254_4
                    try clear hx254_5
                    try clear hx254_6
                    try clear hx254_7
                    try clear hx254_8
                    try clear hx254_9
                    try clear hx255_0
                    try clear hx255_1
                    try clear hx255_10
                    try clear hx255_2
                    try clear hx255_3
                    try clear hx255_4
                    try clear hx255_5
                    try clear hx255_6
                    try clear hx255_7
                    try clear hx255_8
                    try clear hx255_9
                    try clear p2
                    try clear p252
                    try clear p254
                    try clear p255
                    try clear p6
                    try clear q2
                    try clear q252
                    try clear q254
                    try clear q255
                    obtain ⟨kq, x5_15, HA, HJ15, HO_5, HB⟩ := hcut
                    cases kq with
                    | zero => exact absurd HA.out (by simp [dowelref04_Write.j3])
                    | succ kj15 =>
                      have H := HA.out
                      clear HA
                      simp only [dowelref04_Write.j3] at H
                      by_cases c20 : 0 ≤ x6_2
                      · rw [if_pos c20] at H
                        have c20b0 : decide (0 ≤ x6_2) = true := decide_eq_true c20
                        clear c20
                        by_cases c21 : x6_2 < (l0.length : Int)
                        · rw [if_pos c21] at H
                          have c21b0 : decide (x6_2 < (l0.length : Int)) = true := decide_eq_true c21
                          clear c21
                          replace H := Option.bind_eq_some_iff.mp H
                          obtain ⟨⟨t260, t261⟩, A220, H⟩ := H
                          replace H : (if t261 = 0 then (if x5_15.length + t260.size < 140737488355328 then ((some (x5_15 ++ bytesOf t260 : List Int)).bind fun y262 => (if (y262.length : Int) > 65536 then (some ((⟨#[]⟩ : ByteArray), 2)) else (dowelref04_Write.l1 kj15 l0 y262 (wrap64 (x6_2 + 1))))) else (none)) else (some ((⟨#[]⟩ : ByteArray), t261))) = some (r1, r2) := H
                          have A22 := Aside0.mk A220
                          clear A220
                          by_cases c23 : t261 = 0
                          · rw [if_pos c23] at H
                            have c23b0 : (t261 == 0) = true := beq_iff_eq.mpr c23
                            have c23b1 : (t261 != 0) = false := bne_eq_false_iff_eq.mpr c23
                            clear c23
                            by_cases c24 : x5_15.length + t260.size < 140737488355328
                            · rw [if_pos c24] at H
                              have LMc24 := Aside0.mk c24
                              clear c24
                              obtain ⟨y262, hy262⟩ : ∃ y_ : List Int, y_ = (x5_15 ++ bytesOf t260) := ⟨_, rfl⟩
                              replace H : (if (y262.length : Int) > 65536 then (some ((⟨#[]⟩ : ByteArray), 2)) else (dowelref04_Write.l1 kj15 l0 y262 (wrap64 (x6_2 + 1)))) = some (r1, r2) := by first | (rw [hy262]; with_reducible exact H) | (have H2_ := (Option.bind_some _ _).symm.trans H; rw [hy262]; with_reducible exact H2_) | (have H2_ := (Option.bind_some _ _).symm.trans H; with_reducible exact H2_) | with_reducible exact H | (rw [hy262]; exact H) | exact H
                              have Ny262 := Aside0.mk hy262
                              clear hy262
                              by_cases c25 : (y262.length : Int) > 65536
                              · rw [if_pos c25] at H
                                have c25b0 : decide (65536 < (y262.length : Int)) = true := decide_eq_true c25
                                have c25b1 : decide (65536 < y262.length) = true := decide_eq_true (by omega)
                                clear c25
                                simp only [Option.some.injEq, Prod.mk.injEq] at H
                                obtain ⟨rfl, rfl⟩ := H
                                have p259 : 0 ≤ (x6_2 : Int) := of_decide_eq_true (by first | (with_reducible assumption) | assumption)
                                have q259 : x6_2 < (l0.length : Int) := of_decide_eq_true (by first | (with_reducible assumption) | assumption)
                                obtain ⟨ad259, e259, hx259_0, hx259_1, hx259_2, hx259_3, hx259_4, hx259_5, hx259_6, hx259_7, hx259_8, hx259_9, hx259_10⟩ := at_T26 HR0.out x6_2 p259 q259
                                cases e259
                                replace hx259_0 := (HB.out.cell (World.block_lt_of_cell? w _ hx259_0)).trans hx259_0
                                replace hx259_1 := (HB.out.cell (World.block_lt_of_cell? w _ hx259_1)).trans hx259_1
                                replace hx259_2 := (HB.out.cell (World.block_lt_of_cell? w _ hx259_2)).trans hx259_2
                                replace hx259_3 := (HB.out.cell (World.block_lt_of_cell? w _ hx259_3)).trans hx259_3
                                replace hx259_4 := (HB.out.cell (World.block_lt_of_cell? w _ hx259_4)).trans hx259_4
                                replace hx259_5 := (HB.out.cell (World.block_lt_of_cell? w _ hx259_5)).trans hx259_5
                                replace hx259_6 := (HB.out.cell (World.block_lt_of_cell? w _ hx259_6)).trans hx259_6
                                replace hx259_7 := (HB.out.cell (World.block_lt_of_cell? w _ hx259_7)).trans hx259_7
                                replace hx259_8 := (HB.out.cell (World.block_lt_of_cell? w _ hx259_8)).trans hx259_8
                                replace hx259_9 := (HB.out.cell (World.block_lt_of_cell? w _ hx259_9)).trans hx259_9
                                replace hx259_10 := (HB.out.cell (World.block_lt_of_cell? w _ hx259_10)).trans hx259_10
                                replace p259 := eq_true p259
                                replace q259 := eq_true q259
                                go_wp2_with (first | ((with_reducible refine Q34 (f := 9) rfl ?_); refine goesL_ (some 60) rfl rfl Tryd.func9 (by kernel_rfl) rfl #[.agg #[.int .i64 ((rd_T26 l0 x6_2).f0), .int .i64 ((rd_T26 l0 x6_2).f1), .int .i64 ((rd_T26 l0 x6_2).f2), .string ((rd_T26 l0 x6_2).f3), .bool ((rd_T26 l0 x6_2).f4), .int .u64 ((rd_T26 l0 x6_2).f5.f0), .int .u64 ((rd_T26 l0 x6_2).f5.f1), .int .u64 ((rd_T26 l0 x6_2).f5.f2), .int .u64 ((rd_T26 l0 x6_2).f5.f3), .int .i64 ((rd_T26 l0 x6_2).f6), .int .i64 ((rd_T26 l0 x6_2).f7)]] rfl (by (try simp only [List.map_toArray, List.map_cons, List.map_nil]); first | done | rfl | (simp only [List.length_drop, List.length_take]; rfl)) ?_; (with_reducible refine (dowelref04_Spell.calls kj15 ((rd_T26 l0 x6_2).f0) ((rd_T26 l0 x6_2).f1) ((rd_T26 l0 x6_2).f2) ((rd_T26 l0 x6_2).f3) ((rd_T26 l0 x6_2).f4) ((rd_T26 l0 x6_2).f5.f0) ((rd_T26 l0 x6_2).f5.f1) ((rd_T26 l0 x6_2).f5.f2) ((rd_T26 l0 x6_2).f5.f3) ((rd_T26 l0 x6_2).f6) ((rd_T26 l0 x6_2).f7) t260 t261 _ A22.out).mono ?_); rintro e w26 ⟨rfl, hb⟩; refine ⟨_, rfl, ?_⟩; have n0_ := Aside0.mk (Kd.R_below (by (with_reducible repeat (first | apply Kd.R_alloc | apply Kd.R_drewN | apply Kd.R_drew)); exact HO_5.out) hb); have n1_ := Aside0.mk (Q25 (by repeat (first | (with_reducible first | exact HB.out | apply Q17 | apply Q11 | apply Q16) | exact HB.out)) hb); clear HO_5; clear HB; have HO_5 := n0_; have HB := n1_; clear n0_ n1_; (try clear hb); (try clear hb2); (try clear hk); (try clear hi)) | (at_builtin; refine print_append_str (w0 := w) w.heap.size rfl (.tmp 66) _ 52 9 5 rfl Tryd.underlying52 Tryd.underlying9 info5 u5 x5_15 t260 rfl rfl ?aO ?aB ?aS ?aL ?_; (case aB => exact (by repeat (first | (with_reducible first | exact HB.out | apply Q17 | apply Q11 | apply Q16) | exact HB.out))); (case aO => exact (Kd.own_of_R (by (with_reducible repeat (first | apply Kd.R_alloc | apply Kd.R_drewN | apply Kd.R_drew)); exact HO_5.out))); (case aS => exact (Q27 (by repeat (first | (with_reducible first | exact HB.out | apply Q17 | apply Q11 | apply Q16) | exact HB.out)))); (case aL => have := LMc24.out; omega); intro v263 w27 ho0 hb hg; have ho := Kd.R_of_own (h1 := fun _ => rfl) (ok := fun _ => True) ho0 (fun _ _ => trivial); clear ho0; have hat := True.intro; rw [← Ny262.out] at ho; change Kd.R (Kd.int .u8) 5 w27 w.heap.size (fun _ => True) v263 y262 at ho; have n0_ := Aside0.mk (hb); have n1_ := Aside0.mk (ho); clear HB; clear HO_5; have HB := n0_; have HO264 := n1_; clear n0_ n1_; clear ho hb hg hat; obtain ⟨Ao28, co28, eo28⟩ := Kd.R_slice HO264.out; subst eo28))
                                go_ret2
                                exact ⟨by first | rfl | (simp [Q31, Q28] <;> rfl) | (simp [*, Q31, Q28] <;> rfl), by repeat (first | (with_reducible first | exact HB.out | apply Q17 | apply Q11 | apply Q16) | exact HB.out)⟩
                              · rw [if_neg c25] at H
                                have c25b0 : decide (65536 < (y262.length : Int)) = false := decide_eq_false c25
                                have c25b1 : decide (65536 < y262.length) = false := decide_eq_false (by omega)
                                clear c25
                                have H' := Aside0.mk H
                                clear H
                                have p259 : 0 ≤ (x6_2 : Int) := of_decide_eq_true (by first | (with_reducible assumption) | assumption)
                                have q259 : x6_2 < (l0.length : Int) := of_decide_eq_true (by first | (with_reducible assumption) | assumption)
                                obtain ⟨ad259, e259, hx259_0, hx259_1, hx259_2, hx259_3, hx259_4, hx259_5, hx259_6, hx259_7, hx259_8, hx259_9, hx259_10⟩ := at_T26 HR0.out x6_2 p259 q259
                                cases e259
                                replace hx259_0 := (HB.out.cell (World.block_lt_of_cell? w _ hx259_0)).trans hx259_0
                                replace hx259_1 := (HB.out.cell (World.block_lt_of_cell? w _ hx259_1)).trans hx259_1
                                replace hx259_2 := (HB.out.cell (World.block_lt_of_cell? w _ hx259_2)).trans hx259_2
                                replace hx259_3 := (HB.out.cell (World.block_lt_of_cell? w _ hx259_3)).trans hx259_3
                                replace hx259_4 := (HB.out.cell (World.block_lt_of_cell? w _ hx259_4)).trans hx259_4
                                replace hx259_5 := (HB.out.cell (World.block_lt_of_cell? w _ hx259_5)).trans hx259_5
                                replace hx259_6 := (HB.out.cell (World.block_lt_of_cell? w _ hx259_6)).trans hx259_6
                                replace hx259_7 := (HB.out.cell (World.block_lt_of_cell? w _ hx259_7)).trans hx259_7
                                replace hx259_8 := (HB.out.cell (World.block_lt_of_cell? w _ hx259_8)).trans hx259_8
                                replace hx259_9 := (HB.out.cell (World.block_lt_of_cell? w _ hx259_9)).trans hx259_9
                                replace hx259_10 := (HB.out.cell (World.block_lt_of_cell? w _ hx259_10)).trans hx259_10
                                replace p259 := eq_true p259
                                replace q259 := eq_true q259
                                go_wp2_with (first | ((with_reducible refine Q34 (f := 9) rfl ?_); refine goesL_ (some 60) rfl rfl Tryd.func9 (by kernel_rfl) rfl #[.agg #[.int .i64 ((rd_T26 l0 x6_2).f0), .int .i64 ((rd_T26 l0 x6_2).f1), .int .i64 ((rd_T26 l0 x6_2).f2), .string ((rd_T26 l0 x6_2).f3), .bool ((rd_T26 l0 x6_2).f4), .int .u64 ((rd_T26 l0 x6_2).f5.f0), .int .u64 ((rd_T26 l0 x6_2).f5.f1), .int .u64 ((rd_T26 l0 x6_2).f5.f2), .int .u64 ((rd_T26 l0 x6_2).f5.f3), .int .i64 ((rd_T26 l0 x6_2).f6), .int .i64 ((rd_T26 l0 x6_2).f7)]] rfl (by (try simp only [List.map_toArray, List.map_cons, List.map_nil]); first | done | rfl | (simp only [List.length_drop, List.length_take]; rfl)) ?_; (with_reducible refine (dowelref04_Spell.calls kj15 ((rd_T26 l0 x6_2).f0) ((rd_T26 l0 x6_2).f1) ((rd_T26 l0 x6_2).f2) ((rd_T26 l0 x6_2).f3) ((rd_T26 l0 x6_2).f4) ((rd_T26 l0 x6_2).f5.f0) ((rd_T26 l0 x6_2).f5.f1) ((rd_T26 l0 x6_2).f5.f2) ((rd_T26 l0 x6_2).f5.f3) ((rd_T26 l0 x6_2).f6) ((rd_T26 l0 x6_2).f7) t260 t261 _ A22.out).mono ?_); rintro e w29 ⟨rfl, hb⟩; refine ⟨_, rfl, ?_⟩; have n0_ := Aside0.mk (Kd.R_below (by (with_reducible repeat (first | apply Kd.R_alloc | apply Kd.R_drewN | apply Kd.R_drew)); exact HO_5.out) hb); have n1_ := Aside0.mk (Q25 (by repeat (first | (with_reducible first | exact HB.out | apply Q17 | apply Q11 | apply Q16) | exact HB.out)) hb); clear HO_5; clear HB; have HO_5 := n0_; have HB := n1_; clear n0_ n1_; (try clear hb); (try clear hb2); (try clear hk); (try clear hi)) | (at_builtin; refine print_append_str (w0 := w) w.heap.size rfl (.tmp 66) _ 52 9 5 rfl Tryd.underlying52 Tryd.underlying9 info5 u5 x5_15 t260 rfl rfl ?aO ?aB ?aS ?aL ?_; (case aB => exact (by repeat (first | (with_reducible first | exact HB.out | apply Q17 | apply Q11 | apply Q16) | exact HB.out))); (case aO => exact (Kd.own_of_R (by (with_reducible repeat (first | apply Kd.R_alloc | apply Kd.R_drewN | apply Kd.R_drew)); exact HO_5.out))); (case aS => exact (Q27 (by repeat (first | (with_reducible first | exact HB.out | apply Q17 | apply Q11 | apply Q16) | exact HB.out)))); (case aL => have := LMc24.out; omega); intro v263 w30 ho0 hb hg; have ho := Kd.R_of_own (h1 := fun _ => rfl) (ok := fun _ => True) ho0 (fun _ _ => trivial); clear ho0; have hat := True.intro; rw [← Ny262.out] at ho; change Kd.R (Kd.int .u8) 5 w30 w.heap.size (fun _ => True) v263 y262 at ho; have n0_ := Aside0.mk (hb); have n1_ := Aside0.mk (ho); clear HB; clear HO_5; have HB := n0_; have HO264 := n1_; clear n0_ n1_; clear ho hb hg hat; obtain ⟨Ao31, co31, eo31⟩ := Kd.R_slice HO264.out; subst eo31))
                                go_roundg kj15
                                case measure => have := HK1.out; have := HK2.out; have := HJ12.out; have := HJ15.out; omega
                                case rel => exact ⟨(y262), (wrap64 (x6_2 + 1)), (by first | rfl | (simp; done) | (simp [*]; done)), H', ⟨by have := HK1.out; have := HK2.out; have := HJ12.out; have := HJ15.out; omega⟩, ⟨by (with_reducible repeat (first | apply Kd.R_alloc | apply Kd.R_drewN | apply Kd.R_drew)); exact HO264.out⟩, ⟨by repeat (first | (with_reducible first | exact HB.out | apply Q17 | apply Q11 | apply Q16) | exact HB.out)⟩⟩
                            · rw [if_neg c24] at H
                              exact absurd H (by simp)
                          · rw [if_neg c23] at H
                            have c23b0 : (t261 == 0) = false := beq_eq_false_iff_ne.mpr c23
                            have c23b1 : (t261 != 0) = true := bne_iff_ne.mpr c23
                            simp only [Option.some.injEq, Prod.mk.injEq] at H
                            obtain ⟨rfl, rfl⟩ := H
                            have p259 : 0 ≤ (x6_2 : Int) := of_decide_eq_true (by first | (with_reducible assumption) | assumption)
                            have q259 : x6_2 < (l0.length : Int) := of_decide_eq_true (by first | (with_reducible assumption) | assumption)
                            obtain ⟨ad259, e259, hx259_0, hx259_1, hx259_2, hx259_3, hx259_4, hx259_5, hx259_6, hx259_7, hx259_8, hx259_9, hx259_10⟩ := at_T26 HR0.out x6_2 p259 q259
                            cases e259
                            replace hx259_0 := (HB.out.cell (World.block_lt_of_cell? w _ hx259_0)).trans hx259_0
                            replace hx259_1 := (HB.out.cell (World.block_lt_of_cell? w _ hx259_1)).trans hx259_1
                            replace hx259_2 := (HB.out.cell (World.block_lt_of_cell? w _ hx259_2)).trans hx259_2
                            replace hx259_3 := (HB.out.cell (World.block_lt_of_cell? w _ hx259_3)).trans hx259_3
                            replace hx259_4 := (HB.out.cell (World.block_lt_of_cell? w _ hx259_4)).trans hx259_4
                            replace hx259_5 := (HB.out.cell (World.block_lt_of_cell? w _ hx259_5)).trans hx259_5
                            replace hx259_6 := (HB.out.cell (World.block_lt_of_cell? w _ hx259_6)).trans hx259_6
                            replace hx259_7 := (HB.out.cell (World.block_lt_of_cell? w _ hx259_7)).trans hx259_7
                            replace hx259_8 := (HB.out.cell (World.block_lt_of_cell? w _ hx259_8)).trans hx259_8
                            replace hx259_9 := (HB.out.cell (World.block_lt_of_cell? w _ hx259_9)).trans hx259_9
                            replace hx259_10 := (HB.out.cell (World.block_lt_of_cell? w _ hx259_10)).trans hx259_10
                            replace p259 := eq_true p259
                            replace q259 := eq_true q259
                            go_wp2_with (first | ((with_reducible refine Q34 (f := 9) rfl ?_); refine goesL_ (some 60) rfl rfl Tryd.func9 (by kernel_rfl) rfl #[.agg #[.int .i64 ((rd_T26 l0 x6_2).f0), .int .i64 ((rd_T26 l0 x6_2).f1), .int .i64 ((rd_T26 l0 x6_2).f2), .string ((rd_T26 l0 x6_2).f3), .bool ((rd_T26 l0 x6_2).f4), .int .u64 ((rd_T26 l0 x6_2).f5.f0), .int .u64 ((rd_T26 l0 x6_2).f5.f1), .int .u64 ((rd_T26 l0 x6_2).f5.f2), .int .u64 ((rd_T26 l0 x6_2).f5.f3), .int .i64 ((rd_T26 l0 x6_2).f6), .int .i64 ((rd_T26 l0 x6_2).f7)]] rfl (by (try simp only [List.map_toArray, List.map_cons, List.map_nil]); first | done | rfl | (simp only [List.length_drop, List.length_take]; rfl)) ?_; (with_reducible refine (dowelref04_Spell.calls kj15 ((rd_T26 l0 x6_2).f0) ((rd_T26 l0 x6_2).f1) ((rd_T26 l0 x6_2).f2) ((rd_T26 l0 x6_2).f3) ((rd_T26 l0 x6_2).f4) ((rd_T26 l0 x6_2).f5.f0) ((rd_T26 l0 x6_2).f5.f1) ((rd_T26 l0 x6_2).f5.f2) ((rd_T26 l0 x6_2).f5.f3) ((rd_T26 l0 x6_2).f6) ((rd_T26 l0 x6_2).f7) t260 t261 _ A22.out).mono ?_); rintro e w32 ⟨rfl, hb⟩; refine ⟨_, rfl, ?_⟩; have n0_ := Aside0.mk (Kd.R_below (by (with_reducible repeat (first | apply Kd.R_alloc | apply Kd.R_drewN | apply Kd.R_drew)); exact HO_5.out) hb); have n1_ := Aside0.mk (Q25 (by repeat (first | (with_reducible first | exact HB.out | apply Q17 | apply Q11 | apply Q16) | exact HB.out)) hb); clear HO_5; clear HB; have HO_5 := n0_; have HB := n1_; clear n0_ n1_; (try clear hb); (try clear hb2); (try clear hk); (try clear hi)))
                            go_ret2
                            exact ⟨by first | rfl | (simp [Q31, Q28] <;> rfl) | (simp [*, Q31, Q28] <;> rfl), by repeat (first | (with_reducible first | exact HB.out | apply Q17 | apply Q11 | apply Q16) | exact HB.out)⟩
                        · rw [if_neg c21] at H
                          exact absurd H (by simp)
                      · rw [if_neg c20] at H
                        exact absurd H (by simp)
            · rw [if_neg c12] at H
              have c12b0 : decide (x6_2 < (l0.length : Int)) = false := decide_eq_false c12
              clear c12
              simp only [Option.some.injEq, Prod.mk.injEq] at H
              obtain ⟨rfl, rfl⟩ := H
              have hcv33 := own_string (P := Tryd.prog) Tryd.underlying52 Tryd.underlying5 Tryd.underlying9 (Kd.own_of_R HO_5.out)
              have hcw34 := fun n_ : Nat => own_string (P := Tryd.prog) Tryd.underlying52 Tryd.underlying5 Tryd.underlying9 (Kd.own_of_R (Kd.R_drewN HO_5.out n_))
              go_wp2
              go_ret2
              exact ⟨by first | rfl | (simp [Q31, Q28] <;> rfl) | (simp [*, Q31, Q28] <;> rfl), by repeat (first | (with_reducible first | exact HB.out | apply Q17 | apply Q11 | apply Q16) | exact HB.out)⟩
end Go.Proofs.YtldjdcdoegjmoaaDoor.P
