import Derived.Test.YtldjdcdoegjmoaaDoorV1
import Derived.Test.YtldjdcdoegjmoaaDoorV3
import Derived.Test.YtldjdcdoegjmoaaDoorV4
namespace Go.Proofs.YtldjdcdoegjmoaaDoor.P
open Go.RowKit Go.Proofs.YtldjdcdoegjmoaaDoorW.PrintWords Go.Proofs.YtldjdcdoegjmoaaDoorW.PrintLast Go.Proofs.YtldjdcdoegjmoaaDoorW.PrintMore
set_option linter.unusedVariables false
set_option linter.unusedSimpArgs false
mutual
def lexis_count.j0 : Nat → ByteArray → Int → Int → Int → Int → Bool → Option (Int × Int × Int × ByteArray × Bool × Int × Int × Int × Int × Int × Int × Int × Int)
  | 0, _, _, _, _, _, _ => none
  | k + 1, x0, x1, x6, x7, x8, x30 => if x30 = true then (if (wrap64 (x7 + 1)) < (x0.size : Int) then (if 0 ≤ (wrap64 (x7 + 1)) then (lexis_count.j1 k x0 x1 x6 (wrap64 (x7 + 1)) (-1) ((bt x0 (wrap64 (x7 + 1))) != 125)) else (none)) else (lexis_count.j1 k x0 x1 x6 (wrap64 (x7 + 1)) (-1) false)) else (if x6 < 0 then ((lexis_fault.f x1 43).bind fun bt307 => (some (bt307.1, bt307.2.1, bt307.2.2.1, bt307.2.2.2.1, bt307.2.2.2.2.1, bt307.2.2.2.2.2.1, bt307.2.2.2.2.2.2.1, bt307.2.2.2.2.2.2.2.1, bt307.2.2.2.2.2.2.2.2.1, bt307.2.2.2.2.2.2.2.2.2.1, bt307.2.2.2.2.2.2.2.2.2.2.1, bt307.2.2.2.2.2.2.2.2.2.2.2.1, bt307.2.2.2.2.2.2.2.2.2.2.2.2))) else (if x7 ≥ (x0.size : Int) then ((lexis_fault.f x1 43).bind fun bt320 => (some (bt320.1, bt320.2.1, bt320.2.2.1, bt320.2.2.2.1, bt320.2.2.2.2.1, bt320.2.2.2.2.2.1, bt320.2.2.2.2.2.2.1, bt320.2.2.2.2.2.2.2.1, bt320.2.2.2.2.2.2.2.2.1, bt320.2.2.2.2.2.2.2.2.2.1, bt320.2.2.2.2.2.2.2.2.2.2.1, bt320.2.2.2.2.2.2.2.2.2.2.2.1, bt320.2.2.2.2.2.2.2.2.2.2.2.2))) else (if 0 ≤ x7 then (if x7 < (x0.size : Int) then (if (bt x0 x7) = 125 then (some (9, x1, wrap64 (x7 + 1), (⟨#[]⟩ : ByteArray), false, 0, 0, 0, 0, x6, x8, 0, 0)) else ((lexis_fault.f x1 43).bind fun bt333 => (some (bt333.1, bt333.2.1, bt333.2.2.1, bt333.2.2.2.1, bt333.2.2.2.2.1, bt333.2.2.2.2.2.1, bt333.2.2.2.2.2.2.1, bt333.2.2.2.2.2.2.2.1, bt333.2.2.2.2.2.2.2.2.1, bt333.2.2.2.2.2.2.2.2.2.1, bt333.2.2.2.2.2.2.2.2.2.2.1, bt333.2.2.2.2.2.2.2.2.2.2.2.1, bt333.2.2.2.2.2.2.2.2.2.2.2.2)))) else (none)) else (none))))
def lexis_count.j1 : Nat → ByteArray → Int → Int → Int → Int → Bool → Option (Int × Int × Int × ByteArray × Bool × Int × Int × Int × Int × Int × Int × Int × Int)
  | 0, _, _, _, _, _, _ => none
  | k + 1, x0, x1, x6, x7, x8, x42 => if x42 = true then ((lexis_number.f k x0 x7).bind fun bt214 => (if bt214.1 < x6 then ((lexis_fault.f x1 43).bind fun bt216 => (some (bt216.1, bt216.2.1, bt216.2.2.1, bt216.2.2.2.1, bt216.2.2.2.2.1, bt216.2.2.2.2.2.1, bt216.2.2.2.2.2.2.1, bt216.2.2.2.2.2.2.2.1, bt216.2.2.2.2.2.2.2.2.1, bt216.2.2.2.2.2.2.2.2.2.1, bt216.2.2.2.2.2.2.2.2.2.2.1, bt216.2.2.2.2.2.2.2.2.2.2.2.1, bt216.2.2.2.2.2.2.2.2.2.2.2.2))) else (if x6 < 0 then ((lexis_fault.f x1 43).bind fun bt229 => (some (bt229.1, bt229.2.1, bt229.2.2.1, bt229.2.2.2.1, bt229.2.2.2.2.1, bt229.2.2.2.2.2.1, bt229.2.2.2.2.2.2.1, bt229.2.2.2.2.2.2.2.1, bt229.2.2.2.2.2.2.2.2.1, bt229.2.2.2.2.2.2.2.2.2.1, bt229.2.2.2.2.2.2.2.2.2.2.1, bt229.2.2.2.2.2.2.2.2.2.2.2.1, bt229.2.2.2.2.2.2.2.2.2.2.2.2))) else (if bt214.2 ≥ (x0.size : Int) then ((lexis_fault.f x1 43).bind fun bt242 => (some (bt242.1, bt242.2.1, bt242.2.2.1, bt242.2.2.2.1, bt242.2.2.2.2.1, bt242.2.2.2.2.2.1, bt242.2.2.2.2.2.2.1, bt242.2.2.2.2.2.2.2.1, bt242.2.2.2.2.2.2.2.2.1, bt242.2.2.2.2.2.2.2.2.2.1, bt242.2.2.2.2.2.2.2.2.2.2.1, bt242.2.2.2.2.2.2.2.2.2.2.2.1, bt242.2.2.2.2.2.2.2.2.2.2.2.2))) else (if 0 ≤ bt214.2 then (if bt214.2 < (x0.size : Int) then (if (bt x0 bt214.2) = 125 then (some (9, x1, wrap64 (bt214.2 + 1), (⟨#[]⟩ : ByteArray), false, 0, 0, 0, 0, x6, bt214.1, 0, 0)) else ((lexis_fault.f x1 43).bind fun bt255 => (some (bt255.1, bt255.2.1, bt255.2.2.1, bt255.2.2.2.1, bt255.2.2.2.2.1, bt255.2.2.2.2.2.1, bt255.2.2.2.2.2.2.1, bt255.2.2.2.2.2.2.2.1, bt255.2.2.2.2.2.2.2.2.1, bt255.2.2.2.2.2.2.2.2.2.1, bt255.2.2.2.2.2.2.2.2.2.2.1, bt255.2.2.2.2.2.2.2.2.2.2.2.1, bt255.2.2.2.2.2.2.2.2.2.2.2.2)))) else (none)) else (none)))))) else (if x6 < 0 then ((lexis_fault.f x1 43).bind fun bt268 => (some (bt268.1, bt268.2.1, bt268.2.2.1, bt268.2.2.2.1, bt268.2.2.2.2.1, bt268.2.2.2.2.2.1, bt268.2.2.2.2.2.2.1, bt268.2.2.2.2.2.2.2.1, bt268.2.2.2.2.2.2.2.2.1, bt268.2.2.2.2.2.2.2.2.2.1, bt268.2.2.2.2.2.2.2.2.2.2.1, bt268.2.2.2.2.2.2.2.2.2.2.2.1, bt268.2.2.2.2.2.2.2.2.2.2.2.2))) else (if x7 ≥ (x0.size : Int) then ((lexis_fault.f x1 43).bind fun bt281 => (some (bt281.1, bt281.2.1, bt281.2.2.1, bt281.2.2.2.1, bt281.2.2.2.2.1, bt281.2.2.2.2.2.1, bt281.2.2.2.2.2.2.1, bt281.2.2.2.2.2.2.2.1, bt281.2.2.2.2.2.2.2.2.1, bt281.2.2.2.2.2.2.2.2.2.1, bt281.2.2.2.2.2.2.2.2.2.2.1, bt281.2.2.2.2.2.2.2.2.2.2.2.1, bt281.2.2.2.2.2.2.2.2.2.2.2.2))) else (if 0 ≤ x7 then (if x7 < (x0.size : Int) then (if (bt x0 x7) = 125 then (some (9, x1, wrap64 (x7 + 1), (⟨#[]⟩ : ByteArray), false, 0, 0, 0, 0, x6, x8, 0, 0)) else ((lexis_fault.f x1 43).bind fun bt294 => (some (bt294.1, bt294.2.1, bt294.2.2.1, bt294.2.2.2.1, bt294.2.2.2.2.1, bt294.2.2.2.2.2.1, bt294.2.2.2.2.2.2.1, bt294.2.2.2.2.2.2.2.1, bt294.2.2.2.2.2.2.2.2.1, bt294.2.2.2.2.2.2.2.2.2.1, bt294.2.2.2.2.2.2.2.2.2.2.1, bt294.2.2.2.2.2.2.2.2.2.2.2.1, bt294.2.2.2.2.2.2.2.2.2.2.2.2)))) else (none)) else (none))))
end
def lexis_count.f (k : Nat) (a0 : ByteArray) (a1 : Int) : Option (Int × Int × Int × ByteArray × Bool × Int × Int × Int × Int × Int × Int × Int × Int) := (lexis_number.f k a0 (wrap64 (a1 + 1))).bind fun bt212 => (if bt212.1 ≥ 0 then (if bt212.2 < (a0.size : Int) then (if 0 ≤ bt212.2 then (lexis_count.j0 k a0 a1 bt212.1 bt212.2 bt212.1 ((bt a0 bt212.2) == 44)) else (none)) else (lexis_count.j0 k a0 a1 bt212.1 bt212.2 bt212.1 false)) else (lexis_count.j0 k a0 a1 bt212.1 bt212.2 bt212.1 false))
set_option maxHeartbeats 8000000 in
set_option maxRecDepth 100000 in
theorem lexis_count.calls (k : Nat) (a0 : ByteArray) (a1 : Int) (r1 : Int) (r2 : Int) (r3 : Int) (r4 : ByteArray) (r5 : Bool) (r6 : Int) (r7 : Int) (r8 : Int) (r9 : Int) (r10 : Int) (r11 : Int) (r12 : Int) (r13 : Int) (w : World) (h : lexis_count.f k a0 a1 = some (r1, r2, r3, r4, r5, r6, r7, r8, r9, r10, r11, r12, r13)) :
    Calls Tryd.prog 52 #[.string a0, .int .i64 a1] w fun e w' => e = .returned (.tuple #[.agg #[.int .i64 r1, .int .i64 r2, .int .i64 r3, .string r4, .bool r5, .int .u64 r6, .int .u64 r7, .int .u64 r8, .int .u64 r9, .int .i64 r10, .int .i64 r11], .agg #[.int .i64 r12, .int .i64 r13]]) ∧ Below w.heap.size w w' := by
  have hu26 := Tryd.underlying26
  have hu41 := Tryd.underlying41
  have HB := Aside0.mk (Below.refl w.heap.size w)
  have H : ((lexis_number.f k a0 (wrap64 (a1 + 1))).bind fun bt212 => (if bt212.1 ≥ 0 then (if bt212.2 < (a0.size : Int) then (if 0 ≤ bt212.2 then (lexis_count.j0 k a0 a1 bt212.1 bt212.2 bt212.1 ((bt a0 bt212.2) == 44)) else (none)) else (lexis_count.j0 k a0 a1 bt212.1 bt212.2 bt212.1 false)) else (lexis_count.j0 k a0 a1 bt212.1 bt212.2 bt212.1 false))) = some (r1, r2, r3, r4, r5, r6, r7, r8, r9, r10, r11, r12, r13) := h
  clear h
  replace H := Option.bind_eq_some_iff.mp H
  obtain ⟨⟨t212, t213⟩, A30, H⟩ := H
  replace H : (if t212 ≥ 0 then (if t213 < (a0.size : Int) then (if 0 ≤ t213 then (lexis_count.j0 k a0 a1 t212 t213 t212 ((bt a0 t213) == 44)) else (none)) else (lexis_count.j0 k a0 a1 t212 t213 t212 false)) else (lexis_count.j0 k a0 a1 t212 t213 t212 false)) = some (r1, r2, r3, r4, r5, r6, r7, r8, r9, r10, r11, r12, r13) := H
  have A3 := Aside0.mk A30
  clear A30
  have HC4 := Aside0.mk H
  clear H
  go_enter Tryd.func52, Tryd.ntmps52
  go_upto_region 3 with (first | ((with_reducible refine gate_dst (N := 4) rfl ?_); (try (refine gate_guard (by rfl) ?_; dsimp only)); refine Q43 ?hg (N := 4) ?hd (cs := #[.int .i64 0, .int .i64 0, .int .i64 0, .string (⟨#[]⟩ : ByteArray), .bool false, .int .u64 0, .int .u64 0, .int .u64 0, .int .u64 0, .int .i64 0, .int .i64 0]) (t := 26) ?hr ?_; (case hd => rfl); (case hg => rfl); (case hr => first | (go_simp; done) | (go_simp; rfl)); intro gb210 hg w5 hbox hb; have n0_ := Aside0.mk (Q34 (by repeat (first | (with_reducible first | exact HB.out | apply Q19 | apply Q8 | apply Q23) | exact HB.out)) hb); have n1_ := Aside0.mk (hbox); have n2_ := Aside0.mk ((by rw [hg]; exact (Q29 (by repeat (first | (with_reducible first | exact HB.out | apply Q19 | apply Q8 | apply Q23) | exact HB.out))) : w.heap.size ≤ gb210)); have n3_ := Aside0.mk ((by rw [hg]; exact (Q29 (by repeat (first | (with_reducible first | exact HB.out | apply Q19 | apply Q8 | apply Q23) | exact HB.out))) : w.heap.size ≤ gb210)); clear HB; have HB := n0_; have BK210 := n1_; have GW210 := n2_; have GE210 := n3_; clear n0_ n1_ n2_ n3_; clear hb hbox hg) | ((with_reducible refine gate_dst (N := 5) rfl ?_); (try (refine gate_guard (by rfl) ?_; dsimp only)); refine Q43 ?hg (N := 5) ?hd (cs := #[.int .i64 0, .int .i64 0]) (t := 41) ?hr ?_; (case hd => rfl); (case hg => rfl); (case hr => first | (go_simp; done) | (go_simp; rfl)); intro gb211 hg w6 hbox hb; have n0_ := Aside0.mk (Q38 (g := gb210) (o := .cells #[.int .i64 0, .int .i64 0, .int .i64 0, .string (⟨#[]⟩ : ByteArray), .bool false, .int .u64 0, .int .u64 0, .int .u64 0, .int .u64 0, .int .i64 0, .int .i64 0] 26 (0, 0)) (by (with_reducible repeat (first | refine Q12 ?_ _ | refine Q24 ?_ | refine Q17 ?_ _)); exact BK210.out) hb); have n1_ := Aside0.mk (Q34 (by repeat (first | (with_reducible first | exact HB.out | apply Q19 | apply Q8 | apply Q23 | refine Q26 ?_ GE210.out) | exact HB.out)) hb); have n2_ := Aside0.mk (hbox); have n3_ := Aside0.mk ((by rw [hg]; exact (Q29 (by repeat (first | (with_reducible first | exact HB.out | apply Q19 | apply Q8 | apply Q23 | refine Q26 ?_ GE210.out) | exact HB.out))) : w.heap.size ≤ gb211)); have n4_ := Aside0.mk ((by rw [hg]; exact (Q29 (by repeat (first | (with_reducible first | exact HB.out | apply Q19 | apply Q8 | apply Q23 | refine Q26 ?_ GE210.out) | exact HB.out))) : w.heap.size ≤ gb211)); have n5_ := Aside0.mk ((by rw [hg]; exact Nat.ne_of_lt (blk_lt (g := gb210) (o := .cells #[.int .i64 0, .int .i64 0, .int .i64 0, .string (⟨#[]⟩ : ByteArray), .bool false, .int .u64 0, .int .u64 0, .int .u64 0, .int .u64 0, .int .i64 0, .int .i64 0] 26 (0, 0)) (by (with_reducible repeat (first | refine Q12 ?_ _ | refine Q24 ?_ | refine Q17 ?_ _)); exact BK210.out)) : gb210 ≠ gb211)); have n6_ := Aside0.mk ((by rw [hg]; exact Nat.ne_of_gt (blk_lt (g := gb210) (o := .cells #[.int .i64 0, .int .i64 0, .int .i64 0, .string (⟨#[]⟩ : ByteArray), .bool false, .int .u64 0, .int .u64 0, .int .u64 0, .int .u64 0, .int .i64 0, .int .i64 0] 26 (0, 0)) (by (with_reducible repeat (first | refine Q12 ?_ _ | refine Q24 ?_ | refine Q17 ?_ _)); exact BK210.out)) : gb211 ≠ gb210)); clear BK210; clear HB; have BK210 := n0_; have HB := n1_; have BK211 := n2_; have GW211 := n3_; have GE211 := n4_; have NB210_211 := n5_; have NB211_210 := n6_; clear n0_ n1_ n2_ n3_ n4_ n5_ n6_; clear hb hbox hg) | ((with_reducible refine Q40 (f := 74) rfl ?_); refine goesL_ (some 13) rfl rfl Tryd.func74 (by kernel_rfl) rfl #[.string a0, .int .i64 (wrap64 (a1 + 1))] rfl (by (try simp only [List.map_toArray, List.map_cons, List.map_nil]); first | done | rfl | (simp only [List.length_drop, List.length_take]; rfl)) ?_; (with_reducible refine (lexis_number.calls k a0 (wrap64 (a1 + 1)) t212 t213 _ A3.out).mono ?_); rintro e w' ⟨rfl, ⟨nd, rfl⟩⟩; refine ⟨_, rfl, ?_⟩))
  (try simp only [Act.put, List.setIfInBounds_toArray, List.set_cons_zero, List.set_cons_succ])
  go_cut [30] (fun v30 wc => ∃ (kq : Nat) (x30_3 : Bool), v30 = .bool x30_3 ∧ Aside0 (lexis_count.j0 kq a0 a1 t212 t213 t212 x30_3 = some (r1, r2, r3, r4, r5, r6, r7, r8, r9, r10, r11, r12, r13)) ∧ Aside0 (kq ≤ k) ∧ Aside0 (wc.heap[gb210]? = some (.cells #[.int .i64 0, .int .i64 0, .int .i64 0, .string (⟨#[]⟩ : ByteArray), .bool false, .int .u64 0, .int .u64 0, .int .u64 0, .int .u64 0, .int .i64 0, .int .i64 0] 26 (0, 0))) ∧ Aside0 (wc.heap[gb211]? = some (.cells #[.int .i64 0, .int .i64 0] 41 (0, 0))) ∧ Aside0 (Below w.heap.size w wc))
  case first =>
    have H := HC4.out
    clear HC4
    by_cases c7 : t212 ≥ 0
    · rw [if_pos c7] at H
      have c7b0 : decide (0 ≤ t212) = true := decide_eq_true c7
      clear c7
      (first | rw [c7b0] | (simp only [i64_w, i32_w]; rw [c7b0]) | skip)
      by_cases c8 : t213 < (a0.size : Int)
      · rw [if_pos c8] at H
        have c8b0 : decide (t213 < (a0.size : Int)) = true := decide_eq_true c8
        clear c8
        by_cases c9 : 0 ≤ t213
        · rw [if_pos c9] at H
          have c9b0 : decide (0 ≤ t213) = true := decide_eq_true c9
          clear c9
          have H' := Aside0.mk H
          clear H
          have p10 : 0 ≤ (t213 : Int) := of_decide_eq_true (by first | (with_reducible assumption) | assumption)
          have q10 : t213 < (a0.size : Int) := of_decide_eq_true (by first | (with_reducible assumption) | assumption)
          have hx10 := bt_at a0 t213
          replace p10 := eq_true p10
          replace q10 := eq_true q10
          go_wp2
          go_meet
          case rel => exact ⟨_, (((bt a0 t213) == 44)), (by first | rfl | (simp; done) | (simp [*]; done)), H', ⟨by first | omega | exact Nat.le_refl _⟩, ⟨by (with_reducible repeat (first | refine Q12 ?_ _ | refine Q24 ?_ | refine Q17 ?_ _)); exact BK210.out⟩, ⟨by (with_reducible repeat (first | refine Q12 ?_ _ | refine Q24 ?_ | refine Q17 ?_ _)); exact BK211.out⟩, ⟨by repeat (first | (with_reducible first | exact HB.out | apply Q19 | apply Q8 | apply Q23 | refine Q26 ?_ GE210.out | refine Q26 ?_ GE211.out) | exact HB.out)⟩⟩
        · rw [if_neg c9] at H
          exact absurd H (by simp)
      · rw [if_neg c8] at H
        have c8b0 : decide (t213 < (a0.size : Int)) = false := decide_eq_false c8
        clear c8
        have H' := Aside0.mk H
        clear H
        go_wp2
        go_meet
        case rel => exact ⟨_, (false), (by first | rfl | (simp; done) | (simp [*]; done)), H', ⟨by first | omega | exact Nat.le_refl _⟩, ⟨by (with_reducible repeat (first | refine Q12 ?_ _ | refine Q24 ?_ | refine Q17 ?_ _)); exact BK210.out⟩, ⟨by (with_reducible repeat (first | refine Q12 ?_ _ | refine Q24 ?_ | refine Q17 ?_ _)); exact BK211.out⟩, ⟨by repeat (first | (with_reducible first | exact HB.out | apply Q19 | apply Q8 | apply Q23 | refine Q26 ?_ GE210.out | refine Q26 ?_ GE211.out) | exact HB.out)⟩⟩
    · rw [if_neg c7] at H
      have c7b0 : decide (0 ≤ t212) = false := decide_eq_false c7
      clear c7
      (first | rw [c7b0] | (simp only [i64_w, i32_w]; rw [c7b0]) | skip)
      have H' := Aside0.mk H
      clear H
      go_wp2
      go_meet
      case rel => exact ⟨_, (false), (by first | rfl | (simp; done) | (simp [*]; done)), H', ⟨by first | omega | exact Nat.le_refl _⟩, ⟨by (with_reducible repeat (first | refine Q12 ?_ _ | refine Q24 ?_ | refine Q17 ?_ _)); exact BK210.out⟩, ⟨by (with_reducible repeat (first | refine Q12 ?_ _ | refine Q24 ?_ | refine Q17 ?_ _)); exact BK211.out⟩, ⟨by repeat (first | (with_reducible first | exact HB.out | apply Q19 | apply Q8 | apply Q23 | refine Q26 ?_ GE210.out | refine Q26 ?_ GE211.out) | exact HB.out)⟩⟩
  case rest =>
    clear HC4
    try clear p1
    try clear q1
    try clear hx1
    try clear p2
    try clear c5
    try clear p6
    try clear c7
    try clear c7b0
    try clear c8
    try clear c8b0
    try clear c9
    try clear c9b0
    try clear p10
    try clear q10
    try clear hx10
    try clear p10
    try clear q10
    obtain ⟨kq, x30_3, rfl, HA, HJ3, BK210, BK211, HB⟩ := hcut
    cases kq with
    | zero => exact absurd HA.out (by simp [lexis_count.j0])
    | succ kj3 =>
      have H := HA.out
      clear HA
      simp only [lexis_count.j0] at H
      by_cases c11 : x30_3 = true
      · subst c11
        have H1 : (if (wrap64 (t213 + 1)) < (a0.size : Int) then (if 0 ≤ (wrap64 (t213 + 1)) then (lexis_count.j1 kj3 a0 a1 t212 (wrap64 (t213 + 1)) (-1) ((bt a0 (wrap64 (t213 + 1))) != 125)) else (none)) else (lexis_count.j1 kj3 a0 a1 t212 (wrap64 (t213 + 1)) (-1) false)) = some (r1, r2, r3, r4, r5, r6, r7, r8, r9, r10, r11, r12, r13) := by rw [if_pos rfl] at H; exact H
        clear H
        have H := H1
        clear H1
        have HC12 := Aside0.mk H
        clear H
        go_upto_region 6 with (fail)
        go_cut [42] (fun v42 wc => ∃ (kq : Nat) (x42_11 : Bool), v42 = .bool x42_11 ∧ Aside0 (lexis_count.j1 kq a0 a1 t212 (wrap64 (t213 + 1)) (-1) x42_11 = some (r1, r2, r3, r4, r5, r6, r7, r8, r9, r10, r11, r12, r13)) ∧ Aside0 (kq ≤ kj3) ∧ Aside0 (wc.heap[gb210]? = some (.cells #[.int .i64 0, .int .i64 0, .int .i64 0, .string (⟨#[]⟩ : ByteArray), .bool false, .int .u64 0, .int .u64 0, .int .u64 0, .int .u64 0, .int .i64 0, .int .i64 0] 26 (0, 0))) ∧ Aside0 (wc.heap[gb211]? = some (.cells #[.int .i64 0, .int .i64 0] 41 (0, 0))) ∧ Aside0 (Below w.heap.size w wc))
        case first =>
          have H := HC12.out
          clear HC12
          by_cases c13 : (wrap64 (t213 + 1)) < (a0.size : Int)
          · rw [if_pos c13] at H
            have c13b0 : decide ((wrap64 (t213 + 1)) < (a0.size : Int)) = true := decide_eq_true c13
            clear c13
            (first | rw [c13b0] | (simp only [i64_w, i32_w]; rw [c13b0]) | skip)
            obtain ⟨ji14, hji14⟩ : ∃ j_ : Int, (wrap64 (t213 + 1)) = j_ := ⟨_, rfl⟩
            replace H : (if 0 ≤ (ji14) then (lexis_count.j1 kj3 a0 a1 t212 ji14 (-1) ((bt a0 (ji14)) != 125)) else (none)) = some (r1, r2, r3, r4, r5, r6, r7, r8, r9, r10, r11, r12, r13) := by first | (rw [hji14] at H; exact H) | (simp only [hji14] at H ⊢; exact H)
            (try rw [hji14] at c13b0)
            have hji14w : (IntKind.i64.wrap (t213 + 1)) = ji14 := (i64_w _).trans hji14
            by_cases c15 : 0 ≤ (ji14)
            · rw [if_pos c15] at H
              have c15b0 : decide (0 ≤ (ji14)) = true := decide_eq_true c15
              clear c15
              have H' := Aside0.mk H
              clear H
              have p16 : 0 ≤ ((ji14) : Int) := of_decide_eq_true (by first | (with_reducible assumption) | assumption)
              have q16 : (ji14) < (a0.size : Int) := of_decide_eq_true (by first | (with_reducible assumption) | assumption)
              have hx16 := bt_at a0 (ji14)
              replace p16 := eq_true p16
              replace q16 := eq_true q16
              go_wp2
              go_meet
              case rel => exact ⟨_, (((bt a0 (ji14)) != 125)), (by first | rfl | (simp; done) | (simp [*]; done) | (simp only [← hji14] <;> (first | rfl | simp)) | (simp [*]; done)), (by first | exact H' | (have h_ := H'.out; exact Aside0.mk (by first | exact h_ | (simp only [hji14] at h_ ⊢; exact h_)))), ⟨by have := HJ3.out; first | omega | exact Nat.le_refl _⟩, ⟨by (with_reducible repeat (first | refine Q12 ?_ _ | refine Q24 ?_ | refine Q17 ?_ _)); exact BK210.out⟩, ⟨by (with_reducible repeat (first | refine Q12 ?_ _ | refine Q24 ?_ | refine Q17 ?_ _)); exact BK211.out⟩, ⟨by repeat (first | (with_reducible first | exact HB.out | apply Q19 | apply Q8 | apply Q23 | refine Q26 ?_ GE210.out | refine Q26 ?_ GE211.out) | exact HB.out)⟩⟩
            · rw [if_neg c15] at H
              exact absurd H (by simp)
          · rw [if_neg c13] at H
            have c13b0 : decide ((wrap64 (t213 + 1)) < (a0.size : Int)) = false := decide_eq_false c13
            clear c13
            (first | rw [c13b0] | (simp only [i64_w, i32_w]; rw [c13b0]) | skip)
            have H' := Aside0.mk H
            clear H
            go_wp2
            go_meet
            case rel => exact ⟨_, (false), (by first | rfl | (simp; done) | (simp [*]; done)), H', ⟨by have := HJ3.out; first | omega | exact Nat.le_refl _⟩, ⟨by (with_reducible repeat (first | refine Q12 ?_ _ | refine Q24 ?_ | refine Q17 ?_ _)); exact BK210.out⟩, ⟨by (with_reducible repeat (first | refine Q12 ?_ _ | refine Q24 ?_ | refine Q17 ?_ _)); exact BK211.out⟩, ⟨by repeat (first | (with_reducible first | exact HB.out | apply Q19 | apply Q8 | apply Q23 | refine Q26 ?_ GE210.out | refine Q26 ?_ GE211.out) | exact HB.out)⟩⟩
        case rest =>
          clear HC12
          try clear c1
          try clear p1
          try clear q1
          try clear hx1
          try clear p2
          try clear c5
          try clear p6
          try clear c7
          try clear c7b0
          try clear c8
          try clear c8b0
          try clear c9
          try clear c9b0
          try clear p10
          try clear q10
          try clear hx10
          try clear c11
          try clear c13
          try clear c13b0
          try clear c15
          try clear c15b0
          try clear p16
          try clear q16
          try clear hx16
          try clear p1
          try clear p10
          try clear p16
          try clear p2
          try clear p6
          try clear q1
          try clear q10
          try clear q16
          obtain ⟨kq, x42_11, rfl, HA, HJ11, BK210, BK211, HB⟩ := hcut
          cases kq with
          | zero => exact absurd HA.out (by simp [lexis_count.j1])
          | succ kj11 =>
            have H := HA.out
            clear HA
            simp only [lexis_count.j1] at H
            by_cases c17 : x42_11 = true
            · subst c17
              have H1 : ((lexis_number.f kj11 a0 (wrap64 (t213 + 1))).bind fun bt214 => (if bt214.1 < t212 then ((lexis_fault.f a1 43).bind fun bt216 => (some (bt216.1, bt216.2.1, bt216.2.2.1, bt216.2.2.2.1, bt216.2.2.2.2.1, bt216.2.2.2.2.2.1, bt216.2.2.2.2.2.2.1, bt216.2.2.2.2.2.2.2.1, bt216.2.2.2.2.2.2.2.2.1, bt216.2.2.2.2.2.2.2.2.2.1, bt216.2.2.2.2.2.2.2.2.2.2.1, bt216.2.2.2.2.2.2.2.2.2.2.2.1, bt216.2.2.2.2.2.2.2.2.2.2.2.2))) else (if t212 < 0 then ((lexis_fault.f a1 43).bind fun bt229 => (some (bt229.1, bt229.2.1, bt229.2.2.1, bt229.2.2.2.1, bt229.2.2.2.2.1, bt229.2.2.2.2.2.1, bt229.2.2.2.2.2.2.1, bt229.2.2.2.2.2.2.2.1, bt229.2.2.2.2.2.2.2.2.1, bt229.2.2.2.2.2.2.2.2.2.1, bt229.2.2.2.2.2.2.2.2.2.2.1, bt229.2.2.2.2.2.2.2.2.2.2.2.1, bt229.2.2.2.2.2.2.2.2.2.2.2.2))) else (if bt214.2 ≥ (a0.size : Int) then ((lexis_fault.f a1 43).bind fun bt242 => (some (bt242.1, bt242.2.1, bt242.2.2.1, bt242.2.2.2.1, bt242.2.2.2.2.1, bt242.2.2.2.2.2.1, bt242.2.2.2.2.2.2.1, bt242.2.2.2.2.2.2.2.1, bt242.2.2.2.2.2.2.2.2.1, bt242.2.2.2.2.2.2.2.2.2.1, bt242.2.2.2.2.2.2.2.2.2.2.1, bt242.2.2.2.2.2.2.2.2.2.2.2.1, bt242.2.2.2.2.2.2.2.2.2.2.2.2))) else (if 0 ≤ bt214.2 then (if bt214.2 < (a0.size : Int) then (if (bt a0 bt214.2) = 125 then (some (9, a1, wrap64 (bt214.2 + 1), (⟨#[]⟩ : ByteArray), false, 0, 0, 0, 0, t212, bt214.1, 0, 0)) else ((lexis_fault.f a1 43).bind fun bt255 => (some (bt255.1, bt255.2.1, bt255.2.2.1, bt255.2.2.2.1, bt255.2.2.2.2.1, bt255.2.2.2.2.2.1, bt255.2.2.2.2.2.2.1, bt255.2.2.2.2.2.2.2.1, bt255.2.2.2.2.2.2.2.2.1, bt255.2.2.2.2.2.2.2.2.2.1, bt255.2.2.2.2.2.2.2.2.2.2.1, bt255.2.2.2.2.2.2.2.2.2.2.2.1, bt255.2.2.2.2.2.2.2.2.2.2.2.2)))) else (none)) else (none)))))) = some (r1, r2, r3, r4, r5, r6, r7, r8, r9, r10, r11, r12, r13) := by rw [if_pos rfl] at H; exact H
              clear H
              have H := H1
              clear H1
              replace H := Option.bind_eq_some_iff.mp H
              obtain ⟨⟨t214, t215⟩, A180, H⟩ := H
              replace H : (if t214 < t212 then ((lexis_fault.f a1 43).bind fun bt216 => (some (bt216.1, bt216.2.1, bt216.2.2.1, bt216.2.2.2.1, bt216.2.2.2.2.1, bt216.2.2.2.2.2.1, bt216.2.2.2.2.2.2.1, bt216.2.2.2.2.2.2.2.1, bt216.2.2.2.2.2.2.2.2.1, bt216.2.2.2.2.2.2.2.2.2.1, bt216.2.2.2.2.2.2.2.2.2.2.1, bt216.2.2.2.2.2.2.2.2.2.2.2.1, bt216.2.2.2.2.2.2.2.2.2.2.2.2))) else (if t212 < 0 then ((lexis_fault.f a1 43).bind fun bt229 => (some (bt229.1, bt229.2.1, bt229.2.2.1, bt229.2.2.2.1, bt229.2.2.2.2.1, bt229.2.2.2.2.2.1, bt229.2.2.2.2.2.2.1, bt229.2.2.2.2.2.2.2.1, bt229.2.2.2.2.2.2.2.2.1, bt229.2.2.2.2.2.2.2.2.2.1, bt229.2.2.2.2.2.2.2.2.2.2.1, bt229.2.2.2.2.2.2.2.2.2.2.2.1, bt229.2.2.2.2.2.2.2.2.2.2.2.2))) else (if t215 ≥ (a0.size : Int) then ((lexis_fault.f a1 43).bind fun bt242 => (some (bt242.1, bt242.2.1, bt242.2.2.1, bt242.2.2.2.1, bt242.2.2.2.2.1, bt242.2.2.2.2.2.1, bt242.2.2.2.2.2.2.1, bt242.2.2.2.2.2.2.2.1, bt242.2.2.2.2.2.2.2.2.1, bt242.2.2.2.2.2.2.2.2.2.1, bt242.2.2.2.2.2.2.2.2.2.2.1, bt242.2.2.2.2.2.2.2.2.2.2.2.1, bt242.2.2.2.2.2.2.2.2.2.2.2.2))) else (if 0 ≤ t215 then (if t215 < (a0.size : Int) then (if (bt a0 t215) = 125 then (some (9, a1, wrap64 (t215 + 1), (⟨#[]⟩ : ByteArray), false, 0, 0, 0, 0, t212, t214, 0, 0)) else ((lexis_fault.f a1 43).bind fun bt255 => (some (bt255.1, bt255.2.1, bt255.2.2.1, bt255.2.2.2.1, bt255.2.2.2.2.1, bt255.2.2.2.2.2.1, bt255.2.2.2.2.2.2.1, bt255.2.2.2.2.2.2.2.1, bt255.2.2.2.2.2.2.2.2.1, bt255.2.2.2.2.2.2.2.2.2.1, bt255.2.2.2.2.2.2.2.2.2.2.1, bt255.2.2.2.2.2.2.2.2.2.2.2.1, bt255.2.2.2.2.2.2.2.2.2.2.2.2)))) else (none)) else (none))))) = some (r1, r2, r3, r4, r5, r6, r7, r8, r9, r10, r11, r12, r13) := H
              have A18 := Aside0.mk A180
              clear A180
              by_cases c19 : t214 < t212
              · rw [if_pos c19] at H
                have c19b0 : decide (t214 < t212) = true := decide_eq_true c19
                clear c19
                replace H := Option.bind_eq_some_iff.mp H
                obtain ⟨⟨t216, t217, t218, t219, t220, t221, t222, t223, t224, t225, t226, t227, t228⟩, A200, H⟩ := H
                replace H : (some (t216, t217, t218, t219, t220, t221, t222, t223, t224, t225, t226, t227, t228)) = some (r1, r2, r3, r4, r5, r6, r7, r8, r9, r10, r11, r12, r13) := H
                have A20 := Aside0.mk A200
                clear A200
                simp only [Option.some.injEq, Prod.mk.injEq] at H
                obtain ⟨rfl, rfl, rfl, rfl, rfl, rfl, rfl, rfl, rfl, rfl, rfl, rfl, rfl⟩ := H
                go_wp2_with (first | ((with_reducible refine Q40 (f := 74) rfl ?_); refine goesL_ (some 46) rfl rfl Tryd.func74 (by kernel_rfl) rfl #[.string a0, .int .i64 (wrap64 (t213 + 1))] rfl (by (try simp only [List.map_toArray, List.map_cons, List.map_nil]); first | done | rfl | (simp only [List.length_drop, List.length_take]; rfl)) ?_; (with_reducible refine (lexis_number.calls kj11 a0 (wrap64 (t213 + 1)) t214 t215 _ A18.out).mono ?_); rintro e w' ⟨rfl, ⟨nd, rfl⟩⟩; refine ⟨_, rfl, ?_⟩; (try (rw [drewN_self wc]; generalize hq_ : World.drewN wc _ = wc; have n0_ : Aside0 (wc.heap[gb210]? = some (.cells #[.int .i64 0, .int .i64 0, .int .i64 0, .string (⟨#[]⟩ : ByteArray), .bool false, .int .u64 0, .int .u64 0, .int .u64 0, .int .u64 0, .int .i64 0, .int .i64 0] 26 (0, 0))) := ⟨by rw [← hq_]; exact (by (with_reducible repeat (first | refine Q12 ?_ _ | refine Q24 ?_ | refine Q17 ?_ _)); exact BK210.out)⟩; have n1_ : Aside0 (wc.heap[gb211]? = some (.cells #[.int .i64 0, .int .i64 0] 41 (0, 0))) := ⟨by rw [← hq_]; exact (by (with_reducible repeat (first | refine Q12 ?_ _ | refine Q24 ?_ | refine Q17 ?_ _)); exact BK211.out)⟩; have n2_ : Aside0 (Below w.heap.size w wc) := ⟨by rw [← hq_]; exact (by repeat (first | (with_reducible first | exact HB.out | apply Q19 | apply Q8 | apply Q23 | refine Q26 ?_ GE210.out | refine Q26 ?_ GE211.out) | exact HB.out))⟩; clear BK210 BK211 HB hq_; have BK210 := n0_; have BK211 := n1_; have HB := n2_; clear n0_ n1_ n2_))) | ((with_reducible refine Q40 (f := 56) rfl ?_); refine goesL_ (some 53) rfl rfl Tryd.func56 (by kernel_rfl) rfl #[.int .i64 a1, .int .i64 43] rfl (by (try simp only [List.map_toArray, List.map_cons, List.map_nil]); first | done | rfl | (simp only [List.length_drop, List.length_take]; rfl)) ?_; (with_reducible refine (lexis_fault.calls a1 43 t216 t217 t218 t219 t220 t221 t222 t223 t224 t225 t226 t227 t228 _ A20.out).mono ?_); rintro e w21 ⟨rfl, hb⟩; refine ⟨_, rfl, ?_⟩; have n0_ := Aside0.mk (Q38 (g := gb210) (o := .cells #[.int .i64 0, .int .i64 0, .int .i64 0, .string (⟨#[]⟩ : ByteArray), .bool false, .int .u64 0, .int .u64 0, .int .u64 0, .int .u64 0, .int .i64 0, .int .i64 0] 26 (0, 0)) (by (with_reducible repeat (first | refine Q12 ?_ _ | refine Q24 ?_ | refine Q17 ?_ _)); exact BK210.out) hb); have n1_ := Aside0.mk (Q38 (g := gb211) (o := .cells #[.int .i64 0, .int .i64 0] 41 (0, 0)) (by (with_reducible repeat (first | refine Q12 ?_ _ | refine Q24 ?_ | refine Q17 ?_ _)); exact BK211.out) hb); have n2_ := Aside0.mk (Q34 (by repeat (first | (with_reducible first | exact HB.out | apply Q19 | apply Q8 | apply Q23 | refine Q26 ?_ GE210.out | refine Q26 ?_ GE211.out) | exact HB.out)) hb); clear BK210; clear BK211; clear HB; have BK210 := n0_; have BK211 := n1_; have HB := n2_; clear n0_ n1_ n2_; (try clear hb); (try clear hb2); (try clear hk); (try clear hi); have hnb22 := NB210_211.out; have hnc22 := NB211_210.out; obtain ⟨hcz23_0, hcz23_1, hcz23_2, hcz23_3, hcz23_4, hcz23_5, hcz23_6, hcz23_7, hcz23_8, hcz23_9, hcz23_10, hfz23_0, hfz23_1, hfz23_2, hfz23_3, hfz23_4, hfz23_5, hfz23_6, hfz23_7, hfz23_8, hfz23_9, hfz23_10⟩ := Q41 BK210.out; obtain ⟨hcz24_0, hcz24_1, hfz24_0, hfz24_1⟩ := blk_cells2 BK211.out))
                refine bodyPost_ret (results_cc rfl _ _ gb210 gb211 26 41 #[.int .i64 t216, .int .i64 t217, .int .i64 t218, .string t219, .bool t220, .int .u64 t221, .int .u64 t222, .int .u64 t223, .int .u64 t224, .int .i64 t225, .int .i64 t226] #[.int .i64 t227, .int .i64 t228] (0, 0) (0, 0) _ _ rfl (by (with_reducible repeat (first | refine Q12 ?_ _ | refine Q24 ?_ | refine Q17 ?_ _)); refine blk_far2 ?_ NB210_211.out; (with_reducible repeat (first | refine Q12 ?_ _ | refine Q24 ?_ | refine Q17 ?_ _)); apply blk_put11; (with_reducible repeat (first | refine Q12 ?_ _ | refine Q24 ?_ | refine Q17 ?_ _)); exact BK210.out) Tryd.underlying26 rfl (by kernel_rfl) rfl (by (with_reducible repeat (first | refine Q12 ?_ _ | refine Q24 ?_ | refine Q17 ?_ _)); apply blk_put2; (with_reducible repeat (first | refine Q12 ?_ _ | refine Q24 ?_ | refine Q17 ?_ _)); refine blk_far11 ?_ NB211_210.out; (with_reducible repeat (first | refine Q12 ?_ _ | refine Q24 ?_ | refine Q17 ?_ _)); exact BK211.out) Tryd.underlying41 rfl (by kernel_rfl)) rfl ?_
                exact ⟨by first | rfl | (simp [Q37, Q35] <;> rfl) | (simp [*, Q37, Q35] <;> rfl), by repeat (first | (with_reducible first | exact HB.out | apply Q19 | apply Q8 | apply Q23 | refine Q26 ?_ GE210.out | refine Q26 ?_ GE211.out) | exact HB.out)⟩
              · rw [if_neg c19] at H
                have c19b0 : decide (t214 < t212) = false := decide_eq_false c19
                clear c19
                by_cases c25 : t212 < 0
                · rw [if_pos c25] at H
                  have c25b0 : decide (t212 < 0) = true := decide_eq_true c25
                  clear c25
                  replace H := Option.bind_eq_some_iff.mp H
                  obtain ⟨⟨t229, t230, t231, t232, t233, t234, t235, t236, t237, t238, t239, t240, t241⟩, A260, H⟩ := H
                  replace H : (some (t229, t230, t231, t232, t233, t234, t235, t236, t237, t238, t239, t240, t241)) = some (r1, r2, r3, r4, r5, r6, r7, r8, r9, r10, r11, r12, r13) := H
                  have A26 := Aside0.mk A260
                  clear A260
                  simp only [Option.some.injEq, Prod.mk.injEq] at H
                  obtain ⟨rfl, rfl, rfl, rfl, rfl, rfl, rfl, rfl, rfl, rfl, rfl, rfl, rfl⟩ := H
                  go_wp2_with (first | ((with_reducible refine Q40 (f := 74) rfl ?_); refine goesL_ (some 46) rfl rfl Tryd.func74 (by kernel_rfl) rfl #[.string a0, .int .i64 (wrap64 (t213 + 1))] rfl (by (try simp only [List.map_toArray, List.map_cons, List.map_nil]); first | done | rfl | (simp only [List.length_drop, List.length_take]; rfl)) ?_; (with_reducible refine (lexis_number.calls kj11 a0 (wrap64 (t213 + 1)) t214 t215 _ A18.out).mono ?_); rintro e w' ⟨rfl, ⟨nd, rfl⟩⟩; refine ⟨_, rfl, ?_⟩; (try (rw [drewN_self wc]; generalize hq_ : World.drewN wc _ = wc; have n0_ : Aside0 (wc.heap[gb210]? = some (.cells #[.int .i64 0, .int .i64 0, .int .i64 0, .string (⟨#[]⟩ : ByteArray), .bool false, .int .u64 0, .int .u64 0, .int .u64 0, .int .u64 0, .int .i64 0, .int .i64 0] 26 (0, 0))) := ⟨by rw [← hq_]; exact (by (with_reducible repeat (first | refine Q12 ?_ _ | refine Q24 ?_ | refine Q17 ?_ _)); exact BK210.out)⟩; have n1_ : Aside0 (wc.heap[gb211]? = some (.cells #[.int .i64 0, .int .i64 0] 41 (0, 0))) := ⟨by rw [← hq_]; exact (by (with_reducible repeat (first | refine Q12 ?_ _ | refine Q24 ?_ | refine Q17 ?_ _)); exact BK211.out)⟩; have n2_ : Aside0 (Below w.heap.size w wc) := ⟨by rw [← hq_]; exact (by repeat (first | (with_reducible first | exact HB.out | apply Q19 | apply Q8 | apply Q23 | refine Q26 ?_ GE210.out | refine Q26 ?_ GE211.out) | exact HB.out))⟩; clear BK210 BK211 HB hq_; have BK210 := n0_; have BK211 := n1_; have HB := n2_; clear n0_ n1_ n2_))) | ((with_reducible refine Q40 (f := 56) rfl ?_); refine goesL_ (some 71) rfl rfl Tryd.func56 (by kernel_rfl) rfl #[.int .i64 a1, .int .i64 43] rfl (by (try simp only [List.map_toArray, List.map_cons, List.map_nil]); first | done | rfl | (simp only [List.length_drop, List.length_take]; rfl)) ?_; (with_reducible refine (lexis_fault.calls a1 43 t229 t230 t231 t232 t233 t234 t235 t236 t237 t238 t239 t240 t241 _ A26.out).mono ?_); rintro e w27 ⟨rfl, hb⟩; refine ⟨_, rfl, ?_⟩; have n0_ := Aside0.mk (Q38 (g := gb210) (o := .cells #[.int .i64 0, .int .i64 0, .int .i64 0, .string (⟨#[]⟩ : ByteArray), .bool false, .int .u64 0, .int .u64 0, .int .u64 0, .int .u64 0, .int .i64 0, .int .i64 0] 26 (0, 0)) (by (with_reducible repeat (first | refine Q12 ?_ _ | refine Q24 ?_ | refine Q17 ?_ _)); exact BK210.out) hb); have n1_ := Aside0.mk (Q38 (g := gb211) (o := .cells #[.int .i64 0, .int .i64 0] 41 (0, 0)) (by (with_reducible repeat (first | refine Q12 ?_ _ | refine Q24 ?_ | refine Q17 ?_ _)); exact BK211.out) hb); have n2_ := Aside0.mk (Q34 (by repeat (first | (with_reducible first | exact HB.out | apply Q19 | apply Q8 | apply Q23 | refine Q26 ?_ GE210.out | refine Q26 ?_ GE211.out) | exact HB.out)) hb); clear BK210; clear BK211; clear HB; have BK210 := n0_; have BK211 := n1_; have HB := n2_; clear n0_ n1_ n2_; (try clear hb); (try clear hb2); (try clear hk); (try clear hi); have hnb28 := NB210_211.out; have hnc28 := NB211_210.out; obtain ⟨hcz29_0, hcz29_1, hcz29_2, hcz29_3, hcz29_4, hcz29_5, hcz29_6, hcz29_7, hcz29_8, hcz29_9, hcz29_10, hfz29_0, hfz29_1, hfz29_2, hfz29_3, hfz29_4, hfz29_5, hfz29_6, hfz29_7, hfz29_8, hfz29_9, hfz29_10⟩ := Q41 BK210.out; obtain ⟨hcz30_0, hcz30_1, hfz30_0, hfz30_1⟩ := blk_cells2 BK211.out))
                  refine bodyPost_ret (results_cc rfl _ _ gb210 gb211 26 41 #[.int .i64 t229, .int .i64 t230, .int .i64 t231, .string t232, .bool t233, .int .u64 t234, .int .u64 t235, .int .u64 t236, .int .u64 t237, .int .i64 t238, .int .i64 t239] #[.int .i64 t240, .int .i64 t241] (0, 0) (0, 0) _ _ rfl (by (with_reducible repeat (first | refine Q12 ?_ _ | refine Q24 ?_ | refine Q17 ?_ _)); refine blk_far2 ?_ NB210_211.out; (with_reducible repeat (first | refine Q12 ?_ _ | refine Q24 ?_ | refine Q17 ?_ _)); apply blk_put11; (with_reducible repeat (first | refine Q12 ?_ _ | refine Q24 ?_ | refine Q17 ?_ _)); exact BK210.out) Tryd.underlying26 rfl (by kernel_rfl) rfl (by (with_reducible repeat (first | refine Q12 ?_ _ | refine Q24 ?_ | refine Q17 ?_ _)); apply blk_put2; (with_reducible repeat (first | refine Q12 ?_ _ | refine Q24 ?_ | refine Q17 ?_ _)); refine blk_far11 ?_ NB211_210.out; (with_reducible repeat (first | refine Q12 ?_ _ | refine Q24 ?_ | refine Q17 ?_ _)); exact BK211.out) Tryd.underlying41 rfl (by kernel_rfl)) rfl ?_
                  exact ⟨by first | rfl | (simp [Q37, Q35] <;> rfl) | (simp [*, Q37, Q35] <;> rfl), by repeat (first | (with_reducible first | exact HB.out | apply Q19 | apply Q8 | apply Q23 | refine Q26 ?_ GE210.out | refine Q26 ?_ GE211.out) | exact HB.out)⟩
                · rw [if_neg c25] at H
                  have c25b0 : decide (t212 < 0) = false := decide_eq_false c25
                  clear c25
                  by_cases c31 : t215 ≥ (a0.size : Int)
                  · rw [if_pos c31] at H
                    have c31b0 : decide ((a0.size : Int) ≤ t215) = true := decide_eq_true c31
                    clear c31
                    replace H := Option.bind_eq_some_iff.mp H
                    obtain ⟨⟨t242, t243, t244, t245, t246, t247, t248, t249, t250, t251, t252, t253, t254⟩, A320, H⟩ := H
                    replace H : (some (t242, t243, t244, t245, t246, t247, t248, t249, t250, t251, t252, t253, t254)) = some (r1, r2, r3, r4, r5, r6, r7, r8, r9, r10, r11, r12, r13) := H
                    have A32 := Aside0.mk A320
                    clear A320
                    simp only [Option.some.injEq, Prod.mk.injEq] at H
                    obtain ⟨rfl, rfl, rfl, rfl, rfl, rfl, rfl, rfl, rfl, rfl, rfl, rfl, rfl⟩ := H
                    go_wp2_with (first | ((with_reducible refine Q40 (f := 74) rfl ?_); refine goesL_ (some 46) rfl rfl Tryd.func74 (by kernel_rfl) rfl #[.string a0, .int .i64 (wrap64 (t213 + 1))] rfl (by (try simp only [List.map_toArray, List.map_cons, List.map_nil]); first | done | rfl | (simp only [List.length_drop, List.length_take]; rfl)) ?_; (with_reducible refine (lexis_number.calls kj11 a0 (wrap64 (t213 + 1)) t214 t215 _ A18.out).mono ?_); rintro e w' ⟨rfl, ⟨nd, rfl⟩⟩; refine ⟨_, rfl, ?_⟩; (try (rw [drewN_self wc]; generalize hq_ : World.drewN wc _ = wc; have n0_ : Aside0 (wc.heap[gb210]? = some (.cells #[.int .i64 0, .int .i64 0, .int .i64 0, .string (⟨#[]⟩ : ByteArray), .bool false, .int .u64 0, .int .u64 0, .int .u64 0, .int .u64 0, .int .i64 0, .int .i64 0] 26 (0, 0))) := ⟨by rw [← hq_]; exact (by (with_reducible repeat (first | refine Q12 ?_ _ | refine Q24 ?_ | refine Q17 ?_ _)); exact BK210.out)⟩; have n1_ : Aside0 (wc.heap[gb211]? = some (.cells #[.int .i64 0, .int .i64 0] 41 (0, 0))) := ⟨by rw [← hq_]; exact (by (with_reducible repeat (first | refine Q12 ?_ _ | refine Q24 ?_ | refine Q17 ?_ _)); exact BK211.out)⟩; have n2_ : Aside0 (Below w.heap.size w wc) := ⟨by rw [← hq_]; exact (by repeat (first | (with_reducible first | exact HB.out | apply Q19 | apply Q8 | apply Q23 | refine Q26 ?_ GE210.out | refine Q26 ?_ GE211.out) | exact HB.out))⟩; clear BK210 BK211 HB hq_; have BK210 := n0_; have BK211 := n1_; have HB := n2_; clear n0_ n1_ n2_))) | ((with_reducible refine Q40 (f := 56) rfl ?_); refine goesL_ (some 71) rfl rfl Tryd.func56 (by kernel_rfl) rfl #[.int .i64 a1, .int .i64 43] rfl (by (try simp only [List.map_toArray, List.map_cons, List.map_nil]); first | done | rfl | (simp only [List.length_drop, List.length_take]; rfl)) ?_; (with_reducible refine (lexis_fault.calls a1 43 t242 t243 t244 t245 t246 t247 t248 t249 t250 t251 t252 t253 t254 _ A32.out).mono ?_); rintro e w33 ⟨rfl, hb⟩; refine ⟨_, rfl, ?_⟩; have n0_ := Aside0.mk (Q38 (g := gb210) (o := .cells #[.int .i64 0, .int .i64 0, .int .i64 0, .string (⟨#[]⟩ : ByteArray), .bool false, .int .u64 0, .int .u64 0, .int .u64 0, .int .u64 0, .int .i64 0, .int .i64 0] 26 (0, 0)) (by (with_reducible repeat (first | refine Q12 ?_ _ | refine Q24 ?_ | refine Q17 ?_ _)); exact BK210.out) hb); have n1_ := Aside0.mk (Q38 (g := gb211) (o := .cells #[.int .i64 0, .int .i64 0] 41 (0, 0)) (by (with_reducible repeat (first | refine Q12 ?_ _ | refine Q24 ?_ | refine Q17 ?_ _)); exact BK211.out) hb); have n2_ := Aside0.mk (Q34 (by repeat (first | (with_reducible first | exact HB.out | apply Q19 | apply Q8 | apply Q23 | refine Q26 ?_ GE210.out | refine Q26 ?_ GE211.out) | exact HB.out)) hb); clear BK210; clear BK211; clear HB; have BK210 := n0_; have BK211 := n1_; have HB := n2_; clear n0_ n1_ n2_; (try clear hb); (try clear hb2); (try clear hk); (try clear hi); have hnb34 := NB210_211.out; have hnc34 := NB211_210.out; obtain ⟨hcz35_0, hcz35_1, hcz35_2, hcz35_3, hcz35_4, hcz35_5, hcz35_6, hcz35_7, hcz35_8, hcz35_9, hcz35_10, hfz35_0, hfz35_1, hfz35_2, hfz35_3, hfz35_4, hfz35_5, hfz35_6, hfz35_7, hfz35_8, hfz35_9, hfz35_10⟩ := Q41 BK210.out; obtain ⟨hcz36_0, hcz36_1, hfz36_0, hfz36_1⟩ := blk_cells2 BK211.out))
                    refine bodyPost_ret (results_cc rfl _ _ gb210 gb211 26 41 #[.int .i64 t242, .int .i64 t243, .int .i64 t244, .string t245, .bool t246, .int .u64 t247, .int .u64 t248, .int .u64 t249, .int .u64 t250, .int .i64 t251, .int .i64 t252] #[.int .i64 t253, .int .i64 t254] (0, 0) (0, 0) _ _ rfl (by (with_reducible repeat (first | refine Q12 ?_ _ | refine Q24 ?_ | refine Q17 ?_ _)); refine blk_far2 ?_ NB210_211.out; (with_reducible repeat (first | refine Q12 ?_ _ | refine Q24 ?_ | refine Q17 ?_ _)); apply blk_put11; (with_reducible repeat (first | refine Q12 ?_ _ | refine Q24 ?_ | refine Q17 ?_ _)); exact BK210.out) Tryd.underlying26 rfl (by kernel_rfl) rfl (by (with_reducible repeat (first | refine Q12 ?_ _ | refine Q24 ?_ | refine Q17 ?_ _)); apply blk_put2; (with_reducible repeat (first | refine Q12 ?_ _ | refine Q24 ?_ | refine Q17 ?_ _)); refine blk_far11 ?_ NB211_210.out; (with_reducible repeat (first | refine Q12 ?_ _ | refine Q24 ?_ | refine Q17 ?_ _)); exact BK211.out) Tryd.underlying41 rfl (by kernel_rfl)) rfl ?_
                    exact ⟨by first | rfl | (simp [Q37, Q35] <;> rfl) | (simp [*, Q37, Q35] <;> rfl), by repeat (first | (with_reducible first | exact HB.out | apply Q19 | apply Q8 | apply Q23 | refine Q26 ?_ GE210.out | refine Q26 ?_ GE211.out) | exact HB.out)⟩
                  · rw [if_neg c31] at H
                    have c31b0 : decide ((a0.size : Int) ≤ t215) = false := decide_eq_false c31
                    clear c31
                    by_cases c37 : 0 ≤ t215
                    · rw [if_pos c37] at H
                      have c37b0 : decide (0 ≤ t215) = true := decide_eq_true c37
                      clear c37
                      by_cases c38 : t215 < (a0.size : Int)
                      · rw [if_pos c38] at H
                        have c38b0 : decide (t215 < (a0.size : Int)) = true := decide_eq_true c38
                        clear c38
                        by_cases c40 : (bt a0 t215) = 125
                        · rw [if_pos c40] at H
                          have c40b0 : ((bt a0 t215) == 125) = true := beq_iff_eq.mpr c40
                          have c40b1 : ((bt a0 t215) != 125) = false := bne_eq_false_iff_eq.mpr c40
                          clear c40
                          simp only [Option.some.injEq, Prod.mk.injEq] at H
                          obtain ⟨rfl, rfl, rfl, rfl, rfl, rfl, rfl, rfl, rfl, rfl, rfl, rfl, rfl⟩ := H
                          go_wp2_with (first | ((with_reducible refine Q40 (f := 74) rfl ?_); refine goesL_ (some 46) rfl rfl Tryd.func74 (by kernel_rfl) rfl #[.string a0, .int .i64 (wrap64 (t213 + 1))] rfl (by (try simp only [List.map_toArray, List.map_cons, List.map_nil]); first | done | rfl | (simp only [List.length_drop, List.length_take]; rfl)) ?_; (with_reducible refine (lexis_number.calls kj11 a0 (wrap64 (t213 + 1)) t214 t215 _ A18.out).mono ?_); rintro e w' ⟨rfl, ⟨nd, rfl⟩⟩; refine ⟨_, rfl, ?_⟩; (try (rw [drewN_self wc]; generalize hq_ : World.drewN wc _ = wc; have n0_ : Aside0 (wc.heap[gb210]? = some (.cells #[.int .i64 0, .int .i64 0, .int .i64 0, .string (⟨#[]⟩ : ByteArray), .bool false, .int .u64 0, .int .u64 0, .int .u64 0, .int .u64 0, .int .i64 0, .int .i64 0] 26 (0, 0))) := ⟨by rw [← hq_]; exact (by (with_reducible repeat (first | refine Q12 ?_ _ | refine Q24 ?_ | refine Q17 ?_ _)); exact BK210.out)⟩; have n1_ : Aside0 (wc.heap[gb211]? = some (.cells #[.int .i64 0, .int .i64 0] 41 (0, 0))) := ⟨by rw [← hq_]; exact (by (with_reducible repeat (first | refine Q12 ?_ _ | refine Q24 ?_ | refine Q17 ?_ _)); exact BK211.out)⟩; have n2_ : Aside0 (Below w.heap.size w wc) := ⟨by rw [← hq_]; exact (by repeat (first | (with_reducible first | exact HB.out | apply Q19 | apply Q8 | apply Q23 | refine Q26 ?_ GE210.out | refine Q26 ?_ GE211.out) | exact HB.out))⟩; clear BK210 BK211 HB hq_; have BK210 := n0_; have BK211 := n1_; have HB := n2_; clear n0_ n1_ n2_)); have p39 : 0 ≤ (t215 : Int) := of_decide_eq_true (by first | (with_reducible assumption) | assumption); have q39 : t215 < (a0.size : Int) := of_decide_eq_true (by first | (with_reducible assumption) | assumption); have hx39 := bt_at a0 t215; replace p39 := eq_true p39; replace q39 := eq_true q39; have hnb41 := NB210_211.out; have hnc41 := NB211_210.out; obtain ⟨hcz42_0, hcz42_1, hcz42_2, hcz42_3, hcz42_4, hcz42_5, hcz42_6, hcz42_7, hcz42_8, hcz42_9, hcz42_10, hfz42_0, hfz42_1, hfz42_2, hfz42_3, hfz42_4, hfz42_5, hfz42_6, hfz42_7, hfz42_8, hfz42_9, hfz42_10⟩ := Q41 BK210.out; obtain ⟨hcz43_0, hcz43_1, hfz43_0, hfz43_1⟩ := blk_cells2 BK211.out))
                          refine bodyPost_ret (results_cc rfl _ _ gb210 gb211 26 41 #[.int .i64 9, .int .i64 a1, .int .i64 (wrap64 (t215 + 1)), .string (⟨#[]⟩ : ByteArray), .bool false, .int .u64 0, .int .u64 0, .int .u64 0, .int .u64 0, .int .i64 t212, .int .i64 t214] #[.int .i64 0, .int .i64 0] (0, 0) (0, 0) _ _ rfl (by (with_reducible repeat (first | refine Q12 ?_ _ | refine Q24 ?_ | refine Q17 ?_ _)); refine blk_far2 ?_ NB210_211.out; (with_reducible repeat (first | refine Q12 ?_ _ | refine Q24 ?_ | refine Q17 ?_ _)); apply blk_put11; (with_reducible repeat (first | refine Q12 ?_ _ | refine Q24 ?_ | refine Q17 ?_ _)); exact BK210.out) Tryd.underlying26 rfl (by kernel_rfl) rfl (by (with_reducible repeat (first | refine Q12 ?_ _ | refine Q24 ?_ | refine Q17 ?_ _)); apply blk_put2; (with_reducible repeat (first | refine Q12 ?_ _ | refine Q24 ?_ | refine Q17 ?_ _)); refine blk_far11 ?_ NB211_210.out; (with_reducible repeat (first | refine Q12 ?_ _ | refine Q24 ?_ | refine Q17 ?_ _)); exact BK211.out) Tryd.underlying41 rfl (by kernel_rfl)) rfl ?_
                          exact ⟨by first | rfl | (simp [Q37, Q35] <;> rfl) | (simp [*, Q37, Q35] <;> rfl), by repeat (first | (with_reducible first | exact HB.out | apply Q19 | apply Q8 | apply Q23 | refine Q26 ?_ GE210.out | refine Q26 ?_ GE211.out) | exact HB.out)⟩
                        · rw [if_neg c40] at H
                          have c40b0 : ((bt a0 t215) == 125) = false := beq_eq_false_iff_ne.mpr c40
                          have c40b1 : ((bt a0 t215) != 125) = true := bne_iff_ne.mpr c40
                          replace H := Option.bind_eq_some_iff.mp H
                          obtain ⟨⟨t255, t256, t257, t258, t259, t260, t261, t262, t263, t264, t265, t266, t267⟩, A440, H⟩ := H
                          replace H : (some (t255, t256, t257, t258, t259, t260, t261, t262, t263, t264, t265, t266, t267)) = some (r1, r2, r3, r4, r5, r6, r7, r8, r9, r10, r11, r12, r13) := H
                          have A44 := Aside0.mk A440
                          clear A440
                          simp only [Option.some.injEq, Prod.mk.injEq] at H
                          obtain ⟨rfl, rfl, rfl, rfl, rfl, rfl, rfl, rfl, rfl, rfl, rfl, rfl, rfl⟩ := H
                          go_wp2_with (first | ((with_reducible refine Q40 (f := 74) rfl ?_); refine goesL_ (some 46) rfl rfl Tryd.func74 (by kernel_rfl) rfl #[.string a0, .int .i64 (wrap64 (t213 + 1))] rfl (by (try simp only [List.map_toArray, List.map_cons, List.map_nil]); first | done | rfl | (simp only [List.length_drop, List.length_take]; rfl)) ?_; (with_reducible refine (lexis_number.calls kj11 a0 (wrap64 (t213 + 1)) t214 t215 _ A18.out).mono ?_); rintro e w' ⟨rfl, ⟨nd, rfl⟩⟩; refine ⟨_, rfl, ?_⟩; (try (rw [drewN_self wc]; generalize hq_ : World.drewN wc _ = wc; have n0_ : Aside0 (wc.heap[gb210]? = some (.cells #[.int .i64 0, .int .i64 0, .int .i64 0, .string (⟨#[]⟩ : ByteArray), .bool false, .int .u64 0, .int .u64 0, .int .u64 0, .int .u64 0, .int .i64 0, .int .i64 0] 26 (0, 0))) := ⟨by rw [← hq_]; exact (by (with_reducible repeat (first | refine Q12 ?_ _ | refine Q24 ?_ | refine Q17 ?_ _)); exact BK210.out)⟩; have n1_ : Aside0 (wc.heap[gb211]? = some (.cells #[.int .i64 0, .int .i64 0] 41 (0, 0))) := ⟨by rw [← hq_]; exact (by (with_reducible repeat (first | refine Q12 ?_ _ | refine Q24 ?_ | refine Q17 ?_ _)); exact BK211.out)⟩; have n2_ : Aside0 (Below w.heap.size w wc) := ⟨by rw [← hq_]; exact (by repeat (first | (with_reducible first | exact HB.out | apply Q19 | apply Q8 | apply Q23 | refine Q26 ?_ GE210.out | refine Q26 ?_ GE211.out) | exact HB.out))⟩; clear BK210 BK211 HB hq_; have BK210 := n0_; have BK211 := n1_; have HB := n2_; clear n0_ n1_ n2_)); have p39 : 0 ≤ (t215 : Int) := of_decide_eq_true (by first | (with_reducible assumption) | assumption); have q39 : t215 < (a0.size : Int) := of_decide_eq_true (by first | (with_reducible assumption) | assumption); have hx39 := bt_at a0 t215; replace p39 := eq_true p39; replace q39 := eq_true q39) | ((with_reducible refine Q40 (f := 56) rfl ?_); refine goesL_ (some 71) rfl rfl Tryd.func56 (by kernel_rfl) rfl #[.int .i64 a1, .int .i64 43] rfl (by (try simp only [List.map_toArray, List.map_cons, List.map_nil]); first | done | rfl | (simp only [List.length_drop, List.length_take]; rfl)) ?_; (with_reducible refine (lexis_fault.calls a1 43 t255 t256 t257 t258 t259 t260 t261 t262 t263 t264 t265 t266 t267 _ A44.out).mono ?_); rintro e w45 ⟨rfl, hb⟩; refine ⟨_, rfl, ?_⟩; have n0_ := Aside0.mk (Q38 (g := gb210) (o := .cells #[.int .i64 0, .int .i64 0, .int .i64 0, .string (⟨#[]⟩ : ByteArray), .bool false, .int .u64 0, .int .u64 0, .int .u64 0, .int .u64 0, .int .i64 0, .int .i64 0] 26 (0, 0)) (by (with_reducible repeat (first | refine Q12 ?_ _ | refine Q24 ?_ | refine Q17 ?_ _)); exact BK210.out) hb); have n1_ := Aside0.mk (Q38 (g := gb211) (o := .cells #[.int .i64 0, .int .i64 0] 41 (0, 0)) (by (with_reducible repeat (first | refine Q12 ?_ _ | refine Q24 ?_ | refine Q17 ?_ _)); exact BK211.out) hb); have n2_ := Aside0.mk (Q34 (by repeat (first | (with_reducible first | exact HB.out | apply Q19 | apply Q8 | apply Q23 | refine Q26 ?_ GE210.out | refine Q26 ?_ GE211.out) | exact HB.out)) hb); clear BK210; clear BK211; clear HB; have BK210 := n0_; have BK211 := n1_; have HB := n2_; clear n0_ n1_ n2_; (try clear hb); (try clear hb2); (try clear hk); (try clear hi); have hnb46 := NB210_211.out; have hnc46 := NB211_210.out; obtain ⟨hcz47_0, hcz47_1, hcz47_2, hcz47_3, hcz47_4, hcz47_5, hcz47_6, hcz47_7, hcz47_8, hcz47_9, hcz47_10, hfz47_0, hfz47_1, hfz47_2, hfz47_3, hfz47_4, hfz47_5, hfz47_6, hfz47_7, hfz47_8, hfz47_9, hfz47_10⟩ := Q41 BK210.out; obtain ⟨hcz48_0, hcz48_1, hfz48_0, hfz48_1⟩ := blk_cells2 BK211.out))
                          refine bodyPost_ret (results_cc rfl _ _ gb210 gb211 26 41 #[.int .i64 t255, .int .i64 t256, .int .i64 t257, .string t258, .bool t259, .int .u64 t260, .int .u64 t261, .int .u64 t262, .int .u64 t263, .int .i64 t264, .int .i64 t265] #[.int .i64 t266, .int .i64 t267] (0, 0) (0, 0) _ _ rfl (by (with_reducible repeat (first | refine Q12 ?_ _ | refine Q24 ?_ | refine Q17 ?_ _)); refine blk_far2 ?_ NB210_211.out; (with_reducible repeat (first | refine Q12 ?_ _ | refine Q24 ?_ | refine Q17 ?_ _)); apply blk_put11; (with_reducible repeat (first | refine Q12 ?_ _ | refine Q24 ?_ | refine Q17 ?_ _)); exact BK210.out) Tryd.underlying26 rfl (by kernel_rfl) rfl (by (with_reducible repeat (first | refine Q12 ?_ _ | refine Q24 ?_ | refine Q17 ?_ _)); apply blk_put2; (with_reducible repeat (first | refine Q12 ?_ _ | refine Q24 ?_ | refine Q17 ?_ _)); refine blk_far11 ?_ NB211_210.out; (with_reducible repeat (first | refine Q12 ?_ _ | refine Q24 ?_ | refine Q17 ?_ _)); exact BK211.out) Tryd.underlying41 rfl (by kernel_rfl)) rfl ?_
                          exact ⟨by first | rfl | (simp [Q37, Q35] <;> rfl) | (simp [*, Q37, Q35] <;> rfl), by repeat (first | (with_reducible first | exact HB.out | apply Q19 | apply Q8 | apply Q23 | refine Q26 ?_ GE210.out | refine Q26 ?_ GE211.out) | exact HB.out)⟩
                      · rw [if_neg c38] at H
                        exact absurd H (by simp)
                    · rw [if_neg c37] at H
                      exact absurd H (by simp)
            · replace c17 := Bool.eq_false_iff.mpr c17
              subst c17
              have H1 : (if t212 < 0 then ((lexis_fault.f a1 43).bind fun bt268 => (some (bt268.1, bt268.2.1, bt268.2.2.1, bt268.2.2.2.1, bt268.2.2.2.2.1, bt268.2.2.2.2.2.1, bt268.2.2.2.2.2.2.1, bt268.2.2.2.2.2.2.2.1, bt268.2.2.2.2.2.2.2.2.1, bt268.2.2.2.2.2.2.2.2.2.1, bt268.2.2.2.2.2.2.2.2.2.2.1, bt268.2.2.2.2.2.2.2.2.2.2.2.1, bt268.2.2.2.2.2.2.2.2.2.2.2.2))) else (if (wrap64 (t213 + 1)) ≥ (a0.size : Int) then ((lexis_fault.f a1 43).bind fun bt281 => (some (bt281.1, bt281.2.1, bt281.2.2.1, bt281.2.2.2.1, bt281.2.2.2.2.1, bt281.2.2.2.2.2.1, bt281.2.2.2.2.2.2.1, bt281.2.2.2.2.2.2.2.1, bt281.2.2.2.2.2.2.2.2.1, bt281.2.2.2.2.2.2.2.2.2.1, bt281.2.2.2.2.2.2.2.2.2.2.1, bt281.2.2.2.2.2.2.2.2.2.2.2.1, bt281.2.2.2.2.2.2.2.2.2.2.2.2))) else (if 0 ≤ (wrap64 (t213 + 1)) then (if (wrap64 (t213 + 1)) < (a0.size : Int) then (if (bt a0 (wrap64 (t213 + 1))) = 125 then (some (9, a1, wrap64 ((wrap64 (t213 + 1)) + 1), (⟨#[]⟩ : ByteArray), false, 0, 0, 0, 0, t212, (-1), 0, 0)) else ((lexis_fault.f a1 43).bind fun bt294 => (some (bt294.1, bt294.2.1, bt294.2.2.1, bt294.2.2.2.1, bt294.2.2.2.2.1, bt294.2.2.2.2.2.1, bt294.2.2.2.2.2.2.1, bt294.2.2.2.2.2.2.2.1, bt294.2.2.2.2.2.2.2.2.1, bt294.2.2.2.2.2.2.2.2.2.1, bt294.2.2.2.2.2.2.2.2.2.2.1, bt294.2.2.2.2.2.2.2.2.2.2.2.1, bt294.2.2.2.2.2.2.2.2.2.2.2.2)))) else (none)) else (none)))) = some (r1, r2, r3, r4, r5, r6, r7, r8, r9, r10, r11, r12, r13) := by rw [if_neg (show ¬ (false = true) by decide)] at H; exact H
              clear H
              have H := H1
              clear H1
              by_cases c49 : t212 < 0
              · rw [if_pos c49] at H
                have c49b0 : decide (t212 < 0) = true := decide_eq_true c49
                clear c49
                replace H := Option.bind_eq_some_iff.mp H
                obtain ⟨⟨t268, t269, t270, t271, t272, t273, t274, t275, t276, t277, t278, t279, t280⟩, A500, H⟩ := H
                replace H : (some (t268, t269, t270, t271, t272, t273, t274, t275, t276, t277, t278, t279, t280)) = some (r1, r2, r3, r4, r5, r6, r7, r8, r9, r10, r11, r12, r13) := H
                have A50 := Aside0.mk A500
                clear A500
                simp only [Option.some.injEq, Prod.mk.injEq] at H
                obtain ⟨rfl, rfl, rfl, rfl, rfl, rfl, rfl, rfl, rfl, rfl, rfl, rfl, rfl⟩ := H
                go_wp2_with (first | ((with_reducible refine Q40 (f := 56) rfl ?_); refine goesL_ (some 71) rfl rfl Tryd.func56 (by kernel_rfl) rfl #[.int .i64 a1, .int .i64 43] rfl (by (try simp only [List.map_toArray, List.map_cons, List.map_nil]); first | done | rfl | (simp only [List.length_drop, List.length_take]; rfl)) ?_; (with_reducible refine (lexis_fault.calls a1 43 t268 t269 t270 t271 t272 t273 t274 t275 t276 t277 t278 t279 t280 _ A50.out).mono ?_); rintro e w51 ⟨rfl, hb⟩; refine ⟨_, rfl, ?_⟩; have n0_ := Aside0.mk (Q38 (g := gb210) (o := .cells #[.int .i64 0, .int .i64 0, .int .i64 0, .string (⟨#[]⟩ : ByteArray), .bool false, .int .u64 0, .int .u64 0, .int .u64 0, .int .u64 0, .int .i64 0, .int .i64 0] 26 (0, 0)) (by (with_reducible repeat (first | refine Q12 ?_ _ | refine Q24 ?_ | refine Q17 ?_ _)); exact BK210.out) hb); have n1_ := Aside0.mk (Q38 (g := gb211) (o := .cells #[.int .i64 0, .int .i64 0] 41 (0, 0)) (by (with_reducible repeat (first | refine Q12 ?_ _ | refine Q24 ?_ | refine Q17 ?_ _)); exact BK211.out) hb); have n2_ := Aside0.mk (Q34 (by repeat (first | (with_reducible first | exact HB.out | apply Q19 | apply Q8 | apply Q23 | refine Q26 ?_ GE210.out | refine Q26 ?_ GE211.out) | exact HB.out)) hb); clear BK210; clear BK211; clear HB; have BK210 := n0_; have BK211 := n1_; have HB := n2_; clear n0_ n1_ n2_; (try clear hb); (try clear hb2); (try clear hk); (try clear hi); have hnb52 := NB210_211.out; have hnc52 := NB211_210.out; obtain ⟨hcz53_0, hcz53_1, hcz53_2, hcz53_3, hcz53_4, hcz53_5, hcz53_6, hcz53_7, hcz53_8, hcz53_9, hcz53_10, hfz53_0, hfz53_1, hfz53_2, hfz53_3, hfz53_4, hfz53_5, hfz53_6, hfz53_7, hfz53_8, hfz53_9, hfz53_10⟩ := Q41 BK210.out; obtain ⟨hcz54_0, hcz54_1, hfz54_0, hfz54_1⟩ := blk_cells2 BK211.out))
                refine bodyPost_ret (results_cc rfl _ _ gb210 gb211 26 41 #[.int .i64 t268, .int .i64 t269, .int .i64 t270, .string t271, .bool t272, .int .u64 t273, .int .u64 t274, .int .u64 t275, .int .u64 t276, .int .i64 t277, .int .i64 t278] #[.int .i64 t279, .int .i64 t280] (0, 0) (0, 0) _ _ rfl (by (with_reducible repeat (first | refine Q12 ?_ _ | refine Q24 ?_ | refine Q17 ?_ _)); refine blk_far2 ?_ NB210_211.out; (with_reducible repeat (first | refine Q12 ?_ _ | refine Q24 ?_ | refine Q17 ?_ _)); apply blk_put11; (with_reducible repeat (first | refine Q12 ?_ _ | refine Q24 ?_ | refine Q17 ?_ _)); exact BK210.out) Tryd.underlying26 rfl (by kernel_rfl) rfl (by (with_reducible repeat (first | refine Q12 ?_ _ | refine Q24 ?_ | refine Q17 ?_ _)); apply blk_put2; (with_reducible repeat (first | refine Q12 ?_ _ | refine Q24 ?_ | refine Q17 ?_ _)); refine blk_far11 ?_ NB211_210.out; (with_reducible repeat (first | refine Q12 ?_ _ | refine Q24 ?_ | refine Q17 ?_ _)); exact BK211.out) Tryd.underlying41 rfl (by kernel_rfl)) rfl ?_
                exact ⟨by first | rfl | (simp [Q37, Q35] <;> rfl) | (simp [*, Q37, Q35] <;> rfl), by repeat (first | (with_reducible first | exact HB.out | apply Q19 | apply Q8 | apply Q23 | refine Q26 ?_ GE210.out | refine Q26 ?_ GE211.out) | exact HB.out)⟩
              · rw [if_neg c49] at H
                have c49b0 : decide (t212 < 0) = false := decide_eq_false c49
                clear c49
                by_cases c55 : (wrap64 (t213 + 1)) ≥ (a0.size : Int)
                · rw [if_pos c55] at H
                  have c55b0 : decide ((a0.size : Int) ≤ (wrap64 (t213 + 1))) = true := decide_eq_true c55
                  clear c55
                  replace H := Option.bind_eq_some_iff.mp H
                  obtain ⟨⟨t281, t282, t283, t284, t285, t286, t287, t288, t289, t290, t291, t292, t293⟩, A560, H⟩ := H
                  replace H : (some (t281, t282, t283, t284, t285, t286, t287, t288, t289, t290, t291, t292, t293)) = some (r1, r2, r3, r4, r5, r6, r7, r8, r9, r10, r11, r12, r13) := H
                  have A56 := Aside0.mk A560
                  clear A560
                  simp only [Option.some.injEq, Prod.mk.injEq] at H
                  obtain ⟨rfl, rfl, rfl, rfl, rfl, rfl, rfl, rfl, rfl, rfl, rfl, rfl, rfl⟩ := H
                  go_wp2_with (first | ((with_reducible refine Q40 (f := 56) rfl ?_); refine goesL_ (some 71) rfl rfl Tryd.func56 (by kernel_rfl) rfl #[.int .i64 a1, .int .i64 43] rfl (by (try simp only [List.map_toArray, List.map_cons, List.map_nil]); first | done | rfl | (simp only [List.length_drop, List.length_take]; rfl)) ?_; (with_reducible refine (lexis_fault.calls a1 43 t281 t282 t283 t284 t285 t286 t287 t288 t289 t290 t291 t292 t293 _ A56.out).mono ?_); rintro e w57 ⟨rfl, hb⟩; refine ⟨_, rfl, ?_⟩; have n0_ := Aside0.mk (Q38 (g := gb210) (o := .cells #[.int .i64 0, .int .i64 0, .int .i64 0, .string (⟨#[]⟩ : ByteArray), .bool false, .int .u64 0, .int .u64 0, .int .u64 0, .int .u64 0, .int .i64 0, .int .i64 0] 26 (0, 0)) (by (with_reducible repeat (first | refine Q12 ?_ _ | refine Q24 ?_ | refine Q17 ?_ _)); exact BK210.out) hb); have n1_ := Aside0.mk (Q38 (g := gb211) (o := .cells #[.int .i64 0, .int .i64 0] 41 (0, 0)) (by (with_reducible repeat (first | refine Q12 ?_ _ | refine Q24 ?_ | refine Q17 ?_ _)); exact BK211.out) hb); have n2_ := Aside0.mk (Q34 (by repeat (first | (with_reducible first | exact HB.out | apply Q19 | apply Q8 | apply Q23 | refine Q26 ?_ GE210.out | refine Q26 ?_ GE211.out) | exact HB.out)) hb); clear BK210; clear BK211; clear HB; have BK210 := n0_; have BK211 := n1_; have HB := n2_; clear n0_ n1_ n2_; (try clear hb); (try clear hb2); (try clear hk); (try clear hi); have hnb58 := NB210_211.out; have hnc58 := NB211_210.out; obtain ⟨hcz59_0, hcz59_1, hcz59_2, hcz59_3, hcz59_4, hcz59_5, hcz59_6, hcz59_7, hcz59_8, hcz59_9, hcz59_10, hfz59_0, hfz59_1, hfz59_2, hfz59_3, hfz59_4, hfz59_5, hfz59_6, hfz59_7, hfz59_8, hfz59_9, hfz59_10⟩ := Q41 BK210.out; obtain ⟨hcz60_0, hcz60_1, hfz60_0, hfz60_1⟩ := blk_cells2 BK211.out))
                  refine bodyPost_ret (results_cc rfl _ _ gb210 gb211 26 41 #[.int .i64 t281, .int .i64 t282, .int .i64 t283, .string t284, .bool t285, .int .u64 t286, .int .u64 t287, .int .u64 t288, .int .u64 t289, .int .i64 t290, .int .i64 t291] #[.int .i64 t292, .int .i64 t293] (0, 0) (0, 0) _ _ rfl (by (with_reducible repeat (first | refine Q12 ?_ _ | refine Q24 ?_ | refine Q17 ?_ _)); refine blk_far2 ?_ NB210_211.out; (with_reducible repeat (first | refine Q12 ?_ _ | refine Q24 ?_ | refine Q17 ?_ _)); apply blk_put11; (with_reducible repeat (first | refine Q12 ?_ _ | refine Q24 ?_ | refine Q17 ?_ _)); exact BK210.out) Tryd.underlying26 rfl (by kernel_rfl) rfl (by (with_reducible repeat (first | refine Q12 ?_ _ | refine Q24 ?_ | refine Q17 ?_ _)); apply blk_put2; (with_reducible repeat (first | refine Q12 ?_ _ | refine Q24 ?_ | refine Q17 ?_ _)); refine blk_far11 ?_ NB211_210.out; (with_reducible repeat (first | refine Q12 ?_ _ | refine Q24 ?_ | refine Q17 ?_ _)); exact BK211.out) Tryd.underlying41 rfl (by kernel_rfl)) rfl ?_
                  exact ⟨by first | rfl | (simp [Q37, Q35] <;> rfl) | (simp [*, Q37, Q35] <;> rfl), by repeat (first | (with_reducible first | exact HB.out | apply Q19 | apply Q8 | apply Q23 | refine Q26 ?_ GE210.out | refine Q26 ?_ GE211.out) | exact HB.out)⟩
                · rw [if_neg c55] at H
                  have c55b0 : decide ((a0.size : Int) ≤ (wrap64 (t213 + 1))) = false := decide_eq_false c55
                  clear c55
                  obtain ⟨ji61, hji61⟩ : ∃ j_ : Int, (wrap64 (t213 + 1)) = j_ := ⟨_, rfl⟩
                  replace H : (if 0 ≤ (ji61) then (if (ji61) < (a0.size : Int) then (if (bt a0 (ji61)) = 125 then (some (9, a1, wrap64 ((ji61) + 1), (⟨#[]⟩ : ByteArray), false, 0, 0, 0, 0, t212, (-1), 0, 0)) else ((lexis_fault.f a1 43).bind fun bt294 => (some (bt294.1, bt294.2.1, bt294.2.2.1, bt294.2.2.2.1, bt294.2.2.2.2.1, bt294.2.2.2.2.2.1, bt294.2.2.2.2.2.2.1, bt294.2.2.2.2.2.2.2.1, bt294.2.2.2.2.2.2.2.2.1, bt294.2.2.2.2.2.2.2.2.2.1, bt294.2.2.2.2.2.2.2.2.2.2.1, bt294.2.2.2.2.2.2.2.2.2.2.2.1, bt294.2.2.2.2.2.2.2.2.2.2.2.2)))) else (none)) else (none)) = some (r1, r2, r3, r4, r5, r6, r7, r8, r9, r10, r11, r12, r13) := by first | (rw [hji61] at H; exact H) | (simp only [hji61] at H ⊢; exact H)
                  (try rw [hji61] at c55b0)
                  have hji61w : (IntKind.i64.wrap (t213 + 1)) = ji61 := (i64_w _).trans hji61
                  by_cases c62 : 0 ≤ (ji61)
                  · rw [if_pos c62] at H
                    have c62b0 : decide (0 ≤ (ji61)) = true := decide_eq_true c62
                    clear c62
                    by_cases c63 : (ji61) < (a0.size : Int)
                    · rw [if_pos c63] at H
                      have c63b0 : decide ((ji61) < (a0.size : Int)) = true := decide_eq_true c63
                      clear c63
                      by_cases c65 : (bt a0 (ji61)) = 125
                      · rw [if_pos c65] at H
                        have c65b0 : ((bt a0 (ji61)) == 125) = true := beq_iff_eq.mpr c65
                        have c65b1 : ((bt a0 (ji61)) != 125) = false := bne_eq_false_iff_eq.mpr c65
                        clear c65
                        simp only [Option.some.injEq, Prod.mk.injEq] at H
                        obtain ⟨rfl, rfl, rfl, rfl, rfl, rfl, rfl, rfl, rfl, rfl, rfl, rfl, rfl⟩ := H
                        have p64 : 0 ≤ ((ji61) : Int) := of_decide_eq_true (by first | (with_reducible assumption) | assumption)
                        have q64 : (ji61) < (a0.size : Int) := of_decide_eq_true (by first | (with_reducible assumption) | assumption)
                        have hx64 := bt_at a0 (ji61)
                        replace p64 := eq_true p64
                        replace q64 := eq_true q64
                        have hnb66 := NB210_211.out
                        have hnc66 := NB211_210.out
                        have hcz67_0 : wc.cell? ⟨gb210, 0, none⟩ = some (.int .i64 0) := (Q32 BK210.out 0).trans rfl
                        have hcz67_1 : wc.cell? ⟨gb210, 1, none⟩ = some (.int .i64 0) := (Q32 BK210.out 1).trans rfl
                        have hcz67_2 : wc.cell? ⟨gb210, 2, none⟩ = some (.int .i64 0) := (Q32 BK210.out 2).trans rfl
                        have hcz67_3 : wc.cell? ⟨gb210, 3, none⟩ = some (.string (⟨#[]⟩ : ByteArray)) := (Q32 BK210.out 3).trans rfl
                        have hcz67_4 : wc.cell? ⟨gb210, 4, none⟩ = some (.bool false) := (Q32 BK210.out 4).trans rfl
                        have hcz67_5 : wc.cell? ⟨gb210, 5, none⟩ = some (.int .u64 0) := (Q32 BK210.out 5).trans rfl
                        have hcz67_6 : wc.cell? ⟨gb210, 6, none⟩ = some (.int .u64 0) := (Q32 BK210.out 6).trans rfl
                        have hcz67_7 : wc.cell? ⟨gb210, 7, none⟩ = some (.int .u64 0) := (Q32 BK210.out 7).trans rfl
                        have hcz67_8 : wc.cell? ⟨gb210, 8, none⟩ = some (.int .u64 0) := (Q32 BK210.out 8).trans rfl
                        have hcz67_9 : wc.cell? ⟨gb210, 9, none⟩ = some (.int .i64 0) := (Q32 BK210.out 9).trans rfl
                        have hcz67_10 : wc.cell? ⟨gb210, 10, none⟩ = some (.int .i64 0) := (Q32 BK210.out 10).trans rfl
                        have hfz67_0 := Q28 BK210.out 0
                        have hfz67_1 := Q28 BK210.out 1
                        have hfz67_2 := Q28 BK210.out 2
                        have hfz67_3 := Q28 BK210.out 3
                        have hfz67_4 := Q28 BK210.out 4
                        have hfz67_5 := Q28 BK210.out 5
                        have hfz67_6 := Q28 BK210.out 6
                        have hfz67_7 := Q28 BK210.out 7
                        have hfz67_8 := Q28 BK210.out 8
                        have hfz67_9 := Q28 BK210.out 9
                        have hfz67_10 := Q28 BK210.out 10
                        have hcz68_0 : wc.cell? ⟨gb211, 0, none⟩ = some (.int .i64 0) := (Q32 BK211.out 0).trans rfl
                        have hcz68_1 : wc.cell? ⟨gb211, 1, none⟩ = some (.int .i64 0) := (Q32 BK211.out 1).trans rfl
                        have hfz68_0 := Q28 BK211.out 0
                        have hfz68_1 := Q28 BK211.out 1
                        go_wp2
                        refine bodyPost_ret (results_cc rfl _ _ gb210 gb211 26 41 #[.int .i64 9, .int .i64 a1, .int .i64 (wrap64 ((ji61) + 1)), .string (⟨#[]⟩ : ByteArray), .bool false, .int .u64 0, .int .u64 0, .int .u64 0, .int .u64 0, .int .i64 t212, .int .i64 (-1)] #[.int .i64 0, .int .i64 0] (0, 0) (0, 0) _ _ rfl (by (with_reducible repeat (first | refine Q12 ?_ _ | refine Q24 ?_ | refine Q17 ?_ _)); refine blk_far2 ?_ NB210_211.out; (with_reducible repeat (first | refine Q12 ?_ _ | refine Q24 ?_ | refine Q17 ?_ _)); apply blk_put11; (with_reducible repeat (first | refine Q12 ?_ _ | refine Q24 ?_ | refine Q17 ?_ _)); exact BK210.out) Tryd.underlying26 rfl (by kernel_rfl) rfl (by (with_reducible repeat (first | refine Q12 ?_ _ | refine Q24 ?_ | refine Q17 ?_ _)); apply blk_put2; (with_reducible repeat (first | refine Q12 ?_ _ | refine Q24 ?_ | refine Q17 ?_ _)); refine blk_far11 ?_ NB211_210.out; (with_reducible repeat (first | refine Q12 ?_ _ | refine Q24 ?_ | refine Q17 ?_ _)); exact BK211.out) Tryd.underlying41 rfl (by kernel_rfl)) rfl ?_
                        exact ⟨by first | rfl | (simp [Q37, Q35] <;> rfl) | (simp only [← hji61]; first | rfl | (simp [Q37, Q35] <;> rfl)) | (simp [*, Q37, Q35] <;> rfl), by repeat (first | (with_reducible first | exact HB.out | apply Q19 | apply Q8 | apply Q23 | refine Q26 ?_ GE210.out | refine Q26 ?_ GE211.out) | exact HB.out)⟩
                      · rw [if_neg c65] at H
                        have c65b0 : ((bt a0 (ji61)) == 125) = false := beq_eq_false_iff_ne.mpr c65
                        have c65b1 : ((bt a0 (ji61)) != 125) = true := bne_iff_ne.mpr c65
                        replace H := Option.bind_eq_some_iff.mp H
                        obtain ⟨⟨t294, t295, t296, t297, t298, t299, t300, t301, t302, t303, t304, t305, t306⟩, A690, H⟩ := H
                        replace H : (some (t294, t295, t296, t297, t298, t299, t300, t301, t302, t303, t304, t305, t306)) = some (r1, r2, r3, r4, r5, r6, r7, r8, r9, r10, r11, r12, r13) := H
                        have A69 := Aside0.mk A690
                        clear A690
                        simp only [Option.some.injEq, Prod.mk.injEq] at H
                        obtain ⟨rfl, rfl, rfl, rfl, rfl, rfl, rfl, rfl, rfl, rfl, rfl, rfl, rfl⟩ := H
                        have p64 : 0 ≤ ((ji61) : Int) := of_decide_eq_true (by first | (with_reducible assumption) | assumption)
                        have q64 : (ji61) < (a0.size : Int) := of_decide_eq_true (by first | (with_reducible assumption) | assumption)
                        have hx64 := bt_at a0 (ji61)
                        replace p64 := eq_true p64
                        replace q64 := eq_true q64
                        go_wp2_with (first | ((with_reducible refine Q40 (f := 56) rfl ?_); refine goesL_ (some 71) rfl rfl Tryd.func56 (by kernel_rfl) rfl #[.int .i64 a1, .int .i64 43] rfl (by (try simp only [List.map_toArray, List.map_cons, List.map_nil]); first | done | rfl | (simp only [List.length_drop, List.length_take]; rfl)) ?_; (with_reducible refine (lexis_fault.calls a1 43 t294 t295 t296 t297 t298 t299 t300 t301 t302 t303 t304 t305 t306 _ A69.out).mono ?_); rintro e w70 ⟨rfl, hb⟩; refine ⟨_, rfl, ?_⟩; have n0_ := Aside0.mk (Q38 (g := gb210) (o := .cells #[.int .i64 0, .int .i64 0, .int .i64 0, .string (⟨#[]⟩ : ByteArray), .bool false, .int .u64 0, .int .u64 0, .int .u64 0, .int .u64 0, .int .i64 0, .int .i64 0] 26 (0, 0)) (by (with_reducible repeat (first | refine Q12 ?_ _ | refine Q24 ?_ | refine Q17 ?_ _)); exact BK210.out) hb); have n1_ := Aside0.mk (Q38 (g := gb211) (o := .cells #[.int .i64 0, .int .i64 0] 41 (0, 0)) (by (with_reducible repeat (first | refine Q12 ?_ _ | refine Q24 ?_ | refine Q17 ?_ _)); exact BK211.out) hb); have n2_ := Aside0.mk (Q34 (by repeat (first | (with_reducible first | exact HB.out | apply Q19 | apply Q8 | apply Q23 | refine Q26 ?_ GE210.out | refine Q26 ?_ GE211.out) | exact HB.out)) hb); clear BK210; clear BK211; clear HB; have BK210 := n0_; have BK211 := n1_; have HB := n2_; clear n0_ n1_ n2_; (try clear hb); (try clear hb2); (try clear hk); (try clear hi); have hnb71 := NB210_211.out; have hnc71 := NB211_210.out; obtain ⟨hcz72_0, hcz72_1, hcz72_2, hcz72_3, hcz72_4, hcz72_5, hcz72_6, hcz72_7, hcz72_8, hcz72_9, hcz72_10, hfz72_0, hfz72_1, hfz72_2, hfz72_3, hfz72_4, hfz72_5, hfz72_6, hfz72_7, hfz72_8, hfz72_9, hfz72_10⟩ := Q41 BK210.out; obtain ⟨hcz73_0, hcz73_1, hfz73_0, hfz73_1⟩ := blk_cells2 BK211.out))
                        refine bodyPost_ret (results_cc rfl _ _ gb210 gb211 26 41 #[.int .i64 t294, .int .i64 t295, .int .i64 t296, .string t297, .bool t298, .int .u64 t299, .int .u64 t300, .int .u64 t301, .int .u64 t302, .int .i64 t303, .int .i64 t304] #[.int .i64 t305, .int .i64 t306] (0, 0) (0, 0) _ _ rfl (by (with_reducible repeat (first | refine Q12 ?_ _ | refine Q24 ?_ | refine Q17 ?_ _)); refine blk_far2 ?_ NB210_211.out; (with_reducible repeat (first | refine Q12 ?_ _ | refine Q24 ?_ | refine Q17 ?_ _)); apply blk_put11; (with_reducible repeat (first | refine Q12 ?_ _ | refine Q24 ?_ | refine Q17 ?_ _)); exact BK210.out) Tryd.underlying26 rfl (by kernel_rfl) rfl (by (with_reducible repeat (first | refine Q12 ?_ _ | refine Q24 ?_ | refine Q17 ?_ _)); apply blk_put2; (with_reducible repeat (first | refine Q12 ?_ _ | refine Q24 ?_ | refine Q17 ?_ _)); refine blk_far11 ?_ NB211_210.out; (with_reducible repeat (first | refine Q12 ?_ _ | refine Q24 ?_ | refine Q17 ?_ _)); exact BK211.out) Tryd.underlying41 rfl (by kernel_rfl)) rfl ?_
                        exact ⟨by first | rfl | (simp [Q37, Q35] <;> rfl) | (simp only [← hji61]; first | rfl | (simp [Q37, Q35] <;> rfl)) | (simp [*, Q37, Q35] <;> rfl), by repeat (first | (with_reducible first | exact HB.out | apply Q19 | apply Q8 | apply Q23 | refine Q26 ?_ GE210.out | refine Q26 ?_ GE211.out) | exact HB.out)⟩
                    · rw [if_neg c63] at H
                      exact absurd H (by simp)
                  · rw [if_neg c62] at H
                    exact absurd H (by simp)
      · replace c11 := Bool.eq_false_iff.mpr c11
        subst c11
        have H1 : (if t212 < 0 then ((lexis_fault.f a1 43).bind fun bt307 => (some (bt307.1, bt307.2.1, bt307.2.2.1, bt307.2.2.2.1, bt307.2.2.2.2.1, bt307.2.2.2.2.2.1, bt307.2.2.2.2.2.2.1, bt307.2.2.2.2.2.2.2.1, bt307.2.2.2.2.2.2.2.2.1, bt307.2.2.2.2.2.2.2.2.2.1, bt307.2.2.2.2.2.2.2.2.2.2.1, bt307.2.2.2.2.2.2.2.2.2.2.2.1, bt307.2.2.2.2.2.2.2.2.2.2.2.2))) else (if t213 ≥ (a0.size : Int) then ((lexis_fault.f a1 43).bind fun bt320 => (some (bt320.1, bt320.2.1, bt320.2.2.1, bt320.2.2.2.1, bt320.2.2.2.2.1, bt320.2.2.2.2.2.1, bt320.2.2.2.2.2.2.1, bt320.2.2.2.2.2.2.2.1, bt320.2.2.2.2.2.2.2.2.1, bt320.2.2.2.2.2.2.2.2.2.1, bt320.2.2.2.2.2.2.2.2.2.2.1, bt320.2.2.2.2.2.2.2.2.2.2.2.1, bt320.2.2.2.2.2.2.2.2.2.2.2.2))) else (if 0 ≤ t213 then (if t213 < (a0.size : Int) then (if (bt a0 t213) = 125 then (some (9, a1, wrap64 (t213 + 1), (⟨#[]⟩ : ByteArray), false, 0, 0, 0, 0, t212, t212, 0, 0)) else ((lexis_fault.f a1 43).bind fun bt333 => (some (bt333.1, bt333.2.1, bt333.2.2.1, bt333.2.2.2.1, bt333.2.2.2.2.1, bt333.2.2.2.2.2.1, bt333.2.2.2.2.2.2.1, bt333.2.2.2.2.2.2.2.1, bt333.2.2.2.2.2.2.2.2.1, bt333.2.2.2.2.2.2.2.2.2.1, bt333.2.2.2.2.2.2.2.2.2.2.1, bt333.2.2.2.2.2.2.2.2.2.2.2.1, bt333.2.2.2.2.2.2.2.2.2.2.2.2)))) else (none)) else (none)))) = some (r1, r2, r3, r4, r5, r6, r7, r8, r9, r10, r11, r12, r13) := by rw [if_neg (show ¬ (false = true) by decide)] at H; exact H
        clear H
        have H := H1
        clear H1
        by_cases c74 : t212 < 0
        · rw [if_pos c74] at H
          have c74b0 : decide (t212 < 0) = true := decide_eq_true c74
          clear c74
          replace H := Option.bind_eq_some_iff.mp H
          obtain ⟨⟨t307, t308, t309, t310, t311, t312, t313, t314, t315, t316, t317, t318, t319⟩, A750, H⟩ := H
          replace H : (some (t307, t308, t309, t310, t311, t312, t313, t314, t315, t316, t317, t318, t319)) = some (r1, r2, r3, r4, r5, r6, r7, r8, r9, r10, r11, r12, r13) := H
          have A75 := Aside0.mk A750
          clear A750
          simp only [Option.some.injEq, Prod.mk.injEq] at H
          obtain ⟨rfl, rfl, rfl, rfl, rfl, rfl, rfl, rfl, rfl, rfl, rfl, rfl, rfl⟩ := H
          go_wp2_with (first | ((with_reducible refine Q40 (f := 56) rfl ?_); refine goesL_ (some 71) rfl rfl Tryd.func56 (by kernel_rfl) rfl #[.int .i64 a1, .int .i64 43] rfl (by (try simp only [List.map_toArray, List.map_cons, List.map_nil]); first | done | rfl | (simp only [List.length_drop, List.length_take]; rfl)) ?_; (with_reducible refine (lexis_fault.calls a1 43 t307 t308 t309 t310 t311 t312 t313 t314 t315 t316 t317 t318 t319 _ A75.out).mono ?_); rintro e w76 ⟨rfl, hb⟩; refine ⟨_, rfl, ?_⟩; have n0_ := Aside0.mk (Q38 (g := gb210) (o := .cells #[.int .i64 0, .int .i64 0, .int .i64 0, .string (⟨#[]⟩ : ByteArray), .bool false, .int .u64 0, .int .u64 0, .int .u64 0, .int .u64 0, .int .i64 0, .int .i64 0] 26 (0, 0)) (by (with_reducible repeat (first | refine Q12 ?_ _ | refine Q24 ?_ | refine Q17 ?_ _)); exact BK210.out) hb); have n1_ := Aside0.mk (Q38 (g := gb211) (o := .cells #[.int .i64 0, .int .i64 0] 41 (0, 0)) (by (with_reducible repeat (first | refine Q12 ?_ _ | refine Q24 ?_ | refine Q17 ?_ _)); exact BK211.out) hb); have n2_ := Aside0.mk (Q34 (by repeat (first | (with_reducible first | exact HB.out | apply Q19 | apply Q8 | apply Q23 | refine Q26 ?_ GE210.out | refine Q26 ?_ GE211.out) | exact HB.out)) hb); clear BK210; clear BK211; clear HB; have BK210 := n0_; have BK211 := n1_; have HB := n2_; clear n0_ n1_ n2_; (try clear hb); (try clear hb2); (try clear hk); (try clear hi); have hnb77 := NB210_211.out; have hnc77 := NB211_210.out; obtain ⟨hcz78_0, hcz78_1, hcz78_2, hcz78_3, hcz78_4, hcz78_5, hcz78_6, hcz78_7, hcz78_8, hcz78_9, hcz78_10, hfz78_0, hfz78_1, hfz78_2, hfz78_3, hfz78_4, hfz78_5, hfz78_6, hfz78_7, hfz78_8, hfz78_9, hfz78_10⟩ := Q41 BK210.out; obtain ⟨hcz79_0, hcz79_1, hfz79_0, hfz79_1⟩ := blk_cells2 BK211.out))
          refine bodyPost_ret (results_cc rfl _ _ gb210 gb211 26 41 #[.int .i64 t307, .int .i64 t308, .int .i64 t309, .string t310, .bool t311, .int .u64 t312, .int .u64 t313, .int .u64 t314, .int .u64 t315, .int .i64 t316, .int .i64 t317] #[.int .i64 t318, .int .i64 t319] (0, 0) (0, 0) _ _ rfl (by (with_reducible repeat (first | refine Q12 ?_ _ | refine Q24 ?_ | refine Q17 ?_ _)); refine blk_far2 ?_ NB210_211.out; (with_reducible repeat (first | refine Q12 ?_ _ | refine Q24 ?_ | refine Q17 ?_ _)); apply blk_put11; (with_reducible repeat (first | refine Q12 ?_ _ | refine Q24 ?_ | refine Q17 ?_ _)); exact BK210.out) Tryd.underlying26 rfl (by kernel_rfl) rfl (by (with_reducible repeat (first | refine Q12 ?_ _ | refine Q24 ?_ | refine Q17 ?_ _)); apply blk_put2; (with_reducible repeat (first | refine Q12 ?_ _ | refine Q24 ?_ | refine Q17 ?_ _)); refine blk_far11 ?_ NB211_210.out; (with_reducible repeat (first | refine Q12 ?_ _ | refine Q24 ?_ | refine Q17 ?_ _)); exact BK211.out) Tryd.underlying41 rfl (by kernel_rfl)) rfl ?_
          exact ⟨by first | rfl | (simp [Q37, Q35] <;> rfl) | (simp [*, Q37, Q35] <;> rfl), by repeat (first | (with_reducible first | exact HB.out | apply Q19 | apply Q8 | apply Q23 | refine Q26 ?_ GE210.out | refine Q26 ?_ GE211.out) | exact HB.out)⟩
        · rw [if_neg c74] at H
          have c74b0 : decide (t212 < 0) = false := decide_eq_false c74
          clear c74
          by_cases c80 : t213 ≥ (a0.size : Int)
          · rw [if_pos c80] at H
            have c80b0 : decide ((a0.size : Int) ≤ t213) = true := decide_eq_true c80
            clear c80
            replace H := Option.bind_eq_some_iff.mp H
            obtain ⟨⟨t320, t321, t322, t323, t324, t325, t326, t327, t328, t329, t330, t331, t332⟩, A810, H⟩ := H
            replace H : (some (t320, t321, t322, t323, t324, t325, t326, t327, t328, t329, t330, t331, t332)) = some (r1, r2, r3, r4, r5, r6, r7, r8, r9, r10, r11, r12, r13) := H
            have A81 := Aside0.mk A810
            clear A810
            simp only [Option.some.injEq, Prod.mk.injEq] at H
            obtain ⟨rfl, rfl, rfl, rfl, rfl, rfl, rfl, rfl, rfl, rfl, rfl, rfl, rfl⟩ := H
            go_wp2_with (first | ((with_reducible refine Q40 (f := 56) rfl ?_); refine goesL_ (some 71) rfl rfl Tryd.func56 (by kernel_rfl) rfl #[.int .i64 a1, .int .i64 43] rfl (by (try simp only [List.map_toArray, List.map_cons, List.map_nil]); first | done | rfl | (simp only [List.length_drop, List.length_take]; rfl)) ?_; (with_reducible refine (lexis_fault.calls a1 43 t320 t321 t322 t323 t324 t325 t326 t327 t328 t329 t330 t331 t332 _ A81.out).mono ?_); rintro e w82 ⟨rfl, hb⟩; refine ⟨_, rfl, ?_⟩; have n0_ := Aside0.mk (Q38 (g := gb210) (o := .cells #[.int .i64 0, .int .i64 0, .int .i64 0, .string (⟨#[]⟩ : ByteArray), .bool false, .int .u64 0, .int .u64 0, .int .u64 0, .int .u64 0, .int .i64 0, .int .i64 0] 26 (0, 0)) (by (with_reducible repeat (first | refine Q12 ?_ _ | refine Q24 ?_ | refine Q17 ?_ _)); exact BK210.out) hb); have n1_ := Aside0.mk (Q38 (g := gb211) (o := .cells #[.int .i64 0, .int .i64 0] 41 (0, 0)) (by (with_reducible repeat (first | refine Q12 ?_ _ | refine Q24 ?_ | refine Q17 ?_ _)); exact BK211.out) hb); have n2_ := Aside0.mk (Q34 (by repeat (first | (with_reducible first | exact HB.out | apply Q19 | apply Q8 | apply Q23 | refine Q26 ?_ GE210.out | refine Q26 ?_ GE211.out) | exact HB.out)) hb); clear BK210; clear BK211; clear HB; have BK210 := n0_; have BK211 := n1_; have HB := n2_; clear n0_ n1_ n2_; (try clear hb); (try clear hb2); (try clear hk); (try clear hi); have hnb83 := NB210_211.out; have hnc83 := NB211_210.out; obtain ⟨hcz84_0, hcz84_1, hcz84_2, hcz84_3, hcz84_4, hcz84_5, hcz84_6, hcz84_7, hcz84_8, hcz84_9, hcz84_10, hfz84_0, hfz84_1, hfz84_2, hfz84_3, hfz84_4, hfz84_5, hfz84_6, hfz84_7, hfz84_8, hfz84_9, hfz84_10⟩ := Q41 BK210.out; obtain ⟨hcz85_0, hcz85_1, hfz85_0, hfz85_1⟩ := blk_cells2 BK211.out))
            refine bodyPost_ret (results_cc rfl _ _ gb210 gb211 26 41 #[.int .i64 t320, .int .i64 t321, .int .i64 t322, .string t323, .bool t324, .int .u64 t325, .int .u64 t326, .int .u64 t327, .int .u64 t328, .int .i64 t329, .int .i64 t330] #[.int .i64 t331, .int .i64 t332] (0, 0) (0, 0) _ _ rfl (by (with_reducible repeat (first | refine Q12 ?_ _ | refine Q24 ?_ | refine Q17 ?_ _)); refine blk_far2 ?_ NB210_211.out; (with_reducible repeat (first | refine Q12 ?_ _ | refine Q24 ?_ | refine Q17 ?_ _)); apply blk_put11; (with_reducible repeat (first | refine Q12 ?_ _ | refine Q24 ?_ | refine Q17 ?_ _)); exact BK210.out) Tryd.underlying26 rfl (by kernel_rfl) rfl (by (with_reducible repeat (first | refine Q12 ?_ _ | refine Q24 ?_ | refine Q17 ?_ _)); apply blk_put2; (with_reducible repeat (first | refine Q12 ?_ _ | refine Q24 ?_ | refine Q17 ?_ _)); refine blk_far11 ?_ NB211_210.out; (with_reducible repeat (first | refine Q12 ?_ _ | refine Q24 ?_ | refine Q17 ?_ _)); exact BK211.out) Tryd.underlying41 rfl (by kernel_rfl)) rfl ?_
            exact ⟨by first | rfl | (simp [Q37, Q35] <;> rfl) | (simp [*, Q37, Q35] <;> rfl), by repeat (first | (with_reducible first | exact HB.out | apply Q19 | apply Q8 | apply Q23 | refine Q26 ?_ GE210.out | refine Q26 ?_ GE211.out) | exact HB.out)⟩
          · rw [if_neg c80] at H
            have c80b0 : decide ((a0.size : Int) ≤ t213) = false := decide_eq_false c80
            clear c80
            by_cases c86 : 0 ≤ t213
            · rw [if_pos c86] at H
              have c86b0 : decide (0 ≤ t213) = true := decide_eq_true c86
              clear c86
              by_cases c87 : t213 < (a0.size : Int)
              · rw [if_pos c87] at H
                have c87b0 : decide (t213 < (a0.size : Int)) = true := decide_eq_true c87
                clear c87
                by_cases c89 : (bt a0 t213) = 125
                · rw [if_pos c89] at H
                  have c89b0 : ((bt a0 t213) == 125) = true := beq_iff_eq.mpr c89
                  have c89b1 : ((bt a0 t213) != 125) = false := bne_eq_false_iff_eq.mpr c89
                  clear c89
                  simp only [Option.some.injEq, Prod.mk.injEq] at H
                  obtain ⟨rfl, rfl, rfl, rfl, rfl, rfl, rfl, rfl, rfl, rfl, rfl, rfl, rfl⟩ := H
                  have p88 : 0 ≤ (t213 : Int) := of_decide_eq_true (by first | (with_reducible assumption) | assumption)
                  have q88 : t213 < (a0.size : Int) := of_decide_eq_true (by first | (with_reducible assumption) | assumption)
                  have hx88 := bt_at a0 t213
                  replace p88 := eq_true p88
                  replace q88 := eq_true q88
                  have hnb90 := NB210_211.out
                  have hnc90 := NB211_210.out
                  have hcz91_0 : wc.cell? ⟨gb210, 0, none⟩ = some (.int .i64 0) := (Q32 BK210.out 0).trans rfl
                  have hcz91_1 : wc.cell? ⟨gb210, 1, none⟩ = some (.int .i64 0) := (Q32 BK210.out 1).trans rfl
                  have hcz91_2 : wc.cell? ⟨gb210, 2, none⟩ = some (.int .i64 0) := (Q32 BK210.out 2).trans rfl
                  have hcz91_3 : wc.cell? ⟨gb210, 3, none⟩ = some (.string (⟨#[]⟩ : ByteArray)) := (Q32 BK210.out 3).trans rfl
                  have hcz91_4 : wc.cell? ⟨gb210, 4, none⟩ = some (.bool false) := (Q32 BK210.out 4).trans rfl
                  have hcz91_5 : wc.cell? ⟨gb210, 5, none⟩ = some (.int .u64 0) := (Q32 BK210.out 5).trans rfl
                  have hcz91_6 : wc.cell? ⟨gb210, 6, none⟩ = some (.int .u64 0) := (Q32 BK210.out 6).trans rfl
                  have hcz91_7 : wc.cell? ⟨gb210, 7, none⟩ = some (.int .u64 0) := (Q32 BK210.out 7).trans rfl
                  have hcz91_8 : wc.cell? ⟨gb210, 8, none⟩ = some (.int .u64 0) := (Q32 BK210.out 8).trans rfl
                  have hcz91_9 : wc.cell? ⟨gb210, 9, none⟩ = some (.int .i64 0) := (Q32 BK210.out 9).trans rfl
                  have hcz91_10 : wc.cell? ⟨gb210, 10, none⟩ = some (.int .i64 0) := (Q32 BK210.out 10).trans rfl
                  have hfz91_0 := Q28 BK210.out 0
                  have hfz91_1 := Q28 BK210.out 1
                  have hfz91_2 := Q28 BK210.out 2
                  have hfz91_3 := Q28 BK210.out 3
                  have hfz91_4 := Q28 BK210.out 4
                  have hfz91_5 := Q28 BK210.out 5
                  have hfz91_6 := Q28 BK210.out 6
                  have hfz91_7 := Q28 BK210.out 7
                  have hfz91_8 := Q28 BK210.out 8
                  have hfz91_9 := Q28 BK210.out 9
                  have hfz91_10 := Q28 BK210.out 10
                  have hcz92_0 : wc.cell? ⟨gb211, 0, none⟩ = some (.int .i64 0) := (Q32 BK211.out 0).trans rfl
                  have hcz92_1 : wc.cell? ⟨gb211, 1, none⟩ = some (.int .i64 0) := (Q32 BK211.out 1).trans rfl
                  have hfz92_0 := Q28 BK211.out 0
                  have hfz92_1 := Q28 BK211.out 1
                  go_wp2
                  refine bodyPost_ret (results_cc rfl _ _ gb210 gb211 26 41 #[.int .i64 9, .int .i64 a1, .int .i64 (wrap64 (t213 + 1)), .string (⟨#[]⟩ : ByteArray), .bool false, .int .u64 0, .int .u64 0, .int .u64 0, .int .u64 0, .int .i64 t212, .int .i64 t212] #[.int .i64 0, .int .i64 0] (0, 0) (0, 0) _ _ rfl (by (with_reducible repeat (first | refine Q12 ?_ _ | refine Q24 ?_ | refine Q17 ?_ _)); refine blk_far2 ?_ NB210_211.out; (with_reducible repeat (first | refine Q12 ?_ _ | refine Q24 ?_ | refine Q17 ?_ _)); apply blk_put11; (with_reducible repeat (first | refine Q12 ?_ _ | refine Q24 ?_ | refine Q17 ?_ _)); exact BK210.out) Tryd.underlying26 rfl (by kernel_rfl) rfl (by (with_reducible repeat (first | refine Q12 ?_ _ | refine Q24 ?_ | refine Q17 ?_ _)); apply blk_put2; (with_reducible repeat (first | refine Q12 ?_ _ | refine Q24 ?_ | refine Q17 ?_ _)); refine blk_far11 ?_ NB211_210.out; (with_reducible repeat (first | refine Q12 ?_ _ | refine Q24 ?_ | refine Q17 ?_ _)); exact BK211.out) Tryd.underlying41 rfl (by kernel_rfl)) rfl ?_
                  exact ⟨by first | rfl | (simp [Q37, Q35] <;> rfl) | (simp [*, Q37, Q35] <;> rfl), by repeat (first | (with_reducible first | exact HB.out | apply Q19 | apply Q8 | apply Q23 | refine Q26 ?_ GE210.out | refine Q26 ?_ GE211.out) | exact HB.out)⟩
                · rw [if_neg c89] at H
                  have c89b0 : ((bt a0 t213) == 125) = false := beq_eq_false_iff_ne.mpr c89
                  have c89b1 : ((bt a0 t213) != 125) = true := bne_iff_ne.mpr c89
                  replace H := Option.bind_eq_some_iff.mp H
                  obtain ⟨⟨t333, t334, t335, t336, t337, t338, t339, t340, t341, t342, t343, t344, t345⟩, A930, H⟩ := H
                  replace H : (some (t333, t334, t335, t336, t337, t338, t339, t340, t341, t342, t343, t344, t345)) = some (r1, r2, r3, r4, r5, r6, r7, r8, r9, r10, r11, r12, r13) := H
                  have A93 := Aside0.mk A930
                  clear A930
                  simp only [Option.some.injEq, Prod.mk.injEq] at H
                  obtain ⟨rfl, rfl, rfl, rfl, rfl, rfl, rfl, rfl, rfl, rfl, rfl, rfl, rfl⟩ := H
                  have p88 : 0 ≤ (t213 : Int) := of_decide_eq_true (by first | (with_reducible assumption) | assumption)
                  have q88 : t213 < (a0.size : Int) := of_decide_eq_true (by first | (with_reducible assumption) | assumption)
                  have hx88 := bt_at a0 t213
                  replace p88 := eq_true p88
                  replace q88 := eq_true q88
                  go_wp2_with (first | ((with_reducible refine Q40 (f := 56) rfl ?_); refine goesL_ (some 71) rfl rfl Tryd.func56 (by kernel_rfl) rfl #[.int .i64 a1, .int .i64 43] rfl (by (try simp only [List.map_toArray, List.map_cons, List.map_nil]); first | done | rfl | (simp only [List.length_drop, List.length_take]; rfl)) ?_; (with_reducible refine (lexis_fault.calls a1 43 t333 t334 t335 t336 t337 t338 t339 t340 t341 t342 t343 t344 t345 _ A93.out).mono ?_); rintro e w94 ⟨rfl, hb⟩; refine ⟨_, rfl, ?_⟩; have n0_ := Aside0.mk (Q38 (g := gb210) (o := .cells #[.int .i64 0, .int .i64 0, .int .i64 0, .string (⟨#[]⟩ : ByteArray), .bool false, .int .u64 0, .int .u64 0, .int .u64 0, .int .u64 0, .int .i64 0, .int .i64 0] 26 (0, 0)) (by (with_reducible repeat (first | refine Q12 ?_ _ | refine Q24 ?_ | refine Q17 ?_ _)); exact BK210.out) hb); have n1_ := Aside0.mk (Q38 (g := gb211) (o := .cells #[.int .i64 0, .int .i64 0] 41 (0, 0)) (by (with_reducible repeat (first | refine Q12 ?_ _ | refine Q24 ?_ | refine Q17 ?_ _)); exact BK211.out) hb); have n2_ := Aside0.mk (Q34 (by repeat (first | (with_reducible first | exact HB.out | apply Q19 | apply Q8 | apply Q23 | refine Q26 ?_ GE210.out | refine Q26 ?_ GE211.out) | exact HB.out)) hb); clear BK210; clear BK211; clear HB; have BK210 := n0_; have BK211 := n1_; have HB := n2_; clear n0_ n1_ n2_; (try clear hb); (try clear hb2); (try clear hk); (try clear hi); have hnb95 := NB210_211.out; have hnc95 := NB211_210.out; obtain ⟨hcz96_0, hcz96_1, hcz96_2, hcz96_3, hcz96_4, hcz96_5, hcz96_6, hcz96_7, hcz96_8, hcz96_9, hcz96_10, hfz96_0, hfz96_1, hfz96_2, hfz96_3, hfz96_4, hfz96_5, hfz96_6, hfz96_7, hfz96_8, hfz96_9, hfz96_10⟩ := Q41 BK210.out; obtain ⟨hcz97_0, hcz97_1, hfz97_0, hfz97_1⟩ := blk_cells2 BK211.out))
                  refine bodyPost_ret (results_cc rfl _ _ gb210 gb211 26 41 #[.int .i64 t333, .int .i64 t334, .int .i64 t335, .string t336, .bool t337, .int .u64 t338, .int .u64 t339, .int .u64 t340, .int .u64 t341, .int .i64 t342, .int .i64 t343] #[.int .i64 t344, .int .i64 t345] (0, 0) (0, 0) _ _ rfl (by (with_reducible repeat (first | refine Q12 ?_ _ | refine Q24 ?_ | refine Q17 ?_ _)); refine blk_far2 ?_ NB210_211.out; (with_reducible repeat (first | refine Q12 ?_ _ | refine Q24 ?_ | refine Q17 ?_ _)); apply blk_put11; (with_reducible repeat (first | refine Q12 ?_ _ | refine Q24 ?_ | refine Q17 ?_ _)); exact BK210.out) Tryd.underlying26 rfl (by kernel_rfl) rfl (by (with_reducible repeat (first | refine Q12 ?_ _ | refine Q24 ?_ | refine Q17 ?_ _)); apply blk_put2; (with_reducible repeat (first | refine Q12 ?_ _ | refine Q24 ?_ | refine Q17 ?_ _)); refine blk_far11 ?_ NB211_210.out; (with_reducible repeat (first | refine Q12 ?_ _ | refine Q24 ?_ | refine Q17 ?_ _)); exact BK211.out) Tryd.underlying41 rfl (by kernel_rfl)) rfl ?_
                  exact ⟨by first | rfl | (simp [Q37, Q35] <;> rfl) | (simp [*, Q37, Q35] <;> rfl), by repeat (first | (with_reducible first | exact HB.out | apply Q19 | apply Q8 | apply Q23 | refine Q26 ?_ GE210.out | refine Q26 ?_ GE211.out) | exact HB.out)⟩
              · rw [if_neg c87] at H
                exact absurd H (by simp)
            · rw [if_neg c86] at H
              exact absurd H (by simp)
def lexis_hex.j0 : Nat → Int → Bool → Option (Int)
  | 0, _, _ => none
  | k + 1, x0, x9 => if x9 = true then (some (((x0 - 97) % 256) + 10)) else (if x0 ≥ 65 then (if x0 ≤ 70 then (some (((x0 - 65) % 256) + 10)) else (some (-1))) else (some (-1)))
def lexis_hex.f (k : Nat) (a0 : Int) : Option (Int) := (lexis_digit.f a0).bind fun t346 => (if t346 = true then (some ((a0 - 48) % 256)) else (if a0 ≥ 97 then (lexis_hex.j0 k a0 (decide (a0 ≤ 102))) else (lexis_hex.j0 k a0 false)))
set_option maxHeartbeats 8000000 in
set_option maxRecDepth 100000 in
theorem lexis_hex.calls (k : Nat) (a0 : Int) (r : Int) (w : World) (h : lexis_hex.f k a0 = some r) :
    Calls Tryd.prog 89 #[.int .u8 a0] w fun e w' => e = .returned (.int .i64 r) ∧ Drawn0 w w' := by
  have H : ((lexis_digit.f a0).bind fun t346 => (if t346 = true then (some ((a0 - 48) % 256)) else (if a0 ≥ 97 then (lexis_hex.j0 k a0 (decide (a0 ≤ 102))) else (lexis_hex.j0 k a0 false)))) = some r := h
  clear h
  replace H := Option.bind_eq_some_iff.mp H
  obtain ⟨t346, A20, H⟩ := H
  replace H : (if t346 = true then (some ((a0 - 48) % 256)) else (if a0 ≥ 97 then (lexis_hex.j0 k a0 (decide (a0 ≤ 102))) else (lexis_hex.j0 k a0 false))) = some r := H
  have A2 := Aside0.mk A20
  clear A20
  by_cases c3 : t346 = true
  · subst c3
    have H1 : (some ((a0 - 48) % 256)) = some r := by rw [if_pos rfl] at H; exact H
    clear H
    have H := H1
    clear H1
    obtain rfl := Option.some.inj H
    go_enter Tryd.func89, Tryd.ntmps89
    go_wp2_with (first | ((with_reducible refine Q40 (f := 76) rfl ?_); refine goesL_ (some 5) rfl rfl Tryd.func76 (by kernel_rfl) rfl #[.int .u8 a0] rfl (by (try simp only [List.map_toArray, List.map_cons, List.map_nil]); first | done | rfl | (simp only [List.length_drop, List.length_take]; rfl)) ?_; (with_reducible refine (lexis_digit.calls a0 true _ A2.out).mono ?_); rintro e w' ⟨rfl, ⟨nd, rfl⟩⟩; refine ⟨_, rfl, ?_⟩))
    go_ret
    exact ⟨by first | rfl | (simp; done) | (simp [*]; done), by repeat (first | exact Drawn0.refl _ | apply Drawn0.step)⟩
  · replace c3 := Bool.eq_false_iff.mpr c3
    subst c3
    have H1 : (if a0 ≥ 97 then (lexis_hex.j0 k a0 (decide (a0 ≤ 102))) else (lexis_hex.j0 k a0 false)) = some r := by rw [if_neg (show ¬ (false = true) by decide)] at H; exact H
    clear H
    have H := H1
    clear H1
    have HC4 := Aside0.mk H
    clear H
    go_enter Tryd.func89, Tryd.ntmps89
    go_upto_region 3 with (first | ((with_reducible refine Q40 (f := 76) rfl ?_); refine goesL_ (some 5) rfl rfl Tryd.func76 (by kernel_rfl) rfl #[.int .u8 a0] rfl (by (try simp only [List.map_toArray, List.map_cons, List.map_nil]); first | done | rfl | (simp only [List.length_drop, List.length_take]; rfl)) ?_; (with_reducible refine (lexis_digit.calls a0 false _ A2.out).mono ?_); rintro e w' ⟨rfl, ⟨nd, rfl⟩⟩; refine ⟨_, rfl, ?_⟩))
    (try simp only [Act.put, List.setIfInBounds_toArray, List.set_cons_zero, List.set_cons_succ])
    go_cut [9] (fun v9 wc => ∃ (kq : Nat) (x9_3 : Bool), v9 = .bool x9_3 ∧ Aside0 (lexis_hex.j0 kq a0 x9_3 = some r) ∧ Aside0 (kq ≤ k) ∧ Drawn0 w wc)
    case first =>
      have H := HC4.out
      clear HC4
      by_cases c5 : a0 ≥ 97
      · rw [if_pos c5] at H
        have c5b0 : decide (97 ≤ a0) = true := decide_eq_true c5
        clear c5
        (first | rw [c5b0] | (simp only [i64_w, i32_w]; rw [c5b0]) | skip)
        have H' := Aside0.mk H
        clear H
        go_wp2
        go_meet
        case rel => exact ⟨_, (decide (a0 ≤ 102)), (by first | rfl | (simp; done) | (simp [*]; done)), H', ⟨by first | omega | exact Nat.le_refl _⟩, by repeat (first | exact Drawn0.refl _ | apply Drawn0.step)⟩
      · rw [if_neg c5] at H
        have c5b0 : decide (97 ≤ a0) = false := decide_eq_false c5
        clear c5
        (first | rw [c5b0] | (simp only [i64_w, i32_w]; rw [c5b0]) | skip)
        have H' := Aside0.mk H
        clear H
        go_wp2
        go_meet
        case rel => exact ⟨_, (false), (by first | rfl | (simp; done) | (simp [*]; done)), H', ⟨by first | omega | exact Nat.le_refl _⟩, by repeat (first | exact Drawn0.refl _ | apply Drawn0.step)⟩
    case rest =>
      clear HC4
      try clear p2
      try clear c3
      try clear c5
      try clear c5b0
      obtain ⟨kq, x9_3, rfl, HA, HJ3, ⟨mc3, rfl⟩⟩ := hcut
      cases kq with
      | zero => exact absurd HA.out (by simp [lexis_hex.j0])
      | succ kj3 =>
        have H := HA.out
        clear HA
        simp only [lexis_hex.j0] at H
        by_cases c6 : x9_3 = true
        · subst c6
          have H1 : (some (((a0 - 97) % 256) + 10)) = some r := by rw [if_pos rfl] at H; exact H
          clear H
          have H := H1
          clear H1
          obtain rfl := Option.some.inj H
          go_wp2
          go_ret
          exact ⟨by first | rfl | (simp; done) | (simp [*]; done), by repeat (first | exact Drawn0.refl _ | apply Drawn0.step)⟩
        · replace c6 := Bool.eq_false_iff.mpr c6
          subst c6
          have H1 : (if a0 ≥ 65 then (if a0 ≤ 70 then (some (((a0 - 65) % 256) + 10)) else (some (-1))) else (some (-1))) = some r := by rw [if_neg (show ¬ (false = true) by decide)] at H; exact H
          clear H
          have H := H1
          clear H1
          by_cases c7 : a0 ≥ 65
          · rw [if_pos c7] at H
            have c7b0 : decide (65 ≤ a0) = true := decide_eq_true c7
            clear c7
            by_cases c8 : a0 ≤ 70
            · rw [if_pos c8] at H
              have c8b0 : decide (a0 ≤ 70) = true := decide_eq_true c8
              clear c8
              obtain rfl := Option.some.inj H
              go_wp2
              go_ret
              exact ⟨by first | rfl | (simp; done) | (simp [*]; done), by repeat (first | exact Drawn0.refl _ | apply Drawn0.step)⟩
            · rw [if_neg c8] at H
              have c8b0 : decide (a0 ≤ 70) = false := decide_eq_false c8
              clear c8
              obtain rfl := Option.some.inj H
              go_wp2
              go_ret
              exact ⟨by first | rfl | (simp; done) | (simp [*]; done), by repeat (first | exact Drawn0.refl _ | apply Drawn0.step)⟩
          · rw [if_neg c7] at H
            have c7b0 : decide (65 ≤ a0) = false := decide_eq_false c7
            clear c7
            obtain rfl := Option.some.inj H
            go_wp2
            go_ret
            exact ⟨by first | rfl | (simp; done) | (simp [*]; done), by repeat (first | exact Drawn0.refl _ | apply Drawn0.step)⟩
end Go.Proofs.YtldjdcdoegjmoaaDoor.P
