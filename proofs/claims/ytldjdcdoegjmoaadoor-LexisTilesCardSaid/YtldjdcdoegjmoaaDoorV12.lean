import Derived.Test.YtldjdcdoegjmoaaDoorV1
import Derived.Test.YtldjdcdoegjmoaaDoorV3
import Derived.Test.YtldjdcdoegjmoaaDoorV4
import Derived.Test.YtldjdcdoegjmoaaDoorV5
import Derived.Test.YtldjdcdoegjmoaaDoorV7
import Derived.Test.YtldjdcdoegjmoaaDoorV11
namespace Go.Proofs.YtldjdcdoegjmoaaDoor.P
open Go.RowKit Go.Proofs.YtldjdcdoegjmoaaDoorW.PrintWords Go.Proofs.YtldjdcdoegjmoaaDoorW.PrintLast Go.Proofs.YtldjdcdoegjmoaaDoorW.PrintMore
set_option linter.unusedVariables false
set_option linter.unusedSimpArgs false
mutual
def lexis_read.j0 : Nat → ByteArray → Int → Int → Bool → Option (Int × Int × Int × ByteArray × Bool × Int × Int × Int × Int × Int × Int × Int × Int)
  | 0, _, _, _, _ => none
  | k + 1, x0, x1, x6, x40 => if x40 = true then (some (2, x1, wrap64 (x1 + 2), (⟨#[]⟩ : ByteArray), false, 0, 0, 0, 0, 0, 0, 0, 0)) else (if x6 = 123 then ((lexis_count.f k x0 x1).bind fun bt437 => (some (bt437.1, bt437.2.1, bt437.2.2.1, bt437.2.2.2.1, bt437.2.2.2.2.1, bt437.2.2.2.2.2.1, bt437.2.2.2.2.2.2.1, bt437.2.2.2.2.2.2.2.1, bt437.2.2.2.2.2.2.2.2.1, bt437.2.2.2.2.2.2.2.2.2.1, bt437.2.2.2.2.2.2.2.2.2.2.1, bt437.2.2.2.2.2.2.2.2.2.2.2.1, bt437.2.2.2.2.2.2.2.2.2.2.2.2))) else (if x6 = 39 then (lexis_read.j1 k x0 x1 x6 true) else (lexis_read.j1 k x0 x1 x6 (x6 == 34))))
def lexis_read.j1 : Nat → ByteArray → Int → Int → Bool → Option (Int × Int × Int × ByteArray × Bool × Int × Int × Int × Int × Int × Int × Int × Int)
  | 0, _, _, _, _ => none
  | k + 1, x0, x1, x6, x62 => if x62 = true then ((lexis_literal.f k x0 x1).bind fun bt450 => (some (bt450.1, bt450.2.1, bt450.2.2.1, bt450.2.2.2.1, bt450.2.2.2.2.1, bt450.2.2.2.2.2.1, bt450.2.2.2.2.2.2.1, bt450.2.2.2.2.2.2.2.1, bt450.2.2.2.2.2.2.2.2.1, bt450.2.2.2.2.2.2.2.2.2.1, bt450.2.2.2.2.2.2.2.2.2.2.1, bt450.2.2.2.2.2.2.2.2.2.2.2.1, bt450.2.2.2.2.2.2.2.2.2.2.2.2))) else (if x6 = 91 then ((class_Parse.f x0 x1).bind fun bt463 => (if bt463.2.2.2.2.2.2 = 0 then (some (15, x1, bt463.2.2.2.2.1, (⟨#[]⟩ : ByteArray), false, bt463.1, bt463.2.1, bt463.2.2.1, bt463.2.2.2.1, 0, 0, 0, 0)) else (some (0, 0, 0, (⟨#[]⟩ : ByteArray), false, 0, 0, 0, 0, 0, 0, bt463.2.2.2.2.2.1, bt463.2.2.2.2.2.2)))) else (if x6 = 64 then (lexis_read.j2 k x0 x1 true) else (lexis_read.j2 k x0 x1 (x6 == 94))))
def lexis_read.j2 : Nat → ByteArray → Int → Bool → Option (Int × Int × Int × ByteArray × Bool × Int × Int × Int × Int × Int × Int × Int × Int)
  | 0, _, _, _ => none
  | k + 1, x0, x1, x94 => if x94 = true then ((lexis_marked.f k x0 x1).bind fun bt472 => (some (bt472.1, bt472.2.1, bt472.2.2.1, bt472.2.2.2.1, bt472.2.2.2.2.1, bt472.2.2.2.2.2.1, bt472.2.2.2.2.2.2.1, bt472.2.2.2.2.2.2.2.1, bt472.2.2.2.2.2.2.2.2.1, bt472.2.2.2.2.2.2.2.2.2.1, bt472.2.2.2.2.2.2.2.2.2.2.1, bt472.2.2.2.2.2.2.2.2.2.2.2.1, bt472.2.2.2.2.2.2.2.2.2.2.2.2))) else ((lexis_fault.f x1 40).bind fun bt485 => (some (bt485.1, bt485.2.1, bt485.2.2.1, bt485.2.2.2.1, bt485.2.2.2.2.1, bt485.2.2.2.2.2.1, bt485.2.2.2.2.2.2.1, bt485.2.2.2.2.2.2.2.1, bt485.2.2.2.2.2.2.2.2.1, bt485.2.2.2.2.2.2.2.2.2.1, bt485.2.2.2.2.2.2.2.2.2.2.1, bt485.2.2.2.2.2.2.2.2.2.2.2.1, bt485.2.2.2.2.2.2.2.2.2.2.2.2)))
end
def lexis_read.f (k : Nat) (a0 : ByteArray) (a1 : Int) : Option (Int × Int × Int × ByteArray × Bool × Int × Int × Int × Int × Int × Int × Int × Int) := if a1 = (a0.size : Int) then (some (0, a1, a1, (⟨#[]⟩ : ByteArray), false, 0, 0, 0, 0, 0, 0, 0, 0)) else (if 0 ≤ a1 then (if a1 < (a0.size : Int) then ((lexis_sign.f (bt a0 a1)).bind fun t421 => (if t421 ≥ 0 then (some (t421, a1, wrap64 (a1 + 1), (⟨#[]⟩ : ByteArray), false, 0, 0, 0, 0, 0, 0, 0, 0)) else ((lexis_letter.f (bt a0 a1)).bind fun t422 => (if t422 = true then ((lexis_word.f k a0 a1).bind fun bt423 => (some (bt423.1, bt423.2.1, bt423.2.2.1, bt423.2.2.2.1, bt423.2.2.2.2.1, bt423.2.2.2.2.2.1, bt423.2.2.2.2.2.2.1, bt423.2.2.2.2.2.2.2.1, bt423.2.2.2.2.2.2.2.2.1, bt423.2.2.2.2.2.2.2.2.2.1, bt423.2.2.2.2.2.2.2.2.2.2.1, bt423.2.2.2.2.2.2.2.2.2.2.2.1, bt423.2.2.2.2.2.2.2.2.2.2.2.2))) else (if (bt a0 a1) = 60 then (if a1 ≤ (a0.size : Int) then ((strings_HasPrefix.f (a0.extract (a1 : Int).toNat a0.size) (⟨#[60, 45]⟩ : ByteArray)).bind fun t436 => (lexis_read.j0 k a0 a1 (bt a0 a1) t436)) else (none)) else (lexis_read.j0 k a0 a1 (bt a0 a1) false)))))) else (none)) else (none))
set_option maxHeartbeats 8000000 in
set_option maxRecDepth 100000 in
theorem lexis_read.calls (k : Nat) (a0 : ByteArray) (a1 : Int) (r1 : Int) (r2 : Int) (r3 : Int) (r4 : ByteArray) (r5 : Bool) (r6 : Int) (r7 : Int) (r8 : Int) (r9 : Int) (r10 : Int) (r11 : Int) (r12 : Int) (r13 : Int) (w : World) (h : lexis_read.f k a0 a1 = some (r1, r2, r3, r4, r5, r6, r7, r8, r9, r10, r11, r12, r13)) :
    Calls Tryd.prog 32 #[.string a0, .int .i64 a1] w fun e w' => e = .returned (.tuple #[.agg #[.int .i64 r1, .int .i64 r2, .int .i64 r3, .string r4, .bool r5, .int .u64 r6, .int .u64 r7, .int .u64 r8, .int .u64 r9, .int .i64 r10, .int .i64 r11], .agg #[.int .i64 r12, .int .i64 r13]]) ∧ Below w.heap.size w w' := by
  have hu26 := Tryd.underlying26
  have hu41 := Tryd.underlying41
  have hu24 := Tryd.underlying24
  have HB := Aside0.mk (Below.refl w.heap.size w)
  have H : (if a1 = (a0.size : Int) then (some (0, a1, a1, (⟨#[]⟩ : ByteArray), false, 0, 0, 0, 0, 0, 0, 0, 0)) else (if 0 ≤ a1 then (if a1 < (a0.size : Int) then ((lexis_sign.f (bt a0 a1)).bind fun t421 => (if t421 ≥ 0 then (some (t421, a1, wrap64 (a1 + 1), (⟨#[]⟩ : ByteArray), false, 0, 0, 0, 0, 0, 0, 0, 0)) else ((lexis_letter.f (bt a0 a1)).bind fun t422 => (if t422 = true then ((lexis_word.f k a0 a1).bind fun bt423 => (some (bt423.1, bt423.2.1, bt423.2.2.1, bt423.2.2.2.1, bt423.2.2.2.2.1, bt423.2.2.2.2.2.1, bt423.2.2.2.2.2.2.1, bt423.2.2.2.2.2.2.2.1, bt423.2.2.2.2.2.2.2.2.1, bt423.2.2.2.2.2.2.2.2.2.1, bt423.2.2.2.2.2.2.2.2.2.2.1, bt423.2.2.2.2.2.2.2.2.2.2.2.1, bt423.2.2.2.2.2.2.2.2.2.2.2.2))) else (if (bt a0 a1) = 60 then (if a1 ≤ (a0.size : Int) then ((strings_HasPrefix.f (a0.extract (a1 : Int).toNat a0.size) (⟨#[60, 45]⟩ : ByteArray)).bind fun t436 => (lexis_read.j0 k a0 a1 (bt a0 a1) t436)) else (none)) else (lexis_read.j0 k a0 a1 (bt a0 a1) false)))))) else (none)) else (none))) = some (r1, r2, r3, r4, r5, r6, r7, r8, r9, r10, r11, r12, r13) := h
  clear h
  by_cases c3 : a1 = (a0.size : Int)
  · rw [if_pos c3] at H
    have c3b0 : (a1 == (a0.size : Int)) = true := beq_iff_eq.mpr c3
    have c3b1 : (a1 != (a0.size : Int)) = false := bne_eq_false_iff_eq.mpr c3
    clear c3
    simp only [Option.some.injEq, Prod.mk.injEq] at H
    obtain ⟨rfl, rfl, rfl, rfl, rfl, rfl, rfl, rfl, rfl, rfl, rfl, rfl, rfl⟩ := H
    go_enter Tryd.func32, Tryd.ntmps32
    go_wp2_with (first | ((with_reducible refine gate_dst (N := 4) rfl ?_); refine Q43 ?hg (N := 4) ?hd (cs := #[.int .i64 0, .int .i64 0, .int .i64 0, .string (⟨#[]⟩ : ByteArray), .bool false, .int .u64 0, .int .u64 0, .int .u64 0, .int .u64 0, .int .i64 0, .int .i64 0]) (t := 26) ?hr ?_; (case hd => rfl); (case hg => rfl); (case hr => first | (go_simp; done) | (go_simp; rfl)); intro gb419 hg w4 hbox hb; have n0_ := Aside0.mk (Q34 (by repeat (first | (with_reducible first | exact HB.out | apply Q19 | apply Q8 | apply Q23) | exact HB.out)) hb); have n1_ := Aside0.mk (hbox); have n2_ := Aside0.mk ((by rw [hg]; exact (Q29 (by repeat (first | (with_reducible first | exact HB.out | apply Q19 | apply Q8 | apply Q23) | exact HB.out))) : w.heap.size ≤ gb419)); have n3_ := Aside0.mk ((by rw [hg]; exact (Q29 (by repeat (first | (with_reducible first | exact HB.out | apply Q19 | apply Q8 | apply Q23) | exact HB.out))) : w.heap.size ≤ gb419)); clear HB; have HB := n0_; have BK419 := n1_; have GW419 := n2_; have GE419 := n3_; clear n0_ n1_ n2_ n3_; clear hb hbox hg) | ((with_reducible refine gate_dst (N := 5) rfl ?_); refine Q43 ?hg (N := 5) ?hd (cs := #[.int .i64 0, .int .i64 0]) (t := 41) ?hr ?_; (case hd => rfl); (case hg => rfl); (case hr => first | (go_simp; done) | (go_simp; rfl)); intro gb420 hg w5 hbox hb; have n0_ := Aside0.mk (Q38 (g := gb419) (o := .cells #[.int .i64 0, .int .i64 0, .int .i64 0, .string (⟨#[]⟩ : ByteArray), .bool false, .int .u64 0, .int .u64 0, .int .u64 0, .int .u64 0, .int .i64 0, .int .i64 0] 26 (0, 0)) (by (with_reducible repeat (first | refine Q12 ?_ _ | refine Q24 ?_ | refine Q17 ?_ _)); exact BK419.out) hb); have n1_ := Aside0.mk (Q34 (by repeat (first | (with_reducible first | exact HB.out | apply Q19 | apply Q8 | apply Q23 | refine Q26 ?_ GE419.out) | exact HB.out)) hb); have n2_ := Aside0.mk (hbox); have n3_ := Aside0.mk ((by rw [hg]; exact (Q29 (by repeat (first | (with_reducible first | exact HB.out | apply Q19 | apply Q8 | apply Q23 | refine Q26 ?_ GE419.out) | exact HB.out))) : w.heap.size ≤ gb420)); have n4_ := Aside0.mk ((by rw [hg]; exact (Q29 (by repeat (first | (with_reducible first | exact HB.out | apply Q19 | apply Q8 | apply Q23 | refine Q26 ?_ GE419.out) | exact HB.out))) : w.heap.size ≤ gb420)); have n5_ := Aside0.mk ((by rw [hg]; exact Nat.ne_of_lt (blk_lt (g := gb419) (o := .cells #[.int .i64 0, .int .i64 0, .int .i64 0, .string (⟨#[]⟩ : ByteArray), .bool false, .int .u64 0, .int .u64 0, .int .u64 0, .int .u64 0, .int .i64 0, .int .i64 0] 26 (0, 0)) (by (with_reducible repeat (first | refine Q12 ?_ _ | refine Q24 ?_ | refine Q17 ?_ _)); exact BK419.out)) : gb419 ≠ gb420)); have n6_ := Aside0.mk ((by rw [hg]; exact Nat.ne_of_gt (blk_lt (g := gb419) (o := .cells #[.int .i64 0, .int .i64 0, .int .i64 0, .string (⟨#[]⟩ : ByteArray), .bool false, .int .u64 0, .int .u64 0, .int .u64 0, .int .u64 0, .int .i64 0, .int .i64 0] 26 (0, 0)) (by (with_reducible repeat (first | refine Q12 ?_ _ | refine Q24 ?_ | refine Q17 ?_ _)); exact BK419.out)) : gb420 ≠ gb419)); clear BK419; clear HB; have BK419 := n0_; have HB := n1_; have BK420 := n2_; have GW420 := n3_; have GE420 := n4_; have NB419_420 := n5_; have NB420_419 := n6_; clear n0_ n1_ n2_ n3_ n4_ n5_ n6_; clear hb hbox hg; have hnb6 := NB419_420.out; have hnc6 := NB420_419.out; obtain ⟨hcz7_0, hcz7_1, hcz7_2, hcz7_3, hcz7_4, hcz7_5, hcz7_6, hcz7_7, hcz7_8, hcz7_9, hcz7_10, hfz7_0, hfz7_1, hfz7_2, hfz7_3, hfz7_4, hfz7_5, hfz7_6, hfz7_7, hfz7_8, hfz7_9, hfz7_10⟩ := Q41 BK419.out; obtain ⟨hcz8_0, hcz8_1, hfz8_0, hfz8_1⟩ := blk_cells2 BK420.out))
    refine bodyPost_ret (results_cc rfl _ _ gb419 gb420 26 41 #[.int .i64 0, .int .i64 a1, .int .i64 a1, .string (⟨#[]⟩ : ByteArray), .bool false, .int .u64 0, .int .u64 0, .int .u64 0, .int .u64 0, .int .i64 0, .int .i64 0] #[.int .i64 0, .int .i64 0] (0, 0) (0, 0) _ _ rfl (by (with_reducible repeat (first | refine Q12 ?_ _ | refine Q24 ?_ | refine Q17 ?_ _)); refine blk_far2 ?_ NB419_420.out; (with_reducible repeat (first | refine Q12 ?_ _ | refine Q24 ?_ | refine Q17 ?_ _)); apply blk_put11; (with_reducible repeat (first | refine Q12 ?_ _ | refine Q24 ?_ | refine Q17 ?_ _)); exact BK419.out) Tryd.underlying26 rfl (by kernel_rfl) rfl (by (with_reducible repeat (first | refine Q12 ?_ _ | refine Q24 ?_ | refine Q17 ?_ _)); apply blk_put2; (with_reducible repeat (first | refine Q12 ?_ _ | refine Q24 ?_ | refine Q17 ?_ _)); refine blk_far11 ?_ NB420_419.out; (with_reducible repeat (first | refine Q12 ?_ _ | refine Q24 ?_ | refine Q17 ?_ _)); exact BK420.out) Tryd.underlying41 rfl (by kernel_rfl)) rfl ?_
    exact ⟨by first | rfl | (simp [Q37, Q35] <;> rfl) | (simp [*, Q37, Q35] <;> rfl), by repeat (first | (with_reducible first | exact HB.out | apply Q19 | apply Q8 | apply Q23 | refine Q26 ?_ GE419.out | refine Q26 ?_ GE420.out) | exact HB.out)⟩
  · rw [if_neg c3] at H
    have c3b0 : (a1 == (a0.size : Int)) = false := beq_eq_false_iff_ne.mpr c3
    have c3b1 : (a1 != (a0.size : Int)) = true := bne_iff_ne.mpr c3
    by_cases c9 : 0 ≤ a1
    · rw [if_pos c9] at H
      have c9b0 : decide (0 ≤ a1) = true := decide_eq_true c9
      clear c9
      by_cases c10 : a1 < (a0.size : Int)
      · rw [if_pos c10] at H
        have c10b0 : decide (a1 < (a0.size : Int)) = true := decide_eq_true c10
        clear c10
        replace H := Option.bind_eq_some_iff.mp H
        obtain ⟨t421, A120, H⟩ := H
        replace H : (if t421 ≥ 0 then (some (t421, a1, wrap64 (a1 + 1), (⟨#[]⟩ : ByteArray), false, 0, 0, 0, 0, 0, 0, 0, 0)) else ((lexis_letter.f (bt a0 a1)).bind fun t422 => (if t422 = true then ((lexis_word.f k a0 a1).bind fun bt423 => (some (bt423.1, bt423.2.1, bt423.2.2.1, bt423.2.2.2.1, bt423.2.2.2.2.1, bt423.2.2.2.2.2.1, bt423.2.2.2.2.2.2.1, bt423.2.2.2.2.2.2.2.1, bt423.2.2.2.2.2.2.2.2.1, bt423.2.2.2.2.2.2.2.2.2.1, bt423.2.2.2.2.2.2.2.2.2.2.1, bt423.2.2.2.2.2.2.2.2.2.2.2.1, bt423.2.2.2.2.2.2.2.2.2.2.2.2))) else (if (bt a0 a1) = 60 then (if a1 ≤ (a0.size : Int) then ((strings_HasPrefix.f (a0.extract (a1 : Int).toNat a0.size) (⟨#[60, 45]⟩ : ByteArray)).bind fun t436 => (lexis_read.j0 k a0 a1 (bt a0 a1) t436)) else (none)) else (lexis_read.j0 k a0 a1 (bt a0 a1) false))))) = some (r1, r2, r3, r4, r5, r6, r7, r8, r9, r10, r11, r12, r13) := H
        have A12 := Aside0.mk A120
        clear A120
        by_cases c13 : t421 ≥ 0
        · rw [if_pos c13] at H
          have c13b0 : decide (0 ≤ t421) = true := decide_eq_true c13
          clear c13
          simp only [Option.some.injEq, Prod.mk.injEq] at H
          obtain ⟨rfl, rfl, rfl, rfl, rfl, rfl, rfl, rfl, rfl, rfl, rfl, rfl, rfl⟩ := H
          go_enter Tryd.func32, Tryd.ntmps32
          go_wp2_with (first | ((with_reducible refine gate_dst (N := 4) rfl ?_); refine Q43 ?hg (N := 4) ?hd (cs := #[.int .i64 0, .int .i64 0, .int .i64 0, .string (⟨#[]⟩ : ByteArray), .bool false, .int .u64 0, .int .u64 0, .int .u64 0, .int .u64 0, .int .i64 0, .int .i64 0]) (t := 26) ?hr ?_; (case hd => rfl); (case hg => rfl); (case hr => first | (go_simp; done) | (go_simp; rfl)); intro gb419 hg w14 hbox hb; have n0_ := Aside0.mk (Q34 (by repeat (first | (with_reducible first | exact HB.out | apply Q19 | apply Q8 | apply Q23) | exact HB.out)) hb); have n1_ := Aside0.mk (hbox); have n2_ := Aside0.mk ((by rw [hg]; exact (Q29 (by repeat (first | (with_reducible first | exact HB.out | apply Q19 | apply Q8 | apply Q23) | exact HB.out))) : w.heap.size ≤ gb419)); have n3_ := Aside0.mk ((by rw [hg]; exact (Q29 (by repeat (first | (with_reducible first | exact HB.out | apply Q19 | apply Q8 | apply Q23) | exact HB.out))) : w.heap.size ≤ gb419)); clear HB; have HB := n0_; have BK419 := n1_; have GW419 := n2_; have GE419 := n3_; clear n0_ n1_ n2_ n3_; clear hb hbox hg) | ((with_reducible refine gate_dst (N := 5) rfl ?_); refine Q43 ?hg (N := 5) ?hd (cs := #[.int .i64 0, .int .i64 0]) (t := 41) ?hr ?_; (case hd => rfl); (case hg => rfl); (case hr => first | (go_simp; done) | (go_simp; rfl)); intro gb420 hg w15 hbox hb; have n0_ := Aside0.mk (Q38 (g := gb419) (o := .cells #[.int .i64 0, .int .i64 0, .int .i64 0, .string (⟨#[]⟩ : ByteArray), .bool false, .int .u64 0, .int .u64 0, .int .u64 0, .int .u64 0, .int .i64 0, .int .i64 0] 26 (0, 0)) (by (with_reducible repeat (first | refine Q12 ?_ _ | refine Q24 ?_ | refine Q17 ?_ _)); exact BK419.out) hb); have n1_ := Aside0.mk (Q34 (by repeat (first | (with_reducible first | exact HB.out | apply Q19 | apply Q8 | apply Q23 | refine Q26 ?_ GE419.out) | exact HB.out)) hb); have n2_ := Aside0.mk (hbox); have n3_ := Aside0.mk ((by rw [hg]; exact (Q29 (by repeat (first | (with_reducible first | exact HB.out | apply Q19 | apply Q8 | apply Q23 | refine Q26 ?_ GE419.out) | exact HB.out))) : w.heap.size ≤ gb420)); have n4_ := Aside0.mk ((by rw [hg]; exact (Q29 (by repeat (first | (with_reducible first | exact HB.out | apply Q19 | apply Q8 | apply Q23 | refine Q26 ?_ GE419.out) | exact HB.out))) : w.heap.size ≤ gb420)); have n5_ := Aside0.mk ((by rw [hg]; exact Nat.ne_of_lt (blk_lt (g := gb419) (o := .cells #[.int .i64 0, .int .i64 0, .int .i64 0, .string (⟨#[]⟩ : ByteArray), .bool false, .int .u64 0, .int .u64 0, .int .u64 0, .int .u64 0, .int .i64 0, .int .i64 0] 26 (0, 0)) (by (with_reducible repeat (first | refine Q12 ?_ _ | refine Q24 ?_ | refine Q17 ?_ _)); exact BK419.out)) : gb419 ≠ gb420)); have n6_ := Aside0.mk ((by rw [hg]; exact Nat.ne_of_gt (blk_lt (g := gb419) (o := .cells #[.int .i64 0, .int .i64 0, .int .i64 0, .string (⟨#[]⟩ : ByteArray), .bool false, .int .u64 0, .int .u64 0, .int .u64 0, .int .u64 0, .int .i64 0, .int .i64 0] 26 (0, 0)) (by (with_reducible repeat (first | refine Q12 ?_ _ | refine Q24 ?_ | refine Q17 ?_ _)); exact BK419.out)) : gb420 ≠ gb419)); clear BK419; clear HB; have BK419 := n0_; have HB := n1_; have BK420 := n2_; have GW420 := n3_; have GE420 := n4_; have NB419_420 := n5_; have NB420_419 := n6_; clear n0_ n1_ n2_ n3_ n4_ n5_ n6_; clear hb hbox hg; have p11 : 0 ≤ (a1 : Int) := of_decide_eq_true (by first | (with_reducible assumption) | assumption); have q11 : a1 < (a0.size : Int) := of_decide_eq_true (by first | (with_reducible assumption) | assumption); have hx11 := bt_at a0 a1; replace p11 := eq_true p11; replace q11 := eq_true q11) | ((with_reducible refine Q40 (f := 48) rfl ?_); refine goesL_ (some 23) rfl rfl Tryd.func48 (by kernel_rfl) rfl #[.int .u8 (bt a0 a1)] rfl (by (try simp only [List.map_toArray, List.map_cons, List.map_nil]); first | done | rfl | (simp only [List.length_drop, List.length_take]; rfl)) ?_; (with_reducible refine (lexis_sign.calls (bt a0 a1) t421 _ A12.out).mono ?_); rintro e w' ⟨rfl, ⟨nd, rfl⟩⟩; refine ⟨_, rfl, ?_⟩; (try (rw [drewN_self w15]; generalize hq_ : World.drewN w15 _ = w15; have n0_ : Aside0 (w15.heap[gb419]? = some (.cells #[.int .i64 0, .int .i64 0, .int .i64 0, .string (⟨#[]⟩ : ByteArray), .bool false, .int .u64 0, .int .u64 0, .int .u64 0, .int .u64 0, .int .i64 0, .int .i64 0] 26 (0, 0))) := ⟨by rw [← hq_]; exact (by (with_reducible repeat (first | refine Q12 ?_ _ | refine Q24 ?_ | refine Q17 ?_ _)); exact BK419.out)⟩; have n1_ : Aside0 (w15.heap[gb420]? = some (.cells #[.int .i64 0, .int .i64 0] 41 (0, 0))) := ⟨by rw [← hq_]; exact (by (with_reducible repeat (first | refine Q12 ?_ _ | refine Q24 ?_ | refine Q17 ?_ _)); exact BK420.out)⟩; have n2_ : Aside0 (Below w.heap.size w w15) := ⟨by rw [← hq_]; exact (by repeat (first | (with_reducible first | exact HB.out | apply Q19 | apply Q8 | apply Q23 | refine Q26 ?_ GE419.out | refine Q26 ?_ GE420.out) | exact HB.out))⟩; clear BK419 BK420 HB hq_; have BK419 := n0_; have BK420 := n1_; have HB := n2_; clear n0_ n1_ n2_)); have hnb16 := NB419_420.out; have hnc16 := NB420_419.out; obtain ⟨hcz17_0, hcz17_1, hcz17_2, hcz17_3, hcz17_4, hcz17_5, hcz17_6, hcz17_7, hcz17_8, hcz17_9, hcz17_10, hfz17_0, hfz17_1, hfz17_2, hfz17_3, hfz17_4, hfz17_5, hfz17_6, hfz17_7, hfz17_8, hfz17_9, hfz17_10⟩ := Q41 BK419.out; obtain ⟨hcz18_0, hcz18_1, hfz18_0, hfz18_1⟩ := blk_cells2 BK420.out))
          refine bodyPost_ret (results_cc rfl _ _ gb419 gb420 26 41 #[.int .i64 t421, .int .i64 a1, .int .i64 (wrap64 (a1 + 1)), .string (⟨#[]⟩ : ByteArray), .bool false, .int .u64 0, .int .u64 0, .int .u64 0, .int .u64 0, .int .i64 0, .int .i64 0] #[.int .i64 0, .int .i64 0] (0, 0) (0, 0) _ _ rfl (by (with_reducible repeat (first | refine Q12 ?_ _ | refine Q24 ?_ | refine Q17 ?_ _)); refine blk_far2 ?_ NB419_420.out; (with_reducible repeat (first | refine Q12 ?_ _ | refine Q24 ?_ | refine Q17 ?_ _)); apply blk_put11; (with_reducible repeat (first | refine Q12 ?_ _ | refine Q24 ?_ | refine Q17 ?_ _)); exact BK419.out) Tryd.underlying26 rfl (by kernel_rfl) rfl (by (with_reducible repeat (first | refine Q12 ?_ _ | refine Q24 ?_ | refine Q17 ?_ _)); apply blk_put2; (with_reducible repeat (first | refine Q12 ?_ _ | refine Q24 ?_ | refine Q17 ?_ _)); refine blk_far11 ?_ NB420_419.out; (with_reducible repeat (first | refine Q12 ?_ _ | refine Q24 ?_ | refine Q17 ?_ _)); exact BK420.out) Tryd.underlying41 rfl (by kernel_rfl)) rfl ?_
          exact ⟨by first | rfl | (simp [Q37, Q35] <;> rfl) | (simp [*, Q37, Q35] <;> rfl), by repeat (first | (with_reducible first | exact HB.out | apply Q19 | apply Q8 | apply Q23 | refine Q26 ?_ GE419.out | refine Q26 ?_ GE420.out) | exact HB.out)⟩
        · rw [if_neg c13] at H
          have c13b0 : decide (0 ≤ t421) = false := decide_eq_false c13
          clear c13
          replace H := Option.bind_eq_some_iff.mp H
          obtain ⟨t422, A190, H⟩ := H
          replace H : (if t422 = true then ((lexis_word.f k a0 a1).bind fun bt423 => (some (bt423.1, bt423.2.1, bt423.2.2.1, bt423.2.2.2.1, bt423.2.2.2.2.1, bt423.2.2.2.2.2.1, bt423.2.2.2.2.2.2.1, bt423.2.2.2.2.2.2.2.1, bt423.2.2.2.2.2.2.2.2.1, bt423.2.2.2.2.2.2.2.2.2.1, bt423.2.2.2.2.2.2.2.2.2.2.1, bt423.2.2.2.2.2.2.2.2.2.2.2.1, bt423.2.2.2.2.2.2.2.2.2.2.2.2))) else (if (bt a0 a1) = 60 then (if a1 ≤ (a0.size : Int) then ((strings_HasPrefix.f (a0.extract (a1 : Int).toNat a0.size) (⟨#[60, 45]⟩ : ByteArray)).bind fun t436 => (lexis_read.j0 k a0 a1 (bt a0 a1) t436)) else (none)) else (lexis_read.j0 k a0 a1 (bt a0 a1) false))) = some (r1, r2, r3, r4, r5, r6, r7, r8, r9, r10, r11, r12, r13) := H
          have A19 := Aside0.mk A190
          clear A190
          by_cases c20 : t422 = true
          · subst c20
            have H1 : ((lexis_word.f k a0 a1).bind fun bt423 => (some (bt423.1, bt423.2.1, bt423.2.2.1, bt423.2.2.2.1, bt423.2.2.2.2.1, bt423.2.2.2.2.2.1, bt423.2.2.2.2.2.2.1, bt423.2.2.2.2.2.2.2.1, bt423.2.2.2.2.2.2.2.2.1, bt423.2.2.2.2.2.2.2.2.2.1, bt423.2.2.2.2.2.2.2.2.2.2.1, bt423.2.2.2.2.2.2.2.2.2.2.2.1, bt423.2.2.2.2.2.2.2.2.2.2.2.2))) = some (r1, r2, r3, r4, r5, r6, r7, r8, r9, r10, r11, r12, r13) := by rw [if_pos rfl] at H; exact H
            clear H
            have H := H1
            clear H1
            replace H := Option.bind_eq_some_iff.mp H
            obtain ⟨⟨t423, t424, t425, t426, t427, t428, t429, t430, t431, t432, t433, t434, t435⟩, A210, H⟩ := H
            replace H : (some (t423, t424, t425, t426, t427, t428, t429, t430, t431, t432, t433, t434, t435)) = some (r1, r2, r3, r4, r5, r6, r7, r8, r9, r10, r11, r12, r13) := H
            have A21 := Aside0.mk A210
            clear A210
            simp only [Option.some.injEq, Prod.mk.injEq] at H
            obtain ⟨rfl, rfl, rfl, rfl, rfl, rfl, rfl, rfl, rfl, rfl, rfl, rfl, rfl⟩ := H
            go_enter Tryd.func32, Tryd.ntmps32
            go_wp2_with (first | ((with_reducible refine gate_dst (N := 4) rfl ?_); refine Q43 ?hg (N := 4) ?hd (cs := #[.int .i64 0, .int .i64 0, .int .i64 0, .string (⟨#[]⟩ : ByteArray), .bool false, .int .u64 0, .int .u64 0, .int .u64 0, .int .u64 0, .int .i64 0, .int .i64 0]) (t := 26) ?hr ?_; (case hd => rfl); (case hg => rfl); (case hr => first | (go_simp; done) | (go_simp; rfl)); intro gb419 hg w22 hbox hb; have n0_ := Aside0.mk (Q34 (by repeat (first | (with_reducible first | exact HB.out | apply Q19 | apply Q8 | apply Q23) | exact HB.out)) hb); have n1_ := Aside0.mk (hbox); have n2_ := Aside0.mk ((by rw [hg]; exact (Q29 (by repeat (first | (with_reducible first | exact HB.out | apply Q19 | apply Q8 | apply Q23) | exact HB.out))) : w.heap.size ≤ gb419)); have n3_ := Aside0.mk ((by rw [hg]; exact (Q29 (by repeat (first | (with_reducible first | exact HB.out | apply Q19 | apply Q8 | apply Q23) | exact HB.out))) : w.heap.size ≤ gb419)); clear HB; have HB := n0_; have BK419 := n1_; have GW419 := n2_; have GE419 := n3_; clear n0_ n1_ n2_ n3_; clear hb hbox hg) | ((with_reducible refine gate_dst (N := 5) rfl ?_); refine Q43 ?hg (N := 5) ?hd (cs := #[.int .i64 0, .int .i64 0]) (t := 41) ?hr ?_; (case hd => rfl); (case hg => rfl); (case hr => first | (go_simp; done) | (go_simp; rfl)); intro gb420 hg w23 hbox hb; have n0_ := Aside0.mk (Q38 (g := gb419) (o := .cells #[.int .i64 0, .int .i64 0, .int .i64 0, .string (⟨#[]⟩ : ByteArray), .bool false, .int .u64 0, .int .u64 0, .int .u64 0, .int .u64 0, .int .i64 0, .int .i64 0] 26 (0, 0)) (by (with_reducible repeat (first | refine Q12 ?_ _ | refine Q24 ?_ | refine Q17 ?_ _)); exact BK419.out) hb); have n1_ := Aside0.mk (Q34 (by repeat (first | (with_reducible first | exact HB.out | apply Q19 | apply Q8 | apply Q23 | refine Q26 ?_ GE419.out) | exact HB.out)) hb); have n2_ := Aside0.mk (hbox); have n3_ := Aside0.mk ((by rw [hg]; exact (Q29 (by repeat (first | (with_reducible first | exact HB.out | apply Q19 | apply Q8 | apply Q23 | refine Q26 ?_ GE419.out) | exact HB.out))) : w.heap.size ≤ gb420)); have n4_ := Aside0.mk ((by rw [hg]; exact (Q29 (by repeat (first | (with_reducible first | exact HB.out | apply Q19 | apply Q8 | apply Q23 | refine Q26 ?_ GE419.out) | exact HB.out))) : w.heap.size ≤ gb420)); have n5_ := Aside0.mk ((by rw [hg]; exact Nat.ne_of_lt (blk_lt (g := gb419) (o := .cells #[.int .i64 0, .int .i64 0, .int .i64 0, .string (⟨#[]⟩ : ByteArray), .bool false, .int .u64 0, .int .u64 0, .int .u64 0, .int .u64 0, .int .i64 0, .int .i64 0] 26 (0, 0)) (by (with_reducible repeat (first | refine Q12 ?_ _ | refine Q24 ?_ | refine Q17 ?_ _)); exact BK419.out)) : gb419 ≠ gb420)); have n6_ := Aside0.mk ((by rw [hg]; exact Nat.ne_of_gt (blk_lt (g := gb419) (o := .cells #[.int .i64 0, .int .i64 0, .int .i64 0, .string (⟨#[]⟩ : ByteArray), .bool false, .int .u64 0, .int .u64 0, .int .u64 0, .int .u64 0, .int .i64 0, .int .i64 0] 26 (0, 0)) (by (with_reducible repeat (first | refine Q12 ?_ _ | refine Q24 ?_ | refine Q17 ?_ _)); exact BK419.out)) : gb420 ≠ gb419)); clear BK419; clear HB; have BK419 := n0_; have HB := n1_; have BK420 := n2_; have GW420 := n3_; have GE420 := n4_; have NB419_420 := n5_; have NB420_419 := n6_; clear n0_ n1_ n2_ n3_ n4_ n5_ n6_; clear hb hbox hg; have p11 : 0 ≤ (a1 : Int) := of_decide_eq_true (by first | (with_reducible assumption) | assumption); have q11 : a1 < (a0.size : Int) := of_decide_eq_true (by first | (with_reducible assumption) | assumption); have hx11 := bt_at a0 a1; replace p11 := eq_true p11; replace q11 := eq_true q11) | ((with_reducible refine Q40 (f := 48) rfl ?_); refine goesL_ (some 23) rfl rfl Tryd.func48 (by kernel_rfl) rfl #[.int .u8 (bt a0 a1)] rfl (by (try simp only [List.map_toArray, List.map_cons, List.map_nil]); first | done | rfl | (simp only [List.length_drop, List.length_take]; rfl)) ?_; (with_reducible refine (lexis_sign.calls (bt a0 a1) t421 _ A12.out).mono ?_); rintro e w' ⟨rfl, ⟨nd, rfl⟩⟩; refine ⟨_, rfl, ?_⟩; (try (rw [drewN_self w23]; generalize hq_ : World.drewN w23 _ = w23; have n0_ : Aside0 (w23.heap[gb419]? = some (.cells #[.int .i64 0, .int .i64 0, .int .i64 0, .string (⟨#[]⟩ : ByteArray), .bool false, .int .u64 0, .int .u64 0, .int .u64 0, .int .u64 0, .int .i64 0, .int .i64 0] 26 (0, 0))) := ⟨by rw [← hq_]; exact (by (with_reducible repeat (first | refine Q12 ?_ _ | refine Q24 ?_ | refine Q17 ?_ _)); exact BK419.out)⟩; have n1_ : Aside0 (w23.heap[gb420]? = some (.cells #[.int .i64 0, .int .i64 0] 41 (0, 0))) := ⟨by rw [← hq_]; exact (by (with_reducible repeat (first | refine Q12 ?_ _ | refine Q24 ?_ | refine Q17 ?_ _)); exact BK420.out)⟩; have n2_ : Aside0 (Below w.heap.size w w23) := ⟨by rw [← hq_]; exact (by repeat (first | (with_reducible first | exact HB.out | apply Q19 | apply Q8 | apply Q23 | refine Q26 ?_ GE419.out | refine Q26 ?_ GE420.out) | exact HB.out))⟩; clear BK419 BK420 HB hq_; have BK419 := n0_; have BK420 := n1_; have HB := n2_; clear n0_ n1_ n2_))) | ((with_reducible refine Q40 (f := 49) rfl ?_); refine goesL_ (some 34) rfl rfl Tryd.func49 (by kernel_rfl) rfl #[.int .u8 (bt a0 a1)] rfl (by (try simp only [List.map_toArray, List.map_cons, List.map_nil]); first | done | rfl | (simp only [List.length_drop, List.length_take]; rfl)) ?_; (with_reducible refine (lexis_letter.calls (bt a0 a1) true _ A19.out).mono ?_); rintro e w' ⟨rfl, ⟨nd, rfl⟩⟩; refine ⟨_, rfl, ?_⟩; (try (rw [drewN_self w23]; generalize hq_ : World.drewN w23 _ = w23; have n0_ : Aside0 (w23.heap[gb419]? = some (.cells #[.int .i64 0, .int .i64 0, .int .i64 0, .string (⟨#[]⟩ : ByteArray), .bool false, .int .u64 0, .int .u64 0, .int .u64 0, .int .u64 0, .int .i64 0, .int .i64 0] 26 (0, 0))) := ⟨by rw [← hq_]; exact (by (with_reducible repeat (first | refine Q12 ?_ _ | refine Q24 ?_ | refine Q17 ?_ _)); exact BK419.out)⟩; have n1_ : Aside0 (w23.heap[gb420]? = some (.cells #[.int .i64 0, .int .i64 0] 41 (0, 0))) := ⟨by rw [← hq_]; exact (by (with_reducible repeat (first | refine Q12 ?_ _ | refine Q24 ?_ | refine Q17 ?_ _)); exact BK420.out)⟩; have n2_ : Aside0 (Below w.heap.size w w23) := ⟨by rw [← hq_]; exact (by repeat (first | (with_reducible first | exact HB.out | apply Q19 | apply Q8 | apply Q23 | refine Q26 ?_ GE419.out | refine Q26 ?_ GE420.out) | exact HB.out))⟩; clear BK419 BK420 HB hq_; have BK419 := n0_; have BK420 := n1_; have HB := n2_; clear n0_ n1_ n2_))) | ((with_reducible refine Q40 (f := 50) rfl ?_); refine goesL_ (some 37) rfl rfl Tryd.func50 (by kernel_rfl) rfl #[.string a0, .int .i64 a1] rfl (by (try simp only [List.map_toArray, List.map_cons, List.map_nil]); first | done | rfl | (simp only [List.length_drop, List.length_take]; rfl)) ?_; (with_reducible refine (lexis_word.calls k a0 a1 t423 t424 t425 t426 t427 t428 t429 t430 t431 t432 t433 t434 t435 _ A21.out).mono ?_); rintro e w24 ⟨rfl, hb⟩; refine ⟨_, rfl, ?_⟩; have n0_ := Aside0.mk (Q38 (g := gb419) (o := .cells #[.int .i64 0, .int .i64 0, .int .i64 0, .string (⟨#[]⟩ : ByteArray), .bool false, .int .u64 0, .int .u64 0, .int .u64 0, .int .u64 0, .int .i64 0, .int .i64 0] 26 (0, 0)) (by (with_reducible repeat (first | refine Q12 ?_ _ | refine Q24 ?_ | refine Q17 ?_ _)); exact BK419.out) hb); have n1_ := Aside0.mk (Q38 (g := gb420) (o := .cells #[.int .i64 0, .int .i64 0] 41 (0, 0)) (by (with_reducible repeat (first | refine Q12 ?_ _ | refine Q24 ?_ | refine Q17 ?_ _)); exact BK420.out) hb); have n2_ := Aside0.mk (Q34 (by repeat (first | (with_reducible first | exact HB.out | apply Q19 | apply Q8 | apply Q23 | refine Q26 ?_ GE419.out | refine Q26 ?_ GE420.out) | exact HB.out)) hb); clear BK419; clear BK420; clear HB; have BK419 := n0_; have BK420 := n1_; have HB := n2_; clear n0_ n1_ n2_; (try clear hb); (try clear hb2); (try clear hk); (try clear hi); have hnb25 := NB419_420.out; have hnc25 := NB420_419.out; obtain ⟨hcz26_0, hcz26_1, hcz26_2, hcz26_3, hcz26_4, hcz26_5, hcz26_6, hcz26_7, hcz26_8, hcz26_9, hcz26_10, hfz26_0, hfz26_1, hfz26_2, hfz26_3, hfz26_4, hfz26_5, hfz26_6, hfz26_7, hfz26_8, hfz26_9, hfz26_10⟩ := Q41 BK419.out; obtain ⟨hcz27_0, hcz27_1, hfz27_0, hfz27_1⟩ := blk_cells2 BK420.out))
            refine bodyPost_ret (results_cc rfl _ _ gb419 gb420 26 41 #[.int .i64 t423, .int .i64 t424, .int .i64 t425, .string t426, .bool t427, .int .u64 t428, .int .u64 t429, .int .u64 t430, .int .u64 t431, .int .i64 t432, .int .i64 t433] #[.int .i64 t434, .int .i64 t435] (0, 0) (0, 0) _ _ rfl (by (with_reducible repeat (first | refine Q12 ?_ _ | refine Q24 ?_ | refine Q17 ?_ _)); refine blk_far2 ?_ NB419_420.out; (with_reducible repeat (first | refine Q12 ?_ _ | refine Q24 ?_ | refine Q17 ?_ _)); apply blk_put11; (with_reducible repeat (first | refine Q12 ?_ _ | refine Q24 ?_ | refine Q17 ?_ _)); exact BK419.out) Tryd.underlying26 rfl (by kernel_rfl) rfl (by (with_reducible repeat (first | refine Q12 ?_ _ | refine Q24 ?_ | refine Q17 ?_ _)); apply blk_put2; (with_reducible repeat (first | refine Q12 ?_ _ | refine Q24 ?_ | refine Q17 ?_ _)); refine blk_far11 ?_ NB420_419.out; (with_reducible repeat (first | refine Q12 ?_ _ | refine Q24 ?_ | refine Q17 ?_ _)); exact BK420.out) Tryd.underlying41 rfl (by kernel_rfl)) rfl ?_
            exact ⟨by first | rfl | (simp [Q37, Q35] <;> rfl) | (simp [*, Q37, Q35] <;> rfl), by repeat (first | (with_reducible first | exact HB.out | apply Q19 | apply Q8 | apply Q23 | refine Q26 ?_ GE419.out | refine Q26 ?_ GE420.out) | exact HB.out)⟩
          · replace c20 := Bool.eq_false_iff.mpr c20
            subst c20
            have H1 : (if (bt a0 a1) = 60 then (if a1 ≤ (a0.size : Int) then ((strings_HasPrefix.f (a0.extract (a1 : Int).toNat a0.size) (⟨#[60, 45]⟩ : ByteArray)).bind fun t436 => (lexis_read.j0 k a0 a1 (bt a0 a1) t436)) else (none)) else (lexis_read.j0 k a0 a1 (bt a0 a1) false)) = some (r1, r2, r3, r4, r5, r6, r7, r8, r9, r10, r11, r12, r13) := by rw [if_neg (show ¬ (false = true) by decide)] at H; exact H
            clear H
            have H := H1
            clear H1
            have HC28 := Aside0.mk H
            clear H
            go_enter Tryd.func32, Tryd.ntmps32
            go_upto_region 9 with (first | ((with_reducible refine gate_dst (N := 4) rfl ?_); refine Q43 ?hg (N := 4) ?hd (cs := #[.int .i64 0, .int .i64 0, .int .i64 0, .string (⟨#[]⟩ : ByteArray), .bool false, .int .u64 0, .int .u64 0, .int .u64 0, .int .u64 0, .int .i64 0, .int .i64 0]) (t := 26) ?hr ?_; (case hd => rfl); (case hg => rfl); (case hr => first | (go_simp; done) | (go_simp; rfl)); intro gb419 hg w29 hbox hb; have n0_ := Aside0.mk (Q34 (by repeat (first | (with_reducible first | exact HB.out | apply Q19 | apply Q8 | apply Q23) | exact HB.out)) hb); have n1_ := Aside0.mk (hbox); have n2_ := Aside0.mk ((by rw [hg]; exact (Q29 (by repeat (first | (with_reducible first | exact HB.out | apply Q19 | apply Q8 | apply Q23) | exact HB.out))) : w.heap.size ≤ gb419)); have n3_ := Aside0.mk ((by rw [hg]; exact (Q29 (by repeat (first | (with_reducible first | exact HB.out | apply Q19 | apply Q8 | apply Q23) | exact HB.out))) : w.heap.size ≤ gb419)); clear HB; have HB := n0_; have BK419 := n1_; have GW419 := n2_; have GE419 := n3_; clear n0_ n1_ n2_ n3_; clear hb hbox hg) | ((with_reducible refine gate_dst (N := 5) rfl ?_); refine Q43 ?hg (N := 5) ?hd (cs := #[.int .i64 0, .int .i64 0]) (t := 41) ?hr ?_; (case hd => rfl); (case hg => rfl); (case hr => first | (go_simp; done) | (go_simp; rfl)); intro gb420 hg w30 hbox hb; have n0_ := Aside0.mk (Q38 (g := gb419) (o := .cells #[.int .i64 0, .int .i64 0, .int .i64 0, .string (⟨#[]⟩ : ByteArray), .bool false, .int .u64 0, .int .u64 0, .int .u64 0, .int .u64 0, .int .i64 0, .int .i64 0] 26 (0, 0)) (by (with_reducible repeat (first | refine Q12 ?_ _ | refine Q24 ?_ | refine Q17 ?_ _)); exact BK419.out) hb); have n1_ := Aside0.mk (Q34 (by repeat (first | (with_reducible first | exact HB.out | apply Q19 | apply Q8 | apply Q23 | refine Q26 ?_ GE419.out) | exact HB.out)) hb); have n2_ := Aside0.mk (hbox); have n3_ := Aside0.mk ((by rw [hg]; exact (Q29 (by repeat (first | (with_reducible first | exact HB.out | apply Q19 | apply Q8 | apply Q23 | refine Q26 ?_ GE419.out) | exact HB.out))) : w.heap.size ≤ gb420)); have n4_ := Aside0.mk ((by rw [hg]; exact (Q29 (by repeat (first | (with_reducible first | exact HB.out | apply Q19 | apply Q8 | apply Q23 | refine Q26 ?_ GE419.out) | exact HB.out))) : w.heap.size ≤ gb420)); have n5_ := Aside0.mk ((by rw [hg]; exact Nat.ne_of_lt (blk_lt (g := gb419) (o := .cells #[.int .i64 0, .int .i64 0, .int .i64 0, .string (⟨#[]⟩ : ByteArray), .bool false, .int .u64 0, .int .u64 0, .int .u64 0, .int .u64 0, .int .i64 0, .int .i64 0] 26 (0, 0)) (by (with_reducible repeat (first | refine Q12 ?_ _ | refine Q24 ?_ | refine Q17 ?_ _)); exact BK419.out)) : gb419 ≠ gb420)); have n6_ := Aside0.mk ((by rw [hg]; exact Nat.ne_of_gt (blk_lt (g := gb419) (o := .cells #[.int .i64 0, .int .i64 0, .int .i64 0, .string (⟨#[]⟩ : ByteArray), .bool false, .int .u64 0, .int .u64 0, .int .u64 0, .int .u64 0, .int .i64 0, .int .i64 0] 26 (0, 0)) (by (with_reducible repeat (first | refine Q12 ?_ _ | refine Q24 ?_ | refine Q17 ?_ _)); exact BK419.out)) : gb420 ≠ gb419)); clear BK419; clear HB; have BK419 := n0_; have HB := n1_; have BK420 := n2_; have GW420 := n3_; have GE420 := n4_; have NB419_420 := n5_; have NB420_419 := n6_; clear n0_ n1_ n2_ n3_ n4_ n5_ n6_; clear hb hbox hg; have p11 : 0 ≤ (a1 : Int) := of_decide_eq_true (by first | (with_reducible assumption) | assumption); have q11 : a1 < (a0.size : Int) := of_decide_eq_true (by first | (with_reducible assumption) | assumption); have hx11 := bt_at a0 a1; replace p11 := eq_true p11; replace q11 := eq_true q11) | ((with_reducible refine Q40 (f := 48) rfl ?_); refine goesL_ (some 23) rfl rfl Tryd.func48 (by kernel_rfl) rfl #[.int .u8 (bt a0 a1)] rfl (by (try simp only [List.map_toArray, List.map_cons, List.map_nil]); first | done | rfl | (simp only [List.length_drop, List.length_take]; rfl)) ?_; (with_reducible refine (lexis_sign.calls (bt a0 a1) t421 _ A12.out).mono ?_); rintro e w' ⟨rfl, ⟨nd, rfl⟩⟩; refine ⟨_, rfl, ?_⟩) | ((with_reducible refine Q40 (f := 49) rfl ?_); refine goesL_ (some 34) rfl rfl Tryd.func49 (by kernel_rfl) rfl #[.int .u8 (bt a0 a1)] rfl (by (try simp only [List.map_toArray, List.map_cons, List.map_nil]); first | done | rfl | (simp only [List.length_drop, List.length_take]; rfl)) ?_; (with_reducible refine (lexis_letter.calls (bt a0 a1) false _ A19.out).mono ?_); rintro e w' ⟨rfl, ⟨nd, rfl⟩⟩; refine ⟨_, rfl, ?_⟩))
            (try simp only [Act.put, List.setIfInBounds_toArray, List.set_cons_zero, List.set_cons_succ])
            go_cut [40] (fun v40 wc => ∃ (kq : Nat) (x40_27 : Bool), v40 = .bool x40_27 ∧ Aside0 (lexis_read.j0 kq a0 a1 (bt a0 a1) x40_27 = some (r1, r2, r3, r4, r5, r6, r7, r8, r9, r10, r11, r12, r13)) ∧ Aside0 (kq ≤ k) ∧ Aside0 (wc.heap[gb419]? = some (.cells #[.int .i64 0, .int .i64 0, .int .i64 0, .string (⟨#[]⟩ : ByteArray), .bool false, .int .u64 0, .int .u64 0, .int .u64 0, .int .u64 0, .int .i64 0, .int .i64 0] 26 (0, 0))) ∧ Aside0 (wc.heap[gb420]? = some (.cells #[.int .i64 0, .int .i64 0] 41 (0, 0))) ∧ Aside0 (Below w.heap.size w wc))
            case first =>
              have H := HC28.out
              clear HC28
              by_cases c31 : (bt a0 a1) = 60
              · rw [if_pos c31] at H
                have c31b0 : ((bt a0 a1) == 60) = true := beq_iff_eq.mpr c31
                have c31b1 : ((bt a0 a1) != 60) = false := bne_eq_false_iff_eq.mpr c31
                clear c31
                (first | rw [c31b0] | (simp only [i64_w, i32_w]; rw [c31b0]) | skip)
                have c32b0 := eq_true (of_decide_eq_true (by first | (with_reducible assumption) | assumption) : 0 ≤ a1)
                by_cases c33 : a1 ≤ (a0.size : Int)
                · rw [if_pos c33] at H
                  have c33b0 := eq_true c33
                  have c33b1 : decide (a1 ≤ (a0.size : Int)) = true := decide_eq_true c33
                  clear c33
                  replace H := Option.bind_eq_some_iff.mp H
                  obtain ⟨t436, A340, H⟩ := H
                  replace H : (lexis_read.j0 k a0 a1 (bt a0 a1) t436) = some (r1, r2, r3, r4, r5, r6, r7, r8, r9, r10, r11, r12, r13) := H
                  have A34 := Aside0.mk A340
                  clear A340
                  have H' := Aside0.mk H
                  clear H
                  go_wp2_with (first | (go_at_call 51; (with_reducible refine (strings_HasPrefix.calls (a0.extract (a1 : Int).toNat a0.size) (⟨#[60, 45]⟩ : ByteArray) t436 _ A34.out).mono ?_); rintro e w' ⟨rfl, ⟨nd, rfl⟩⟩))
                  go_meet
                  case rel => exact ⟨_, (t436), (by first | rfl | (simp; done) | (simp [*]; done)), H', ⟨by first | omega | exact Nat.le_refl _⟩, ⟨by (with_reducible repeat (first | refine Q12 ?_ _ | refine Q24 ?_ | refine Q17 ?_ _)); exact BK419.out⟩, ⟨by (with_reducible repeat (first | refine Q12 ?_ _ | refine Q24 ?_ | refine Q17 ?_ _)); exact BK420.out⟩, ⟨by repeat (first | (with_reducible first | exact HB.out | apply Q19 | apply Q8 | apply Q23 | refine Q26 ?_ GE419.out | refine Q26 ?_ GE420.out) | exact HB.out)⟩⟩
                · rw [if_neg c33] at H
                  exact absurd H (by simp)
              · rw [if_neg c31] at H
                have c31b0 : ((bt a0 a1) == 60) = false := beq_eq_false_iff_ne.mpr c31
                have c31b1 : ((bt a0 a1) != 60) = true := bne_iff_ne.mpr c31
                (first | rw [c31b0] | (simp only [i64_w, i32_w]; rw [c31b0]) | skip)
                have H' := Aside0.mk H
                clear H
                go_wp2
                go_meet
                case rel => exact ⟨_, (false), (by first | rfl | (simp; done) | (simp [*]; done)), H', ⟨by first | omega | exact Nat.le_refl _⟩, ⟨by (with_reducible repeat (first | refine Q12 ?_ _ | refine Q24 ?_ | refine Q17 ?_ _)); exact BK419.out⟩, ⟨by (with_reducible repeat (first | refine Q12 ?_ _ | refine Q24 ?_ | refine Q17 ?_ _)); exact BK420.out⟩, ⟨by repeat (first | (with_reducible first | exact HB.out | apply Q19 | apply Q8 | apply Q23 | refine Q26 ?_ GE419.out | refine Q26 ?_ GE420.out) | exact HB.out)⟩⟩
            case rest =>
              clear HC28
              try clear c1
              try clear p1
              try clear q1
              try clear hx1
              try clear c2
              try clear p2
              try clear c3
              try clear c3b0
              try clear c3b1
              try clear c4
              try clear c5
              try clear c6
              try clear p6
              try clear c9
              try clear c9b0
              try clear c10
              try clear c10b0
              try clear p11
              try clear q11
              try clear hx11
              try clear c13
              try clear c13b0
              try clear c16
              try clear c20
              try clear c25
              try clear c31
              try clear c31b0
              try clear c31b1
              try clear c32
              try clear c32b0
              try clear c33
              try clear c33b0
              try clear c33b1
              try clear hcz17_0
              try clear hcz17_1
              try clear hcz17_10
              try clear hcz17_2
              try clear hcz17_3
              try clear hcz17_4
              try clear hcz17_5
              try clear hcz17_6
              try clear hcz17_7
              try clear hcz17_8
              try clear hcz17_9
              try clear hcz18_0
              try clear hcz18_1
              try clear hcz26_0
              try clear hcz26_1
              try clear hcz26_10
              try clear hcz26_2
              try clear hcz26_3
              try clear hcz26_4
              try clear hcz26_5
              try clear hcz26_6
              try clear hcz26_7
              try clear hcz26_8
              try clear hcz26_9
              try clear hcz27_0
              try clear hcz27_1
              try clear hcz7_0
              try clear hcz7_1
              try clear hcz7_10
              try clear hcz7_2
              try clear hcz7_3
              try clear hcz7_4
              try clear hcz7_5
              try clear hcz7_6
              try clear hcz7_7
              try clear hcz7_8
              try clear hcz7_9
              try clear hcz8_0
              try clear hcz8_1
              try clear hfz17_0
              try clear hfz17_1
              try clear hfz17_10
              try clear hfz17_2
              try clear hfz17_3
              try clear hfz17_4
              try clear hfz17_5
              try clear hfz17_6
              try clear hfz17_7
              try clear hfz17_8
              try clear hfz17_9
              try clear hfz18_0
              try clear hfz18_1
              try clear hfz26_0
              try clear hfz26_1
              try clear hfz26_10
              try clear hfz26_2
              try clear hfz26_3
              try clear hfz26_4
              try clear hfz26_5
              try clear hfz26_6
              try clear hfz26_7
              try clear hfz26_8
              try clear hfz26_9
              try clear hfz27_0
              try clear hfz27_1
              try clear hfz7_0
              try clear hfz7_1
              try clear hfz7_10
              try clear hfz7_2
              try clear hfz7_3
              try clear hfz7_4
              try clear hfz7_5
              try clear hfz7_6
              try clear hfz7_7
              try clear hfz7_8
              try clear hfz7_9
              try clear hfz8_0
              try clear hfz8_1
              try clear p11
              try clear q11
              obtain ⟨kq, x40_27, rfl, HA, HJ27, BK419, BK420, HB⟩ := hcut
              cases kq with
              | zero => exact absurd HA.out (by simp [lexis_read.j0])
              | succ kj27 =>
                have H := HA.out
                clear HA
                simp only [lexis_read.j0] at H
                by_cases c35 : x40_27 = true
                · subst c35
                  have H1 : (some (2, a1, wrap64 (a1 + 2), (⟨#[]⟩ : ByteArray), false, 0, 0, 0, 0, 0, 0, 0, 0)) = some (r1, r2, r3, r4, r5, r6, r7, r8, r9, r10, r11, r12, r13) := by rw [if_pos rfl] at H; exact H
                  clear H
                  have H := H1
                  clear H1
                  simp only [Option.some.injEq, Prod.mk.injEq] at H
                  obtain ⟨rfl, rfl, rfl, rfl, rfl, rfl, rfl, rfl, rfl, rfl, rfl, rfl, rfl⟩ := H
                  have hnb36 := NB419_420.out
                  have hnc36 := NB420_419.out
                  have hcz37_0 : wc.cell? ⟨gb419, 0, none⟩ = some (.int .i64 0) := (Q32 BK419.out 0).trans rfl
                  have hcz37_1 : wc.cell? ⟨gb419, 1, none⟩ = some (.int .i64 0) := (Q32 BK419.out 1).trans rfl
                  have hcz37_2 : wc.cell? ⟨gb419, 2, none⟩ = some (.int .i64 0) := (Q32 BK419.out 2).trans rfl
                  have hcz37_3 : wc.cell? ⟨gb419, 3, none⟩ = some (.string (⟨#[]⟩ : ByteArray)) := (Q32 BK419.out 3).trans rfl
                  have hcz37_4 : wc.cell? ⟨gb419, 4, none⟩ = some (.bool false) := (Q32 BK419.out 4).trans rfl
                  have hcz37_5 : wc.cell? ⟨gb419, 5, none⟩ = some (.int .u64 0) := (Q32 BK419.out 5).trans rfl
                  have hcz37_6 : wc.cell? ⟨gb419, 6, none⟩ = some (.int .u64 0) := (Q32 BK419.out 6).trans rfl
                  have hcz37_7 : wc.cell? ⟨gb419, 7, none⟩ = some (.int .u64 0) := (Q32 BK419.out 7).trans rfl
                  have hcz37_8 : wc.cell? ⟨gb419, 8, none⟩ = some (.int .u64 0) := (Q32 BK419.out 8).trans rfl
                  have hcz37_9 : wc.cell? ⟨gb419, 9, none⟩ = some (.int .i64 0) := (Q32 BK419.out 9).trans rfl
                  have hcz37_10 : wc.cell? ⟨gb419, 10, none⟩ = some (.int .i64 0) := (Q32 BK419.out 10).trans rfl
                  have hfz37_0 := Q28 BK419.out 0
                  have hfz37_1 := Q28 BK419.out 1
                  have hfz37_2 := Q28 BK419.out 2
                  have hfz37_3 := Q28 BK419.out 3
                  have hfz37_4 := Q28 BK419.out 4
                  have hfz37_5 := Q28 BK419.out 5
                  have hfz37_6 := Q28 BK419.out 6
                  have hfz37_7 := Q28 BK419.out 7
                  have hfz37_8 := Q28 BK419.out 8
                  have hfz37_9 := Q28 BK419.out 9
                  have hfz37_10 := Q28 BK419.out 10
                  have hcz38_0 : wc.cell? ⟨gb420, 0, none⟩ = some (.int .i64 0) := (Q32 BK420.out 0).trans rfl
                  have hcz38_1 : wc.cell? ⟨gb420, 1, none⟩ = some (.int .i64 0) := (Q32 BK420.out 1).trans rfl
                  have hfz38_0 := Q28 BK420.out 0
                  have hfz38_1 := Q28 BK420.out 1
                  go_wp2
                  refine bodyPost_ret (results_cc rfl _ _ gb419 gb420 26 41 #[.int .i64 2, .int .i64 a1, .int .i64 (wrap64 (a1 + 2)), .string (⟨#[]⟩ : ByteArray), .bool false, .int .u64 0, .int .u64 0, .int .u64 0, .int .u64 0, .int .i64 0, .int .i64 0] #[.int .i64 0, .int .i64 0] (0, 0) (0, 0) _ _ rfl (by (with_reducible repeat (first | refine Q12 ?_ _ | refine Q24 ?_ | refine Q17 ?_ _)); refine blk_far2 ?_ NB419_420.out; (with_reducible repeat (first | refine Q12 ?_ _ | refine Q24 ?_ | refine Q17 ?_ _)); apply blk_put11; (with_reducible repeat (first | refine Q12 ?_ _ | refine Q24 ?_ | refine Q17 ?_ _)); exact BK419.out) Tryd.underlying26 rfl (by kernel_rfl) rfl (by (with_reducible repeat (first | refine Q12 ?_ _ | refine Q24 ?_ | refine Q17 ?_ _)); apply blk_put2; (with_reducible repeat (first | refine Q12 ?_ _ | refine Q24 ?_ | refine Q17 ?_ _)); refine blk_far11 ?_ NB420_419.out; (with_reducible repeat (first | refine Q12 ?_ _ | refine Q24 ?_ | refine Q17 ?_ _)); exact BK420.out) Tryd.underlying41 rfl (by kernel_rfl)) rfl ?_
                  exact ⟨by first | rfl | (simp [Q37, Q35] <;> rfl) | (simp [*, Q37, Q35] <;> rfl), by repeat (first | (with_reducible first | exact HB.out | apply Q19 | apply Q8 | apply Q23 | refine Q26 ?_ GE419.out | refine Q26 ?_ GE420.out) | exact HB.out)⟩
                · replace c35 := Bool.eq_false_iff.mpr c35
                  subst c35
                  have H1 : (if (bt a0 a1) = 123 then ((lexis_count.f kj27 a0 a1).bind fun bt437 => (some (bt437.1, bt437.2.1, bt437.2.2.1, bt437.2.2.2.1, bt437.2.2.2.2.1, bt437.2.2.2.2.2.1, bt437.2.2.2.2.2.2.1, bt437.2.2.2.2.2.2.2.1, bt437.2.2.2.2.2.2.2.2.1, bt437.2.2.2.2.2.2.2.2.2.1, bt437.2.2.2.2.2.2.2.2.2.2.1, bt437.2.2.2.2.2.2.2.2.2.2.2.1, bt437.2.2.2.2.2.2.2.2.2.2.2.2))) else (if (bt a0 a1) = 39 then (lexis_read.j1 kj27 a0 a1 (bt a0 a1) true) else (lexis_read.j1 kj27 a0 a1 (bt a0 a1) ((bt a0 a1) == 34)))) = some (r1, r2, r3, r4, r5, r6, r7, r8, r9, r10, r11, r12, r13) := by rw [if_neg (show ¬ (false = true) by decide)] at H; exact H
                  clear H
                  have H := H1
                  clear H1
                  by_cases c39 : (bt a0 a1) = 123
                  · rw [if_pos c39] at H
                    have c39b0 : ((bt a0 a1) == 123) = true := beq_iff_eq.mpr c39
                    have c39b1 : ((bt a0 a1) != 123) = false := bne_eq_false_iff_eq.mpr c39
                    clear c39
                    replace H := Option.bind_eq_some_iff.mp H
                    obtain ⟨⟨t437, t438, t439, t440, t441, t442, t443, t444, t445, t446, t447, t448, t449⟩, A400, H⟩ := H
                    replace H : (some (t437, t438, t439, t440, t441, t442, t443, t444, t445, t446, t447, t448, t449)) = some (r1, r2, r3, r4, r5, r6, r7, r8, r9, r10, r11, r12, r13) := H
                    have A40 := Aside0.mk A400
                    clear A400
                    simp only [Option.some.injEq, Prod.mk.injEq] at H
                    obtain ⟨rfl, rfl, rfl, rfl, rfl, rfl, rfl, rfl, rfl, rfl, rfl, rfl, rfl⟩ := H
                    go_wp2_with (first | ((with_reducible refine Q40 (f := 52) rfl ?_); refine goesL_ (some 59) rfl rfl Tryd.func52 (by kernel_rfl) rfl #[.string a0, .int .i64 a1] rfl (by (try simp only [List.map_toArray, List.map_cons, List.map_nil]); first | done | rfl | (simp only [List.length_drop, List.length_take]; rfl)) ?_; (with_reducible refine (lexis_count.calls kj27 a0 a1 t437 t438 t439 t440 t441 t442 t443 t444 t445 t446 t447 t448 t449 _ A40.out).mono ?_); rintro e w41 ⟨rfl, hb⟩; refine ⟨_, rfl, ?_⟩; have n0_ := Aside0.mk (Q38 (g := gb419) (o := .cells #[.int .i64 0, .int .i64 0, .int .i64 0, .string (⟨#[]⟩ : ByteArray), .bool false, .int .u64 0, .int .u64 0, .int .u64 0, .int .u64 0, .int .i64 0, .int .i64 0] 26 (0, 0)) (by (with_reducible repeat (first | refine Q12 ?_ _ | refine Q24 ?_ | refine Q17 ?_ _)); exact BK419.out) hb); have n1_ := Aside0.mk (Q38 (g := gb420) (o := .cells #[.int .i64 0, .int .i64 0] 41 (0, 0)) (by (with_reducible repeat (first | refine Q12 ?_ _ | refine Q24 ?_ | refine Q17 ?_ _)); exact BK420.out) hb); have n2_ := Aside0.mk (Q34 (by repeat (first | (with_reducible first | exact HB.out | apply Q19 | apply Q8 | apply Q23 | refine Q26 ?_ GE419.out | refine Q26 ?_ GE420.out) | exact HB.out)) hb); clear BK419; clear BK420; clear HB; have BK419 := n0_; have BK420 := n1_; have HB := n2_; clear n0_ n1_ n2_; (try clear hb); (try clear hb2); (try clear hk); (try clear hi); have hnb42 := NB419_420.out; have hnc42 := NB420_419.out; obtain ⟨hcz43_0, hcz43_1, hcz43_2, hcz43_3, hcz43_4, hcz43_5, hcz43_6, hcz43_7, hcz43_8, hcz43_9, hcz43_10, hfz43_0, hfz43_1, hfz43_2, hfz43_3, hfz43_4, hfz43_5, hfz43_6, hfz43_7, hfz43_8, hfz43_9, hfz43_10⟩ := Q41 BK419.out; obtain ⟨hcz44_0, hcz44_1, hfz44_0, hfz44_1⟩ := blk_cells2 BK420.out))
                    refine bodyPost_ret (results_cc rfl _ _ gb419 gb420 26 41 #[.int .i64 t437, .int .i64 t438, .int .i64 t439, .string t440, .bool t441, .int .u64 t442, .int .u64 t443, .int .u64 t444, .int .u64 t445, .int .i64 t446, .int .i64 t447] #[.int .i64 t448, .int .i64 t449] (0, 0) (0, 0) _ _ rfl (by (with_reducible repeat (first | refine Q12 ?_ _ | refine Q24 ?_ | refine Q17 ?_ _)); refine blk_far2 ?_ NB419_420.out; (with_reducible repeat (first | refine Q12 ?_ _ | refine Q24 ?_ | refine Q17 ?_ _)); apply blk_put11; (with_reducible repeat (first | refine Q12 ?_ _ | refine Q24 ?_ | refine Q17 ?_ _)); exact BK419.out) Tryd.underlying26 rfl (by kernel_rfl) rfl (by (with_reducible repeat (first | refine Q12 ?_ _ | refine Q24 ?_ | refine Q17 ?_ _)); apply blk_put2; (with_reducible repeat (first | refine Q12 ?_ _ | refine Q24 ?_ | refine Q17 ?_ _)); refine blk_far11 ?_ NB420_419.out; (with_reducible repeat (first | refine Q12 ?_ _ | refine Q24 ?_ | refine Q17 ?_ _)); exact BK420.out) Tryd.underlying41 rfl (by kernel_rfl)) rfl ?_
                    exact ⟨by first | rfl | (simp [Q37, Q35] <;> rfl) | (simp [*, Q37, Q35] <;> rfl), by repeat (first | (with_reducible first | exact HB.out | apply Q19 | apply Q8 | apply Q23 | refine Q26 ?_ GE419.out | refine Q26 ?_ GE420.out) | exact HB.out)⟩
                  · rw [if_neg c39] at H
                    have c39b0 : ((bt a0 a1) == 123) = false := beq_eq_false_iff_ne.mpr c39
                    have c39b1 : ((bt a0 a1) != 123) = true := bne_iff_ne.mpr c39
                    have HC45 := Aside0.mk H
                    clear H
                    go_upto_region 13 with (fail)
                    go_cut [62] (fun v62 wc => ∃ (kq : Nat) (x62_44 : Bool), v62 = .bool x62_44 ∧ Aside0 (lexis_read.j1 kq a0 a1 (bt a0 a1) x62_44 = some (r1, r2, r3, r4, r5, r6, r7, r8, r9, r10, r11, r12, r13)) ∧ Aside0 (kq ≤ kj27) ∧ Aside0 (wc.heap[gb419]? = some (.cells #[.int .i64 0, .int .i64 0, .int .i64 0, .string (⟨#[]⟩ : ByteArray), .bool false, .int .u64 0, .int .u64 0, .int .u64 0, .int .u64 0, .int .i64 0, .int .i64 0] 26 (0, 0))) ∧ Aside0 (wc.heap[gb420]? = some (.cells #[.int .i64 0, .int .i64 0] 41 (0, 0))) ∧ Aside0 (Below w.heap.size w wc))
                    case first =>
                      have H := HC45.out
                      clear HC45
                      by_cases c46 : (bt a0 a1) = 39
                      · rw [if_pos c46] at H
                        have c46b0 : ((bt a0 a1) == 39) = true := beq_iff_eq.mpr c46
                        have c46b1 : ((bt a0 a1) != 39) = false := bne_eq_false_iff_eq.mpr c46
                        clear c46
                        (first | rw [c46b0] | (simp only [i64_w, i32_w]; rw [c46b0]) | skip)
                        have H' := Aside0.mk H
                        clear H
                        go_wp2
                        go_meet
                        case rel => exact ⟨_, (true), (by first | rfl | (simp; done) | (simp [*]; done)), H', ⟨by have := HJ27.out; first | omega | exact Nat.le_refl _⟩, ⟨by (with_reducible repeat (first | refine Q12 ?_ _ | refine Q24 ?_ | refine Q17 ?_ _)); exact BK419.out⟩, ⟨by (with_reducible repeat (first | refine Q12 ?_ _ | refine Q24 ?_ | refine Q17 ?_ _)); exact BK420.out⟩, ⟨by repeat (first | (with_reducible first | exact HB.out | apply Q19 | apply Q8 | apply Q23 | refine Q26 ?_ GE419.out | refine Q26 ?_ GE420.out) | exact HB.out)⟩⟩
                      · rw [if_neg c46] at H
                        have c46b0 : ((bt a0 a1) == 39) = false := beq_eq_false_iff_ne.mpr c46
                        have c46b1 : ((bt a0 a1) != 39) = true := bne_iff_ne.mpr c46
                        (first | rw [c46b0] | (simp only [i64_w, i32_w]; rw [c46b0]) | skip)
                        have H' := Aside0.mk H
                        clear H
                        go_wp2
                        go_meet
                        case rel => exact ⟨_, (((bt a0 a1) == 34)), (by first | rfl | (simp; done) | (simp [*]; done)), H', ⟨by have := HJ27.out; first | omega | exact Nat.le_refl _⟩, ⟨by (with_reducible repeat (first | refine Q12 ?_ _ | refine Q24 ?_ | refine Q17 ?_ _)); exact BK419.out⟩, ⟨by (with_reducible repeat (first | refine Q12 ?_ _ | refine Q24 ?_ | refine Q17 ?_ _)); exact BK420.out⟩, ⟨by repeat (first | (with_reducible first | exact HB.out | apply Q19 | apply Q8 | apply Q23 | refine Q26 ?_ GE419.out | refine Q26 ?_ GE420.out) | exact HB.out)⟩⟩
                    case rest =>
                      clear HC45
                      try clear c1
                      try clear p1
                      try clear q1
                      try clear hx1
                      try clear c2
                      try clear p2
                      try clear c3
                      try clear c3b0
                      try clear c3b1
                      try clear c4
                      try clear c5
                      try clear c6
                      try clear p6
                      try clear c9
                      try clear c9b0
                      try clear c10
                      try clear c10b0
                      try clear p11
                      try clear q11
                      try clear hx11
                      try clear c13
                      try clear c13b0
                      try clear c16
                      try clear c20
                      try clear c25
                      try clear c31
                      try clear c31b0
                      try clear c31b1
                      try clear c32
                      try clear c32b0
                      try clear c33
                      try clear c33b0
                      try clear c33b1
                      try clear c35
                      try clear c36
                      try clear c39
                      try clear c39b0
                      try clear c39b1
                      try clear c42
                      try clear c46
                      try clear c46b0
                      try clear c46b1
                      try clear hcz17_0
                      try clear hcz17_1
                      try clear hcz17_10
                      try clear hcz17_2
                      try clear hcz17_3
                      try clear hcz17_4
                      try clear hcz17_5
                      try clear hcz17_6
                      try clear hcz17_7
                      try clear hcz17_8
                      try clear hcz17_9
                      try clear hcz18_0
                      try clear hcz18_1
                      try clear hcz26_0
                      try clear hcz26_1
                      try clear hcz26_10
                      try clear hcz26_2
                      try clear hcz26_3
                      try clear hcz26_4
                      try clear hcz26_5
                      try clear hcz26_6
                      try clear hcz26_7
                      try clear hcz26_8
                      try clear hcz26_9
                      try clear hcz27_0
                      try clear hcz27_1
                      try clear hcz37_0
                      try clear hcz37_1
                      try clear hcz37_10
                      try clear hcz37_2
                      try clear hcz37_3
                      try clear hcz37_4
                      try clear hcz37_5
                      try clear hcz37_6
                      try clear hcz37_7
                      try clear hcz37_8
                      try clear hcz37_9
                      try clear hcz38_0
                      try clear hcz38_1
                      try clear hcz43_0
                      try clear hcz43_1
                      try clear hcz43_10
                      try clear hcz43_2
                      try clear hcz43_3
                      try clear hcz43_4
                      try clear hcz43_5
                      try clear hcz43_6
                      try clear hcz43_7
                      try clear hcz43_8
                      try clear hcz43_9
                      try clear hcz44_0
                      try clear hcz44_1
                      try clear hcz7_0
                      try clear hcz7_1
                      try clear hcz7_10
                      try clear hcz7_2
                      try clear hcz7_3
                      try clear hcz7_4
                      try clear hcz7_5
                      try clear hcz7_6
                      try clear hcz7_7
                      try clear hcz7_8
                      try clear hcz7_9
                      try clear hcz8_0
                      try clear hcz8_1
                      try clear hfz17_0
                      try clear hfz17_1
                      try clear hfz17_10
                      try clear hfz17_2
                      try clear hfz17_3
                      try clear hfz17_4
                      try clear hfz17_5
                      try clear hfz17_6
                      try clear hfz17_7
                      try clear hfz17_8
                      try clear hfz17_9
                      try clear hfz18_0
                      try clear hfz18_1
                      try clear hfz26_0
                      try clear hfz26_1
                      try clear hfz26_10
                      try clear hfz26_2
                      try clear hfz26_3
                      try clear hfz26_4
                      try clear hfz26_5
                      try clear hfz26_6
                      try clear hfz26_7
                      try clear hfz26_8
                      try clear hfz26_9
                      try clear hfz27_0
                      try clear hfz27_1
                      try clear hfz37_0
                      try clear hfz37_1
                      try clear hfz37_10
                      try clear hfz37_2
                      try clear hfz37_3
                      try clear hfz37_4
                      try clear hfz37_5
                      try clear hfz37_6
                      try clear hfz37_7
                      try clear hfz37_8
                      try clear hfz37_9
                      try clear hfz38_0
                      try clear hfz38_1
                      try clear hfz43_0
                      try clear hfz43_1
                      try clear hfz43_10
                      try clear hfz43_2
                      try clear hfz43_3
                      try clear hfz43_4
                      try clear hfz43_5
                      try clear hfz43_6
                      try clear hfz43_7
                      try clear hfz43_8
                      try clear hfz43_9
                      try clear hfz44_0
                      try clear hfz44_1
                      try clear hfz7_0
                      try clear hfz7_1
                      try clear hfz7_10
                      try clear hfz7_2
                      try clear hfz7_3
                      try clear hfz7_4
                      try clear hfz7_5
                      try clear hfz7_6
                      try clear hfz7_7
                      try clear hfz7_8
                      try clear hfz7_9
                      try clear hfz8_0
                      try clear hfz8_1
                      try clear p1
                      try clear p11
                      try clear p2
                      try clear p6
                      try clear q1
                      try clear q11
                      obtain ⟨kq, x62_44, rfl, HA, HJ44, BK419, BK420, HB⟩ := hcut
                      cases kq with
                      | zero => exact absurd HA.out (by simp [lexis_read.j1])
                      | succ kj44 =>
                        have H := HA.out
                        clear HA
                        simp only [lexis_read.j1] at H
                        by_cases c47 : x62_44 = true
                        · subst c47
                          have H1 : ((lexis_literal.f kj44 a0 a1).bind fun bt450 => (some (bt450.1, bt450.2.1, bt450.2.2.1, bt450.2.2.2.1, bt450.2.2.2.2.1, bt450.2.2.2.2.2.1, bt450.2.2.2.2.2.2.1, bt450.2.2.2.2.2.2.2.1, bt450.2.2.2.2.2.2.2.2.1, bt450.2.2.2.2.2.2.2.2.2.1, bt450.2.2.2.2.2.2.2.2.2.2.1, bt450.2.2.2.2.2.2.2.2.2.2.2.1, bt450.2.2.2.2.2.2.2.2.2.2.2.2))) = some (r1, r2, r3, r4, r5, r6, r7, r8, r9, r10, r11, r12, r13) := by rw [if_pos rfl] at H; exact H
                          clear H
                          have H := H1
                          clear H1
                          replace H := Option.bind_eq_some_iff.mp H
                          obtain ⟨⟨t450, t451, t452, t453, t454, t455, t456, t457, t458, t459, t460, t461, t462⟩, A480, H⟩ := H
                          replace H : (some (t450, t451, t452, t453, t454, t455, t456, t457, t458, t459, t460, t461, t462)) = some (r1, r2, r3, r4, r5, r6, r7, r8, r9, r10, r11, r12, r13) := H
                          have A48 := Aside0.mk A480
                          clear A480
                          simp only [Option.some.injEq, Prod.mk.injEq] at H
                          obtain ⟨rfl, rfl, rfl, rfl, rfl, rfl, rfl, rfl, rfl, rfl, rfl, rfl, rfl⟩ := H
                          go_wp2_with (first | ((with_reducible refine Q40 (f := 53) rfl ?_); refine goesL_ (some 71) rfl rfl Tryd.func53 (by kernel_rfl) rfl #[.string a0, .int .i64 a1] rfl (by (try simp only [List.map_toArray, List.map_cons, List.map_nil]); first | done | rfl | (simp only [List.length_drop, List.length_take]; rfl)) ?_; (with_reducible refine (lexis_literal.calls kj44 a0 a1 t450 t451 t452 t453 t454 t455 t456 t457 t458 t459 t460 t461 t462 _ A48.out).mono ?_); rintro e w49 ⟨rfl, hb⟩; refine ⟨_, rfl, ?_⟩; have n0_ := Aside0.mk (Q38 (g := gb419) (o := .cells #[.int .i64 0, .int .i64 0, .int .i64 0, .string (⟨#[]⟩ : ByteArray), .bool false, .int .u64 0, .int .u64 0, .int .u64 0, .int .u64 0, .int .i64 0, .int .i64 0] 26 (0, 0)) (by (with_reducible repeat (first | refine Q12 ?_ _ | refine Q24 ?_ | refine Q17 ?_ _)); exact BK419.out) hb); have n1_ := Aside0.mk (Q38 (g := gb420) (o := .cells #[.int .i64 0, .int .i64 0] 41 (0, 0)) (by (with_reducible repeat (first | refine Q12 ?_ _ | refine Q24 ?_ | refine Q17 ?_ _)); exact BK420.out) hb); have n2_ := Aside0.mk (Q34 (by repeat (first | (with_reducible first | exact HB.out | apply Q19 | apply Q8 | apply Q23 | refine Q26 ?_ GE419.out | refine Q26 ?_ GE420.out) | exact HB.out)) hb); clear BK419; clear BK420; clear HB; have BK419 := n0_; have BK420 := n1_; have HB := n2_; clear n0_ n1_ n2_; (try clear hb); (try clear hb2); (try clear hk); (try clear hi); have hnb50 := NB419_420.out; have hnc50 := NB420_419.out; obtain ⟨hcz51_0, hcz51_1, hcz51_2, hcz51_3, hcz51_4, hcz51_5, hcz51_6, hcz51_7, hcz51_8, hcz51_9, hcz51_10, hfz51_0, hfz51_1, hfz51_2, hfz51_3, hfz51_4, hfz51_5, hfz51_6, hfz51_7, hfz51_8, hfz51_9, hfz51_10⟩ := Q41 BK419.out; obtain ⟨hcz52_0, hcz52_1, hfz52_0, hfz52_1⟩ := blk_cells2 BK420.out))
                          refine bodyPost_ret (results_cc rfl _ _ gb419 gb420 26 41 #[.int .i64 t450, .int .i64 t451, .int .i64 t452, .string t453, .bool t454, .int .u64 t455, .int .u64 t456, .int .u64 t457, .int .u64 t458, .int .i64 t459, .int .i64 t460] #[.int .i64 t461, .int .i64 t462] (0, 0) (0, 0) _ _ rfl (by (with_reducible repeat (first | refine Q12 ?_ _ | refine Q24 ?_ | refine Q17 ?_ _)); refine blk_far2 ?_ NB419_420.out; (with_reducible repeat (first | refine Q12 ?_ _ | refine Q24 ?_ | refine Q17 ?_ _)); apply blk_put11; (with_reducible repeat (first | refine Q12 ?_ _ | refine Q24 ?_ | refine Q17 ?_ _)); exact BK419.out) Tryd.underlying26 rfl (by kernel_rfl) rfl (by (with_reducible repeat (first | refine Q12 ?_ _ | refine Q24 ?_ | refine Q17 ?_ _)); apply blk_put2; (with_reducible repeat (first | refine Q12 ?_ _ | refine Q24 ?_ | refine Q17 ?_ _)); refine blk_far11 ?_ NB420_419.out; (with_reducible repeat (first | refine Q12 ?_ _ | refine Q24 ?_ | refine Q17 ?_ _)); exact BK420.out) Tryd.underlying41 rfl (by kernel_rfl)) rfl ?_
                          exact ⟨by first | rfl | (simp [Q37, Q35] <;> rfl) | (simp [*, Q37, Q35] <;> rfl), by repeat (first | (with_reducible first | exact HB.out | apply Q19 | apply Q8 | apply Q23 | refine Q26 ?_ GE419.out | refine Q26 ?_ GE420.out) | exact HB.out)⟩
                        · replace c47 := Bool.eq_false_iff.mpr c47
                          subst c47
                          have H1 : (if (bt a0 a1) = 91 then ((class_Parse.f a0 a1).bind fun bt463 => (if bt463.2.2.2.2.2.2 = 0 then (some (15, a1, bt463.2.2.2.2.1, (⟨#[]⟩ : ByteArray), false, bt463.1, bt463.2.1, bt463.2.2.1, bt463.2.2.2.1, 0, 0, 0, 0)) else (some (0, 0, 0, (⟨#[]⟩ : ByteArray), false, 0, 0, 0, 0, 0, 0, bt463.2.2.2.2.2.1, bt463.2.2.2.2.2.2)))) else (if (bt a0 a1) = 64 then (lexis_read.j2 kj44 a0 a1 true) else (lexis_read.j2 kj44 a0 a1 ((bt a0 a1) == 94)))) = some (r1, r2, r3, r4, r5, r6, r7, r8, r9, r10, r11, r12, r13) := by rw [if_neg (show ¬ (false = true) by decide)] at H; exact H
                          clear H
                          have H := H1
                          clear H1
                          by_cases c53 : (bt a0 a1) = 91
                          · rw [if_pos c53] at H
                            have c53b0 : ((bt a0 a1) == 91) = true := beq_iff_eq.mpr c53
                            have c53b1 : ((bt a0 a1) != 91) = false := bne_eq_false_iff_eq.mpr c53
                            clear c53
                            replace H := Option.bind_eq_some_iff.mp H
                            obtain ⟨⟨t463, t464, t465, t466, t467, t468, t469⟩, A540, H⟩ := H
                            replace H : (if t469 = 0 then (some (15, a1, t467, (⟨#[]⟩ : ByteArray), false, t463, t464, t465, t466, 0, 0, 0, 0)) else (some (0, 0, 0, (⟨#[]⟩ : ByteArray), false, 0, 0, 0, 0, 0, 0, t468, t469))) = some (r1, r2, r3, r4, r5, r6, r7, r8, r9, r10, r11, r12, r13) := H
                            have A54 := Aside0.mk A540
                            clear A540
                            by_cases c55 : t469 = 0
                            · rw [if_pos c55] at H
                              have c55b0 : (t469 == 0) = true := beq_iff_eq.mpr c55
                              have c55b1 : (t469 != 0) = false := bne_eq_false_iff_eq.mpr c55
                              clear c55
                              simp only [Option.some.injEq, Prod.mk.injEq] at H
                              obtain ⟨rfl, rfl, rfl, rfl, rfl, rfl, rfl, rfl, rfl, rfl, rfl, rfl, rfl⟩ := H
                              go_wp2_with (first | ((with_reducible refine Q40 (f := 54) rfl ?_); refine goesL_ (some 80) rfl rfl Tryd.func54 (by kernel_rfl) rfl #[.string a0, .int .i64 a1] rfl (by (try simp only [List.map_toArray, List.map_cons, List.map_nil]); first | done | rfl | (simp only [List.length_drop, List.length_take]; rfl)) ?_; (with_reducible refine (class_Parse.calls a0 a1 t463 t464 t465 t466 t467 t468 t469 _ A54.out).mono ?_); rintro e w56 ⟨rfl, hb⟩; refine ⟨_, rfl, ?_⟩; have n0_ := Aside0.mk (Q38 (g := gb419) (o := .cells #[.int .i64 0, .int .i64 0, .int .i64 0, .string (⟨#[]⟩ : ByteArray), .bool false, .int .u64 0, .int .u64 0, .int .u64 0, .int .u64 0, .int .i64 0, .int .i64 0] 26 (0, 0)) (by (with_reducible repeat (first | refine Q12 ?_ _ | refine Q24 ?_ | refine Q17 ?_ _)); exact BK419.out) hb); have n1_ := Aside0.mk (Q38 (g := gb420) (o := .cells #[.int .i64 0, .int .i64 0] 41 (0, 0)) (by (with_reducible repeat (first | refine Q12 ?_ _ | refine Q24 ?_ | refine Q17 ?_ _)); exact BK420.out) hb); have n2_ := Aside0.mk (Q34 (by repeat (first | (with_reducible first | exact HB.out | apply Q19 | apply Q8 | apply Q23 | refine Q26 ?_ GE419.out | refine Q26 ?_ GE420.out) | exact HB.out)) hb); clear BK419; clear BK420; clear HB; have BK419 := n0_; have BK420 := n1_; have HB := n2_; clear n0_ n1_ n2_; (try clear hb); (try clear hb2); (try clear hk); (try clear hi)) | ((with_reducible refine gate_dst (N := 8) rfl ?_); refine Q43 ?hg (N := 8) ?hd (cs := #[.int .u64 0, .int .u64 0, .int .u64 0, .int .u64 0]) (t := 24) ?hr ?_; (case hd => rfl); (case hg => rfl); (case hr => first | (go_simp; done) | (go_simp; rfl)); intro gb470 hg w57 hbox hb; have n0_ := Aside0.mk (Q38 (g := gb419) (o := .cells #[.int .i64 0, .int .i64 0, .int .i64 0, .string (⟨#[]⟩ : ByteArray), .bool false, .int .u64 0, .int .u64 0, .int .u64 0, .int .u64 0, .int .i64 0, .int .i64 0] 26 (0, 0)) (by (with_reducible repeat (first | refine Q12 ?_ _ | refine Q24 ?_ | refine Q17 ?_ _)); exact BK419.out) hb); have n1_ := Aside0.mk (Q38 (g := gb420) (o := .cells #[.int .i64 0, .int .i64 0] 41 (0, 0)) (by (with_reducible repeat (first | refine Q12 ?_ _ | refine Q24 ?_ | refine Q17 ?_ _)); exact BK420.out) hb); have n2_ := Aside0.mk (Q34 (by repeat (first | (with_reducible first | exact HB.out | apply Q19 | apply Q8 | apply Q23 | refine Q26 ?_ GE419.out | refine Q26 ?_ GE420.out) | exact HB.out)) hb); have n3_ := Aside0.mk (hbox); have n4_ := Aside0.mk ((by rw [hg]; exact (Q29 (by repeat (first | (with_reducible first | exact HB.out | apply Q19 | apply Q8 | apply Q23 | refine Q26 ?_ GE419.out | refine Q26 ?_ GE420.out) | exact HB.out))) : w.heap.size ≤ gb470)); have n5_ := Aside0.mk ((by rw [hg]; exact (Q29 (by repeat (first | (with_reducible first | exact HB.out | apply Q19 | apply Q8 | apply Q23 | refine Q26 ?_ GE419.out | refine Q26 ?_ GE420.out) | exact HB.out))) : w.heap.size ≤ gb470)); have n6_ := Aside0.mk ((by rw [hg]; exact Nat.ne_of_lt (blk_lt (g := gb419) (o := .cells #[.int .i64 0, .int .i64 0, .int .i64 0, .string (⟨#[]⟩ : ByteArray), .bool false, .int .u64 0, .int .u64 0, .int .u64 0, .int .u64 0, .int .i64 0, .int .i64 0] 26 (0, 0)) (by (with_reducible repeat (first | refine Q12 ?_ _ | refine Q24 ?_ | refine Q17 ?_ _)); exact BK419.out)) : gb419 ≠ gb470)); have n7_ := Aside0.mk ((by rw [hg]; exact Nat.ne_of_gt (blk_lt (g := gb419) (o := .cells #[.int .i64 0, .int .i64 0, .int .i64 0, .string (⟨#[]⟩ : ByteArray), .bool false, .int .u64 0, .int .u64 0, .int .u64 0, .int .u64 0, .int .i64 0, .int .i64 0] 26 (0, 0)) (by (with_reducible repeat (first | refine Q12 ?_ _ | refine Q24 ?_ | refine Q17 ?_ _)); exact BK419.out)) : gb470 ≠ gb419)); have n8_ := Aside0.mk ((by rw [hg]; exact Nat.ne_of_lt (blk_lt (g := gb420) (o := .cells #[.int .i64 0, .int .i64 0] 41 (0, 0)) (by (with_reducible repeat (first | refine Q12 ?_ _ | refine Q24 ?_ | refine Q17 ?_ _)); exact BK420.out)) : gb420 ≠ gb470)); have n9_ := Aside0.mk ((by rw [hg]; exact Nat.ne_of_gt (blk_lt (g := gb420) (o := .cells #[.int .i64 0, .int .i64 0] 41 (0, 0)) (by (with_reducible repeat (first | refine Q12 ?_ _ | refine Q24 ?_ | refine Q17 ?_ _)); exact BK420.out)) : gb470 ≠ gb420)); clear BK419; clear BK420; clear HB; have BK419 := n0_; have BK420 := n1_; have HB := n2_; have BK470 := n3_; have GW470 := n4_; have GE470 := n5_; have NB419_470 := n6_; have NB470_419 := n7_; have NB420_470 := n8_; have NB470_420 := n9_; clear n0_ n1_ n2_ n3_ n4_ n5_ n6_ n7_ n8_ n9_; clear hb hbox hg) | ((with_reducible refine gate_dst (N := 10) rfl ?_); refine Q43 ?hg (N := 10) ?hd (cs := #[.int .i64 0, .int .i64 0]) (t := 41) ?hr ?_; (case hd => rfl); (case hg => rfl); (case hr => first | (go_simp; done) | (go_simp; rfl)); intro gb471 hg w58 hbox hb; have n0_ := Aside0.mk (Q38 (g := gb419) (o := .cells #[.int .i64 0, .int .i64 0, .int .i64 0, .string (⟨#[]⟩ : ByteArray), .bool false, .int .u64 0, .int .u64 0, .int .u64 0, .int .u64 0, .int .i64 0, .int .i64 0] 26 (0, 0)) (by (with_reducible repeat (first | refine Q12 ?_ _ | refine Q24 ?_ | refine Q17 ?_ _)); exact BK419.out) hb); have n1_ := Aside0.mk (Q38 (g := gb420) (o := .cells #[.int .i64 0, .int .i64 0] 41 (0, 0)) (by (with_reducible repeat (first | refine Q12 ?_ _ | refine Q24 ?_ | refine Q17 ?_ _)); exact BK420.out) hb); have n2_ := Aside0.mk (Q38 (g := gb470) (o := .cells #[.int .u64 0, .int .u64 0, .int .u64 0, .int .u64 0] 24 (0, 0)) (by (with_reducible repeat (first | refine Q12 ?_ _ | refine Q24 ?_ | refine Q17 ?_ _)); exact BK470.out) hb); have n3_ := Aside0.mk (Q34 (by repeat (first | (with_reducible first | exact HB.out | apply Q19 | apply Q8 | apply Q23 | refine Q26 ?_ GE419.out | refine Q26 ?_ GE420.out | refine Q26 ?_ GE470.out) | exact HB.out)) hb); have n4_ := Aside0.mk (hbox); have n5_ := Aside0.mk ((by rw [hg]; exact (Q29 (by repeat (first | (with_reducible first | exact HB.out | apply Q19 | apply Q8 | apply Q23 | refine Q26 ?_ GE419.out | refine Q26 ?_ GE420.out | refine Q26 ?_ GE470.out) | exact HB.out))) : w.heap.size ≤ gb471)); have n6_ := Aside0.mk ((by rw [hg]; exact (Q29 (by repeat (first | (with_reducible first | exact HB.out | apply Q19 | apply Q8 | apply Q23 | refine Q26 ?_ GE419.out | refine Q26 ?_ GE420.out | refine Q26 ?_ GE470.out) | exact HB.out))) : w.heap.size ≤ gb471)); have n7_ := Aside0.mk ((by rw [hg]; exact Nat.ne_of_lt (blk_lt (g := gb419) (o := .cells #[.int .i64 0, .int .i64 0, .int .i64 0, .string (⟨#[]⟩ : ByteArray), .bool false, .int .u64 0, .int .u64 0, .int .u64 0, .int .u64 0, .int .i64 0, .int .i64 0] 26 (0, 0)) (by (with_reducible repeat (first | refine Q12 ?_ _ | refine Q24 ?_ | refine Q17 ?_ _)); exact BK419.out)) : gb419 ≠ gb471)); have n8_ := Aside0.mk ((by rw [hg]; exact Nat.ne_of_gt (blk_lt (g := gb419) (o := .cells #[.int .i64 0, .int .i64 0, .int .i64 0, .string (⟨#[]⟩ : ByteArray), .bool false, .int .u64 0, .int .u64 0, .int .u64 0, .int .u64 0, .int .i64 0, .int .i64 0] 26 (0, 0)) (by (with_reducible repeat (first | refine Q12 ?_ _ | refine Q24 ?_ | refine Q17 ?_ _)); exact BK419.out)) : gb471 ≠ gb419)); have n9_ := Aside0.mk ((by rw [hg]; exact Nat.ne_of_lt (blk_lt (g := gb420) (o := .cells #[.int .i64 0, .int .i64 0] 41 (0, 0)) (by (with_reducible repeat (first | refine Q12 ?_ _ | refine Q24 ?_ | refine Q17 ?_ _)); exact BK420.out)) : gb420 ≠ gb471)); have n10_ := Aside0.mk ((by rw [hg]; exact Nat.ne_of_gt (blk_lt (g := gb420) (o := .cells #[.int .i64 0, .int .i64 0] 41 (0, 0)) (by (with_reducible repeat (first | refine Q12 ?_ _ | refine Q24 ?_ | refine Q17 ?_ _)); exact BK420.out)) : gb471 ≠ gb420)); have n11_ := Aside0.mk ((by rw [hg]; exact Nat.ne_of_lt (blk_lt (g := gb470) (o := .cells #[.int .u64 0, .int .u64 0, .int .u64 0, .int .u64 0] 24 (0, 0)) (by (with_reducible repeat (first | refine Q12 ?_ _ | refine Q24 ?_ | refine Q17 ?_ _)); exact BK470.out)) : gb470 ≠ gb471)); have n12_ := Aside0.mk ((by rw [hg]; exact Nat.ne_of_gt (blk_lt (g := gb470) (o := .cells #[.int .u64 0, .int .u64 0, .int .u64 0, .int .u64 0] 24 (0, 0)) (by (with_reducible repeat (first | refine Q12 ?_ _ | refine Q24 ?_ | refine Q17 ?_ _)); exact BK470.out)) : gb471 ≠ gb470)); clear BK419; clear BK420; clear BK470; clear HB; have BK419 := n0_; have BK420 := n1_; have BK470 := n2_; have HB := n3_; have BK471 := n4_; have GW471 := n5_; have GE471 := n6_; have NB419_471 := n7_; have NB471_419 := n8_; have NB420_471 := n9_; have NB471_420 := n10_; have NB470_471 := n11_; have NB471_470 := n12_; clear n0_ n1_ n2_ n3_ n4_ n5_ n6_ n7_ n8_ n9_ n10_ n11_ n12_; clear hb hbox hg; have hnb59 := NB470_419.out; have hnc59 := NB419_470.out; have hnb60 := NB470_420.out; have hnc60 := NB420_470.out; have hnb61 := NB470_471.out; have hnc61 := NB471_470.out; obtain ⟨hcz62_0, hcz62_1, hcz62_2, hcz62_3, hfz62_0, hfz62_1, hfz62_2, hfz62_3⟩ := blk_cells4 BK470.out; have hnb63 := NB471_419.out; have hnc63 := NB419_471.out; have hnb64 := NB471_420.out; have hnc64 := NB420_471.out; obtain ⟨hcz65_0, hcz65_1, hfz65_0, hfz65_1⟩ := blk_cells2 BK471.out; have hnb66 := NB419_420.out; have hnc66 := NB420_419.out; obtain ⟨hcz67_0, hcz67_1, hcz67_2, hcz67_3, hcz67_4, hcz67_5, hcz67_6, hcz67_7, hcz67_8, hcz67_9, hcz67_10, hfz67_0, hfz67_1, hfz67_2, hfz67_3, hfz67_4, hfz67_5, hfz67_6, hfz67_7, hfz67_8, hfz67_9, hfz67_10⟩ := Q41 BK419.out; obtain ⟨hcz68_0, hcz68_1, hfz68_0, hfz68_1⟩ := blk_cells2 BK420.out))
                              refine bodyPost_ret (results_cc rfl _ _ gb419 gb420 26 41 #[.int .i64 15, .int .i64 a1, .int .i64 t467, .string (⟨#[]⟩ : ByteArray), .bool false, .int .u64 t463, .int .u64 t464, .int .u64 t465, .int .u64 t466, .int .i64 0, .int .i64 0] #[.int .i64 0, .int .i64 0] (0, 0) (0, 0) _ _ rfl (by (with_reducible repeat (first | refine Q12 ?_ _ | refine Q24 ?_ | refine Q17 ?_ _)); refine blk_far2 ?_ NB419_420.out; (with_reducible repeat (first | refine Q12 ?_ _ | refine Q24 ?_ | refine Q17 ?_ _)); apply blk_put11; (with_reducible repeat (first | refine Q12 ?_ _ | refine Q24 ?_ | refine Q17 ?_ _)); refine blk_far2 ?_ NB419_471.out; (with_reducible repeat (first | refine Q12 ?_ _ | refine Q24 ?_ | refine Q17 ?_ _)); refine blk_far4 ?_ NB419_470.out; (with_reducible repeat (first | refine Q12 ?_ _ | refine Q24 ?_ | refine Q17 ?_ _)); exact BK419.out) Tryd.underlying26 rfl (by kernel_rfl) rfl (by (with_reducible repeat (first | refine Q12 ?_ _ | refine Q24 ?_ | refine Q17 ?_ _)); apply blk_put2; (with_reducible repeat (first | refine Q12 ?_ _ | refine Q24 ?_ | refine Q17 ?_ _)); refine blk_far11 ?_ NB420_419.out; (with_reducible repeat (first | refine Q12 ?_ _ | refine Q24 ?_ | refine Q17 ?_ _)); refine blk_far2 ?_ NB420_471.out; (with_reducible repeat (first | refine Q12 ?_ _ | refine Q24 ?_ | refine Q17 ?_ _)); refine blk_far4 ?_ NB420_470.out; (with_reducible repeat (first | refine Q12 ?_ _ | refine Q24 ?_ | refine Q17 ?_ _)); exact BK420.out) Tryd.underlying41 rfl (by kernel_rfl)) rfl ?_
                              exact ⟨by first | rfl | (simp [Q37, Q35] <;> rfl) | (simp [*, Q37, Q35] <;> rfl), by repeat (first | (with_reducible first | exact HB.out | apply Q19 | apply Q8 | apply Q23 | refine Q26 ?_ GE419.out | refine Q26 ?_ GE420.out | refine Q26 ?_ GE470.out | refine Q26 ?_ GE471.out) | exact HB.out)⟩
                            · rw [if_neg c55] at H
                              have c55b0 : (t469 == 0) = false := beq_eq_false_iff_ne.mpr c55
                              have c55b1 : (t469 != 0) = true := bne_iff_ne.mpr c55
                              simp only [Option.some.injEq, Prod.mk.injEq] at H
                              obtain ⟨rfl, rfl, rfl, rfl, rfl, rfl, rfl, rfl, rfl, rfl, rfl, rfl, rfl⟩ := H
                              try go_wp2_with (first | ((with_reducible refine Q40 (f := 54) rfl ?_); refine goesL_ (some 80) rfl rfl Tryd.func54 (by kernel_rfl) rfl #[.string a0, .int .i64 a1] rfl (by (try simp only [List.map_toArray, List.map_cons, List.map_nil]); first | done | rfl | (simp only [List.length_drop, List.length_take]; rfl)) ?_; (with_reducible refine (class_Parse.calls a0 a1 t463 t464 t465 t466 t467 t468 t469 _ A54.out).mono ?_); rintro e w69 ⟨rfl, hb⟩; refine ⟨_, rfl, ?_⟩; have n0_ := Aside0.mk (Q38 (g := gb419) (o := .cells #[.int .i64 0, .int .i64 0, .int .i64 0, .string (⟨#[]⟩ : ByteArray), .bool false, .int .u64 0, .int .u64 0, .int .u64 0, .int .u64 0, .int .i64 0, .int .i64 0] 26 (0, 0)) (by (with_reducible repeat (first | refine Q12 ?_ _ | refine Q24 ?_ | refine Q17 ?_ _)); exact BK419.out) hb); have n1_ := Aside0.mk (Q38 (g := gb420) (o := .cells #[.int .i64 0, .int .i64 0] 41 (0, 0)) (by (with_reducible repeat (first | refine Q12 ?_ _ | refine Q24 ?_ | refine Q17 ?_ _)); exact BK420.out) hb); have n2_ := Aside0.mk (Q34 (by repeat (first | (with_reducible first | exact HB.out | apply Q19 | apply Q8 | apply Q23 | refine Q26 ?_ GE419.out | refine Q26 ?_ GE420.out) | exact HB.out)) hb); clear BK419; clear BK420; clear HB; have BK419 := n0_; have BK420 := n1_; have HB := n2_; clear n0_ n1_ n2_; (try clear hb); (try clear hb2); (try clear hk); (try clear hi)) | ((with_reducible refine gate_dst (N := 8) rfl ?_); refine Q43 ?hg (N := 8) ?hd (cs := #[.int .u64 0, .int .u64 0, .int .u64 0, .int .u64 0]) (t := 24) ?hr ?_; (case hd => rfl); (case hg => rfl); (case hr => first | (go_simp; done) | (go_simp; rfl)); intro gb470 hg w70 hbox hb; have n0_ := Aside0.mk (Q38 (g := gb419) (o := .cells #[.int .i64 0, .int .i64 0, .int .i64 0, .string (⟨#[]⟩ : ByteArray), .bool false, .int .u64 0, .int .u64 0, .int .u64 0, .int .u64 0, .int .i64 0, .int .i64 0] 26 (0, 0)) (by (with_reducible repeat (first | refine Q12 ?_ _ | refine Q24 ?_ | refine Q17 ?_ _)); exact BK419.out) hb); have n1_ := Aside0.mk (Q38 (g := gb420) (o := .cells #[.int .i64 0, .int .i64 0] 41 (0, 0)) (by (with_reducible repeat (first | refine Q12 ?_ _ | refine Q24 ?_ | refine Q17 ?_ _)); exact BK420.out) hb); have n2_ := Aside0.mk (Q34 (by repeat (first | (with_reducible first | exact HB.out | apply Q19 | apply Q8 | apply Q23 | refine Q26 ?_ GE419.out | refine Q26 ?_ GE420.out) | exact HB.out)) hb); have n3_ := Aside0.mk (hbox); have n4_ := Aside0.mk ((by rw [hg]; exact (Q29 (by repeat (first | (with_reducible first | exact HB.out | apply Q19 | apply Q8 | apply Q23 | refine Q26 ?_ GE419.out | refine Q26 ?_ GE420.out) | exact HB.out))) : w.heap.size ≤ gb470)); have n5_ := Aside0.mk ((by rw [hg]; exact (Q29 (by repeat (first | (with_reducible first | exact HB.out | apply Q19 | apply Q8 | apply Q23 | refine Q26 ?_ GE419.out | refine Q26 ?_ GE420.out) | exact HB.out))) : w.heap.size ≤ gb470)); have n6_ := Aside0.mk ((by rw [hg]; exact Nat.ne_of_lt (blk_lt (g := gb419) (o := .cells #[.int .i64 0, .int .i64 0, .int .i64 0, .string (⟨#[]⟩ : ByteArray), .bool false, .int .u64 0, .int .u64 0, .int .u64 0, .int .u64 0, .int .i64 0, .int .i64 0] 26 (0, 0)) (by (with_reducible repeat (first | refine Q12 ?_ _ | refine Q24 ?_ | refine Q17 ?_ _)); exact BK419.out)) : gb419 ≠ gb470)); have n7_ := Aside0.mk ((by rw [hg]; exact Nat.ne_of_gt (blk_lt (g := gb419) (o := .cells #[.int .i64 0, .int .i64 0, .int .i64 0, .string (⟨#[]⟩ : ByteArray), .bool false, .int .u64 0, .int .u64 0, .int .u64 0, .int .u64 0, .int .i64 0, .int .i64 0] 26 (0, 0)) (by (with_reducible repeat (first | refine Q12 ?_ _ | refine Q24 ?_ | refine Q17 ?_ _)); exact BK419.out)) : gb470 ≠ gb419)); have n8_ := Aside0.mk ((by rw [hg]; exact Nat.ne_of_lt (blk_lt (g := gb420) (o := .cells #[.int .i64 0, .int .i64 0] 41 (0, 0)) (by (with_reducible repeat (first | refine Q12 ?_ _ | refine Q24 ?_ | refine Q17 ?_ _)); exact BK420.out)) : gb420 ≠ gb470)); have n9_ := Aside0.mk ((by rw [hg]; exact Nat.ne_of_gt (blk_lt (g := gb420) (o := .cells #[.int .i64 0, .int .i64 0] 41 (0, 0)) (by (with_reducible repeat (first | refine Q12 ?_ _ | refine Q24 ?_ | refine Q17 ?_ _)); exact BK420.out)) : gb470 ≠ gb420)); clear BK419; clear BK420; clear HB; have BK419 := n0_; have BK420 := n1_; have HB := n2_; have BK470 := n3_; have GW470 := n4_; have GE470 := n5_; have NB419_470 := n6_; have NB470_419 := n7_; have NB420_470 := n8_; have NB470_420 := n9_; clear n0_ n1_ n2_ n3_ n4_ n5_ n6_ n7_ n8_ n9_; clear hb hbox hg) | ((with_reducible refine gate_dst (N := 10) rfl ?_); refine Q43 ?hg (N := 10) ?hd (cs := #[.int .i64 0, .int .i64 0]) (t := 41) ?hr ?_; (case hd => rfl); (case hg => rfl); (case hr => first | (go_simp; done) | (go_simp; rfl)); intro gb471 hg w71 hbox hb; have n0_ := Aside0.mk (Q38 (g := gb419) (o := .cells #[.int .i64 0, .int .i64 0, .int .i64 0, .string (⟨#[]⟩ : ByteArray), .bool false, .int .u64 0, .int .u64 0, .int .u64 0, .int .u64 0, .int .i64 0, .int .i64 0] 26 (0, 0)) (by (with_reducible repeat (first | refine Q12 ?_ _ | refine Q24 ?_ | refine Q17 ?_ _)); exact BK419.out) hb); have n1_ := Aside0.mk (Q38 (g := gb420) (o := .cells #[.int .i64 0, .int .i64 0] 41 (0, 0)) (by (with_reducible repeat (first | refine Q12 ?_ _ | refine Q24 ?_ | refine Q17 ?_ _)); exact BK420.out) hb); have n2_ := Aside0.mk (Q38 (g := gb470) (o := .cells #[.int .u64 0, .int .u64 0, .int .u64 0, .int .u64 0] 24 (0, 0)) (by (with_reducible repeat (first | refine Q12 ?_ _ | refine Q24 ?_ | refine Q17 ?_ _)); exact BK470.out) hb); have n3_ := Aside0.mk (Q34 (by repeat (first | (with_reducible first | exact HB.out | apply Q19 | apply Q8 | apply Q23 | refine Q26 ?_ GE419.out | refine Q26 ?_ GE420.out | refine Q26 ?_ GE470.out) | exact HB.out)) hb); have n4_ := Aside0.mk (hbox); have n5_ := Aside0.mk ((by rw [hg]; exact (Q29 (by repeat (first | (with_reducible first | exact HB.out | apply Q19 | apply Q8 | apply Q23 | refine Q26 ?_ GE419.out | refine Q26 ?_ GE420.out | refine Q26 ?_ GE470.out) | exact HB.out))) : w.heap.size ≤ gb471)); have n6_ := Aside0.mk ((by rw [hg]; exact (Q29 (by repeat (first | (with_reducible first | exact HB.out | apply Q19 | apply Q8 | apply Q23 | refine Q26 ?_ GE419.out | refine Q26 ?_ GE420.out | refine Q26 ?_ GE470.out) | exact HB.out))) : w.heap.size ≤ gb471)); have n7_ := Aside0.mk ((by rw [hg]; exact Nat.ne_of_lt (blk_lt (g := gb419) (o := .cells #[.int .i64 0, .int .i64 0, .int .i64 0, .string (⟨#[]⟩ : ByteArray), .bool false, .int .u64 0, .int .u64 0, .int .u64 0, .int .u64 0, .int .i64 0, .int .i64 0] 26 (0, 0)) (by (with_reducible repeat (first | refine Q12 ?_ _ | refine Q24 ?_ | refine Q17 ?_ _)); exact BK419.out)) : gb419 ≠ gb471)); have n8_ := Aside0.mk ((by rw [hg]; exact Nat.ne_of_gt (blk_lt (g := gb419) (o := .cells #[.int .i64 0, .int .i64 0, .int .i64 0, .string (⟨#[]⟩ : ByteArray), .bool false, .int .u64 0, .int .u64 0, .int .u64 0, .int .u64 0, .int .i64 0, .int .i64 0] 26 (0, 0)) (by (with_reducible repeat (first | refine Q12 ?_ _ | refine Q24 ?_ | refine Q17 ?_ _)); exact BK419.out)) : gb471 ≠ gb419)); have n9_ := Aside0.mk ((by rw [hg]; exact Nat.ne_of_lt (blk_lt (g := gb420) (o := .cells #[.int .i64 0, .int .i64 0] 41 (0, 0)) (by (with_reducible repeat (first | refine Q12 ?_ _ | refine Q24 ?_ | refine Q17 ?_ _)); exact BK420.out)) : gb420 ≠ gb471)); have n10_ := Aside0.mk ((by rw [hg]; exact Nat.ne_of_gt (blk_lt (g := gb420) (o := .cells #[.int .i64 0, .int .i64 0] 41 (0, 0)) (by (with_reducible repeat (first | refine Q12 ?_ _ | refine Q24 ?_ | refine Q17 ?_ _)); exact BK420.out)) : gb471 ≠ gb420)); have n11_ := Aside0.mk ((by rw [hg]; exact Nat.ne_of_lt (blk_lt (g := gb470) (o := .cells #[.int .u64 0, .int .u64 0, .int .u64 0, .int .u64 0] 24 (0, 0)) (by (with_reducible repeat (first | refine Q12 ?_ _ | refine Q24 ?_ | refine Q17 ?_ _)); exact BK470.out)) : gb470 ≠ gb471)); have n12_ := Aside0.mk ((by rw [hg]; exact Nat.ne_of_gt (blk_lt (g := gb470) (o := .cells #[.int .u64 0, .int .u64 0, .int .u64 0, .int .u64 0] 24 (0, 0)) (by (with_reducible repeat (first | refine Q12 ?_ _ | refine Q24 ?_ | refine Q17 ?_ _)); exact BK470.out)) : gb471 ≠ gb470)); clear BK419; clear BK420; clear BK470; clear HB; have BK419 := n0_; have BK420 := n1_; have BK470 := n2_; have HB := n3_; have BK471 := n4_; have GW471 := n5_; have GE471 := n6_; have NB419_471 := n7_; have NB471_419 := n8_; have NB420_471 := n9_; have NB471_420 := n10_; have NB470_471 := n11_; have NB471_470 := n12_; clear n0_ n1_ n2_ n3_ n4_ n5_ n6_ n7_ n8_ n9_ n10_ n11_ n12_; clear hb hbox hg; have hnb72 := NB470_419.out; have hnc72 := NB419_470.out; have hnb73 := NB470_420.out; have hnc73 := NB420_470.out; have hnb74 := NB470_471.out; have hnc74 := NB471_470.out; obtain ⟨hcz75_0, hcz75_1, hcz75_2, hcz75_3, hfz75_0, hfz75_1, hfz75_2, hfz75_3⟩ := blk_cells4 BK470.out; have hnb76 := NB471_419.out; have hnc76 := NB419_471.out; have hnb77 := NB471_420.out; have hnc77 := NB420_471.out; obtain ⟨hcz78_0, hcz78_1, hfz78_0, hfz78_1⟩ := blk_cells2 BK471.out))
                              have n0_ : Aside0 (((((((w71.setCell ⟨gb470, 0, none⟩ (.int .u64 t463)).setCell ⟨gb470, 1, none⟩ (.int .u64 t464)).setCell ⟨gb470, 2, none⟩ (.int .u64 t465)).setCell ⟨gb470, 3, none⟩ (.int .u64 t466)).setCell ⟨gb471, 0, none⟩ (.int .i64 t468)).setCell ⟨gb471, 1, none⟩ (.int .i64 t469)).heap[gb419]? = some (.cells #[.int .i64 0, .int .i64 0, .int .i64 0, .string (⟨#[]⟩ : ByteArray), .bool false, .int .u64 0, .int .u64 0, .int .u64 0, .int .u64 0, .int .i64 0, .int .i64 0] 26 (0, 0))) := ⟨by (with_reducible repeat (first | refine Q12 ?_ _ | refine Q24 ?_ | refine Q17 ?_ _)); refine blk_far2 ?_ NB419_471.out; (with_reducible repeat (first | refine Q12 ?_ _ | refine Q24 ?_ | refine Q17 ?_ _)); refine blk_far4 ?_ NB419_470.out; (with_reducible repeat (first | refine Q12 ?_ _ | refine Q24 ?_ | refine Q17 ?_ _)); exact BK419.out⟩
                              have n1_ : Aside0 (((((((w71.setCell ⟨gb470, 0, none⟩ (.int .u64 t463)).setCell ⟨gb470, 1, none⟩ (.int .u64 t464)).setCell ⟨gb470, 2, none⟩ (.int .u64 t465)).setCell ⟨gb470, 3, none⟩ (.int .u64 t466)).setCell ⟨gb471, 0, none⟩ (.int .i64 t468)).setCell ⟨gb471, 1, none⟩ (.int .i64 t469)).heap[gb420]? = some (.cells #[.int .i64 0, .int .i64 0] 41 (0, 0))) := ⟨by (with_reducible repeat (first | refine Q12 ?_ _ | refine Q24 ?_ | refine Q17 ?_ _)); refine blk_far2 ?_ NB420_471.out; (with_reducible repeat (first | refine Q12 ?_ _ | refine Q24 ?_ | refine Q17 ?_ _)); refine blk_far4 ?_ NB420_470.out; (with_reducible repeat (first | refine Q12 ?_ _ | refine Q24 ?_ | refine Q17 ?_ _)); exact BK420.out⟩
                              have n2_ : Aside0 (((((((w71.setCell ⟨gb470, 0, none⟩ (.int .u64 t463)).setCell ⟨gb470, 1, none⟩ (.int .u64 t464)).setCell ⟨gb470, 2, none⟩ (.int .u64 t465)).setCell ⟨gb470, 3, none⟩ (.int .u64 t466)).setCell ⟨gb471, 0, none⟩ (.int .i64 t468)).setCell ⟨gb471, 1, none⟩ (.int .i64 t469)).heap[gb470]? = some (.cells #[.int .u64 t463, .int .u64 t464, .int .u64 t465, .int .u64 t466] 24 (0, 0))) := ⟨by (with_reducible repeat (first | refine Q12 ?_ _ | refine Q24 ?_ | refine Q17 ?_ _)); refine blk_far2 ?_ NB470_471.out; (with_reducible repeat (first | refine Q12 ?_ _ | refine Q24 ?_ | refine Q17 ?_ _)); apply blk_put4; (with_reducible repeat (first | refine Q12 ?_ _ | refine Q24 ?_ | refine Q17 ?_ _)); exact BK470.out⟩
                              have n3_ : Aside0 (((((((w71.setCell ⟨gb470, 0, none⟩ (.int .u64 t463)).setCell ⟨gb470, 1, none⟩ (.int .u64 t464)).setCell ⟨gb470, 2, none⟩ (.int .u64 t465)).setCell ⟨gb470, 3, none⟩ (.int .u64 t466)).setCell ⟨gb471, 0, none⟩ (.int .i64 t468)).setCell ⟨gb471, 1, none⟩ (.int .i64 t469)).heap[gb471]? = some (.cells #[.int .i64 t468, .int .i64 t469] 41 (0, 0))) := ⟨by (with_reducible repeat (first | refine Q12 ?_ _ | refine Q24 ?_ | refine Q17 ?_ _)); apply blk_put2; (with_reducible repeat (first | refine Q12 ?_ _ | refine Q24 ?_ | refine Q17 ?_ _)); refine blk_far4 ?_ NB471_470.out; (with_reducible repeat (first | refine Q12 ?_ _ | refine Q24 ?_ | refine Q17 ?_ _)); exact BK471.out⟩
                              have n4_ : Aside0 (Below w.heap.size w ((((((w71.setCell ⟨gb470, 0, none⟩ (.int .u64 t463)).setCell ⟨gb470, 1, none⟩ (.int .u64 t464)).setCell ⟨gb470, 2, none⟩ (.int .u64 t465)).setCell ⟨gb470, 3, none⟩ (.int .u64 t466)).setCell ⟨gb471, 0, none⟩ (.int .i64 t468)).setCell ⟨gb471, 1, none⟩ (.int .i64 t469))) := ⟨by repeat (first | (with_reducible first | exact HB.out | apply Q19 | apply Q8 | apply Q23 | refine Q26 ?_ GE419.out | refine Q26 ?_ GE420.out | refine Q26 ?_ GE470.out | refine Q26 ?_ GE471.out) | exact HB.out)⟩
                              (try clear BK419)
                              (try clear BK420)
                              (try clear BK470)
                              (try clear BK471)
                              (try clear HB)
                              generalize ((((((w71.setCell ⟨gb470, 0, none⟩ (.int .u64 t463)).setCell ⟨gb470, 1, none⟩ (.int .u64 t464)).setCell ⟨gb470, 2, none⟩ (.int .u64 t465)).setCell ⟨gb470, 3, none⟩ (.int .u64 t466)).setCell ⟨gb471, 0, none⟩ (.int .i64 t468)).setCell ⟨gb471, 1, none⟩ (.int .i64 t469)) = w79 at n0_ n1_ n2_ n3_ n4_ ⊢
                              have BK419 := n0_
                              have BK420 := n1_
                              have BK470 := n2_
                              have BK471 := n3_
                              have HB := n4_
                              clear n0_ n1_ n2_ n3_ n4_
                              have n0_ := Aside0.mk (Q24 BK419.out)
                              have n1_ := Aside0.mk (Q24 BK420.out)
                              have n2_ := Aside0.mk (Q24 BK470.out)
                              have n3_ := Aside0.mk (Q24 BK471.out)
                              have n4_ := Aside0.mk (Q23 HB.out)
                              clear BK419
                              clear BK420
                              clear BK470
                              clear BK471
                              clear HB
                              have BK419 := n0_
                              have BK420 := n1_
                              have BK470 := n2_
                              have BK471 := n3_
                              have HB := n4_
                              clear n0_ n1_ n2_ n3_ n4_
                              refine start_ (n := 4) (S := fun w' => w'.cell? ⟨gb471, 0, none⟩ = some (.int .i64 t468) ∧ w'.cell? ⟨gb471, 1, none⟩ = some (.int .i64 t469)) (ds := []) #[false, false, false, false] (by kernel_rfl) rfl rfl ⟨(Q32 BK471.out 0).trans rfl, (Q32 BK471.out 1).trans rfl⟩ (fun hHeld => ?_)
                              generalize w79.drew = w80 at BK419 BK420 BK470 BK471 HB hHeld ⊢
                              refine pure_ (i := 0) (N := some 87) (v := ?_) (a' := ?_) #[true, false, false, false] rfl rfl (by kernel_rfl) (fun _ _ _ h => h) (Or.inl ⟨by rfl, ?_⟩) ?_ ?_
                              rotate_left
                              · intro w'
                                go_simp
                                with_reducible rfl
                              rotate_left
                              · simp only [Act.put, List.setIfInBounds_toArray, List.set_cons_zero, List.set_cons_succ, i64_w, i32_w]
                                rfl
                              refine take_ (i := 1) (N := some 88) (v := ?_) (a' := ?_) #[true, true, false, false] rfl rfl (by kernel_rfl) (fun _ _ _ h => h) (Or.inl ⟨by rfl, ?_⟩) hHeld ?_ ?_
                              rotate_left
                              · rintro w' ⟨s0, s1⟩
                                go_simp
                                with_reducible rfl
                              rotate_left
                              · simp only [Act.put, List.setIfInBounds_toArray, List.set_cons_zero, List.set_cons_succ, i64_w, i32_w]
                                rfl
                              refine one_ (i := 2) (N := none) #[true, true, true, false] rfl rfl (by kernel_rfl) (by decide) (fun K hK => ?_)
                              have hs81 : w80.cell? ⟨gb419, 0, none⟩ = some (.int .i64 0) := (Q32 BK419.out 0).trans rfl
                              have hfs81 := Q28 BK419.out 0
                              have hns81_1 := NB420_419.out
                              have hns81_2 := NB470_419.out
                              have hns81_3 := NB471_419.out
                              have hms81_1 := NB419_420.out
                              have hms81_2 := NB419_470.out
                              have hms81_3 := NB419_471.out
                              have hs82 : w80.cell? ⟨gb419, 1, none⟩ = some (.int .i64 0) := (Q32 BK419.out 1).trans rfl
                              have hfs82 := Q28 BK419.out 1
                              have hns82_1 := NB420_419.out
                              have hns82_2 := NB470_419.out
                              have hns82_3 := NB471_419.out
                              have hms82_1 := NB419_420.out
                              have hms82_2 := NB419_470.out
                              have hms82_3 := NB419_471.out
                              have hs83 : w80.cell? ⟨gb419, 2, none⟩ = some (.int .i64 0) := (Q32 BK419.out 2).trans rfl
                              have hfs83 := Q28 BK419.out 2
                              have hns83_1 := NB420_419.out
                              have hns83_2 := NB470_419.out
                              have hns83_3 := NB471_419.out
                              have hms83_1 := NB419_420.out
                              have hms83_2 := NB419_470.out
                              have hms83_3 := NB419_471.out
                              have hs84 : w80.cell? ⟨gb419, 3, none⟩ = some (.string (⟨#[]⟩ : ByteArray)) := (Q32 BK419.out 3).trans rfl
                              have hfs84 := Q28 BK419.out 3
                              have hns84_1 := NB420_419.out
                              have hns84_2 := NB470_419.out
                              have hns84_3 := NB471_419.out
                              have hms84_1 := NB419_420.out
                              have hms84_2 := NB419_470.out
                              have hms84_3 := NB419_471.out
                              have hs85 : w80.cell? ⟨gb419, 4, none⟩ = some (.bool false) := (Q32 BK419.out 4).trans rfl
                              have hfs85 := Q28 BK419.out 4
                              have hns85_1 := NB420_419.out
                              have hns85_2 := NB470_419.out
                              have hns85_3 := NB471_419.out
                              have hms85_1 := NB419_420.out
                              have hms85_2 := NB419_470.out
                              have hms85_3 := NB419_471.out
                              have hs86 : w80.cell? ⟨gb419, 5, none⟩ = some (.int .u64 0) := (Q32 BK419.out 5).trans rfl
                              have hfs86 := Q28 BK419.out 5
                              have hns86_1 := NB420_419.out
                              have hns86_2 := NB470_419.out
                              have hns86_3 := NB471_419.out
                              have hms86_1 := NB419_420.out
                              have hms86_2 := NB419_470.out
                              have hms86_3 := NB419_471.out
                              have hs87 : w80.cell? ⟨gb419, 6, none⟩ = some (.int .u64 0) := (Q32 BK419.out 6).trans rfl
                              have hfs87 := Q28 BK419.out 6
                              have hns87_1 := NB420_419.out
                              have hns87_2 := NB470_419.out
                              have hns87_3 := NB471_419.out
                              have hms87_1 := NB419_420.out
                              have hms87_2 := NB419_470.out
                              have hms87_3 := NB419_471.out
                              have hs88 : w80.cell? ⟨gb419, 7, none⟩ = some (.int .u64 0) := (Q32 BK419.out 7).trans rfl
                              have hfs88 := Q28 BK419.out 7
                              have hns88_1 := NB420_419.out
                              have hns88_2 := NB470_419.out
                              have hns88_3 := NB471_419.out
                              have hms88_1 := NB419_420.out
                              have hms88_2 := NB419_470.out
                              have hms88_3 := NB419_471.out
                              have hs89 : w80.cell? ⟨gb419, 8, none⟩ = some (.int .u64 0) := (Q32 BK419.out 8).trans rfl
                              have hfs89 := Q28 BK419.out 8
                              have hns89_1 := NB420_419.out
                              have hns89_2 := NB470_419.out
                              have hns89_3 := NB471_419.out
                              have hms89_1 := NB419_420.out
                              have hms89_2 := NB419_470.out
                              have hms89_3 := NB419_471.out
                              have hs90 : w80.cell? ⟨gb419, 9, none⟩ = some (.int .i64 0) := (Q32 BK419.out 9).trans rfl
                              have hfs90 := Q28 BK419.out 9
                              have hns90_1 := NB420_419.out
                              have hns90_2 := NB470_419.out
                              have hns90_3 := NB471_419.out
                              have hms90_1 := NB419_420.out
                              have hms90_2 := NB419_470.out
                              have hms90_3 := NB419_471.out
                              have hs91 : w80.cell? ⟨gb419, 10, none⟩ = some (.int .i64 0) := (Q32 BK419.out 10).trans rfl
                              have hfs91 := Q28 BK419.out 10
                              have hns91_1 := NB420_419.out
                              have hns91_2 := NB470_419.out
                              have hns91_3 := NB471_419.out
                              have hms91_1 := NB419_420.out
                              have hms91_2 := NB419_470.out
                              have hms91_3 := NB419_471.out
                              (with_reducible refine skip_ (w1 := ?_) ?hw_ ?hN_ ?_ ?_); (case hw_ => rfl); (case hN_ => rfl)
                              rotate_left
                              · go_simp
                                rfl
                              refine hK.out _ _ ⟨((cell_far (p := ⟨gb419, _, none⟩) NB471_419.out _).trans (((cell_far (p := ⟨gb419, _, none⟩) NB471_419.out _).trans (((cell_far (p := ⟨gb419, _, none⟩) NB471_419.out _).trans (((cell_far (p := ⟨gb419, _, none⟩) NB471_419.out _).trans (((cell_far (p := ⟨gb419, _, none⟩) NB471_419.out _).trans (((cell_far (p := ⟨gb419, _, none⟩) NB471_419.out _).trans (((cell_far (p := ⟨gb419, _, none⟩) NB471_419.out _).trans (((cell_far (p := ⟨gb419, _, none⟩) NB471_419.out _).trans (((cell_far (p := ⟨gb419, _, none⟩) NB471_419.out _).trans (((cell_far (p := ⟨gb419, _, none⟩) NB471_419.out _).trans (((cell_far (p := ⟨gb419, _, none⟩) NB471_419.out _).trans (hHeld.1)))))))))))))))))))))), ((cell_far (p := ⟨gb419, _, none⟩) NB471_419.out _).trans (((cell_far (p := ⟨gb419, _, none⟩) NB471_419.out _).trans (((cell_far (p := ⟨gb419, _, none⟩) NB471_419.out _).trans (((cell_far (p := ⟨gb419, _, none⟩) NB471_419.out _).trans (((cell_far (p := ⟨gb419, _, none⟩) NB471_419.out _).trans (((cell_far (p := ⟨gb419, _, none⟩) NB471_419.out _).trans (((cell_far (p := ⟨gb419, _, none⟩) NB471_419.out _).trans (((cell_far (p := ⟨gb419, _, none⟩) NB471_419.out _).trans (((cell_far (p := ⟨gb419, _, none⟩) NB471_419.out _).trans (((cell_far (p := ⟨gb419, _, none⟩) NB471_419.out _).trans (((cell_far (p := ⟨gb419, _, none⟩) NB471_419.out _).trans (hHeld.2))))))))))))))))))))))⟩ (fun hHeld => ?_)
                              clear hK K
                              refine one_ (i := 3) (N := none) #[true, true, true, true] rfl rfl (by kernel_rfl) (by decide) (fun K hK => ?_)
                              have hs92 : w80.cell? ⟨gb420, 0, none⟩ = some (.int .i64 0) := (Q32 BK420.out 0).trans rfl
                              have hfs92 := Q28 BK420.out 0
                              have hns92_0 := NB419_420.out
                              have hns92_2 := NB470_420.out
                              have hns92_3 := NB471_420.out
                              have hms92_0 := NB420_419.out
                              have hms92_2 := NB420_470.out
                              have hms92_3 := NB420_471.out
                              have hs93 : w80.cell? ⟨gb420, 1, none⟩ = some (.int .i64 0) := (Q32 BK420.out 1).trans rfl
                              have hfs93 := Q28 BK420.out 1
                              have hns93_0 := NB419_420.out
                              have hns93_2 := NB470_420.out
                              have hns93_3 := NB471_420.out
                              have hms93_0 := NB420_419.out
                              have hms93_2 := NB420_470.out
                              have hms93_3 := NB420_471.out
                              (with_reducible refine skip_ (w1 := ?_) ?hw_ ?hN_ ?_ ?_); (case hw_ => rfl); (case hN_ => rfl)
                              rotate_left
                              · go_simp
                                rfl
                              refine hK.out _ _ ⟨((cell_far (p := ⟨gb420, _, none⟩) NB471_420.out _).trans (((cell_far (p := ⟨gb420, _, none⟩) NB471_420.out _).trans (hHeld.1)))), ((cell_far (p := ⟨gb420, _, none⟩) NB471_420.out _).trans (((cell_far (p := ⟨gb420, _, none⟩) NB471_420.out _).trans (hHeld.2))))⟩ (fun hHeld => ?_)
                              clear hK K
                              refine done_ (by kernel_rfl) ?_
                              try go_wp2
                              refine bodyPost_ret (results_cc rfl _ _ gb419 gb420 26 41 #[.int .i64 0, .int .i64 0, .int .i64 0, .string (⟨#[]⟩ : ByteArray), .bool false, .int .u64 0, .int .u64 0, .int .u64 0, .int .u64 0, .int .i64 0, .int .i64 0] #[.int .i64 t468, .int .i64 t469] (0, 0) (0, 0) _ _ rfl (by (with_reducible repeat (first | refine Q12 ?_ _ | refine Q24 ?_ | refine Q17 ?_ _)); refine blk_far2 ?_ NB419_420.out; (with_reducible repeat (first | refine Q12 ?_ _ | refine Q24 ?_ | refine Q17 ?_ _)); apply blk_put11; (with_reducible repeat (first | refine Q12 ?_ _ | refine Q24 ?_ | refine Q17 ?_ _)); exact BK419.out) Tryd.underlying26 rfl (by kernel_rfl) rfl (by (with_reducible repeat (first | refine Q12 ?_ _ | refine Q24 ?_ | refine Q17 ?_ _)); apply blk_put2; (with_reducible repeat (first | refine Q12 ?_ _ | refine Q24 ?_ | refine Q17 ?_ _)); refine blk_far11 ?_ NB420_419.out; (with_reducible repeat (first | refine Q12 ?_ _ | refine Q24 ?_ | refine Q17 ?_ _)); exact BK420.out) Tryd.underlying41 rfl (by kernel_rfl)) rfl ?_
                              exact ⟨by first | rfl | (simp [Q37, Q35] <;> rfl) | (simp [*, Q37, Q35] <;> rfl), by repeat (first | (with_reducible first | exact HB.out | apply Q19 | apply Q8 | apply Q23 | refine Q26 ?_ GE419.out | refine Q26 ?_ GE420.out | refine Q26 ?_ GE470.out | refine Q26 ?_ GE471.out) | exact HB.out)⟩
                          · rw [if_neg c53] at H
                            have c53b0 : ((bt a0 a1) == 91) = false := beq_eq_false_iff_ne.mpr c53
                            have c53b1 : ((bt a0 a1) != 91) = true := bne_iff_ne.mpr c53
                            have HC94 := Aside0.mk H
                            clear H
                            go_upto_region 20 with (fail)
                            go_cut [94] (fun v94 wc => ∃ (kq : Nat) (x94_93 : Bool), v94 = .bool x94_93 ∧ Aside0 (lexis_read.j2 kq a0 a1 x94_93 = some (r1, r2, r3, r4, r5, r6, r7, r8, r9, r10, r11, r12, r13)) ∧ Aside0 (kq ≤ kj44) ∧ Aside0 (wc.heap[gb419]? = some (.cells #[.int .i64 0, .int .i64 0, .int .i64 0, .string (⟨#[]⟩ : ByteArray), .bool false, .int .u64 0, .int .u64 0, .int .u64 0, .int .u64 0, .int .i64 0, .int .i64 0] 26 (0, 0))) ∧ Aside0 (wc.heap[gb420]? = some (.cells #[.int .i64 0, .int .i64 0] 41 (0, 0))) ∧ Aside0 (Below w.heap.size w wc))
                            case first =>
                              have H := HC94.out
                              clear HC94
                              by_cases c95 : (bt a0 a1) = 64
                              · rw [if_pos c95] at H
                                have c95b0 : ((bt a0 a1) == 64) = true := beq_iff_eq.mpr c95
                                have c95b1 : ((bt a0 a1) != 64) = false := bne_eq_false_iff_eq.mpr c95
                                clear c95
                                (first | rw [c95b0] | (simp only [i64_w, i32_w]; rw [c95b0]) | skip)
                                have H' := Aside0.mk H
                                clear H
                                go_wp2
                                go_meet
                                case rel => exact ⟨_, (true), (by first | rfl | (simp; done) | (simp [*]; done)), H', ⟨by have := HJ27.out; have := HJ44.out; first | omega | exact Nat.le_refl _⟩, ⟨by (with_reducible repeat (first | refine Q12 ?_ _ | refine Q24 ?_ | refine Q17 ?_ _)); exact BK419.out⟩, ⟨by (with_reducible repeat (first | refine Q12 ?_ _ | refine Q24 ?_ | refine Q17 ?_ _)); exact BK420.out⟩, ⟨by repeat (first | (with_reducible first | exact HB.out | apply Q19 | apply Q8 | apply Q23 | refine Q26 ?_ GE419.out | refine Q26 ?_ GE420.out) | exact HB.out)⟩⟩
                              · rw [if_neg c95] at H
                                have c95b0 : ((bt a0 a1) == 64) = false := beq_eq_false_iff_ne.mpr c95
                                have c95b1 : ((bt a0 a1) != 64) = true := bne_iff_ne.mpr c95
                                (first | rw [c95b0] | (simp only [i64_w, i32_w]; rw [c95b0]) | skip)
                                have H' := Aside0.mk H
                                clear H
                                go_wp2
                                go_meet
                                case rel => exact ⟨_, (((bt a0 a1) == 94)), (by first | rfl | (simp; done) | (simp [*]; done)), H', ⟨by have := HJ27.out; have := HJ44.out; first | omega | exact Nat.le_refl _⟩, ⟨by (with_reducible repeat (first | refine Q12 ?_ _ | refine Q24 ?_ | refine Q17 ?_ _)); exact BK419.out⟩, ⟨by (with_reducible repeat (first | refine Q12 ?_ _ | refine Q24 ?_ | refine Q17 ?_ _)); exact BK420.out⟩, ⟨by repeat (first | (with_reducible first | exact HB.out | apply Q19 | apply Q8 | apply Q23 | refine Q26 ?_ GE419.out | refine Q26 ?_ GE420.out) | exact HB.out)⟩⟩
                            case rest =>
                              clear HC94
                              try clear c1
                              try clear p1
                              try clear q1
                              try clear hx1
                              try clear c2
                              try clear p2
                              try clear c3
                              try clear c3b0
                              try clear c3b1
                              try clear c4
                              try clear c5
                              try clear c6
                              try clear p6
                              try clear c7
                              try clear c9
                              try clear c9b0
                              try clear c10
                              try clear c10b0
                              try clear p11
                              try clear q11
                              try clear hx11
                              try clear c13
                              try clear c13b0
                              try clear c16
                              try clear c20
                              try clear c25
                              try clear c31
                              try clear c31b0
                              try clear c31b1
                              try clear c32
                              try clear c32b0
                              try clear c33
                              try clear c33b0
                              try clear c33b1
                              try clear c35
                              try clear c36
                              try clear c39
                              try clear c39b0
                              try clear c39b1
                              try clear c42
                              try clear c46
                              try clear c46b0
                              try clear c46b1
                              try clear c47
                              try clear c50
                              try clear c52
                              try clear c53
                              try clear c53b0
                              try clear c53b1
                              try clear c54
                              try clear c55
                              try clear c55b0
                              try clear c55b1
                              try clear c59
                              try clear c60
                              try clear c61
                              try clear c63
                              try clear c64
                              try clear p64
                              try clear c66
                              try clear c72
                              try clear c73
                              try clear c74
                              try clear c76
                              try clear c77
                              try clear c95
                              try clear c95b0
                              try clear c95b1
                              try clear hcz17_0
                              try clear hcz17_1
                              try clear hcz17_10
                              try clear hcz17_2
                              try clear hcz17_3
                              try clear hcz17_4
                              try clear hcz17_5
                              try clear hcz17_6
                              try clear hcz17_7
                              try clear hcz17_8
                              try clear hcz17_9
                              try clear hcz18_0
                              try clear hcz18_1
                              try clear hcz26_0
                              try clear hcz26_1
                              try clear hcz26_10
                              try clear hcz26_2
                              try clear hcz26_3
                              try clear hcz26_4
                              try clear hcz26_5
                              try clear hcz26_6
                              try clear hcz26_7
                              try clear hcz26_8
                              try clear hcz26_9
                              try clear hcz27_0
                              try clear hcz27_1
                              try clear hcz37_0
                              try clear hcz37_1
                              try clear hcz37_10
                              try clear hcz37_2
                              try clear hcz37_3
                              try clear hcz37_4
                              try clear hcz37_5
                              try clear hcz37_6
                              try clear hcz37_7
                              try clear hcz37_8
                              try clear hcz37_9
                              try clear hcz38_0
                              try clear hcz38_1
                              try clear hcz43_0
                              try clear hcz43_1
                              try clear hcz43_10
                              try clear hcz43_2
                              try clear hcz43_3
                              try clear hcz43_4
                              try clear hcz43_5
                              try clear hcz43_6
                              try clear hcz43_7
                              try clear hcz43_8
                              try clear hcz43_9
                              try clear hcz44_0
                              try clear hcz44_1
                              try clear hcz51_0
                              try clear hcz51_1
                              try clear hcz51_10
                              try clear hcz51_2
                              try clear hcz51_3
                              try clear hcz51_4
                              try clear hcz51_5
                              try clear hcz51_6
                              try clear hcz51_7
                              try clear hcz51_8
                              try clear hcz51_9
                              try clear hcz52_0
                              try clear hcz52_1
                              try clear hcz62_0
                              try clear hcz62_1
                              try clear hcz62_2
                              try clear hcz62_3
                              try clear hcz65_0
                              try clear hcz65_1
                              try clear hcz67_0
                              try clear hcz67_1
                              try clear hcz67_10
                              try clear hcz67_2
                              try clear hcz67_3
                              try clear hcz67_4
                              try clear hcz67_5
                              try clear hcz67_6
                              try clear hcz67_7
                              try clear hcz67_8
                              try clear hcz67_9
                              try clear hcz68_0
                              try clear hcz68_1
                              try clear hcz75_0
                              try clear hcz75_1
                              try clear hcz75_2
                              try clear hcz75_3
                              try clear hcz78_0
                              try clear hcz78_1
                              try clear hcz7_0
                              try clear hcz7_1
                              try clear hcz7_10
                              try clear hcz7_2
                              try clear hcz7_3
                              try clear hcz7_4
                              try clear hcz7_5
                              try clear hcz7_6
                              try clear hcz7_7
                              try clear hcz7_8
                              try clear hcz7_9
                              try clear hcz8_0
                              try clear hcz8_1
                              try clear hfz17_0
                              try clear hfz17_1
                              try clear hfz17_10
                              try clear hfz17_2
                              try clear hfz17_3
                              try clear hfz17_4
                              try clear hfz17_5
                              try clear hfz17_6
                              try clear hfz17_7
                              try clear hfz17_8
                              try clear hfz17_9
                              try clear hfz18_0
                              try clear hfz18_1
                              try clear hfz26_0
                              try clear hfz26_1
                              try clear hfz26_10
                              try clear hfz26_2
                              try clear hfz26_3
                              try clear hfz26_4
                              try clear hfz26_5
                              try clear hfz26_6
                              try clear hfz26_7
                              try clear hfz26_8
                              try clear hfz26_9
                              try clear hfz27_0
                              try clear hfz27_1
                              try clear hfz37_0
                              try clear hfz37_1
                              try clear hfz37_10
                              try clear hfz37_2
                              try clear hfz37_3
                              try clear hfz37_4
                              try clear hfz37_5
                              try clear hfz37_6
                              try clear hfz37_7
                              try clear hfz37_8
                              try clear hfz37_9
                              try clear hfz38_0
                              try clear hfz38_1
                              try clear hfz43_0
                              try clear hfz43_1
                              try clear hfz43_10
                              try clear hfz43_2
                              try clear hfz43_3
                              try clear hfz43_4
                              try clear hfz43_5
                              try clear hfz43_6
                              try clear hfz43_7
                              try clear hfz43_8
                              try clear hfz43_9
                              try clear hfz44_0
                              try clear hfz44_1
                              try clear hfz51_0
                              try clear hfz51_1
                              try clear hfz51_10
                              try clear hfz51_2
                              try clear hfz51_3
                              try clear hfz51_4
                              try clear hfz51_5
                              try clear hfz51_6
                              try clear hfz51_7
                              try clear hfz51_8
                              try clear hfz51_9
                              try clear hfz52_0
                              try clear hfz52_1
                              try clear hfz62_0
                              try clear hfz62_1
                              try clear hfz62_2
                              try clear hfz62_3
                              try clear hfz65_0
                              try clear hfz65_1
                              try clear hfz67_0
                              try clear hfz67_1
                              try clear hfz67_10
                              try clear hfz67_2
                              try clear hfz67_3
                              try clear hfz67_4
                              try clear hfz67_5
                              try clear hfz67_6
                              try clear hfz67_7
                              try clear hfz67_8
                              try clear hfz67_9
                              try clear hfz68_0
                              try clear hfz68_1
                              try clear hfz75_0
                              try clear hfz75_1
                              try clear hfz75_2
                              try clear hfz75_3
                              try clear hfz78_0
                              try clear hfz78_1
                              try clear hfz7_0
                              try clear hfz7_1
                              try clear hfz7_10
                              try clear hfz7_2
                              try clear hfz7_3
                              try clear hfz7_4
                              try clear hfz7_5
                              try clear hfz7_6
                              try clear hfz7_7
                              try clear hfz7_8
                              try clear hfz7_9
                              try clear hfz8_0
                              try clear hfz8_1
                              try clear p1
                              try clear p11
                              try clear p2
                              try clear p6
                              try clear q1
                              try clear q11
                              obtain ⟨kq, x94_93, rfl, HA, HJ93, BK419, BK420, HB⟩ := hcut
                              cases kq with
                              | zero => exact absurd HA.out (by simp [lexis_read.j2])
                              | succ kj93 =>
                                have H := HA.out
                                clear HA
                                simp only [lexis_read.j2] at H
                                by_cases c96 : x94_93 = true
                                · subst c96
                                  have H1 : ((lexis_marked.f kj93 a0 a1).bind fun bt472 => (some (bt472.1, bt472.2.1, bt472.2.2.1, bt472.2.2.2.1, bt472.2.2.2.2.1, bt472.2.2.2.2.2.1, bt472.2.2.2.2.2.2.1, bt472.2.2.2.2.2.2.2.1, bt472.2.2.2.2.2.2.2.2.1, bt472.2.2.2.2.2.2.2.2.2.1, bt472.2.2.2.2.2.2.2.2.2.2.1, bt472.2.2.2.2.2.2.2.2.2.2.2.1, bt472.2.2.2.2.2.2.2.2.2.2.2.2))) = some (r1, r2, r3, r4, r5, r6, r7, r8, r9, r10, r11, r12, r13) := by rw [if_pos rfl] at H; exact H
                                  clear H
                                  have H := H1
                                  clear H1
                                  replace H := Option.bind_eq_some_iff.mp H
                                  obtain ⟨⟨t472, t473, t474, t475, t476, t477, t478, t479, t480, t481, t482, t483, t484⟩, A970, H⟩ := H
                                  replace H : (some (t472, t473, t474, t475, t476, t477, t478, t479, t480, t481, t482, t483, t484)) = some (r1, r2, r3, r4, r5, r6, r7, r8, r9, r10, r11, r12, r13) := H
                                  have A97 := Aside0.mk A970
                                  clear A970
                                  simp only [Option.some.injEq, Prod.mk.injEq] at H
                                  obtain ⟨rfl, rfl, rfl, rfl, rfl, rfl, rfl, rfl, rfl, rfl, rfl, rfl, rfl⟩ := H
                                  go_wp2_with (first | ((with_reducible refine Q40 (f := 55) rfl ?_); refine goesL_ (some 103) rfl rfl Tryd.func55 (by kernel_rfl) rfl #[.string a0, .int .i64 a1] rfl (by (try simp only [List.map_toArray, List.map_cons, List.map_nil]); first | done | rfl | (simp only [List.length_drop, List.length_take]; rfl)) ?_; (with_reducible refine (lexis_marked.calls kj93 a0 a1 t472 t473 t474 t475 t476 t477 t478 t479 t480 t481 t482 t483 t484 _ A97.out).mono ?_); rintro e w98 ⟨rfl, hb⟩; refine ⟨_, rfl, ?_⟩; have n0_ := Aside0.mk (Q38 (g := gb419) (o := .cells #[.int .i64 0, .int .i64 0, .int .i64 0, .string (⟨#[]⟩ : ByteArray), .bool false, .int .u64 0, .int .u64 0, .int .u64 0, .int .u64 0, .int .i64 0, .int .i64 0] 26 (0, 0)) (by (with_reducible repeat (first | refine Q12 ?_ _ | refine Q24 ?_ | refine Q17 ?_ _)); exact BK419.out) hb); have n1_ := Aside0.mk (Q38 (g := gb420) (o := .cells #[.int .i64 0, .int .i64 0] 41 (0, 0)) (by (with_reducible repeat (first | refine Q12 ?_ _ | refine Q24 ?_ | refine Q17 ?_ _)); exact BK420.out) hb); have n2_ := Aside0.mk (Q34 (by repeat (first | (with_reducible first | exact HB.out | apply Q19 | apply Q8 | apply Q23 | refine Q26 ?_ GE419.out | refine Q26 ?_ GE420.out) | exact HB.out)) hb); clear BK419; clear BK420; clear HB; have BK419 := n0_; have BK420 := n1_; have HB := n2_; clear n0_ n1_ n2_; (try clear hb); (try clear hb2); (try clear hk); (try clear hi); have hnb99 := NB419_420.out; have hnc99 := NB420_419.out; obtain ⟨hcz100_0, hcz100_1, hcz100_2, hcz100_3, hcz100_4, hcz100_5, hcz100_6, hcz100_7, hcz100_8, hcz100_9, hcz100_10, hfz100_0, hfz100_1, hfz100_2, hfz100_3, hfz100_4, hfz100_5, hfz100_6, hfz100_7, hfz100_8, hfz100_9, hfz100_10⟩ := Q41 BK419.out; obtain ⟨hcz101_0, hcz101_1, hfz101_0, hfz101_1⟩ := blk_cells2 BK420.out))
                                  refine bodyPost_ret (results_cc rfl _ _ gb419 gb420 26 41 #[.int .i64 t472, .int .i64 t473, .int .i64 t474, .string t475, .bool t476, .int .u64 t477, .int .u64 t478, .int .u64 t479, .int .u64 t480, .int .i64 t481, .int .i64 t482] #[.int .i64 t483, .int .i64 t484] (0, 0) (0, 0) _ _ rfl (by (with_reducible repeat (first | refine Q12 ?_ _ | refine Q24 ?_ | refine Q17 ?_ _)); refine blk_far2 ?_ NB419_420.out; (with_reducible repeat (first | refine Q12 ?_ _ | refine Q24 ?_ | refine Q17 ?_ _)); apply blk_put11; (with_reducible repeat (first | refine Q12 ?_ _ | refine Q24 ?_ | refine Q17 ?_ _)); exact BK419.out) Tryd.underlying26 rfl (by kernel_rfl) rfl (by (with_reducible repeat (first | refine Q12 ?_ _ | refine Q24 ?_ | refine Q17 ?_ _)); apply blk_put2; (with_reducible repeat (first | refine Q12 ?_ _ | refine Q24 ?_ | refine Q17 ?_ _)); refine blk_far11 ?_ NB420_419.out; (with_reducible repeat (first | refine Q12 ?_ _ | refine Q24 ?_ | refine Q17 ?_ _)); exact BK420.out) Tryd.underlying41 rfl (by kernel_rfl)) rfl ?_
                                  exact ⟨by first | rfl | (simp [Q37, Q35] <;> rfl) | (simp [*, Q37, Q35] <;> rfl), by repeat (first | (with_reducible first | exact HB.out | apply Q19 | apply Q8 | apply Q23 | refine Q26 ?_ GE419.out | refine Q26 ?_ GE420.out) | exact HB.out)⟩
                                · replace c96 := Bool.eq_false_iff.mpr c96
                                  subst c96
                                  have H1 : ((lexis_fault.f a1 40).bind fun bt485 => (some (bt485.1, bt485.2.1, bt485.2.2.1, bt485.2.2.2.1, bt485.2.2.2.2.1, bt485.2.2.2.2.2.1, bt485.2.2.2.2.2.2.1, bt485.2.2.2.2.2.2.2.1, bt485.2.2.2.2.2.2.2.2.1, bt485.2.2.2.2.2.2.2.2.2.1, bt485.2.2.2.2.2.2.2.2.2.2.1, bt485.2.2.2.2.2.2.2.2.2.2.2.1, bt485.2.2.2.2.2.2.2.2.2.2.2.2))) = some (r1, r2, r3, r4, r5, r6, r7, r8, r9, r10, r11, r12, r13) := by rw [if_neg (show ¬ (false = true) by decide)] at H; exact H
                                  clear H
                                  have H := H1
                                  clear H1
                                  replace H := Option.bind_eq_some_iff.mp H
                                  obtain ⟨⟨t485, t486, t487, t488, t489, t490, t491, t492, t493, t494, t495, t496, t497⟩, A1020, H⟩ := H
                                  replace H : (some (t485, t486, t487, t488, t489, t490, t491, t492, t493, t494, t495, t496, t497)) = some (r1, r2, r3, r4, r5, r6, r7, r8, r9, r10, r11, r12, r13) := H
                                  have A102 := Aside0.mk A1020
                                  clear A1020
                                  simp only [Option.some.injEq, Prod.mk.injEq] at H
                                  obtain ⟨rfl, rfl, rfl, rfl, rfl, rfl, rfl, rfl, rfl, rfl, rfl, rfl, rfl⟩ := H
                                  go_wp2_with (first | ((with_reducible refine Q40 (f := 56) rfl ?_); refine goesL_ (some 107) rfl rfl Tryd.func56 (by kernel_rfl) rfl #[.int .i64 a1, .int .i64 40] rfl (by (try simp only [List.map_toArray, List.map_cons, List.map_nil]); first | done | rfl | (simp only [List.length_drop, List.length_take]; rfl)) ?_; (with_reducible refine (lexis_fault.calls a1 40 t485 t486 t487 t488 t489 t490 t491 t492 t493 t494 t495 t496 t497 _ A102.out).mono ?_); rintro e w103 ⟨rfl, hb⟩; refine ⟨_, rfl, ?_⟩; have n0_ := Aside0.mk (Q38 (g := gb419) (o := .cells #[.int .i64 0, .int .i64 0, .int .i64 0, .string (⟨#[]⟩ : ByteArray), .bool false, .int .u64 0, .int .u64 0, .int .u64 0, .int .u64 0, .int .i64 0, .int .i64 0] 26 (0, 0)) (by (with_reducible repeat (first | refine Q12 ?_ _ | refine Q24 ?_ | refine Q17 ?_ _)); exact BK419.out) hb); have n1_ := Aside0.mk (Q38 (g := gb420) (o := .cells #[.int .i64 0, .int .i64 0] 41 (0, 0)) (by (with_reducible repeat (first | refine Q12 ?_ _ | refine Q24 ?_ | refine Q17 ?_ _)); exact BK420.out) hb); have n2_ := Aside0.mk (Q34 (by repeat (first | (with_reducible first | exact HB.out | apply Q19 | apply Q8 | apply Q23 | refine Q26 ?_ GE419.out | refine Q26 ?_ GE420.out) | exact HB.out)) hb); clear BK419; clear BK420; clear HB; have BK419 := n0_; have BK420 := n1_; have HB := n2_; clear n0_ n1_ n2_; (try clear hb); (try clear hb2); (try clear hk); (try clear hi); have hnb104 := NB419_420.out; have hnc104 := NB420_419.out; obtain ⟨hcz105_0, hcz105_1, hcz105_2, hcz105_3, hcz105_4, hcz105_5, hcz105_6, hcz105_7, hcz105_8, hcz105_9, hcz105_10, hfz105_0, hfz105_1, hfz105_2, hfz105_3, hfz105_4, hfz105_5, hfz105_6, hfz105_7, hfz105_8, hfz105_9, hfz105_10⟩ := Q41 BK419.out; obtain ⟨hcz106_0, hcz106_1, hfz106_0, hfz106_1⟩ := blk_cells2 BK420.out))
                                  refine bodyPost_ret (results_cc rfl _ _ gb419 gb420 26 41 #[.int .i64 t485, .int .i64 t486, .int .i64 t487, .string t488, .bool t489, .int .u64 t490, .int .u64 t491, .int .u64 t492, .int .u64 t493, .int .i64 t494, .int .i64 t495] #[.int .i64 t496, .int .i64 t497] (0, 0) (0, 0) _ _ rfl (by (with_reducible repeat (first | refine Q12 ?_ _ | refine Q24 ?_ | refine Q17 ?_ _)); refine blk_far2 ?_ NB419_420.out; (with_reducible repeat (first | refine Q12 ?_ _ | refine Q24 ?_ | refine Q17 ?_ _)); apply blk_put11; (with_reducible repeat (first | refine Q12 ?_ _ | refine Q24 ?_ | refine Q17 ?_ _)); exact BK419.out) Tryd.underlying26 rfl (by kernel_rfl) rfl (by (with_reducible repeat (first | refine Q12 ?_ _ | refine Q24 ?_ | refine Q17 ?_ _)); apply blk_put2; (with_reducible repeat (first | refine Q12 ?_ _ | refine Q24 ?_ | refine Q17 ?_ _)); refine blk_far11 ?_ NB420_419.out; (with_reducible repeat (first | refine Q12 ?_ _ | refine Q24 ?_ | refine Q17 ?_ _)); exact BK420.out) Tryd.underlying41 rfl (by kernel_rfl)) rfl ?_
                                  exact ⟨by first | rfl | (simp [Q37, Q35] <;> rfl) | (simp [*, Q37, Q35] <;> rfl), by repeat (first | (with_reducible first | exact HB.out | apply Q19 | apply Q8 | apply Q23 | refine Q26 ?_ GE419.out | refine Q26 ?_ GE420.out) | exact HB.out)⟩
      · rw [if_neg c10] at H
        exact absurd H (by simp)
    · rw [if_neg c9] at H
      exact absurd H (by simp)
end Go.Proofs.YtldjdcdoegjmoaaDoor.P
