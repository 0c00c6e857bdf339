import Derived.Test.YtldjdcdoegjmoaaDoorV1
import Derived.Test.YtldjdcdoegjmoaaDoorV3
import Derived.Test.YtldjdcdoegjmoaaDoorV4
import Derived.Test.YtldjdcdoegjmoaaDoorV6
namespace Go.Proofs.YtldjdcdoegjmoaaDoor.P
open Go.RowKit Go.Proofs.YtldjdcdoegjmoaaDoorW.PrintWords Go.Proofs.YtldjdcdoegjmoaaDoorW.PrintLast Go.Proofs.YtldjdcdoegjmoaaDoorW.PrintMore
set_option linter.unusedVariables false
set_option linter.unusedSimpArgs false
mutual
def lexis_literal.l0 : Nat → ByteArray → Int → List Int → Int → Option (Int × Int × Int × ByteArray × Bool × Int × Int × Int × Int × Int × Int × Int × Int)
  | 0, _, _, _, _ => none
  | k + 1, x0, x1, x6, x7 => if x7 ≥ (x0.size : Int) then (lexis_literal.j1 k x0 x1 x6 x7 true) else (if 0 ≤ x7 then (if x7 < (x0.size : Int) then (lexis_literal.j1 k x0 x1 x6 x7 (decide ((bt x0 x7) < 32))) else (none)) else (none))
def lexis_literal.j1 : Nat → ByteArray → Int → List Int → Int → Bool → Option (Int × Int × Int × ByteArray × Bool × Int × Int × Int × Int × Int × Int × Int × Int)
  | 0, _, _, _, _, _ => none
  | k + 1, x0, x1, x6, x7, x22 => if x22 = true then ((lexis_fault.f x1 41).bind fun bt353 => (some (bt353.1, bt353.2.1, bt353.2.2.1, bt353.2.2.2.1, bt353.2.2.2.2.1, bt353.2.2.2.2.2.1, bt353.2.2.2.2.2.2.1, bt353.2.2.2.2.2.2.2.1, bt353.2.2.2.2.2.2.2.2.1, bt353.2.2.2.2.2.2.2.2.2.1, bt353.2.2.2.2.2.2.2.2.2.2.1, bt353.2.2.2.2.2.2.2.2.2.2.2.1, bt353.2.2.2.2.2.2.2.2.2.2.2.2))) else (if 0 ≤ x7 then (if x7 < (x0.size : Int) then (if 0 ≤ x1 then (if x1 < (x0.size : Int) then (if (bt x0 x7) = (bt x0 x1) then (if (wrap64 (x7 + 1)) < (x0.size : Int) then (if 0 ≤ (wrap64 (x7 + 1)) then (if (bt x0 (wrap64 (x7 + 1))) = 105 then (if (wrap64 (x7 + 2)) ≥ (x0.size : Int) then (lexis_literal.j2 k true 14 x1 (wrap64 (x7 + 1)) (strOfNums x6) false 0 0 0 0 0 0) else (if 0 ≤ (wrap64 (x7 + 2)) then (if (wrap64 (x7 + 2)) < (x0.size : Int) then ((lexis_letter.f (bt x0 (wrap64 (x7 + 2)))).bind fun t388 => (if t388 = true then (lexis_literal.j2 k false 14 x1 (wrap64 (x7 + 1)) (strOfNums x6) false 0 0 0 0 0 0) else ((lexis_digit.f (bt x0 (wrap64 (x7 + 2)))).bind fun t389 => (lexis_literal.j2 k (!t389) 14 x1 (wrap64 (x7 + 1)) (strOfNums x6) false 0 0 0 0 0 0)))) else (none)) else (none))) else (lexis_literal.j2 k false 14 x1 (wrap64 (x7 + 1)) (strOfNums x6) false 0 0 0 0 0 0)) else (none)) else (lexis_literal.j2 k false 14 x1 (wrap64 (x7 + 1)) (strOfNums x6) false 0 0 0 0 0 0)) else (if (bt x0 x7) = 92 then ((lexis_escape.f k x0 x7).bind fun bt366 => (if bt366.2 = 0 then ((lexis_fault.f x7 42).bind fun bt368 => (some (bt368.1, bt368.2.1, bt368.2.2.1, bt368.2.2.2.1, bt368.2.2.2.2.1, bt368.2.2.2.2.2.1, bt368.2.2.2.2.2.2.1, bt368.2.2.2.2.2.2.2.1, bt368.2.2.2.2.2.2.2.2.1, bt368.2.2.2.2.2.2.2.2.2.1, bt368.2.2.2.2.2.2.2.2.2.2.1, bt368.2.2.2.2.2.2.2.2.2.2.2.1, bt368.2.2.2.2.2.2.2.2.2.2.2.2))) else (if x6.length < 140737488355328 then (lexis_literal.l0 k x0 x1 (x6 ++ [bt366.1]) (wrap64 (x7 + bt366.2))) else (none)))) else (if x6.length < 140737488355328 then (lexis_literal.l0 k x0 x1 (x6 ++ [bt x0 x7]) (wrap64 (x7 + 1))) else (none)))) else (none)) else (none)) else (none)) else (none))
def lexis_literal.j2 : Nat → Bool → Int → Int → Int → ByteArray → Bool → Int → Int → Int → Int → Int → Int → Option (Int × Int × Int × ByteArray × Bool × Int × Int × Int × Int × Int × Int × Int × Int)
  | 0, _, _, _, _, _, _, _, _, _, _, _, _ => none
  | k + 1, x108, x388000, x388001, x388002, x388003, x388004, x388005, x388006, x388007, x388008, x388009, x388010 => if x108 = true then (some (x388000, x388001, wrap64 (x388002 + 1), x388003, true, x388005, x388006, x388007, x388008, x388009, x388010, 0, 0)) else (some (x388000, x388001, x388002, x388003, x388004, x388005, x388006, x388007, x388008, x388009, x388010, 0, 0))
end
def lexis_literal.f (k : Nat) (a0 : ByteArray) (a1 : Int) : Option (Int × Int × Int × ByteArray × Bool × Int × Int × Int × Int × Int × Int × Int × Int) := lexis_literal.l0 k a0 a1 ([] : List Int) (wrap64 (a1 + 1))
set_option maxHeartbeats 8000000 in
set_option maxRecDepth 100000 in
theorem lexis_literal.calls (k : Nat) (a0 : ByteArray) (a1 : Int) (r1 : Int) (r2 : Int) (r3 : Int) (r4 : ByteArray) (r5 : Bool) (r6 : Int) (r7 : Int) (r8 : Int) (r9 : Int) (r10 : Int) (r11 : Int) (r12 : Int) (r13 : Int) (w : World) (h : lexis_literal.f k a0 a1 = some (r1, r2, r3, r4, r5, r6, r7, r8, r9, r10, r11, r12, r13)) :
    Calls Tryd.prog 53 #[.string a0, .int .i64 a1] w fun e w' => e = .returned (.tuple #[.agg #[.int .i64 r1, .int .i64 r2, .int .i64 r3, .string r4, .bool r5, .int .u64 r6, .int .u64 r7, .int .u64 r8, .int .u64 r9, .int .i64 r10, .int .i64 r11], .agg #[.int .i64 r12, .int .i64 r13]]) ∧ Below w.heap.size w w' := by
  have hu26 := Tryd.underlying26
  have hu41 := Tryd.underlying41
  have HB := Aside0.mk (Below.refl w.heap.size w)
  have H : (lexis_literal.l0 k a0 a1 ([] : List Int) (wrap64 (a1 + 1))) = some (r1, r2, r3, r4, r5, r6, r7, r8, r9, r10, r11, r12, r13) := h
  clear h
  have H' := Aside0.mk H
  clear H
  go_enter Tryd.func53, Tryd.ntmps53
  go_wp2_with (first | ((with_reducible refine gate_dst (N := 4) rfl ?_); (try (refine gate_guard (by rfl) ?_; dsimp only)); refine Q43 ?hg (N := 4) ?hd (cs := #[.int .i64 0, .int .i64 0, .int .i64 0, .string (⟨#[]⟩ : ByteArray), .bool false, .int .u64 0, .int .u64 0, .int .u64 0, .int .u64 0, .int .i64 0, .int .i64 0]) (t := 26) ?hr ?_; (case hd => rfl); (case hg => rfl); (case hr => first | (go_simp; done) | (go_simp; rfl)); intro gb351 hg w3 hbox hb; have n0_ := Aside0.mk (Q34 (by repeat (first | (with_reducible first | exact HB.out | apply Q19 | apply Q8 | apply Q23) | exact HB.out)) hb); have n1_ := Aside0.mk (hbox); have n2_ := Aside0.mk ((by rw [hg]; exact (Q29 (by repeat (first | (with_reducible first | exact HB.out | apply Q19 | apply Q8 | apply Q23) | exact HB.out))) : w.heap.size ≤ gb351)); have n3_ := Aside0.mk ((by rw [hg]; exact (Q29 (by repeat (first | (with_reducible first | exact HB.out | apply Q19 | apply Q8 | apply Q23) | exact HB.out))) : w.heap.size ≤ gb351)); clear HB; have HB := n0_; have BK351 := n1_; have GW351 := n2_; have GE351 := n3_; clear n0_ n1_ n2_ n3_; clear hb hbox hg) | ((with_reducible refine gate_dst (N := 5) rfl ?_); (try (refine gate_guard (by rfl) ?_; dsimp only)); refine Q43 ?hg (N := 5) ?hd (cs := #[.int .i64 0, .int .i64 0]) (t := 41) ?hr ?_; (case hd => rfl); (case hg => rfl); (case hr => first | (go_simp; done) | (go_simp; rfl)); intro gb352 hg w4 hbox hb; have n0_ := Aside0.mk (Q38 (g := gb351) (o := .cells #[.int .i64 0, .int .i64 0, .int .i64 0, .string (⟨#[]⟩ : ByteArray), .bool false, .int .u64 0, .int .u64 0, .int .u64 0, .int .u64 0, .int .i64 0, .int .i64 0] 26 (0, 0)) (by (with_reducible repeat (first | refine Q12 ?_ _ | refine Q24 ?_ | refine Q17 ?_ _)); exact BK351.out) hb); have n1_ := Aside0.mk (Q34 (by repeat (first | (with_reducible first | exact HB.out | apply Q19 | apply Q8 | apply Q23 | refine Q26 ?_ GE351.out) | exact HB.out)) hb); have n2_ := Aside0.mk (hbox); have n3_ := Aside0.mk ((by rw [hg]; exact (Q29 (by repeat (first | (with_reducible first | exact HB.out | apply Q19 | apply Q8 | apply Q23 | refine Q26 ?_ GE351.out) | exact HB.out))) : w.heap.size ≤ gb352)); have n4_ := Aside0.mk ((by rw [hg]; exact (Q29 (by repeat (first | (with_reducible first | exact HB.out | apply Q19 | apply Q8 | apply Q23 | refine Q26 ?_ GE351.out) | exact HB.out))) : w.heap.size ≤ gb352)); have n5_ := Aside0.mk ((by rw [hg]; exact Nat.ne_of_lt (blk_lt (g := gb351) (o := .cells #[.int .i64 0, .int .i64 0, .int .i64 0, .string (⟨#[]⟩ : ByteArray), .bool false, .int .u64 0, .int .u64 0, .int .u64 0, .int .u64 0, .int .i64 0, .int .i64 0] 26 (0, 0)) (by (with_reducible repeat (first | refine Q12 ?_ _ | refine Q24 ?_ | refine Q17 ?_ _)); exact BK351.out)) : gb351 ≠ gb352)); have n6_ := Aside0.mk ((by rw [hg]; exact Nat.ne_of_gt (blk_lt (g := gb351) (o := .cells #[.int .i64 0, .int .i64 0, .int .i64 0, .string (⟨#[]⟩ : ByteArray), .bool false, .int .u64 0, .int .u64 0, .int .u64 0, .int .u64 0, .int .i64 0, .int .i64 0] 26 (0, 0)) (by (with_reducible repeat (first | refine Q12 ?_ _ | refine Q24 ?_ | refine Q17 ?_ _)); exact BK351.out)) : gb352 ≠ gb351)); clear BK351; clear HB; have BK351 := n0_; have HB := n1_; have BK352 := n2_; have GW352 := n3_; have GE352 := n4_; have NB351_352 := n5_; have NB352_351 := n6_; clear n0_ n1_ n2_ n3_ n4_ n5_ n6_; clear hb hbox hg))
  repeat (go_quiet (first | ((with_reducible refine gate_dst (N := 4) rfl ?_); (try (refine gate_guard (by rfl) ?_; dsimp only)); refine Q43 ?hg (N := 4) ?hd (cs := #[.int .i64 0, .int .i64 0, .int .i64 0, .string (⟨#[]⟩ : ByteArray), .bool false, .int .u64 0, .int .u64 0, .int .u64 0, .int .u64 0, .int .i64 0, .int .i64 0]) (t := 26) ?hr ?_; (case hd => rfl); (case hg => rfl); (case hr => first | (go_simp; done) | (go_simp; rfl)); intro gb351 hg w3 hbox hb; have n0_ := Aside0.mk (Q34 (by repeat (first | (with_reducible first | exact HB.out | apply Q19 | apply Q8 | apply Q23) | exact HB.out)) hb); have n1_ := Aside0.mk (hbox); have n2_ := Aside0.mk ((by rw [hg]; exact (Q29 (by repeat (first | (with_reducible first | exact HB.out | apply Q19 | apply Q8 | apply Q23) | exact HB.out))) : w.heap.size ≤ gb351)); have n3_ := Aside0.mk ((by rw [hg]; exact (Q29 (by repeat (first | (with_reducible first | exact HB.out | apply Q19 | apply Q8 | apply Q23) | exact HB.out))) : w.heap.size ≤ gb351)); clear HB; have HB := n0_; have BK351 := n1_; have GW351 := n2_; have GE351 := n3_; clear n0_ n1_ n2_ n3_; clear hb hbox hg) | ((with_reducible refine gate_dst (N := 5) rfl ?_); (try (refine gate_guard (by rfl) ?_; dsimp only)); refine Q43 ?hg (N := 5) ?hd (cs := #[.int .i64 0, .int .i64 0]) (t := 41) ?hr ?_; (case hd => rfl); (case hg => rfl); (case hr => first | (go_simp; done) | (go_simp; rfl)); intro gb352 hg w4 hbox hb; have n0_ := Aside0.mk (Q38 (g := gb351) (o := .cells #[.int .i64 0, .int .i64 0, .int .i64 0, .string (⟨#[]⟩ : ByteArray), .bool false, .int .u64 0, .int .u64 0, .int .u64 0, .int .u64 0, .int .i64 0, .int .i64 0] 26 (0, 0)) (by (with_reducible repeat (first | refine Q12 ?_ _ | refine Q24 ?_ | refine Q17 ?_ _)); exact BK351.out) hb); have n1_ := Aside0.mk (Q34 (by repeat (first | (with_reducible first | exact HB.out | apply Q19 | apply Q8 | apply Q23 | refine Q26 ?_ GE351.out) | exact HB.out)) hb); have n2_ := Aside0.mk (hbox); have n3_ := Aside0.mk ((by rw [hg]; exact (Q29 (by repeat (first | (with_reducible first | exact HB.out | apply Q19 | apply Q8 | apply Q23 | refine Q26 ?_ GE351.out) | exact HB.out))) : w.heap.size ≤ gb352)); have n4_ := Aside0.mk ((by rw [hg]; exact (Q29 (by repeat (first | (with_reducible first | exact HB.out | apply Q19 | apply Q8 | apply Q23 | refine Q26 ?_ GE351.out) | exact HB.out))) : w.heap.size ≤ gb352)); have n5_ := Aside0.mk ((by rw [hg]; exact Nat.ne_of_lt (blk_lt (g := gb351) (o := .cells #[.int .i64 0, .int .i64 0, .int .i64 0, .string (⟨#[]⟩ : ByteArray), .bool false, .int .u64 0, .int .u64 0, .int .u64 0, .int .u64 0, .int .i64 0, .int .i64 0] 26 (0, 0)) (by (with_reducible repeat (first | refine Q12 ?_ _ | refine Q24 ?_ | refine Q17 ?_ _)); exact BK351.out)) : gb351 ≠ gb352)); have n6_ := Aside0.mk ((by rw [hg]; exact Nat.ne_of_gt (blk_lt (g := gb351) (o := .cells #[.int .i64 0, .int .i64 0, .int .i64 0, .string (⟨#[]⟩ : ByteArray), .bool false, .int .u64 0, .int .u64 0, .int .u64 0, .int .u64 0, .int .i64 0, .int .i64 0] 26 (0, 0)) (by (with_reducible repeat (first | refine Q12 ?_ _ | refine Q24 ?_ | refine Q17 ?_ _)); exact BK351.out)) : gb352 ≠ gb351)); clear BK351; clear HB; have BK351 := n0_; have HB := n1_; have BK352 := n2_; have GW352 := n3_; have GE352 := n4_; have NB351_352 := n5_; have NB352_351 := n6_; clear n0_ n1_ n2_ n3_ n4_ n5_ n6_; clear hb hbox hg)); try go_wp2_with (first | ((with_reducible refine gate_dst (N := 4) rfl ?_); (try (refine gate_guard (by rfl) ?_; dsimp only)); refine Q43 ?hg (N := 4) ?hd (cs := #[.int .i64 0, .int .i64 0, .int .i64 0, .string (⟨#[]⟩ : ByteArray), .bool false, .int .u64 0, .int .u64 0, .int .u64 0, .int .u64 0, .int .i64 0, .int .i64 0]) (t := 26) ?hr ?_; (case hd => rfl); (case hg => rfl); (case hr => first | (go_simp; done) | (go_simp; rfl)); intro gb351 hg w3 hbox hb; have n0_ := Aside0.mk (Q34 (by repeat (first | (with_reducible first | exact HB.out | apply Q19 | apply Q8 | apply Q23) | exact HB.out)) hb); have n1_ := Aside0.mk (hbox); have n2_ := Aside0.mk ((by rw [hg]; exact (Q29 (by repeat (first | (with_reducible first | exact HB.out | apply Q19 | apply Q8 | apply Q23) | exact HB.out))) : w.heap.size ≤ gb351)); have n3_ := Aside0.mk ((by rw [hg]; exact (Q29 (by repeat (first | (with_reducible first | exact HB.out | apply Q19 | apply Q8 | apply Q23) | exact HB.out))) : w.heap.size ≤ gb351)); clear HB; have HB := n0_; have BK351 := n1_; have GW351 := n2_; have GE351 := n3_; clear n0_ n1_ n2_ n3_; clear hb hbox hg) | ((with_reducible refine gate_dst (N := 5) rfl ?_); (try (refine gate_guard (by rfl) ?_; dsimp only)); refine Q43 ?hg (N := 5) ?hd (cs := #[.int .i64 0, .int .i64 0]) (t := 41) ?hr ?_; (case hd => rfl); (case hg => rfl); (case hr => first | (go_simp; done) | (go_simp; rfl)); intro gb352 hg w4 hbox hb; have n0_ := Aside0.mk (Q38 (g := gb351) (o := .cells #[.int .i64 0, .int .i64 0, .int .i64 0, .string (⟨#[]⟩ : ByteArray), .bool false, .int .u64 0, .int .u64 0, .int .u64 0, .int .u64 0, .int .i64 0, .int .i64 0] 26 (0, 0)) (by (with_reducible repeat (first | refine Q12 ?_ _ | refine Q24 ?_ | refine Q17 ?_ _)); exact BK351.out) hb); have n1_ := Aside0.mk (Q34 (by repeat (first | (with_reducible first | exact HB.out | apply Q19 | apply Q8 | apply Q23 | refine Q26 ?_ GE351.out) | exact HB.out)) hb); have n2_ := Aside0.mk (hbox); have n3_ := Aside0.mk ((by rw [hg]; exact (Q29 (by repeat (first | (with_reducible first | exact HB.out | apply Q19 | apply Q8 | apply Q23 | refine Q26 ?_ GE351.out) | exact HB.out))) : w.heap.size ≤ gb352)); have n4_ := Aside0.mk ((by rw [hg]; exact (Q29 (by repeat (first | (with_reducible first | exact HB.out | apply Q19 | apply Q8 | apply Q23 | refine Q26 ?_ GE351.out) | exact HB.out))) : w.heap.size ≤ gb352)); have n5_ := Aside0.mk ((by rw [hg]; exact Nat.ne_of_lt (blk_lt (g := gb351) (o := .cells #[.int .i64 0, .int .i64 0, .int .i64 0, .string (⟨#[]⟩ : ByteArray), .bool false, .int .u64 0, .int .u64 0, .int .u64 0, .int .u64 0, .int .i64 0, .int .i64 0] 26 (0, 0)) (by (with_reducible repeat (first | refine Q12 ?_ _ | refine Q24 ?_ | refine Q17 ?_ _)); exact BK351.out)) : gb351 ≠ gb352)); have n6_ := Aside0.mk ((by rw [hg]; exact Nat.ne_of_gt (blk_lt (g := gb351) (o := .cells #[.int .i64 0, .int .i64 0, .int .i64 0, .string (⟨#[]⟩ : ByteArray), .bool false, .int .u64 0, .int .u64 0, .int .u64 0, .int .u64 0, .int .i64 0, .int .i64 0] 26 (0, 0)) (by (with_reducible repeat (first | refine Q12 ?_ _ | refine Q24 ?_ | refine Q17 ?_ _)); exact BK351.out)) : gb352 ≠ gb351)); clear BK351; clear HB; have BK351 := n0_; have HB := n1_; have BK352 := n2_; have GW352 := n3_; have GE352 := n4_; have NB351_352 := n5_; have NB352_351 := n6_; clear n0_ n1_ n2_ n3_ n4_ n5_ n6_; clear hb hbox hg)))
  go_step3
  go_wp2
  go_step3
  (try go_wp2)
  go_loopg [6, 7] k (fun kq v6 v7 w' => ∃ (x6_1 : List Int) (x7_1 : Int) (x352000_1 : Int) (x352001_1 : Int) (x352002_1 : Int) (x352003_1 : ByteArray) (x352004_1 : Bool) (x352005_1 : Int) (x352006_1 : Int) (x352007_1 : Int) (x352008_1 : Int) (x352009_1 : Int) (x352010_1 : Int) (x353000_1 : Int) (x353001_1 : Int), v7 = .int .i64 x7_1 ∧ Aside0 (lexis_literal.l0 kq a0 a1 x6_1 x7_1 = some (r1, r2, r3, r4, r5, r6, r7, r8, r9, r10, r11, r12, r13)) ∧ Aside0 (kq ≤ k) ∧ Aside0 (Kd.R (Kd.int .u8) 5 w' w.heap.size (fun _ => True) v6 x6_1) ∧ Aside0 (w'.heap[gb351]? = some (.cells #[.int .i64 x352000_1, .int .i64 x352001_1, .int .i64 x352002_1, .string x352003_1, .bool x352004_1, .int .u64 x352005_1, .int .u64 x352006_1, .int .u64 x352007_1, .int .u64 x352008_1, .int .i64 x352009_1, .int .i64 x352010_1] 26 (0, 0))) ∧ Aside0 (w'.heap[gb352]? = some (.cells #[.int .i64 x353000_1, .int .i64 x353001_1] 41 (0, 0))) ∧ Aside0 (Below w.heap.size w w'))
  case atStart => exact ⟨(([] : List Int)), (wrap64 (a1 + 1)), (0), (0), (0), ((⟨#[]⟩ : ByteArray)), (false), (0), (0), (0), (0), (0), (0), (0), (0), (by first | rfl | (simp; done) | (simp [*]; done)), H', ⟨Nat.le_refl _⟩, ⟨by first | exact Kd.R_nil _ _ _ _ _ | exact Kd.N_nil _ _ _ _ _ | exact Kd.V_nil _ _ _ _ _ | exact Kd.Q_nil _ _ _ _ _ | exact Kd.S_nil _ _ _ _ _⟩, ⟨by (with_reducible repeat (first | refine Q12 ?_ _ | refine Q24 ?_ | refine Q17 ?_ _)); exact BK351.out⟩, ⟨by (with_reducible repeat (first | refine Q12 ?_ _ | refine Q24 ?_ | refine Q17 ?_ _)); exact BK352.out⟩, ⟨by repeat (first | (with_reducible first | exact HB.out | apply Q19 | apply Q8 | apply Q23 | refine Q26 ?_ GE351.out | refine Q26 ?_ GE352.out) | exact HB.out)⟩⟩
  case round =>
    clear H'
    try clear p2
    obtain ⟨x6_1, x7_1, x352000_1, x352001_1, x352002_1, x352003_1, x352004_1, x352005_1, x352006_1, x352007_1, x352008_1, x352009_1, x352010_1, x353000_1, x353001_1, rfl, HA, HK1, HO_6, BK351, BK352, HB⟩ := hrel
    cases gk with
    | zero => exact absurd HA.out (by simp [lexis_literal.l0])
    | succ k1 =>
      have H := HA.out
      clear HA
      simp only [lexis_literal.l0] at H
      have HC5 := Aside0.mk H
      clear H
      go_upto_region 5 with (fail)
      repeat (go_quiet (fail); go_upto_region 5 with (fail))
      go_cut [22] (fun v22 wc => ∃ (kq : Nat) (x22_4 : Bool), v22 = .bool x22_4 ∧ Aside0 (lexis_literal.j1 kq a0 a1 x6_1 x7_1 x22_4 = some (r1, r2, r3, r4, r5, r6, r7, r8, r9, r10, r11, r12, r13)) ∧ Aside0 (kq ≤ k1) ∧ Aside0 (Kd.R (Kd.int .u8) 5 wc w.heap.size (fun _ => True) u6 x6_1) ∧ Aside0 (wc.heap[gb351]? = some (.cells #[.int .i64 x352000_1, .int .i64 x352001_1, .int .i64 x352002_1, .string x352003_1, .bool x352004_1, .int .u64 x352005_1, .int .u64 x352006_1, .int .u64 x352007_1, .int .u64 x352008_1, .int .i64 x352009_1, .int .i64 x352010_1] 26 (0, 0))) ∧ Aside0 (wc.heap[gb352]? = some (.cells #[.int .i64 x353000_1, .int .i64 x353001_1] 41 (0, 0))) ∧ Aside0 (Below w.heap.size w wc))
      case first =>
        have H := HC5.out
        clear HC5
        by_cases c6 : x7_1 ≥ (a0.size : Int)
        · rw [if_pos c6] at H
          have c6b0 : decide ((a0.size : Int) ≤ x7_1) = true := decide_eq_true c6
          clear c6
          (first | rw [c6b0] | (simp only [i64_w, i32_w]; rw [c6b0]) | skip)
          have H' := Aside0.mk H
          clear H
          go_wp2
          repeat (go_quiet (fail); try go_wp2)
          go_meet
          case rel => exact ⟨_, (true), (by first | rfl | (simp; done) | (simp [*]; done)), H', ⟨by have := HK1.out; first | omega | exact Nat.le_refl _⟩, ⟨by (with_reducible repeat (first | apply Kd.R_alloc | apply Kd.R_drewN | apply Kd.R_drew)); exact HO_6.out⟩, ⟨by (with_reducible repeat (first | refine Q12 ?_ _ | refine Q24 ?_ | refine Q17 ?_ _)); exact BK351.out⟩, ⟨by (with_reducible repeat (first | refine Q12 ?_ _ | refine Q24 ?_ | refine Q17 ?_ _)); exact BK352.out⟩, ⟨by repeat (first | (with_reducible first | exact HB.out | apply Q19 | apply Q8 | apply Q23 | refine Q26 ?_ GE351.out | refine Q26 ?_ GE352.out) | exact HB.out)⟩⟩
        · rw [if_neg c6] at H
          have c6b0 : decide ((a0.size : Int) ≤ x7_1) = false := decide_eq_false c6
          clear c6
          (first | rw [c6b0] | (simp only [i64_w, i32_w]; rw [c6b0]) | skip)
          by_cases c7 : 0 ≤ x7_1
          · rw [if_pos c7] at H
            have c7b0 : decide (0 ≤ x7_1) = true := decide_eq_true c7
            clear c7
            by_cases c8 : x7_1 < (a0.size : Int)
            · rw [if_pos c8] at H
              have c8b0 : decide (x7_1 < (a0.size : Int)) = true := decide_eq_true c8
              clear c8
              have H' := Aside0.mk H
              clear H
              have p9 : 0 ≤ (x7_1 : Int) := of_decide_eq_true (by first | (with_reducible assumption) | assumption)
              have q9 : x7_1 < (a0.size : Int) := of_decide_eq_true (by first | (with_reducible assumption) | assumption)
              have hx9 := bt_at a0 x7_1
              replace p9 := eq_true p9
              replace q9 := eq_true q9
              go_wp2
              repeat (go_quiet (fail); try go_wp2)
              go_meet
              case rel => exact ⟨_, (decide ((bt a0 x7_1) < 32)), (by first | rfl | (simp; done) | (simp [*]; done)), H', ⟨by have := HK1.out; first | omega | exact Nat.le_refl _⟩, ⟨by (with_reducible repeat (first | apply Kd.R_alloc | apply Kd.R_drewN | apply Kd.R_drew)); exact HO_6.out⟩, ⟨by (with_reducible repeat (first | refine Q12 ?_ _ | refine Q24 ?_ | refine Q17 ?_ _)); exact BK351.out⟩, ⟨by (with_reducible repeat (first | refine Q12 ?_ _ | refine Q24 ?_ | refine Q17 ?_ _)); exact BK352.out⟩, ⟨by repeat (first | (with_reducible first | exact HB.out | apply Q19 | apply Q8 | apply Q23 | refine Q26 ?_ GE351.out | refine Q26 ?_ GE352.out) | exact HB.out)⟩⟩
            · rw [if_neg c8] at H
              exact absurd H (by simp)
          · rw [if_neg c7] at H
            exact absurd H (by simp)
      case rest =>
        clear HC5
        try clear p2
        try clear c5
        try clear c6
        try clear c6b0
        try clear p6
        try clear c7
        try clear c7b0
        try clear c8
        try clear c8b0
        try clear p9
        try clear q9
        try clear hx9
        try clear p2
        try clear p9
        try clear q9
        obtain ⟨kq, x22_4, rfl, HA, HJ4, HO_6, BK351, BK352, HB⟩ := hcut
        cases kq with
        | zero => exact absurd HA.out (by simp [lexis_literal.j1])
        | succ kj4 =>
          have H := HA.out
          clear HA
          simp only [lexis_literal.j1] at H
          by_cases c10 : x22_4 = true
          · subst c10
            have H1 : ((lexis_fault.f a1 41).bind fun bt353 => (some (bt353.1, bt353.2.1, bt353.2.2.1, bt353.2.2.2.1, bt353.2.2.2.2.1, bt353.2.2.2.2.2.1, bt353.2.2.2.2.2.2.1, bt353.2.2.2.2.2.2.2.1, bt353.2.2.2.2.2.2.2.2.1, bt353.2.2.2.2.2.2.2.2.2.1, bt353.2.2.2.2.2.2.2.2.2.2.1, bt353.2.2.2.2.2.2.2.2.2.2.2.1, bt353.2.2.2.2.2.2.2.2.2.2.2.2))) = some (r1, r2, r3, r4, r5, r6, r7, r8, r9, r10, r11, r12, r13) := by rw [if_pos rfl] at H; exact H
            clear H
            have H := H1
            clear H1
            replace H := Option.bind_eq_some_iff.mp H
            obtain ⟨⟨t353, t354, t355, t356, t357, t358, t359, t360, t361, t362, t363, t364, t365⟩, A110, H⟩ := H
            replace H : (some (t353, t354, t355, t356, t357, t358, t359, t360, t361, t362, t363, t364, t365)) = some (r1, r2, r3, r4, r5, r6, r7, r8, r9, r10, r11, r12, r13) := H
            have A11 := Aside0.mk A110
            clear A110
            simp only [Option.some.injEq, Prod.mk.injEq] at H
            obtain ⟨rfl, rfl, rfl, rfl, rfl, rfl, rfl, rfl, rfl, rfl, rfl, rfl, rfl⟩ := H
            go_wp2_with (first | (go_at_call 56; (with_reducible refine (lexis_fault.calls a1 41 t353 t354 t355 t356 t357 t358 t359 t360 t361 t362 t363 t364 t365 _ A11.out).mono ?_); rintro e w12 ⟨rfl, hb⟩; have n0_ := Aside0.mk (Kd.R_below (by (with_reducible repeat (first | apply Kd.R_alloc | apply Kd.R_drewN | apply Kd.R_drew)); exact HO_6.out) hb); have n1_ := Aside0.mk (Q38 (g := gb351) (o := .cells #[.int .i64 x352000_1, .int .i64 x352001_1, .int .i64 x352002_1, .string x352003_1, .bool x352004_1, .int .u64 x352005_1, .int .u64 x352006_1, .int .u64 x352007_1, .int .u64 x352008_1, .int .i64 x352009_1, .int .i64 x352010_1] 26 (0, 0)) (by (with_reducible repeat (first | refine Q12 ?_ _ | refine Q24 ?_ | refine Q17 ?_ _)); exact BK351.out) hb); have n2_ := Aside0.mk (Q38 (g := gb352) (o := .cells #[.int .i64 x353000_1, .int .i64 x353001_1] 41 (0, 0)) (by (with_reducible repeat (first | refine Q12 ?_ _ | refine Q24 ?_ | refine Q17 ?_ _)); exact BK352.out) hb); have n3_ := Aside0.mk (Q34 (by repeat (first | (with_reducible first | exact HB.out | apply Q19 | apply Q8 | apply Q23 | refine Q26 ?_ GE351.out | refine Q26 ?_ GE352.out) | exact HB.out)) hb); clear HO_6; clear BK351; clear BK352; clear HB; have HO_6 := n0_; have BK351 := n1_; have BK352 := n2_; have HB := n3_; clear n0_ n1_ n2_ n3_; (try clear hb); (try clear hb2); (try clear hk); (try clear hi); have hnb13 := NB351_352.out; have hnc13 := NB352_351.out; obtain ⟨hcz14_0, hcz14_1, hcz14_2, hcz14_3, hcz14_4, hcz14_5, hcz14_6, hcz14_7, hcz14_8, hcz14_9, hcz14_10, hfz14_0, hfz14_1, hfz14_2, hfz14_3, hfz14_4, hfz14_5, hfz14_6, hfz14_7, hfz14_8, hfz14_9, hfz14_10⟩ := Q41 BK351.out; obtain ⟨hcz15_0, hcz15_1, hfz15_0, hfz15_1⟩ := blk_cells2 BK352.out))
            repeat (go_quiet (first | (go_at_call 56; (with_reducible refine (lexis_fault.calls a1 41 t353 t354 t355 t356 t357 t358 t359 t360 t361 t362 t363 t364 t365 _ A11.out).mono ?_); rintro e w12 ⟨rfl, hb⟩; have n0_ := Aside0.mk (Kd.R_below (by (with_reducible repeat (first | apply Kd.R_alloc | apply Kd.R_drewN | apply Kd.R_drew)); exact HO_6.out) hb); have n1_ := Aside0.mk (Q38 (g := gb351) (o := .cells #[.int .i64 x352000_1, .int .i64 x352001_1, .int .i64 x352002_1, .string x352003_1, .bool x352004_1, .int .u64 x352005_1, .int .u64 x352006_1, .int .u64 x352007_1, .int .u64 x352008_1, .int .i64 x352009_1, .int .i64 x352010_1] 26 (0, 0)) (by (with_reducible repeat (first | refine Q12 ?_ _ | refine Q24 ?_ | refine Q17 ?_ _)); exact BK351.out) hb); have n2_ := Aside0.mk (Q38 (g := gb352) (o := .cells #[.int .i64 x353000_1, .int .i64 x353001_1] 41 (0, 0)) (by (with_reducible repeat (first | refine Q12 ?_ _ | refine Q24 ?_ | refine Q17 ?_ _)); exact BK352.out) hb); have n3_ := Aside0.mk (Q34 (by repeat (first | (with_reducible first | exact HB.out | apply Q19 | apply Q8 | apply Q23 | refine Q26 ?_ GE351.out | refine Q26 ?_ GE352.out) | exact HB.out)) hb); clear HO_6; clear BK351; clear BK352; clear HB; have HO_6 := n0_; have BK351 := n1_; have BK352 := n2_; have HB := n3_; clear n0_ n1_ n2_ n3_; (try clear hb); (try clear hb2); (try clear hk); (try clear hi); have hnb13 := NB351_352.out; have hnc13 := NB352_351.out; obtain ⟨hcz14_0, hcz14_1, hcz14_2, hcz14_3, hcz14_4, hcz14_5, hcz14_6, hcz14_7, hcz14_8, hcz14_9, hcz14_10, hfz14_0, hfz14_1, hfz14_2, hfz14_3, hfz14_4, hfz14_5, hfz14_6, hfz14_7, hfz14_8, hfz14_9, hfz14_10⟩ := Q41 BK351.out; obtain ⟨hcz15_0, hcz15_1, hfz15_0, hfz15_1⟩ := blk_cells2 BK352.out)); try go_wp2_with (first | (go_at_call 56; (with_reducible refine (lexis_fault.calls a1 41 t353 t354 t355 t356 t357 t358 t359 t360 t361 t362 t363 t364 t365 _ A11.out).mono ?_); rintro e w12 ⟨rfl, hb⟩; have n0_ := Aside0.mk (Kd.R_below (by (with_reducible repeat (first | apply Kd.R_alloc | apply Kd.R_drewN | apply Kd.R_drew)); exact HO_6.out) hb); have n1_ := Aside0.mk (Q38 (g := gb351) (o := .cells #[.int .i64 x352000_1, .int .i64 x352001_1, .int .i64 x352002_1, .string x352003_1, .bool x352004_1, .int .u64 x352005_1, .int .u64 x352006_1, .int .u64 x352007_1, .int .u64 x352008_1, .int .i64 x352009_1, .int .i64 x352010_1] 26 (0, 0)) (by (with_reducible repeat (first | refine Q12 ?_ _ | refine Q24 ?_ | refine Q17 ?_ _)); exact BK351.out) hb); have n2_ := Aside0.mk (Q38 (g := gb352) (o := .cells #[.int .i64 x353000_1, .int .i64 x353001_1] 41 (0, 0)) (by (with_reducible repeat (first | refine Q12 ?_ _ | refine Q24 ?_ | refine Q17 ?_ _)); exact BK352.out) hb); have n3_ := Aside0.mk (Q34 (by repeat (first | (with_reducible first | exact HB.out | apply Q19 | apply Q8 | apply Q23 | refine Q26 ?_ GE351.out | refine Q26 ?_ GE352.out) | exact HB.out)) hb); clear HO_6; clear BK351; clear BK352; clear HB; have HO_6 := n0_; have BK351 := n1_; have BK352 := n2_; have HB := n3_; clear n0_ n1_ n2_ n3_; (try clear hb); (try clear hb2); (try clear hk); (try clear hi); have hnb13 := NB351_352.out; have hnc13 := NB352_351.out; obtain ⟨hcz14_0, hcz14_1, hcz14_2, hcz14_3, hcz14_4, hcz14_5, hcz14_6, hcz14_7, hcz14_8, hcz14_9, hcz14_10, hfz14_0, hfz14_1, hfz14_2, hfz14_3, hfz14_4, hfz14_5, hfz14_6, hfz14_7, hfz14_8, hfz14_9, hfz14_10⟩ := Q41 BK351.out; obtain ⟨hcz15_0, hcz15_1, hfz15_0, hfz15_1⟩ := blk_cells2 BK352.out)))
            (try rw [Exit.noGoto_ret])
            refine bodyPost_ret (results_cc rfl _ _ gb351 gb352 26 41 #[.int .i64 t353, .int .i64 t354, .int .i64 t355, .string t356, .bool t357, .int .u64 t358, .int .u64 t359, .int .u64 t360, .int .u64 t361, .int .i64 t362, .int .i64 t363] #[.int .i64 t364, .int .i64 t365] (0, 0) (0, 0) _ _ rfl (by (with_reducible repeat (first | refine Q12 ?_ _ | refine Q24 ?_ | refine Q17 ?_ _)); refine blk_far2 ?_ NB351_352.out; (with_reducible repeat (first | refine Q12 ?_ _ | refine Q24 ?_ | refine Q17 ?_ _)); apply blk_put11; (with_reducible repeat (first | refine Q12 ?_ _ | refine Q24 ?_ | refine Q17 ?_ _)); exact BK351.out) Tryd.underlying26 rfl (by kernel_rfl) rfl (by (with_reducible repeat (first | refine Q12 ?_ _ | refine Q24 ?_ | refine Q17 ?_ _)); apply blk_put2; (with_reducible repeat (first | refine Q12 ?_ _ | refine Q24 ?_ | refine Q17 ?_ _)); refine blk_far11 ?_ NB352_351.out; (with_reducible repeat (first | refine Q12 ?_ _ | refine Q24 ?_ | refine Q17 ?_ _)); exact BK352.out) Tryd.underlying41 rfl (by kernel_rfl)) rfl ?_
            exact ⟨by first | rfl | (simp [Q37, Q35] <;> rfl) | (simp [*, Q37, Q35] <;> rfl), by repeat (first | (with_reducible first | exact HB.out | apply Q19 | apply Q8 | apply Q23 | refine Q26 ?_ GE351.out | refine Q26 ?_ GE352.out) | exact HB.out)⟩
          · replace c10 := Bool.eq_false_iff.mpr c10
            subst c10
            have H1 : (if 0 ≤ x7_1 then (if x7_1 < (a0.size : Int) then (if 0 ≤ a1 then (if a1 < (a0.size : Int) then (if (bt a0 x7_1) = (bt a0 a1) then (if (wrap64 (x7_1 + 1)) < (a0.size : Int) then (if 0 ≤ (wrap64 (x7_1 + 1)) then (if (bt a0 (wrap64 (x7_1 + 1))) = 105 then (if (wrap64 (x7_1 + 2)) ≥ (a0.size : Int) then (lexis_literal.j2 kj4 true 14 a1 (wrap64 (x7_1 + 1)) (strOfNums x6_1) false 0 0 0 0 0 0) else (if 0 ≤ (wrap64 (x7_1 + 2)) then (if (wrap64 (x7_1 + 2)) < (a0.size : Int) then ((lexis_letter.f (bt a0 (wrap64 (x7_1 + 2)))).bind fun t388 => (if t388 = true then (lexis_literal.j2 kj4 false 14 a1 (wrap64 (x7_1 + 1)) (strOfNums x6_1) false 0 0 0 0 0 0) else ((lexis_digit.f (bt a0 (wrap64 (x7_1 + 2)))).bind fun t389 => (lexis_literal.j2 kj4 (!t389) 14 a1 (wrap64 (x7_1 + 1)) (strOfNums x6_1) false 0 0 0 0 0 0)))) else (none)) else (none))) else (lexis_literal.j2 kj4 false 14 a1 (wrap64 (x7_1 + 1)) (strOfNums x6_1) false 0 0 0 0 0 0)) else (none)) else (lexis_literal.j2 kj4 false 14 a1 (wrap64 (x7_1 + 1)) (strOfNums x6_1) false 0 0 0 0 0 0)) else (if (bt a0 x7_1) = 92 then ((lexis_escape.f kj4 a0 x7_1).bind fun bt366 => (if bt366.2 = 0 then ((lexis_fault.f x7_1 42).bind fun bt368 => (some (bt368.1, bt368.2.1, bt368.2.2.1, bt368.2.2.2.1, bt368.2.2.2.2.1, bt368.2.2.2.2.2.1, bt368.2.2.2.2.2.2.1, bt368.2.2.2.2.2.2.2.1, bt368.2.2.2.2.2.2.2.2.1, bt368.2.2.2.2.2.2.2.2.2.1, bt368.2.2.2.2.2.2.2.2.2.2.1, bt368.2.2.2.2.2.2.2.2.2.2.2.1, bt368.2.2.2.2.2.2.2.2.2.2.2.2))) else (if x6_1.length < 140737488355328 then (lexis_literal.l0 kj4 a0 a1 (x6_1 ++ [bt366.1]) (wrap64 (x7_1 + bt366.2))) else (none)))) else (if x6_1.length < 140737488355328 then (lexis_literal.l0 kj4 a0 a1 (x6_1 ++ [bt a0 x7_1]) (wrap64 (x7_1 + 1))) else (none)))) else (none)) else (none)) else (none)) else (none)) = some (r1, r2, r3, r4, r5, r6, r7, r8, r9, r10, r11, r12, r13) := by rw [if_neg (show ¬ (false = true) by decide)] at H; exact H
            clear H
            have H := H1
            clear H1
            by_cases c16 : 0 ≤ x7_1
            · rw [if_pos c16] at H
              have c16b0 : decide (0 ≤ x7_1) = true := decide_eq_true c16
              clear c16
              by_cases c17 : x7_1 < (a0.size : Int)
              · rw [if_pos c17] at H
                have c17b0 : decide (x7_1 < (a0.size : Int)) = true := decide_eq_true c17
                clear c17
                by_cases c19 : 0 ≤ a1
                · rw [if_pos c19] at H
                  have c19b0 : decide (0 ≤ a1) = true := decide_eq_true c19
                  clear c19
                  by_cases c20 : a1 < (a0.size : Int)
                  · rw [if_pos c20] at H
                    have c20b0 : decide (a1 < (a0.size : Int)) = true := decide_eq_true c20
                    clear c20
                    by_cases c22 : (bt a0 x7_1) = (bt a0 a1)
                    · rw [if_pos c22] at H
                      have c22b0 : ((bt a0 x7_1) == (bt a0 a1)) = true := beq_iff_eq.mpr c22
                      have c22b1 : ((bt a0 x7_1) != (bt a0 a1)) = false := bne_eq_false_iff_eq.mpr c22
                      clear c22
                      have HC23 := Aside0.mk H
                      clear H
                      have p18 : 0 ≤ (x7_1 : Int) := of_decide_eq_true (by first | (with_reducible assumption) | assumption)
                      have q18 : x7_1 < (a0.size : Int) := of_decide_eq_true (by first | (with_reducible assumption) | assumption)
                      have hx18 := bt_at a0 x7_1
                      replace p18 := eq_true p18
                      replace q18 := eq_true q18
                      have p21 : 0 ≤ (a1 : Int) := of_decide_eq_true (by first | (with_reducible assumption) | assumption)
                      have q21 : a1 < (a0.size : Int) := of_decide_eq_true (by first | (with_reducible assumption) | assumption)
                      have hx21 := bt_at a0 a1
                      replace p21 := eq_true p21
                      replace q21 := eq_true q21
                      have hcv24 := own_string (P := Tryd.prog) Tryd.underlying52 Tryd.underlying5 Tryd.underlying9 (Kd.own_of_R HO_6.out)
                      have hcw25 := fun n_ : Nat => own_string (P := Tryd.prog) Tryd.underlying52 Tryd.underlying5 Tryd.underlying9 (Kd.own_of_R (Kd.R_drewN HO_6.out n_))
                      go_upto_region 16 with (first | ((with_reducible refine gate_dst (N := 10) rfl ?_); (try (refine gate_guard (by rfl) ?_; dsimp only)); refine Q43 ?hg (N := 10) ?hd (cs := #[.int .i64 0, .int .i64 0, .int .i64 0, .string (⟨#[]⟩ : ByteArray), .bool false, .int .u64 0, .int .u64 0, .int .u64 0, .int .u64 0, .int .i64 0, .int .i64 0]) (t := 26) ?hr ?_; (case hd => rfl); (case hg => rfl); (case hr => first | (go_simp; done) | (go_simp; rfl)); intro gb387 hg w26 hbox hb; have n0_ := Aside0.mk (Kd.R_below (by (with_reducible repeat (first | apply Kd.R_alloc | apply Kd.R_drewN | apply Kd.R_drew)); exact HO_6.out) hb); have n1_ := Aside0.mk (Q38 (g := gb351) (o := .cells #[.int .i64 x352000_1, .int .i64 x352001_1, .int .i64 x352002_1, .string x352003_1, .bool x352004_1, .int .u64 x352005_1, .int .u64 x352006_1, .int .u64 x352007_1, .int .u64 x352008_1, .int .i64 x352009_1, .int .i64 x352010_1] 26 (0, 0)) (by (with_reducible repeat (first | refine Q12 ?_ _ | refine Q24 ?_ | refine Q17 ?_ _)); exact BK351.out) hb); have n2_ := Aside0.mk (Q38 (g := gb352) (o := .cells #[.int .i64 x353000_1, .int .i64 x353001_1] 41 (0, 0)) (by (with_reducible repeat (first | refine Q12 ?_ _ | refine Q24 ?_ | refine Q17 ?_ _)); exact BK352.out) hb); have n3_ := Aside0.mk (Q34 (by repeat (first | (with_reducible first | exact HB.out | apply Q19 | apply Q8 | apply Q23 | refine Q26 ?_ GE351.out | refine Q26 ?_ GE352.out) | exact HB.out)) hb); have n4_ := Aside0.mk (hbox); have n5_ := Aside0.mk ((by rw [hg]; exact (Q29 (by repeat (first | (with_reducible first | exact HB.out | apply Q19 | apply Q8 | apply Q23 | refine Q26 ?_ GE351.out | refine Q26 ?_ GE352.out) | exact HB.out))) : w.heap.size ≤ gb387)); have n6_ := Aside0.mk ((by rw [hg]; exact (Q29 (by repeat (first | (with_reducible first | exact HB.out | apply Q19 | apply Q8 | apply Q23 | refine Q26 ?_ GE351.out | refine Q26 ?_ GE352.out) | exact HB.out))) : w.heap.size ≤ gb387)); have n7_ := Aside0.mk ((by rw [hg]; exact Nat.ne_of_lt (blk_lt (g := gb351) (o := .cells #[.int .i64 x352000_1, .int .i64 x352001_1, .int .i64 x352002_1, .string x352003_1, .bool x352004_1, .int .u64 x352005_1, .int .u64 x352006_1, .int .u64 x352007_1, .int .u64 x352008_1, .int .i64 x352009_1, .int .i64 x352010_1] 26 (0, 0)) (by (with_reducible repeat (first | refine Q12 ?_ _ | refine Q24 ?_ | refine Q17 ?_ _)); exact BK351.out)) : gb351 ≠ gb387)); have n8_ := Aside0.mk ((by rw [hg]; exact Nat.ne_of_gt (blk_lt (g := gb351) (o := .cells #[.int .i64 x352000_1, .int .i64 x352001_1, .int .i64 x352002_1, .string x352003_1, .bool x352004_1, .int .u64 x352005_1, .int .u64 x352006_1, .int .u64 x352007_1, .int .u64 x352008_1, .int .i64 x352009_1, .int .i64 x352010_1] 26 (0, 0)) (by (with_reducible repeat (first | refine Q12 ?_ _ | refine Q24 ?_ | refine Q17 ?_ _)); exact BK351.out)) : gb387 ≠ gb351)); have n9_ := Aside0.mk ((by rw [hg]; exact Nat.ne_of_lt (blk_lt (g := gb352) (o := .cells #[.int .i64 x353000_1, .int .i64 x353001_1] 41 (0, 0)) (by (with_reducible repeat (first | refine Q12 ?_ _ | refine Q24 ?_ | refine Q17 ?_ _)); exact BK352.out)) : gb352 ≠ gb387)); have n10_ := Aside0.mk ((by rw [hg]; exact Nat.ne_of_gt (blk_lt (g := gb352) (o := .cells #[.int .i64 x353000_1, .int .i64 x353001_1] 41 (0, 0)) (by (with_reducible repeat (first | refine Q12 ?_ _ | refine Q24 ?_ | refine Q17 ?_ _)); exact BK352.out)) : gb387 ≠ gb352)); clear HO_6; clear BK351; clear BK352; clear HB; have HO_6 := n0_; have BK351 := n1_; have BK352 := n2_; have HB := n3_; have BK387 := n4_; have GW387 := n5_; have GE387 := n6_; have NB351_387 := n7_; have NB387_351 := n8_; have NB352_387 := n9_; have NB387_352 := n10_; clear n0_ n1_ n2_ n3_ n4_ n5_ n6_ n7_ n8_ n9_ n10_; clear hb hbox hg; have hnb27 := NB387_351.out; have hnc27 := NB351_387.out; have hnb28 := NB387_352.out; have hnc28 := NB352_387.out; obtain ⟨hcz29_0, hcz29_1, hcz29_2, hcz29_3, hcz29_4, hcz29_5, hcz29_6, hcz29_7, hcz29_8, hcz29_9, hcz29_10, hfz29_0, hfz29_1, hfz29_2, hfz29_3, hfz29_4, hfz29_5, hfz29_6, hfz29_7, hfz29_8, hfz29_9, hfz29_10⟩ := Q41 BK387.out))
                      repeat (go_quiet (first | ((with_reducible refine gate_dst (N := 10) rfl ?_); (try (refine gate_guard (by rfl) ?_; dsimp only)); refine Q43 ?hg (N := 10) ?hd (cs := #[.int .i64 0, .int .i64 0, .int .i64 0, .string (⟨#[]⟩ : ByteArray), .bool false, .int .u64 0, .int .u64 0, .int .u64 0, .int .u64 0, .int .i64 0, .int .i64 0]) (t := 26) ?hr ?_; (case hd => rfl); (case hg => rfl); (case hr => first | (go_simp; done) | (go_simp; rfl)); intro gb387 hg w26 hbox hb; have n0_ := Aside0.mk (Kd.R_below (by (with_reducible repeat (first | apply Kd.R_alloc | apply Kd.R_drewN | apply Kd.R_drew)); exact HO_6.out) hb); have n1_ := Aside0.mk (Q38 (g := gb351) (o := .cells #[.int .i64 x352000_1, .int .i64 x352001_1, .int .i64 x352002_1, .string x352003_1, .bool x352004_1, .int .u64 x352005_1, .int .u64 x352006_1, .int .u64 x352007_1, .int .u64 x352008_1, .int .i64 x352009_1, .int .i64 x352010_1] 26 (0, 0)) (by (with_reducible repeat (first | refine Q12 ?_ _ | refine Q24 ?_ | refine Q17 ?_ _)); exact BK351.out) hb); have n2_ := Aside0.mk (Q38 (g := gb352) (o := .cells #[.int .i64 x353000_1, .int .i64 x353001_1] 41 (0, 0)) (by (with_reducible repeat (first | refine Q12 ?_ _ | refine Q24 ?_ | refine Q17 ?_ _)); exact BK352.out) hb); have n3_ := Aside0.mk (Q34 (by repeat (first | (with_reducible first | exact HB.out | apply Q19 | apply Q8 | apply Q23 | refine Q26 ?_ GE351.out | refine Q26 ?_ GE352.out) | exact HB.out)) hb); have n4_ := Aside0.mk (hbox); have n5_ := Aside0.mk ((by rw [hg]; exact (Q29 (by repeat (first | (with_reducible first | exact HB.out | apply Q19 | apply Q8 | apply Q23 | refine Q26 ?_ GE351.out | refine Q26 ?_ GE352.out) | exact HB.out))) : w.heap.size ≤ gb387)); have n6_ := Aside0.mk ((by rw [hg]; exact (Q29 (by repeat (first | (with_reducible first | exact HB.out | apply Q19 | apply Q8 | apply Q23 | refine Q26 ?_ GE351.out | refine Q26 ?_ GE352.out) | exact HB.out))) : w.heap.size ≤ gb387)); have n7_ := Aside0.mk ((by rw [hg]; exact Nat.ne_of_lt (blk_lt (g := gb351) (o := .cells #[.int .i64 x352000_1, .int .i64 x352001_1, .int .i64 x352002_1, .string x352003_1, .bool x352004_1, .int .u64 x352005_1, .int .u64 x352006_1, .int .u64 x352007_1, .int .u64 x352008_1, .int .i64 x352009_1, .int .i64 x352010_1] 26 (0, 0)) (by (with_reducible repeat (first | refine Q12 ?_ _ | refine Q24 ?_ | refine Q17 ?_ _)); exact BK351.out)) : gb351 ≠ gb387)); have n8_ := Aside0.mk ((by rw [hg]; exact Nat.ne_of_gt (blk_lt (g := gb351) (o := .cells #[.int .i64 x352000_1, .int .i64 x352001_1, .int .i64 x352002_1, .string x352003_1, .bool x352004_1, .int .u64 x352005_1, .int .u64 x352006_1, .int .u64 x352007_1, .int .u64 x352008_1, .int .i64 x352009_1, .int .i64 x352010_1] 26 (0, 0)) (by (with_reducible repeat (first | refine Q12 ?_ _ | refine Q24 ?_ | refine Q17 ?_ _)); exact BK351.out)) : gb387 ≠ gb351)); have n9_ := Aside0.mk ((by rw [hg]; exact Nat.ne_of_lt (blk_lt (g := gb352) (o := .cells #[.int .i64 x353000_1, .int .i64 x353001_1] 41 (0, 0)) (by (with_reducible repeat (first | refine Q12 ?_ _ | refine Q24 ?_ | refine Q17 ?_ _)); exact BK352.out)) : gb352 ≠ gb387)); have n10_ := Aside0.mk ((by rw [hg]; exact Nat.ne_of_gt (blk_lt (g := gb352) (o := .cells #[.int .i64 x353000_1, .int .i64 x353001_1] 41 (0, 0)) (by (with_reducible repeat (first | refine Q12 ?_ _ | refine Q24 ?_ | refine Q17 ?_ _)); exact BK352.out)) : gb387 ≠ gb352)); clear HO_6; clear BK351; clear BK352; clear HB; have HO_6 := n0_; have BK351 := n1_; have BK352 := n2_; have HB := n3_; have BK387 := n4_; have GW387 := n5_; have GE387 := n6_; have NB351_387 := n7_; have NB387_351 := n8_; have NB352_387 := n9_; have NB387_352 := n10_; clear n0_ n1_ n2_ n3_ n4_ n5_ n6_ n7_ n8_ n9_ n10_; clear hb hbox hg; have hnb27 := NB387_351.out; have hnc27 := NB351_387.out; have hnb28 := NB387_352.out; have hnc28 := NB352_387.out; obtain ⟨hcz29_0, hcz29_1, hcz29_2, hcz29_3, hcz29_4, hcz29_5, hcz29_6, hcz29_7, hcz29_8, hcz29_9, hcz29_10, hfz29_0, hfz29_1, hfz29_2, hfz29_3, hfz29_4, hfz29_5, hfz29_6, hfz29_7, hfz29_8, hfz29_9, hfz29_10⟩ := Q41 BK387.out)); go_upto_region 16 with (first | ((with_reducible refine gate_dst (N := 10) rfl ?_); (try (refine gate_guard (by rfl) ?_; dsimp only)); refine Q43 ?hg (N := 10) ?hd (cs := #[.int .i64 0, .int .i64 0, .int .i64 0, .string (⟨#[]⟩ : ByteArray), .bool false, .int .u64 0, .int .u64 0, .int .u64 0, .int .u64 0, .int .i64 0, .int .i64 0]) (t := 26) ?hr ?_; (case hd => rfl); (case hg => rfl); (case hr => first | (go_simp; done) | (go_simp; rfl)); intro gb387 hg w26 hbox hb; have n0_ := Aside0.mk (Kd.R_below (by (with_reducible repeat (first | apply Kd.R_alloc | apply Kd.R_drewN | apply Kd.R_drew)); exact HO_6.out) hb); have n1_ := Aside0.mk (Q38 (g := gb351) (o := .cells #[.int .i64 x352000_1, .int .i64 x352001_1, .int .i64 x352002_1, .string x352003_1, .bool x352004_1, .int .u64 x352005_1, .int .u64 x352006_1, .int .u64 x352007_1, .int .u64 x352008_1, .int .i64 x352009_1, .int .i64 x352010_1] 26 (0, 0)) (by (with_reducible repeat (first | refine Q12 ?_ _ | refine Q24 ?_ | refine Q17 ?_ _)); exact BK351.out) hb); have n2_ := Aside0.mk (Q38 (g := gb352) (o := .cells #[.int .i64 x353000_1, .int .i64 x353001_1] 41 (0, 0)) (by (with_reducible repeat (first | refine Q12 ?_ _ | refine Q24 ?_ | refine Q17 ?_ _)); exact BK352.out) hb); have n3_ := Aside0.mk (Q34 (by repeat (first | (with_reducible first | exact HB.out | apply Q19 | apply Q8 | apply Q23 | refine Q26 ?_ GE351.out | refine Q26 ?_ GE352.out) | exact HB.out)) hb); have n4_ := Aside0.mk (hbox); have n5_ := Aside0.mk ((by rw [hg]; exact (Q29 (by repeat (first | (with_reducible first | exact HB.out | apply Q19 | apply Q8 | apply Q23 | refine Q26 ?_ GE351.out | refine Q26 ?_ GE352.out) | exact HB.out))) : w.heap.size ≤ gb387)); have n6_ := Aside0.mk ((by rw [hg]; exact (Q29 (by repeat (first | (with_reducible first | exact HB.out | apply Q19 | apply Q8 | apply Q23 | refine Q26 ?_ GE351.out | refine Q26 ?_ GE352.out) | exact HB.out))) : w.heap.size ≤ gb387)); have n7_ := Aside0.mk ((by rw [hg]; exact Nat.ne_of_lt (blk_lt (g := gb351) (o := .cells #[.int .i64 x352000_1, .int .i64 x352001_1, .int .i64 x352002_1, .string x352003_1, .bool x352004_1, .int .u64 x352005_1, .int .u64 x352006_1, .int .u64 x352007_1, .int .u64 x352008_1, .int .i64 x352009_1, .int .i64 x352010_1] 26 (0, 0)) (by (with_reducible repeat (first | refine Q12 ?_ _ | refine Q24 ?_ | refine Q17 ?_ _)); exact BK351.out)) : gb351 ≠ gb387)); have n8_ := Aside0.mk ((by rw [hg]; exact Nat.ne_of_gt (blk_lt (g := gb351) (o := .cells #[.int .i64 x352000_1, .int .i64 x352001_1, .int .i64 x352002_1, .string x352003_1, .bool x352004_1, .int .u64 x352005_1, .int .u64 x352006_1, .int .u64 x352007_1, .int .u64 x352008_1, .int .i64 x352009_1, .int .i64 x352010_1] 26 (0, 0)) (by (with_reducible repeat (first | refine Q12 ?_ _ | refine Q24 ?_ | refine Q17 ?_ _)); exact BK351.out)) : gb387 ≠ gb351)); have n9_ := Aside0.mk ((by rw [hg]; exact Nat.ne_of_lt (blk_lt (g := gb352) (o := .cells #[.int .i64 x353000_1, .int .i64 x353001_1] 41 (0, 0)) (by (with_reducible repeat (first | refine Q12 ?_ _ | refine Q24 ?_ | refine Q17 ?_ _)); exact BK352.out)) : gb352 ≠ gb387)); have n10_ := Aside0.mk ((by rw [hg]; exact Nat.ne_of_gt (blk_lt (g := gb352) (o := .cells #[.int .i64 x353000_1, .int .i64 x353001_1] 41 (0, 0)) (by (with_reducible repeat (first | refine Q12 ?_ _ | refine Q24 ?_ | refine Q17 ?_ _)); exact BK352.out)) : gb387 ≠ gb352)); clear HO_6; clear BK351; clear BK352; clear HB; have HO_6 := n0_; have BK351 := n1_; have BK352 := n2_; have HB := n3_; have BK387 := n4_; have GW387 := n5_; have GE387 := n6_; have NB351_387 := n7_; have NB387_351 := n8_; have NB352_387 := n9_; have NB387_352 := n10_; clear n0_ n1_ n2_ n3_ n4_ n5_ n6_ n7_ n8_ n9_ n10_; clear hb hbox hg; have hnb27 := NB387_351.out; have hnc27 := NB351_387.out; have hnb28 := NB387_352.out; have hnc28 := NB352_387.out; obtain ⟨hcz29_0, hcz29_1, hcz29_2, hcz29_3, hcz29_4, hcz29_5, hcz29_6, hcz29_7, hcz29_8, hcz29_9, hcz29_10, hfz29_0, hfz29_1, hfz29_2, hfz29_3, hfz29_4, hfz29_5, hfz29_6, hfz29_7, hfz29_8, hfz29_9, hfz29_10⟩ := Q41 BK387.out)))
                      (try simp only [Act.put, List.setIfInBounds_toArray, List.set_cons_zero, List.set_cons_succ])
                      go_cut [108] (fun v108 wc => ∃ (kq : Nat) (x108_22 : Bool), v108 = .bool x108_22 ∧ Aside0 (lexis_literal.j2 kq x108_22 14 a1 (wrap64 (x7_1 + 1)) (strOfNums x6_1) false 0 0 0 0 0 0 = some (r1, r2, r3, r4, r5, r6, r7, r8, r9, r10, r11, r12, r13)) ∧ Aside0 (kq ≤ kj4) ∧ Aside0 (wc.heap[gb351]? = some (.cells #[.int .i64 x352000_1, .int .i64 x352001_1, .int .i64 x352002_1, .string x352003_1, .bool x352004_1, .int .u64 x352005_1, .int .u64 x352006_1, .int .u64 x352007_1, .int .u64 x352008_1, .int .i64 x352009_1, .int .i64 x352010_1] 26 (0, 0))) ∧ Aside0 (wc.heap[gb352]? = some (.cells #[.int .i64 x353000_1, .int .i64 x353001_1] 41 (0, 0))) ∧ Aside0 (wc.heap[gb387]? = some (.cells #[.int .i64 14, .int .i64 a1, .int .i64 (wrap64 (x7_1 + 1)), .string (strOfNums x6_1), .bool false, .int .u64 0, .int .u64 0, .int .u64 0, .int .u64 0, .int .i64 0, .int .i64 0] 26 (0, 0))) ∧ Aside0 (Below w.heap.size w wc))
                      case first =>
                        have H := HC23.out
                        clear HC23
                        by_cases c30 : (wrap64 (x7_1 + 1)) < (a0.size : Int)
                        · rw [if_pos c30] at H
                          have c30b0 : decide ((wrap64 (x7_1 + 1)) < (a0.size : Int)) = true := decide_eq_true c30
                          clear c30
                          (first | rw [c30b0] | (simp only [i64_w, i32_w]; rw [c30b0]) | skip)
                          obtain ⟨ji31, hji31⟩ : ∃ j_ : Int, (wrap64 (x7_1 + 1)) = j_ := ⟨_, rfl⟩
                          replace H : (if 0 ≤ (ji31) then (if (bt a0 (ji31)) = 105 then (if (wrap64 (x7_1 + 2)) ≥ (a0.size : Int) then (lexis_literal.j2 kj4 true 14 a1 ji31 (strOfNums x6_1) false 0 0 0 0 0 0) else (if 0 ≤ (wrap64 (x7_1 + 2)) then (if (wrap64 (x7_1 + 2)) < (a0.size : Int) then ((lexis_letter.f (bt a0 (wrap64 (x7_1 + 2)))).bind fun t388 => (if t388 = true then (lexis_literal.j2 kj4 false 14 a1 ji31 (strOfNums x6_1) false 0 0 0 0 0 0) else ((lexis_digit.f (bt a0 (wrap64 (x7_1 + 2)))).bind fun t389 => (lexis_literal.j2 kj4 (!t389) 14 a1 ji31 (strOfNums x6_1) false 0 0 0 0 0 0)))) else (none)) else (none))) else (lexis_literal.j2 kj4 false 14 a1 ji31 (strOfNums x6_1) false 0 0 0 0 0 0)) else (none)) = some (r1, r2, r3, r4, r5, r6, r7, r8, r9, r10, r11, r12, r13) := by first | (rw [hji31] at H; exact H) | (simp only [hji31] at H ⊢; exact H)
                          (try rw [hji31] at c30b0)
                          have hji31w : (IntKind.i64.wrap (x7_1 + 1)) = ji31 := (i64_w _).trans hji31
                          by_cases c32 : 0 ≤ (ji31)
                          · rw [if_pos c32] at H
                            have c32b0 : decide (0 ≤ (ji31)) = true := decide_eq_true c32
                            clear c32
                            by_cases c34 : (bt a0 (ji31)) = 105
                            · rw [if_pos c34] at H
                              have c34b0 : ((bt a0 (ji31)) == 105) = true := beq_iff_eq.mpr c34
                              have c34b1 : ((bt a0 (ji31)) != 105) = false := bne_eq_false_iff_eq.mpr c34
                              clear c34
                              by_cases c35 : (wrap64 (x7_1 + 2)) ≥ (a0.size : Int)
                              · rw [if_pos c35] at H
                                have c35b0 : decide ((a0.size : Int) ≤ (wrap64 (x7_1 + 2))) = true := decide_eq_true c35
                                clear c35
                                have H' := Aside0.mk H
                                clear H
                                have p33 : 0 ≤ ((ji31) : Int) := of_decide_eq_true (by first | (with_reducible assumption) | assumption)
                                have q33 : (ji31) < (a0.size : Int) := of_decide_eq_true (by first | (with_reducible assumption) | assumption)
                                have hx33 := bt_at a0 (ji31)
                                replace p33 := eq_true p33
                                replace q33 := eq_true q33
                                go_wp2
                                repeat (go_quiet (fail); try go_wp2)
                                (try subst hji31)
                                go_meet
                                case rel => exact ⟨_, (true), (by first | rfl | (simp; done) | (simp [*]; done)), H', ⟨by have := HK1.out; have := HJ4.out; first | omega | exact Nat.le_refl _⟩, ⟨by (with_reducible repeat (first | refine Q12 ?_ _ | refine Q24 ?_ | refine Q17 ?_ _)); refine blk_far11 ?_ NB351_387.out; (with_reducible repeat (first | refine Q12 ?_ _ | refine Q24 ?_ | refine Q17 ?_ _)); exact BK351.out⟩, ⟨by (with_reducible repeat (first | refine Q12 ?_ _ | refine Q24 ?_ | refine Q17 ?_ _)); refine blk_far11 ?_ NB352_387.out; (with_reducible repeat (first | refine Q12 ?_ _ | refine Q24 ?_ | refine Q17 ?_ _)); exact BK352.out⟩, ⟨by (with_reducible repeat (first | refine Q12 ?_ _ | refine Q24 ?_ | refine Q17 ?_ _)); apply blk_put11; (with_reducible repeat (first | refine Q12 ?_ _ | refine Q24 ?_ | refine Q17 ?_ _)); exact BK387.out⟩, ⟨by repeat (first | (with_reducible first | exact HB.out | apply Q19 | apply Q8 | apply Q23 | refine Q26 ?_ GE351.out | refine Q26 ?_ GE352.out | refine Q26 ?_ GE387.out) | exact HB.out)⟩⟩
                              · rw [if_neg c35] at H
                                have c35b0 : decide ((a0.size : Int) ≤ (wrap64 (x7_1 + 2))) = false := decide_eq_false c35
                                clear c35
                                obtain ⟨ji36, hji36⟩ : ∃ j_ : Int, (wrap64 (x7_1 + 2)) = j_ := ⟨_, rfl⟩
                                replace H : (if 0 ≤ (ji36) then (if (ji36) < (a0.size : Int) then ((lexis_letter.f (bt a0 (ji36))).bind fun t388 => (if t388 = true then (lexis_literal.j2 kj4 false 14 a1 ji31 (strOfNums x6_1) false 0 0 0 0 0 0) else ((lexis_digit.f (bt a0 (ji36))).bind fun t389 => (lexis_literal.j2 kj4 (!t389) 14 a1 ji31 (strOfNums x6_1) false 0 0 0 0 0 0)))) else (none)) else (none)) = some (r1, r2, r3, r4, r5, r6, r7, r8, r9, r10, r11, r12, r13) := by first | (rw [hji36] at H; exact H) | (simp only [hji36] at H ⊢; exact H)
                                (try rw [hji36] at c35b0)
                                have hji36w : (IntKind.i64.wrap (x7_1 + 2)) = ji36 := (i64_w _).trans hji36
                                by_cases c37 : 0 ≤ (ji36)
                                · rw [if_pos c37] at H
                                  have c37b0 : decide (0 ≤ (ji36)) = true := decide_eq_true c37
                                  clear c37
                                  by_cases c38 : (ji36) < (a0.size : Int)
                                  · rw [if_pos c38] at H
                                    have c38b0 : decide ((ji36) < (a0.size : Int)) = true := decide_eq_true c38
                                    clear c38
                                    replace H := Option.bind_eq_some_iff.mp H
                                    obtain ⟨t388, A400, H⟩ := H
                                    replace H : (if t388 = true then (lexis_literal.j2 kj4 false 14 a1 ji31 (strOfNums x6_1) false 0 0 0 0 0 0) else ((lexis_digit.f (bt a0 (ji36))).bind fun t389 => (lexis_literal.j2 kj4 (!t389) 14 a1 ji31 (strOfNums x6_1) false 0 0 0 0 0 0))) = some (r1, r2, r3, r4, r5, r6, r7, r8, r9, r10, r11, r12, r13) := H
                                    have A40 := Aside0.mk A400
                                    clear A400
                                    by_cases c41 : t388 = true
                                    · subst c41
                                      have H1 : (lexis_literal.j2 kj4 false 14 a1 ji31 (strOfNums x6_1) false 0 0 0 0 0 0) = some (r1, r2, r3, r4, r5, r6, r7, r8, r9, r10, r11, r12, r13) := by rw [if_pos rfl] at H; exact H
                                      clear H
                                      have H := H1
                                      clear H1
                                      have H' := Aside0.mk H
                                      clear H
                                      have p33 : 0 ≤ ((ji31) : Int) := of_decide_eq_true (by first | (with_reducible assumption) | assumption)
                                      have q33 : (ji31) < (a0.size : Int) := of_decide_eq_true (by first | (with_reducible assumption) | assumption)
                                      have hx33 := bt_at a0 (ji31)
                                      replace p33 := eq_true p33
                                      replace q33 := eq_true q33
                                      have p39 : 0 ≤ ((ji36) : Int) := of_decide_eq_true (by first | (with_reducible assumption) | assumption)
                                      have q39 : (ji36) < (a0.size : Int) := of_decide_eq_true (by first | (with_reducible assumption) | assumption)
                                      have hx39 := bt_at a0 (ji36)
                                      replace p39 := eq_true p39
                                      replace q39 := eq_true q39
                                      go_wp2_with (first | (go_at_call 49; (with_reducible refine (lexis_letter.calls (bt a0 (ji36)) true _ A40.out).mono ?_); rintro e w' ⟨rfl, ⟨nd, rfl⟩⟩; (try first | exact ⟨rfl, _, World.drewN_drewN _ _ _⟩ | exact ⟨rfl, _, Eq.trans (World.drewN_drewN _ _ _) (congrArg (World.drewN _) (Nat.add_assoc _ _ _))⟩)))
                                      repeat (go_quiet (first | (go_at_call 49; (with_reducible refine (lexis_letter.calls (bt a0 (ji36)) true _ A40.out).mono ?_); rintro e w' ⟨rfl, ⟨nd, rfl⟩⟩; (try first | exact ⟨rfl, _, World.drewN_drewN _ _ _⟩ | exact ⟨rfl, _, Eq.trans (World.drewN_drewN _ _ _) (congrArg (World.drewN _) (Nat.add_assoc _ _ _))⟩))); try go_wp2_with (first | (go_at_call 49; (with_reducible refine (lexis_letter.calls (bt a0 (ji36)) true _ A40.out).mono ?_); rintro e w' ⟨rfl, ⟨nd, rfl⟩⟩; (try first | exact ⟨rfl, _, World.drewN_drewN _ _ _⟩ | exact ⟨rfl, _, Eq.trans (World.drewN_drewN _ _ _) (congrArg (World.drewN _) (Nat.add_assoc _ _ _))⟩))))
                                      (try subst hji36)
                                      (try subst hji31)
                                      go_meet
                                      case rel => exact ⟨_, (false), (by first | rfl | (simp; done) | (simp [*]; done)), H', ⟨by have := HK1.out; have := HJ4.out; first | omega | exact Nat.le_refl _⟩, ⟨by (with_reducible repeat (first | refine Q12 ?_ _ | refine Q24 ?_ | refine Q17 ?_ _)); refine blk_far11 ?_ NB351_387.out; (with_reducible repeat (first | refine Q12 ?_ _ | refine Q24 ?_ | refine Q17 ?_ _)); exact BK351.out⟩, ⟨by (with_reducible repeat (first | refine Q12 ?_ _ | refine Q24 ?_ | refine Q17 ?_ _)); refine blk_far11 ?_ NB352_387.out; (with_reducible repeat (first | refine Q12 ?_ _ | refine Q24 ?_ | refine Q17 ?_ _)); exact BK352.out⟩, ⟨by (with_reducible repeat (first | refine Q12 ?_ _ | refine Q24 ?_ | refine Q17 ?_ _)); apply blk_put11; (with_reducible repeat (first | refine Q12 ?_ _ | refine Q24 ?_ | refine Q17 ?_ _)); exact BK387.out⟩, ⟨by repeat (first | (with_reducible first | exact HB.out | apply Q19 | apply Q8 | apply Q23 | refine Q26 ?_ GE351.out | refine Q26 ?_ GE352.out | refine Q26 ?_ GE387.out) | exact HB.out)⟩⟩
                                    · replace c41 := Bool.eq_false_iff.mpr c41
                                      subst c41
                                      have H1 : ((lexis_digit.f (bt a0 (ji36))).bind fun t389 => (lexis_literal.j2 kj4 (!t389) 14 a1 ji31 (strOfNums x6_1) false 0 0 0 0 0 0)) = some (r1, r2, r3, r4, r5, r6, r7, r8, r9, r10, r11, r12, r13) := by rw [if_neg (show ¬ (false = true) by decide)] at H; exact H
                                      clear H
                                      have H := H1
                                      clear H1
                                      replace H := Option.bind_eq_some_iff.mp H
                                      obtain ⟨t389, A430, H⟩ := H
                                      replace H : (lexis_literal.j2 kj4 (!t389) 14 a1 ji31 (strOfNums x6_1) false 0 0 0 0 0 0) = some (r1, r2, r3, r4, r5, r6, r7, r8, r9, r10, r11, r12, r13) := H
                                      have A43 := Aside0.mk A430
                                      clear A430
                                      have H' := Aside0.mk H
                                      clear H
                                      have p33 : 0 ≤ ((ji31) : Int) := of_decide_eq_true (by first | (with_reducible assumption) | assumption)
                                      have q33 : (ji31) < (a0.size : Int) := of_decide_eq_true (by first | (with_reducible assumption) | assumption)
                                      have hx33 := bt_at a0 (ji31)
                                      replace p33 := eq_true p33
                                      replace q33 := eq_true q33
                                      have p39 : 0 ≤ ((ji36) : Int) := of_decide_eq_true (by first | (with_reducible assumption) | assumption)
                                      have q39 : (ji36) < (a0.size : Int) := of_decide_eq_true (by first | (with_reducible assumption) | assumption)
                                      have hx39 := bt_at a0 (ji36)
                                      replace p39 := eq_true p39
                                      replace q39 := eq_true q39
                                      go_wp2_with (first | (go_at_call 49; (with_reducible refine (lexis_letter.calls (bt a0 (ji36)) false _ A40.out).mono ?_); rintro e w' ⟨rfl, ⟨nd, rfl⟩⟩; (try first | exact ⟨rfl, _, World.drewN_drewN _ _ _⟩ | exact ⟨rfl, _, Eq.trans (World.drewN_drewN _ _ _) (congrArg (World.drewN _) (Nat.add_assoc _ _ _))⟩); have p42 : 0 ≤ ((ji36) : Int) := of_decide_eq_true (by first | (with_reducible assumption) | assumption); have q42 : (ji36) < (a0.size : Int) := of_decide_eq_true (by first | (with_reducible assumption) | assumption); have hx42 := bt_at a0 (ji36); replace p42 := eq_true p42; replace q42 := eq_true q42) | (go_at_call 76; (with_reducible refine (lexis_digit.calls (bt a0 (ji36)) t389 _ A43.out).mono ?_); rintro e w' ⟨rfl, ⟨nd, rfl⟩⟩; (try first | exact ⟨rfl, _, World.drewN_drewN _ _ _⟩ | exact ⟨rfl, _, Eq.trans (World.drewN_drewN _ _ _) (congrArg (World.drewN _) (Nat.add_assoc _ _ _))⟩)))
                                      repeat (go_quiet (first | (go_at_call 49; (with_reducible refine (lexis_letter.calls (bt a0 (ji36)) false _ A40.out).mono ?_); rintro e w' ⟨rfl, ⟨nd, rfl⟩⟩; (try first | exact ⟨rfl, _, World.drewN_drewN _ _ _⟩ | exact ⟨rfl, _, Eq.trans (World.drewN_drewN _ _ _) (congrArg (World.drewN _) (Nat.add_assoc _ _ _))⟩); have p42 : 0 ≤ ((ji36) : Int) := of_decide_eq_true (by first | (with_reducible assumption) | assumption); have q42 : (ji36) < (a0.size : Int) := of_decide_eq_true (by first | (with_reducible assumption) | assumption); have hx42 := bt_at a0 (ji36); replace p42 := eq_true p42; replace q42 := eq_true q42) | (go_at_call 76; (with_reducible refine (lexis_digit.calls (bt a0 (ji36)) t389 _ A43.out).mono ?_); rintro e w' ⟨rfl, ⟨nd, rfl⟩⟩; (try first | exact ⟨rfl, _, World.drewN_drewN _ _ _⟩ | exact ⟨rfl, _, Eq.trans (World.drewN_drewN _ _ _) (congrArg (World.drewN _) (Nat.add_assoc _ _ _))⟩))); try go_wp2_with (first | (go_at_call 49; (with_reducible refine (lexis_letter.calls (bt a0 (ji36)) false _ A40.out).mono ?_); rintro e w' ⟨rfl, ⟨nd, rfl⟩⟩; (try first | exact ⟨rfl, _, World.drewN_drewN _ _ _⟩ | exact ⟨rfl, _, Eq.trans (World.drewN_drewN _ _ _) (congrArg (World.drewN _) (Nat.add_assoc _ _ _))⟩); have p42 : 0 ≤ ((ji36) : Int) := of_decide_eq_true (by first | (with_reducible assumption) | assumption); have q42 : (ji36) < (a0.size : Int) := of_decide_eq_true (by first | (with_reducible assumption) | assumption); have hx42 := bt_at a0 (ji36); replace p42 := eq_true p42; replace q42 := eq_true q42) | (go_at_call 76; (with_reducible refine (lexis_digit.calls (bt a0 (ji36)) t389 _ A43.out).mono ?_); rintro e w' ⟨rfl, ⟨nd, rfl⟩⟩; (try first | exact ⟨rfl, _, World.drewN_drewN _ _ _⟩ | exact ⟨rfl, _, Eq.trans (World.drewN_drewN _ _ _) (congrArg (World.drewN _) (Nat.add_assoc _ _ _))⟩))))
                                      (try subst hji36)
                                      (try subst hji31)
                                      go_meet
                                      case rel => exact ⟨_, (!t389), (by first | rfl | (simp; done) | (simp [*]; done)), H', ⟨by have := HK1.out; have := HJ4.out; first | omega | exact Nat.le_refl _⟩, ⟨by (with_reducible repeat (first | refine Q12 ?_ _ | refine Q24 ?_ | refine Q17 ?_ _)); refine blk_far11 ?_ NB351_387.out; (with_reducible repeat (first | refine Q12 ?_ _ | refine Q24 ?_ | refine Q17 ?_ _)); exact BK351.out⟩, ⟨by (with_reducible repeat (first | refine Q12 ?_ _ | refine Q24 ?_ | refine Q17 ?_ _)); refine blk_far11 ?_ NB352_387.out; (with_reducible repeat (first | refine Q12 ?_ _ | refine Q24 ?_ | refine Q17 ?_ _)); exact BK352.out⟩, ⟨by (with_reducible repeat (first | refine Q12 ?_ _ | refine Q24 ?_ | refine Q17 ?_ _)); apply blk_put11; (with_reducible repeat (first | refine Q12 ?_ _ | refine Q24 ?_ | refine Q17 ?_ _)); exact BK387.out⟩, ⟨by repeat (first | (with_reducible first | exact HB.out | apply Q19 | apply Q8 | apply Q23 | refine Q26 ?_ GE351.out | refine Q26 ?_ GE352.out | refine Q26 ?_ GE387.out) | exact HB.out)⟩⟩
                                  · rw [if_neg c38] at H
                                    exact absurd H (by simp)
                                · rw [if_neg c37] at H
                                  exact absurd H (by simp)
                            · rw [if_neg c34] at H
                              have c34b0 : ((bt a0 (ji31)) == 105) = false := beq_eq_false_iff_ne.mpr c34
                              have c34b1 : ((bt a0 (ji31)) != 105) = true := bne_iff_ne.mpr c34
                              have H' := Aside0.mk H
                              clear H
                              have p33 : 0 ≤ ((ji31) : Int) := of_decide_eq_true (by first | (with_reducible assumption) | assumption)
                              have q33 : (ji31) < (a0.size : Int) := of_decide_eq_true (by first | (with_reducible assumption) | assumption)
                              have hx33 := bt_at a0 (ji31)
                              replace p33 := eq_true p33
                              replace q33 := eq_true q33
                              go_wp2
                              repeat (go_quiet (fail); try go_wp2)
                              (try subst hji31)
                              go_meet
                              case rel => exact ⟨_, (false), (by first | rfl | (simp; done) | (simp [*]; done)), H', ⟨by have := HK1.out; have := HJ4.out; first | omega | exact Nat.le_refl _⟩, ⟨by (with_reducible repeat (first | refine Q12 ?_ _ | refine Q24 ?_ | refine Q17 ?_ _)); refine blk_far11 ?_ NB351_387.out; (with_reducible repeat (first | refine Q12 ?_ _ | refine Q24 ?_ | refine Q17 ?_ _)); exact BK351.out⟩, ⟨by (with_reducible repeat (first | refine Q12 ?_ _ | refine Q24 ?_ | refine Q17 ?_ _)); refine blk_far11 ?_ NB352_387.out; (with_reducible repeat (first | refine Q12 ?_ _ | refine Q24 ?_ | refine Q17 ?_ _)); exact BK352.out⟩, ⟨by (with_reducible repeat (first | refine Q12 ?_ _ | refine Q24 ?_ | refine Q17 ?_ _)); apply blk_put11; (with_reducible repeat (first | refine Q12 ?_ _ | refine Q24 ?_ | refine Q17 ?_ _)); exact BK387.out⟩, ⟨by repeat (first | (with_reducible first | exact HB.out | apply Q19 | apply Q8 | apply Q23 | refine Q26 ?_ GE351.out | refine Q26 ?_ GE352.out | refine Q26 ?_ GE387.out) | exact HB.out)⟩⟩
                          · rw [if_neg c32] at H
                            exact absurd H (by simp)
                        · rw [if_neg c30] at H
                          have c30b0 : decide ((wrap64 (x7_1 + 1)) < (a0.size : Int)) = false := decide_eq_false c30
                          clear c30
                          (first | rw [c30b0] | (simp only [i64_w, i32_w]; rw [c30b0]) | skip)
                          have H' := Aside0.mk H
                          clear H
                          go_wp2
                          repeat (go_quiet (fail); try go_wp2)
                          go_meet
                          case rel => exact ⟨_, (false), (by first | rfl | (simp; done) | (simp [*]; done)), H', ⟨by have := HK1.out; have := HJ4.out; first | omega | exact Nat.le_refl _⟩, ⟨by (with_reducible repeat (first | refine Q12 ?_ _ | refine Q24 ?_ | refine Q17 ?_ _)); refine blk_far11 ?_ NB351_387.out; (with_reducible repeat (first | refine Q12 ?_ _ | refine Q24 ?_ | refine Q17 ?_ _)); exact BK351.out⟩, ⟨by (with_reducible repeat (first | refine Q12 ?_ _ | refine Q24 ?_ | refine Q17 ?_ _)); refine blk_far11 ?_ NB352_387.out; (with_reducible repeat (first | refine Q12 ?_ _ | refine Q24 ?_ | refine Q17 ?_ _)); exact BK352.out⟩, ⟨by (with_reducible repeat (first | refine Q12 ?_ _ | refine Q24 ?_ | refine Q17 ?_ _)); apply blk_put11; (with_reducible repeat (first | refine Q12 ?_ _ | refine Q24 ?_ | refine Q17 ?_ _)); exact BK387.out⟩, ⟨by repeat (first | (with_reducible first | exact HB.out | apply Q19 | apply Q8 | apply Q23 | refine Q26 ?_ GE351.out | refine Q26 ?_ GE352.out | refine Q26 ?_ GE387.out) | exact HB.out)⟩⟩
                      case rest =>
                        clear HC23
                        try clear c1
                        try clear p1
                        try clear q1
                        try clear hx1
                        try clear c2
                        try clear p2
                        try clear q2
                        try clear hx2
                        try clear hcv2
                        try clear c3
                        try clear p3
                        try clear q3
                        try clear hx3
                        try clear c4
                        try clear p4
                        try clear q4
                        try clear hx4
                        try clear c5
                        try clear c6
                        try clear c6b0
                        try clear p6
                        try clear c7
                        try clear c7b0
                        try clear c8
                        try clear c8b0
                        try clear p9
                        try clear q9
                        try clear hx9
                        try clear c10
                        try clear c13
                        try clear c16
                        try clear c16b0
                        try clear c17
                        try clear c17b0
                        try clear p18
                        try clear q18
                        try clear hx18
                        try clear c19
                        try clear c19b0
                        try clear c20
                        try clear c20b0
                        try clear p21
                        try clear q21
                        try clear hx21
                        try clear c22
                        try clear c22b0
                        try clear c22b1
                        try clear hcv24
                        try clear c27
                        try clear c28
                        try clear c30
                        try clear c30b0
                        try clear c32
                        try clear c32b0
                        try clear p33
                        try clear q33
                        try clear hx33
                        try clear c34
                        try clear c34b0
                        try clear c34b1
                        try clear c35
                        try clear c35b0
                        try clear c37
                        try clear c37b0
                        try clear c38
                        try clear c38b0
                        try clear p39
                        try clear q39
                        try clear hx39
                        try clear c41
                        try clear p42
                        try clear q42
                        try clear hx42
                        try clear hcz14_0
                        try clear hcz14_1
                        try clear hcz14_10
                        try clear hcz14_2
                        try clear hcz14_3
                        try clear hcz14_4
                        try clear hcz14_5
                        try clear hcz14_6
                        try clear hcz14_7
                        try clear hcz14_8
                        try clear hcz14_9
                        try clear hcz15_0
                        try clear hcz15_1
                        try clear hcz29_0
                        try clear hcz29_1
                        try clear hcz29_10
                        try clear hcz29_2
                        try clear hcz29_3
                        try clear hcz29_4
                        try clear hcz29_5
                        try clear hcz29_6
                        try clear hcz29_7
                        try clear hcz29_8
                        try clear hcz29_9
                        try clear hfz14_0
                        try clear hfz14_1
                        try clear hfz14_10
                        try clear hfz14_2
                        try clear hfz14_3
                        try clear hfz14_4
                        try clear hfz14_5
                        try clear hfz14_6
                        try clear hfz14_7
                        try clear hfz14_8
                        try clear hfz14_9
                        try clear hfz15_0
                        try clear hfz15_1
                        try clear hfz29_0
                        try clear hfz29_1
                        try clear hfz29_10
                        try clear hfz29_2
                        try clear hfz29_3
                        try clear hfz29_4
                        try clear hfz29_5
                        try clear hfz29_6
                        try clear hfz29_7
                        try clear hfz29_8
                        try clear hfz29_9
                        try clear p18
                        try clear p2
                        try clear p21
                        try clear p33
                        try clear p39
                        try clear p42
                        try clear p6
                        try clear p9
                        try clear q18
                        try clear q21
                        try clear q33
                        try clear q39
                        try clear q42
                        try clear q9
                        obtain ⟨kq, x108_22, rfl, HA, HJ22, BK351, BK352, BK387, HB⟩ := hcut
                        cases kq with
                        | zero => exact absurd HA.out (by simp [lexis_literal.j2])
                        | succ kj22 =>
                          have H := HA.out
                          clear HA
                          simp only [lexis_literal.j2] at H
                          by_cases c44 : x108_22 = true
                          · subst c44
                            have H1 : (some (14, a1, wrap64 ((wrap64 (x7_1 + 1)) + 1), (strOfNums x6_1), true, 0, 0, 0, 0, 0, 0, 0, 0)) = some (r1, r2, r3, r4, r5, r6, r7, r8, r9, r10, r11, r12, r13) := by rw [if_pos rfl] at H; exact H
                            clear H
                            have H := H1
                            clear H1
                            simp only [Option.some.injEq, Prod.mk.injEq] at H
                            obtain ⟨rfl, rfl, rfl, rfl, rfl, rfl, rfl, rfl, rfl, rfl, rfl, rfl, rfl⟩ := H
                            have hnb45 := NB387_351.out
                            have hnc45 := NB351_387.out
                            have hnb46 := NB387_352.out
                            have hnc46 := NB352_387.out
                            have hcz47_0 : wc.cell? ⟨gb387, 0, none⟩ = some (.int .i64 14) := (Q32 BK387.out 0).trans rfl
                            have hcz47_1 : wc.cell? ⟨gb387, 1, none⟩ = some (.int .i64 a1) := (Q32 BK387.out 1).trans rfl
                            have hcz47_2 : wc.cell? ⟨gb387, 2, none⟩ = some (.int .i64 (wrap64 (x7_1 + 1))) := (Q32 BK387.out 2).trans rfl
                            have hcz47_3 : wc.cell? ⟨gb387, 3, none⟩ = some (.string (strOfNums x6_1)) := (Q32 BK387.out 3).trans rfl
                            have hcz47_4 : wc.cell? ⟨gb387, 4, none⟩ = some (.bool false) := (Q32 BK387.out 4).trans rfl
                            have hcz47_5 : wc.cell? ⟨gb387, 5, none⟩ = some (.int .u64 0) := (Q32 BK387.out 5).trans rfl
                            have hcz47_6 : wc.cell? ⟨gb387, 6, none⟩ = some (.int .u64 0) := (Q32 BK387.out 6).trans rfl
                            have hcz47_7 : wc.cell? ⟨gb387, 7, none⟩ = some (.int .u64 0) := (Q32 BK387.out 7).trans rfl
                            have hcz47_8 : wc.cell? ⟨gb387, 8, none⟩ = some (.int .u64 0) := (Q32 BK387.out 8).trans rfl
                            have hcz47_9 : wc.cell? ⟨gb387, 9, none⟩ = some (.int .i64 0) := (Q32 BK387.out 9).trans rfl
                            have hcz47_10 : wc.cell? ⟨gb387, 10, none⟩ = some (.int .i64 0) := (Q32 BK387.out 10).trans rfl
                            have hfz47_0 := Q28 BK387.out 0
                            have hfz47_1 := Q28 BK387.out 1
                            have hfz47_2 := Q28 BK387.out 2
                            have hfz47_3 := Q28 BK387.out 3
                            have hfz47_4 := Q28 BK387.out 4
                            have hfz47_5 := Q28 BK387.out 5
                            have hfz47_6 := Q28 BK387.out 6
                            have hfz47_7 := Q28 BK387.out 7
                            have hfz47_8 := Q28 BK387.out 8
                            have hfz47_9 := Q28 BK387.out 9
                            have hfz47_10 := Q28 BK387.out 10
                            have hnb48 := NB351_352.out
                            have hnc48 := NB352_351.out
                            have hcz49_0 : wc.cell? ⟨gb351, 0, none⟩ = some (.int .i64 x352000_1) := (Q32 BK351.out 0).trans rfl
                            have hcz49_1 : wc.cell? ⟨gb351, 1, none⟩ = some (.int .i64 x352001_1) := (Q32 BK351.out 1).trans rfl
                            have hcz49_2 : wc.cell? ⟨gb351, 2, none⟩ = some (.int .i64 x352002_1) := (Q32 BK351.out 2).trans rfl
                            have hcz49_3 : wc.cell? ⟨gb351, 3, none⟩ = some (.string x352003_1) := (Q32 BK351.out 3).trans rfl
                            have hcz49_4 : wc.cell? ⟨gb351, 4, none⟩ = some (.bool x352004_1) := (Q32 BK351.out 4).trans rfl
                            have hcz49_5 : wc.cell? ⟨gb351, 5, none⟩ = some (.int .u64 x352005_1) := (Q32 BK351.out 5).trans rfl
                            have hcz49_6 : wc.cell? ⟨gb351, 6, none⟩ = some (.int .u64 x352006_1) := (Q32 BK351.out 6).trans rfl
                            have hcz49_7 : wc.cell? ⟨gb351, 7, none⟩ = some (.int .u64 x352007_1) := (Q32 BK351.out 7).trans rfl
                            have hcz49_8 : wc.cell? ⟨gb351, 8, none⟩ = some (.int .u64 x352008_1) := (Q32 BK351.out 8).trans rfl
                            have hcz49_9 : wc.cell? ⟨gb351, 9, none⟩ = some (.int .i64 x352009_1) := (Q32 BK351.out 9).trans rfl
                            have hcz49_10 : wc.cell? ⟨gb351, 10, none⟩ = some (.int .i64 x352010_1) := (Q32 BK351.out 10).trans rfl
                            have hfz49_0 := Q28 BK351.out 0
                            have hfz49_1 := Q28 BK351.out 1
                            have hfz49_2 := Q28 BK351.out 2
                            have hfz49_3 := Q28 BK351.out 3
                            have hfz49_4 := Q28 BK351.out 4
                            have hfz49_5 := Q28 BK351.out 5
                            have hfz49_6 := Q28 BK351.out 6
                            have hfz49_7 := Q28 BK351.out 7
                            have hfz49_8 := Q28 BK351.out 8
                            have hfz49_9 := Q28 BK351.out 9
                            have hfz49_10 := Q28 BK351.out 10
                            have hcz50_0 : wc.cell? ⟨gb352, 0, none⟩ = some (.int .i64 x353000_1) := (Q32 BK352.out 0).trans rfl
                            have hcz50_1 : wc.cell? ⟨gb352, 1, none⟩ = some (.int .i64 x353001_1) := (Q32 BK352.out 1).trans rfl
                            have hfz50_0 := Q28 BK352.out 0
                            have hfz50_1 := Q28 BK352.out 1
                            go_wp2
                            repeat (go_quiet (fail); try go_wp2)
                            (try rw [Exit.noGoto_ret])
                            refine bodyPost_ret (results_cc rfl _ _ gb351 gb352 26 41 #[.int .i64 14, .int .i64 a1, .int .i64 (wrap64 ((wrap64 (x7_1 + 1)) + 1)), .string (strOfNums x6_1), .bool true, .int .u64 0, .int .u64 0, .int .u64 0, .int .u64 0, .int .i64 0, .int .i64 0] #[.int .i64 0, .int .i64 0] (0, 0) (0, 0) _ _ rfl (by (with_reducible repeat (first | refine Q12 ?_ _ | refine Q24 ?_ | refine Q17 ?_ _)); refine blk_far2 ?_ NB351_352.out; (with_reducible repeat (first | refine Q12 ?_ _ | refine Q24 ?_ | refine Q17 ?_ _)); apply blk_put11; (with_reducible repeat (first | refine Q12 ?_ _ | refine Q24 ?_ | refine Q17 ?_ _)); refine blk_far ?_ NB351_387.out _; (with_reducible repeat (first | refine Q12 ?_ _ | refine Q24 ?_ | refine Q17 ?_ _)); refine blk_far ?_ NB351_387.out _; (with_reducible repeat (first | refine Q12 ?_ _ | refine Q24 ?_ | refine Q17 ?_ _)); exact BK351.out) Tryd.underlying26 rfl (by kernel_rfl) rfl (by (with_reducible repeat (first | refine Q12 ?_ _ | refine Q24 ?_ | refine Q17 ?_ _)); apply blk_put2; (with_reducible repeat (first | refine Q12 ?_ _ | refine Q24 ?_ | refine Q17 ?_ _)); refine blk_far11 ?_ NB352_351.out; (with_reducible repeat (first | refine Q12 ?_ _ | refine Q24 ?_ | refine Q17 ?_ _)); refine blk_far ?_ NB352_387.out _; (with_reducible repeat (first | refine Q12 ?_ _ | refine Q24 ?_ | refine Q17 ?_ _)); refine blk_far ?_ NB352_387.out _; (with_reducible repeat (first | refine Q12 ?_ _ | refine Q24 ?_ | refine Q17 ?_ _)); exact BK352.out) Tryd.underlying41 rfl (by kernel_rfl)) rfl ?_
                            exact ⟨by first | rfl | (simp [Q37, Q35] <;> rfl) | (simp [*, Q37, Q35] <;> rfl), by repeat (first | (with_reducible first | exact HB.out | apply Q19 | apply Q8 | apply Q23 | refine Q26 ?_ GE351.out | refine Q26 ?_ GE352.out | refine Q26 ?_ GE387.out) | exact HB.out)⟩
                          · replace c44 := Bool.eq_false_iff.mpr c44
                            subst c44
                            have H1 : (some (14, a1, (wrap64 (x7_1 + 1)), (strOfNums x6_1), false, 0, 0, 0, 0, 0, 0, 0, 0)) = some (r1, r2, r3, r4, r5, r6, r7, r8, r9, r10, r11, r12, r13) := by rw [if_neg (show ¬ (false = true) by decide)] at H; exact H
                            clear H
                            have H := H1
                            clear H1
                            simp only [Option.some.injEq, Prod.mk.injEq] at H
                            obtain ⟨rfl, rfl, rfl, rfl, rfl, rfl, rfl, rfl, rfl, rfl, rfl, rfl, rfl⟩ := H
                            have hnb51 := NB387_351.out
                            have hnc51 := NB351_387.out
                            have hnb52 := NB387_352.out
                            have hnc52 := NB352_387.out
                            have hcz53_0 : wc.cell? ⟨gb387, 0, none⟩ = some (.int .i64 14) := (Q32 BK387.out 0).trans rfl
                            have hcz53_1 : wc.cell? ⟨gb387, 1, none⟩ = some (.int .i64 a1) := (Q32 BK387.out 1).trans rfl
                            have hcz53_2 : wc.cell? ⟨gb387, 2, none⟩ = some (.int .i64 (wrap64 (x7_1 + 1))) := (Q32 BK387.out 2).trans rfl
                            have hcz53_3 : wc.cell? ⟨gb387, 3, none⟩ = some (.string (strOfNums x6_1)) := (Q32 BK387.out 3).trans rfl
                            have hcz53_4 : wc.cell? ⟨gb387, 4, none⟩ = some (.bool false) := (Q32 BK387.out 4).trans rfl
                            have hcz53_5 : wc.cell? ⟨gb387, 5, none⟩ = some (.int .u64 0) := (Q32 BK387.out 5).trans rfl
                            have hcz53_6 : wc.cell? ⟨gb387, 6, none⟩ = some (.int .u64 0) := (Q32 BK387.out 6).trans rfl
                            have hcz53_7 : wc.cell? ⟨gb387, 7, none⟩ = some (.int .u64 0) := (Q32 BK387.out 7).trans rfl
                            have hcz53_8 : wc.cell? ⟨gb387, 8, none⟩ = some (.int .u64 0) := (Q32 BK387.out 8).trans rfl
                            have hcz53_9 : wc.cell? ⟨gb387, 9, none⟩ = some (.int .i64 0) := (Q32 BK387.out 9).trans rfl
                            have hcz53_10 : wc.cell? ⟨gb387, 10, none⟩ = some (.int .i64 0) := (Q32 BK387.out 10).trans rfl
                            have hfz53_0 := Q28 BK387.out 0
                            have hfz53_1 := Q28 BK387.out 1
                            have hfz53_2 := Q28 BK387.out 2
                            have hfz53_3 := Q28 BK387.out 3
                            have hfz53_4 := Q28 BK387.out 4
                            have hfz53_5 := Q28 BK387.out 5
                            have hfz53_6 := Q28 BK387.out 6
                            have hfz53_7 := Q28 BK387.out 7
                            have hfz53_8 := Q28 BK387.out 8
                            have hfz53_9 := Q28 BK387.out 9
                            have hfz53_10 := Q28 BK387.out 10
                            have hnb54 := NB351_352.out
                            have hnc54 := NB352_351.out
                            have hcz55_0 : wc.cell? ⟨gb351, 0, none⟩ = some (.int .i64 x352000_1) := (Q32 BK351.out 0).trans rfl
                            have hcz55_1 : wc.cell? ⟨gb351, 1, none⟩ = some (.int .i64 x352001_1) := (Q32 BK351.out 1).trans rfl
                            have hcz55_2 : wc.cell? ⟨gb351, 2, none⟩ = some (.int .i64 x352002_1) := (Q32 BK351.out 2).trans rfl
                            have hcz55_3 : wc.cell? ⟨gb351, 3, none⟩ = some (.string x352003_1) := (Q32 BK351.out 3).trans rfl
                            have hcz55_4 : wc.cell? ⟨gb351, 4, none⟩ = some (.bool x352004_1) := (Q32 BK351.out 4).trans rfl
                            have hcz55_5 : wc.cell? ⟨gb351, 5, none⟩ = some (.int .u64 x352005_1) := (Q32 BK351.out 5).trans rfl
                            have hcz55_6 : wc.cell? ⟨gb351, 6, none⟩ = some (.int .u64 x352006_1) := (Q32 BK351.out 6).trans rfl
                            have hcz55_7 : wc.cell? ⟨gb351, 7, none⟩ = some (.int .u64 x352007_1) := (Q32 BK351.out 7).trans rfl
                            have hcz55_8 : wc.cell? ⟨gb351, 8, none⟩ = some (.int .u64 x352008_1) := (Q32 BK351.out 8).trans rfl
                            have hcz55_9 : wc.cell? ⟨gb351, 9, none⟩ = some (.int .i64 x352009_1) := (Q32 BK351.out 9).trans rfl
                            have hcz55_10 : wc.cell? ⟨gb351, 10, none⟩ = some (.int .i64 x352010_1) := (Q32 BK351.out 10).trans rfl
                            have hfz55_0 := Q28 BK351.out 0
                            have hfz55_1 := Q28 BK351.out 1
                            have hfz55_2 := Q28 BK351.out 2
                            have hfz55_3 := Q28 BK351.out 3
                            have hfz55_4 := Q28 BK351.out 4
                            have hfz55_5 := Q28 BK351.out 5
                            have hfz55_6 := Q28 BK351.out 6
                            have hfz55_7 := Q28 BK351.out 7
                            have hfz55_8 := Q28 BK351.out 8
                            have hfz55_9 := Q28 BK351.out 9
                            have hfz55_10 := Q28 BK351.out 10
                            have hcz56_0 : wc.cell? ⟨gb352, 0, none⟩ = some (.int .i64 x353000_1) := (Q32 BK352.out 0).trans rfl
                            have hcz56_1 : wc.cell? ⟨gb352, 1, none⟩ = some (.int .i64 x353001_1) := (Q32 BK352.out 1).trans rfl
                            have hfz56_0 := Q28 BK352.out 0
                            have hfz56_1 := Q28 BK352.out 1
                            go_wp2
                            repeat (go_quiet (fail); try go_wp2)
                            (try rw [Exit.noGoto_ret])
                            refine bodyPost_ret (results_cc rfl _ _ gb351 gb352 26 41 #[.int .i64 14, .int .i64 a1, .int .i64 (wrap64 (x7_1 + 1)), .string (strOfNums x6_1), .bool false, .int .u64 0, .int .u64 0, .int .u64 0, .int .u64 0, .int .i64 0, .int .i64 0] #[.int .i64 0, .int .i64 0] (0, 0) (0, 0) _ _ rfl (by (with_reducible repeat (first | refine Q12 ?_ _ | refine Q24 ?_ | refine Q17 ?_ _)); refine blk_far2 ?_ NB351_352.out; (with_reducible repeat (first | refine Q12 ?_ _ | refine Q24 ?_ | refine Q17 ?_ _)); apply blk_put11; (with_reducible repeat (first | refine Q12 ?_ _ | refine Q24 ?_ | refine Q17 ?_ _)); exact BK351.out) Tryd.underlying26 rfl (by kernel_rfl) rfl (by (with_reducible repeat (first | refine Q12 ?_ _ | refine Q24 ?_ | refine Q17 ?_ _)); apply blk_put2; (with_reducible repeat (first | refine Q12 ?_ _ | refine Q24 ?_ | refine Q17 ?_ _)); refine blk_far11 ?_ NB352_351.out; (with_reducible repeat (first | refine Q12 ?_ _ | refine Q24 ?_ | refine Q17 ?_ _)); exact BK352.out) Tryd.underlying41 rfl (by kernel_rfl)) rfl ?_
                            exact ⟨by first | rfl | (simp [Q37, Q35] <;> rfl) | (simp [*, Q37, Q35] <;> rfl), by repeat (first | (with_reducible first | exact HB.out | apply Q19 | apply Q8 | apply Q23 | refine Q26 ?_ GE351.out | refine Q26 ?_ GE352.out | refine Q26 ?_ GE387.out) | exact HB.out)⟩
                    · rw [if_neg c22] at H
                      have c22b0 : ((bt a0 x7_1) == (bt a0 a1)) = false := beq_eq_false_iff_ne.mpr c22
                      have c22b1 : ((bt a0 x7_1) != (bt a0 a1)) = true := bne_iff_ne.mpr c22
                      by_cases c58 : (bt a0 x7_1) = 92
                      · rw [if_pos c58] at H
                        have c58b0 : ((bt a0 x7_1) == 92) = true := beq_iff_eq.mpr c58
                        have c58b1 : ((bt a0 x7_1) != 92) = false := bne_eq_false_iff_eq.mpr c58
                        clear c58
                        replace H := Option.bind_eq_some_iff.mp H
                        obtain ⟨⟨t366, t367⟩, A590, H⟩ := H
                        replace H : (if t367 = 0 then ((lexis_fault.f x7_1 42).bind fun bt368 => (some (bt368.1, bt368.2.1, bt368.2.2.1, bt368.2.2.2.1, bt368.2.2.2.2.1, bt368.2.2.2.2.2.1, bt368.2.2.2.2.2.2.1, bt368.2.2.2.2.2.2.2.1, bt368.2.2.2.2.2.2.2.2.1, bt368.2.2.2.2.2.2.2.2.2.1, bt368.2.2.2.2.2.2.2.2.2.2.1, bt368.2.2.2.2.2.2.2.2.2.2.2.1, bt368.2.2.2.2.2.2.2.2.2.2.2.2))) else (if x6_1.length < 140737488355328 then (lexis_literal.l0 kj4 a0 a1 (x6_1 ++ [t366]) (wrap64 (x7_1 + t367))) else (none))) = some (r1, r2, r3, r4, r5, r6, r7, r8, r9, r10, r11, r12, r13) := H
                        have A59 := Aside0.mk A590
                        clear A590
                        by_cases c60 : t367 = 0
                        · rw [if_pos c60] at H
                          have c60b0 : (t367 == 0) = true := beq_iff_eq.mpr c60
                          have c60b1 : (t367 != 0) = false := bne_eq_false_iff_eq.mpr c60
                          clear c60
                          replace H := Option.bind_eq_some_iff.mp H
                          obtain ⟨⟨t368, t369, t370, t371, t372, t373, t374, t375, t376, t377, t378, t379, t380⟩, A610, H⟩ := H
                          replace H : (some (t368, t369, t370, t371, t372, t373, t374, t375, t376, t377, t378, t379, t380)) = some (r1, r2, r3, r4, r5, r6, r7, r8, r9, r10, r11, r12, r13) := H
                          have A61 := Aside0.mk A610
                          clear A610
                          simp only [Option.some.injEq, Prod.mk.injEq] at H
                          obtain ⟨rfl, rfl, rfl, rfl, rfl, rfl, rfl, rfl, rfl, rfl, rfl, rfl, rfl⟩ := H
                          have p18 : 0 ≤ (x7_1 : Int) := of_decide_eq_true (by first | (with_reducible assumption) | assumption)
                          have q18 : x7_1 < (a0.size : Int) := of_decide_eq_true (by first | (with_reducible assumption) | assumption)
                          have hx18 := bt_at a0 x7_1
                          replace p18 := eq_true p18
                          replace q18 := eq_true q18
                          have p21 : 0 ≤ (a1 : Int) := of_decide_eq_true (by first | (with_reducible assumption) | assumption)
                          have q21 : a1 < (a0.size : Int) := of_decide_eq_true (by first | (with_reducible assumption) | assumption)
                          have hx21 := bt_at a0 a1
                          replace p21 := eq_true p21
                          replace q21 := eq_true q21
                          have p57 : 0 ≤ (x7_1 : Int) := of_decide_eq_true (by first | (with_reducible assumption) | assumption)
                          have q57 : x7_1 < (a0.size : Int) := of_decide_eq_true (by first | (with_reducible assumption) | assumption)
                          have hx57 := bt_at a0 x7_1
                          replace p57 := eq_true p57
                          replace q57 := eq_true q57
                          go_wp2_with (first | (go_at_call 75; (with_reducible refine (lexis_escape.calls kj4 a0 x7_1 t366 t367 _ A59.out).mono ?_); rintro e w' ⟨rfl, ⟨nd, rfl⟩⟩; (try first | exact ⟨rfl, _, World.drewN_drewN _ _ _⟩ | exact ⟨rfl, _, Eq.trans (World.drewN_drewN _ _ _) (congrArg (World.drewN _) (Nat.add_assoc _ _ _))⟩)) | (go_at_call 56; (with_reducible refine (lexis_fault.calls x7_1 42 t368 t369 t370 t371 t372 t373 t374 t375 t376 t377 t378 t379 t380 _ A61.out).mono ?_); rintro e w62 ⟨rfl, hb⟩; have n0_ := Aside0.mk (Kd.R_below (by (with_reducible repeat (first | apply Kd.R_alloc | apply Kd.R_drewN | apply Kd.R_drew)); exact HO_6.out) hb); have n1_ := Aside0.mk (Q38 (g := gb351) (o := .cells #[.int .i64 x352000_1, .int .i64 x352001_1, .int .i64 x352002_1, .string x352003_1, .bool x352004_1, .int .u64 x352005_1, .int .u64 x352006_1, .int .u64 x352007_1, .int .u64 x352008_1, .int .i64 x352009_1, .int .i64 x352010_1] 26 (0, 0)) (by (with_reducible repeat (first | refine Q12 ?_ _ | refine Q24 ?_ | refine Q17 ?_ _)); exact BK351.out) hb); have n2_ := Aside0.mk (Q38 (g := gb352) (o := .cells #[.int .i64 x353000_1, .int .i64 x353001_1] 41 (0, 0)) (by (with_reducible repeat (first | refine Q12 ?_ _ | refine Q24 ?_ | refine Q17 ?_ _)); exact BK352.out) hb); have n3_ := Aside0.mk (Q34 (by repeat (first | (with_reducible first | exact HB.out | apply Q19 | apply Q8 | apply Q23 | refine Q26 ?_ GE351.out | refine Q26 ?_ GE352.out) | exact HB.out)) hb); clear HO_6; clear BK351; clear BK352; clear HB; have HO_6 := n0_; have BK351 := n1_; have BK352 := n2_; have HB := n3_; clear n0_ n1_ n2_ n3_; (try clear hb); (try clear hb2); (try clear hk); (try clear hi); have hnb63 := NB351_352.out; have hnc63 := NB352_351.out; obtain ⟨hcz64_0, hcz64_1, hcz64_2, hcz64_3, hcz64_4, hcz64_5, hcz64_6, hcz64_7, hcz64_8, hcz64_9, hcz64_10, hfz64_0, hfz64_1, hfz64_2, hfz64_3, hfz64_4, hfz64_5, hfz64_6, hfz64_7, hfz64_8, hfz64_9, hfz64_10⟩ := Q41 BK351.out; obtain ⟨hcz65_0, hcz65_1, hfz65_0, hfz65_1⟩ := blk_cells2 BK352.out))
                          repeat (go_quiet (first | (go_at_call 75; (with_reducible refine (lexis_escape.calls kj4 a0 x7_1 t366 t367 _ A59.out).mono ?_); rintro e w' ⟨rfl, ⟨nd, rfl⟩⟩; (try first | exact ⟨rfl, _, World.drewN_drewN _ _ _⟩ | exact ⟨rfl, _, Eq.trans (World.drewN_drewN _ _ _) (congrArg (World.drewN _) (Nat.add_assoc _ _ _))⟩)) | (go_at_call 56; (with_reducible refine (lexis_fault.calls x7_1 42 t368 t369 t370 t371 t372 t373 t374 t375 t376 t377 t378 t379 t380 _ A61.out).mono ?_); rintro e w62 ⟨rfl, hb⟩; have n0_ := Aside0.mk (Kd.R_below (by (with_reducible repeat (first | apply Kd.R_alloc | apply Kd.R_drewN | apply Kd.R_drew)); exact HO_6.out) hb); have n1_ := Aside0.mk (Q38 (g := gb351) (o := .cells #[.int .i64 x352000_1, .int .i64 x352001_1, .int .i64 x352002_1, .string x352003_1, .bool x352004_1, .int .u64 x352005_1, .int .u64 x352006_1, .int .u64 x352007_1, .int .u64 x352008_1, .int .i64 x352009_1, .int .i64 x352010_1] 26 (0, 0)) (by (with_reducible repeat (first | refine Q12 ?_ _ | refine Q24 ?_ | refine Q17 ?_ _)); exact BK351.out) hb); have n2_ := Aside0.mk (Q38 (g := gb352) (o := .cells #[.int .i64 x353000_1, .int .i64 x353001_1] 41 (0, 0)) (by (with_reducible repeat (first | refine Q12 ?_ _ | refine Q24 ?_ | refine Q17 ?_ _)); exact BK352.out) hb); have n3_ := Aside0.mk (Q34 (by repeat (first | (with_reducible first | exact HB.out | apply Q19 | apply Q8 | apply Q23 | refine Q26 ?_ GE351.out | refine Q26 ?_ GE352.out) | exact HB.out)) hb); clear HO_6; clear BK351; clear BK352; clear HB; have HO_6 := n0_; have BK351 := n1_; have BK352 := n2_; have HB := n3_; clear n0_ n1_ n2_ n3_; (try clear hb); (try clear hb2); (try clear hk); (try clear hi); have hnb63 := NB351_352.out; have hnc63 := NB352_351.out; obtain ⟨hcz64_0, hcz64_1, hcz64_2, hcz64_3, hcz64_4, hcz64_5, hcz64_6, hcz64_7, hcz64_8, hcz64_9, hcz64_10, hfz64_0, hfz64_1, hfz64_2, hfz64_3, hfz64_4, hfz64_5, hfz64_6, hfz64_7, hfz64_8, hfz64_9, hfz64_10⟩ := Q41 BK351.out; obtain ⟨hcz65_0, hcz65_1, hfz65_0, hfz65_1⟩ := blk_cells2 BK352.out)); try go_wp2_with (first | (go_at_call 75; (with_reducible refine (lexis_escape.calls kj4 a0 x7_1 t366 t367 _ A59.out).mono ?_); rintro e w' ⟨rfl, ⟨nd, rfl⟩⟩; (try first | exact ⟨rfl, _, World.drewN_drewN _ _ _⟩ | exact ⟨rfl, _, Eq.trans (World.drewN_drewN _ _ _) (congrArg (World.drewN _) (Nat.add_assoc _ _ _))⟩)) | (go_at_call 56; (with_reducible refine (lexis_fault.calls x7_1 42 t368 t369 t370 t371 t372 t373 t374 t375 t376 t377 t378 t379 t380 _ A61.out).mono ?_); rintro e w62 ⟨rfl, hb⟩; have n0_ := Aside0.mk (Kd.R_below (by (with_reducible repeat (first | apply Kd.R_alloc | apply Kd.R_drewN | apply Kd.R_drew)); exact HO_6.out) hb); have n1_ := Aside0.mk (Q38 (g := gb351) (o := .cells #[.int .i64 x352000_1, .int .i64 x352001_1, .int .i64 x352002_1, .string x352003_1, .bool x352004_1, .int .u64 x352005_1, .int .u64 x352006_1, .int .u64 x352007_1, .int .u64 x352008_1, .int .i64 x352009_1, .int .i64 x352010_1] 26 (0, 0)) (by (with_reducible repeat (first | refine Q12 ?_ _ | refine Q24 ?_ | refine Q17 ?_ _)); exact BK351.out) hb); have n2_ := Aside0.mk (Q38 (g := gb352) (o := .cells #[.int .i64 x353000_1, .int .i64 x353001_1] 41 (0, 0)) (by (with_reducible repeat (first | refine Q12 ?_ _ | refine Q24 ?_ | refine Q17 ?_ _)); exact BK352.out) hb); have n3_ := Aside0.mk (Q34 (by repeat (first | (with_reducible first | exact HB.out | apply Q19 | apply Q8 | apply Q23 | refine Q26 ?_ GE351.out | refine Q26 ?_ GE352.out) | exact HB.out)) hb); clear HO_6; clear BK351; clear BK352; clear HB; have HO_6 := n0_; have BK351 := n1_; have BK352 := n2_; have HB := n3_; clear n0_ n1_ n2_ n3_; (try clear hb); (try clear hb2); (try clear hk); (try clear hi); have hnb63 := NB351_352.out; have hnc63 := NB352_351.out; obtain ⟨hcz64_0, hcz64_1, hcz64_2, hcz64_3, hcz64_4, hcz64_5, hcz64_6, hcz64_7, hcz64_8, hcz64_9, hcz64_10, hfz64_0, hfz64_1, hfz64_2, hfz64_3, hfz64_4, hfz64_5, hfz64_6, hfz64_7, hfz64_8, hfz64_9, hfz64_10⟩ := Q41 BK351.out; obtain ⟨hcz65_0, hcz65_1, hfz65_0, hfz65_1⟩ := blk_cells2 BK352.out)))
                          (try rw [Exit.noGoto_ret])
                          refine bodyPost_ret (results_cc rfl _ _ gb351 gb352 26 41 #[.int .i64 t368, .int .i64 t369, .int .i64 t370, .string t371, .bool t372, .int .u64 t373, .int .u64 t374, .int .u64 t375, .int .u64 t376, .int .i64 t377, .int .i64 t378] #[.int .i64 t379, .int .i64 t380] (0, 0) (0, 0) _ _ rfl (by (with_reducible repeat (first | refine Q12 ?_ _ | refine Q24 ?_ | refine Q17 ?_ _)); refine blk_far2 ?_ NB351_352.out; (with_reducible repeat (first | refine Q12 ?_ _ | refine Q24 ?_ | refine Q17 ?_ _)); apply blk_put11; (with_reducible repeat (first | refine Q12 ?_ _ | refine Q24 ?_ | refine Q17 ?_ _)); exact BK351.out) Tryd.underlying26 rfl (by kernel_rfl) rfl (by (with_reducible repeat (first | refine Q12 ?_ _ | refine Q24 ?_ | refine Q17 ?_ _)); apply blk_put2; (with_reducible repeat (first | refine Q12 ?_ _ | refine Q24 ?_ | refine Q17 ?_ _)); refine blk_far11 ?_ NB352_351.out; (with_reducible repeat (first | refine Q12 ?_ _ | refine Q24 ?_ | refine Q17 ?_ _)); exact BK352.out) Tryd.underlying41 rfl (by kernel_rfl)) rfl ?_
                          exact ⟨by first | rfl | (simp [Q37, Q35] <;> rfl) | (simp [*, Q37, Q35] <;> rfl), by repeat (first | (with_reducible first | exact HB.out | apply Q19 | apply Q8 | apply Q23 | refine Q26 ?_ GE351.out | refine Q26 ?_ GE352.out) | exact HB.out)⟩
                        · rw [if_neg c60] at H
                          have c60b0 : (t367 == 0) = false := beq_eq_false_iff_ne.mpr c60
                          have c60b1 : (t367 != 0) = true := bne_iff_ne.mpr c60
                          by_cases c66 : x6_1.length < 140737488355328
                          · rw [if_pos c66] at H
                            have LMc66 := Aside0.mk c66
                            clear c66
                            obtain ⟨y381, hy381⟩ : ∃ y_ : List Int, y_ = (x6_1 ++ [t366]) := ⟨_, rfl⟩
                            replace H : (lexis_literal.l0 kj4 a0 a1 y381 (wrap64 (x7_1 + t367))) = some (r1, r2, r3, r4, r5, r6, r7, r8, r9, r10, r11, r12, r13) := by first | (rw [hy381]; with_reducible exact H) | (have H2_ := (Option.bind_some _ _).symm.trans H; rw [hy381]; with_reducible exact H2_) | (have H2_ := (Option.bind_some _ _).symm.trans H; with_reducible exact H2_) | with_reducible exact H | (rw [hy381]; exact H) | exact H
                            have Ny381 := Aside0.mk hy381
                            clear hy381
                            have H' := Aside0.mk H
                            clear H
                            have p18 : 0 ≤ (x7_1 : Int) := of_decide_eq_true (by first | (with_reducible assumption) | assumption)
                            have q18 : x7_1 < (a0.size : Int) := of_decide_eq_true (by first | (with_reducible assumption) | assumption)
                            have hx18 := bt_at a0 x7_1
                            replace p18 := eq_true p18
                            replace q18 := eq_true q18
                            have p21 : 0 ≤ (a1 : Int) := of_decide_eq_true (by first | (with_reducible assumption) | assumption)
                            have q21 : a1 < (a0.size : Int) := of_decide_eq_true (by first | (with_reducible assumption) | assumption)
                            have hx21 := bt_at a0 a1
                            replace p21 := eq_true p21
                            replace q21 := eq_true q21
                            have p57 : 0 ≤ (x7_1 : Int) := of_decide_eq_true (by first | (with_reducible assumption) | assumption)
                            have q57 : x7_1 < (a0.size : Int) := of_decide_eq_true (by first | (with_reducible assumption) | assumption)
                            have hx57 := bt_at a0 x7_1
                            replace p57 := eq_true p57
                            replace q57 := eq_true q57
                            go_wp2_with (first | (go_at_call 75; (with_reducible refine (lexis_escape.calls kj4 a0 x7_1 t366 t367 _ A59.out).mono ?_); rintro e w' ⟨rfl, ⟨nd, rfl⟩⟩; (try first | exact ⟨rfl, _, World.drewN_drewN _ _ _⟩ | exact ⟨rfl, _, Eq.trans (World.drewN_drewN _ _ _) (congrArg (World.drewN _) (Nat.add_assoc _ _ _))⟩)) | ((with_reducible refine gate_builtin (b := .append) (xs := #[.tmp 62, .tmp 64]) rfl ?_); (try (refine gate_guard (by rfl) ?_; dsimp only)); at_builtin; refine Kd.R_append (Kd.int .u8) (w0 := w) w.heap.size rfl (.tmp 62) (.tmp 64) 52 5 (.int .u8 0) 1 rfl Tryd.underlying52 info5 rfl (by decide) (by omega) u6 x6_1 t366 [.int .u8 t366] (fun _ => True) (fun _ => False) rfl rfl ?aP (fun _ hk => hk.elim) ?aF ?aO ?aB ?aS ?aL ?_; (case aP => exact rfl); (case aB => exact (by repeat (first | (with_reducible first | exact HB.out | apply Q19 | apply Q8 | apply Q23 | refine Q26 ?_ GE351.out | refine Q26 ?_ GE352.out) | exact HB.out))); (case aF => exact (fun _ _ => trivial)); (case aO => exact (by (with_reducible repeat (first | apply Kd.R_alloc | apply Kd.R_drewN | apply Kd.R_drew)); exact HO_6.out)); (case aS => exact (Q29 (by repeat (first | (with_reducible first | exact HB.out | apply Q19 | apply Q8 | apply Q23 | refine Q26 ?_ GE351.out | refine Q26 ?_ GE352.out) | exact HB.out)))); (case aL => have := LMc66.out; omega); intro v382 w67 ho hb hg hat; rw [← Ny381.out] at ho; have n0_ := Aside0.mk (blk_grown (g := gb351) (o := .cells #[.int .i64 x352000_1, .int .i64 x352001_1, .int .i64 x352002_1, .string x352003_1, .bool x352004_1, .int .u64 x352005_1, .int .u64 x352006_1, .int .u64 x352007_1, .int .u64 x352008_1, .int .i64 x352009_1, .int .i64 x352010_1] 26 (0, 0)) (by (with_reducible repeat (first | refine Q12 ?_ _ | refine Q24 ?_ | refine Q17 ?_ _)); exact BK351.out) hg (Kd.R_ne HO_6.out BK351.out (by decide))); have n1_ := Aside0.mk (blk_grown (g := gb352) (o := .cells #[.int .i64 x353000_1, .int .i64 x353001_1] 41 (0, 0)) (by (with_reducible repeat (first | refine Q12 ?_ _ | refine Q24 ?_ | refine Q17 ?_ _)); exact BK352.out) hg (Kd.R_ne HO_6.out BK352.out (by decide))); have n2_ := Aside0.mk (hb); have n3_ := Aside0.mk (ho); clear BK351; clear BK352; clear HB; clear HO_6; have BK351 := n0_; have BK352 := n1_; have HB := n2_; have HO383 := n3_; clear n0_ n1_ n2_ n3_; clear ho hb hg hat))
                            repeat (go_quiet (first | (go_at_call 75; (with_reducible refine (lexis_escape.calls kj4 a0 x7_1 t366 t367 _ A59.out).mono ?_); rintro e w' ⟨rfl, ⟨nd, rfl⟩⟩; (try first | exact ⟨rfl, _, World.drewN_drewN _ _ _⟩ | exact ⟨rfl, _, Eq.trans (World.drewN_drewN _ _ _) (congrArg (World.drewN _) (Nat.add_assoc _ _ _))⟩)) | ((with_reducible refine gate_builtin (b := .append) (xs := #[.tmp 62, .tmp 64]) rfl ?_); (try (refine gate_guard (by rfl) ?_; dsimp only)); at_builtin; refine Kd.R_append (Kd.int .u8) (w0 := w) w.heap.size rfl (.tmp 62) (.tmp 64) 52 5 (.int .u8 0) 1 rfl Tryd.underlying52 info5 rfl (by decide) (by omega) u6 x6_1 t366 [.int .u8 t366] (fun _ => True) (fun _ => False) rfl rfl ?aP (fun _ hk => hk.elim) ?aF ?aO ?aB ?aS ?aL ?_; (case aP => exact rfl); (case aB => exact (by repeat (first | (with_reducible first | exact HB.out | apply Q19 | apply Q8 | apply Q23 | refine Q26 ?_ GE351.out | refine Q26 ?_ GE352.out) | exact HB.out))); (case aF => exact (fun _ _ => trivial)); (case aO => exact (by (with_reducible repeat (first | apply Kd.R_alloc | apply Kd.R_drewN | apply Kd.R_drew)); exact HO_6.out)); (case aS => exact (Q29 (by repeat (first | (with_reducible first | exact HB.out | apply Q19 | apply Q8 | apply Q23 | refine Q26 ?_ GE351.out | refine Q26 ?_ GE352.out) | exact HB.out)))); (case aL => have := LMc66.out; omega); intro v382 w67 ho hb hg hat; rw [← Ny381.out] at ho; have n0_ := Aside0.mk (blk_grown (g := gb351) (o := .cells #[.int .i64 x352000_1, .int .i64 x352001_1, .int .i64 x352002_1, .string x352003_1, .bool x352004_1, .int .u64 x352005_1, .int .u64 x352006_1, .int .u64 x352007_1, .int .u64 x352008_1, .int .i64 x352009_1, .int .i64 x352010_1] 26 (0, 0)) (by (with_reducible repeat (first | refine Q12 ?_ _ | refine Q24 ?_ | refine Q17 ?_ _)); exact BK351.out) hg (Kd.R_ne HO_6.out BK351.out (by decide))); have n1_ := Aside0.mk (blk_grown (g := gb352) (o := .cells #[.int .i64 x353000_1, .int .i64 x353001_1] 41 (0, 0)) (by (with_reducible repeat (first | refine Q12 ?_ _ | refine Q24 ?_ | refine Q17 ?_ _)); exact BK352.out) hg (Kd.R_ne HO_6.out BK352.out (by decide))); have n2_ := Aside0.mk (hb); have n3_ := Aside0.mk (ho); clear BK351; clear BK352; clear HB; clear HO_6; have BK351 := n0_; have BK352 := n1_; have HB := n2_; have HO383 := n3_; clear n0_ n1_ n2_ n3_; clear ho hb hg hat)); try go_wp2_with (first | (go_at_call 75; (with_reducible refine (lexis_escape.calls kj4 a0 x7_1 t366 t367 _ A59.out).mono ?_); rintro e w' ⟨rfl, ⟨nd, rfl⟩⟩; (try first | exact ⟨rfl, _, World.drewN_drewN _ _ _⟩ | exact ⟨rfl, _, Eq.trans (World.drewN_drewN _ _ _) (congrArg (World.drewN _) (Nat.add_assoc _ _ _))⟩)) | ((with_reducible refine gate_builtin (b := .append) (xs := #[.tmp 62, .tmp 64]) rfl ?_); (try (refine gate_guard (by rfl) ?_; dsimp only)); at_builtin; refine Kd.R_append (Kd.int .u8) (w0 := w) w.heap.size rfl (.tmp 62) (.tmp 64) 52 5 (.int .u8 0) 1 rfl Tryd.underlying52 info5 rfl (by decide) (by omega) u6 x6_1 t366 [.int .u8 t366] (fun _ => True) (fun _ => False) rfl rfl ?aP (fun _ hk => hk.elim) ?aF ?aO ?aB ?aS ?aL ?_; (case aP => exact rfl); (case aB => exact (by repeat (first | (with_reducible first | exact HB.out | apply Q19 | apply Q8 | apply Q23 | refine Q26 ?_ GE351.out | refine Q26 ?_ GE352.out) | exact HB.out))); (case aF => exact (fun _ _ => trivial)); (case aO => exact (by (with_reducible repeat (first | apply Kd.R_alloc | apply Kd.R_drewN | apply Kd.R_drew)); exact HO_6.out)); (case aS => exact (Q29 (by repeat (first | (with_reducible first | exact HB.out | apply Q19 | apply Q8 | apply Q23 | refine Q26 ?_ GE351.out | refine Q26 ?_ GE352.out) | exact HB.out)))); (case aL => have := LMc66.out; omega); intro v382 w67 ho hb hg hat; rw [← Ny381.out] at ho; have n0_ := Aside0.mk (blk_grown (g := gb351) (o := .cells #[.int .i64 x352000_1, .int .i64 x352001_1, .int .i64 x352002_1, .string x352003_1, .bool x352004_1, .int .u64 x352005_1, .int .u64 x352006_1, .int .u64 x352007_1, .int .u64 x352008_1, .int .i64 x352009_1, .int .i64 x352010_1] 26 (0, 0)) (by (with_reducible repeat (first | refine Q12 ?_ _ | refine Q24 ?_ | refine Q17 ?_ _)); exact BK351.out) hg (Kd.R_ne HO_6.out BK351.out (by decide))); have n1_ := Aside0.mk (blk_grown (g := gb352) (o := .cells #[.int .i64 x353000_1, .int .i64 x353001_1] 41 (0, 0)) (by (with_reducible repeat (first | refine Q12 ?_ _ | refine Q24 ?_ | refine Q17 ?_ _)); exact BK352.out) hg (Kd.R_ne HO_6.out BK352.out (by decide))); have n2_ := Aside0.mk (hb); have n3_ := Aside0.mk (ho); clear BK351; clear BK352; clear HB; clear HO_6; have BK351 := n0_; have BK352 := n1_; have HB := n2_; have HO383 := n3_; clear n0_ n1_ n2_ n3_; clear ho hb hg hat)))
                            go_roundg kj4
                            case measure => have := HK1.out; have := HJ4.out; omega
                            case rel => exact ⟨(y381), (wrap64 (x7_1 + t367)), (x352000_1), (x352001_1), (x352002_1), (x352003_1), (x352004_1), (x352005_1), (x352006_1), (x352007_1), (x352008_1), (x352009_1), (x352010_1), (x353000_1), (x353001_1), (by first | rfl | (simp; done) | (simp [*]; done)), H', ⟨by have := HK1.out; have := HJ4.out; omega⟩, ⟨by (with_reducible repeat (first | apply Kd.R_alloc | apply Kd.R_drewN | apply Kd.R_drew)); exact HO383.out⟩, ⟨by (with_reducible repeat (first | refine Q12 ?_ _ | refine Q24 ?_ | refine Q17 ?_ _)); exact BK351.out⟩, ⟨by (with_reducible repeat (first | refine Q12 ?_ _ | refine Q24 ?_ | refine Q17 ?_ _)); exact BK352.out⟩, ⟨by repeat (first | (with_reducible first | exact HB.out | apply Q19 | apply Q8 | apply Q23 | refine Q26 ?_ GE351.out | refine Q26 ?_ GE352.out) | exact HB.out)⟩⟩
                          · rw [if_neg c66] at H
                            exact absurd H (by simp)
                      · rw [if_neg c58] at H
                        have c58b0 : ((bt a0 x7_1) == 92) = false := beq_eq_false_iff_ne.mpr c58
                        have c58b1 : ((bt a0 x7_1) != 92) = true := bne_iff_ne.mpr c58
                        by_cases c69 : x6_1.length < 140737488355328
                        · rw [if_pos c69] at H
                          have LMc69 := Aside0.mk c69
                          clear c69
                          obtain ⟨y384, hy384⟩ : ∃ y_ : List Int, y_ = (x6_1 ++ [bt a0 x7_1]) := ⟨_, rfl⟩
                          replace H : (lexis_literal.l0 kj4 a0 a1 y384 (wrap64 (x7_1 + 1))) = some (r1, r2, r3, r4, r5, r6, r7, r8, r9, r10, r11, r12, r13) := by first | (rw [hy384]; with_reducible exact H) | (have H2_ := (Option.bind_some _ _).symm.trans H; rw [hy384]; with_reducible exact H2_) | (have H2_ := (Option.bind_some _ _).symm.trans H; with_reducible exact H2_) | with_reducible exact H | (rw [hy384]; exact H) | exact H
                          have Ny384 := Aside0.mk hy384
                          clear hy384
                          have H' := Aside0.mk H
                          clear H
                          have p18 : 0 ≤ (x7_1 : Int) := of_decide_eq_true (by first | (with_reducible assumption) | assumption)
                          have q18 : x7_1 < (a0.size : Int) := of_decide_eq_true (by first | (with_reducible assumption) | assumption)
                          have hx18 := bt_at a0 x7_1
                          replace p18 := eq_true p18
                          replace q18 := eq_true q18
                          have p21 : 0 ≤ (a1 : Int) := of_decide_eq_true (by first | (with_reducible assumption) | assumption)
                          have q21 : a1 < (a0.size : Int) := of_decide_eq_true (by first | (with_reducible assumption) | assumption)
                          have hx21 := bt_at a0 a1
                          replace p21 := eq_true p21
                          replace q21 := eq_true q21
                          have p57 : 0 ≤ (x7_1 : Int) := of_decide_eq_true (by first | (with_reducible assumption) | assumption)
                          have q57 : x7_1 < (a0.size : Int) := of_decide_eq_true (by first | (with_reducible assumption) | assumption)
                          have hx57 := bt_at a0 x7_1
                          replace p57 := eq_true p57
                          replace q57 := eq_true q57
                          have p68 : 0 ≤ (x7_1 : Int) := of_decide_eq_true (by first | (with_reducible assumption) | assumption)
                          have q68 : x7_1 < (a0.size : Int) := of_decide_eq_true (by first | (with_reducible assumption) | assumption)
                          have hx68 := bt_at a0 x7_1
                          replace p68 := eq_true p68
                          replace q68 := eq_true q68
                          go_wp2_with (first | ((with_reducible refine gate_builtin (b := .append) (xs := #[.tmp 14, .tmp 18]) rfl ?_); (try (refine gate_guard (by rfl) ?_; dsimp only)); at_builtin; refine Kd.R_append (Kd.int .u8) (w0 := w) w.heap.size rfl (.tmp 14) (.tmp 18) 52 5 (.int .u8 0) 1 rfl Tryd.underlying52 info5 rfl (by decide) (by omega) u6 x6_1 (bt a0 x7_1) [.int .u8 (bt a0 x7_1)] (fun _ => True) (fun _ => False) rfl rfl ?aP (fun _ hk => hk.elim) ?aF ?aO ?aB ?aS ?aL ?_; (case aP => exact rfl); (case aB => exact (by repeat (first | (with_reducible first | exact HB.out | apply Q19 | apply Q8 | apply Q23 | refine Q26 ?_ GE351.out | refine Q26 ?_ GE352.out) | exact HB.out))); (case aF => exact (fun _ _ => trivial)); (case aO => exact (by (with_reducible repeat (first | apply Kd.R_alloc | apply Kd.R_drewN | apply Kd.R_drew)); exact HO_6.out)); (case aS => exact (Q29 (by repeat (first | (with_reducible first | exact HB.out | apply Q19 | apply Q8 | apply Q23 | refine Q26 ?_ GE351.out | refine Q26 ?_ GE352.out) | exact HB.out)))); (case aL => have := LMc69.out; omega); intro v385 w70 ho hb hg hat; rw [← Ny384.out] at ho; have n0_ := Aside0.mk (blk_grown (g := gb351) (o := .cells #[.int .i64 x352000_1, .int .i64 x352001_1, .int .i64 x352002_1, .string x352003_1, .bool x352004_1, .int .u64 x352005_1, .int .u64 x352006_1, .int .u64 x352007_1, .int .u64 x352008_1, .int .i64 x352009_1, .int .i64 x352010_1] 26 (0, 0)) (by (with_reducible repeat (first | refine Q12 ?_ _ | refine Q24 ?_ | refine Q17 ?_ _)); exact BK351.out) hg (Kd.R_ne HO_6.out BK351.out (by decide))); have n1_ := Aside0.mk (blk_grown (g := gb352) (o := .cells #[.int .i64 x353000_1, .int .i64 x353001_1] 41 (0, 0)) (by (with_reducible repeat (first | refine Q12 ?_ _ | refine Q24 ?_ | refine Q17 ?_ _)); exact BK352.out) hg (Kd.R_ne HO_6.out BK352.out (by decide))); have n2_ := Aside0.mk (hb); have n3_ := Aside0.mk (ho); clear BK351; clear BK352; clear HB; clear HO_6; have BK351 := n0_; have BK352 := n1_; have HB := n2_; have HO386 := n3_; clear n0_ n1_ n2_ n3_; clear ho hb hg hat))
                          repeat (go_quiet (first | ((with_reducible refine gate_builtin (b := .append) (xs := #[.tmp 14, .tmp 18]) rfl ?_); (try (refine gate_guard (by rfl) ?_; dsimp only)); at_builtin; refine Kd.R_append (Kd.int .u8) (w0 := w) w.heap.size rfl (.tmp 14) (.tmp 18) 52 5 (.int .u8 0) 1 rfl Tryd.underlying52 info5 rfl (by decide) (by omega) u6 x6_1 (bt a0 x7_1) [.int .u8 (bt a0 x7_1)] (fun _ => True) (fun _ => False) rfl rfl ?aP (fun _ hk => hk.elim) ?aF ?aO ?aB ?aS ?aL ?_; (case aP => exact rfl); (case aB => exact (by repeat (first | (with_reducible first | exact HB.out | apply Q19 | apply Q8 | apply Q23 | refine Q26 ?_ GE351.out | refine Q26 ?_ GE352.out) | exact HB.out))); (case aF => exact (fun _ _ => trivial)); (case aO => exact (by (with_reducible repeat (first | apply Kd.R_alloc | apply Kd.R_drewN | apply Kd.R_drew)); exact HO_6.out)); (case aS => exact (Q29 (by repeat (first | (with_reducible first | exact HB.out | apply Q19 | apply Q8 | apply Q23 | refine Q26 ?_ GE351.out | refine Q26 ?_ GE352.out) | exact HB.out)))); (case aL => have := LMc69.out; omega); intro v385 w70 ho hb hg hat; rw [← Ny384.out] at ho; have n0_ := Aside0.mk (blk_grown (g := gb351) (o := .cells #[.int .i64 x352000_1, .int .i64 x352001_1, .int .i64 x352002_1, .string x352003_1, .bool x352004_1, .int .u64 x352005_1, .int .u64 x352006_1, .int .u64 x352007_1, .int .u64 x352008_1, .int .i64 x352009_1, .int .i64 x352010_1] 26 (0, 0)) (by (with_reducible repeat (first | refine Q12 ?_ _ | refine Q24 ?_ | refine Q17 ?_ _)); exact BK351.out) hg (Kd.R_ne HO_6.out BK351.out (by decide))); have n1_ := Aside0.mk (blk_grown (g := gb352) (o := .cells #[.int .i64 x353000_1, .int .i64 x353001_1] 41 (0, 0)) (by (with_reducible repeat (first | refine Q12 ?_ _ | refine Q24 ?_ | refine Q17 ?_ _)); exact BK352.out) hg (Kd.R_ne HO_6.out BK352.out (by decide))); have n2_ := Aside0.mk (hb); have n3_ := Aside0.mk (ho); clear BK351; clear BK352; clear HB; clear HO_6; have BK351 := n0_; have BK352 := n1_; have HB := n2_; have HO386 := n3_; clear n0_ n1_ n2_ n3_; clear ho hb hg hat)); try go_wp2_with (first | ((with_reducible refine gate_builtin (b := .append) (xs := #[.tmp 14, .tmp 18]) rfl ?_); (try (refine gate_guard (by rfl) ?_; dsimp only)); at_builtin; refine Kd.R_append (Kd.int .u8) (w0 := w) w.heap.size rfl (.tmp 14) (.tmp 18) 52 5 (.int .u8 0) 1 rfl Tryd.underlying52 info5 rfl (by decide) (by omega) u6 x6_1 (bt a0 x7_1) [.int .u8 (bt a0 x7_1)] (fun _ => True) (fun _ => False) rfl rfl ?aP (fun _ hk => hk.elim) ?aF ?aO ?aB ?aS ?aL ?_; (case aP => exact rfl); (case aB => exact (by repeat (first | (with_reducible first | exact HB.out | apply Q19 | apply Q8 | apply Q23 | refine Q26 ?_ GE351.out | refine Q26 ?_ GE352.out) | exact HB.out))); (case aF => exact (fun _ _ => trivial)); (case aO => exact (by (with_reducible repeat (first | apply Kd.R_alloc | apply Kd.R_drewN | apply Kd.R_drew)); exact HO_6.out)); (case aS => exact (Q29 (by repeat (first | (with_reducible first | exact HB.out | apply Q19 | apply Q8 | apply Q23 | refine Q26 ?_ GE351.out | refine Q26 ?_ GE352.out) | exact HB.out)))); (case aL => have := LMc69.out; omega); intro v385 w70 ho hb hg hat; rw [← Ny384.out] at ho; have n0_ := Aside0.mk (blk_grown (g := gb351) (o := .cells #[.int .i64 x352000_1, .int .i64 x352001_1, .int .i64 x352002_1, .string x352003_1, .bool x352004_1, .int .u64 x352005_1, .int .u64 x352006_1, .int .u64 x352007_1, .int .u64 x352008_1, .int .i64 x352009_1, .int .i64 x352010_1] 26 (0, 0)) (by (with_reducible repeat (first | refine Q12 ?_ _ | refine Q24 ?_ | refine Q17 ?_ _)); exact BK351.out) hg (Kd.R_ne HO_6.out BK351.out (by decide))); have n1_ := Aside0.mk (blk_grown (g := gb352) (o := .cells #[.int .i64 x353000_1, .int .i64 x353001_1] 41 (0, 0)) (by (with_reducible repeat (first | refine Q12 ?_ _ | refine Q24 ?_ | refine Q17 ?_ _)); exact BK352.out) hg (Kd.R_ne HO_6.out BK352.out (by decide))); have n2_ := Aside0.mk (hb); have n3_ := Aside0.mk (ho); clear BK351; clear BK352; clear HB; clear HO_6; have BK351 := n0_; have BK352 := n1_; have HB := n2_; have HO386 := n3_; clear n0_ n1_ n2_ n3_; clear ho hb hg hat)))
                          go_roundg kj4
                          case measure => have := HK1.out; have := HJ4.out; omega
                          case rel => exact ⟨(y384), (wrap64 (x7_1 + 1)), (x352000_1), (x352001_1), (x352002_1), (x352003_1), (x352004_1), (x352005_1), (x352006_1), (x352007_1), (x352008_1), (x352009_1), (x352010_1), (x353000_1), (x353001_1), (by first | rfl | (simp; done) | (simp [*]; done)), H', ⟨by have := HK1.out; have := HJ4.out; omega⟩, ⟨by (with_reducible repeat (first | apply Kd.R_alloc | apply Kd.R_drewN | apply Kd.R_drew)); exact HO386.out⟩, ⟨by (with_reducible repeat (first | refine Q12 ?_ _ | refine Q24 ?_ | refine Q17 ?_ _)); exact BK351.out⟩, ⟨by (with_reducible repeat (first | refine Q12 ?_ _ | refine Q24 ?_ | refine Q17 ?_ _)); exact BK352.out⟩, ⟨by repeat (first | (with_reducible first | exact HB.out | apply Q19 | apply Q8 | apply Q23 | refine Q26 ?_ GE351.out | refine Q26 ?_ GE352.out) | exact HB.out)⟩⟩
                        · rw [if_neg c69] at H
                          exact absurd H (by simp)
                  · rw [if_neg c20] at H
                    exact absurd H (by simp)
                · rw [if_neg c19] at H
                  exact absurd H (by simp)
              · rw [if_neg c17] at H
                exact absurd H (by simp)
            · rw [if_neg c16] at H
              exact absurd H (by simp)
end Go.Proofs.YtldjdcdoegjmoaaDoor.P
