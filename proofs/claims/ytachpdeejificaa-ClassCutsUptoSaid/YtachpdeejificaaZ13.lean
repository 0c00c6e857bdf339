import Derived.Test.YtachpdeejificaaZ1
import Derived.Test.YtachpdeejificaaZ3
import Derived.Test.YtachpdeejificaaZ6
import Derived.Test.YtachpdeejificaaZ12
namespace Go.Proofs.Ytachpdeejificaa.P
open Go.RowKit Go.Proofs.YtachpdeejificaaW.PrintWords Go.Proofs.YtachpdeejificaaW.PrintLast Go.Proofs.YtachpdeejificaaW.PrintMore
set_option linter.unusedVariables false
set_option linter.unusedSimpArgs false
attribute [local go_sem high] eqA24 eqA49
mutual
def dowellaw03_ClassCuts.j0 : Nat → ByteArray → ByteArray → Int → Int → Bool → Int → Int → Int → Int → Int → Int → Option (Bool)
  | 0, _, _, _, _, _, _, _, _, _, _, _ => none
  | k + 1, x0, x1, x2, x8, x39, x308000, x308001, x308002, x308003, x309000, x309001 => if x39 = true then (some false) else (if 0 ≤ x8 then (if x8 ≤ (x0.size : Int) then (if (x0.extract 0 (x8 : Int).toNat).size + x1.size ≤ 9223372036854775807 then ((class_Parse.f ((x0.extract 0 (x8 : Int).toNat) ++ x1) 0).bind fun bt309 => (if (!(bt309.1 == x308000) || (!(bt309.2.1 == x308001) || (!(bt309.2.2.1 == x308002) || (!(bt309.2.2.2.1 == x308003))))) = true then (dowellaw03_ClassCuts.j1 k x0 x2 x8 true) else (if bt309.2.2.2.2.1 = x8 then (dowellaw03_ClassCuts.j1 k x0 x2 x8 (!(bt309.2.2.2.2.2.1 == x309000) || (!(bt309.2.2.2.2.2.2 == x309001)))) else (dowellaw03_ClassCuts.j1 k x0 x2 x8 true)))) else (none)) else (none)) else (none))
def dowellaw03_ClassCuts.j1 : Nat → ByteArray → Int → Int → Bool → Option (Bool)
  | 0, _, _, _, _ => none
  | k + 1, x0, x2, x8, x62 => if x62 = true then (some false) else (if (IntKind.u64.wrap (x8)) = 0 then (none) else (if 0 ≤ (wrap64 (Int.tmod (IntKind.u64.wrap (x2)) (IntKind.u64.wrap (x8)))) then (if (wrap64 (Int.tmod (IntKind.u64.wrap (x2)) (IntKind.u64.wrap (x8)))) ≤ (x0.size : Int) then ((class_Parse.f (x0.extract 0 ((wrap64 (Int.tmod (IntKind.u64.wrap (x2)) (IntKind.u64.wrap (x8)))) : Int).toNat) 0).bind fun bt318 => (if (wrap64 (Int.tmod (IntKind.u64.wrap (x2)) (IntKind.u64.wrap (x8)))) = 0 then (if bt318.2.2.2.2.1 = 0 then (some (bt318.2.2.2.2.2.1 == 0 && (bt318.2.2.2.2.2.2 == 30))) else (some false)) else (if bt318.2.2.2.2.1 = 0 then (if (bt318.2.2.2.2.2.1 == 0 && (bt318.2.2.2.2.2.2 == 41)) = true then (some true) else (if bt318.2.2.2.2.2.2 = 42 then (if bt318.2.2.2.2.2.1 > 0 then (if bt318.2.2.2.2.2.1 < (wrap64 (Int.tmod (IntKind.u64.wrap (x2)) (IntKind.u64.wrap (x8)))) then (if 0 ≤ bt318.2.2.2.2.2.1 then (if bt318.2.2.2.2.2.1 < (x0.size : Int) then (some ((bt x0 bt318.2.2.2.2.2.1) == 92)) else (none)) else (none)) else (some false)) else (some false)) else (some false))) else (some false)))) else (none)) else (none)))
end
def dowellaw03_ClassCuts.f (k : Nat) (a0 : ByteArray) (a1 : ByteArray) (a2 : Int) : Option (Bool) := (dowellaw03_works.f k).bind fun t299 => (if t299 = true then ((class_Parse.f a0 0).bind fun bt300 => (if (!(bt300.2.2.2.2.2.1 == 0) || (!(bt300.2.2.2.2.2.2 == 0))) = true then (if bt300.2.2.2.2.1 = 0 then (some (bt300.1 == 0 && (bt300.2.1 == 0 && (bt300.2.2.1 == 0 && (bt300.2.2.2.1 == 0))))) else (some false)) else (if bt300.2.2.2.2.1 < 2 then (dowellaw03_ClassCuts.j0 k a0 a1 a2 bt300.2.2.2.2.1 true bt300.1 bt300.2.1 bt300.2.2.1 bt300.2.2.2.1 bt300.2.2.2.2.2.1 bt300.2.2.2.2.2.2) else (dowellaw03_ClassCuts.j0 k a0 a1 a2 bt300.2.2.2.2.1 (decide (bt300.2.2.2.2.1 > (a0.size : Int))) bt300.1 bt300.2.1 bt300.2.2.1 bt300.2.2.2.1 bt300.2.2.2.2.2.1 bt300.2.2.2.2.2.2)))) else (some false))
set_option maxHeartbeats 8000000 in
set_option maxRecDepth 100000 in
theorem dowellaw03_ClassCuts.calls (k : Nat) (a0 : ByteArray) (a1 : ByteArray) (a2 : Int) (r : Bool) (w : World) (h : dowellaw03_ClassCuts.f k a0 a1 a2 = some r) :
    Calls Try.prog 9 #[.string a0, .string a1, .int .i64 a2] w fun e w' => e = .returned (.bool r) ∧ Below w.heap.size w w' := by
  have hu24 := Try.underlying24
  have hu49 := Try.underlying49
  have HB := Aside0.mk (Below.refl w.heap.size w)
  have H : ((dowellaw03_works.f k).bind fun t299 => (if t299 = true then ((class_Parse.f a0 0).bind fun bt300 => (if (!(bt300.2.2.2.2.2.1 == 0) || (!(bt300.2.2.2.2.2.2 == 0))) = true then (if bt300.2.2.2.2.1 = 0 then (some (bt300.1 == 0 && (bt300.2.1 == 0 && (bt300.2.2.1 == 0 && (bt300.2.2.2.1 == 0))))) else (some false)) else (if bt300.2.2.2.2.1 < 2 then (dowellaw03_ClassCuts.j0 k a0 a1 a2 bt300.2.2.2.2.1 true bt300.1 bt300.2.1 bt300.2.2.1 bt300.2.2.2.1 bt300.2.2.2.2.2.1 bt300.2.2.2.2.2.2) else (dowellaw03_ClassCuts.j0 k a0 a1 a2 bt300.2.2.2.2.1 (decide (bt300.2.2.2.2.1 > (a0.size : Int))) bt300.1 bt300.2.1 bt300.2.2.1 bt300.2.2.2.1 bt300.2.2.2.2.2.1 bt300.2.2.2.2.2.2)))) else (some false))) = some r := h
  clear h
  replace H := Option.bind_eq_some_iff.mp H
  obtain ⟨t299, A40, H⟩ := H
  replace H : (if t299 = true then ((class_Parse.f a0 0).bind fun bt300 => (if (!(bt300.2.2.2.2.2.1 == 0) || (!(bt300.2.2.2.2.2.2 == 0))) = true then (if bt300.2.2.2.2.1 = 0 then (some (bt300.1 == 0 && (bt300.2.1 == 0 && (bt300.2.2.1 == 0 && (bt300.2.2.2.1 == 0))))) else (some false)) else (if bt300.2.2.2.2.1 < 2 then (dowellaw03_ClassCuts.j0 k a0 a1 a2 bt300.2.2.2.2.1 true bt300.1 bt300.2.1 bt300.2.2.1 bt300.2.2.2.1 bt300.2.2.2.2.2.1 bt300.2.2.2.2.2.2) else (dowellaw03_ClassCuts.j0 k a0 a1 a2 bt300.2.2.2.2.1 (decide (bt300.2.2.2.2.1 > (a0.size : Int))) bt300.1 bt300.2.1 bt300.2.2.1 bt300.2.2.2.1 bt300.2.2.2.2.2.1 bt300.2.2.2.2.2.2)))) else (some false)) = some r := H
  have A4 := Aside0.mk A40
  clear A40
  by_cases c5 : t299 = true
  · subst c5
    have H1 : ((class_Parse.f a0 0).bind fun bt300 => (if (!(bt300.2.2.2.2.2.1 == 0) || (!(bt300.2.2.2.2.2.2 == 0))) = true then (if bt300.2.2.2.2.1 = 0 then (some (bt300.1 == 0 && (bt300.2.1 == 0 && (bt300.2.2.1 == 0 && (bt300.2.2.2.1 == 0))))) else (some false)) else (if bt300.2.2.2.2.1 < 2 then (dowellaw03_ClassCuts.j0 k a0 a1 a2 bt300.2.2.2.2.1 true bt300.1 bt300.2.1 bt300.2.2.1 bt300.2.2.2.1 bt300.2.2.2.2.2.1 bt300.2.2.2.2.2.2) else (dowellaw03_ClassCuts.j0 k a0 a1 a2 bt300.2.2.2.2.1 (decide (bt300.2.2.2.2.1 > (a0.size : Int))) bt300.1 bt300.2.1 bt300.2.2.1 bt300.2.2.2.1 bt300.2.2.2.2.2.1 bt300.2.2.2.2.2.2)))) = some r := by rw [if_pos rfl] at H; exact H
    clear H
    have H := H1
    clear H1
    replace H := Option.bind_eq_some_iff.mp H
    obtain ⟨⟨t300, t301, t302, t303, t304, t305, t306⟩, A60, H⟩ := H
    replace H : (if (!(t305 == 0) || (!(t306 == 0))) = true then (if t304 = 0 then (some (t300 == 0 && (t301 == 0 && (t302 == 0 && (t303 == 0))))) else (some false)) else (if t304 < 2 then (dowellaw03_ClassCuts.j0 k a0 a1 a2 t304 true t300 t301 t302 t303 t305 t306) else (dowellaw03_ClassCuts.j0 k a0 a1 a2 t304 (decide (t304 > (a0.size : Int))) t300 t301 t302 t303 t305 t306))) = some r := H
    have A6 := Aside0.mk A60
    clear A60
    by_cases c7 : (!(t305 == 0) || (!(t306 == 0))) = true
    · rw [if_pos c7] at H
      have c7b0 : (!(t305 == 0) || (!(t306 == 0))) = true := c7
      clear c7
      by_cases c8 : t304 = 0
      · rw [if_pos c8] at H
        have c8b0 : (t304 == 0) = true := beq_iff_eq.mpr c8
        have c8b1 : (t304 != 0) = false := bne_eq_false_iff_eq.mpr c8
        clear c8
        obtain rfl := Option.some.inj H
        go_enter Try.func9, Try.ntmps9
        go_wp2_with (first | ((with_reducible refine gate_callee (f := 34) rfl ?_); refine goesL_ (some 14) rfl rfl Try.func34 (by kernel_rfl) rfl #[] rfl (by (try simp only [List.map_toArray, List.map_cons, List.map_nil]); first | done | rfl | (simp only [List.length_drop, List.length_take]; rfl)) ?_; (with_reducible refine (dowellaw03_works.calls k  true _ A4.out).mono ?_); rintro e w9 ⟨rfl, hb⟩; refine ⟨_, rfl, ?_⟩; have n0_ := Aside0.mk (Q12 (by repeat (first | (with_reducible first | exact HB.out | apply Q6 | apply Q4 | apply Q7) | exact HB.out)) hb); clear HB; have HB := n0_; clear n0_; (try clear hb); (try clear hb2); (try clear hk); (try clear hi)) | ((with_reducible refine gate_callee (f := 31) rfl ?_); refine goesL_ (some 18) rfl rfl Try.func31 (by kernel_rfl) rfl #[.string a0, .int .i64 0] rfl (by (try simp only [List.map_toArray, List.map_cons, List.map_nil]); first | done | rfl | (simp only [List.length_drop, List.length_take]; rfl)) ?_; (with_reducible refine (class_Parse.calls a0 0 t300 t301 t302 t303 t304 t305 t306 _ A6.out).mono ?_); rintro e w10 ⟨rfl, hb⟩; refine ⟨_, rfl, ?_⟩; have n0_ := Aside0.mk (Q12 (by repeat (first | (with_reducible first | exact HB.out | apply Q6 | apply Q4 | apply Q7) | exact HB.out)) hb); clear HB; have HB := n0_; clear n0_; (try clear hb); (try clear hb2); (try clear hk); (try clear hi)) | ((with_reducible refine gate_dst (N := 7) rfl ?_); (try (refine gate_guard (by rfl) ?_; dsimp only)); refine box_event ?hg (N := 7) ?hd (cs := #[.int .u64 0, .int .u64 0, .int .u64 0, .int .u64 0]) (t := 24) ?hr ?_; (case hd => rfl); (case hg => rfl); (case hr => first | (go_simp; done) | (go_simp; rfl)); intro gb307 hg w11 hbox hb; have n0_ := Aside0.mk (Q12 (by repeat (first | (with_reducible first | exact HB.out | apply Q6 | apply Q4 | apply Q7) | exact HB.out)) hb); have n1_ := Aside0.mk (hbox); have n2_ := Aside0.mk ((by rw [hg]; exact (Q13 (by repeat (first | (with_reducible first | exact HB.out | apply Q6 | apply Q4 | apply Q7) | exact HB.out))) : w.heap.size ≤ gb307)); have n3_ := Aside0.mk ((by rw [hg]; exact (Q13 (by repeat (first | (with_reducible first | exact HB.out | apply Q6 | apply Q4 | apply Q7) | exact HB.out))) : w.heap.size ≤ gb307)); clear HB; have HB := n0_; have BK307 := n1_; have GW307 := n2_; have GE307 := n3_; clear n0_ n1_ n2_ n3_; clear hb hbox hg) | ((with_reducible refine gate_dst (N := 9) rfl ?_); (try (refine gate_guard (by rfl) ?_; dsimp only)); refine box_event ?hg (N := 9) ?hd (cs := #[.int .i64 0, .int .i64 0]) (t := 49) ?hr ?_; (case hd => rfl); (case hg => rfl); (case hr => first | (go_simp; done) | (go_simp; rfl)); intro gb308 hg w12 hbox hb; have n0_ := Aside0.mk (Q11 (g := gb307) (o := .cells #[.int .u64 0, .int .u64 0, .int .u64 0, .int .u64 0] 24 (0, 0)) (by (with_reducible repeat (first | refine blk_drewN ?_ _ | refine blk_drew ?_ | refine Q5 ?_ _)); exact BK307.out) hb); have n1_ := Aside0.mk (Q12 (by repeat (first | (with_reducible first | exact HB.out | apply Q6 | apply Q4 | apply Q7 | refine Q8 ?_ GE307.out) | exact HB.out)) hb); have n2_ := Aside0.mk (hbox); have n3_ := Aside0.mk ((by rw [hg]; exact (Q13 (by repeat (first | (with_reducible first | exact HB.out | apply Q6 | apply Q4 | apply Q7 | refine Q8 ?_ GE307.out) | exact HB.out))) : w.heap.size ≤ gb308)); have n4_ := Aside0.mk ((by rw [hg]; exact (Q13 (by repeat (first | (with_reducible first | exact HB.out | apply Q6 | apply Q4 | apply Q7 | refine Q8 ?_ GE307.out) | exact HB.out))) : w.heap.size ≤ gb308)); have n5_ := Aside0.mk ((by rw [hg]; exact Nat.ne_of_lt (blk_lt (g := gb307) (o := .cells #[.int .u64 0, .int .u64 0, .int .u64 0, .int .u64 0] 24 (0, 0)) (by (with_reducible repeat (first | refine blk_drewN ?_ _ | refine blk_drew ?_ | refine Q5 ?_ _)); exact BK307.out)) : gb307 ≠ gb308)); have n6_ := Aside0.mk ((by rw [hg]; exact Nat.ne_of_gt (blk_lt (g := gb307) (o := .cells #[.int .u64 0, .int .u64 0, .int .u64 0, .int .u64 0] 24 (0, 0)) (by (with_reducible repeat (first | refine blk_drewN ?_ _ | refine blk_drew ?_ | refine Q5 ?_ _)); exact BK307.out)) : gb308 ≠ gb307)); clear BK307; clear HB; have BK307 := n0_; have HB := n1_; have BK308 := n2_; have GW308 := n3_; have GE308 := n4_; have NB307_308 := n5_; have NB308_307 := n6_; clear n0_ n1_ n2_ n3_ n4_ n5_ n6_; clear hb hbox hg; have hnb13 := NB307_308.out; have hnc13 := NB308_307.out; have hcz14_0 : w12.cell? ⟨gb307, 0, none⟩ = some (.int .u64 0) := (Q10 BK307.out 0).trans rfl; have hcz14_1 : w12.cell? ⟨gb307, 1, none⟩ = some (.int .u64 0) := (Q10 BK307.out 1).trans rfl; have hcz14_2 : w12.cell? ⟨gb307, 2, none⟩ = some (.int .u64 0) := (Q10 BK307.out 2).trans rfl; have hcz14_3 : w12.cell? ⟨gb307, 3, none⟩ = some (.int .u64 0) := (Q10 BK307.out 3).trans rfl; have hfz14_0 := Q9 BK307.out 0; have hfz14_1 := Q9 BK307.out 1; have hfz14_2 := Q9 BK307.out 2; have hfz14_3 := Q9 BK307.out 3; have hcz15_0 : w12.cell? ⟨gb308, 0, none⟩ = some (.int .i64 0) := (Q10 BK308.out 0).trans rfl; have hcz15_1 : w12.cell? ⟨gb308, 1, none⟩ = some (.int .i64 0) := (Q10 BK308.out 1).trans rfl; have hfz15_0 := Q9 BK308.out 0; have hfz15_1 := Q9 BK308.out 1))
        go_ret
        exact ⟨by first | rfl | (simp [Q16, Q15] <;> rfl) | (simp [*, Q16, Q15] <;> rfl), by repeat (first | (with_reducible first | exact HB.out | apply Q6 | apply Q4 | apply Q7 | refine Q8 ?_ GE307.out | refine Q8 ?_ GE308.out) | exact HB.out)⟩
      · rw [if_neg c8] at H
        have c8b0 : (t304 == 0) = false := beq_eq_false_iff_ne.mpr c8
        have c8b1 : (t304 != 0) = true := bne_iff_ne.mpr c8
        obtain rfl := Option.some.inj H
        go_enter Try.func9, Try.ntmps9
        go_wp2_with (first | ((with_reducible refine gate_callee (f := 34) rfl ?_); refine goesL_ (some 14) rfl rfl Try.func34 (by kernel_rfl) rfl #[] rfl (by (try simp only [List.map_toArray, List.map_cons, List.map_nil]); first | done | rfl | (simp only [List.length_drop, List.length_take]; rfl)) ?_; (with_reducible refine (dowellaw03_works.calls k  true _ A4.out).mono ?_); rintro e w16 ⟨rfl, hb⟩; refine ⟨_, rfl, ?_⟩; have n0_ := Aside0.mk (Q12 (by repeat (first | (with_reducible first | exact HB.out | apply Q6 | apply Q4 | apply Q7) | exact HB.out)) hb); clear HB; have HB := n0_; clear n0_; (try clear hb); (try clear hb2); (try clear hk); (try clear hi)) | ((with_reducible refine gate_callee (f := 31) rfl ?_); refine goesL_ (some 18) rfl rfl Try.func31 (by kernel_rfl) rfl #[.string a0, .int .i64 0] rfl (by (try simp only [List.map_toArray, List.map_cons, List.map_nil]); first | done | rfl | (simp only [List.length_drop, List.length_take]; rfl)) ?_; (with_reducible refine (class_Parse.calls a0 0 t300 t301 t302 t303 t304 t305 t306 _ A6.out).mono ?_); rintro e w17 ⟨rfl, hb⟩; refine ⟨_, rfl, ?_⟩; have n0_ := Aside0.mk (Q12 (by repeat (first | (with_reducible first | exact HB.out | apply Q6 | apply Q4 | apply Q7) | exact HB.out)) hb); clear HB; have HB := n0_; clear n0_; (try clear hb); (try clear hb2); (try clear hk); (try clear hi)) | ((with_reducible refine gate_dst (N := 7) rfl ?_); (try (refine gate_guard (by rfl) ?_; dsimp only)); refine box_event ?hg (N := 7) ?hd (cs := #[.int .u64 0, .int .u64 0, .int .u64 0, .int .u64 0]) (t := 24) ?hr ?_; (case hd => rfl); (case hg => rfl); (case hr => first | (go_simp; done) | (go_simp; rfl)); intro gb307 hg w18 hbox hb; have n0_ := Aside0.mk (Q12 (by repeat (first | (with_reducible first | exact HB.out | apply Q6 | apply Q4 | apply Q7) | exact HB.out)) hb); have n1_ := Aside0.mk (hbox); have n2_ := Aside0.mk ((by rw [hg]; exact (Q13 (by repeat (first | (with_reducible first | exact HB.out | apply Q6 | apply Q4 | apply Q7) | exact HB.out))) : w.heap.size ≤ gb307)); have n3_ := Aside0.mk ((by rw [hg]; exact (Q13 (by repeat (first | (with_reducible first | exact HB.out | apply Q6 | apply Q4 | apply Q7) | exact HB.out))) : w.heap.size ≤ gb307)); clear HB; have HB := n0_; have BK307 := n1_; have GW307 := n2_; have GE307 := n3_; clear n0_ n1_ n2_ n3_; clear hb hbox hg) | ((with_reducible refine gate_dst (N := 9) rfl ?_); (try (refine gate_guard (by rfl) ?_; dsimp only)); refine box_event ?hg (N := 9) ?hd (cs := #[.int .i64 0, .int .i64 0]) (t := 49) ?hr ?_; (case hd => rfl); (case hg => rfl); (case hr => first | (go_simp; done) | (go_simp; rfl)); intro gb308 hg w19 hbox hb; have n0_ := Aside0.mk (Q11 (g := gb307) (o := .cells #[.int .u64 0, .int .u64 0, .int .u64 0, .int .u64 0] 24 (0, 0)) (by (with_reducible repeat (first | refine blk_drewN ?_ _ | refine blk_drew ?_ | refine Q5 ?_ _)); exact BK307.out) hb); have n1_ := Aside0.mk (Q12 (by repeat (first | (with_reducible first | exact HB.out | apply Q6 | apply Q4 | apply Q7 | refine Q8 ?_ GE307.out) | exact HB.out)) hb); have n2_ := Aside0.mk (hbox); have n3_ := Aside0.mk ((by rw [hg]; exact (Q13 (by repeat (first | (with_reducible first | exact HB.out | apply Q6 | apply Q4 | apply Q7 | refine Q8 ?_ GE307.out) | exact HB.out))) : w.heap.size ≤ gb308)); have n4_ := Aside0.mk ((by rw [hg]; exact (Q13 (by repeat (first | (with_reducible first | exact HB.out | apply Q6 | apply Q4 | apply Q7 | refine Q8 ?_ GE307.out) | exact HB.out))) : w.heap.size ≤ gb308)); have n5_ := Aside0.mk ((by rw [hg]; exact Nat.ne_of_lt (blk_lt (g := gb307) (o := .cells #[.int .u64 0, .int .u64 0, .int .u64 0, .int .u64 0] 24 (0, 0)) (by (with_reducible repeat (first | refine blk_drewN ?_ _ | refine blk_drew ?_ | refine Q5 ?_ _)); exact BK307.out)) : gb307 ≠ gb308)); have n6_ := Aside0.mk ((by rw [hg]; exact Nat.ne_of_gt (blk_lt (g := gb307) (o := .cells #[.int .u64 0, .int .u64 0, .int .u64 0, .int .u64 0] 24 (0, 0)) (by (with_reducible repeat (first | refine blk_drewN ?_ _ | refine blk_drew ?_ | refine Q5 ?_ _)); exact BK307.out)) : gb308 ≠ gb307)); clear BK307; clear HB; have BK307 := n0_; have HB := n1_; have BK308 := n2_; have GW308 := n3_; have GE308 := n4_; have NB307_308 := n5_; have NB308_307 := n6_; clear n0_ n1_ n2_ n3_ n4_ n5_ n6_; clear hb hbox hg; have hnb20 := NB307_308.out; have hnc20 := NB308_307.out; have hcz21_0 : w19.cell? ⟨gb307, 0, none⟩ = some (.int .u64 0) := (Q10 BK307.out 0).trans rfl; have hcz21_1 : w19.cell? ⟨gb307, 1, none⟩ = some (.int .u64 0) := (Q10 BK307.out 1).trans rfl; have hcz21_2 : w19.cell? ⟨gb307, 2, none⟩ = some (.int .u64 0) := (Q10 BK307.out 2).trans rfl; have hcz21_3 : w19.cell? ⟨gb307, 3, none⟩ = some (.int .u64 0) := (Q10 BK307.out 3).trans rfl; have hfz21_0 := Q9 BK307.out 0; have hfz21_1 := Q9 BK307.out 1; have hfz21_2 := Q9 BK307.out 2; have hfz21_3 := Q9 BK307.out 3; have hcz22_0 : w19.cell? ⟨gb308, 0, none⟩ = some (.int .i64 0) := (Q10 BK308.out 0).trans rfl; have hcz22_1 : w19.cell? ⟨gb308, 1, none⟩ = some (.int .i64 0) := (Q10 BK308.out 1).trans rfl; have hfz22_0 := Q9 BK308.out 0; have hfz22_1 := Q9 BK308.out 1))
        go_ret
        exact ⟨by first | rfl | (simp [Q16, Q15] <;> rfl) | (simp [*, Q16, Q15] <;> rfl), by repeat (first | (with_reducible first | exact HB.out | apply Q6 | apply Q4 | apply Q7 | refine Q8 ?_ GE307.out | refine Q8 ?_ GE308.out) | exact HB.out)⟩
    · rw [if_neg c7] at H
      have c7b0 : (!(t305 == 0) || (!(t306 == 0))) = false := by simpa using c7
      clear c7
      have HC23 := Aside0.mk H
      clear H
      go_enter Try.func9, Try.ntmps9
      go_upto_region 6 with (first | ((with_reducible refine gate_callee (f := 34) rfl ?_); refine goesL_ (some 14) rfl rfl Try.func34 (by kernel_rfl) rfl #[] rfl (by (try simp only [List.map_toArray, List.map_cons, List.map_nil]); first | done | rfl | (simp only [List.length_drop, List.length_take]; rfl)) ?_; (with_reducible refine (dowellaw03_works.calls k  true _ A4.out).mono ?_); rintro e w24 ⟨rfl, hb⟩; refine ⟨_, rfl, ?_⟩; have n0_ := Aside0.mk (Q12 (by repeat (first | (with_reducible first | exact HB.out | apply Q6 | apply Q4 | apply Q7) | exact HB.out)) hb); clear HB; have HB := n0_; clear n0_; (try clear hb); (try clear hb2); (try clear hk); (try clear hi)) | ((with_reducible refine gate_callee (f := 31) rfl ?_); refine goesL_ (some 18) rfl rfl Try.func31 (by kernel_rfl) rfl #[.string a0, .int .i64 0] rfl (by (try simp only [List.map_toArray, List.map_cons, List.map_nil]); first | done | rfl | (simp only [List.length_drop, List.length_take]; rfl)) ?_; (with_reducible refine (class_Parse.calls a0 0 t300 t301 t302 t303 t304 t305 t306 _ A6.out).mono ?_); rintro e w25 ⟨rfl, hb⟩; refine ⟨_, rfl, ?_⟩; have n0_ := Aside0.mk (Q12 (by repeat (first | (with_reducible first | exact HB.out | apply Q6 | apply Q4 | apply Q7) | exact HB.out)) hb); clear HB; have HB := n0_; clear n0_; (try clear hb); (try clear hb2); (try clear hk); (try clear hi)) | ((with_reducible refine gate_dst (N := 7) rfl ?_); (try (refine gate_guard (by rfl) ?_; dsimp only)); refine box_event ?hg (N := 7) ?hd (cs := #[.int .u64 0, .int .u64 0, .int .u64 0, .int .u64 0]) (t := 24) ?hr ?_; (case hd => rfl); (case hg => rfl); (case hr => first | (go_simp; done) | (go_simp; rfl)); intro gb307 hg w26 hbox hb; have n0_ := Aside0.mk (Q12 (by repeat (first | (with_reducible first | exact HB.out | apply Q6 | apply Q4 | apply Q7) | exact HB.out)) hb); have n1_ := Aside0.mk (hbox); have n2_ := Aside0.mk ((by rw [hg]; exact (Q13 (by repeat (first | (with_reducible first | exact HB.out | apply Q6 | apply Q4 | apply Q7) | exact HB.out))) : w.heap.size ≤ gb307)); have n3_ := Aside0.mk ((by rw [hg]; exact (Q13 (by repeat (first | (with_reducible first | exact HB.out | apply Q6 | apply Q4 | apply Q7) | exact HB.out))) : w.heap.size ≤ gb307)); clear HB; have HB := n0_; have BK307 := n1_; have GW307 := n2_; have GE307 := n3_; clear n0_ n1_ n2_ n3_; clear hb hbox hg) | ((with_reducible refine gate_dst (N := 9) rfl ?_); (try (refine gate_guard (by rfl) ?_; dsimp only)); refine box_event ?hg (N := 9) ?hd (cs := #[.int .i64 0, .int .i64 0]) (t := 49) ?hr ?_; (case hd => rfl); (case hg => rfl); (case hr => first | (go_simp; done) | (go_simp; rfl)); intro gb308 hg w27 hbox hb; have n0_ := Aside0.mk (Q11 (g := gb307) (o := .cells #[.int .u64 0, .int .u64 0, .int .u64 0, .int .u64 0] 24 (0, 0)) (by (with_reducible repeat (first | refine blk_drewN ?_ _ | refine blk_drew ?_ | refine Q5 ?_ _)); exact BK307.out) hb); have n1_ := Aside0.mk (Q12 (by repeat (first | (with_reducible first | exact HB.out | apply Q6 | apply Q4 | apply Q7 | refine Q8 ?_ GE307.out) | exact HB.out)) hb); have n2_ := Aside0.mk (hbox); have n3_ := Aside0.mk ((by rw [hg]; exact (Q13 (by repeat (first | (with_reducible first | exact HB.out | apply Q6 | apply Q4 | apply Q7 | refine Q8 ?_ GE307.out) | exact HB.out))) : w.heap.size ≤ gb308)); have n4_ := Aside0.mk ((by rw [hg]; exact (Q13 (by repeat (first | (with_reducible first | exact HB.out | apply Q6 | apply Q4 | apply Q7 | refine Q8 ?_ GE307.out) | exact HB.out))) : w.heap.size ≤ gb308)); have n5_ := Aside0.mk ((by rw [hg]; exact Nat.ne_of_lt (blk_lt (g := gb307) (o := .cells #[.int .u64 0, .int .u64 0, .int .u64 0, .int .u64 0] 24 (0, 0)) (by (with_reducible repeat (first | refine blk_drewN ?_ _ | refine blk_drew ?_ | refine Q5 ?_ _)); exact BK307.out)) : gb307 ≠ gb308)); have n6_ := Aside0.mk ((by rw [hg]; exact Nat.ne_of_gt (blk_lt (g := gb307) (o := .cells #[.int .u64 0, .int .u64 0, .int .u64 0, .int .u64 0] 24 (0, 0)) (by (with_reducible repeat (first | refine blk_drewN ?_ _ | refine blk_drew ?_ | refine Q5 ?_ _)); exact BK307.out)) : gb308 ≠ gb307)); clear BK307; clear HB; have BK307 := n0_; have HB := n1_; have BK308 := n2_; have GW308 := n3_; have GE308 := n4_; have NB307_308 := n5_; have NB308_307 := n6_; clear n0_ n1_ n2_ n3_ n4_ n5_ n6_; clear hb hbox hg; have hnb28 := NB307_308.out; have hnc28 := NB308_307.out; have hcz29_0 : w27.cell? ⟨gb307, 0, none⟩ = some (.int .u64 0) := (Q10 BK307.out 0).trans rfl; have hcz29_1 : w27.cell? ⟨gb307, 1, none⟩ = some (.int .u64 0) := (Q10 BK307.out 1).trans rfl; have hcz29_2 : w27.cell? ⟨gb307, 2, none⟩ = some (.int .u64 0) := (Q10 BK307.out 2).trans rfl; have hcz29_3 : w27.cell? ⟨gb307, 3, none⟩ = some (.int .u64 0) := (Q10 BK307.out 3).trans rfl; have hfz29_0 := Q9 BK307.out 0; have hfz29_1 := Q9 BK307.out 1; have hfz29_2 := Q9 BK307.out 2; have hfz29_3 := Q9 BK307.out 3; have hcz30_0 : w27.cell? ⟨gb308, 0, none⟩ = some (.int .i64 0) := (Q10 BK308.out 0).trans rfl; have hcz30_1 : w27.cell? ⟨gb308, 1, none⟩ = some (.int .i64 0) := (Q10 BK308.out 1).trans rfl; have hfz30_0 := Q9 BK308.out 0; have hfz30_1 := Q9 BK308.out 1))
      (try simp only [Act.put, List.setIfInBounds_toArray, List.set_cons_zero, List.set_cons_succ])
      go_cut [39] (fun v39 wc => ∃ (kq : Nat) (x39_22 : Bool), v39 = .bool x39_22 ∧ Aside0 (dowellaw03_ClassCuts.j0 kq a0 a1 a2 t304 x39_22 t300 t301 t302 t303 t305 t306 = some r) ∧ Aside0 (kq ≤ k) ∧ Aside0 (wc.heap[gb307]? = some (.cells #[.int .u64 t300, .int .u64 t301, .int .u64 t302, .int .u64 t303] 24 (0, 0))) ∧ Aside0 (wc.heap[gb308]? = some (.cells #[.int .i64 t305, .int .i64 t306] 49 (0, 0))) ∧ Aside0 (Below w.heap.size w wc))
      case first =>
        have H := HC23.out
        clear HC23
        by_cases c31 : t304 < 2
        · rw [if_pos c31] at H
          have c31b0 : decide (t304 < 2) = true := decide_eq_true c31
          clear c31
          (first | rw [c31b0] | (simp only [i64_w, i32_w]; rw [c31b0]) | skip)
          have H' := Aside0.mk H
          clear H
          go_wp2
          go_meet
          case rel => exact ⟨_, (true), (by first | rfl | (simp; done) | (simp [*]; done)), H', ⟨by first | omega | exact Nat.le_refl _⟩, ⟨by (with_reducible repeat (first | refine blk_drewN ?_ _ | refine blk_drew ?_ | refine Q5 ?_ _)); refine Q14 ?_ NB307_308.out _; (with_reducible repeat (first | refine blk_drewN ?_ _ | refine blk_drew ?_ | refine Q5 ?_ _)); refine Q14 ?_ NB307_308.out _; (with_reducible repeat (first | refine blk_drewN ?_ _ | refine blk_drew ?_ | refine Q5 ?_ _)); refine blk_put (cs := #[.int .u64 t300, .int .u64 t301, .int .u64 t302, .int .u64 0]) ?_ 3 _ rfl; (with_reducible repeat (first | refine blk_drewN ?_ _ | refine blk_drew ?_ | refine Q5 ?_ _)); refine blk_put (cs := #[.int .u64 t300, .int .u64 t301, .int .u64 0, .int .u64 0]) ?_ 2 _ rfl; (with_reducible repeat (first | refine blk_drewN ?_ _ | refine blk_drew ?_ | refine Q5 ?_ _)); refine blk_put (cs := #[.int .u64 t300, .int .u64 0, .int .u64 0, .int .u64 0]) ?_ 1 _ rfl; (with_reducible repeat (first | refine blk_drewN ?_ _ | refine blk_drew ?_ | refine Q5 ?_ _)); refine blk_put (cs := #[.int .u64 0, .int .u64 0, .int .u64 0, .int .u64 0]) ?_ 0 _ rfl; (with_reducible repeat (first | refine blk_drewN ?_ _ | refine blk_drew ?_ | refine Q5 ?_ _)); exact BK307.out⟩, ⟨by (with_reducible repeat (first | refine blk_drewN ?_ _ | refine blk_drew ?_ | refine Q5 ?_ _)); refine blk_put (cs := #[.int .i64 t305, .int .i64 0]) ?_ 1 _ rfl; (with_reducible repeat (first | refine blk_drewN ?_ _ | refine blk_drew ?_ | refine Q5 ?_ _)); refine blk_put (cs := #[.int .i64 0, .int .i64 0]) ?_ 0 _ rfl; (with_reducible repeat (first | refine blk_drewN ?_ _ | refine blk_drew ?_ | refine Q5 ?_ _)); refine Q14 ?_ NB308_307.out _; (with_reducible repeat (first | refine blk_drewN ?_ _ | refine blk_drew ?_ | refine Q5 ?_ _)); refine Q14 ?_ NB308_307.out _; (with_reducible repeat (first | refine blk_drewN ?_ _ | refine blk_drew ?_ | refine Q5 ?_ _)); refine Q14 ?_ NB308_307.out _; (with_reducible repeat (first | refine blk_drewN ?_ _ | refine blk_drew ?_ | refine Q5 ?_ _)); refine Q14 ?_ NB308_307.out _; (with_reducible repeat (first | refine blk_drewN ?_ _ | refine blk_drew ?_ | refine Q5 ?_ _)); exact BK308.out⟩, ⟨by repeat (first | (with_reducible first | exact HB.out | apply Q6 | apply Q4 | apply Q7 | refine Q8 ?_ GE307.out | refine Q8 ?_ GE308.out) | exact HB.out)⟩⟩
        · rw [if_neg c31] at H
          have c31b0 : decide (t304 < 2) = false := decide_eq_false c31
          clear c31
          (first | rw [c31b0] | (simp only [i64_w, i32_w]; rw [c31b0]) | skip)
          have H' := Aside0.mk H
          clear H
          go_wp2
          go_meet
          case rel => exact ⟨_, (decide (t304 > (a0.size : Int))), (by first | rfl | (simp; done) | (simp [*]; done)), H', ⟨by first | omega | exact Nat.le_refl _⟩, ⟨by (with_reducible repeat (first | refine blk_drewN ?_ _ | refine blk_drew ?_ | refine Q5 ?_ _)); refine Q14 ?_ NB307_308.out _; (with_reducible repeat (first | refine blk_drewN ?_ _ | refine blk_drew ?_ | refine Q5 ?_ _)); refine Q14 ?_ NB307_308.out _; (with_reducible repeat (first | refine blk_drewN ?_ _ | refine blk_drew ?_ | refine Q5 ?_ _)); refine blk_put (cs := #[.int .u64 t300, .int .u64 t301, .int .u64 t302, .int .u64 0]) ?_ 3 _ rfl; (with_reducible repeat (first | refine blk_drewN ?_ _ | refine blk_drew ?_ | refine Q5 ?_ _)); refine blk_put (cs := #[.int .u64 t300, .int .u64 t301, .int .u64 0, .int .u64 0]) ?_ 2 _ rfl; (with_reducible repeat (first | refine blk_drewN ?_ _ | refine blk_drew ?_ | refine Q5 ?_ _)); refine blk_put (cs := #[.int .u64 t300, .int .u64 0, .int .u64 0, .int .u64 0]) ?_ 1 _ rfl; (with_reducible repeat (first | refine blk_drewN ?_ _ | refine blk_drew ?_ | refine Q5 ?_ _)); refine blk_put (cs := #[.int .u64 0, .int .u64 0, .int .u64 0, .int .u64 0]) ?_ 0 _ rfl; (with_reducible repeat (first | refine blk_drewN ?_ _ | refine blk_drew ?_ | refine Q5 ?_ _)); exact BK307.out⟩, ⟨by (with_reducible repeat (first | refine blk_drewN ?_ _ | refine blk_drew ?_ | refine Q5 ?_ _)); refine blk_put (cs := #[.int .i64 t305, .int .i64 0]) ?_ 1 _ rfl; (with_reducible repeat (first | refine blk_drewN ?_ _ | refine blk_drew ?_ | refine Q5 ?_ _)); refine blk_put (cs := #[.int .i64 0, .int .i64 0]) ?_ 0 _ rfl; (with_reducible repeat (first | refine blk_drewN ?_ _ | refine blk_drew ?_ | refine Q5 ?_ _)); refine Q14 ?_ NB308_307.out _; (with_reducible repeat (first | refine blk_drewN ?_ _ | refine blk_drew ?_ | refine Q5 ?_ _)); refine Q14 ?_ NB308_307.out _; (with_reducible repeat (first | refine blk_drewN ?_ _ | refine blk_drew ?_ | refine Q5 ?_ _)); refine Q14 ?_ NB308_307.out _; (with_reducible repeat (first | refine blk_drewN ?_ _ | refine blk_drew ?_ | refine Q5 ?_ _)); refine Q14 ?_ NB308_307.out _; (with_reducible repeat (first | refine blk_drewN ?_ _ | refine blk_drew ?_ | refine Q5 ?_ _)); exact BK308.out⟩, ⟨by repeat (first | (with_reducible first | exact HB.out | apply Q6 | apply Q4 | apply Q7 | refine Q8 ?_ GE307.out | refine Q8 ?_ GE308.out) | exact HB.out)⟩⟩
      case rest =>
        clear HC23
        try clear c1
        try clear c2
        try clear p2
        try clear c3
        try clear c5
        try clear c7
        try clear c7b0
        try clear c8
        try clear c8b0
        try clear c8b1
        try clear c9
        try clear c13
        try clear c20
        try clear c28
        try clear c31
        try clear c31b0
        try clear hcz14_0
        try clear hcz14_1
        try clear hcz14_2
        try clear hcz14_3
        try clear hcz15_0
        try clear hcz15_1
        try clear hcz21_0
        try clear hcz21_1
        try clear hcz21_2
        try clear hcz21_3
        try clear hcz22_0
        try clear hcz22_1
        try clear hcz29_0
        try clear hcz29_1
        try clear hcz29_2
        try clear hcz29_3
        try clear hcz30_0
        try clear hcz30_1
        try clear hfz14_0
        try clear hfz14_1
        try clear hfz14_2
        try clear hfz14_3
        try clear hfz15_0
        try clear hfz15_1
        try clear hfz21_0
        try clear hfz21_1
        try clear hfz21_2
        try clear hfz21_3
        try clear hfz22_0
        try clear hfz22_1
        try clear hfz29_0
        try clear hfz29_1
        try clear hfz29_2
        try clear hfz29_3
        try clear hfz30_0
        try clear hfz30_1
        obtain ⟨kq, x39_22, rfl, HA, HJ22, BK307, BK308, HB⟩ := hcut
        cases kq with
        | zero => exact absurd HA.out (by simp [dowellaw03_ClassCuts.j0])
        | succ kj22 =>
          have H := HA.out
          clear HA
          simp only [dowellaw03_ClassCuts.j0] at H
          by_cases c32 : x39_22 = true
          · subst c32
            have H1 : (some false) = some r := by rw [if_pos rfl] at H; exact H
            clear H
            have H := H1
            clear H1
            obtain rfl := Option.some.inj H
            go_wp2
            go_ret
            exact ⟨by first | rfl | (simp [Q16, Q15] <;> rfl) | (simp [*, Q16, Q15] <;> rfl), by repeat (first | (with_reducible first | exact HB.out | apply Q6 | apply Q4 | apply Q7 | refine Q8 ?_ GE307.out | refine Q8 ?_ GE308.out) | exact HB.out)⟩
          · replace c32 := Bool.eq_false_iff.mpr c32
            subst c32
            have H1 : (if 0 ≤ t304 then (if t304 ≤ (a0.size : Int) then (if (a0.extract 0 (t304 : Int).toNat).size + a1.size ≤ 9223372036854775807 then ((class_Parse.f ((a0.extract 0 (t304 : Int).toNat) ++ a1) 0).bind fun bt309 => (if (!(bt309.1 == t300) || (!(bt309.2.1 == t301) || (!(bt309.2.2.1 == t302) || (!(bt309.2.2.2.1 == t303))))) = true then (dowellaw03_ClassCuts.j1 kj22 a0 a2 t304 true) else (if bt309.2.2.2.2.1 = t304 then (dowellaw03_ClassCuts.j1 kj22 a0 a2 t304 (!(bt309.2.2.2.2.2.1 == t305) || (!(bt309.2.2.2.2.2.2 == t306)))) else (dowellaw03_ClassCuts.j1 kj22 a0 a2 t304 true)))) else (none)) else (none)) else (none)) = some r := by rw [if_neg (show ¬ (false = true) by decide)] at H; exact H
            clear H
            have H := H1
            clear H1
            by_cases c33 : 0 ≤ t304
            · rw [if_pos c33] at H
              have c33b0 := eq_true c33
              have c33b1 : decide (0 ≤ t304) = true := decide_eq_true c33
              clear c33
              by_cases c34 : t304 ≤ (a0.size : Int)
              · rw [if_pos c34] at H
                have c34b0 := eq_true c34
                have c34b1 : decide (t304 ≤ (a0.size : Int)) = true := decide_eq_true c34
                clear c34
                by_cases c35 : (a0.extract 0 (t304 : Int).toNat).size + a1.size ≤ 9223372036854775807
                · rw [if_pos c35] at H
                  have c35b0 := eq_true c35
                  have c35b1 : decide ((a0.extract 0 (t304 : Int).toNat).size + a1.size ≤ 9223372036854775807) = true := decide_eq_true c35
                  try have c35b2 : (9223372036854775807 < (a0.extract 0 (t304 : Int).toNat).size + a1.size) = False := eq_false (Nat.not_lt.2 c35)
                  replace H := Option.bind_eq_some_iff.mp H
                  obtain ⟨⟨t309, t310, t311, t312, t313, t314, t315⟩, A360, H⟩ := H
                  replace H : (if (!(t309 == t300) || (!(t310 == t301) || (!(t311 == t302) || (!(t312 == t303))))) = true then (dowellaw03_ClassCuts.j1 kj22 a0 a2 t304 true) else (if t313 = t304 then (dowellaw03_ClassCuts.j1 kj22 a0 a2 t304 (!(t314 == t305) || (!(t315 == t306)))) else (dowellaw03_ClassCuts.j1 kj22 a0 a2 t304 true))) = some r := H
                  have A36 := Aside0.mk A360
                  clear A360
                  have HC37 := Aside0.mk H
                  clear H
                  go_upto_region 9 with (first | ((with_reducible refine gate_callee (f := 31) rfl ?_); refine goesL_ (some 46) rfl rfl Try.func31 (by kernel_rfl) rfl #[.string ((a0.extract 0 (t304 : Int).toNat) ++ a1), .int .i64 0] rfl (by (try simp only [List.map_toArray, List.map_cons, List.map_nil]); first | done | rfl | (simp only [List.length_drop, List.length_take]; rfl)) ?_; (with_reducible refine (class_Parse.calls ((a0.extract 0 (t304 : Int).toNat) ++ a1) 0 t309 t310 t311 t312 t313 t314 t315 _ A36.out).mono ?_); rintro e w38 ⟨rfl, hb⟩; refine ⟨_, rfl, ?_⟩; have n0_ := Aside0.mk (Q11 (g := gb307) (o := .cells #[.int .u64 t300, .int .u64 t301, .int .u64 t302, .int .u64 t303] 24 (0, 0)) (by (with_reducible repeat (first | refine blk_drewN ?_ _ | refine blk_drew ?_ | refine Q5 ?_ _)); exact BK307.out) hb); have n1_ := Aside0.mk (Q11 (g := gb308) (o := .cells #[.int .i64 t305, .int .i64 t306] 49 (0, 0)) (by (with_reducible repeat (first | refine blk_drewN ?_ _ | refine blk_drew ?_ | refine Q5 ?_ _)); exact BK308.out) hb); have n2_ := Aside0.mk (Q12 (by repeat (first | (with_reducible first | exact HB.out | apply Q6 | apply Q4 | apply Q7 | refine Q8 ?_ GE307.out | refine Q8 ?_ GE308.out) | exact HB.out)) hb); clear BK307; clear BK308; clear HB; have BK307 := n0_; have BK308 := n1_; have HB := n2_; clear n0_ n1_ n2_; (try clear hb); (try clear hb2); (try clear hk); (try clear hi)) | ((with_reducible refine gate_dst (N := 10) rfl ?_); (try (refine gate_guard (by rfl) ?_; dsimp only)); refine box_event ?hg (N := 10) ?hd (cs := #[.int .u64 0, .int .u64 0, .int .u64 0, .int .u64 0]) (t := 24) ?hr ?_; (case hd => rfl); (case hg => rfl); (case hr => first | (go_simp; done) | (go_simp; rfl)); intro gb316 hg w39 hbox hb; have n0_ := Aside0.mk (Q11 (g := gb307) (o := .cells #[.int .u64 t300, .int .u64 t301, .int .u64 t302, .int .u64 t303] 24 (0, 0)) (by (with_reducible repeat (first | refine blk_drewN ?_ _ | refine blk_drew ?_ | refine Q5 ?_ _)); exact BK307.out) hb); have n1_ := Aside0.mk (Q11 (g := gb308) (o := .cells #[.int .i64 t305, .int .i64 t306] 49 (0, 0)) (by (with_reducible repeat (first | refine blk_drewN ?_ _ | refine blk_drew ?_ | refine Q5 ?_ _)); exact BK308.out) hb); have n2_ := Aside0.mk (Q12 (by repeat (first | (with_reducible first | exact HB.out | apply Q6 | apply Q4 | apply Q7 | refine Q8 ?_ GE307.out | refine Q8 ?_ GE308.out) | exact HB.out)) hb); have n3_ := Aside0.mk (hbox); have n4_ := Aside0.mk ((by rw [hg]; exact (Q13 (by repeat (first | (with_reducible first | exact HB.out | apply Q6 | apply Q4 | apply Q7 | refine Q8 ?_ GE307.out | refine Q8 ?_ GE308.out) | exact HB.out))) : w.heap.size ≤ gb316)); have n5_ := Aside0.mk ((by rw [hg]; exact (Q13 (by repeat (first | (with_reducible first | exact HB.out | apply Q6 | apply Q4 | apply Q7 | refine Q8 ?_ GE307.out | refine Q8 ?_ GE308.out) | exact HB.out))) : w.heap.size ≤ gb316)); have n6_ := Aside0.mk ((by rw [hg]; exact Nat.ne_of_lt (blk_lt (g := gb307) (o := .cells #[.int .u64 t300, .int .u64 t301, .int .u64 t302, .int .u64 t303] 24 (0, 0)) (by (with_reducible repeat (first | refine blk_drewN ?_ _ | refine blk_drew ?_ | refine Q5 ?_ _)); exact BK307.out)) : gb307 ≠ gb316)); have n7_ := Aside0.mk ((by rw [hg]; exact Nat.ne_of_gt (blk_lt (g := gb307) (o := .cells #[.int .u64 t300, .int .u64 t301, .int .u64 t302, .int .u64 t303] 24 (0, 0)) (by (with_reducible repeat (first | refine blk_drewN ?_ _ | refine blk_drew ?_ | refine Q5 ?_ _)); exact BK307.out)) : gb316 ≠ gb307)); have n8_ := Aside0.mk ((by rw [hg]; exact Nat.ne_of_lt (blk_lt (g := gb308) (o := .cells #[.int .i64 t305, .int .i64 t306] 49 (0, 0)) (by (with_reducible repeat (first | refine blk_drewN ?_ _ | refine blk_drew ?_ | refine Q5 ?_ _)); exact BK308.out)) : gb308 ≠ gb316)); have n9_ := Aside0.mk ((by rw [hg]; exact Nat.ne_of_gt (blk_lt (g := gb308) (o := .cells #[.int .i64 t305, .int .i64 t306] 49 (0, 0)) (by (with_reducible repeat (first | refine blk_drewN ?_ _ | refine blk_drew ?_ | refine Q5 ?_ _)); exact BK308.out)) : gb316 ≠ gb308)); clear BK307; clear BK308; clear HB; have BK307 := n0_; have BK308 := n1_; have HB := n2_; have BK316 := n3_; have GW316 := n4_; have GE316 := n5_; have NB307_316 := n6_; have NB316_307 := n7_; have NB308_316 := n8_; have NB316_308 := n9_; clear n0_ n1_ n2_ n3_ n4_ n5_ n6_ n7_ n8_ n9_; clear hb hbox hg) | ((with_reducible refine gate_dst (N := 12) rfl ?_); (try (refine gate_guard (by rfl) ?_; dsimp only)); refine box_event ?hg (N := 12) ?hd (cs := #[.int .i64 0, .int .i64 0]) (t := 49) ?hr ?_; (case hd => rfl); (case hg => rfl); (case hr => first | (go_simp; done) | (go_simp; rfl)); intro gb317 hg w40 hbox hb; have n0_ := Aside0.mk (Q11 (g := gb307) (o := .cells #[.int .u64 t300, .int .u64 t301, .int .u64 t302, .int .u64 t303] 24 (0, 0)) (by (with_reducible repeat (first | refine blk_drewN ?_ _ | refine blk_drew ?_ | refine Q5 ?_ _)); exact BK307.out) hb); have n1_ := Aside0.mk (Q11 (g := gb308) (o := .cells #[.int .i64 t305, .int .i64 t306] 49 (0, 0)) (by (with_reducible repeat (first | refine blk_drewN ?_ _ | refine blk_drew ?_ | refine Q5 ?_ _)); exact BK308.out) hb); have n2_ := Aside0.mk (Q11 (g := gb316) (o := .cells #[.int .u64 0, .int .u64 0, .int .u64 0, .int .u64 0] 24 (0, 0)) (by (with_reducible repeat (first | refine blk_drewN ?_ _ | refine blk_drew ?_ | refine Q5 ?_ _)); exact BK316.out) hb); have n3_ := Aside0.mk (Q12 (by repeat (first | (with_reducible first | exact HB.out | apply Q6 | apply Q4 | apply Q7 | refine Q8 ?_ GE307.out | refine Q8 ?_ GE308.out | refine Q8 ?_ GE316.out) | exact HB.out)) hb); have n4_ := Aside0.mk (hbox); have n5_ := Aside0.mk ((by rw [hg]; exact (Q13 (by repeat (first | (with_reducible first | exact HB.out | apply Q6 | apply Q4 | apply Q7 | refine Q8 ?_ GE307.out | refine Q8 ?_ GE308.out | refine Q8 ?_ GE316.out) | exact HB.out))) : w.heap.size ≤ gb317)); have n6_ := Aside0.mk ((by rw [hg]; exact (Q13 (by repeat (first | (with_reducible first | exact HB.out | apply Q6 | apply Q4 | apply Q7 | refine Q8 ?_ GE307.out | refine Q8 ?_ GE308.out | refine Q8 ?_ GE316.out) | exact HB.out))) : w.heap.size ≤ gb317)); have n7_ := Aside0.mk ((by rw [hg]; exact Nat.ne_of_lt (blk_lt (g := gb307) (o := .cells #[.int .u64 t300, .int .u64 t301, .int .u64 t302, .int .u64 t303] 24 (0, 0)) (by (with_reducible repeat (first | refine blk_drewN ?_ _ | refine blk_drew ?_ | refine Q5 ?_ _)); exact BK307.out)) : gb307 ≠ gb317)); have n8_ := Aside0.mk ((by rw [hg]; exact Nat.ne_of_gt (blk_lt (g := gb307) (o := .cells #[.int .u64 t300, .int .u64 t301, .int .u64 t302, .int .u64 t303] 24 (0, 0)) (by (with_reducible repeat (first | refine blk_drewN ?_ _ | refine blk_drew ?_ | refine Q5 ?_ _)); exact BK307.out)) : gb317 ≠ gb307)); have n9_ := Aside0.mk ((by rw [hg]; exact Nat.ne_of_lt (blk_lt (g := gb308) (o := .cells #[.int .i64 t305, .int .i64 t306] 49 (0, 0)) (by (with_reducible repeat (first | refine blk_drewN ?_ _ | refine blk_drew ?_ | refine Q5 ?_ _)); exact BK308.out)) : gb308 ≠ gb317)); have n10_ := Aside0.mk ((by rw [hg]; exact Nat.ne_of_gt (blk_lt (g := gb308) (o := .cells #[.int .i64 t305, .int .i64 t306] 49 (0, 0)) (by (with_reducible repeat (first | refine blk_drewN ?_ _ | refine blk_drew ?_ | refine Q5 ?_ _)); exact BK308.out)) : gb317 ≠ gb308)); have n11_ := Aside0.mk ((by rw [hg]; exact Nat.ne_of_lt (blk_lt (g := gb316) (o := .cells #[.int .u64 0, .int .u64 0, .int .u64 0, .int .u64 0] 24 (0, 0)) (by (with_reducible repeat (first | refine blk_drewN ?_ _ | refine blk_drew ?_ | refine Q5 ?_ _)); exact BK316.out)) : gb316 ≠ gb317)); have n12_ := Aside0.mk ((by rw [hg]; exact Nat.ne_of_gt (blk_lt (g := gb316) (o := .cells #[.int .u64 0, .int .u64 0, .int .u64 0, .int .u64 0] 24 (0, 0)) (by (with_reducible repeat (first | refine blk_drewN ?_ _ | refine blk_drew ?_ | refine Q5 ?_ _)); exact BK316.out)) : gb317 ≠ gb316)); clear BK307; clear BK308; clear BK316; clear HB; have BK307 := n0_; have BK308 := n1_; have BK316 := n2_; have HB := n3_; have BK317 := n4_; have GW317 := n5_; have GE317 := n6_; have NB307_317 := n7_; have NB317_307 := n8_; have NB308_317 := n9_; have NB317_308 := n10_; have NB316_317 := n11_; have NB317_316 := n12_; clear n0_ n1_ n2_ n3_ n4_ n5_ n6_ n7_ n8_ n9_ n10_ n11_ n12_; clear hb hbox hg; have hnb41 := NB316_307.out; have hnc41 := NB307_316.out; have hnb42 := NB316_308.out; have hnc42 := NB308_316.out; have hnb43 := NB316_317.out; have hnc43 := NB317_316.out; have hcz44_0 : w40.cell? ⟨gb316, 0, none⟩ = some (.int .u64 0) := (Q10 BK316.out 0).trans rfl; have hcz44_1 : w40.cell? ⟨gb316, 1, none⟩ = some (.int .u64 0) := (Q10 BK316.out 1).trans rfl; have hcz44_2 : w40.cell? ⟨gb316, 2, none⟩ = some (.int .u64 0) := (Q10 BK316.out 2).trans rfl; have hcz44_3 : w40.cell? ⟨gb316, 3, none⟩ = some (.int .u64 0) := (Q10 BK316.out 3).trans rfl; have hfz44_0 := Q9 BK316.out 0; have hfz44_1 := Q9 BK316.out 1; have hfz44_2 := Q9 BK316.out 2; have hfz44_3 := Q9 BK316.out 3; have hnb45 := NB317_307.out; have hnc45 := NB307_317.out; have hnb46 := NB317_308.out; have hnc46 := NB308_317.out; have hcz47_0 : w40.cell? ⟨gb317, 0, none⟩ = some (.int .i64 0) := (Q10 BK317.out 0).trans rfl; have hcz47_1 : w40.cell? ⟨gb317, 1, none⟩ = some (.int .i64 0) := (Q10 BK317.out 1).trans rfl; have hfz47_0 := Q9 BK317.out 0; have hfz47_1 := Q9 BK317.out 1))
                  (try simp only [Act.put, List.setIfInBounds_toArray, List.set_cons_zero, List.set_cons_succ])
                  go_cut [62] (fun v62 wc => ∃ (kq : Nat) (x62_36 : Bool), v62 = .bool x62_36 ∧ Aside0 (dowellaw03_ClassCuts.j1 kq a0 a2 t304 x62_36 = some r) ∧ Aside0 (kq ≤ kj22) ∧ Aside0 (wc.heap[gb307]? = some (.cells #[.int .u64 t300, .int .u64 t301, .int .u64 t302, .int .u64 t303] 24 (0, 0))) ∧ Aside0 (wc.heap[gb308]? = some (.cells #[.int .i64 t305, .int .i64 t306] 49 (0, 0))) ∧ Aside0 (wc.heap[gb316]? = some (.cells #[.int .u64 t309, .int .u64 t310, .int .u64 t311, .int .u64 t312] 24 (0, 0))) ∧ Aside0 (wc.heap[gb317]? = some (.cells #[.int .i64 t314, .int .i64 t315] 49 (0, 0))) ∧ Aside0 (Below w.heap.size w wc))
                  case first =>
                    have H := HC37.out
                    clear HC37
                    by_cases c48 : (!(t309 == t300) || (!(t310 == t301) || (!(t311 == t302) || (!(t312 == t303))))) = true
                    · rw [if_pos c48] at H
                      have c48b0 : (!(t309 == t300) || (!(t310 == t301) || (!(t311 == t302) || (!(t312 == t303))))) = true := c48
                      clear c48
                      (first | rw [c48b0] | (simp only [i64_w, i32_w]; rw [c48b0]) | skip)
                      have H' := Aside0.mk H
                      clear H
                      have hnb49 := NB316_307.out
                      have hnc49 := NB307_316.out
                      have hnb50 := NB316_308.out
                      have hnc50 := NB308_316.out
                      have hnb51 := NB316_317.out
                      have hnc51 := NB317_316.out
                      have hcz52_0 : w40.cell? ⟨gb316, 0, none⟩ = some (.int .u64 0) := (Q10 BK316.out 0).trans rfl
                      have hcz52_1 : w40.cell? ⟨gb316, 1, none⟩ = some (.int .u64 0) := (Q10 BK316.out 1).trans rfl
                      have hcz52_2 : w40.cell? ⟨gb316, 2, none⟩ = some (.int .u64 0) := (Q10 BK316.out 2).trans rfl
                      have hcz52_3 : w40.cell? ⟨gb316, 3, none⟩ = some (.int .u64 0) := (Q10 BK316.out 3).trans rfl
                      have hfz52_0 := Q9 BK316.out 0
                      have hfz52_1 := Q9 BK316.out 1
                      have hfz52_2 := Q9 BK316.out 2
                      have hfz52_3 := Q9 BK316.out 3
                      have hnb53 := NB307_308.out
                      have hnc53 := NB308_307.out
                      have hnb54 := NB307_317.out
                      have hnc54 := NB317_307.out
                      have hcz55_0 : w40.cell? ⟨gb307, 0, none⟩ = some (.int .u64 t300) := (Q10 BK307.out 0).trans rfl
                      have hcz55_1 : w40.cell? ⟨gb307, 1, none⟩ = some (.int .u64 t301) := (Q10 BK307.out 1).trans rfl
                      have hcz55_2 : w40.cell? ⟨gb307, 2, none⟩ = some (.int .u64 t302) := (Q10 BK307.out 2).trans rfl
                      have hcz55_3 : w40.cell? ⟨gb307, 3, none⟩ = some (.int .u64 t303) := (Q10 BK307.out 3).trans rfl
                      have hfz55_0 := Q9 BK307.out 0
                      have hfz55_1 := Q9 BK307.out 1
                      have hfz55_2 := Q9 BK307.out 2
                      have hfz55_3 := Q9 BK307.out 3
                      go_wp2
                      go_meet
                      case rel => exact ⟨_, (true), (by first | rfl | (simp; done) | (simp [*]; done)), H', ⟨by have := HJ22.out; first | omega | exact Nat.le_refl _⟩, ⟨by (with_reducible repeat (first | refine blk_drewN ?_ _ | refine blk_drew ?_ | refine Q5 ?_ _)); refine Q14 ?_ NB307_317.out _; (with_reducible repeat (first | refine blk_drewN ?_ _ | refine blk_drew ?_ | refine Q5 ?_ _)); refine Q14 ?_ NB307_317.out _; (with_reducible repeat (first | refine blk_drewN ?_ _ | refine blk_drew ?_ | refine Q5 ?_ _)); refine Q14 ?_ NB307_316.out _; (with_reducible repeat (first | refine blk_drewN ?_ _ | refine blk_drew ?_ | refine Q5 ?_ _)); refine Q14 ?_ NB307_316.out _; (with_reducible repeat (first | refine blk_drewN ?_ _ | refine blk_drew ?_ | refine Q5 ?_ _)); refine Q14 ?_ NB307_316.out _; (with_reducible repeat (first | refine blk_drewN ?_ _ | refine blk_drew ?_ | refine Q5 ?_ _)); refine Q14 ?_ NB307_316.out _; (with_reducible repeat (first | refine blk_drewN ?_ _ | refine blk_drew ?_ | refine Q5 ?_ _)); exact BK307.out⟩, ⟨by (with_reducible repeat (first | refine blk_drewN ?_ _ | refine blk_drew ?_ | refine Q5 ?_ _)); refine Q14 ?_ NB308_317.out _; (with_reducible repeat (first | refine blk_drewN ?_ _ | refine blk_drew ?_ | refine Q5 ?_ _)); refine Q14 ?_ NB308_317.out _; (with_reducible repeat (first | refine blk_drewN ?_ _ | refine blk_drew ?_ | refine Q5 ?_ _)); refine Q14 ?_ NB308_316.out _; (with_reducible repeat (first | refine blk_drewN ?_ _ | refine blk_drew ?_ | refine Q5 ?_ _)); refine Q14 ?_ NB308_316.out _; (with_reducible repeat (first | refine blk_drewN ?_ _ | refine blk_drew ?_ | refine Q5 ?_ _)); refine Q14 ?_ NB308_316.out _; (with_reducible repeat (first | refine blk_drewN ?_ _ | refine blk_drew ?_ | refine Q5 ?_ _)); refine Q14 ?_ NB308_316.out _; (with_reducible repeat (first | refine blk_drewN ?_ _ | refine blk_drew ?_ | refine Q5 ?_ _)); exact BK308.out⟩, ⟨by (with_reducible repeat (first | refine blk_drewN ?_ _ | refine blk_drew ?_ | refine Q5 ?_ _)); refine Q14 ?_ NB316_317.out _; (with_reducible repeat (first | refine blk_drewN ?_ _ | refine blk_drew ?_ | refine Q5 ?_ _)); refine Q14 ?_ NB316_317.out _; (with_reducible repeat (first | refine blk_drewN ?_ _ | refine blk_drew ?_ | refine Q5 ?_ _)); refine blk_put (cs := #[.int .u64 t309, .int .u64 t310, .int .u64 t311, .int .u64 0]) ?_ 3 _ rfl; (with_reducible repeat (first | refine blk_drewN ?_ _ | refine blk_drew ?_ | refine Q5 ?_ _)); refine blk_put (cs := #[.int .u64 t309, .int .u64 t310, .int .u64 0, .int .u64 0]) ?_ 2 _ rfl; (with_reducible repeat (first | refine blk_drewN ?_ _ | refine blk_drew ?_ | refine Q5 ?_ _)); refine blk_put (cs := #[.int .u64 t309, .int .u64 0, .int .u64 0, .int .u64 0]) ?_ 1 _ rfl; (with_reducible repeat (first | refine blk_drewN ?_ _ | refine blk_drew ?_ | refine Q5 ?_ _)); refine blk_put (cs := #[.int .u64 0, .int .u64 0, .int .u64 0, .int .u64 0]) ?_ 0 _ rfl; (with_reducible repeat (first | refine blk_drewN ?_ _ | refine blk_drew ?_ | refine Q5 ?_ _)); exact BK316.out⟩, ⟨by (with_reducible repeat (first | refine blk_drewN ?_ _ | refine blk_drew ?_ | refine Q5 ?_ _)); refine blk_put (cs := #[.int .i64 t314, .int .i64 0]) ?_ 1 _ rfl; (with_reducible repeat (first | refine blk_drewN ?_ _ | refine blk_drew ?_ | refine Q5 ?_ _)); refine blk_put (cs := #[.int .i64 0, .int .i64 0]) ?_ 0 _ rfl; (with_reducible repeat (first | refine blk_drewN ?_ _ | refine blk_drew ?_ | refine Q5 ?_ _)); refine Q14 ?_ NB317_316.out _; (with_reducible repeat (first | refine blk_drewN ?_ _ | refine blk_drew ?_ | refine Q5 ?_ _)); refine Q14 ?_ NB317_316.out _; (with_reducible repeat (first | refine blk_drewN ?_ _ | refine blk_drew ?_ | refine Q5 ?_ _)); refine Q14 ?_ NB317_316.out _; (with_reducible repeat (first | refine blk_drewN ?_ _ | refine blk_drew ?_ | refine Q5 ?_ _)); refine Q14 ?_ NB317_316.out _; (with_reducible repeat (first | refine blk_drewN ?_ _ | refine blk_drew ?_ | refine Q5 ?_ _)); exact BK317.out⟩, ⟨by repeat (first | (with_reducible first | exact HB.out | apply Q6 | apply Q4 | apply Q7 | refine Q8 ?_ GE307.out | refine Q8 ?_ GE308.out | refine Q8 ?_ GE316.out | refine Q8 ?_ GE317.out) | exact HB.out)⟩⟩
                    · rw [if_neg c48] at H
                      have c48b0 : (!(t309 == t300) || (!(t310 == t301) || (!(t311 == t302) || (!(t312 == t303))))) = false := by simpa using c48
                      clear c48
                      (first | rw [c48b0] | (simp only [i64_w, i32_w]; rw [c48b0]) | skip)
                      by_cases c56 : t313 = t304
                      · rw [if_pos c56] at H
                        have c56b0 : (t313 == t304) = true := beq_iff_eq.mpr c56
                        have c56b1 : (t313 != t304) = false := bne_eq_false_iff_eq.mpr c56
                        clear c56
                        have H' := Aside0.mk H
                        clear H
                        have hnb57 := NB316_307.out
                        have hnc57 := NB307_316.out
                        have hnb58 := NB316_308.out
                        have hnc58 := NB308_316.out
                        have hnb59 := NB316_317.out
                        have hnc59 := NB317_316.out
                        have hcz60_0 : w40.cell? ⟨gb316, 0, none⟩ = some (.int .u64 0) := (Q10 BK316.out 0).trans rfl
                        have hcz60_1 : w40.cell? ⟨gb316, 1, none⟩ = some (.int .u64 0) := (Q10 BK316.out 1).trans rfl
                        have hcz60_2 : w40.cell? ⟨gb316, 2, none⟩ = some (.int .u64 0) := (Q10 BK316.out 2).trans rfl
                        have hcz60_3 : w40.cell? ⟨gb316, 3, none⟩ = some (.int .u64 0) := (Q10 BK316.out 3).trans rfl
                        have hfz60_0 := Q9 BK316.out 0
                        have hfz60_1 := Q9 BK316.out 1
                        have hfz60_2 := Q9 BK316.out 2
                        have hfz60_3 := Q9 BK316.out 3
                        have hnb61 := NB307_308.out
                        have hnc61 := NB308_307.out
                        have hnb62 := NB307_317.out
                        have hnc62 := NB317_307.out
                        have hcz63_0 : w40.cell? ⟨gb307, 0, none⟩ = some (.int .u64 t300) := (Q10 BK307.out 0).trans rfl
                        have hcz63_1 : w40.cell? ⟨gb307, 1, none⟩ = some (.int .u64 t301) := (Q10 BK307.out 1).trans rfl
                        have hcz63_2 : w40.cell? ⟨gb307, 2, none⟩ = some (.int .u64 t302) := (Q10 BK307.out 2).trans rfl
                        have hcz63_3 : w40.cell? ⟨gb307, 3, none⟩ = some (.int .u64 t303) := (Q10 BK307.out 3).trans rfl
                        have hfz63_0 := Q9 BK307.out 0
                        have hfz63_1 := Q9 BK307.out 1
                        have hfz63_2 := Q9 BK307.out 2
                        have hfz63_3 := Q9 BK307.out 3
                        have hnb64 := NB317_308.out
                        have hnc64 := NB308_317.out
                        have hcz65_0 : w40.cell? ⟨gb317, 0, none⟩ = some (.int .i64 0) := (Q10 BK317.out 0).trans rfl
                        have hcz65_1 : w40.cell? ⟨gb317, 1, none⟩ = some (.int .i64 0) := (Q10 BK317.out 1).trans rfl
                        have hfz65_0 := Q9 BK317.out 0
                        have hfz65_1 := Q9 BK317.out 1
                        have hcz66_0 : w40.cell? ⟨gb308, 0, none⟩ = some (.int .i64 t305) := (Q10 BK308.out 0).trans rfl
                        have hcz66_1 : w40.cell? ⟨gb308, 1, none⟩ = some (.int .i64 t306) := (Q10 BK308.out 1).trans rfl
                        have hfz66_0 := Q9 BK308.out 0
                        have hfz66_1 := Q9 BK308.out 1
                        go_wp2
                        go_meet
                        case rel => exact ⟨_, ((!(t314 == t305) || (!(t315 == t306)))), (by first | rfl | (simp; done) | (simp [*]; done)), H', ⟨by have := HJ22.out; first | omega | exact Nat.le_refl _⟩, ⟨by (with_reducible repeat (first | refine blk_drewN ?_ _ | refine blk_drew ?_ | refine Q5 ?_ _)); refine Q14 ?_ NB307_317.out _; (with_reducible repeat (first | refine blk_drewN ?_ _ | refine blk_drew ?_ | refine Q5 ?_ _)); refine Q14 ?_ NB307_317.out _; (with_reducible repeat (first | refine blk_drewN ?_ _ | refine blk_drew ?_ | refine Q5 ?_ _)); refine Q14 ?_ NB307_316.out _; (with_reducible repeat (first | refine blk_drewN ?_ _ | refine blk_drew ?_ | refine Q5 ?_ _)); refine Q14 ?_ NB307_316.out _; (with_reducible repeat (first | refine blk_drewN ?_ _ | refine blk_drew ?_ | refine Q5 ?_ _)); refine Q14 ?_ NB307_316.out _; (with_reducible repeat (first | refine blk_drewN ?_ _ | refine blk_drew ?_ | refine Q5 ?_ _)); refine Q14 ?_ NB307_316.out _; (with_reducible repeat (first | refine blk_drewN ?_ _ | refine blk_drew ?_ | refine Q5 ?_ _)); exact BK307.out⟩, ⟨by (with_reducible repeat (first | refine blk_drewN ?_ _ | refine blk_drew ?_ | refine Q5 ?_ _)); refine Q14 ?_ NB308_317.out _; (with_reducible repeat (first | refine blk_drewN ?_ _ | refine blk_drew ?_ | refine Q5 ?_ _)); refine Q14 ?_ NB308_317.out _; (with_reducible repeat (first | refine blk_drewN ?_ _ | refine blk_drew ?_ | refine Q5 ?_ _)); refine Q14 ?_ NB308_316.out _; (with_reducible repeat (first | refine blk_drewN ?_ _ | refine blk_drew ?_ | refine Q5 ?_ _)); refine Q14 ?_ NB308_316.out _; (with_reducible repeat (first | refine blk_drewN ?_ _ | refine blk_drew ?_ | refine Q5 ?_ _)); refine Q14 ?_ NB308_316.out _; (with_reducible repeat (first | refine blk_drewN ?_ _ | refine blk_drew ?_ | refine Q5 ?_ _)); refine Q14 ?_ NB308_316.out _; (with_reducible repeat (first | refine blk_drewN ?_ _ | refine blk_drew ?_ | refine Q5 ?_ _)); exact BK308.out⟩, ⟨by (with_reducible repeat (first | refine blk_drewN ?_ _ | refine blk_drew ?_ | refine Q5 ?_ _)); refine Q14 ?_ NB316_317.out _; (with_reducible repeat (first | refine blk_drewN ?_ _ | refine blk_drew ?_ | refine Q5 ?_ _)); refine Q14 ?_ NB316_317.out _; (with_reducible repeat (first | refine blk_drewN ?_ _ | refine blk_drew ?_ | refine Q5 ?_ _)); refine blk_put (cs := #[.int .u64 t309, .int .u64 t310, .int .u64 t311, .int .u64 0]) ?_ 3 _ rfl; (with_reducible repeat (first | refine blk_drewN ?_ _ | refine blk_drew ?_ | refine Q5 ?_ _)); refine blk_put (cs := #[.int .u64 t309, .int .u64 t310, .int .u64 0, .int .u64 0]) ?_ 2 _ rfl; (with_reducible repeat (first | refine blk_drewN ?_ _ | refine blk_drew ?_ | refine Q5 ?_ _)); refine blk_put (cs := #[.int .u64 t309, .int .u64 0, .int .u64 0, .int .u64 0]) ?_ 1 _ rfl; (with_reducible repeat (first | refine blk_drewN ?_ _ | refine blk_drew ?_ | refine Q5 ?_ _)); refine blk_put (cs := #[.int .u64 0, .int .u64 0, .int .u64 0, .int .u64 0]) ?_ 0 _ rfl; (with_reducible repeat (first | refine blk_drewN ?_ _ | refine blk_drew ?_ | refine Q5 ?_ _)); exact BK316.out⟩, ⟨by (with_reducible repeat (first | refine blk_drewN ?_ _ | refine blk_drew ?_ | refine Q5 ?_ _)); refine blk_put (cs := #[.int .i64 t314, .int .i64 0]) ?_ 1 _ rfl; (with_reducible repeat (first | refine blk_drewN ?_ _ | refine blk_drew ?_ | refine Q5 ?_ _)); refine blk_put (cs := #[.int .i64 0, .int .i64 0]) ?_ 0 _ rfl; (with_reducible repeat (first | refine blk_drewN ?_ _ | refine blk_drew ?_ | refine Q5 ?_ _)); refine Q14 ?_ NB317_316.out _; (with_reducible repeat (first | refine blk_drewN ?_ _ | refine blk_drew ?_ | refine Q5 ?_ _)); refine Q14 ?_ NB317_316.out _; (with_reducible repeat (first | refine blk_drewN ?_ _ | refine blk_drew ?_ | refine Q5 ?_ _)); refine Q14 ?_ NB317_316.out _; (with_reducible repeat (first | refine blk_drewN ?_ _ | refine blk_drew ?_ | refine Q5 ?_ _)); refine Q14 ?_ NB317_316.out _; (with_reducible repeat (first | refine blk_drewN ?_ _ | refine blk_drew ?_ | refine Q5 ?_ _)); exact BK317.out⟩, ⟨by repeat (first | (with_reducible first | exact HB.out | apply Q6 | apply Q4 | apply Q7 | refine Q8 ?_ GE307.out | refine Q8 ?_ GE308.out | refine Q8 ?_ GE316.out | refine Q8 ?_ GE317.out) | exact HB.out)⟩⟩
                      · rw [if_neg c56] at H
                        have c56b0 : (t313 == t304) = false := beq_eq_false_iff_ne.mpr c56
                        have c56b1 : (t313 != t304) = true := bne_iff_ne.mpr c56
                        have H' := Aside0.mk H
                        clear H
                        have hnb67 := NB316_307.out
                        have hnc67 := NB307_316.out
                        have hnb68 := NB316_308.out
                        have hnc68 := NB308_316.out
                        have hnb69 := NB316_317.out
                        have hnc69 := NB317_316.out
                        have hcz70_0 : w40.cell? ⟨gb316, 0, none⟩ = some (.int .u64 0) := (Q10 BK316.out 0).trans rfl
                        have hcz70_1 : w40.cell? ⟨gb316, 1, none⟩ = some (.int .u64 0) := (Q10 BK316.out 1).trans rfl
                        have hcz70_2 : w40.cell? ⟨gb316, 2, none⟩ = some (.int .u64 0) := (Q10 BK316.out 2).trans rfl
                        have hcz70_3 : w40.cell? ⟨gb316, 3, none⟩ = some (.int .u64 0) := (Q10 BK316.out 3).trans rfl
                        have hfz70_0 := Q9 BK316.out 0
                        have hfz70_1 := Q9 BK316.out 1
                        have hfz70_2 := Q9 BK316.out 2
                        have hfz70_3 := Q9 BK316.out 3
                        have hnb71 := NB307_308.out
                        have hnc71 := NB308_307.out
                        have hnb72 := NB307_317.out
                        have hnc72 := NB317_307.out
                        have hcz73_0 : w40.cell? ⟨gb307, 0, none⟩ = some (.int .u64 t300) := (Q10 BK307.out 0).trans rfl
                        have hcz73_1 : w40.cell? ⟨gb307, 1, none⟩ = some (.int .u64 t301) := (Q10 BK307.out 1).trans rfl
                        have hcz73_2 : w40.cell? ⟨gb307, 2, none⟩ = some (.int .u64 t302) := (Q10 BK307.out 2).trans rfl
                        have hcz73_3 : w40.cell? ⟨gb307, 3, none⟩ = some (.int .u64 t303) := (Q10 BK307.out 3).trans rfl
                        have hfz73_0 := Q9 BK307.out 0
                        have hfz73_1 := Q9 BK307.out 1
                        have hfz73_2 := Q9 BK307.out 2
                        have hfz73_3 := Q9 BK307.out 3
                        go_wp2
                        go_meet
                        case rel => exact ⟨_, (true), (by first | rfl | (simp; done) | (simp [*]; done)), H', ⟨by have := HJ22.out; first | omega | exact Nat.le_refl _⟩, ⟨by (with_reducible repeat (first | refine blk_drewN ?_ _ | refine blk_drew ?_ | refine Q5 ?_ _)); refine Q14 ?_ NB307_317.out _; (with_reducible repeat (first | refine blk_drewN ?_ _ | refine blk_drew ?_ | refine Q5 ?_ _)); refine Q14 ?_ NB307_317.out _; (with_reducible repeat (first | refine blk_drewN ?_ _ | refine blk_drew ?_ | refine Q5 ?_ _)); refine Q14 ?_ NB307_316.out _; (with_reducible repeat (first | refine blk_drewN ?_ _ | refine blk_drew ?_ | refine Q5 ?_ _)); refine Q14 ?_ NB307_316.out _; (with_reducible repeat (first | refine blk_drewN ?_ _ | refine blk_drew ?_ | refine Q5 ?_ _)); refine Q14 ?_ NB307_316.out _; (with_reducible repeat (first | refine blk_drewN ?_ _ | refine blk_drew ?_ | refine Q5 ?_ _)); refine Q14 ?_ NB307_316.out _; (with_reducible repeat (first | refine blk_drewN ?_ _ | refine blk_drew ?_ | refine Q5 ?_ _)); exact BK307.out⟩, ⟨by (with_reducible repeat (first | refine blk_drewN ?_ _ | refine blk_drew ?_ | refine Q5 ?_ _)); refine Q14 ?_ NB308_317.out _; (with_reducible repeat (first | refine blk_drewN ?_ _ | refine blk_drew ?_ | refine Q5 ?_ _)); refine Q14 ?_ NB308_317.out _; (with_reducible repeat (first | refine blk_drewN ?_ _ | refine blk_drew ?_ | refine Q5 ?_ _)); refine Q14 ?_ NB308_316.out _; (with_reducible repeat (first | refine blk_drewN ?_ _ | refine blk_drew ?_ | refine Q5 ?_ _)); refine Q14 ?_ NB308_316.out _; (with_reducible repeat (first | refine blk_drewN ?_ _ | refine blk_drew ?_ | refine Q5 ?_ _)); refine Q14 ?_ NB308_316.out _; (with_reducible repeat (first | refine blk_drewN ?_ _ | refine blk_drew ?_ | refine Q5 ?_ _)); refine Q14 ?_ NB308_316.out _; (with_reducible repeat (first | refine blk_drewN ?_ _ | refine blk_drew ?_ | refine Q5 ?_ _)); exact BK308.out⟩, ⟨by (with_reducible repeat (first | refine blk_drewN ?_ _ | refine blk_drew ?_ | refine Q5 ?_ _)); refine Q14 ?_ NB316_317.out _; (with_reducible repeat (first | refine blk_drewN ?_ _ | refine blk_drew ?_ | refine Q5 ?_ _)); refine Q14 ?_ NB316_317.out _; (with_reducible repeat (first | refine blk_drewN ?_ _ | refine blk_drew ?_ | refine Q5 ?_ _)); refine blk_put (cs := #[.int .u64 t309, .int .u64 t310, .int .u64 t311, .int .u64 0]) ?_ 3 _ rfl; (with_reducible repeat (first | refine blk_drewN ?_ _ | refine blk_drew ?_ | refine Q5 ?_ _)); refine blk_put (cs := #[.int .u64 t309, .int .u64 t310, .int .u64 0, .int .u64 0]) ?_ 2 _ rfl; (with_reducible repeat (first | refine blk_drewN ?_ _ | refine blk_drew ?_ | refine Q5 ?_ _)); refine blk_put (cs := #[.int .u64 t309, .int .u64 0, .int .u64 0, .int .u64 0]) ?_ 1 _ rfl; (with_reducible repeat (first | refine blk_drewN ?_ _ | refine blk_drew ?_ | refine Q5 ?_ _)); refine blk_put (cs := #[.int .u64 0, .int .u64 0, .int .u64 0, .int .u64 0]) ?_ 0 _ rfl; (with_reducible repeat (first | refine blk_drewN ?_ _ | refine blk_drew ?_ | refine Q5 ?_ _)); exact BK316.out⟩, ⟨by (with_reducible repeat (first | refine blk_drewN ?_ _ | refine blk_drew ?_ | refine Q5 ?_ _)); refine blk_put (cs := #[.int .i64 t314, .int .i64 0]) ?_ 1 _ rfl; (with_reducible repeat (first | refine blk_drewN ?_ _ | refine blk_drew ?_ | refine Q5 ?_ _)); refine blk_put (cs := #[.int .i64 0, .int .i64 0]) ?_ 0 _ rfl; (with_reducible repeat (first | refine blk_drewN ?_ _ | refine blk_drew ?_ | refine Q5 ?_ _)); refine Q14 ?_ NB317_316.out _; (with_reducible repeat (first | refine blk_drewN ?_ _ | refine blk_drew ?_ | refine Q5 ?_ _)); refine Q14 ?_ NB317_316.out _; (with_reducible repeat (first | refine blk_drewN ?_ _ | refine blk_drew ?_ | refine Q5 ?_ _)); refine Q14 ?_ NB317_316.out _; (with_reducible repeat (first | refine blk_drewN ?_ _ | refine blk_drew ?_ | refine Q5 ?_ _)); refine Q14 ?_ NB317_316.out _; (with_reducible repeat (first | refine blk_drewN ?_ _ | refine blk_drew ?_ | refine Q5 ?_ _)); exact BK317.out⟩, ⟨by repeat (first | (with_reducible first | exact HB.out | apply Q6 | apply Q4 | apply Q7 | refine Q8 ?_ GE307.out | refine Q8 ?_ GE308.out | refine Q8 ?_ GE316.out | refine Q8 ?_ GE317.out) | exact HB.out)⟩⟩
                  case rest =>
                    clear HC37
                    try clear c1
                    try clear c2
                    try clear p2
                    try clear c3
                    try clear c4
                    try clear c5
                    try clear c6
                    try clear c7
                    try clear c7b0
                    try clear c8
                    try clear c8b0
                    try clear c8b1
                    try clear c9
                    try clear c13
                    try clear c20
                    try clear c28
                    try clear c31
                    try clear c31b0
                    try clear c32
                    try clear c33
                    try clear c33b0
                    try clear c33b1
                    try clear c34
                    try clear c34b0
                    try clear c34b1
                    try clear c35
                    try clear c35b0
                    try clear c35b1
                    try clear c35b2
                    try clear c41
                    try clear c42
                    try clear c43
                    try clear c45
                    try clear c46
                    try clear c48
                    try clear c48b0
                    try clear c49
                    try clear c50
                    try clear c51
                    try clear c53
                    try clear c54
                    try clear c56
                    try clear c56b0
                    try clear c56b1
                    try clear c57
                    try clear c58
                    try clear c59
                    try clear c61
                    try clear c62
                    try clear c64
                    try clear c67
                    try clear c68
                    try clear c69
                    try clear c71
                    try clear c72
                    try clear hcz14_0
                    try clear hcz14_1
                    try clear hcz14_2
                    try clear hcz14_3
                    try clear hcz15_0
                    try clear hcz15_1
                    try clear hcz21_0
                    try clear hcz21_1
                    try clear hcz21_2
                    try clear hcz21_3
                    try clear hcz22_0
                    try clear hcz22_1
                    try clear hcz29_0
                    try clear hcz29_1
                    try clear hcz29_2
                    try clear hcz29_3
                    try clear hcz30_0
                    try clear hcz30_1
                    try clear hcz44_0
                    try clear hcz44_1
                    try clear hcz44_2
                    try clear hcz44_3
                    try clear hcz47_0
                    try clear hcz47_1
                    try clear hcz52_0
                    try clear hcz52_1
                    try clear hcz52_2
                    try clear hcz52_3
                    try clear hcz55_0
                    try clear hcz55_1
                    try clear hcz55_2
                    try clear hcz55_3
                    try clear hcz60_0
                    try clear hcz60_1
                    try clear hcz60_2
                    try clear hcz60_3
                    try clear hcz63_0
                    try clear hcz63_1
                    try clear hcz63_2
                    try clear hcz63_3
                    try clear hcz65_0
                    try clear hcz65_1
                    try clear hcz66_0
                    try clear hcz66_1
                    try clear hcz70_0
                    try clear hcz70_1
                    try clear hcz70_2
                    try clear hcz70_3
                    try clear hcz73_0
                    try clear hcz73_1
                    try clear hcz73_2
                    try clear hcz73_3
                    try clear hfz14_0
                    try clear hfz14_1
                    try clear hfz14_2
                    try clear hfz14_3
                    try clear hfz15_0
                    try clear hfz15_1
                    try clear hfz21_0
                    try clear hfz21_1
                    try clear hfz21_2
                    try clear hfz21_3
                    try clear hfz22_0
                    try clear hfz22_1
                    try clear hfz29_0
                    try clear hfz29_1
                    try clear hfz29_2
                    try clear hfz29_3
                    try clear hfz30_0
                    try clear hfz30_1
                    try clear hfz44_0
                    try clear hfz44_1
                    try clear hfz44_2
                    try clear hfz44_3
                    try clear hfz47_0
                    try clear hfz47_1
                    try clear hfz52_0
                    try clear hfz52_1
                    try clear hfz52_2
                    try clear hfz52_3
                    try clear hfz55_0
                    try clear hfz55_1
                    try clear hfz55_2
                    try clear hfz55_3
                    try clear hfz60_0
                    try clear hfz60_1
                    try clear hfz60_2
                    try clear hfz60_3
                    try clear hfz63_0
                    try clear hfz63_1
                    try clear hfz63_2
                    try clear hfz63_3
                    try clear hfz65_0
                    try clear hfz65_1
                    try clear hfz66_0
                    try clear hfz66_1
                    try clear hfz70_0
                    try clear hfz70_1
                    try clear hfz70_2
                    try clear hfz70_3
                    try clear hfz73_0
                    try clear hfz73_1
                    try clear hfz73_2
                    try clear hfz73_3
                    try clear p2
                    obtain ⟨kq, x62_36, rfl, HA, HJ36, BK307, BK308, BK316, BK317, HB⟩ := hcut
                    cases kq with
                    | zero => exact absurd HA.out (by simp [dowellaw03_ClassCuts.j1])
                    | succ kj36 =>
                      have H := HA.out
                      clear HA
                      simp only [dowellaw03_ClassCuts.j1] at H
                      by_cases c74 : x62_36 = true
                      · subst c74
                        have H1 : (some false) = some r := by rw [if_pos rfl] at H; exact H
                        clear H
                        have H := H1
                        clear H1
                        obtain rfl := Option.some.inj H
                        go_wp2
                        go_ret
                        exact ⟨by first | rfl | (simp [Q16, Q15] <;> rfl) | (simp [*, Q16, Q15] <;> rfl), by repeat (first | (with_reducible first | exact HB.out | apply Q6 | apply Q4 | apply Q7 | refine Q8 ?_ GE307.out | refine Q8 ?_ GE308.out | refine Q8 ?_ GE316.out | refine Q8 ?_ GE317.out) | exact HB.out)⟩
                      · replace c74 := Bool.eq_false_iff.mpr c74
                        subst c74
                        have H1 : (if (IntKind.u64.wrap (t304)) = 0 then (none) else (if 0 ≤ (wrap64 (Int.tmod (IntKind.u64.wrap (a2)) (IntKind.u64.wrap (t304)))) then (if (wrap64 (Int.tmod (IntKind.u64.wrap (a2)) (IntKind.u64.wrap (t304)))) ≤ (a0.size : Int) then ((class_Parse.f (a0.extract 0 ((wrap64 (Int.tmod (IntKind.u64.wrap (a2)) (IntKind.u64.wrap (t304)))) : Int).toNat) 0).bind fun bt318 => (if (wrap64 (Int.tmod (IntKind.u64.wrap (a2)) (IntKind.u64.wrap (t304)))) = 0 then (if bt318.2.2.2.2.1 = 0 then (some (bt318.2.2.2.2.2.1 == 0 && (bt318.2.2.2.2.2.2 == 30))) else (some false)) else (if bt318.2.2.2.2.1 = 0 then (if (bt318.2.2.2.2.2.1 == 0 && (bt318.2.2.2.2.2.2 == 41)) = true then (some true) else (if bt318.2.2.2.2.2.2 = 42 then (if bt318.2.2.2.2.2.1 > 0 then (if bt318.2.2.2.2.2.1 < (wrap64 (Int.tmod (IntKind.u64.wrap (a2)) (IntKind.u64.wrap (t304)))) then (if 0 ≤ bt318.2.2.2.2.2.1 then (if bt318.2.2.2.2.2.1 < (a0.size : Int) then (some ((bt a0 bt318.2.2.2.2.2.1) == 92)) else (none)) else (none)) else (some false)) else (some false)) else (some false))) else (some false)))) else (none)) else (none))) = some r := by rw [if_neg (show ¬ (false = true) by decide)] at H; exact H
                        clear H
                        have H := H1
                        clear H1
                        by_cases c75 : (IntKind.u64.wrap (t304)) = 0
                        · rw [if_pos c75] at H
                          exact absurd H (by simp)
                        · rw [if_neg c75] at H
                          have c75b0 : ((IntKind.u64.wrap (t304)) == 0) = false := beq_eq_false_iff_ne.mpr c75
                          have c75b1 : ((IntKind.u64.wrap (t304)) != 0) = true := bne_iff_ne.mpr c75
                          obtain ⟨ji76, hji76⟩ : ∃ j_ : Int, (wrap64 (Int.tmod (IntKind.u64.wrap (a2)) (IntKind.u64.wrap (t304)))) = j_ := ⟨_, rfl⟩
                          replace H : (if 0 ≤ (ji76) then (if (ji76) ≤ (a0.size : Int) then ((class_Parse.f (a0.extract 0 ((ji76) : Int).toNat) 0).bind fun bt318 => (if (ji76) = 0 then (if bt318.2.2.2.2.1 = 0 then (some (bt318.2.2.2.2.2.1 == 0 && (bt318.2.2.2.2.2.2 == 30))) else (some false)) else (if bt318.2.2.2.2.1 = 0 then (if (bt318.2.2.2.2.2.1 == 0 && (bt318.2.2.2.2.2.2 == 41)) = true then (some true) else (if bt318.2.2.2.2.2.2 = 42 then (if bt318.2.2.2.2.2.1 > 0 then (if bt318.2.2.2.2.2.1 < (ji76) then (if 0 ≤ bt318.2.2.2.2.2.1 then (if bt318.2.2.2.2.2.1 < (a0.size : Int) then (some ((bt a0 bt318.2.2.2.2.2.1) == 92)) else (none)) else (none)) else (some false)) else (some false)) else (some false))) else (some false)))) else (none)) else (none)) = some r := by first | (rw [hji76] at H; exact H) | (simp only [hji76] at H ⊢; exact H)
                          have hji76w : (IntKind.i64.wrap (Int.tmod (IntKind.u64.wrap (a2)) (IntKind.u64.wrap (t304)))) = ji76 := (i64_w _).trans hji76
                          by_cases c77 : 0 ≤ (ji76)
                          · rw [if_pos c77] at H
                            have c77b0 := eq_true c77
                            have c77b1 : decide (0 ≤ (ji76)) = true := decide_eq_true c77
                            clear c77
                            by_cases c78 : (ji76) ≤ (a0.size : Int)
                            · rw [if_pos c78] at H
                              have c78b0 := eq_true c78
                              have c78b1 : decide ((ji76) ≤ (a0.size : Int)) = true := decide_eq_true c78
                              clear c78
                              replace H := Option.bind_eq_some_iff.mp H
                              obtain ⟨⟨t318, t319, t320, t321, t322, t323, t324⟩, A790, H⟩ := H
                              replace H : (if (ji76) = 0 then (if t322 = 0 then (some (t323 == 0 && (t324 == 30))) else (some false)) else (if t322 = 0 then (if (t323 == 0 && (t324 == 41)) = true then (some true) else (if t324 = 42 then (if t323 > 0 then (if t323 < (ji76) then (if 0 ≤ t323 then (if t323 < (a0.size : Int) then (some ((bt a0 t323) == 92)) else (none)) else (none)) else (some false)) else (some false)) else (some false))) else (some false))) = some r := H
                              have A79 := Aside0.mk A790
                              clear A790
                              by_cases c80 : (ji76) = 0
                              · rw [if_pos c80] at H
                                have c80b0 : ((ji76) == 0) = true := beq_iff_eq.mpr c80
                                have c80b1 : ((ji76) != 0) = false := bne_eq_false_iff_eq.mpr c80
                                clear c80
                                by_cases c81 : t322 = 0
                                · rw [if_pos c81] at H
                                  have c81b0 : (t322 == 0) = true := beq_iff_eq.mpr c81
                                  have c81b1 : (t322 != 0) = false := bne_eq_false_iff_eq.mpr c81
                                  clear c81
                                  obtain rfl := Option.some.inj H
                                  go_wp2_with (first | ((with_reducible refine gate_callee (f := 31) rfl ?_); refine goesL_ (some 73) rfl rfl Try.func31 (by kernel_rfl) rfl #[.string (a0.extract 0 ((ji76) : Int).toNat), .int .i64 0] rfl (by (try simp only [List.map_toArray, List.map_cons, List.map_nil]); first | done | (simp only [hji76]; rfl) | rfl | (simp only [List.length_drop, List.length_take]; rfl)) ?_; (with_reducible refine (class_Parse.calls (a0.extract 0 ((ji76) : Int).toNat) 0 t318 t319 t320 t321 t322 t323 t324 _ A79.out).mono ?_); rintro e w82 ⟨rfl, hb⟩; refine ⟨_, rfl, ?_⟩; have n0_ := Aside0.mk (Q11 (g := gb307) (o := .cells #[.int .u64 t300, .int .u64 t301, .int .u64 t302, .int .u64 t303] 24 (0, 0)) (by (with_reducible repeat (first | refine blk_drewN ?_ _ | refine blk_drew ?_ | refine Q5 ?_ _)); exact BK307.out) hb); have n1_ := Aside0.mk (Q11 (g := gb308) (o := .cells #[.int .i64 t305, .int .i64 t306] 49 (0, 0)) (by (with_reducible repeat (first | refine blk_drewN ?_ _ | refine blk_drew ?_ | refine Q5 ?_ _)); exact BK308.out) hb); have n2_ := Aside0.mk (Q11 (g := gb316) (o := .cells #[.int .u64 t309, .int .u64 t310, .int .u64 t311, .int .u64 t312] 24 (0, 0)) (by (with_reducible repeat (first | refine blk_drewN ?_ _ | refine blk_drew ?_ | refine Q5 ?_ _)); exact BK316.out) hb); have n3_ := Aside0.mk (Q11 (g := gb317) (o := .cells #[.int .i64 t314, .int .i64 t315] 49 (0, 0)) (by (with_reducible repeat (first | refine blk_drewN ?_ _ | refine blk_drew ?_ | refine Q5 ?_ _)); exact BK317.out) hb); have n4_ := Aside0.mk (Q12 (by repeat (first | (with_reducible first | exact HB.out | apply Q6 | apply Q4 | apply Q7 | refine Q8 ?_ GE307.out | refine Q8 ?_ GE308.out | refine Q8 ?_ GE316.out | refine Q8 ?_ GE317.out) | exact HB.out)) hb); clear BK307; clear BK308; clear BK316; clear BK317; clear HB; have BK307 := n0_; have BK308 := n1_; have BK316 := n2_; have BK317 := n3_; have HB := n4_; clear n0_ n1_ n2_ n3_ n4_; (try clear hb); (try clear hb2); (try clear hk); (try clear hi); have hnb83 := NB317_307.out; have hnc83 := NB307_317.out; have hnb84 := NB317_308.out; have hnc84 := NB308_317.out; have hnb85 := NB317_316.out; have hnc85 := NB316_317.out; have hcz86_0 : w82.cell? ⟨gb317, 0, none⟩ = some (.int .i64 t314) := (Q10 BK317.out 0).trans rfl; have hcz86_1 : w82.cell? ⟨gb317, 1, none⟩ = some (.int .i64 t315) := (Q10 BK317.out 1).trans rfl; have hfz86_0 := Q9 BK317.out 0; have hfz86_1 := Q9 BK317.out 1))
                                  go_ret
                                  exact ⟨by first | rfl | (simp [Q16, Q15] <;> rfl) | (simp only [← hji76]; first | rfl | (simp [Q16, Q15] <;> rfl)) | (simp [*, Q16, Q15] <;> rfl), by repeat (first | (with_reducible first | exact HB.out | apply Q6 | apply Q4 | apply Q7 | refine Q8 ?_ GE307.out | refine Q8 ?_ GE308.out | refine Q8 ?_ GE316.out | refine Q8 ?_ GE317.out) | exact HB.out)⟩
                                · rw [if_neg c81] at H
                                  have c81b0 : (t322 == 0) = false := beq_eq_false_iff_ne.mpr c81
                                  have c81b1 : (t322 != 0) = true := bne_iff_ne.mpr c81
                                  obtain rfl := Option.some.inj H
                                  go_wp2_with (first | ((with_reducible refine gate_callee (f := 31) rfl ?_); refine goesL_ (some 73) rfl rfl Try.func31 (by kernel_rfl) rfl #[.string (a0.extract 0 ((ji76) : Int).toNat), .int .i64 0] rfl (by (try simp only [List.map_toArray, List.map_cons, List.map_nil]); first | done | (simp only [hji76]; rfl) | rfl | (simp only [List.length_drop, List.length_take]; rfl)) ?_; (with_reducible refine (class_Parse.calls (a0.extract 0 ((ji76) : Int).toNat) 0 t318 t319 t320 t321 t322 t323 t324 _ A79.out).mono ?_); rintro e w87 ⟨rfl, hb⟩; refine ⟨_, rfl, ?_⟩; have n0_ := Aside0.mk (Q11 (g := gb307) (o := .cells #[.int .u64 t300, .int .u64 t301, .int .u64 t302, .int .u64 t303] 24 (0, 0)) (by (with_reducible repeat (first | refine blk_drewN ?_ _ | refine blk_drew ?_ | refine Q5 ?_ _)); exact BK307.out) hb); have n1_ := Aside0.mk (Q11 (g := gb308) (o := .cells #[.int .i64 t305, .int .i64 t306] 49 (0, 0)) (by (with_reducible repeat (first | refine blk_drewN ?_ _ | refine blk_drew ?_ | refine Q5 ?_ _)); exact BK308.out) hb); have n2_ := Aside0.mk (Q11 (g := gb316) (o := .cells #[.int .u64 t309, .int .u64 t310, .int .u64 t311, .int .u64 t312] 24 (0, 0)) (by (with_reducible repeat (first | refine blk_drewN ?_ _ | refine blk_drew ?_ | refine Q5 ?_ _)); exact BK316.out) hb); have n3_ := Aside0.mk (Q11 (g := gb317) (o := .cells #[.int .i64 t314, .int .i64 t315] 49 (0, 0)) (by (with_reducible repeat (first | refine blk_drewN ?_ _ | refine blk_drew ?_ | refine Q5 ?_ _)); exact BK317.out) hb); have n4_ := Aside0.mk (Q12 (by repeat (first | (with_reducible first | exact HB.out | apply Q6 | apply Q4 | apply Q7 | refine Q8 ?_ GE307.out | refine Q8 ?_ GE308.out | refine Q8 ?_ GE316.out | refine Q8 ?_ GE317.out) | exact HB.out)) hb); clear BK307; clear BK308; clear BK316; clear BK317; clear HB; have BK307 := n0_; have BK308 := n1_; have BK316 := n2_; have BK317 := n3_; have HB := n4_; clear n0_ n1_ n2_ n3_ n4_; (try clear hb); (try clear hb2); (try clear hk); (try clear hi); have hnb88 := NB317_307.out; have hnc88 := NB307_317.out; have hnb89 := NB317_308.out; have hnc89 := NB308_317.out; have hnb90 := NB317_316.out; have hnc90 := NB316_317.out; have hcz91_0 : w87.cell? ⟨gb317, 0, none⟩ = some (.int .i64 t314) := (Q10 BK317.out 0).trans rfl; have hcz91_1 : w87.cell? ⟨gb317, 1, none⟩ = some (.int .i64 t315) := (Q10 BK317.out 1).trans rfl; have hfz91_0 := Q9 BK317.out 0; have hfz91_1 := Q9 BK317.out 1))
                                  go_ret
                                  exact ⟨by first | rfl | (simp [Q16, Q15] <;> rfl) | (simp only [← hji76]; first | rfl | (simp [Q16, Q15] <;> rfl)) | (simp [*, Q16, Q15] <;> rfl), by repeat (first | (with_reducible first | exact HB.out | apply Q6 | apply Q4 | apply Q7 | refine Q8 ?_ GE307.out | refine Q8 ?_ GE308.out | refine Q8 ?_ GE316.out | refine Q8 ?_ GE317.out) | exact HB.out)⟩
                              · rw [if_neg c80] at H
                                have c80b0 : ((ji76) == 0) = false := beq_eq_false_iff_ne.mpr c80
                                have c80b1 : ((ji76) != 0) = true := bne_iff_ne.mpr c80
                                by_cases c92 : t322 = 0
                                · rw [if_pos c92] at H
                                  have c92b0 : (t322 == 0) = true := beq_iff_eq.mpr c92
                                  have c92b1 : (t322 != 0) = false := bne_eq_false_iff_eq.mpr c92
                                  clear c92
                                  by_cases c93 : (t323 == 0 && (t324 == 41)) = true
                                  · rw [if_pos c93] at H
                                    have c93b0 : (t323 == 0 && (t324 == 41)) = true := c93
                                    (try (have c93b1 : decide (t323 = 0 && (t324 == 41)) = true := by simpa using c93))
                                    (try (have c93b2 : (t323 == 0 && (t324 == 41)) = true := by simpa using c93))
                                    clear c93
                                    obtain rfl := Option.some.inj H
                                    go_wp2_with (first | ((with_reducible refine gate_callee (f := 31) rfl ?_); refine goesL_ (some 73) rfl rfl Try.func31 (by kernel_rfl) rfl #[.string (a0.extract 0 ((ji76) : Int).toNat), .int .i64 0] rfl (by (try simp only [List.map_toArray, List.map_cons, List.map_nil]); first | done | (simp only [hji76]; rfl) | rfl | (simp only [List.length_drop, List.length_take]; rfl)) ?_; (with_reducible refine (class_Parse.calls (a0.extract 0 ((ji76) : Int).toNat) 0 t318 t319 t320 t321 t322 t323 t324 _ A79.out).mono ?_); rintro e w94 ⟨rfl, hb⟩; refine ⟨_, rfl, ?_⟩; have n0_ := Aside0.mk (Q11 (g := gb307) (o := .cells #[.int .u64 t300, .int .u64 t301, .int .u64 t302, .int .u64 t303] 24 (0, 0)) (by (with_reducible repeat (first | refine blk_drewN ?_ _ | refine blk_drew ?_ | refine Q5 ?_ _)); exact BK307.out) hb); have n1_ := Aside0.mk (Q11 (g := gb308) (o := .cells #[.int .i64 t305, .int .i64 t306] 49 (0, 0)) (by (with_reducible repeat (first | refine blk_drewN ?_ _ | refine blk_drew ?_ | refine Q5 ?_ _)); exact BK308.out) hb); have n2_ := Aside0.mk (Q11 (g := gb316) (o := .cells #[.int .u64 t309, .int .u64 t310, .int .u64 t311, .int .u64 t312] 24 (0, 0)) (by (with_reducible repeat (first | refine blk_drewN ?_ _ | refine blk_drew ?_ | refine Q5 ?_ _)); exact BK316.out) hb); have n3_ := Aside0.mk (Q11 (g := gb317) (o := .cells #[.int .i64 t314, .int .i64 t315] 49 (0, 0)) (by (with_reducible repeat (first | refine blk_drewN ?_ _ | refine blk_drew ?_ | refine Q5 ?_ _)); exact BK317.out) hb); have n4_ := Aside0.mk (Q12 (by repeat (first | (with_reducible first | exact HB.out | apply Q6 | apply Q4 | apply Q7 | refine Q8 ?_ GE307.out | refine Q8 ?_ GE308.out | refine Q8 ?_ GE316.out | refine Q8 ?_ GE317.out) | exact HB.out)) hb); clear BK307; clear BK308; clear BK316; clear BK317; clear HB; have BK307 := n0_; have BK308 := n1_; have BK316 := n2_; have BK317 := n3_; have HB := n4_; clear n0_ n1_ n2_ n3_ n4_; (try clear hb); (try clear hb2); (try clear hk); (try clear hi); have hnb95 := NB317_307.out; have hnc95 := NB307_317.out; have hnb96 := NB317_308.out; have hnc96 := NB308_317.out; have hnb97 := NB317_316.out; have hnc97 := NB316_317.out; have hcz98_0 : w94.cell? ⟨gb317, 0, none⟩ = some (.int .i64 t314) := (Q10 BK317.out 0).trans rfl; have hcz98_1 : w94.cell? ⟨gb317, 1, none⟩ = some (.int .i64 t315) := (Q10 BK317.out 1).trans rfl; have hfz98_0 := Q9 BK317.out 0; have hfz98_1 := Q9 BK317.out 1))
                                    go_ret
                                    exact ⟨by first | rfl | (simp [Q16, Q15] <;> rfl) | (simp only [← hji76]; first | rfl | (simp [Q16, Q15] <;> rfl)) | (simp [*, Q16, Q15] <;> rfl), by repeat (first | (with_reducible first | exact HB.out | apply Q6 | apply Q4 | apply Q7 | refine Q8 ?_ GE307.out | refine Q8 ?_ GE308.out | refine Q8 ?_ GE316.out | refine Q8 ?_ GE317.out) | exact HB.out)⟩
                                  · rw [if_neg c93] at H
                                    have c93b0 : (t323 == 0 && (t324 == 41)) = false := by simpa using c93
                                    (try (have c93b1 : decide (t323 = 0 && (t324 == 41)) = false := by simpa using c93))
                                    (try (have c93b2 : (t323 == 0 && (t324 == 41)) = false := by simpa using c93))
                                    (try (have c93b3 : ¬ (t323 = 0 && (t324 == 41)) := by simpa using c93))
                                    clear c93
                                    by_cases c99 : t324 = 42
                                    · rw [if_pos c99] at H
                                      have c99b0 : (t324 == 42) = true := beq_iff_eq.mpr c99
                                      have c99b1 : (t324 != 42) = false := bne_eq_false_iff_eq.mpr c99
                                      clear c99
                                      by_cases c100 : t323 > 0
                                      · rw [if_pos c100] at H
                                        have c100b0 : decide (0 < t323) = true := decide_eq_true c100
                                        clear c100
                                        by_cases c101 : t323 < (ji76)
                                        · rw [if_pos c101] at H
                                          have c101b0 : decide (t323 < (ji76)) = true := decide_eq_true c101
                                          clear c101
                                          by_cases c102 : 0 ≤ t323
                                          · rw [if_pos c102] at H
                                            have c102b0 : decide (0 ≤ t323) = true := decide_eq_true c102
                                            clear c102
                                            by_cases c103 : t323 < (a0.size : Int)
                                            · rw [if_pos c103] at H
                                              have c103b0 : decide (t323 < (a0.size : Int)) = true := decide_eq_true c103
                                              clear c103
                                              obtain rfl := Option.some.inj H
                                              go_wp2_with (first | ((with_reducible refine gate_callee (f := 31) rfl ?_); refine goesL_ (some 73) rfl rfl Try.func31 (by kernel_rfl) rfl #[.string (a0.extract 0 ((ji76) : Int).toNat), .int .i64 0] rfl (by (try simp only [List.map_toArray, List.map_cons, List.map_nil]); first | done | (simp only [hji76]; rfl) | rfl | (simp only [List.length_drop, List.length_take]; rfl)) ?_; (with_reducible refine (class_Parse.calls (a0.extract 0 ((ji76) : Int).toNat) 0 t318 t319 t320 t321 t322 t323 t324 _ A79.out).mono ?_); rintro e w105 ⟨rfl, hb⟩; refine ⟨_, rfl, ?_⟩; have n0_ := Aside0.mk (Q11 (g := gb307) (o := .cells #[.int .u64 t300, .int .u64 t301, .int .u64 t302, .int .u64 t303] 24 (0, 0)) (by (with_reducible repeat (first | refine blk_drewN ?_ _ | refine blk_drew ?_ | refine Q5 ?_ _)); exact BK307.out) hb); have n1_ := Aside0.mk (Q11 (g := gb308) (o := .cells #[.int .i64 t305, .int .i64 t306] 49 (0, 0)) (by (with_reducible repeat (first | refine blk_drewN ?_ _ | refine blk_drew ?_ | refine Q5 ?_ _)); exact BK308.out) hb); have n2_ := Aside0.mk (Q11 (g := gb316) (o := .cells #[.int .u64 t309, .int .u64 t310, .int .u64 t311, .int .u64 t312] 24 (0, 0)) (by (with_reducible repeat (first | refine blk_drewN ?_ _ | refine blk_drew ?_ | refine Q5 ?_ _)); exact BK316.out) hb); have n3_ := Aside0.mk (Q11 (g := gb317) (o := .cells #[.int .i64 t314, .int .i64 t315] 49 (0, 0)) (by (with_reducible repeat (first | refine blk_drewN ?_ _ | refine blk_drew ?_ | refine Q5 ?_ _)); exact BK317.out) hb); have n4_ := Aside0.mk (Q12 (by repeat (first | (with_reducible first | exact HB.out | apply Q6 | apply Q4 | apply Q7 | refine Q8 ?_ GE307.out | refine Q8 ?_ GE308.out | refine Q8 ?_ GE316.out | refine Q8 ?_ GE317.out) | exact HB.out)) hb); clear BK307; clear BK308; clear BK316; clear BK317; clear HB; have BK307 := n0_; have BK308 := n1_; have BK316 := n2_; have BK317 := n3_; have HB := n4_; clear n0_ n1_ n2_ n3_ n4_; (try clear hb); (try clear hb2); (try clear hk); (try clear hi); have hnb106 := NB317_307.out; have hnc106 := NB307_317.out; have hnb107 := NB317_308.out; have hnc107 := NB308_317.out; have hnb108 := NB317_316.out; have hnc108 := NB316_317.out; have hcz109_0 : w105.cell? ⟨gb317, 0, none⟩ = some (.int .i64 t314) := (Q10 BK317.out 0).trans rfl; have hcz109_1 : w105.cell? ⟨gb317, 1, none⟩ = some (.int .i64 t315) := (Q10 BK317.out 1).trans rfl; have hfz109_0 := Q9 BK317.out 0; have hfz109_1 := Q9 BK317.out 1; have p104 : 0 ≤ (t323 : Int) := of_decide_eq_true (by first | (with_reducible assumption) | assumption); have q104 : t323 < (a0.size : Int) := of_decide_eq_true (by first | (with_reducible assumption) | assumption); have hx104 := bt_at a0 t323; replace p104 := eq_true p104; replace q104 := eq_true q104))
                                              go_ret
                                              exact ⟨by first | rfl | (simp [Q16, Q15] <;> rfl) | (simp only [← hji76]; first | rfl | (simp [Q16, Q15] <;> rfl)) | (simp [*, Q16, Q15] <;> rfl), by repeat (first | (with_reducible first | exact HB.out | apply Q6 | apply Q4 | apply Q7 | refine Q8 ?_ GE307.out | refine Q8 ?_ GE308.out | refine Q8 ?_ GE316.out | refine Q8 ?_ GE317.out) | exact HB.out)⟩
                                            · rw [if_neg c103] at H
                                              exact absurd H (by simp)
                                          · rw [if_neg c102] at H
                                            exact absurd H (by simp)
                                        · rw [if_neg c101] at H
                                          have c101b0 : decide (t323 < (ji76)) = false := decide_eq_false c101
                                          clear c101
                                          obtain rfl := Option.some.inj H
                                          go_wp2_with (first | ((with_reducible refine gate_callee (f := 31) rfl ?_); refine goesL_ (some 73) rfl rfl Try.func31 (by kernel_rfl) rfl #[.string (a0.extract 0 ((ji76) : Int).toNat), .int .i64 0] rfl (by (try simp only [List.map_toArray, List.map_cons, List.map_nil]); first | done | (simp only [hji76]; rfl) | rfl | (simp only [List.length_drop, List.length_take]; rfl)) ?_; (with_reducible refine (class_Parse.calls (a0.extract 0 ((ji76) : Int).toNat) 0 t318 t319 t320 t321 t322 t323 t324 _ A79.out).mono ?_); rintro e w110 ⟨rfl, hb⟩; refine ⟨_, rfl, ?_⟩; have n0_ := Aside0.mk (Q11 (g := gb307) (o := .cells #[.int .u64 t300, .int .u64 t301, .int .u64 t302, .int .u64 t303] 24 (0, 0)) (by (with_reducible repeat (first | refine blk_drewN ?_ _ | refine blk_drew ?_ | refine Q5 ?_ _)); exact BK307.out) hb); have n1_ := Aside0.mk (Q11 (g := gb308) (o := .cells #[.int .i64 t305, .int .i64 t306] 49 (0, 0)) (by (with_reducible repeat (first | refine blk_drewN ?_ _ | refine blk_drew ?_ | refine Q5 ?_ _)); exact BK308.out) hb); have n2_ := Aside0.mk (Q11 (g := gb316) (o := .cells #[.int .u64 t309, .int .u64 t310, .int .u64 t311, .int .u64 t312] 24 (0, 0)) (by (with_reducible repeat (first | refine blk_drewN ?_ _ | refine blk_drew ?_ | refine Q5 ?_ _)); exact BK316.out) hb); have n3_ := Aside0.mk (Q11 (g := gb317) (o := .cells #[.int .i64 t314, .int .i64 t315] 49 (0, 0)) (by (with_reducible repeat (first | refine blk_drewN ?_ _ | refine blk_drew ?_ | refine Q5 ?_ _)); exact BK317.out) hb); have n4_ := Aside0.mk (Q12 (by repeat (first | (with_reducible first | exact HB.out | apply Q6 | apply Q4 | apply Q7 | refine Q8 ?_ GE307.out | refine Q8 ?_ GE308.out | refine Q8 ?_ GE316.out | refine Q8 ?_ GE317.out) | exact HB.out)) hb); clear BK307; clear BK308; clear BK316; clear BK317; clear HB; have BK307 := n0_; have BK308 := n1_; have BK316 := n2_; have BK317 := n3_; have HB := n4_; clear n0_ n1_ n2_ n3_ n4_; (try clear hb); (try clear hb2); (try clear hk); (try clear hi); have hnb111 := NB317_307.out; have hnc111 := NB307_317.out; have hnb112 := NB317_308.out; have hnc112 := NB308_317.out; have hnb113 := NB317_316.out; have hnc113 := NB316_317.out; have hcz114_0 : w110.cell? ⟨gb317, 0, none⟩ = some (.int .i64 t314) := (Q10 BK317.out 0).trans rfl; have hcz114_1 : w110.cell? ⟨gb317, 1, none⟩ = some (.int .i64 t315) := (Q10 BK317.out 1).trans rfl; have hfz114_0 := Q9 BK317.out 0; have hfz114_1 := Q9 BK317.out 1))
                                          go_ret
                                          exact ⟨by first | rfl | (simp [Q16, Q15] <;> rfl) | (simp only [← hji76]; first | rfl | (simp [Q16, Q15] <;> rfl)) | (simp [*, Q16, Q15] <;> rfl), by repeat (first | (with_reducible first | exact HB.out | apply Q6 | apply Q4 | apply Q7 | refine Q8 ?_ GE307.out | refine Q8 ?_ GE308.out | refine Q8 ?_ GE316.out | refine Q8 ?_ GE317.out) | exact HB.out)⟩
                                      · rw [if_neg c100] at H
                                        have c100b0 : decide (0 < t323) = false := decide_eq_false c100
                                        clear c100
                                        obtain rfl := Option.some.inj H
                                        go_wp2_with (first | ((with_reducible refine gate_callee (f := 31) rfl ?_); refine goesL_ (some 73) rfl rfl Try.func31 (by kernel_rfl) rfl #[.string (a0.extract 0 ((ji76) : Int).toNat), .int .i64 0] rfl (by (try simp only [List.map_toArray, List.map_cons, List.map_nil]); first | done | (simp only [hji76]; rfl) | rfl | (simp only [List.length_drop, List.length_take]; rfl)) ?_; (with_reducible refine (class_Parse.calls (a0.extract 0 ((ji76) : Int).toNat) 0 t318 t319 t320 t321 t322 t323 t324 _ A79.out).mono ?_); rintro e w115 ⟨rfl, hb⟩; refine ⟨_, rfl, ?_⟩; have n0_ := Aside0.mk (Q11 (g := gb307) (o := .cells #[.int .u64 t300, .int .u64 t301, .int .u64 t302, .int .u64 t303] 24 (0, 0)) (by (with_reducible repeat (first | refine blk_drewN ?_ _ | refine blk_drew ?_ | refine Q5 ?_ _)); exact BK307.out) hb); have n1_ := Aside0.mk (Q11 (g := gb308) (o := .cells #[.int .i64 t305, .int .i64 t306] 49 (0, 0)) (by (with_reducible repeat (first | refine blk_drewN ?_ _ | refine blk_drew ?_ | refine Q5 ?_ _)); exact BK308.out) hb); have n2_ := Aside0.mk (Q11 (g := gb316) (o := .cells #[.int .u64 t309, .int .u64 t310, .int .u64 t311, .int .u64 t312] 24 (0, 0)) (by (with_reducible repeat (first | refine blk_drewN ?_ _ | refine blk_drew ?_ | refine Q5 ?_ _)); exact BK316.out) hb); have n3_ := Aside0.mk (Q11 (g := gb317) (o := .cells #[.int .i64 t314, .int .i64 t315] 49 (0, 0)) (by (with_reducible repeat (first | refine blk_drewN ?_ _ | refine blk_drew ?_ | refine Q5 ?_ _)); exact BK317.out) hb); have n4_ := Aside0.mk (Q12 (by repeat (first | (with_reducible first | exact HB.out | apply Q6 | apply Q4 | apply Q7 | refine Q8 ?_ GE307.out | refine Q8 ?_ GE308.out | refine Q8 ?_ GE316.out | refine Q8 ?_ GE317.out) | exact HB.out)) hb); clear BK307; clear BK308; clear BK316; clear BK317; clear HB; have BK307 := n0_; have BK308 := n1_; have BK316 := n2_; have BK317 := n3_; have HB := n4_; clear n0_ n1_ n2_ n3_ n4_; (try clear hb); (try clear hb2); (try clear hk); (try clear hi); have hnb116 := NB317_307.out; have hnc116 := NB307_317.out; have hnb117 := NB317_308.out; have hnc117 := NB308_317.out; have hnb118 := NB317_316.out; have hnc118 := NB316_317.out; have hcz119_0 : w115.cell? ⟨gb317, 0, none⟩ = some (.int .i64 t314) := (Q10 BK317.out 0).trans rfl; have hcz119_1 : w115.cell? ⟨gb317, 1, none⟩ = some (.int .i64 t315) := (Q10 BK317.out 1).trans rfl; have hfz119_0 := Q9 BK317.out 0; have hfz119_1 := Q9 BK317.out 1))
                                        go_ret
                                        exact ⟨by first | rfl | (simp [Q16, Q15] <;> rfl) | (simp only [← hji76]; first | rfl | (simp [Q16, Q15] <;> rfl)) | (simp [*, Q16, Q15] <;> rfl), by repeat (first | (with_reducible first | exact HB.out | apply Q6 | apply Q4 | apply Q7 | refine Q8 ?_ GE307.out | refine Q8 ?_ GE308.out | refine Q8 ?_ GE316.out | refine Q8 ?_ GE317.out) | exact HB.out)⟩
                                    · rw [if_neg c99] at H
                                      have c99b0 : (t324 == 42) = false := beq_eq_false_iff_ne.mpr c99
                                      have c99b1 : (t324 != 42) = true := bne_iff_ne.mpr c99
                                      obtain rfl := Option.some.inj H
                                      go_wp2_with (first | ((with_reducible refine gate_callee (f := 31) rfl ?_); refine goesL_ (some 73) rfl rfl Try.func31 (by kernel_rfl) rfl #[.string (a0.extract 0 ((ji76) : Int).toNat), .int .i64 0] rfl (by (try simp only [List.map_toArray, List.map_cons, List.map_nil]); first | done | (simp only [hji76]; rfl) | rfl | (simp only [List.length_drop, List.length_take]; rfl)) ?_; (with_reducible refine (class_Parse.calls (a0.extract 0 ((ji76) : Int).toNat) 0 t318 t319 t320 t321 t322 t323 t324 _ A79.out).mono ?_); rintro e w120 ⟨rfl, hb⟩; refine ⟨_, rfl, ?_⟩; have n0_ := Aside0.mk (Q11 (g := gb307) (o := .cells #[.int .u64 t300, .int .u64 t301, .int .u64 t302, .int .u64 t303] 24 (0, 0)) (by (with_reducible repeat (first | refine blk_drewN ?_ _ | refine blk_drew ?_ | refine Q5 ?_ _)); exact BK307.out) hb); have n1_ := Aside0.mk (Q11 (g := gb308) (o := .cells #[.int .i64 t305, .int .i64 t306] 49 (0, 0)) (by (with_reducible repeat (first | refine blk_drewN ?_ _ | refine blk_drew ?_ | refine Q5 ?_ _)); exact BK308.out) hb); have n2_ := Aside0.mk (Q11 (g := gb316) (o := .cells #[.int .u64 t309, .int .u64 t310, .int .u64 t311, .int .u64 t312] 24 (0, 0)) (by (with_reducible repeat (first | refine blk_drewN ?_ _ | refine blk_drew ?_ | refine Q5 ?_ _)); exact BK316.out) hb); have n3_ := Aside0.mk (Q11 (g := gb317) (o := .cells #[.int .i64 t314, .int .i64 t315] 49 (0, 0)) (by (with_reducible repeat (first | refine blk_drewN ?_ _ | refine blk_drew ?_ | refine Q5 ?_ _)); exact BK317.out) hb); have n4_ := Aside0.mk (Q12 (by repeat (first | (with_reducible first | exact HB.out | apply Q6 | apply Q4 | apply Q7 | refine Q8 ?_ GE307.out | refine Q8 ?_ GE308.out | refine Q8 ?_ GE316.out | refine Q8 ?_ GE317.out) | exact HB.out)) hb); clear BK307; clear BK308; clear BK316; clear BK317; clear HB; have BK307 := n0_; have BK308 := n1_; have BK316 := n2_; have BK317 := n3_; have HB := n4_; clear n0_ n1_ n2_ n3_ n4_; (try clear hb); (try clear hb2); (try clear hk); (try clear hi); have hnb121 := NB317_307.out; have hnc121 := NB307_317.out; have hnb122 := NB317_308.out; have hnc122 := NB308_317.out; have hnb123 := NB317_316.out; have hnc123 := NB316_317.out; have hcz124_0 : w120.cell? ⟨gb317, 0, none⟩ = some (.int .i64 t314) := (Q10 BK317.out 0).trans rfl; have hcz124_1 : w120.cell? ⟨gb317, 1, none⟩ = some (.int .i64 t315) := (Q10 BK317.out 1).trans rfl; have hfz124_0 := Q9 BK317.out 0; have hfz124_1 := Q9 BK317.out 1))
                                      go_ret
                                      exact ⟨by first | rfl | (simp [Q16, Q15] <;> rfl) | (simp only [← hji76]; first | rfl | (simp [Q16, Q15] <;> rfl)) | (simp [*, Q16, Q15] <;> rfl), by repeat (first | (with_reducible first | exact HB.out | apply Q6 | apply Q4 | apply Q7 | refine Q8 ?_ GE307.out | refine Q8 ?_ GE308.out | refine Q8 ?_ GE316.out | refine Q8 ?_ GE317.out) | exact HB.out)⟩
                                · rw [if_neg c92] at H
                                  have c92b0 : (t322 == 0) = false := beq_eq_false_iff_ne.mpr c92
                                  have c92b1 : (t322 != 0) = true := bne_iff_ne.mpr c92
                                  obtain rfl := Option.some.inj H
                                  go_wp2_with (first | ((with_reducible refine gate_callee (f := 31) rfl ?_); refine goesL_ (some 73) rfl rfl Try.func31 (by kernel_rfl) rfl #[.string (a0.extract 0 ((ji76) : Int).toNat), .int .i64 0] rfl (by (try simp only [List.map_toArray, List.map_cons, List.map_nil]); first | done | (simp only [hji76]; rfl) | rfl | (simp only [List.length_drop, List.length_take]; rfl)) ?_; (with_reducible refine (class_Parse.calls (a0.extract 0 ((ji76) : Int).toNat) 0 t318 t319 t320 t321 t322 t323 t324 _ A79.out).mono ?_); rintro e w125 ⟨rfl, hb⟩; refine ⟨_, rfl, ?_⟩; have n0_ := Aside0.mk (Q11 (g := gb307) (o := .cells #[.int .u64 t300, .int .u64 t301, .int .u64 t302, .int .u64 t303] 24 (0, 0)) (by (with_reducible repeat (first | refine blk_drewN ?_ _ | refine blk_drew ?_ | refine Q5 ?_ _)); exact BK307.out) hb); have n1_ := Aside0.mk (Q11 (g := gb308) (o := .cells #[.int .i64 t305, .int .i64 t306] 49 (0, 0)) (by (with_reducible repeat (first | refine blk_drewN ?_ _ | refine blk_drew ?_ | refine Q5 ?_ _)); exact BK308.out) hb); have n2_ := Aside0.mk (Q11 (g := gb316) (o := .cells #[.int .u64 t309, .int .u64 t310, .int .u64 t311, .int .u64 t312] 24 (0, 0)) (by (with_reducible repeat (first | refine blk_drewN ?_ _ | refine blk_drew ?_ | refine Q5 ?_ _)); exact BK316.out) hb); have n3_ := Aside0.mk (Q11 (g := gb317) (o := .cells #[.int .i64 t314, .int .i64 t315] 49 (0, 0)) (by (with_reducible repeat (first | refine blk_drewN ?_ _ | refine blk_drew ?_ | refine Q5 ?_ _)); exact BK317.out) hb); have n4_ := Aside0.mk (Q12 (by repeat (first | (with_reducible first | exact HB.out | apply Q6 | apply Q4 | apply Q7 | refine Q8 ?_ GE307.out | refine Q8 ?_ GE308.out | refine Q8 ?_ GE316.out | refine Q8 ?_ GE317.out) | exact HB.out)) hb); clear BK307; clear BK308; clear BK316; clear BK317; clear HB; have BK307 := n0_; have BK308 := n1_; have BK316 := n2_; have BK317 := n3_; have HB := n4_; clear n0_ n1_ n2_ n3_ n4_; (try clear hb); (try clear hb2); (try clear hk); (try clear hi); have hnb126 := NB317_307.out; have hnc126 := NB307_317.out; have hnb127 := NB317_308.out; have hnc127 := NB308_317.out; have hnb128 := NB317_316.out; have hnc128 := NB316_317.out; have hcz129_0 : w125.cell? ⟨gb317, 0, none⟩ = some (.int .i64 t314) := (Q10 BK317.out 0).trans rfl; have hcz129_1 : w125.cell? ⟨gb317, 1, none⟩ = some (.int .i64 t315) := (Q10 BK317.out 1).trans rfl; have hfz129_0 := Q9 BK317.out 0; have hfz129_1 := Q9 BK317.out 1))
                                  go_ret
                                  exact ⟨by first | rfl | (simp [Q16, Q15] <;> rfl) | (simp only [← hji76]; first | rfl | (simp [Q16, Q15] <;> rfl)) | (simp [*, Q16, Q15] <;> rfl), by repeat (first | (with_reducible first | exact HB.out | apply Q6 | apply Q4 | apply Q7 | refine Q8 ?_ GE307.out | refine Q8 ?_ GE308.out | refine Q8 ?_ GE316.out | refine Q8 ?_ GE317.out) | exact HB.out)⟩
                            · rw [if_neg c78] at H
                              exact absurd H (by simp)
                          · rw [if_neg c77] at H
                            exact absurd H (by simp)
                · rw [if_neg c35] at H
                  exact absurd H (by simp)
              · rw [if_neg c34] at H
                exact absurd H (by simp)
            · rw [if_neg c33] at H
              exact absurd H (by simp)
  · replace c5 := Bool.eq_false_iff.mpr c5
    subst c5
    have H1 : (some false) = some r := by rw [if_neg (show ¬ (false = true) by decide)] at H; exact H
    clear H
    have H := H1
    clear H1
    obtain rfl := Option.some.inj H
    go_enter Try.func9, Try.ntmps9
    go_wp2_with (first | ((with_reducible refine gate_callee (f := 34) rfl ?_); refine goesL_ (some 14) rfl rfl Try.func34 (by kernel_rfl) rfl #[] rfl (by (try simp only [List.map_toArray, List.map_cons, List.map_nil]); first | done | rfl | (simp only [List.length_drop, List.length_take]; rfl)) ?_; (with_reducible refine (dowellaw03_works.calls k  false _ A4.out).mono ?_); rintro e w130 ⟨rfl, hb⟩; refine ⟨_, rfl, ?_⟩; have n0_ := Aside0.mk (Q12 (by repeat (first | (with_reducible first | exact HB.out | apply Q6 | apply Q4 | apply Q7) | exact HB.out)) hb); clear HB; have HB := n0_; clear n0_; (try clear hb); (try clear hb2); (try clear hk); (try clear hi)))
    go_ret
    exact ⟨by first | rfl | (simp [Q16, Q15] <;> rfl) | (simp [*, Q16, Q15] <;> rfl), by repeat (first | (with_reducible first | exact HB.out | apply Q6 | apply Q4 | apply Q7) | exact HB.out)⟩
/-- THE ONE PURE STATEMENT of dowellaw03_ClassCuts: yours. -/
def dowellaw03_ClassCuts.Pure : Prop := ∀ (a0 : ByteArray) (a1 : ByteArray) (a2 : Int), a0.size ≤ 140737488351232 → a1.size ≤ 140737488351232 → (Lit.int .i64 a2).wf = true → ∃ k, dowellaw03_ClassCuts.f k a0 a1 a2 = some true
end Go.Proofs.Ytachpdeejificaa.P
