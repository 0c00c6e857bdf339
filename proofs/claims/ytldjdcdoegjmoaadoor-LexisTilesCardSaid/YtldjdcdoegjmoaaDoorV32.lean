import Derived.Test.YtldjdcdoegjmoaaDoorV1
import Derived.Test.YtldjdcdoegjmoaaDoorV13
import Derived.Test.YtldjdcdoegjmoaaDoorV16
import Derived.Test.YtldjdcdoegjmoaaDoorV28
import Derived.Test.YtldjdcdoegjmoaaDoorV30
namespace Go.Proofs.YtldjdcdoegjmoaaDoor.P
open Go.RowKit Go.Proofs.YtldjdcdoegjmoaaDoorW.PrintWords Go.Proofs.YtldjdcdoegjmoaaDoorW.PrintLast Go.Proofs.YtldjdcdoegjmoaaDoorW.PrintMore
set_option linter.unusedVariables false
set_option linter.unusedSimpArgs false
attribute [local go_sem high] eqA26 eqA41
mutual
def dowellaw04_LexisTiles.l0 : Nat → ByteArray → List (S26) → Int → Int → Option (Bool)
  | 0, _, _, _, _ => none
  | k + 1, x0, x3, x5, x6 => if x6 < (x3.length : Int) then (if 0 ≤ x6 then (if ((Q27 x3 x6).f1) < x5 then (dowellaw04_LexisTiles.j1 k x0 x3 x5 x6 true ((Q27 x3 x6).f0) ((Q27 x3 x6).f1) ((Q27 x3 x6).f2) ((Q27 x3 x6).f3) ((Q27 x3 x6).f4) ((Q27 x3 x6).f5.f0) ((Q27 x3 x6).f5.f1) ((Q27 x3 x6).f5.f2) ((Q27 x3 x6).f5.f3) ((Q27 x3 x6).f6) ((Q27 x3 x6).f7)) else (if ((Q27 x3 x6).f2) < ((Q27 x3 x6).f1) then (dowellaw04_LexisTiles.j1 k x0 x3 x5 x6 true ((Q27 x3 x6).f0) ((Q27 x3 x6).f1) ((Q27 x3 x6).f2) ((Q27 x3 x6).f3) ((Q27 x3 x6).f4) ((Q27 x3 x6).f5.f0) ((Q27 x3 x6).f5.f1) ((Q27 x3 x6).f5.f2) ((Q27 x3 x6).f5.f3) ((Q27 x3 x6).f6) ((Q27 x3 x6).f7)) else (if ((Q27 x3 x6).f2) > (x0.size : Int) then (dowellaw04_LexisTiles.j1 k x0 x3 x5 x6 true ((Q27 x3 x6).f0) ((Q27 x3 x6).f1) ((Q27 x3 x6).f2) ((Q27 x3 x6).f3) ((Q27 x3 x6).f4) ((Q27 x3 x6).f5.f0) ((Q27 x3 x6).f5.f1) ((Q27 x3 x6).f5.f2) ((Q27 x3 x6).f5.f3) ((Q27 x3 x6).f6) ((Q27 x3 x6).f7)) else (if 0 ≤ x5 then (if x5 ≤ ((Q27 x3 x6).f1) then (if ((Q27 x3 x6).f1) ≤ (x0.size : Int) then ((dowellaw04_blank.f k (x0.extract (x5 : Int).toNat (((Q27 x3 x6).f1) : Int).toNat)).bind fun t524 => (if t524 = true then (dowellaw04_LexisTiles.j1 k x0 x3 x5 x6 ((((Q27 x3 x6).f2) == ((Q27 x3 x6).f1)) != (((Q27 x3 x6).f0) == 0)) ((Q27 x3 x6).f0) ((Q27 x3 x6).f1) ((Q27 x3 x6).f2) ((Q27 x3 x6).f3) ((Q27 x3 x6).f4) ((Q27 x3 x6).f5.f0) ((Q27 x3 x6).f5.f1) ((Q27 x3 x6).f5.f2) ((Q27 x3 x6).f5.f3) ((Q27 x3 x6).f6) ((Q27 x3 x6).f7)) else (dowellaw04_LexisTiles.j1 k x0 x3 x5 x6 true ((Q27 x3 x6).f0) ((Q27 x3 x6).f1) ((Q27 x3 x6).f2) ((Q27 x3 x6).f3) ((Q27 x3 x6).f4) ((Q27 x3 x6).f5.f0) ((Q27 x3 x6).f5.f1) ((Q27 x3 x6).f5.f2) ((Q27 x3 x6).f5.f3) ((Q27 x3 x6).f6) ((Q27 x3 x6).f7)))) else (none)) else (none)) else (none))))) else (none)) else (some (x5 == (x0.size : Int)))
def dowellaw04_LexisTiles.j1 : Nat → ByteArray → List (S26) → Int → Int → Bool → Int → Int → Int → ByteArray → Bool → Int → Int → Int → Int → Int → Int → Option (Bool)
  | 0, _, _, _, _, _, _, _, _, _, _, _, _, _, _, _, _ => none
  | k + 1, x0, x3, x5, x6, x87, x524000, x524001, x524002, x524003, x524004, x524005, x524006, x524007, x524008, x524009, x524010 => if x87 = true then (some false) else (if ((x524000 == 0) != (x6 == (wrap64 ((x3.length : Int) - 1)))) = true then (some false) else ((lexis_Next.f k x0 x5).bind fun bt525 => (if (!(bt525.1 == x524000) || (!(bt525.2.1 == x524001) || (!(bt525.2.2.1 == x524002) || (!(bt525.2.2.2.1.toList == x524003.toList) || (!(bt525.2.2.2.2.1 == x524004) || ((!(bt525.2.2.2.2.2.1 == x524005) || (!(bt525.2.2.2.2.2.2.1 == x524006) || (!(bt525.2.2.2.2.2.2.2.1 == x524007) || (!(bt525.2.2.2.2.2.2.2.2.1 == x524008))))) || (!(bt525.2.2.2.2.2.2.2.2.2.1 == x524009) || (!(bt525.2.2.2.2.2.2.2.2.2.2.1 == x524010))))))))) = true then (some false) else (if (!(bt525.2.2.2.2.2.2.2.2.2.2.2.1 == 0) || (!(bt525.2.2.2.2.2.2.2.2.2.2.2.2 == 0))) = true then (some false) else (dowellaw04_LexisTiles.l0 k x0 x3 x524002 (wrap64 (x6 + 1)))))))
end
def dowellaw04_LexisTiles.f (k : Nat) (a0 : ByteArray) : Option (Bool) := (dowellaw04_works.f k).bind fun t515 => (if t515 = true then ((lexis_Tokens.f a0).bind fun bt516 => (if (!(bt516.2.1 == 0) || (!(bt516.2.2 == 0))) = true then (if (bt516.1.length : Int) = 0 then (if bt516.2.2 = 0 then (some false) else (if bt516.2.1 ≥ 0 then (some (decide (bt516.2.1 ≤ (a0.size : Int)))) else (some false))) else (some false)) else (dowellaw04_LexisTiles.l0 k a0 bt516.1 0 0))) else (some false))
set_option maxHeartbeats 8000000 in
set_option maxRecDepth 100000 in
theorem dowellaw04_LexisTiles.calls (k : Nat) (a0 : ByteArray) (r : Bool) (w : World) (h : dowellaw04_LexisTiles.f k a0 = some r) (ht : TabOk w) :
    Calls Tryd.prog 5 #[.string a0] w fun e w' => e = .returned (.bool r) ∧ Below w.heap.size w w' := by
  have HT := Aside0.mk ht
  clear ht
  have hu41 := Tryd.underlying41
  have hu26 := Tryd.underlying26
  have HB := Aside0.mk (Below.refl w.heap.size w)
  have H : ((dowellaw04_works.f k).bind fun t515 => (if t515 = true then ((lexis_Tokens.f a0).bind fun bt516 => (if (!(bt516.2.1 == 0) || (!(bt516.2.2 == 0))) = true then (if (bt516.1.length : Int) = 0 then (if bt516.2.2 = 0 then (some false) else (if bt516.2.1 ≥ 0 then (some (decide (bt516.2.1 ≤ (a0.size : Int)))) else (some false))) else (some false)) else (dowellaw04_LexisTiles.l0 k a0 bt516.1 0 0))) else (some false))) = some r := h
  clear h
  replace H := Option.bind_eq_some_iff.mp H
  obtain ⟨t515, A20, H⟩ := H
  replace H : (if t515 = true then ((lexis_Tokens.f a0).bind fun bt516 => (if (!(bt516.2.1 == 0) || (!(bt516.2.2 == 0))) = true then (if (bt516.1.length : Int) = 0 then (if bt516.2.2 = 0 then (some false) else (if bt516.2.1 ≥ 0 then (some (decide (bt516.2.1 ≤ (a0.size : Int)))) else (some false))) else (some false)) else (dowellaw04_LexisTiles.l0 k a0 bt516.1 0 0))) else (some false)) = some r := H
  have A2 := Aside0.mk A20
  clear A20
  by_cases c3 : t515 = true
  · subst c3
    have H1 : ((lexis_Tokens.f a0).bind fun bt516 => (if (!(bt516.2.1 == 0) || (!(bt516.2.2 == 0))) = true then (if (bt516.1.length : Int) = 0 then (if bt516.2.2 = 0 then (some false) else (if bt516.2.1 ≥ 0 then (some (decide (bt516.2.1 ≤ (a0.size : Int)))) else (some false))) else (some false)) else (dowellaw04_LexisTiles.l0 k a0 bt516.1 0 0))) = some r := by rw [if_pos rfl] at H; exact H
    clear H
    have H := H1
    clear H1
    replace H := Option.bind_eq_some_iff.mp H
    obtain ⟨⟨t516, t519, t520⟩, A40, H⟩ := H
    replace H : (if (!(t519 == 0) || (!(t520 == 0))) = true then (if (t516.length : Int) = 0 then (if t520 = 0 then (some false) else (if t519 ≥ 0 then (some (decide (t519 ≤ (a0.size : Int)))) else (some false))) else (some false)) else (dowellaw04_LexisTiles.l0 k a0 t516 0 0)) = some r := H
    have A4 := Aside0.mk A40
    clear A40
    by_cases c5 : (!(t519 == 0) || (!(t520 == 0))) = true
    · rw [if_pos c5] at H
      have c5b0 : (!(t519 == 0) || (!(t520 == 0))) = true := c5
      clear c5
      by_cases c6 : (t516.length : Int) = 0
      · rw [if_pos c6] at H
        have c6b0 : ((t516.length : Int) == 0) = true := beq_iff_eq.mpr c6
        have c6b1 : ((t516.length : Int) != 0) = false := bne_eq_false_iff_eq.mpr c6
        clear c6
        by_cases c7 : t520 = 0
        · rw [if_pos c7] at H
          have c7b0 : (t520 == 0) = true := beq_iff_eq.mpr c7
          have c7b1 : (t520 != 0) = false := bne_eq_false_iff_eq.mpr c7
          have c5x : (t519 == 0) = false := by rw [c7b0] at c5b0; simpa using c5b0
          clear c7
          obtain rfl := Option.some.inj H
          go_enter Tryd.func5, Tryd.ntmps5
          go_wp2_with (first | ((with_reducible refine Q40 (f := 14) rfl ?_); refine goesL_ (some 10) rfl rfl Tryd.func14 (by kernel_rfl) rfl #[] rfl (by (try simp only [List.map_toArray, List.map_cons, List.map_nil]); first | done | rfl | (simp only [List.length_drop, List.length_take]; rfl)) ?_; (with_reducible refine (dowellaw04_works.calls k  true _ A2.out ?tab).mono ?_); (case tab => exact tab_below HT.out (by repeat (first | (with_reducible first | exact HB.out | apply Q19 | apply Q8 | apply Q23) | exact HB.out))); rintro e w8 ⟨rfl, hb⟩; refine ⟨_, rfl, ?_⟩; have n0_ := Aside0.mk (Q34 (by repeat (first | (with_reducible first | exact HB.out | apply Q19 | apply Q8 | apply Q23) | exact HB.out)) hb); clear HB; have HB := n0_; clear n0_; (try clear hb); (try clear hb2); (try clear hk); (try clear hi)) | ((with_reducible refine Q40 (f := 15) rfl ?_); refine goesL_ (some 14) rfl rfl Tryd.func15 (by kernel_rfl) rfl #[.string a0] rfl (by (try simp only [List.map_toArray, List.map_cons, List.map_nil]); first | done | rfl | (simp only [List.length_drop, List.length_take]; rfl)) ?_; (with_reducible refine (lexis_Tokens.calls a0 t516 t519 t520 _ A4.out).mono ?_); rintro e w9 ⟨v517, rfl, ho0, hb⟩; refine ⟨_, rfl, ?_⟩; have n0_ := Aside0.mk (Kd.R_lower ho0 (Q29 (by repeat (first | (with_reducible first | exact HB.out | apply Q19 | apply Q8 | apply Q23) | exact HB.out)))); have n1_ := Aside0.mk (Q34 (by repeat (first | (with_reducible first | exact HB.out | apply Q19 | apply Q8 | apply Q23) | exact HB.out)) hb); clear HB; have HO518 := n0_; have HB := n1_; clear n0_ n1_; (try clear hb); (try clear hb2); (try clear hk); (try clear hi); (try clear ho0)) | ((with_reducible refine gate_dst (N := 4) rfl ?_); (try (refine gate_guard (by rfl) ?_; dsimp only)); refine Q43 ?hg (N := 4) ?hd (cs := #[.int .i64 0, .int .i64 0]) (t := 41) ?hr ?_; (case hd => rfl); (case hg => rfl); (case hr => first | (go_simp; done) | (go_simp; rfl)); intro gb521 hg w10 hbox hb; have n0_ := Aside0.mk (Kd.R_below (by (with_reducible repeat (first | apply Kd.R_alloc | apply Kd.R_drewN | apply Kd.R_drew)); exact HO518.out) hb); have n1_ := Aside0.mk (Q34 (by repeat (first | (with_reducible first | exact HB.out | apply Q19 | apply Q8 | apply Q23) | exact HB.out)) hb); have n2_ := Aside0.mk (hbox); have n3_ := Aside0.mk ((by rw [hg]; exact (Q29 (by repeat (first | (with_reducible first | exact HB.out | apply Q19 | apply Q8 | apply Q23) | exact HB.out))) : w.heap.size ≤ gb521)); have n4_ := Aside0.mk ((by rw [hg]; exact (Q29 (by repeat (first | (with_reducible first | exact HB.out | apply Q19 | apply Q8 | apply Q23) | exact HB.out))) : w.heap.size ≤ gb521)); clear HO518; clear HB; have HO518 := n0_; have HB := n1_; have BK521 := n2_; have GW521 := n3_; have GE521 := n4_; clear n0_ n1_ n2_ n3_ n4_; clear hb hbox hg; obtain ⟨hcz11_0, hcz11_1, hfz11_0, hfz11_1⟩ := blk_cells2 BK521.out; obtain ⟨Ao12, co12, eo12⟩ := Kd.R_slice HO518.out; subst eo12))
          go_ret
          exact ⟨by first | rfl | (simp [Q37, Q35] <;> rfl) | (simp [*, Q37, Q35] <;> rfl), by repeat (first | (with_reducible first | exact HB.out | apply Q19 | apply Q8 | apply Q23 | refine Q26 ?_ GE521.out) | exact HB.out)⟩
        · rw [if_neg c7] at H
          have c7b0 : (t520 == 0) = false := beq_eq_false_iff_ne.mpr c7
          have c7b1 : (t520 != 0) = true := bne_iff_ne.mpr c7
          by_cases c13 : t519 ≥ 0
          · rw [if_pos c13] at H
            have c13b0 : decide (0 ≤ t519) = true := decide_eq_true c13
            clear c13
            obtain rfl := Option.some.inj H
            go_enter Tryd.func5, Tryd.ntmps5
            go_wp2_with (first | ((with_reducible refine Q40 (f := 14) rfl ?_); refine goesL_ (some 10) rfl rfl Tryd.func14 (by kernel_rfl) rfl #[] rfl (by (try simp only [List.map_toArray, List.map_cons, List.map_nil]); first | done | rfl | (simp only [List.length_drop, List.length_take]; rfl)) ?_; (with_reducible refine (dowellaw04_works.calls k  true _ A2.out ?tab).mono ?_); (case tab => exact tab_below HT.out (by repeat (first | (with_reducible first | exact HB.out | apply Q19 | apply Q8 | apply Q23) | exact HB.out))); rintro e w14 ⟨rfl, hb⟩; refine ⟨_, rfl, ?_⟩; have n0_ := Aside0.mk (Q34 (by repeat (first | (with_reducible first | exact HB.out | apply Q19 | apply Q8 | apply Q23) | exact HB.out)) hb); clear HB; have HB := n0_; clear n0_; (try clear hb); (try clear hb2); (try clear hk); (try clear hi)) | ((with_reducible refine Q40 (f := 15) rfl ?_); refine goesL_ (some 14) rfl rfl Tryd.func15 (by kernel_rfl) rfl #[.string a0] rfl (by (try simp only [List.map_toArray, List.map_cons, List.map_nil]); first | done | rfl | (simp only [List.length_drop, List.length_take]; rfl)) ?_; (with_reducible refine (lexis_Tokens.calls a0 t516 t519 t520 _ A4.out).mono ?_); rintro e w15 ⟨v517, rfl, ho0, hb⟩; refine ⟨_, rfl, ?_⟩; have n0_ := Aside0.mk (Kd.R_lower ho0 (Q29 (by repeat (first | (with_reducible first | exact HB.out | apply Q19 | apply Q8 | apply Q23) | exact HB.out)))); have n1_ := Aside0.mk (Q34 (by repeat (first | (with_reducible first | exact HB.out | apply Q19 | apply Q8 | apply Q23) | exact HB.out)) hb); clear HB; have HO518 := n0_; have HB := n1_; clear n0_ n1_; (try clear hb); (try clear hb2); (try clear hk); (try clear hi); (try clear ho0)) | ((with_reducible refine gate_dst (N := 4) rfl ?_); (try (refine gate_guard (by rfl) ?_; dsimp only)); refine Q43 ?hg (N := 4) ?hd (cs := #[.int .i64 0, .int .i64 0]) (t := 41) ?hr ?_; (case hd => rfl); (case hg => rfl); (case hr => first | (go_simp; done) | (go_simp; rfl)); intro gb521 hg w16 hbox hb; have n0_ := Aside0.mk (Kd.R_below (by (with_reducible repeat (first | apply Kd.R_alloc | apply Kd.R_drewN | apply Kd.R_drew)); exact HO518.out) hb); have n1_ := Aside0.mk (Q34 (by repeat (first | (with_reducible first | exact HB.out | apply Q19 | apply Q8 | apply Q23) | exact HB.out)) hb); have n2_ := Aside0.mk (hbox); have n3_ := Aside0.mk ((by rw [hg]; exact (Q29 (by repeat (first | (with_reducible first | exact HB.out | apply Q19 | apply Q8 | apply Q23) | exact HB.out))) : w.heap.size ≤ gb521)); have n4_ := Aside0.mk ((by rw [hg]; exact (Q29 (by repeat (first | (with_reducible first | exact HB.out | apply Q19 | apply Q8 | apply Q23) | exact HB.out))) : w.heap.size ≤ gb521)); clear HO518; clear HB; have HO518 := n0_; have HB := n1_; have BK521 := n2_; have GW521 := n3_; have GE521 := n4_; clear n0_ n1_ n2_ n3_ n4_; clear hb hbox hg; obtain ⟨hcz17_0, hcz17_1, hfz17_0, hfz17_1⟩ := blk_cells2 BK521.out; obtain ⟨Ao18, co18, eo18⟩ := Kd.R_slice HO518.out; subst eo18))
            go_ret
            exact ⟨by first | rfl | (simp [Q37, Q35] <;> rfl) | (simp [*, Q37, Q35] <;> rfl), by repeat (first | (with_reducible first | exact HB.out | apply Q19 | apply Q8 | apply Q23 | refine Q26 ?_ GE521.out) | exact HB.out)⟩
          · rw [if_neg c13] at H
            have c13b0 : decide (0 ≤ t519) = false := decide_eq_false c13
            clear c13
            obtain rfl := Option.some.inj H
            go_enter Tryd.func5, Tryd.ntmps5
            go_wp2_with (first | ((with_reducible refine Q40 (f := 14) rfl ?_); refine goesL_ (some 10) rfl rfl Tryd.func14 (by kernel_rfl) rfl #[] rfl (by (try simp only [List.map_toArray, List.map_cons, List.map_nil]); first | done | rfl | (simp only [List.length_drop, List.length_take]; rfl)) ?_; (with_reducible refine (dowellaw04_works.calls k  true _ A2.out ?tab).mono ?_); (case tab => exact tab_below HT.out (by repeat (first | (with_reducible first | exact HB.out | apply Q19 | apply Q8 | apply Q23) | exact HB.out))); rintro e w19 ⟨rfl, hb⟩; refine ⟨_, rfl, ?_⟩; have n0_ := Aside0.mk (Q34 (by repeat (first | (with_reducible first | exact HB.out | apply Q19 | apply Q8 | apply Q23) | exact HB.out)) hb); clear HB; have HB := n0_; clear n0_; (try clear hb); (try clear hb2); (try clear hk); (try clear hi)) | ((with_reducible refine Q40 (f := 15) rfl ?_); refine goesL_ (some 14) rfl rfl Tryd.func15 (by kernel_rfl) rfl #[.string a0] rfl (by (try simp only [List.map_toArray, List.map_cons, List.map_nil]); first | done | rfl | (simp only [List.length_drop, List.length_take]; rfl)) ?_; (with_reducible refine (lexis_Tokens.calls a0 t516 t519 t520 _ A4.out).mono ?_); rintro e w20 ⟨v517, rfl, ho0, hb⟩; refine ⟨_, rfl, ?_⟩; have n0_ := Aside0.mk (Kd.R_lower ho0 (Q29 (by repeat (first | (with_reducible first | exact HB.out | apply Q19 | apply Q8 | apply Q23) | exact HB.out)))); have n1_ := Aside0.mk (Q34 (by repeat (first | (with_reducible first | exact HB.out | apply Q19 | apply Q8 | apply Q23) | exact HB.out)) hb); clear HB; have HO518 := n0_; have HB := n1_; clear n0_ n1_; (try clear hb); (try clear hb2); (try clear hk); (try clear hi); (try clear ho0)) | ((with_reducible refine gate_dst (N := 4) rfl ?_); (try (refine gate_guard (by rfl) ?_; dsimp only)); refine Q43 ?hg (N := 4) ?hd (cs := #[.int .i64 0, .int .i64 0]) (t := 41) ?hr ?_; (case hd => rfl); (case hg => rfl); (case hr => first | (go_simp; done) | (go_simp; rfl)); intro gb521 hg w21 hbox hb; have n0_ := Aside0.mk (Kd.R_below (by (with_reducible repeat (first | apply Kd.R_alloc | apply Kd.R_drewN | apply Kd.R_drew)); exact HO518.out) hb); have n1_ := Aside0.mk (Q34 (by repeat (first | (with_reducible first | exact HB.out | apply Q19 | apply Q8 | apply Q23) | exact HB.out)) hb); have n2_ := Aside0.mk (hbox); have n3_ := Aside0.mk ((by rw [hg]; exact (Q29 (by repeat (first | (with_reducible first | exact HB.out | apply Q19 | apply Q8 | apply Q23) | exact HB.out))) : w.heap.size ≤ gb521)); have n4_ := Aside0.mk ((by rw [hg]; exact (Q29 (by repeat (first | (with_reducible first | exact HB.out | apply Q19 | apply Q8 | apply Q23) | exact HB.out))) : w.heap.size ≤ gb521)); clear HO518; clear HB; have HO518 := n0_; have HB := n1_; have BK521 := n2_; have GW521 := n3_; have GE521 := n4_; clear n0_ n1_ n2_ n3_ n4_; clear hb hbox hg; obtain ⟨hcz22_0, hcz22_1, hfz22_0, hfz22_1⟩ := blk_cells2 BK521.out; obtain ⟨Ao23, co23, eo23⟩ := Kd.R_slice HO518.out; subst eo23))
            go_ret
            exact ⟨by first | rfl | (simp [Q37, Q35] <;> rfl) | (simp [*, Q37, Q35] <;> rfl), by repeat (first | (with_reducible first | exact HB.out | apply Q19 | apply Q8 | apply Q23 | refine Q26 ?_ GE521.out) | exact HB.out)⟩
      · rw [if_neg c6] at H
        have c6b0 : ((t516.length : Int) == 0) = false := beq_eq_false_iff_ne.mpr c6
        have c6b1 : ((t516.length : Int) != 0) = true := bne_iff_ne.mpr c6
        have c6b2 : ¬ (t516 = []) := fun h_ => c6 (by rw [h_]; rfl)
        obtain rfl := Option.some.inj H
        go_enter Tryd.func5, Tryd.ntmps5
        go_wp2_with (first | ((with_reducible refine Q40 (f := 14) rfl ?_); refine goesL_ (some 10) rfl rfl Tryd.func14 (by kernel_rfl) rfl #[] rfl (by (try simp only [List.map_toArray, List.map_cons, List.map_nil]); first | done | rfl | (simp only [List.length_drop, List.length_take]; rfl)) ?_; (with_reducible refine (dowellaw04_works.calls k  true _ A2.out ?tab).mono ?_); (case tab => exact tab_below HT.out (by repeat (first | (with_reducible first | exact HB.out | apply Q19 | apply Q8 | apply Q23) | exact HB.out))); rintro e w24 ⟨rfl, hb⟩; refine ⟨_, rfl, ?_⟩; have n0_ := Aside0.mk (Q34 (by repeat (first | (with_reducible first | exact HB.out | apply Q19 | apply Q8 | apply Q23) | exact HB.out)) hb); clear HB; have HB := n0_; clear n0_; (try clear hb); (try clear hb2); (try clear hk); (try clear hi)) | ((with_reducible refine Q40 (f := 15) rfl ?_); refine goesL_ (some 14) rfl rfl Tryd.func15 (by kernel_rfl) rfl #[.string a0] rfl (by (try simp only [List.map_toArray, List.map_cons, List.map_nil]); first | done | rfl | (simp only [List.length_drop, List.length_take]; rfl)) ?_; (with_reducible refine (lexis_Tokens.calls a0 t516 t519 t520 _ A4.out).mono ?_); rintro e w25 ⟨v517, rfl, ho0, hb⟩; refine ⟨_, rfl, ?_⟩; have n0_ := Aside0.mk (Kd.R_lower ho0 (Q29 (by repeat (first | (with_reducible first | exact HB.out | apply Q19 | apply Q8 | apply Q23) | exact HB.out)))); have n1_ := Aside0.mk (Q34 (by repeat (first | (with_reducible first | exact HB.out | apply Q19 | apply Q8 | apply Q23) | exact HB.out)) hb); clear HB; have HO518 := n0_; have HB := n1_; clear n0_ n1_; (try clear hb); (try clear hb2); (try clear hk); (try clear hi); (try clear ho0)) | ((with_reducible refine gate_dst (N := 4) rfl ?_); (try (refine gate_guard (by rfl) ?_; dsimp only)); refine Q43 ?hg (N := 4) ?hd (cs := #[.int .i64 0, .int .i64 0]) (t := 41) ?hr ?_; (case hd => rfl); (case hg => rfl); (case hr => first | (go_simp; done) | (go_simp; rfl)); intro gb521 hg w26 hbox hb; have n0_ := Aside0.mk (Kd.R_below (by (with_reducible repeat (first | apply Kd.R_alloc | apply Kd.R_drewN | apply Kd.R_drew)); exact HO518.out) hb); have n1_ := Aside0.mk (Q34 (by repeat (first | (with_reducible first | exact HB.out | apply Q19 | apply Q8 | apply Q23) | exact HB.out)) hb); have n2_ := Aside0.mk (hbox); have n3_ := Aside0.mk ((by rw [hg]; exact (Q29 (by repeat (first | (with_reducible first | exact HB.out | apply Q19 | apply Q8 | apply Q23) | exact HB.out))) : w.heap.size ≤ gb521)); have n4_ := Aside0.mk ((by rw [hg]; exact (Q29 (by repeat (first | (with_reducible first | exact HB.out | apply Q19 | apply Q8 | apply Q23) | exact HB.out))) : w.heap.size ≤ gb521)); clear HO518; clear HB; have HO518 := n0_; have HB := n1_; have BK521 := n2_; have GW521 := n3_; have GE521 := n4_; clear n0_ n1_ n2_ n3_ n4_; clear hb hbox hg; obtain ⟨hcz27_0, hcz27_1, hfz27_0, hfz27_1⟩ := blk_cells2 BK521.out; obtain ⟨Ao28, co28, eo28⟩ := Kd.R_slice HO518.out; subst eo28))
        go_ret
        exact ⟨by first | rfl | (simp [Q37, Q35] <;> rfl) | (simp [*, Q37, Q35] <;> rfl), by repeat (first | (with_reducible first | exact HB.out | apply Q19 | apply Q8 | apply Q23 | refine Q26 ?_ GE521.out) | exact HB.out)⟩
    · rw [if_neg c5] at H
      have c5b0 : (!(t519 == 0) || (!(t520 == 0))) = false := by simpa using c5
      clear c5
      have H' := Aside0.mk H
      clear H
      go_enter Tryd.func5, Tryd.ntmps5
      go_wp2_with (first | ((with_reducible refine Q40 (f := 14) rfl ?_); refine goesL_ (some 10) rfl rfl Tryd.func14 (by kernel_rfl) rfl #[] rfl (by (try simp only [List.map_toArray, List.map_cons, List.map_nil]); first | done | rfl | (simp only [List.length_drop, List.length_take]; rfl)) ?_; (with_reducible refine (dowellaw04_works.calls k  true _ A2.out ?tab).mono ?_); (case tab => exact tab_below HT.out (by repeat (first | (with_reducible first | exact HB.out | apply Q19 | apply Q8 | apply Q23) | exact HB.out))); rintro e w29 ⟨rfl, hb⟩; refine ⟨_, rfl, ?_⟩; have n0_ := Aside0.mk (Q34 (by repeat (first | (with_reducible first | exact HB.out | apply Q19 | apply Q8 | apply Q23) | exact HB.out)) hb); clear HB; have HB := n0_; clear n0_; (try clear hb); (try clear hb2); (try clear hk); (try clear hi)) | ((with_reducible refine Q40 (f := 15) rfl ?_); refine goesL_ (some 14) rfl rfl Tryd.func15 (by kernel_rfl) rfl #[.string a0] rfl (by (try simp only [List.map_toArray, List.map_cons, List.map_nil]); first | done | rfl | (simp only [List.length_drop, List.length_take]; rfl)) ?_; (with_reducible refine (lexis_Tokens.calls a0 t516 t519 t520 _ A4.out).mono ?_); rintro e w30 ⟨v517, rfl, ho0, hb⟩; refine ⟨_, rfl, ?_⟩; have n0_ := Aside0.mk (Kd.R_lower ho0 (Q29 (by repeat (first | (with_reducible first | exact HB.out | apply Q19 | apply Q8 | apply Q23) | exact HB.out)))); have n1_ := Aside0.mk (Q34 (by repeat (first | (with_reducible first | exact HB.out | apply Q19 | apply Q8 | apply Q23) | exact HB.out)) hb); clear HB; have HO518 := n0_; have HB := n1_; clear n0_ n1_; (try clear hb); (try clear hb2); (try clear hk); (try clear hi); (try clear ho0)) | ((with_reducible refine gate_dst (N := 4) rfl ?_); (try (refine gate_guard (by rfl) ?_; dsimp only)); refine Q43 ?hg (N := 4) ?hd (cs := #[.int .i64 0, .int .i64 0]) (t := 41) ?hr ?_; (case hd => rfl); (case hg => rfl); (case hr => first | (go_simp; done) | (go_simp; rfl)); intro gb521 hg w31 hbox hb; have n0_ := Aside0.mk (Kd.R_below (by (with_reducible repeat (first | apply Kd.R_alloc | apply Kd.R_drewN | apply Kd.R_drew)); exact HO518.out) hb); have n1_ := Aside0.mk (Q34 (by repeat (first | (with_reducible first | exact HB.out | apply Q19 | apply Q8 | apply Q23) | exact HB.out)) hb); have n2_ := Aside0.mk (hbox); have n3_ := Aside0.mk ((by rw [hg]; exact (Q29 (by repeat (first | (with_reducible first | exact HB.out | apply Q19 | apply Q8 | apply Q23) | exact HB.out))) : w.heap.size ≤ gb521)); have n4_ := Aside0.mk ((by rw [hg]; exact (Q29 (by repeat (first | (with_reducible first | exact HB.out | apply Q19 | apply Q8 | apply Q23) | exact HB.out))) : w.heap.size ≤ gb521)); clear HO518; clear HB; have HO518 := n0_; have HB := n1_; have BK521 := n2_; have GW521 := n3_; have GE521 := n4_; clear n0_ n1_ n2_ n3_ n4_; clear hb hbox hg; obtain ⟨hcz32_0, hcz32_1, hfz32_0, hfz32_1⟩ := blk_cells2 BK521.out))
      go_loopg [5, 6] k (fun kq v5 v6 w' => ∃ (x5_1 : Int) (x6_1 : Int), v5 = .int .i64 x5_1 ∧ v6 = .int .i64 x6_1 ∧ Aside0 (dowellaw04_LexisTiles.l0 kq a0 t516 x5_1 x6_1 = some r) ∧ Aside0 (kq ≤ k) ∧ Aside0 (Kd.R k26 26 w' w.heap.size (fun _ => True) v517 t516) ∧ Aside0 (w'.heap[gb521]? = some (.cells #[.int .i64 t519, .int .i64 t520] 41 (0, 0))) ∧ Aside0 (Below w.heap.size w w'))
      case atStart => exact ⟨(0), (0), (by first | rfl | (simp; done) | (simp [*]; done)), (by first | rfl | (simp; done) | (simp [*]; done)), H', ⟨Nat.le_refl _⟩, ⟨by (with_reducible repeat (first | apply Kd.R_alloc | apply Kd.R_drewN | apply Kd.R_drew)); exact Kd.R_mono (Kd.R_far (p := ⟨gb521, 1, none⟩) (Kd.R_far (p := ⟨gb521, 0, none⟩) (Kd.R_types HO518.out BK521.out (by decide)) (fun _ hk => hk.2) (.int .i64 t519)) (fun _ hk => hk.2) (.int .i64 t520)) (fun _ hk => trivial)⟩, ⟨by (with_reducible repeat (first | refine Q12 ?_ _ | refine Q24 ?_ | refine Q17 ?_ _)); apply blk_put2; (with_reducible repeat (first | refine Q12 ?_ _ | refine Q24 ?_ | refine Q17 ?_ _)); exact BK521.out⟩, ⟨by repeat (first | (with_reducible first | exact HB.out | apply Q19 | apply Q8 | apply Q23 | refine Q26 ?_ GE521.out) | exact HB.out)⟩⟩
      case round =>
        clear H'
        try clear c1
        try clear p2
        try clear c3
        try clear c5
        try clear c5b0
        try clear c6
        try clear c6b0
        try clear c6b1
        try clear c6b2
        try clear c7
        try clear c7b0
        try clear c7b1
        try clear c13
        try clear c13b0
        try clear c14
        try clear c15
        try clear hcz11_0
        try clear hcz11_1
        try clear hcz17_0
        try clear hcz17_1
        try clear hcz22_0
        try clear hcz22_1
        try clear hcz27_0
        try clear hcz27_1
        try clear hcz32_0
        try clear hcz32_1
        try clear hfz11_0
        try clear hfz11_1
        try clear hfz17_0
        try clear hfz17_1
        try clear hfz22_0
        try clear hfz22_1
        try clear hfz27_0
        try clear hfz27_1
        try clear hfz32_0
        try clear hfz32_1
        obtain ⟨x5_1, x6_1, rfl, rfl, HA, HK1, HO_3, BK521, HB⟩ := hrel
        cases gk with
        | zero => exact absurd HA.out (by simp [dowellaw04_LexisTiles.l0])
        | succ k1 =>
          have H := HA.out
          clear HA
          simp only [dowellaw04_LexisTiles.l0] at H
          by_cases c33 : x6_1 < (t516.length : Int)
          · rw [if_pos c33] at H
            have c33b0 : decide (x6_1 < (t516.length : Int)) = true := decide_eq_true c33
            clear c33
            by_cases c34 : 0 ≤ x6_1
            · rw [if_pos c34] at H
              have c34b0 : decide (0 ≤ x6_1) = true := decide_eq_true c34
              clear c34
              have HC35 := Aside0.mk H
              clear H
              obtain ⟨Ao36, co36, eo36⟩ := Kd.R_slice HO_3.out
              subst eo36
              have p522 : 0 ≤ (x6_1 : Int) := of_decide_eq_true (by first | (with_reducible assumption) | assumption)
              have q522 : x6_1 < (t516.length : Int) := of_decide_eq_true (by first | (with_reducible assumption) | assumption)
              obtain ⟨ad522, e522, hx522_0, hx522_1, hx522_2, hx522_3, hx522_4, hx522_5, hx522_6, hx522_7, hx522_8, hx522_9, hx522_10⟩ := at_T26 (Kd.R_reads' HO_3.out).2.2 x6_1 p522 q522
              cases e522
              replace p522 := eq_true p522
              replace q522 := eq_true q522
              go_upto_region 11 with (first | ((with_reducible refine gate_dst (N := 7) rfl ?_); (try (refine gate_guard (by rfl) ?_; dsimp only)); refine Q43 ?hg (N := 7) ?hd (cs := #[.int .i64 0, .int .i64 0, .int .i64 0, .string (⟨#[]⟩ : ByteArray), .bool false, .int .u64 0, .int .u64 0, .int .u64 0, .int .u64 0, .int .i64 0, .int .i64 0]) (t := 26) ?hr ?_; (case hd => rfl); (case hg => rfl); (case hr => first | (go_simp; done) | (go_simp; rfl)); intro gb523 hg w37 hbox hb; have n0_ := Aside0.mk (Kd.R_below (Kd.R_elderB (by (with_reducible repeat (first | apply Kd.R_alloc | apply Kd.R_drewN | apply Kd.R_drew)); exact HO_3.out) gb523 (Nat.le_of_eq hg.symm)) hb); have n1_ := Aside0.mk (Q38 (g := gb521) (o := .cells #[.int .i64 t519, .int .i64 t520] 41 (0, 0)) (by (with_reducible repeat (first | refine Q12 ?_ _ | refine Q24 ?_ | refine Q17 ?_ _)); exact BK521.out) hb); have n2_ := Aside0.mk (Q34 (by repeat (first | (with_reducible first | exact HB.out | apply Q19 | apply Q8 | apply Q23 | refine Q26 ?_ GE521.out) | exact HB.out)) hb); have n3_ := Aside0.mk (hbox); have n4_ := Aside0.mk ((by rw [hg]; exact (Q29 (by repeat (first | (with_reducible first | exact HB.out | apply Q19 | apply Q8 | apply Q23 | refine Q26 ?_ GE521.out) | exact HB.out))) : w.heap.size ≤ gb523)); have n5_ := Aside0.mk ((by rw [hg]; exact (Q29 (by repeat (first | (with_reducible first | exact HB.out | apply Q19 | apply Q8 | apply Q23 | refine Q26 ?_ GE521.out) | exact HB.out))) : w.heap.size ≤ gb523)); have n6_ := Aside0.mk ((by rw [hg]; exact Nat.ne_of_lt (blk_lt (g := gb521) (o := .cells #[.int .i64 t519, .int .i64 t520] 41 (0, 0)) (by (with_reducible repeat (first | refine Q12 ?_ _ | refine Q24 ?_ | refine Q17 ?_ _)); exact BK521.out)) : gb521 ≠ gb523)); have n7_ := Aside0.mk ((by rw [hg]; exact Nat.ne_of_gt (blk_lt (g := gb521) (o := .cells #[.int .i64 t519, .int .i64 t520] 41 (0, 0)) (by (with_reducible repeat (first | refine Q12 ?_ _ | refine Q24 ?_ | refine Q17 ?_ _)); exact BK521.out)) : gb523 ≠ gb521)); clear HO_3; clear BK521; clear HB; have HO_3 := n0_; have BK521 := n1_; have HB := n2_; have BK523 := n3_; have GW523 := n4_; have GE523 := n5_; have NB521_523 := n6_; have NB523_521 := n7_; clear n0_ n1_ n2_ n3_ n4_ n5_ n6_ n7_; clear hb hbox hg; have hnb38 := NB523_521.out; have hnc38 := NB521_523.out; obtain ⟨hcz39_0, hcz39_1, hcz39_2, hcz39_3, hcz39_4, hcz39_5, hcz39_6, hcz39_7, hcz39_8, hcz39_9, hcz39_10, hfz39_0, hfz39_1, hfz39_2, hfz39_3, hfz39_4, hfz39_5, hfz39_6, hfz39_7, hfz39_8, hfz39_9, hfz39_10⟩ := Q41 BK523.out))
              (try simp only [Act.put, List.setIfInBounds_toArray, List.set_cons_zero, List.set_cons_succ])
              go_cut [87] (fun v87 wc => ∃ (kq : Nat) (x87_34 : Bool), v87 = .bool x87_34 ∧ Aside0 (dowellaw04_LexisTiles.j1 kq a0 t516 x5_1 x6_1 x87_34 ((Q27 t516 x6_1).f0) ((Q27 t516 x6_1).f1) ((Q27 t516 x6_1).f2) ((Q27 t516 x6_1).f3) ((Q27 t516 x6_1).f4) ((Q27 t516 x6_1).f5.f0) ((Q27 t516 x6_1).f5.f1) ((Q27 t516 x6_1).f5.f2) ((Q27 t516 x6_1).f5.f3) ((Q27 t516 x6_1).f6) ((Q27 t516 x6_1).f7) = some r) ∧ Aside0 (kq ≤ k1) ∧ Aside0 (Kd.R k26 26 wc w.heap.size (fun k_ => k_ ≠ gb523) (.slice (some ad522) t516.length co36) t516) ∧ Aside0 (wc.heap[gb521]? = some (.cells #[.int .i64 t519, .int .i64 t520] 41 (0, 0))) ∧ Aside0 (wc.heap[gb523]? = some (.cells #[.int .i64 ((Q27 t516 x6_1).f0), .int .i64 ((Q27 t516 x6_1).f1), .int .i64 ((Q27 t516 x6_1).f2), .string ((Q27 t516 x6_1).f3), .bool ((Q27 t516 x6_1).f4), .int .u64 ((Q27 t516 x6_1).f5.f0), .int .u64 ((Q27 t516 x6_1).f5.f1), .int .u64 ((Q27 t516 x6_1).f5.f2), .int .u64 ((Q27 t516 x6_1).f5.f3), .int .i64 ((Q27 t516 x6_1).f6), .int .i64 ((Q27 t516 x6_1).f7)] 26 (0, 0))) ∧ Aside0 (Below w.heap.size w wc))
              case first =>
                have H := HC35.out
                clear HC35
                by_cases c40 : ((Q27 t516 x6_1).f1) < x5_1
                · rw [if_pos c40] at H
                  have c40b0 : decide (((Q27 t516 x6_1).f1) < x5_1) = true := decide_eq_true c40
                  clear c40
                  (first | rw [c40b0] | (simp only [i64_w, i32_w]; rw [c40b0]) | skip)
                  have H' := Aside0.mk H
                  clear H
                  have hnb41 := NB523_521.out
                  have hnc41 := NB521_523.out
                  have hcz42_0 : w37.cell? ⟨gb523, 0, none⟩ = some (.int .i64 0) := (Q32 BK523.out 0).trans rfl
                  have hcz42_1 : w37.cell? ⟨gb523, 1, none⟩ = some (.int .i64 0) := (Q32 BK523.out 1).trans rfl
                  have hcz42_2 : w37.cell? ⟨gb523, 2, none⟩ = some (.int .i64 0) := (Q32 BK523.out 2).trans rfl
                  have hcz42_3 : w37.cell? ⟨gb523, 3, none⟩ = some (.string (⟨#[]⟩ : ByteArray)) := (Q32 BK523.out 3).trans rfl
                  have hcz42_4 : w37.cell? ⟨gb523, 4, none⟩ = some (.bool false) := (Q32 BK523.out 4).trans rfl
                  have hcz42_5 : w37.cell? ⟨gb523, 5, none⟩ = some (.int .u64 0) := (Q32 BK523.out 5).trans rfl
                  have hcz42_6 : w37.cell? ⟨gb523, 6, none⟩ = some (.int .u64 0) := (Q32 BK523.out 6).trans rfl
                  have hcz42_7 : w37.cell? ⟨gb523, 7, none⟩ = some (.int .u64 0) := (Q32 BK523.out 7).trans rfl
                  have hcz42_8 : w37.cell? ⟨gb523, 8, none⟩ = some (.int .u64 0) := (Q32 BK523.out 8).trans rfl
                  have hcz42_9 : w37.cell? ⟨gb523, 9, none⟩ = some (.int .i64 0) := (Q32 BK523.out 9).trans rfl
                  have hcz42_10 : w37.cell? ⟨gb523, 10, none⟩ = some (.int .i64 0) := (Q32 BK523.out 10).trans rfl
                  have hfz42_0 := Q28 BK523.out 0
                  have hfz42_1 := Q28 BK523.out 1
                  have hfz42_2 := Q28 BK523.out 2
                  have hfz42_3 := Q28 BK523.out 3
                  have hfz42_4 := Q28 BK523.out 4
                  have hfz42_5 := Q28 BK523.out 5
                  have hfz42_6 := Q28 BK523.out 6
                  have hfz42_7 := Q28 BK523.out 7
                  have hfz42_8 := Q28 BK523.out 8
                  have hfz42_9 := Q28 BK523.out 9
                  have hfz42_10 := Q28 BK523.out 10
                  go_wp2
                  go_meet
                  case rel => exact ⟨_, (true), (by first | rfl | (simp; done) | (simp [*]; done)), H', ⟨by have := HK1.out; first | omega | exact Nat.le_refl _⟩, ⟨by (with_reducible repeat (first | apply Kd.R_alloc | apply Kd.R_drewN | apply Kd.R_drew)); exact Kd.R_mono (Kd.R_far (p := ⟨gb523, 10, none⟩) (Kd.R_far (p := ⟨gb523, 9, none⟩) (Kd.R_far (p := ⟨gb523, 8, none⟩) (Kd.R_far (p := ⟨gb523, 7, none⟩) (Kd.R_far (p := ⟨gb523, 6, none⟩) (Kd.R_far (p := ⟨gb523, 5, none⟩) (Kd.R_far (p := ⟨gb523, 4, none⟩) (Kd.R_far (p := ⟨gb523, 3, none⟩) (Kd.R_far (p := ⟨gb523, 2, none⟩) (Kd.R_far (p := ⟨gb523, 1, none⟩) (Kd.R_far (p := ⟨gb523, 0, none⟩) (Kd.R_mono HO_3.out (fun k_ hk => (⟨hk, hk.2⟩ : _ ∧ k_ ≠ gb523))) (fun _ hk => hk.2) (.int .i64 ((Q27 t516 x6_1).f0))) (fun _ hk => hk.2) (.int .i64 ((Q27 t516 x6_1).f1))) (fun _ hk => hk.2) (.int .i64 ((Q27 t516 x6_1).f2))) (fun _ hk => hk.2) (.string ((Q27 t516 x6_1).f3))) (fun _ hk => hk.2) (.bool ((Q27 t516 x6_1).f4))) (fun _ hk => hk.2) (.int .u64 ((Q27 t516 x6_1).f5.f0))) (fun _ hk => hk.2) (.int .u64 ((Q27 t516 x6_1).f5.f1))) (fun _ hk => hk.2) (.int .u64 ((Q27 t516 x6_1).f5.f2))) (fun _ hk => hk.2) (.int .u64 ((Q27 t516 x6_1).f5.f3))) (fun _ hk => hk.2) (.int .i64 ((Q27 t516 x6_1).f6))) (fun _ hk => hk.2) (.int .i64 ((Q27 t516 x6_1).f7))) (fun _ hk => hk.1.2)⟩, ⟨by (with_reducible repeat (first | refine Q12 ?_ _ | refine Q24 ?_ | refine Q17 ?_ _)); refine blk_far11 ?_ NB521_523.out; (with_reducible repeat (first | refine Q12 ?_ _ | refine Q24 ?_ | refine Q17 ?_ _)); exact BK521.out⟩, ⟨by (with_reducible repeat (first | refine Q12 ?_ _ | refine Q24 ?_ | refine Q17 ?_ _)); apply blk_put11; (with_reducible repeat (first | refine Q12 ?_ _ | refine Q24 ?_ | refine Q17 ?_ _)); exact BK523.out⟩, ⟨by repeat (first | (with_reducible first | exact HB.out | apply Q19 | apply Q8 | apply Q23 | refine Q26 ?_ GE521.out | refine Q26 ?_ GE523.out) | exact HB.out)⟩⟩
                · rw [if_neg c40] at H
                  have c40b0 : decide (((Q27 t516 x6_1).f1) < x5_1) = false := decide_eq_false c40
                  clear c40
                  (first | rw [c40b0] | (simp only [i64_w, i32_w]; rw [c40b0]) | skip)
                  by_cases c43 : ((Q27 t516 x6_1).f2) < ((Q27 t516 x6_1).f1)
                  · rw [if_pos c43] at H
                    have c43b0 : decide (((Q27 t516 x6_1).f2) < ((Q27 t516 x6_1).f1)) = true := decide_eq_true c43
                    clear c43
                    have H' := Aside0.mk H
                    clear H
                    have hnb44 := NB523_521.out
                    have hnc44 := NB521_523.out
                    have hcz45_0 : w37.cell? ⟨gb523, 0, none⟩ = some (.int .i64 0) := (Q32 BK523.out 0).trans rfl
                    have hcz45_1 : w37.cell? ⟨gb523, 1, none⟩ = some (.int .i64 0) := (Q32 BK523.out 1).trans rfl
                    have hcz45_2 : w37.cell? ⟨gb523, 2, none⟩ = some (.int .i64 0) := (Q32 BK523.out 2).trans rfl
                    have hcz45_3 : w37.cell? ⟨gb523, 3, none⟩ = some (.string (⟨#[]⟩ : ByteArray)) := (Q32 BK523.out 3).trans rfl
                    have hcz45_4 : w37.cell? ⟨gb523, 4, none⟩ = some (.bool false) := (Q32 BK523.out 4).trans rfl
                    have hcz45_5 : w37.cell? ⟨gb523, 5, none⟩ = some (.int .u64 0) := (Q32 BK523.out 5).trans rfl
                    have hcz45_6 : w37.cell? ⟨gb523, 6, none⟩ = some (.int .u64 0) := (Q32 BK523.out 6).trans rfl
                    have hcz45_7 : w37.cell? ⟨gb523, 7, none⟩ = some (.int .u64 0) := (Q32 BK523.out 7).trans rfl
                    have hcz45_8 : w37.cell? ⟨gb523, 8, none⟩ = some (.int .u64 0) := (Q32 BK523.out 8).trans rfl
                    have hcz45_9 : w37.cell? ⟨gb523, 9, none⟩ = some (.int .i64 0) := (Q32 BK523.out 9).trans rfl
                    have hcz45_10 : w37.cell? ⟨gb523, 10, none⟩ = some (.int .i64 0) := (Q32 BK523.out 10).trans rfl
                    have hfz45_0 := Q28 BK523.out 0
                    have hfz45_1 := Q28 BK523.out 1
                    have hfz45_2 := Q28 BK523.out 2
                    have hfz45_3 := Q28 BK523.out 3
                    have hfz45_4 := Q28 BK523.out 4
                    have hfz45_5 := Q28 BK523.out 5
                    have hfz45_6 := Q28 BK523.out 6
                    have hfz45_7 := Q28 BK523.out 7
                    have hfz45_8 := Q28 BK523.out 8
                    have hfz45_9 := Q28 BK523.out 9
                    have hfz45_10 := Q28 BK523.out 10
                    go_wp2
                    go_meet
                    case rel => exact ⟨_, (true), (by first | rfl | (simp; done) | (simp [*]; done)), H', ⟨by have := HK1.out; first | omega | exact Nat.le_refl _⟩, ⟨by (with_reducible repeat (first | apply Kd.R_alloc | apply Kd.R_drewN | apply Kd.R_drew)); exact Kd.R_mono (Kd.R_far (p := ⟨gb523, 10, none⟩) (Kd.R_far (p := ⟨gb523, 9, none⟩) (Kd.R_far (p := ⟨gb523, 8, none⟩) (Kd.R_far (p := ⟨gb523, 7, none⟩) (Kd.R_far (p := ⟨gb523, 6, none⟩) (Kd.R_far (p := ⟨gb523, 5, none⟩) (Kd.R_far (p := ⟨gb523, 4, none⟩) (Kd.R_far (p := ⟨gb523, 3, none⟩) (Kd.R_far (p := ⟨gb523, 2, none⟩) (Kd.R_far (p := ⟨gb523, 1, none⟩) (Kd.R_far (p := ⟨gb523, 0, none⟩) (Kd.R_mono HO_3.out (fun k_ hk => (⟨hk, hk.2⟩ : _ ∧ k_ ≠ gb523))) (fun _ hk => hk.2) (.int .i64 ((Q27 t516 x6_1).f0))) (fun _ hk => hk.2) (.int .i64 ((Q27 t516 x6_1).f1))) (fun _ hk => hk.2) (.int .i64 ((Q27 t516 x6_1).f2))) (fun _ hk => hk.2) (.string ((Q27 t516 x6_1).f3))) (fun _ hk => hk.2) (.bool ((Q27 t516 x6_1).f4))) (fun _ hk => hk.2) (.int .u64 ((Q27 t516 x6_1).f5.f0))) (fun _ hk => hk.2) (.int .u64 ((Q27 t516 x6_1).f5.f1))) (fun _ hk => hk.2) (.int .u64 ((Q27 t516 x6_1).f5.f2))) (fun _ hk => hk.2) (.int .u64 ((Q27 t516 x6_1).f5.f3))) (fun _ hk => hk.2) (.int .i64 ((Q27 t516 x6_1).f6))) (fun _ hk => hk.2) (.int .i64 ((Q27 t516 x6_1).f7))) (fun _ hk => hk.1.2)⟩, ⟨by (with_reducible repeat (first | refine Q12 ?_ _ | refine Q24 ?_ | refine Q17 ?_ _)); refine blk_far11 ?_ NB521_523.out; (with_reducible repeat (first | refine Q12 ?_ _ | refine Q24 ?_ | refine Q17 ?_ _)); exact BK521.out⟩, ⟨by (with_reducible repeat (first | refine Q12 ?_ _ | refine Q24 ?_ | refine Q17 ?_ _)); apply blk_put11; (with_reducible repeat (first | refine Q12 ?_ _ | refine Q24 ?_ | refine Q17 ?_ _)); exact BK523.out⟩, ⟨by repeat (first | (with_reducible first | exact HB.out | apply Q19 | apply Q8 | apply Q23 | refine Q26 ?_ GE521.out | refine Q26 ?_ GE523.out) | exact HB.out)⟩⟩
                  · rw [if_neg c43] at H
                    have c43b0 : decide (((Q27 t516 x6_1).f2) < ((Q27 t516 x6_1).f1)) = false := decide_eq_false c43
                    clear c43
                    by_cases c46 : ((Q27 t516 x6_1).f2) > (a0.size : Int)
                    · rw [if_pos c46] at H
                      have c46b0 : decide ((a0.size : Int) < ((Q27 t516 x6_1).f2)) = true := decide_eq_true c46
                      clear c46
                      have H' := Aside0.mk H
                      clear H
                      have hnb47 := NB523_521.out
                      have hnc47 := NB521_523.out
                      have hcz48_0 : w37.cell? ⟨gb523, 0, none⟩ = some (.int .i64 0) := (Q32 BK523.out 0).trans rfl
                      have hcz48_1 : w37.cell? ⟨gb523, 1, none⟩ = some (.int .i64 0) := (Q32 BK523.out 1).trans rfl
                      have hcz48_2 : w37.cell? ⟨gb523, 2, none⟩ = some (.int .i64 0) := (Q32 BK523.out 2).trans rfl
                      have hcz48_3 : w37.cell? ⟨gb523, 3, none⟩ = some (.string (⟨#[]⟩ : ByteArray)) := (Q32 BK523.out 3).trans rfl
                      have hcz48_4 : w37.cell? ⟨gb523, 4, none⟩ = some (.bool false) := (Q32 BK523.out 4).trans rfl
                      have hcz48_5 : w37.cell? ⟨gb523, 5, none⟩ = some (.int .u64 0) := (Q32 BK523.out 5).trans rfl
                      have hcz48_6 : w37.cell? ⟨gb523, 6, none⟩ = some (.int .u64 0) := (Q32 BK523.out 6).trans rfl
                      have hcz48_7 : w37.cell? ⟨gb523, 7, none⟩ = some (.int .u64 0) := (Q32 BK523.out 7).trans rfl
                      have hcz48_8 : w37.cell? ⟨gb523, 8, none⟩ = some (.int .u64 0) := (Q32 BK523.out 8).trans rfl
                      have hcz48_9 : w37.cell? ⟨gb523, 9, none⟩ = some (.int .i64 0) := (Q32 BK523.out 9).trans rfl
                      have hcz48_10 : w37.cell? ⟨gb523, 10, none⟩ = some (.int .i64 0) := (Q32 BK523.out 10).trans rfl
                      have hfz48_0 := Q28 BK523.out 0
                      have hfz48_1 := Q28 BK523.out 1
                      have hfz48_2 := Q28 BK523.out 2
                      have hfz48_3 := Q28 BK523.out 3
                      have hfz48_4 := Q28 BK523.out 4
                      have hfz48_5 := Q28 BK523.out 5
                      have hfz48_6 := Q28 BK523.out 6
                      have hfz48_7 := Q28 BK523.out 7
                      have hfz48_8 := Q28 BK523.out 8
                      have hfz48_9 := Q28 BK523.out 9
                      have hfz48_10 := Q28 BK523.out 10
                      go_wp2
                      go_meet
                      case rel => exact ⟨_, (true), (by first | rfl | (simp; done) | (simp [*]; done)), H', ⟨by have := HK1.out; first | omega | exact Nat.le_refl _⟩, ⟨by (with_reducible repeat (first | apply Kd.R_alloc | apply Kd.R_drewN | apply Kd.R_drew)); exact Kd.R_mono (Kd.R_far (p := ⟨gb523, 10, none⟩) (Kd.R_far (p := ⟨gb523, 9, none⟩) (Kd.R_far (p := ⟨gb523, 8, none⟩) (Kd.R_far (p := ⟨gb523, 7, none⟩) (Kd.R_far (p := ⟨gb523, 6, none⟩) (Kd.R_far (p := ⟨gb523, 5, none⟩) (Kd.R_far (p := ⟨gb523, 4, none⟩) (Kd.R_far (p := ⟨gb523, 3, none⟩) (Kd.R_far (p := ⟨gb523, 2, none⟩) (Kd.R_far (p := ⟨gb523, 1, none⟩) (Kd.R_far (p := ⟨gb523, 0, none⟩) (Kd.R_mono HO_3.out (fun k_ hk => (⟨hk, hk.2⟩ : _ ∧ k_ ≠ gb523))) (fun _ hk => hk.2) (.int .i64 ((Q27 t516 x6_1).f0))) (fun _ hk => hk.2) (.int .i64 ((Q27 t516 x6_1).f1))) (fun _ hk => hk.2) (.int .i64 ((Q27 t516 x6_1).f2))) (fun _ hk => hk.2) (.string ((Q27 t516 x6_1).f3))) (fun _ hk => hk.2) (.bool ((Q27 t516 x6_1).f4))) (fun _ hk => hk.2) (.int .u64 ((Q27 t516 x6_1).f5.f0))) (fun _ hk => hk.2) (.int .u64 ((Q27 t516 x6_1).f5.f1))) (fun _ hk => hk.2) (.int .u64 ((Q27 t516 x6_1).f5.f2))) (fun _ hk => hk.2) (.int .u64 ((Q27 t516 x6_1).f5.f3))) (fun _ hk => hk.2) (.int .i64 ((Q27 t516 x6_1).f6))) (fun _ hk => hk.2) (.int .i64 ((Q27 t516 x6_1).f7))) (fun _ hk => hk.1.2)⟩, ⟨by (with_reducible repeat (first | refine Q12 ?_ _ | refine Q24 ?_ | refine Q17 ?_ _)); refine blk_far11 ?_ NB521_523.out; (with_reducible repeat (first | refine Q12 ?_ _ | refine Q24 ?_ | refine Q17 ?_ _)); exact BK521.out⟩, ⟨by (with_reducible repeat (first | refine Q12 ?_ _ | refine Q24 ?_ | refine Q17 ?_ _)); apply blk_put11; (with_reducible repeat (first | refine Q12 ?_ _ | refine Q24 ?_ | refine Q17 ?_ _)); exact BK523.out⟩, ⟨by repeat (first | (with_reducible first | exact HB.out | apply Q19 | apply Q8 | apply Q23 | refine Q26 ?_ GE521.out | refine Q26 ?_ GE523.out) | exact HB.out)⟩⟩
                    · rw [if_neg c46] at H
                      have c46b0 : decide ((a0.size : Int) < ((Q27 t516 x6_1).f2)) = false := decide_eq_false c46
                      clear c46
                      by_cases c49 : 0 ≤ x5_1
                      · rw [if_pos c49] at H
                        have c49b0 := eq_true c49
                        have c49b1 : decide (0 ≤ x5_1) = true := decide_eq_true c49
                        clear c49
                        by_cases c50 : x5_1 ≤ ((Q27 t516 x6_1).f1)
                        · rw [if_pos c50] at H
                          have c50b0 := eq_true c50
                          have c50b1 : decide (x5_1 ≤ ((Q27 t516 x6_1).f1)) = true := decide_eq_true c50
                          clear c50
                          by_cases c51 : ((Q27 t516 x6_1).f1) ≤ (a0.size : Int)
                          · rw [if_pos c51] at H
                            have c51b0 := eq_true c51
                            have c51b1 : decide (((Q27 t516 x6_1).f1) ≤ (a0.size : Int)) = true := decide_eq_true c51
                            clear c51
                            replace H := Option.bind_eq_some_iff.mp H
                            obtain ⟨t524, A520, H⟩ := H
                            replace H : (if t524 = true then (dowellaw04_LexisTiles.j1 k1 a0 t516 x5_1 x6_1 ((((Q27 t516 x6_1).f2) == ((Q27 t516 x6_1).f1)) != (((Q27 t516 x6_1).f0) == 0)) ((Q27 t516 x6_1).f0) ((Q27 t516 x6_1).f1) ((Q27 t516 x6_1).f2) ((Q27 t516 x6_1).f3) ((Q27 t516 x6_1).f4) ((Q27 t516 x6_1).f5.f0) ((Q27 t516 x6_1).f5.f1) ((Q27 t516 x6_1).f5.f2) ((Q27 t516 x6_1).f5.f3) ((Q27 t516 x6_1).f6) ((Q27 t516 x6_1).f7)) else (dowellaw04_LexisTiles.j1 k1 a0 t516 x5_1 x6_1 true ((Q27 t516 x6_1).f0) ((Q27 t516 x6_1).f1) ((Q27 t516 x6_1).f2) ((Q27 t516 x6_1).f3) ((Q27 t516 x6_1).f4) ((Q27 t516 x6_1).f5.f0) ((Q27 t516 x6_1).f5.f1) ((Q27 t516 x6_1).f5.f2) ((Q27 t516 x6_1).f5.f3) ((Q27 t516 x6_1).f6) ((Q27 t516 x6_1).f7))) = some r := H
                            have A52 := Aside0.mk A520
                            clear A520
                            by_cases c53 : t524 = true
                            · subst c53
                              have H1 : (dowellaw04_LexisTiles.j1 k1 a0 t516 x5_1 x6_1 ((((Q27 t516 x6_1).f2) == ((Q27 t516 x6_1).f1)) != (((Q27 t516 x6_1).f0) == 0)) ((Q27 t516 x6_1).f0) ((Q27 t516 x6_1).f1) ((Q27 t516 x6_1).f2) ((Q27 t516 x6_1).f3) ((Q27 t516 x6_1).f4) ((Q27 t516 x6_1).f5.f0) ((Q27 t516 x6_1).f5.f1) ((Q27 t516 x6_1).f5.f2) ((Q27 t516 x6_1).f5.f3) ((Q27 t516 x6_1).f6) ((Q27 t516 x6_1).f7)) = some r := by rw [if_pos rfl] at H; exact H
                              clear H
                              have H := H1
                              clear H1
                              have H' := Aside0.mk H
                              clear H
                              have hnb54 := NB523_521.out
                              have hnc54 := NB521_523.out
                              have hcz55_0 : w37.cell? ⟨gb523, 0, none⟩ = some (.int .i64 0) := (Q32 BK523.out 0).trans rfl
                              have hcz55_1 : w37.cell? ⟨gb523, 1, none⟩ = some (.int .i64 0) := (Q32 BK523.out 1).trans rfl
                              have hcz55_2 : w37.cell? ⟨gb523, 2, none⟩ = some (.int .i64 0) := (Q32 BK523.out 2).trans rfl
                              have hcz55_3 : w37.cell? ⟨gb523, 3, none⟩ = some (.string (⟨#[]⟩ : ByteArray)) := (Q32 BK523.out 3).trans rfl
                              have hcz55_4 : w37.cell? ⟨gb523, 4, none⟩ = some (.bool false) := (Q32 BK523.out 4).trans rfl
                              have hcz55_5 : w37.cell? ⟨gb523, 5, none⟩ = some (.int .u64 0) := (Q32 BK523.out 5).trans rfl
                              have hcz55_6 : w37.cell? ⟨gb523, 6, none⟩ = some (.int .u64 0) := (Q32 BK523.out 6).trans rfl
                              have hcz55_7 : w37.cell? ⟨gb523, 7, none⟩ = some (.int .u64 0) := (Q32 BK523.out 7).trans rfl
                              have hcz55_8 : w37.cell? ⟨gb523, 8, none⟩ = some (.int .u64 0) := (Q32 BK523.out 8).trans rfl
                              have hcz55_9 : w37.cell? ⟨gb523, 9, none⟩ = some (.int .i64 0) := (Q32 BK523.out 9).trans rfl
                              have hcz55_10 : w37.cell? ⟨gb523, 10, none⟩ = some (.int .i64 0) := (Q32 BK523.out 10).trans rfl
                              have hfz55_0 := Q28 BK523.out 0
                              have hfz55_1 := Q28 BK523.out 1
                              have hfz55_2 := Q28 BK523.out 2
                              have hfz55_3 := Q28 BK523.out 3
                              have hfz55_4 := Q28 BK523.out 4
                              have hfz55_5 := Q28 BK523.out 5
                              have hfz55_6 := Q28 BK523.out 6
                              have hfz55_7 := Q28 BK523.out 7
                              have hfz55_8 := Q28 BK523.out 8
                              have hfz55_9 := Q28 BK523.out 9
                              have hfz55_10 := Q28 BK523.out 10
                              go_wp2_with (first | (go_at_call 16; (with_reducible refine (dowellaw04_blank.calls k1 (a0.extract (x5_1 : Int).toNat (((Q27 t516 x6_1).f1) : Int).toNat) true _ A52.out).mono ?_); rintro e w' ⟨rfl, ⟨nd, rfl⟩⟩))
                              go_meet
                              case rel => exact ⟨_, (((((Q27 t516 x6_1).f2) == ((Q27 t516 x6_1).f1)) != (((Q27 t516 x6_1).f0) == 0))), (by first | rfl | (simp; done) | (simp [*]; done)), H', ⟨by have := HK1.out; first | omega | exact Nat.le_refl _⟩, ⟨by (with_reducible repeat (first | apply Kd.R_alloc | apply Kd.R_drewN | apply Kd.R_drew)); exact Kd.R_mono (Kd.R_far (p := ⟨gb523, 10, none⟩) (Kd.R_far (p := ⟨gb523, 9, none⟩) (Kd.R_far (p := ⟨gb523, 8, none⟩) (Kd.R_far (p := ⟨gb523, 7, none⟩) (Kd.R_far (p := ⟨gb523, 6, none⟩) (Kd.R_far (p := ⟨gb523, 5, none⟩) (Kd.R_far (p := ⟨gb523, 4, none⟩) (Kd.R_far (p := ⟨gb523, 3, none⟩) (Kd.R_far (p := ⟨gb523, 2, none⟩) (Kd.R_far (p := ⟨gb523, 1, none⟩) (Kd.R_far (p := ⟨gb523, 0, none⟩) (Kd.R_mono HO_3.out (fun k_ hk => (⟨hk, hk.2⟩ : _ ∧ k_ ≠ gb523))) (fun _ hk => hk.2) (.int .i64 ((Q27 t516 x6_1).f0))) (fun _ hk => hk.2) (.int .i64 ((Q27 t516 x6_1).f1))) (fun _ hk => hk.2) (.int .i64 ((Q27 t516 x6_1).f2))) (fun _ hk => hk.2) (.string ((Q27 t516 x6_1).f3))) (fun _ hk => hk.2) (.bool ((Q27 t516 x6_1).f4))) (fun _ hk => hk.2) (.int .u64 ((Q27 t516 x6_1).f5.f0))) (fun _ hk => hk.2) (.int .u64 ((Q27 t516 x6_1).f5.f1))) (fun _ hk => hk.2) (.int .u64 ((Q27 t516 x6_1).f5.f2))) (fun _ hk => hk.2) (.int .u64 ((Q27 t516 x6_1).f5.f3))) (fun _ hk => hk.2) (.int .i64 ((Q27 t516 x6_1).f6))) (fun _ hk => hk.2) (.int .i64 ((Q27 t516 x6_1).f7))) (fun _ hk => hk.1.2)⟩, ⟨by (with_reducible repeat (first | refine Q12 ?_ _ | refine Q24 ?_ | refine Q17 ?_ _)); refine blk_far11 ?_ NB521_523.out; (with_reducible repeat (first | refine Q12 ?_ _ | refine Q24 ?_ | refine Q17 ?_ _)); exact BK521.out⟩, ⟨by (with_reducible repeat (first | refine Q12 ?_ _ | refine Q24 ?_ | refine Q17 ?_ _)); apply blk_put11; (with_reducible repeat (first | refine Q12 ?_ _ | refine Q24 ?_ | refine Q17 ?_ _)); exact BK523.out⟩, ⟨by repeat (first | (with_reducible first | exact HB.out | apply Q19 | apply Q8 | apply Q23 | refine Q26 ?_ GE521.out | refine Q26 ?_ GE523.out) | exact HB.out)⟩⟩
                            · replace c53 := Bool.eq_false_iff.mpr c53
                              subst c53
                              have H1 : (dowellaw04_LexisTiles.j1 k1 a0 t516 x5_1 x6_1 true ((Q27 t516 x6_1).f0) ((Q27 t516 x6_1).f1) ((Q27 t516 x6_1).f2) ((Q27 t516 x6_1).f3) ((Q27 t516 x6_1).f4) ((Q27 t516 x6_1).f5.f0) ((Q27 t516 x6_1).f5.f1) ((Q27 t516 x6_1).f5.f2) ((Q27 t516 x6_1).f5.f3) ((Q27 t516 x6_1).f6) ((Q27 t516 x6_1).f7)) = some r := by rw [if_neg (show ¬ (false = true) by decide)] at H; exact H
                              clear H
                              have H := H1
                              clear H1
                              have H' := Aside0.mk H
                              clear H
                              have hnb56 := NB523_521.out
                              have hnc56 := NB521_523.out
                              have hcz57_0 : w37.cell? ⟨gb523, 0, none⟩ = some (.int .i64 0) := (Q32 BK523.out 0).trans rfl
                              have hcz57_1 : w37.cell? ⟨gb523, 1, none⟩ = some (.int .i64 0) := (Q32 BK523.out 1).trans rfl
                              have hcz57_2 : w37.cell? ⟨gb523, 2, none⟩ = some (.int .i64 0) := (Q32 BK523.out 2).trans rfl
                              have hcz57_3 : w37.cell? ⟨gb523, 3, none⟩ = some (.string (⟨#[]⟩ : ByteArray)) := (Q32 BK523.out 3).trans rfl
                              have hcz57_4 : w37.cell? ⟨gb523, 4, none⟩ = some (.bool false) := (Q32 BK523.out 4).trans rfl
                              have hcz57_5 : w37.cell? ⟨gb523, 5, none⟩ = some (.int .u64 0) := (Q32 BK523.out 5).trans rfl
                              have hcz57_6 : w37.cell? ⟨gb523, 6, none⟩ = some (.int .u64 0) := (Q32 BK523.out 6).trans rfl
                              have hcz57_7 : w37.cell? ⟨gb523, 7, none⟩ = some (.int .u64 0) := (Q32 BK523.out 7).trans rfl
                              have hcz57_8 : w37.cell? ⟨gb523, 8, none⟩ = some (.int .u64 0) := (Q32 BK523.out 8).trans rfl
                              have hcz57_9 : w37.cell? ⟨gb523, 9, none⟩ = some (.int .i64 0) := (Q32 BK523.out 9).trans rfl
                              have hcz57_10 : w37.cell? ⟨gb523, 10, none⟩ = some (.int .i64 0) := (Q32 BK523.out 10).trans rfl
                              have hfz57_0 := Q28 BK523.out 0
                              have hfz57_1 := Q28 BK523.out 1
                              have hfz57_2 := Q28 BK523.out 2
                              have hfz57_3 := Q28 BK523.out 3
                              have hfz57_4 := Q28 BK523.out 4
                              have hfz57_5 := Q28 BK523.out 5
                              have hfz57_6 := Q28 BK523.out 6
                              have hfz57_7 := Q28 BK523.out 7
                              have hfz57_8 := Q28 BK523.out 8
                              have hfz57_9 := Q28 BK523.out 9
                              have hfz57_10 := Q28 BK523.out 10
                              go_wp2_with (first | (go_at_call 16; (with_reducible refine (dowellaw04_blank.calls k1 (a0.extract (x5_1 : Int).toNat (((Q27 t516 x6_1).f1) : Int).toNat) false _ A52.out).mono ?_); rintro e w' ⟨rfl, ⟨nd, rfl⟩⟩))
                              go_meet
                              case rel => exact ⟨_, (true), (by first | rfl | (simp; done) | (simp [*]; done)), H', ⟨by have := HK1.out; first | omega | exact Nat.le_refl _⟩, ⟨by (with_reducible repeat (first | apply Kd.R_alloc | apply Kd.R_drewN | apply Kd.R_drew)); exact Kd.R_mono (Kd.R_far (p := ⟨gb523, 10, none⟩) (Kd.R_far (p := ⟨gb523, 9, none⟩) (Kd.R_far (p := ⟨gb523, 8, none⟩) (Kd.R_far (p := ⟨gb523, 7, none⟩) (Kd.R_far (p := ⟨gb523, 6, none⟩) (Kd.R_far (p := ⟨gb523, 5, none⟩) (Kd.R_far (p := ⟨gb523, 4, none⟩) (Kd.R_far (p := ⟨gb523, 3, none⟩) (Kd.R_far (p := ⟨gb523, 2, none⟩) (Kd.R_far (p := ⟨gb523, 1, none⟩) (Kd.R_far (p := ⟨gb523, 0, none⟩) (Kd.R_mono HO_3.out (fun k_ hk => (⟨hk, hk.2⟩ : _ ∧ k_ ≠ gb523))) (fun _ hk => hk.2) (.int .i64 ((Q27 t516 x6_1).f0))) (fun _ hk => hk.2) (.int .i64 ((Q27 t516 x6_1).f1))) (fun _ hk => hk.2) (.int .i64 ((Q27 t516 x6_1).f2))) (fun _ hk => hk.2) (.string ((Q27 t516 x6_1).f3))) (fun _ hk => hk.2) (.bool ((Q27 t516 x6_1).f4))) (fun _ hk => hk.2) (.int .u64 ((Q27 t516 x6_1).f5.f0))) (fun _ hk => hk.2) (.int .u64 ((Q27 t516 x6_1).f5.f1))) (fun _ hk => hk.2) (.int .u64 ((Q27 t516 x6_1).f5.f2))) (fun _ hk => hk.2) (.int .u64 ((Q27 t516 x6_1).f5.f3))) (fun _ hk => hk.2) (.int .i64 ((Q27 t516 x6_1).f6))) (fun _ hk => hk.2) (.int .i64 ((Q27 t516 x6_1).f7))) (fun _ hk => hk.1.2)⟩, ⟨by (with_reducible repeat (first | refine Q12 ?_ _ | refine Q24 ?_ | refine Q17 ?_ _)); refine blk_far11 ?_ NB521_523.out; (with_reducible repeat (first | refine Q12 ?_ _ | refine Q24 ?_ | refine Q17 ?_ _)); exact BK521.out⟩, ⟨by (with_reducible repeat (first | refine Q12 ?_ _ | refine Q24 ?_ | refine Q17 ?_ _)); apply blk_put11; (with_reducible repeat (first | refine Q12 ?_ _ | refine Q24 ?_ | refine Q17 ?_ _)); exact BK523.out⟩, ⟨by repeat (first | (with_reducible first | exact HB.out | apply Q19 | apply Q8 | apply Q23 | refine Q26 ?_ GE521.out | refine Q26 ?_ GE523.out) | exact HB.out)⟩⟩
                          · rw [if_neg c51] at H
                            exact absurd H (by simp)
                        · rw [if_neg c50] at H
                          exact absurd H (by simp)
                      · rw [if_neg c49] at H
                        exact absurd H (by simp)
              case rest =>
                clear HC35
                try clear c1
                try clear p2
                try clear c3
                try clear c4
                try clear c5
                try clear c5b0
                try clear p5
                try clear q5
                try clear hx5
                try clear c6
                try clear c6b0
                try clear c6b1
                try clear c6b2
                try clear c7
                try clear c7b0
                try clear c7b1
                try clear c13
                try clear c13b0
                try clear c14
                try clear c15
                try clear c33
                try clear c33b0
                try clear c34
                try clear c34b0
                try clear c38
                try clear c40
                try clear c40b0
                try clear c41
                try clear c43
                try clear c43b0
                try clear c44
                try clear c46
                try clear c46b0
                try clear c47
                try clear c49
                try clear c49b0
                try clear c49b1
                try clear c50
                try clear c50b0
                try clear c50b1
                try clear c51
                try clear c51b0
                try clear c51b1
                try clear p52
                try clear q52
                try clear hx52
                try clear c53
                try clear c54
                try clear c56
                try clear hcz11_0
                try clear hcz11_1
                try clear hcz17_0
                try clear hcz17_1
                try clear hcz22_0
                try clear hcz22_1
                try clear hcz27_0
                try clear hcz27_1
                try clear hcz32_0
                try clear hcz32_1
                try clear hcz39_0
                try clear hcz39_1
                try clear hcz39_10
                try clear hcz39_2
                try clear hcz39_3
                try clear hcz39_4
                try clear hcz39_5
                try clear hcz39_6
                try clear hcz39_7
                try clear hcz39_8
                try clear hcz39_9
                try clear hcz42_0
                try clear hcz42_1
                try clear hcz42_10
                try clear hcz42_2
                try clear hcz42_3
                try clear hcz42_4
                try clear hcz42_5
                try clear hcz42_6
                try clear hcz42_7
                try clear hcz42_8
                try clear hcz42_9
                try clear hcz45_0
                try clear hcz45_1
                try clear hcz45_10
                try clear hcz45_2
                try clear hcz45_3
                try clear hcz45_4
                try clear hcz45_5
                try clear hcz45_6
                try clear hcz45_7
                try clear hcz45_8
                try clear hcz45_9
                try clear hcz48_0
                try clear hcz48_1
                try clear hcz48_10
                try clear hcz48_2
                try clear hcz48_3
                try clear hcz48_4
                try clear hcz48_5
                try clear hcz48_6
                try clear hcz48_7
                try clear hcz48_8
                try clear hcz48_9
                try clear hcz55_0
                try clear hcz55_1
                try clear hcz55_10
                try clear hcz55_2
                try clear hcz55_3
                try clear hcz55_4
                try clear hcz55_5
                try clear hcz55_6
                try clear hcz55_7
                try clear hcz55_8
                try clear hcz55_9
                try clear hcz57_0
                try clear hcz57_1
                try clear hcz57_10
                try clear hcz57_2
                try clear hcz57_3
                try clear hcz57_4
                try clear hcz57_5
                try clear hcz57_6
                try clear hcz57_7
                try clear hcz57_8
                try clear hcz57_9
                try clear hfz11_0
                try clear hfz11_1
                try clear hfz17_0
                try clear hfz17_1
                try clear hfz22_0
                try clear hfz22_1
                try clear hfz27_0
                try clear hfz27_1
                try clear hfz32_0
                try clear hfz32_1
                try clear hfz39_0
                try clear hfz39_1
                try clear hfz39_10
                try clear hfz39_2
                try clear hfz39_3
                try clear hfz39_4
                try clear hfz39_5
                try clear hfz39_6
                try clear hfz39_7
                try clear hfz39_8
                try clear hfz39_9
                try clear hfz42_0
                try clear hfz42_1
                try clear hfz42_10
                try clear hfz42_2
                try clear hfz42_3
                try clear hfz42_4
                try clear hfz42_5
                try clear hfz42_6
                try clear hfz42_7
                try clear hfz42_8
                try clear hfz42_9
                try clear hfz45_0
                try clear hfz45_1
                try clear hfz45_10
                try clear hfz45_2
                try clear hfz45_3
                try clear hfz45_4
                try clear hfz45_5
                try clear hfz45_6
                try clear hfz45_7
                try clear hfz45_8
                try clear hfz45_9
                try clear hfz48_0
                try clear hfz48_1
                try clear hfz48_10
                try clear hfz48_2
                try clear hfz48_3
                try clear hfz48_4
                try clear hfz48_5
                try clear hfz48_6
                try clear hfz48_7
                try clear hfz48_8
                try clear hfz48_9
                try clear hfz55_0
                try clear hfz55_1
                try clear hfz55_10
                try clear hfz55_2
                try clear hfz55_3
                try clear hfz55_4
                try clear hfz55_5
                try clear hfz55_6
                try clear hfz55_7
                try clear hfz55_8
                try clear hfz55_9
                try clear hfz57_0
                try clear hfz57_1
                try clear hfz57_10
                try clear hfz57_2
                try clear hfz57_3
                try clear hfz57_4
                try clear hfz57_5
                try clear hfz57_6
                try clear hfz57_7
                try clear hfz57_8
                try clear hfz57_9
                try clear hx522_0
                try clear hx522_1
                try clear hx522_10
                try clear hx522_2
                try clear hx522_3
                try clear hx522_4
                try clear hx522_5
                try clear hx522_6
                try clear hx522_7
                try clear hx522_8
                try clear hx522_9
                try clear p2
                try clear p522
                try clear q522
                obtain ⟨kq, x87_34, rfl, HA, HJ34, HO_3, BK521, BK523, HB⟩ := hcut
                cases kq with
                | zero => exact absurd HA.out (by simp [dowellaw04_LexisTiles.j1])
                | succ kj34 =>
                  have H := HA.out
                  clear HA
                  simp only [dowellaw04_LexisTiles.j1] at H
                  by_cases c58 : x87_34 = true
                  · subst c58
                    have H1 : (some false) = some r := by rw [if_pos rfl] at H; exact H
                    clear H
                    have H := H1
                    clear H1
                    obtain rfl := Option.some.inj H
                    go_wp2
                    go_ret
                    exact ⟨by first | rfl | (simp [Q37, Q35] <;> rfl) | (simp [*, Q37, Q35] <;> rfl), by repeat (first | (with_reducible first | exact HB.out | apply Q19 | apply Q8 | apply Q23 | refine Q26 ?_ GE521.out | refine Q26 ?_ GE523.out) | exact HB.out)⟩
                  · replace c58 := Bool.eq_false_iff.mpr c58
                    subst c58
                    have H1 : (if ((((Q27 t516 x6_1).f0) == 0) != (x6_1 == (wrap64 ((t516.length : Int) - 1)))) = true then (some false) else ((lexis_Next.f kj34 a0 x5_1).bind fun bt525 => (if (!(bt525.1 == ((Q27 t516 x6_1).f0)) || (!(bt525.2.1 == ((Q27 t516 x6_1).f1)) || (!(bt525.2.2.1 == ((Q27 t516 x6_1).f2)) || (!(bt525.2.2.2.1.toList == ((Q27 t516 x6_1).f3).toList) || (!(bt525.2.2.2.2.1 == ((Q27 t516 x6_1).f4)) || ((!(bt525.2.2.2.2.2.1 == ((Q27 t516 x6_1).f5.f0)) || (!(bt525.2.2.2.2.2.2.1 == ((Q27 t516 x6_1).f5.f1)) || (!(bt525.2.2.2.2.2.2.2.1 == ((Q27 t516 x6_1).f5.f2)) || (!(bt525.2.2.2.2.2.2.2.2.1 == ((Q27 t516 x6_1).f5.f3)))))) || (!(bt525.2.2.2.2.2.2.2.2.2.1 == ((Q27 t516 x6_1).f6)) || (!(bt525.2.2.2.2.2.2.2.2.2.2.1 == ((Q27 t516 x6_1).f7)))))))))) = true then (some false) else (if (!(bt525.2.2.2.2.2.2.2.2.2.2.2.1 == 0) || (!(bt525.2.2.2.2.2.2.2.2.2.2.2.2 == 0))) = true then (some false) else (dowellaw04_LexisTiles.l0 kj34 a0 t516 ((Q27 t516 x6_1).f2) (wrap64 (x6_1 + 1))))))) = some r := by rw [if_neg (show ¬ (false = true) by decide)] at H; exact H
                    clear H
                    have H := H1
                    clear H1
                    by_cases c59 : ((((Q27 t516 x6_1).f0) == 0) != (x6_1 == (wrap64 ((t516.length : Int) - 1)))) = true
                    · rw [if_pos c59] at H
                      have c59b0 : ((((Q27 t516 x6_1).f0) == 0) != (x6_1 == (wrap64 ((t516.length : Int) - 1)))) = true := c59
                      (try (have c59b1 : decide ((((Q27 t516 x6_1).f0) == 0) = (x6_1 == (wrap64 ((t516.length : Int) - 1)))) = false := by simpa using c59))
                      (try (have c59b2 : ((((Q27 t516 x6_1).f0) == 0) == (x6_1 == (wrap64 ((t516.length : Int) - 1)))) = false := by simpa using c59))
                      (try (have c59b3 : ¬ ((((Q27 t516 x6_1).f0) == 0) = (x6_1 == (wrap64 ((t516.length : Int) - 1)))) := by simpa using c59))
                      clear c59
                      obtain rfl := Option.some.inj H
                      have hnb60 := NB523_521.out
                      have hnc60 := NB521_523.out
                      have hcz61_0 : wc.cell? ⟨gb523, 0, none⟩ = some (.int .i64 ((Q27 t516 x6_1).f0)) := (Q32 BK523.out 0).trans rfl
                      have hcz61_1 : wc.cell? ⟨gb523, 1, none⟩ = some (.int .i64 ((Q27 t516 x6_1).f1)) := (Q32 BK523.out 1).trans rfl
                      have hcz61_2 : wc.cell? ⟨gb523, 2, none⟩ = some (.int .i64 ((Q27 t516 x6_1).f2)) := (Q32 BK523.out 2).trans rfl
                      have hcz61_3 : wc.cell? ⟨gb523, 3, none⟩ = some (.string ((Q27 t516 x6_1).f3)) := (Q32 BK523.out 3).trans rfl
                      have hcz61_4 : wc.cell? ⟨gb523, 4, none⟩ = some (.bool ((Q27 t516 x6_1).f4)) := (Q32 BK523.out 4).trans rfl
                      have hcz61_5 : wc.cell? ⟨gb523, 5, none⟩ = some (.int .u64 ((Q27 t516 x6_1).f5.f0)) := (Q32 BK523.out 5).trans rfl
                      have hcz61_6 : wc.cell? ⟨gb523, 6, none⟩ = some (.int .u64 ((Q27 t516 x6_1).f5.f1)) := (Q32 BK523.out 6).trans rfl
                      have hcz61_7 : wc.cell? ⟨gb523, 7, none⟩ = some (.int .u64 ((Q27 t516 x6_1).f5.f2)) := (Q32 BK523.out 7).trans rfl
                      have hcz61_8 : wc.cell? ⟨gb523, 8, none⟩ = some (.int .u64 ((Q27 t516 x6_1).f5.f3)) := (Q32 BK523.out 8).trans rfl
                      have hcz61_9 : wc.cell? ⟨gb523, 9, none⟩ = some (.int .i64 ((Q27 t516 x6_1).f6)) := (Q32 BK523.out 9).trans rfl
                      have hcz61_10 : wc.cell? ⟨gb523, 10, none⟩ = some (.int .i64 ((Q27 t516 x6_1).f7)) := (Q32 BK523.out 10).trans rfl
                      have hfz61_0 := Q28 BK523.out 0
                      have hfz61_1 := Q28 BK523.out 1
                      have hfz61_2 := Q28 BK523.out 2
                      have hfz61_3 := Q28 BK523.out 3
                      have hfz61_4 := Q28 BK523.out 4
                      have hfz61_5 := Q28 BK523.out 5
                      have hfz61_6 := Q28 BK523.out 6
                      have hfz61_7 := Q28 BK523.out 7
                      have hfz61_8 := Q28 BK523.out 8
                      have hfz61_9 := Q28 BK523.out 9
                      have hfz61_10 := Q28 BK523.out 10
                      go_wp2
                      go_ret
                      exact ⟨by first | rfl | (simp [Q37, Q35] <;> rfl) | (simp [*, Q37, Q35] <;> rfl), by repeat (first | (with_reducible first | exact HB.out | apply Q19 | apply Q8 | apply Q23 | refine Q26 ?_ GE521.out | refine Q26 ?_ GE523.out) | exact HB.out)⟩
                    · rw [if_neg c59] at H
                      have c59b0 : ((((Q27 t516 x6_1).f0) == 0) != (x6_1 == (wrap64 ((t516.length : Int) - 1)))) = false := by simpa using c59
                      (try (have c59b1 : decide ((((Q27 t516 x6_1).f0) == 0) = (x6_1 == (wrap64 ((t516.length : Int) - 1)))) = true := by simpa using c59))
                      (try (have c59b2 : ((((Q27 t516 x6_1).f0) == 0) == (x6_1 == (wrap64 ((t516.length : Int) - 1)))) = true := by simpa using c59))
                      clear c59
                      replace H := Option.bind_eq_some_iff.mp H
                      obtain ⟨⟨t525, t526, t527, t528, t529, t530, t531, t532, t533, t534, t535, t536, t537⟩, A620, H⟩ := H
                      replace H : (if (!(t525 == ((Q27 t516 x6_1).f0)) || (!(t526 == ((Q27 t516 x6_1).f1)) || (!(t527 == ((Q27 t516 x6_1).f2)) || (!(t528.toList == ((Q27 t516 x6_1).f3).toList) || (!(t529 == ((Q27 t516 x6_1).f4)) || ((!(t530 == ((Q27 t516 x6_1).f5.f0)) || (!(t531 == ((Q27 t516 x6_1).f5.f1)) || (!(t532 == ((Q27 t516 x6_1).f5.f2)) || (!(t533 == ((Q27 t516 x6_1).f5.f3)))))) || (!(t534 == ((Q27 t516 x6_1).f6)) || (!(t535 == ((Q27 t516 x6_1).f7)))))))))) = true then (some false) else (if (!(t536 == 0) || (!(t537 == 0))) = true then (some false) else (dowellaw04_LexisTiles.l0 kj34 a0 t516 ((Q27 t516 x6_1).f2) (wrap64 (x6_1 + 1))))) = some r := H
                      have A62 := Aside0.mk A620
                      clear A620
                      by_cases c63 : (!(t525 == ((Q27 t516 x6_1).f0)) || (!(t526 == ((Q27 t516 x6_1).f1)) || (!(t527 == ((Q27 t516 x6_1).f2)) || (!(t528.toList == ((Q27 t516 x6_1).f3).toList) || (!(t529 == ((Q27 t516 x6_1).f4)) || ((!(t530 == ((Q27 t516 x6_1).f5.f0)) || (!(t531 == ((Q27 t516 x6_1).f5.f1)) || (!(t532 == ((Q27 t516 x6_1).f5.f2)) || (!(t533 == ((Q27 t516 x6_1).f5.f3)))))) || (!(t534 == ((Q27 t516 x6_1).f6)) || (!(t535 == ((Q27 t516 x6_1).f7)))))))))) = true
                      · rw [if_pos c63] at H
                        have c63b0 : (!(t525 == ((Q27 t516 x6_1).f0)) || (!(t526 == ((Q27 t516 x6_1).f1)) || (!(t527 == ((Q27 t516 x6_1).f2)) || (!(t528.toList == ((Q27 t516 x6_1).f3).toList) || (!(t529 == ((Q27 t516 x6_1).f4)) || ((!(t530 == ((Q27 t516 x6_1).f5.f0)) || (!(t531 == ((Q27 t516 x6_1).f5.f1)) || (!(t532 == ((Q27 t516 x6_1).f5.f2)) || (!(t533 == ((Q27 t516 x6_1).f5.f3)))))) || (!(t534 == ((Q27 t516 x6_1).f6)) || (!(t535 == ((Q27 t516 x6_1).f7)))))))))) = true := c63
                        clear c63
                        obtain rfl := Option.some.inj H
                        have hnb64 := NB523_521.out
                        have hnc64 := NB521_523.out
                        have hcz65_0 : wc.cell? ⟨gb523, 0, none⟩ = some (.int .i64 ((Q27 t516 x6_1).f0)) := (Q32 BK523.out 0).trans rfl
                        have hcz65_1 : wc.cell? ⟨gb523, 1, none⟩ = some (.int .i64 ((Q27 t516 x6_1).f1)) := (Q32 BK523.out 1).trans rfl
                        have hcz65_2 : wc.cell? ⟨gb523, 2, none⟩ = some (.int .i64 ((Q27 t516 x6_1).f2)) := (Q32 BK523.out 2).trans rfl
                        have hcz65_3 : wc.cell? ⟨gb523, 3, none⟩ = some (.string ((Q27 t516 x6_1).f3)) := (Q32 BK523.out 3).trans rfl
                        have hcz65_4 : wc.cell? ⟨gb523, 4, none⟩ = some (.bool ((Q27 t516 x6_1).f4)) := (Q32 BK523.out 4).trans rfl
                        have hcz65_5 : wc.cell? ⟨gb523, 5, none⟩ = some (.int .u64 ((Q27 t516 x6_1).f5.f0)) := (Q32 BK523.out 5).trans rfl
                        have hcz65_6 : wc.cell? ⟨gb523, 6, none⟩ = some (.int .u64 ((Q27 t516 x6_1).f5.f1)) := (Q32 BK523.out 6).trans rfl
                        have hcz65_7 : wc.cell? ⟨gb523, 7, none⟩ = some (.int .u64 ((Q27 t516 x6_1).f5.f2)) := (Q32 BK523.out 7).trans rfl
                        have hcz65_8 : wc.cell? ⟨gb523, 8, none⟩ = some (.int .u64 ((Q27 t516 x6_1).f5.f3)) := (Q32 BK523.out 8).trans rfl
                        have hcz65_9 : wc.cell? ⟨gb523, 9, none⟩ = some (.int .i64 ((Q27 t516 x6_1).f6)) := (Q32 BK523.out 9).trans rfl
                        have hcz65_10 : wc.cell? ⟨gb523, 10, none⟩ = some (.int .i64 ((Q27 t516 x6_1).f7)) := (Q32 BK523.out 10).trans rfl
                        have hfz65_0 := Q28 BK523.out 0
                        have hfz65_1 := Q28 BK523.out 1
                        have hfz65_2 := Q28 BK523.out 2
                        have hfz65_3 := Q28 BK523.out 3
                        have hfz65_4 := Q28 BK523.out 4
                        have hfz65_5 := Q28 BK523.out 5
                        have hfz65_6 := Q28 BK523.out 6
                        have hfz65_7 := Q28 BK523.out 7
                        have hfz65_8 := Q28 BK523.out 8
                        have hfz65_9 := Q28 BK523.out 9
                        have hfz65_10 := Q28 BK523.out 10
                        go_wp2_with (first | ((with_reducible refine Q40 (f := 17) rfl ?_); refine goesL_ (some 100) rfl rfl Tryd.func17 (by kernel_rfl) rfl #[.string a0, .int .i64 x5_1] rfl (by (try simp only [List.map_toArray, List.map_cons, List.map_nil]); first | done | rfl | (simp only [List.length_drop, List.length_take]; rfl)) ?_; (with_reducible refine (lexis_Next.calls kj34 a0 x5_1 t525 t526 t527 t528 t529 t530 t531 t532 t533 t534 t535 t536 t537 _ A62.out).mono ?_); rintro e w66 ⟨rfl, hb⟩; refine ⟨_, rfl, ?_⟩; have n0_ := Aside0.mk (Kd.R_below (by (with_reducible repeat (first | apply Kd.R_alloc | apply Kd.R_drewN | apply Kd.R_drew)); exact HO_3.out) hb); have n1_ := Aside0.mk (Q38 (g := gb521) (o := .cells #[.int .i64 t519, .int .i64 t520] 41 (0, 0)) (by (with_reducible repeat (first | refine Q12 ?_ _ | refine Q24 ?_ | refine Q17 ?_ _)); exact BK521.out) hb); have n2_ := Aside0.mk (Q38 (g := gb523) (o := .cells #[.int .i64 ((Q27 t516 x6_1).f0), .int .i64 ((Q27 t516 x6_1).f1), .int .i64 ((Q27 t516 x6_1).f2), .string ((Q27 t516 x6_1).f3), .bool ((Q27 t516 x6_1).f4), .int .u64 ((Q27 t516 x6_1).f5.f0), .int .u64 ((Q27 t516 x6_1).f5.f1), .int .u64 ((Q27 t516 x6_1).f5.f2), .int .u64 ((Q27 t516 x6_1).f5.f3), .int .i64 ((Q27 t516 x6_1).f6), .int .i64 ((Q27 t516 x6_1).f7)] 26 (0, 0)) (by (with_reducible repeat (first | refine Q12 ?_ _ | refine Q24 ?_ | refine Q17 ?_ _)); exact BK523.out) hb); have n3_ := Aside0.mk (Q34 (by repeat (first | (with_reducible first | exact HB.out | apply Q19 | apply Q8 | apply Q23 | refine Q26 ?_ GE521.out | refine Q26 ?_ GE523.out) | exact HB.out)) hb); clear HO_3; clear BK521; clear BK523; clear HB; have HO_3 := n0_; have BK521 := n1_; have BK523 := n2_; have HB := n3_; clear n0_ n1_ n2_ n3_; (try clear hb); (try clear hb2); (try clear hk); (try clear hi)) | ((with_reducible refine gate_dst (N := 8) rfl ?_); (try (refine gate_guard (by rfl) ?_; dsimp only)); refine Q43 ?hg (N := 8) ?hd (cs := #[.int .i64 0, .int .i64 0, .int .i64 0, .string (⟨#[]⟩ : ByteArray), .bool false, .int .u64 0, .int .u64 0, .int .u64 0, .int .u64 0, .int .i64 0, .int .i64 0]) (t := 26) ?hr ?_; (case hd => rfl); (case hg => rfl); (case hr => first | (go_simp; done) | (go_simp; rfl)); intro gb538 hg w67 hbox hb; have n0_ := Aside0.mk (Kd.R_below (Kd.R_elderB (by (with_reducible repeat (first | apply Kd.R_alloc | apply Kd.R_drewN | apply Kd.R_drew)); exact HO_3.out) gb538 (Nat.le_of_eq hg.symm)) hb); have n1_ := Aside0.mk (Q38 (g := gb521) (o := .cells #[.int .i64 t519, .int .i64 t520] 41 (0, 0)) (by (with_reducible repeat (first | refine Q12 ?_ _ | refine Q24 ?_ | refine Q17 ?_ _)); exact BK521.out) hb); have n2_ := Aside0.mk (Q38 (g := gb523) (o := .cells #[.int .i64 ((Q27 t516 x6_1).f0), .int .i64 ((Q27 t516 x6_1).f1), .int .i64 ((Q27 t516 x6_1).f2), .string ((Q27 t516 x6_1).f3), .bool ((Q27 t516 x6_1).f4), .int .u64 ((Q27 t516 x6_1).f5.f0), .int .u64 ((Q27 t516 x6_1).f5.f1), .int .u64 ((Q27 t516 x6_1).f5.f2), .int .u64 ((Q27 t516 x6_1).f5.f3), .int .i64 ((Q27 t516 x6_1).f6), .int .i64 ((Q27 t516 x6_1).f7)] 26 (0, 0)) (by (with_reducible repeat (first | refine Q12 ?_ _ | refine Q24 ?_ | refine Q17 ?_ _)); exact BK523.out) hb); have n3_ := Aside0.mk (Q34 (by repeat (first | (with_reducible first | exact HB.out | apply Q19 | apply Q8 | apply Q23 | refine Q26 ?_ GE521.out | refine Q26 ?_ GE523.out) | exact HB.out)) hb); have n4_ := Aside0.mk (hbox); have n5_ := Aside0.mk ((by rw [hg]; exact (Q29 (by repeat (first | (with_reducible first | exact HB.out | apply Q19 | apply Q8 | apply Q23 | refine Q26 ?_ GE521.out | refine Q26 ?_ GE523.out) | exact HB.out))) : w.heap.size ≤ gb538)); have n6_ := Aside0.mk ((by rw [hg]; exact (Q29 (by repeat (first | (with_reducible first | exact HB.out | apply Q19 | apply Q8 | apply Q23 | refine Q26 ?_ GE521.out | refine Q26 ?_ GE523.out) | exact HB.out))) : w.heap.size ≤ gb538)); have n7_ := Aside0.mk ((by rw [hg]; exact Nat.ne_of_lt (blk_lt (g := gb521) (o := .cells #[.int .i64 t519, .int .i64 t520] 41 (0, 0)) (by (with_reducible repeat (first | refine Q12 ?_ _ | refine Q24 ?_ | refine Q17 ?_ _)); exact BK521.out)) : gb521 ≠ gb538)); have n8_ := Aside0.mk ((by rw [hg]; exact Nat.ne_of_gt (blk_lt (g := gb521) (o := .cells #[.int .i64 t519, .int .i64 t520] 41 (0, 0)) (by (with_reducible repeat (first | refine Q12 ?_ _ | refine Q24 ?_ | refine Q17 ?_ _)); exact BK521.out)) : gb538 ≠ gb521)); have n9_ := Aside0.mk ((by rw [hg]; exact Nat.ne_of_lt (blk_lt (g := gb523) (o := .cells #[.int .i64 ((Q27 t516 x6_1).f0), .int .i64 ((Q27 t516 x6_1).f1), .int .i64 ((Q27 t516 x6_1).f2), .string ((Q27 t516 x6_1).f3), .bool ((Q27 t516 x6_1).f4), .int .u64 ((Q27 t516 x6_1).f5.f0), .int .u64 ((Q27 t516 x6_1).f5.f1), .int .u64 ((Q27 t516 x6_1).f5.f2), .int .u64 ((Q27 t516 x6_1).f5.f3), .int .i64 ((Q27 t516 x6_1).f6), .int .i64 ((Q27 t516 x6_1).f7)] 26 (0, 0)) (by (with_reducible repeat (first | refine Q12 ?_ _ | refine Q24 ?_ | refine Q17 ?_ _)); exact BK523.out)) : gb523 ≠ gb538)); have n10_ := Aside0.mk ((by rw [hg]; exact Nat.ne_of_gt (blk_lt (g := gb523) (o := .cells #[.int .i64 ((Q27 t516 x6_1).f0), .int .i64 ((Q27 t516 x6_1).f1), .int .i64 ((Q27 t516 x6_1).f2), .string ((Q27 t516 x6_1).f3), .bool ((Q27 t516 x6_1).f4), .int .u64 ((Q27 t516 x6_1).f5.f0), .int .u64 ((Q27 t516 x6_1).f5.f1), .int .u64 ((Q27 t516 x6_1).f5.f2), .int .u64 ((Q27 t516 x6_1).f5.f3), .int .i64 ((Q27 t516 x6_1).f6), .int .i64 ((Q27 t516 x6_1).f7)] 26 (0, 0)) (by (with_reducible repeat (first | refine Q12 ?_ _ | refine Q24 ?_ | refine Q17 ?_ _)); exact BK523.out)) : gb538 ≠ gb523)); clear HO_3; clear BK521; clear BK523; clear HB; have HO_3 := n0_; have BK521 := n1_; have BK523 := n2_; have HB := n3_; have BK538 := n4_; have GW538 := n5_; have GE538 := n6_; have NB521_538 := n7_; have NB538_521 := n8_; have NB523_538 := n9_; have NB538_523 := n10_; clear n0_ n1_ n2_ n3_ n4_ n5_ n6_ n7_ n8_ n9_ n10_; clear hb hbox hg) | ((with_reducible refine gate_dst (N := 9) rfl ?_); (try (refine gate_guard (by rfl) ?_; dsimp only)); refine Q43 ?hg (N := 9) ?hd (cs := #[.int .i64 0, .int .i64 0]) (t := 41) ?hr ?_; (case hd => rfl); (case hg => rfl); (case hr => first | (go_simp; done) | (go_simp; rfl)); intro gb539 hg w68 hbox hb; have n0_ := Aside0.mk (Kd.R_below (by (with_reducible repeat (first | apply Kd.R_alloc | apply Kd.R_drewN | apply Kd.R_drew)); exact HO_3.out) hb); have n1_ := Aside0.mk (Q38 (g := gb521) (o := .cells #[.int .i64 t519, .int .i64 t520] 41 (0, 0)) (by (with_reducible repeat (first | refine Q12 ?_ _ | refine Q24 ?_ | refine Q17 ?_ _)); exact BK521.out) hb); have n2_ := Aside0.mk (Q38 (g := gb523) (o := .cells #[.int .i64 ((Q27 t516 x6_1).f0), .int .i64 ((Q27 t516 x6_1).f1), .int .i64 ((Q27 t516 x6_1).f2), .string ((Q27 t516 x6_1).f3), .bool ((Q27 t516 x6_1).f4), .int .u64 ((Q27 t516 x6_1).f5.f0), .int .u64 ((Q27 t516 x6_1).f5.f1), .int .u64 ((Q27 t516 x6_1).f5.f2), .int .u64 ((Q27 t516 x6_1).f5.f3), .int .i64 ((Q27 t516 x6_1).f6), .int .i64 ((Q27 t516 x6_1).f7)] 26 (0, 0)) (by (with_reducible repeat (first | refine Q12 ?_ _ | refine Q24 ?_ | refine Q17 ?_ _)); exact BK523.out) hb); have n3_ := Aside0.mk (Q38 (g := gb538) (o := .cells #[.int .i64 0, .int .i64 0, .int .i64 0, .string (⟨#[]⟩ : ByteArray), .bool false, .int .u64 0, .int .u64 0, .int .u64 0, .int .u64 0, .int .i64 0, .int .i64 0] 26 (0, 0)) (by (with_reducible repeat (first | refine Q12 ?_ _ | refine Q24 ?_ | refine Q17 ?_ _)); exact BK538.out) hb); have n4_ := Aside0.mk (Q34 (by repeat (first | (with_reducible first | exact HB.out | apply Q19 | apply Q8 | apply Q23 | refine Q26 ?_ GE521.out | refine Q26 ?_ GE523.out | refine Q26 ?_ GE538.out) | exact HB.out)) hb); have n5_ := Aside0.mk (hbox); have n6_ := Aside0.mk ((by rw [hg]; exact (Q29 (by repeat (first | (with_reducible first | exact HB.out | apply Q19 | apply Q8 | apply Q23 | refine Q26 ?_ GE521.out | refine Q26 ?_ GE523.out | refine Q26 ?_ GE538.out) | exact HB.out))) : w.heap.size ≤ gb539)); have n7_ := Aside0.mk ((by rw [hg]; exact (Q29 (by repeat (first | (with_reducible first | exact HB.out | apply Q19 | apply Q8 | apply Q23 | refine Q26 ?_ GE521.out | refine Q26 ?_ GE523.out | refine Q26 ?_ GE538.out) | exact HB.out))) : w.heap.size ≤ gb539)); have n8_ := Aside0.mk ((by rw [hg]; exact Nat.ne_of_lt (blk_lt (g := gb521) (o := .cells #[.int .i64 t519, .int .i64 t520] 41 (0, 0)) (by (with_reducible repeat (first | refine Q12 ?_ _ | refine Q24 ?_ | refine Q17 ?_ _)); exact BK521.out)) : gb521 ≠ gb539)); have n9_ := Aside0.mk ((by rw [hg]; exact Nat.ne_of_gt (blk_lt (g := gb521) (o := .cells #[.int .i64 t519, .int .i64 t520] 41 (0, 0)) (by (with_reducible repeat (first | refine Q12 ?_ _ | refine Q24 ?_ | refine Q17 ?_ _)); exact BK521.out)) : gb539 ≠ gb521)); have n10_ := Aside0.mk ((by rw [hg]; exact Nat.ne_of_lt (blk_lt (g := gb523) (o := .cells #[.int .i64 ((Q27 t516 x6_1).f0), .int .i64 ((Q27 t516 x6_1).f1), .int .i64 ((Q27 t516 x6_1).f2), .string ((Q27 t516 x6_1).f3), .bool ((Q27 t516 x6_1).f4), .int .u64 ((Q27 t516 x6_1).f5.f0), .int .u64 ((Q27 t516 x6_1).f5.f1), .int .u64 ((Q27 t516 x6_1).f5.f2), .int .u64 ((Q27 t516 x6_1).f5.f3), .int .i64 ((Q27 t516 x6_1).f6), .int .i64 ((Q27 t516 x6_1).f7)] 26 (0, 0)) (by (with_reducible repeat (first | refine Q12 ?_ _ | refine Q24 ?_ | refine Q17 ?_ _)); exact BK523.out)) : gb523 ≠ gb539)); have n11_ := Aside0.mk ((by rw [hg]; exact Nat.ne_of_gt (blk_lt (g := gb523) (o := .cells #[.int .i64 ((Q27 t516 x6_1).f0), .int .i64 ((Q27 t516 x6_1).f1), .int .i64 ((Q27 t516 x6_1).f2), .string ((Q27 t516 x6_1).f3), .bool ((Q27 t516 x6_1).f4), .int .u64 ((Q27 t516 x6_1).f5.f0), .int .u64 ((Q27 t516 x6_1).f5.f1), .int .u64 ((Q27 t516 x6_1).f5.f2), .int .u64 ((Q27 t516 x6_1).f5.f3), .int .i64 ((Q27 t516 x6_1).f6), .int .i64 ((Q27 t516 x6_1).f7)] 26 (0, 0)) (by (with_reducible repeat (first | refine Q12 ?_ _ | refine Q24 ?_ | refine Q17 ?_ _)); exact BK523.out)) : gb539 ≠ gb523)); have n12_ := Aside0.mk ((by rw [hg]; exact Nat.ne_of_lt (blk_lt (g := gb538) (o := .cells #[.int .i64 0, .int .i64 0, .int .i64 0, .string (⟨#[]⟩ : ByteArray), .bool false, .int .u64 0, .int .u64 0, .int .u64 0, .int .u64 0, .int .i64 0, .int .i64 0] 26 (0, 0)) (by (with_reducible repeat (first | refine Q12 ?_ _ | refine Q24 ?_ | refine Q17 ?_ _)); exact BK538.out)) : gb538 ≠ gb539)); have n13_ := Aside0.mk ((by rw [hg]; exact Nat.ne_of_gt (blk_lt (g := gb538) (o := .cells #[.int .i64 0, .int .i64 0, .int .i64 0, .string (⟨#[]⟩ : ByteArray), .bool false, .int .u64 0, .int .u64 0, .int .u64 0, .int .u64 0, .int .i64 0, .int .i64 0] 26 (0, 0)) (by (with_reducible repeat (first | refine Q12 ?_ _ | refine Q24 ?_ | refine Q17 ?_ _)); exact BK538.out)) : gb539 ≠ gb538)); clear HO_3; clear BK521; clear BK523; clear BK538; clear HB; have HO_3 := n0_; have BK521 := n1_; have BK523 := n2_; have BK538 := n3_; have HB := n4_; have BK539 := n5_; have GW539 := n6_; have GE539 := n7_; have NB521_539 := n8_; have NB539_521 := n9_; have NB523_539 := n10_; have NB539_523 := n11_; have NB538_539 := n12_; have NB539_538 := n13_; clear n0_ n1_ n2_ n3_ n4_ n5_ n6_ n7_ n8_ n9_ n10_ n11_ n12_ n13_; clear hb hbox hg; have hnb69 := NB538_521.out; have hnc69 := NB521_538.out; have hnb70 := NB538_523.out; have hnc70 := NB523_538.out; have hnb71 := NB538_539.out; have hnc71 := NB539_538.out; obtain ⟨hcz72_0, hcz72_1, hcz72_2, hcz72_3, hcz72_4, hcz72_5, hcz72_6, hcz72_7, hcz72_8, hcz72_9, hcz72_10, hfz72_0, hfz72_1, hfz72_2, hfz72_3, hfz72_4, hfz72_5, hfz72_6, hfz72_7, hfz72_8, hfz72_9, hfz72_10⟩ := Q41 BK538.out; have hnb73 := NB539_521.out; have hnc73 := NB521_539.out; have hnb74 := NB539_523.out; have hnc74 := NB523_539.out; obtain ⟨hcz75_0, hcz75_1, hfz75_0, hfz75_1⟩ := blk_cells2 BK539.out; obtain ⟨hcz76_0, hcz76_1, hcz76_2, hcz76_3, hcz76_4, hcz76_5, hcz76_6, hcz76_7, hcz76_8, hcz76_9, hcz76_10, hfz76_0, hfz76_1, hfz76_2, hfz76_3, hfz76_4, hfz76_5, hfz76_6, hfz76_7, hfz76_8, hfz76_9, hfz76_10⟩ := Q41 BK523.out))
                        go_ret
                        exact ⟨by first | rfl | (simp [Q37, Q35] <;> rfl) | (simp [*, Q37, Q35] <;> rfl), by repeat (first | (with_reducible first | exact HB.out | apply Q19 | apply Q8 | apply Q23 | refine Q26 ?_ GE521.out | refine Q26 ?_ GE523.out | refine Q26 ?_ GE538.out | refine Q26 ?_ GE539.out) | exact HB.out)⟩
                      · rw [if_neg c63] at H
                        have c63b0 : (!(t525 == ((Q27 t516 x6_1).f0)) || (!(t526 == ((Q27 t516 x6_1).f1)) || (!(t527 == ((Q27 t516 x6_1).f2)) || (!(t528.toList == ((Q27 t516 x6_1).f3).toList) || (!(t529 == ((Q27 t516 x6_1).f4)) || ((!(t530 == ((Q27 t516 x6_1).f5.f0)) || (!(t531 == ((Q27 t516 x6_1).f5.f1)) || (!(t532 == ((Q27 t516 x6_1).f5.f2)) || (!(t533 == ((Q27 t516 x6_1).f5.f3)))))) || (!(t534 == ((Q27 t516 x6_1).f6)) || (!(t535 == ((Q27 t516 x6_1).f7)))))))))) = false := by simpa using c63
                        clear c63
                        by_cases c77 : (!(t536 == 0) || (!(t537 == 0))) = true
                        · rw [if_pos c77] at H
                          have c77b0 : (!(t536 == 0) || (!(t537 == 0))) = true := c77
                          clear c77
                          obtain rfl := Option.some.inj H
                          have hnb78 := NB523_521.out
                          have hnc78 := NB521_523.out
                          have hcz79_0 : wc.cell? ⟨gb523, 0, none⟩ = some (.int .i64 ((Q27 t516 x6_1).f0)) := (Q32 BK523.out 0).trans rfl
                          have hcz79_1 : wc.cell? ⟨gb523, 1, none⟩ = some (.int .i64 ((Q27 t516 x6_1).f1)) := (Q32 BK523.out 1).trans rfl
                          have hcz79_2 : wc.cell? ⟨gb523, 2, none⟩ = some (.int .i64 ((Q27 t516 x6_1).f2)) := (Q32 BK523.out 2).trans rfl
                          have hcz79_3 : wc.cell? ⟨gb523, 3, none⟩ = some (.string ((Q27 t516 x6_1).f3)) := (Q32 BK523.out 3).trans rfl
                          have hcz79_4 : wc.cell? ⟨gb523, 4, none⟩ = some (.bool ((Q27 t516 x6_1).f4)) := (Q32 BK523.out 4).trans rfl
                          have hcz79_5 : wc.cell? ⟨gb523, 5, none⟩ = some (.int .u64 ((Q27 t516 x6_1).f5.f0)) := (Q32 BK523.out 5).trans rfl
                          have hcz79_6 : wc.cell? ⟨gb523, 6, none⟩ = some (.int .u64 ((Q27 t516 x6_1).f5.f1)) := (Q32 BK523.out 6).trans rfl
                          have hcz79_7 : wc.cell? ⟨gb523, 7, none⟩ = some (.int .u64 ((Q27 t516 x6_1).f5.f2)) := (Q32 BK523.out 7).trans rfl
                          have hcz79_8 : wc.cell? ⟨gb523, 8, none⟩ = some (.int .u64 ((Q27 t516 x6_1).f5.f3)) := (Q32 BK523.out 8).trans rfl
                          have hcz79_9 : wc.cell? ⟨gb523, 9, none⟩ = some (.int .i64 ((Q27 t516 x6_1).f6)) := (Q32 BK523.out 9).trans rfl
                          have hcz79_10 : wc.cell? ⟨gb523, 10, none⟩ = some (.int .i64 ((Q27 t516 x6_1).f7)) := (Q32 BK523.out 10).trans rfl
                          have hfz79_0 := Q28 BK523.out 0
                          have hfz79_1 := Q28 BK523.out 1
                          have hfz79_2 := Q28 BK523.out 2
                          have hfz79_3 := Q28 BK523.out 3
                          have hfz79_4 := Q28 BK523.out 4
                          have hfz79_5 := Q28 BK523.out 5
                          have hfz79_6 := Q28 BK523.out 6
                          have hfz79_7 := Q28 BK523.out 7
                          have hfz79_8 := Q28 BK523.out 8
                          have hfz79_9 := Q28 BK523.out 9
                          have hfz79_10 := Q28 BK523.out 10
                          go_wp2_with (first | ((with_reducible refine Q40 (f := 17) rfl ?_); refine goesL_ (some 100) rfl rfl Tryd.func17 (by kernel_rfl) rfl #[.string a0, .int .i64 x5_1] rfl (by (try simp only [List.map_toArray, List.map_cons, List.map_nil]); first | done | rfl | (simp only [List.length_drop, List.length_take]; rfl)) ?_; (with_reducible refine (lexis_Next.calls kj34 a0 x5_1 t525 t526 t527 t528 t529 t530 t531 t532 t533 t534 t535 t536 t537 _ A62.out).mono ?_); rintro e w80 ⟨rfl, hb⟩; refine ⟨_, rfl, ?_⟩; have n0_ := Aside0.mk (Kd.R_below (by (with_reducible repeat (first | apply Kd.R_alloc | apply Kd.R_drewN | apply Kd.R_drew)); exact HO_3.out) hb); have n1_ := Aside0.mk (Q38 (g := gb521) (o := .cells #[.int .i64 t519, .int .i64 t520] 41 (0, 0)) (by (with_reducible repeat (first | refine Q12 ?_ _ | refine Q24 ?_ | refine Q17 ?_ _)); exact BK521.out) hb); have n2_ := Aside0.mk (Q38 (g := gb523) (o := .cells #[.int .i64 ((Q27 t516 x6_1).f0), .int .i64 ((Q27 t516 x6_1).f1), .int .i64 ((Q27 t516 x6_1).f2), .string ((Q27 t516 x6_1).f3), .bool ((Q27 t516 x6_1).f4), .int .u64 ((Q27 t516 x6_1).f5.f0), .int .u64 ((Q27 t516 x6_1).f5.f1), .int .u64 ((Q27 t516 x6_1).f5.f2), .int .u64 ((Q27 t516 x6_1).f5.f3), .int .i64 ((Q27 t516 x6_1).f6), .int .i64 ((Q27 t516 x6_1).f7)] 26 (0, 0)) (by (with_reducible repeat (first | refine Q12 ?_ _ | refine Q24 ?_ | refine Q17 ?_ _)); exact BK523.out) hb); have n3_ := Aside0.mk (Q34 (by repeat (first | (with_reducible first | exact HB.out | apply Q19 | apply Q8 | apply Q23 | refine Q26 ?_ GE521.out | refine Q26 ?_ GE523.out) | exact HB.out)) hb); clear HO_3; clear BK521; clear BK523; clear HB; have HO_3 := n0_; have BK521 := n1_; have BK523 := n2_; have HB := n3_; clear n0_ n1_ n2_ n3_; (try clear hb); (try clear hb2); (try clear hk); (try clear hi)) | ((with_reducible refine gate_dst (N := 8) rfl ?_); (try (refine gate_guard (by rfl) ?_; dsimp only)); refine Q43 ?hg (N := 8) ?hd (cs := #[.int .i64 0, .int .i64 0, .int .i64 0, .string (⟨#[]⟩ : ByteArray), .bool false, .int .u64 0, .int .u64 0, .int .u64 0, .int .u64 0, .int .i64 0, .int .i64 0]) (t := 26) ?hr ?_; (case hd => rfl); (case hg => rfl); (case hr => first | (go_simp; done) | (go_simp; rfl)); intro gb538 hg w81 hbox hb; have n0_ := Aside0.mk (Kd.R_below (Kd.R_elderB (by (with_reducible repeat (first | apply Kd.R_alloc | apply Kd.R_drewN | apply Kd.R_drew)); exact HO_3.out) gb538 (Nat.le_of_eq hg.symm)) hb); have n1_ := Aside0.mk (Q38 (g := gb521) (o := .cells #[.int .i64 t519, .int .i64 t520] 41 (0, 0)) (by (with_reducible repeat (first | refine Q12 ?_ _ | refine Q24 ?_ | refine Q17 ?_ _)); exact BK521.out) hb); have n2_ := Aside0.mk (Q38 (g := gb523) (o := .cells #[.int .i64 ((Q27 t516 x6_1).f0), .int .i64 ((Q27 t516 x6_1).f1), .int .i64 ((Q27 t516 x6_1).f2), .string ((Q27 t516 x6_1).f3), .bool ((Q27 t516 x6_1).f4), .int .u64 ((Q27 t516 x6_1).f5.f0), .int .u64 ((Q27 t516 x6_1).f5.f1), .int .u64 ((Q27 t516 x6_1).f5.f2), .int .u64 ((Q27 t516 x6_1).f5.f3), .int .i64 ((Q27 t516 x6_1).f6), .int .i64 ((Q27 t516 x6_1).f7)] 26 (0, 0)) (by (with_reducible repeat (first | refine Q12 ?_ _ | refine Q24 ?_ | refine Q17 ?_ _)); exact BK523.out) hb); have n3_ := Aside0.mk (Q34 (by repeat (first | (with_reducible first | exact HB.out | apply Q19 | apply Q8 | apply Q23 | refine Q26 ?_ GE521.out | refine Q26 ?_ GE523.out) | exact HB.out)) hb); have n4_ := Aside0.mk (hbox); have n5_ := Aside0.mk ((by rw [hg]; exact (Q29 (by repeat (first | (with_reducible first | exact HB.out | apply Q19 | apply Q8 | apply Q23 | refine Q26 ?_ GE521.out | refine Q26 ?_ GE523.out) | exact HB.out))) : w.heap.size ≤ gb538)); have n6_ := Aside0.mk ((by rw [hg]; exact (Q29 (by repeat (first | (with_reducible first | exact HB.out | apply Q19 | apply Q8 | apply Q23 | refine Q26 ?_ GE521.out | refine Q26 ?_ GE523.out) | exact HB.out))) : w.heap.size ≤ gb538)); have n7_ := Aside0.mk ((by rw [hg]; exact Nat.ne_of_lt (blk_lt (g := gb521) (o := .cells #[.int .i64 t519, .int .i64 t520] 41 (0, 0)) (by (with_reducible repeat (first | refine Q12 ?_ _ | refine Q24 ?_ | refine Q17 ?_ _)); exact BK521.out)) : gb521 ≠ gb538)); have n8_ := Aside0.mk ((by rw [hg]; exact Nat.ne_of_gt (blk_lt (g := gb521) (o := .cells #[.int .i64 t519, .int .i64 t520] 41 (0, 0)) (by (with_reducible repeat (first | refine Q12 ?_ _ | refine Q24 ?_ | refine Q17 ?_ _)); exact BK521.out)) : gb538 ≠ gb521)); have n9_ := Aside0.mk ((by rw [hg]; exact Nat.ne_of_lt (blk_lt (g := gb523) (o := .cells #[.int .i64 ((Q27 t516 x6_1).f0), .int .i64 ((Q27 t516 x6_1).f1), .int .i64 ((Q27 t516 x6_1).f2), .string ((Q27 t516 x6_1).f3), .bool ((Q27 t516 x6_1).f4), .int .u64 ((Q27 t516 x6_1).f5.f0), .int .u64 ((Q27 t516 x6_1).f5.f1), .int .u64 ((Q27 t516 x6_1).f5.f2), .int .u64 ((Q27 t516 x6_1).f5.f3), .int .i64 ((Q27 t516 x6_1).f6), .int .i64 ((Q27 t516 x6_1).f7)] 26 (0, 0)) (by (with_reducible repeat (first | refine Q12 ?_ _ | refine Q24 ?_ | refine Q17 ?_ _)); exact BK523.out)) : gb523 ≠ gb538)); have n10_ := Aside0.mk ((by rw [hg]; exact Nat.ne_of_gt (blk_lt (g := gb523) (o := .cells #[.int .i64 ((Q27 t516 x6_1).f0), .int .i64 ((Q27 t516 x6_1).f1), .int .i64 ((Q27 t516 x6_1).f2), .string ((Q27 t516 x6_1).f3), .bool ((Q27 t516 x6_1).f4), .int .u64 ((Q27 t516 x6_1).f5.f0), .int .u64 ((Q27 t516 x6_1).f5.f1), .int .u64 ((Q27 t516 x6_1).f5.f2), .int .u64 ((Q27 t516 x6_1).f5.f3), .int .i64 ((Q27 t516 x6_1).f6), .int .i64 ((Q27 t516 x6_1).f7)] 26 (0, 0)) (by (with_reducible repeat (first | refine Q12 ?_ _ | refine Q24 ?_ | refine Q17 ?_ _)); exact BK523.out)) : gb538 ≠ gb523)); clear HO_3; clear BK521; clear BK523; clear HB; have HO_3 := n0_; have BK521 := n1_; have BK523 := n2_; have HB := n3_; have BK538 := n4_; have GW538 := n5_; have GE538 := n6_; have NB521_538 := n7_; have NB538_521 := n8_; have NB523_538 := n9_; have NB538_523 := n10_; clear n0_ n1_ n2_ n3_ n4_ n5_ n6_ n7_ n8_ n9_ n10_; clear hb hbox hg) | ((with_reducible refine gate_dst (N := 9) rfl ?_); (try (refine gate_guard (by rfl) ?_; dsimp only)); refine Q43 ?hg (N := 9) ?hd (cs := #[.int .i64 0, .int .i64 0]) (t := 41) ?hr ?_; (case hd => rfl); (case hg => rfl); (case hr => first | (go_simp; done) | (go_simp; rfl)); intro gb539 hg w82 hbox hb; have n0_ := Aside0.mk (Kd.R_below (by (with_reducible repeat (first | apply Kd.R_alloc | apply Kd.R_drewN | apply Kd.R_drew)); exact HO_3.out) hb); have n1_ := Aside0.mk (Q38 (g := gb521) (o := .cells #[.int .i64 t519, .int .i64 t520] 41 (0, 0)) (by (with_reducible repeat (first | refine Q12 ?_ _ | refine Q24 ?_ | refine Q17 ?_ _)); exact BK521.out) hb); have n2_ := Aside0.mk (Q38 (g := gb523) (o := .cells #[.int .i64 ((Q27 t516 x6_1).f0), .int .i64 ((Q27 t516 x6_1).f1), .int .i64 ((Q27 t516 x6_1).f2), .string ((Q27 t516 x6_1).f3), .bool ((Q27 t516 x6_1).f4), .int .u64 ((Q27 t516 x6_1).f5.f0), .int .u64 ((Q27 t516 x6_1).f5.f1), .int .u64 ((Q27 t516 x6_1).f5.f2), .int .u64 ((Q27 t516 x6_1).f5.f3), .int .i64 ((Q27 t516 x6_1).f6), .int .i64 ((Q27 t516 x6_1).f7)] 26 (0, 0)) (by (with_reducible repeat (first | refine Q12 ?_ _ | refine Q24 ?_ | refine Q17 ?_ _)); exact BK523.out) hb); have n3_ := Aside0.mk (Q38 (g := gb538) (o := .cells #[.int .i64 0, .int .i64 0, .int .i64 0, .string (⟨#[]⟩ : ByteArray), .bool false, .int .u64 0, .int .u64 0, .int .u64 0, .int .u64 0, .int .i64 0, .int .i64 0] 26 (0, 0)) (by (with_reducible repeat (first | refine Q12 ?_ _ | refine Q24 ?_ | refine Q17 ?_ _)); exact BK538.out) hb); have n4_ := Aside0.mk (Q34 (by repeat (first | (with_reducible first | exact HB.out | apply Q19 | apply Q8 | apply Q23 | refine Q26 ?_ GE521.out | refine Q26 ?_ GE523.out | refine Q26 ?_ GE538.out) | exact HB.out)) hb); have n5_ := Aside0.mk (hbox); have n6_ := Aside0.mk ((by rw [hg]; exact (Q29 (by repeat (first | (with_reducible first | exact HB.out | apply Q19 | apply Q8 | apply Q23 | refine Q26 ?_ GE521.out | refine Q26 ?_ GE523.out | refine Q26 ?_ GE538.out) | exact HB.out))) : w.heap.size ≤ gb539)); have n7_ := Aside0.mk ((by rw [hg]; exact (Q29 (by repeat (first | (with_reducible first | exact HB.out | apply Q19 | apply Q8 | apply Q23 | refine Q26 ?_ GE521.out | refine Q26 ?_ GE523.out | refine Q26 ?_ GE538.out) | exact HB.out))) : w.heap.size ≤ gb539)); have n8_ := Aside0.mk ((by rw [hg]; exact Nat.ne_of_lt (blk_lt (g := gb521) (o := .cells #[.int .i64 t519, .int .i64 t520] 41 (0, 0)) (by (with_reducible repeat (first | refine Q12 ?_ _ | refine Q24 ?_ | refine Q17 ?_ _)); exact BK521.out)) : gb521 ≠ gb539)); have n9_ := Aside0.mk ((by rw [hg]; exact Nat.ne_of_gt (blk_lt (g := gb521) (o := .cells #[.int .i64 t519, .int .i64 t520] 41 (0, 0)) (by (with_reducible repeat (first | refine Q12 ?_ _ | refine Q24 ?_ | refine Q17 ?_ _)); exact BK521.out)) : gb539 ≠ gb521)); have n10_ := Aside0.mk ((by rw [hg]; exact Nat.ne_of_lt (blk_lt (g := gb523) (o := .cells #[.int .i64 ((Q27 t516 x6_1).f0), .int .i64 ((Q27 t516 x6_1).f1), .int .i64 ((Q27 t516 x6_1).f2), .string ((Q27 t516 x6_1).f3), .bool ((Q27 t516 x6_1).f4), .int .u64 ((Q27 t516 x6_1).f5.f0), .int .u64 ((Q27 t516 x6_1).f5.f1), .int .u64 ((Q27 t516 x6_1).f5.f2), .int .u64 ((Q27 t516 x6_1).f5.f3), .int .i64 ((Q27 t516 x6_1).f6), .int .i64 ((Q27 t516 x6_1).f7)] 26 (0, 0)) (by (with_reducible repeat (first | refine Q12 ?_ _ | refine Q24 ?_ | refine Q17 ?_ _)); exact BK523.out)) : gb523 ≠ gb539)); have n11_ := Aside0.mk ((by rw [hg]; exact Nat.ne_of_gt (blk_lt (g := gb523) (o := .cells #[.int .i64 ((Q27 t516 x6_1).f0), .int .i64 ((Q27 t516 x6_1).f1), .int .i64 ((Q27 t516 x6_1).f2), .string ((Q27 t516 x6_1).f3), .bool ((Q27 t516 x6_1).f4), .int .u64 ((Q27 t516 x6_1).f5.f0), .int .u64 ((Q27 t516 x6_1).f5.f1), .int .u64 ((Q27 t516 x6_1).f5.f2), .int .u64 ((Q27 t516 x6_1).f5.f3), .int .i64 ((Q27 t516 x6_1).f6), .int .i64 ((Q27 t516 x6_1).f7)] 26 (0, 0)) (by (with_reducible repeat (first | refine Q12 ?_ _ | refine Q24 ?_ | refine Q17 ?_ _)); exact BK523.out)) : gb539 ≠ gb523)); have n12_ := Aside0.mk ((by rw [hg]; exact Nat.ne_of_lt (blk_lt (g := gb538) (o := .cells #[.int .i64 0, .int .i64 0, .int .i64 0, .string (⟨#[]⟩ : ByteArray), .bool false, .int .u64 0, .int .u64 0, .int .u64 0, .int .u64 0, .int .i64 0, .int .i64 0] 26 (0, 0)) (by (with_reducible repeat (first | refine Q12 ?_ _ | refine Q24 ?_ | refine Q17 ?_ _)); exact BK538.out)) : gb538 ≠ gb539)); have n13_ := Aside0.mk ((by rw [hg]; exact Nat.ne_of_gt (blk_lt (g := gb538) (o := .cells #[.int .i64 0, .int .i64 0, .int .i64 0, .string (⟨#[]⟩ : ByteArray), .bool false, .int .u64 0, .int .u64 0, .int .u64 0, .int .u64 0, .int .i64 0, .int .i64 0] 26 (0, 0)) (by (with_reducible repeat (first | refine Q12 ?_ _ | refine Q24 ?_ | refine Q17 ?_ _)); exact BK538.out)) : gb539 ≠ gb538)); clear HO_3; clear BK521; clear BK523; clear BK538; clear HB; have HO_3 := n0_; have BK521 := n1_; have BK523 := n2_; have BK538 := n3_; have HB := n4_; have BK539 := n5_; have GW539 := n6_; have GE539 := n7_; have NB521_539 := n8_; have NB539_521 := n9_; have NB523_539 := n10_; have NB539_523 := n11_; have NB538_539 := n12_; have NB539_538 := n13_; clear n0_ n1_ n2_ n3_ n4_ n5_ n6_ n7_ n8_ n9_ n10_ n11_ n12_ n13_; clear hb hbox hg; have hnb83 := NB538_521.out; have hnc83 := NB521_538.out; have hnb84 := NB538_523.out; have hnc84 := NB523_538.out; have hnb85 := NB538_539.out; have hnc85 := NB539_538.out; obtain ⟨hcz86_0, hcz86_1, hcz86_2, hcz86_3, hcz86_4, hcz86_5, hcz86_6, hcz86_7, hcz86_8, hcz86_9, hcz86_10, hfz86_0, hfz86_1, hfz86_2, hfz86_3, hfz86_4, hfz86_5, hfz86_6, hfz86_7, hfz86_8, hfz86_9, hfz86_10⟩ := Q41 BK538.out; have hnb87 := NB539_521.out; have hnc87 := NB521_539.out; have hnb88 := NB539_523.out; have hnc88 := NB523_539.out; obtain ⟨hcz89_0, hcz89_1, hfz89_0, hfz89_1⟩ := blk_cells2 BK539.out; obtain ⟨hcz90_0, hcz90_1, hcz90_2, hcz90_3, hcz90_4, hcz90_5, hcz90_6, hcz90_7, hcz90_8, hcz90_9, hcz90_10, hfz90_0, hfz90_1, hfz90_2, hfz90_3, hfz90_4, hfz90_5, hfz90_6, hfz90_7, hfz90_8, hfz90_9, hfz90_10⟩ := Q41 BK523.out))
                          go_ret
                          exact ⟨by first | rfl | (simp [Q37, Q35] <;> rfl) | (simp [*, Q37, Q35] <;> rfl), by repeat (first | (with_reducible first | exact HB.out | apply Q19 | apply Q8 | apply Q23 | refine Q26 ?_ GE521.out | refine Q26 ?_ GE523.out | refine Q26 ?_ GE538.out | refine Q26 ?_ GE539.out) | exact HB.out)⟩
                        · rw [if_neg c77] at H
                          have c77b0 : (!(t536 == 0) || (!(t537 == 0))) = false := by simpa using c77
                          clear c77
                          have H' := Aside0.mk H
                          clear H
                          have hnb91 := NB523_521.out
                          have hnc91 := NB521_523.out
                          have hcz92_0 : wc.cell? ⟨gb523, 0, none⟩ = some (.int .i64 ((Q27 t516 x6_1).f0)) := (Q32 BK523.out 0).trans rfl
                          have hcz92_1 : wc.cell? ⟨gb523, 1, none⟩ = some (.int .i64 ((Q27 t516 x6_1).f1)) := (Q32 BK523.out 1).trans rfl
                          have hcz92_2 : wc.cell? ⟨gb523, 2, none⟩ = some (.int .i64 ((Q27 t516 x6_1).f2)) := (Q32 BK523.out 2).trans rfl
                          have hcz92_3 : wc.cell? ⟨gb523, 3, none⟩ = some (.string ((Q27 t516 x6_1).f3)) := (Q32 BK523.out 3).trans rfl
                          have hcz92_4 : wc.cell? ⟨gb523, 4, none⟩ = some (.bool ((Q27 t516 x6_1).f4)) := (Q32 BK523.out 4).trans rfl
                          have hcz92_5 : wc.cell? ⟨gb523, 5, none⟩ = some (.int .u64 ((Q27 t516 x6_1).f5.f0)) := (Q32 BK523.out 5).trans rfl
                          have hcz92_6 : wc.cell? ⟨gb523, 6, none⟩ = some (.int .u64 ((Q27 t516 x6_1).f5.f1)) := (Q32 BK523.out 6).trans rfl
                          have hcz92_7 : wc.cell? ⟨gb523, 7, none⟩ = some (.int .u64 ((Q27 t516 x6_1).f5.f2)) := (Q32 BK523.out 7).trans rfl
                          have hcz92_8 : wc.cell? ⟨gb523, 8, none⟩ = some (.int .u64 ((Q27 t516 x6_1).f5.f3)) := (Q32 BK523.out 8).trans rfl
                          have hcz92_9 : wc.cell? ⟨gb523, 9, none⟩ = some (.int .i64 ((Q27 t516 x6_1).f6)) := (Q32 BK523.out 9).trans rfl
                          have hcz92_10 : wc.cell? ⟨gb523, 10, none⟩ = some (.int .i64 ((Q27 t516 x6_1).f7)) := (Q32 BK523.out 10).trans rfl
                          have hfz92_0 := Q28 BK523.out 0
                          have hfz92_1 := Q28 BK523.out 1
                          have hfz92_2 := Q28 BK523.out 2
                          have hfz92_3 := Q28 BK523.out 3
                          have hfz92_4 := Q28 BK523.out 4
                          have hfz92_5 := Q28 BK523.out 5
                          have hfz92_6 := Q28 BK523.out 6
                          have hfz92_7 := Q28 BK523.out 7
                          have hfz92_8 := Q28 BK523.out 8
                          have hfz92_9 := Q28 BK523.out 9
                          have hfz92_10 := Q28 BK523.out 10
                          go_wp2_with (first | ((with_reducible refine Q40 (f := 17) rfl ?_); refine goesL_ (some 100) rfl rfl Tryd.func17 (by kernel_rfl) rfl #[.string a0, .int .i64 x5_1] rfl (by (try simp only [List.map_toArray, List.map_cons, List.map_nil]); first | done | rfl | (simp only [List.length_drop, List.length_take]; rfl)) ?_; (with_reducible refine (lexis_Next.calls kj34 a0 x5_1 t525 t526 t527 t528 t529 t530 t531 t532 t533 t534 t535 t536 t537 _ A62.out).mono ?_); rintro e w93 ⟨rfl, hb⟩; refine ⟨_, rfl, ?_⟩; have n0_ := Aside0.mk (Kd.R_below (by (with_reducible repeat (first | apply Kd.R_alloc | apply Kd.R_drewN | apply Kd.R_drew)); exact HO_3.out) hb); have n1_ := Aside0.mk (Q38 (g := gb521) (o := .cells #[.int .i64 t519, .int .i64 t520] 41 (0, 0)) (by (with_reducible repeat (first | refine Q12 ?_ _ | refine Q24 ?_ | refine Q17 ?_ _)); exact BK521.out) hb); have n2_ := Aside0.mk (Q38 (g := gb523) (o := .cells #[.int .i64 ((Q27 t516 x6_1).f0), .int .i64 ((Q27 t516 x6_1).f1), .int .i64 ((Q27 t516 x6_1).f2), .string ((Q27 t516 x6_1).f3), .bool ((Q27 t516 x6_1).f4), .int .u64 ((Q27 t516 x6_1).f5.f0), .int .u64 ((Q27 t516 x6_1).f5.f1), .int .u64 ((Q27 t516 x6_1).f5.f2), .int .u64 ((Q27 t516 x6_1).f5.f3), .int .i64 ((Q27 t516 x6_1).f6), .int .i64 ((Q27 t516 x6_1).f7)] 26 (0, 0)) (by (with_reducible repeat (first | refine Q12 ?_ _ | refine Q24 ?_ | refine Q17 ?_ _)); exact BK523.out) hb); have n3_ := Aside0.mk (Q34 (by repeat (first | (with_reducible first | exact HB.out | apply Q19 | apply Q8 | apply Q23 | refine Q26 ?_ GE521.out | refine Q26 ?_ GE523.out) | exact HB.out)) hb); clear HO_3; clear BK521; clear BK523; clear HB; have HO_3 := n0_; have BK521 := n1_; have BK523 := n2_; have HB := n3_; clear n0_ n1_ n2_ n3_; (try clear hb); (try clear hb2); (try clear hk); (try clear hi)) | ((with_reducible refine gate_dst (N := 8) rfl ?_); (try (refine gate_guard (by rfl) ?_; dsimp only)); refine Q43 ?hg (N := 8) ?hd (cs := #[.int .i64 0, .int .i64 0, .int .i64 0, .string (⟨#[]⟩ : ByteArray), .bool false, .int .u64 0, .int .u64 0, .int .u64 0, .int .u64 0, .int .i64 0, .int .i64 0]) (t := 26) ?hr ?_; (case hd => rfl); (case hg => rfl); (case hr => first | (go_simp; done) | (go_simp; rfl)); intro gb538 hg w94 hbox hb; have n0_ := Aside0.mk (Kd.R_below (Kd.R_elderB (by (with_reducible repeat (first | apply Kd.R_alloc | apply Kd.R_drewN | apply Kd.R_drew)); exact HO_3.out) gb538 (Nat.le_of_eq hg.symm)) hb); have n1_ := Aside0.mk (Q38 (g := gb521) (o := .cells #[.int .i64 t519, .int .i64 t520] 41 (0, 0)) (by (with_reducible repeat (first | refine Q12 ?_ _ | refine Q24 ?_ | refine Q17 ?_ _)); exact BK521.out) hb); have n2_ := Aside0.mk (Q38 (g := gb523) (o := .cells #[.int .i64 ((Q27 t516 x6_1).f0), .int .i64 ((Q27 t516 x6_1).f1), .int .i64 ((Q27 t516 x6_1).f2), .string ((Q27 t516 x6_1).f3), .bool ((Q27 t516 x6_1).f4), .int .u64 ((Q27 t516 x6_1).f5.f0), .int .u64 ((Q27 t516 x6_1).f5.f1), .int .u64 ((Q27 t516 x6_1).f5.f2), .int .u64 ((Q27 t516 x6_1).f5.f3), .int .i64 ((Q27 t516 x6_1).f6), .int .i64 ((Q27 t516 x6_1).f7)] 26 (0, 0)) (by (with_reducible repeat (first | refine Q12 ?_ _ | refine Q24 ?_ | refine Q17 ?_ _)); exact BK523.out) hb); have n3_ := Aside0.mk (Q34 (by repeat (first | (with_reducible first | exact HB.out | apply Q19 | apply Q8 | apply Q23 | refine Q26 ?_ GE521.out | refine Q26 ?_ GE523.out) | exact HB.out)) hb); have n4_ := Aside0.mk (hbox); have n5_ := Aside0.mk ((by rw [hg]; exact (Q29 (by repeat (first | (with_reducible first | exact HB.out | apply Q19 | apply Q8 | apply Q23 | refine Q26 ?_ GE521.out | refine Q26 ?_ GE523.out) | exact HB.out))) : w.heap.size ≤ gb538)); have n6_ := Aside0.mk ((by rw [hg]; exact (Q29 (by repeat (first | (with_reducible first | exact HB.out | apply Q19 | apply Q8 | apply Q23 | refine Q26 ?_ GE521.out | refine Q26 ?_ GE523.out) | exact HB.out))) : w.heap.size ≤ gb538)); have n7_ := Aside0.mk ((by rw [hg]; exact Nat.ne_of_lt (blk_lt (g := gb521) (o := .cells #[.int .i64 t519, .int .i64 t520] 41 (0, 0)) (by (with_reducible repeat (first | refine Q12 ?_ _ | refine Q24 ?_ | refine Q17 ?_ _)); exact BK521.out)) : gb521 ≠ gb538)); have n8_ := Aside0.mk ((by rw [hg]; exact Nat.ne_of_gt (blk_lt (g := gb521) (o := .cells #[.int .i64 t519, .int .i64 t520] 41 (0, 0)) (by (with_reducible repeat (first | refine Q12 ?_ _ | refine Q24 ?_ | refine Q17 ?_ _)); exact BK521.out)) : gb538 ≠ gb521)); have n9_ := Aside0.mk ((by rw [hg]; exact Nat.ne_of_lt (blk_lt (g := gb523) (o := .cells #[.int .i64 ((Q27 t516 x6_1).f0), .int .i64 ((Q27 t516 x6_1).f1), .int .i64 ((Q27 t516 x6_1).f2), .string ((Q27 t516 x6_1).f3), .bool ((Q27 t516 x6_1).f4), .int .u64 ((Q27 t516 x6_1).f5.f0), .int .u64 ((Q27 t516 x6_1).f5.f1), .int .u64 ((Q27 t516 x6_1).f5.f2), .int .u64 ((Q27 t516 x6_1).f5.f3), .int .i64 ((Q27 t516 x6_1).f6), .int .i64 ((Q27 t516 x6_1).f7)] 26 (0, 0)) (by (with_reducible repeat (first | refine Q12 ?_ _ | refine Q24 ?_ | refine Q17 ?_ _)); exact BK523.out)) : gb523 ≠ gb538)); have n10_ := Aside0.mk ((by rw [hg]; exact Nat.ne_of_gt (blk_lt (g := gb523) (o := .cells #[.int .i64 ((Q27 t516 x6_1).f0), .int .i64 ((Q27 t516 x6_1).f1), .int .i64 ((Q27 t516 x6_1).f2), .string ((Q27 t516 x6_1).f3), .bool ((Q27 t516 x6_1).f4), .int .u64 ((Q27 t516 x6_1).f5.f0), .int .u64 ((Q27 t516 x6_1).f5.f1), .int .u64 ((Q27 t516 x6_1).f5.f2), .int .u64 ((Q27 t516 x6_1).f5.f3), .int .i64 ((Q27 t516 x6_1).f6), .int .i64 ((Q27 t516 x6_1).f7)] 26 (0, 0)) (by (with_reducible repeat (first | refine Q12 ?_ _ | refine Q24 ?_ | refine Q17 ?_ _)); exact BK523.out)) : gb538 ≠ gb523)); clear HO_3; clear BK521; clear BK523; clear HB; have HO_3 := n0_; have BK521 := n1_; have BK523 := n2_; have HB := n3_; have BK538 := n4_; have GW538 := n5_; have GE538 := n6_; have NB521_538 := n7_; have NB538_521 := n8_; have NB523_538 := n9_; have NB538_523 := n10_; clear n0_ n1_ n2_ n3_ n4_ n5_ n6_ n7_ n8_ n9_ n10_; clear hb hbox hg) | ((with_reducible refine gate_dst (N := 9) rfl ?_); (try (refine gate_guard (by rfl) ?_; dsimp only)); refine Q43 ?hg (N := 9) ?hd (cs := #[.int .i64 0, .int .i64 0]) (t := 41) ?hr ?_; (case hd => rfl); (case hg => rfl); (case hr => first | (go_simp; done) | (go_simp; rfl)); intro gb539 hg w95 hbox hb; have n0_ := Aside0.mk (Kd.R_below (by (with_reducible repeat (first | apply Kd.R_alloc | apply Kd.R_drewN | apply Kd.R_drew)); exact HO_3.out) hb); have n1_ := Aside0.mk (Q38 (g := gb521) (o := .cells #[.int .i64 t519, .int .i64 t520] 41 (0, 0)) (by (with_reducible repeat (first | refine Q12 ?_ _ | refine Q24 ?_ | refine Q17 ?_ _)); exact BK521.out) hb); have n2_ := Aside0.mk (Q38 (g := gb523) (o := .cells #[.int .i64 ((Q27 t516 x6_1).f0), .int .i64 ((Q27 t516 x6_1).f1), .int .i64 ((Q27 t516 x6_1).f2), .string ((Q27 t516 x6_1).f3), .bool ((Q27 t516 x6_1).f4), .int .u64 ((Q27 t516 x6_1).f5.f0), .int .u64 ((Q27 t516 x6_1).f5.f1), .int .u64 ((Q27 t516 x6_1).f5.f2), .int .u64 ((Q27 t516 x6_1).f5.f3), .int .i64 ((Q27 t516 x6_1).f6), .int .i64 ((Q27 t516 x6_1).f7)] 26 (0, 0)) (by (with_reducible repeat (first | refine Q12 ?_ _ | refine Q24 ?_ | refine Q17 ?_ _)); exact BK523.out) hb); have n3_ := Aside0.mk (Q38 (g := gb538) (o := .cells #[.int .i64 0, .int .i64 0, .int .i64 0, .string (⟨#[]⟩ : ByteArray), .bool false, .int .u64 0, .int .u64 0, .int .u64 0, .int .u64 0, .int .i64 0, .int .i64 0] 26 (0, 0)) (by (with_reducible repeat (first | refine Q12 ?_ _ | refine Q24 ?_ | refine Q17 ?_ _)); exact BK538.out) hb); have n4_ := Aside0.mk (Q34 (by repeat (first | (with_reducible first | exact HB.out | apply Q19 | apply Q8 | apply Q23 | refine Q26 ?_ GE521.out | refine Q26 ?_ GE523.out | refine Q26 ?_ GE538.out) | exact HB.out)) hb); have n5_ := Aside0.mk (hbox); have n6_ := Aside0.mk ((by rw [hg]; exact (Q29 (by repeat (first | (with_reducible first | exact HB.out | apply Q19 | apply Q8 | apply Q23 | refine Q26 ?_ GE521.out | refine Q26 ?_ GE523.out | refine Q26 ?_ GE538.out) | exact HB.out))) : w.heap.size ≤ gb539)); have n7_ := Aside0.mk ((by rw [hg]; exact (Q29 (by repeat (first | (with_reducible first | exact HB.out | apply Q19 | apply Q8 | apply Q23 | refine Q26 ?_ GE521.out | refine Q26 ?_ GE523.out | refine Q26 ?_ GE538.out) | exact HB.out))) : w.heap.size ≤ gb539)); have n8_ := Aside0.mk ((by rw [hg]; exact Nat.ne_of_lt (blk_lt (g := gb521) (o := .cells #[.int .i64 t519, .int .i64 t520] 41 (0, 0)) (by (with_reducible repeat (first | refine Q12 ?_ _ | refine Q24 ?_ | refine Q17 ?_ _)); exact BK521.out)) : gb521 ≠ gb539)); have n9_ := Aside0.mk ((by rw [hg]; exact Nat.ne_of_gt (blk_lt (g := gb521) (o := .cells #[.int .i64 t519, .int .i64 t520] 41 (0, 0)) (by (with_reducible repeat (first | refine Q12 ?_ _ | refine Q24 ?_ | refine Q17 ?_ _)); exact BK521.out)) : gb539 ≠ gb521)); have n10_ := Aside0.mk ((by rw [hg]; exact Nat.ne_of_lt (blk_lt (g := gb523) (o := .cells #[.int .i64 ((Q27 t516 x6_1).f0), .int .i64 ((Q27 t516 x6_1).f1), .int .i64 ((Q27 t516 x6_1).f2), .string ((Q27 t516 x6_1).f3), .bool ((Q27 t516 x6_1).f4), .int .u64 ((Q27 t516 x6_1).f5.f0), .int .u64 ((Q27 t516 x6_1).f5.f1), .int .u64 ((Q27 t516 x6_1).f5.f2), .int .u64 ((Q27 t516 x6_1).f5.f3), .int .i64 ((Q27 t516 x6_1).f6), .int .i64 ((Q27 t516 x6_1).f7)] 26 (0, 0)) (by (with_reducible repeat (first | refine Q12 ?_ _ | refine Q24 ?_ | refine Q17 ?_ _)); exact BK523.out)) : gb523 ≠ gb539)); have n11_ := Aside0.mk ((by rw [hg]; exact Nat.ne_of_gt (blk_lt (g := gb523) (o := .cells #[.int .i64 ((Q27 t516 x6_1).f0), .int .i64 ((Q27 t516 x6_1).f1), .int .i64 ((Q27 t516 x6_1).f2), .string ((Q27 t516 x6_1).f3), .bool ((Q27 t516 x6_1).f4), .int .u64 ((Q27 t516 x6_1).f5.f0), .int .u64 ((Q27 t516 x6_1).f5.f1), .int .u64 ((Q27 t516 x6_1).f5.f2), .int .u64 ((Q27 t516 x6_1).f5.f3), .int .i64 ((Q27 t516 x6_1).f6), .int .i64 ((Q27 t516 x6_1).f7)] 26 (0, 0)) (by (with_reducible repeat (first | refine Q12 ?_ _ | refine Q24 ?_ | refine Q17 ?_ _)); exact BK523.out)) : gb539 ≠ gb523)); have n12_ := Aside0.mk ((by rw [hg]; exact Nat.ne_of_lt (blk_lt (g := gb538) (o := .cells #[.int .i64 0, .int .i64 0, .int .i64 0, .string (⟨#[]⟩ : ByteArray), .bool false, .int .u64 0, .int .u64 0, .int .u64 0, .int .u64 0, .int .i64 0, .int .i64 0] 26 (0, 0)) (by (with_reducible repeat (first | refine Q12 ?_ _ | refine Q24 ?_ | refine Q17 ?_ _)); exact BK538.out)) : gb538 ≠ gb539)); have n13_ := Aside0.mk ((by rw [hg]; exact Nat.ne_of_gt (blk_lt (g := gb538) (o := .cells #[.int .i64 0, .int .i64 0, .int .i64 0, .string (⟨#[]⟩ : ByteArray), .bool false, .int .u64 0, .int .u64 0, .int .u64 0, .int .u64 0, .int .i64 0, .int .i64 0] 26 (0, 0)) (by (with_reducible repeat (first | refine Q12 ?_ _ | refine Q24 ?_ | refine Q17 ?_ _)); exact BK538.out)) : gb539 ≠ gb538)); clear HO_3; clear BK521; clear BK523; clear BK538; clear HB; have HO_3 := n0_; have BK521 := n1_; have BK523 := n2_; have BK538 := n3_; have HB := n4_; have BK539 := n5_; have GW539 := n6_; have GE539 := n7_; have NB521_539 := n8_; have NB539_521 := n9_; have NB523_539 := n10_; have NB539_523 := n11_; have NB538_539 := n12_; have NB539_538 := n13_; clear n0_ n1_ n2_ n3_ n4_ n5_ n6_ n7_ n8_ n9_ n10_ n11_ n12_ n13_; clear hb hbox hg; have hnb96 := NB538_521.out; have hnc96 := NB521_538.out; have hnb97 := NB538_523.out; have hnc97 := NB523_538.out; have hnb98 := NB538_539.out; have hnc98 := NB539_538.out; obtain ⟨hcz99_0, hcz99_1, hcz99_2, hcz99_3, hcz99_4, hcz99_5, hcz99_6, hcz99_7, hcz99_8, hcz99_9, hcz99_10, hfz99_0, hfz99_1, hfz99_2, hfz99_3, hfz99_4, hfz99_5, hfz99_6, hfz99_7, hfz99_8, hfz99_9, hfz99_10⟩ := Q41 BK538.out; have hnb100 := NB539_521.out; have hnc100 := NB521_539.out; have hnb101 := NB539_523.out; have hnc101 := NB523_539.out; obtain ⟨hcz102_0, hcz102_1, hfz102_0, hfz102_1⟩ := blk_cells2 BK539.out; obtain ⟨hcz103_0, hcz103_1, hcz103_2, hcz103_3, hcz103_4, hcz103_5, hcz103_6, hcz103_7, hcz103_8, hcz103_9, hcz103_10, hfz103_0, hfz103_1, hfz103_2, hfz103_3, hfz103_4, hfz103_5, hfz103_6, hfz103_7, hfz103_8, hfz103_9, hfz103_10⟩ := Q41 BK523.out))
                          go_roundg kj34
                          case measure => have := HK1.out; have := HJ34.out; omega
                          case rel => exact ⟨(((Q27 t516 x6_1).f2)), (wrap64 (x6_1 + 1)), (by first | rfl | (simp; done) | (simp [*]; done)), (by first | rfl | (simp; done) | (simp [*]; done)), H', ⟨by have := HK1.out; have := HJ34.out; omega⟩, ⟨by (with_reducible repeat (first | apply Kd.R_alloc | apply Kd.R_drewN | apply Kd.R_drew)); exact Kd.R_mono (Kd.R_far (p := ⟨gb539, 1, none⟩) (Kd.R_far (p := ⟨gb539, 0, none⟩) (Kd.R_far (p := ⟨gb538, 10, none⟩) (Kd.R_far (p := ⟨gb538, 9, none⟩) (Kd.R_far (p := ⟨gb538, 8, none⟩) (Kd.R_far (p := ⟨gb538, 7, none⟩) (Kd.R_far (p := ⟨gb538, 6, none⟩) (Kd.R_far (p := ⟨gb538, 5, none⟩) (Kd.R_far (p := ⟨gb538, 4, none⟩) (Kd.R_far (p := ⟨gb538, 3, none⟩) (Kd.R_far (p := ⟨gb538, 2, none⟩) (Kd.R_far (p := ⟨gb538, 1, none⟩) (Kd.R_far (p := ⟨gb538, 0, none⟩) (Kd.R_types (Kd.R_mono HO_3.out (fun k_ hk => (⟨hk, hk.2⟩ : _ ∧ k_ ≠ gb538))) BK539.out (by decide)) (fun _ hk => hk.1.2) (.int .i64 t525)) (fun _ hk => hk.1.2) (.int .i64 t526)) (fun _ hk => hk.1.2) (.int .i64 t527)) (fun _ hk => hk.1.2) (.string t528)) (fun _ hk => hk.1.2) (.bool t529)) (fun _ hk => hk.1.2) (.int .u64 t530)) (fun _ hk => hk.1.2) (.int .u64 t531)) (fun _ hk => hk.1.2) (.int .u64 t532)) (fun _ hk => hk.1.2) (.int .u64 t533)) (fun _ hk => hk.1.2) (.int .i64 t534)) (fun _ hk => hk.1.2) (.int .i64 t535)) (fun _ hk => hk.2) (.int .i64 t536)) (fun _ hk => hk.2) (.int .i64 t537)) (fun _ hk => trivial)⟩, ⟨by (with_reducible repeat (first | refine Q12 ?_ _ | refine Q24 ?_ | refine Q17 ?_ _)); refine blk_far2 ?_ NB521_539.out; (with_reducible repeat (first | refine Q12 ?_ _ | refine Q24 ?_ | refine Q17 ?_ _)); refine blk_far11 ?_ NB521_538.out; (with_reducible repeat (first | refine Q12 ?_ _ | refine Q24 ?_ | refine Q17 ?_ _)); exact BK521.out⟩, ⟨by repeat (first | (with_reducible first | exact HB.out | apply Q19 | apply Q8 | apply Q23 | refine Q26 ?_ GE521.out | refine Q26 ?_ GE523.out | refine Q26 ?_ GE538.out | refine Q26 ?_ GE539.out) | exact HB.out)⟩⟩
            · rw [if_neg c34] at H
              exact absurd H (by simp)
          · rw [if_neg c33] at H
            have c33b0 : decide (x6_1 < (t516.length : Int)) = false := decide_eq_false c33
            clear c33
            obtain rfl := Option.some.inj H
            obtain ⟨Ao104, co104, eo104⟩ := Kd.R_slice HO_3.out
            subst eo104
            go_wp2
            go_ret
            exact ⟨by first | rfl | (simp [Q37, Q35] <;> rfl) | (simp [*, Q37, Q35] <;> rfl), by repeat (first | (with_reducible first | exact HB.out | apply Q19 | apply Q8 | apply Q23 | refine Q26 ?_ GE521.out) | exact HB.out)⟩
  · replace c3 := Bool.eq_false_iff.mpr c3
    subst c3
    have H1 : (some false) = some r := by rw [if_neg (show ¬ (false = true) by decide)] at H; exact H
    clear H
    have H := H1
    clear H1
    obtain rfl := Option.some.inj H
    go_enter Tryd.func5, Tryd.ntmps5
    go_wp2_with (first | ((with_reducible refine Q40 (f := 14) rfl ?_); refine goesL_ (some 10) rfl rfl Tryd.func14 (by kernel_rfl) rfl #[] rfl (by (try simp only [List.map_toArray, List.map_cons, List.map_nil]); first | done | rfl | (simp only [List.length_drop, List.length_take]; rfl)) ?_; (with_reducible refine (dowellaw04_works.calls k  false _ A2.out ?tab).mono ?_); (case tab => exact tab_below HT.out (by repeat (first | (with_reducible first | exact HB.out | apply Q19 | apply Q8 | apply Q23) | exact HB.out))); rintro e w105 ⟨rfl, hb⟩; refine ⟨_, rfl, ?_⟩; have n0_ := Aside0.mk (Q34 (by repeat (first | (with_reducible first | exact HB.out | apply Q19 | apply Q8 | apply Q23) | exact HB.out)) hb); clear HB; have HB := n0_; clear n0_; (try clear hb); (try clear hb2); (try clear hk); (try clear hi)))
    go_ret
    exact ⟨by first | rfl | (simp [Q37, Q35] <;> rfl) | (simp [*, Q37, Q35] <;> rfl), by repeat (first | (with_reducible first | exact HB.out | apply Q19 | apply Q8 | apply Q23) | exact HB.out)⟩
def dowellaw04_bare.f (a0_0 : Int) (a0_1 : Int) (a0_2 : Int) (a0_3 : ByteArray) (a0_4 : Bool) (a0_5 : Int) (a0_6 : Int) (a0_7 : Int) (a0_8 : Int) (a0_9 : Int) (a0_10 : Int) : Option (Int × Int × Int × ByteArray × Bool × Int × Int × Int × Int × Int × Int) := some (a0_0, 0, 0, a0_3, a0_4, a0_5, a0_6, a0_7, a0_8, a0_9, a0_10)
end Go.Proofs.YtldjdcdoegjmoaaDoor.P
