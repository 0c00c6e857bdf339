import Derived.Lib.Bytealg
import Derived.Lib.Slices
import Derived.Lib.Strings
import Derived.Lib.Walk
import Derived.Test.YtldjdcdoegjmoaaDoorC1
import Derived.Test.YtldjdcdoegjmoaaDoorC3
namespace Go.Proofs.YtldjdcdoegjmoaaDoor.P
open Go.RowKit Go.Proofs.YtldjdcdoegjmoaaDoorW.PrintWords Go.Proofs.YtldjdcdoegjmoaaDoorW.PrintLast Go.Proofs.YtldjdcdoegjmoaaDoorW.PrintMore
set_option linter.unusedVariables false
set_option linter.unusedSimpArgs false
set_option maxHeartbeats 1000000 in
set_option maxRecDepth 100000 in
theorem sl_IndexByte (s : ByteArray) (c : Int) (w : World) :
    Calls Tryd.prog 80 #[.string s, .int .u8 c] w fun e w' => e = .returned (.int .i64 (Lib.indexByte s.data.toList c.toNat.toUInt8)) ∧ w' = w := by
  go_enter Tryd.func80, Tryd.ntmps80; go_wp2; rw [run_callFunc_extern Tryd.func92 (by kernel_rfl) (by kernel_rfl) (by kernel_rfl) (e := Extern.BytealgIndexByte.indexByte) (by kernel_rfl), Lib.run_indexByteString]; simp only [Result.andThen]; rw [Oper.upon_value]; go_wp2
  go_ret
  exact ⟨rfl, rfl⟩
def strings_IndexByte.f (a0 : ByteArray) (a1 : Int) : Option (Int) := some (Lib.indexByte a0.data.toList a1.toNat.toUInt8)
set_option maxHeartbeats 1000000 in
theorem strings_IndexByte.calls (a0 : ByteArray) (a1 : Int) (r : Int) (w : World) (h : strings_IndexByte.f a0 a1 = some r) :
    Calls Tryd.prog 57 #[.string a0, .int .u8 a1] w fun e w' => e = .returned (.int .i64 r) ∧ Drawn0 w w' := by
  obtain rfl := Option.some.inj h; go_enter Tryd.func57, Tryd.ntmps57; go_wp2_with (go_at_call 80; refine (sl_IndexByte _ _ _).mono ?_; rintro e w' ⟨rfl, rfl⟩)
  go_ret
  exact ⟨rfl, Drawn0.refl _⟩
end Go.Proofs.YtldjdcdoegjmoaaDoor.P
namespace Go.Proofs.YtldjdcdoegjmoaaDoor.P
open Go.RowKit Go.Proofs.YtldjdcdoegjmoaaDoorW.PrintWords Go.Proofs.YtldjdcdoegjmoaaDoorW.PrintLast Go.Proofs.YtldjdcdoegjmoaaDoorW.PrintMore
set_option linter.unusedVariables false
set_option linter.unusedSimpArgs false
def lexis_sign.f (a0 : Int) : Option (Int) := if a0 = 47 then (some 3) else (if a0 = 38 then (some 4) else (if a0 = 33 then (some 5) else (if a0 = 63 then (some 6) else (if a0 = 42 then (some 7) else (if a0 = 43 then (some 8) else (if a0 = 40 then (some 10) else (if a0 = 41 then (some 11) else (if a0 = 44 then (some 12) else (if a0 = 46 then (some 13) else (some (-1)))))))))))
set_option maxHeartbeats 8000000 in
set_option maxRecDepth 100000 in
theorem lexis_sign.calls (a0 : Int) (r : Int) (w : World) (h : lexis_sign.f a0 = some r) :
    Calls Tryd.prog 48 #[.int .u8 a0] w fun e w' => e = .returned (.int .i64 r) ∧ Drawn0 w w' := by
  have H : (if a0 = 47 then (some 3) else (if a0 = 38 then (some 4) else (if a0 = 33 then (some 5) else (if a0 = 63 then (some 6) else (if a0 = 42 then (some 7) else (if a0 = 43 then (some 8) else (if a0 = 40 then (some 10) else (if a0 = 41 then (some 11) else (if a0 = 44 then (some 12) else (if a0 = 46 then (some 13) else (some (-1)))))))))))) = some r := h; clear h
  by_cases c2 : a0 = 47
  · rw [if_pos c2] at H; have c2b0 : (a0 == 47) = true := beq_iff_eq.mpr c2; have c2b1 : (a0 != 47) = false := bne_eq_false_iff_eq.mpr c2; clear c2; obtain rfl := Option.some.inj H; go_enter Tryd.func48, Tryd.ntmps48; go_wp2
    go_ret
    exact ⟨zi, zn⟩
  · rw [if_neg c2] at H; have c2b0 : (a0 == 47) = false := beq_eq_false_iff_ne.mpr c2; have c2b1 : (a0 != 47) = true := bne_iff_ne.mpr c2
    by_cases c3 : a0 = 38
    · rw [if_pos c3] at H; have c3b0 : (a0 == 38) = true := beq_iff_eq.mpr c3; have c3b1 : (a0 != 38) = false := bne_eq_false_iff_eq.mpr c3; clear c3; obtain rfl := Option.some.inj H; go_enter Tryd.func48, Tryd.ntmps48; go_wp2
      go_ret
      exact ⟨zi, zn⟩
    · rw [if_neg c3] at H; have c3b0 : (a0 == 38) = false := beq_eq_false_iff_ne.mpr c3; have c3b1 : (a0 != 38) = true := bne_iff_ne.mpr c3
      by_cases c4 : a0 = 33
      · rw [if_pos c4] at H; have c4b0 : (a0 == 33) = true := beq_iff_eq.mpr c4; have c4b1 : (a0 != 33) = false := bne_eq_false_iff_eq.mpr c4; clear c4; obtain rfl := Option.some.inj H; go_enter Tryd.func48, Tryd.ntmps48; go_wp2
        go_ret
        exact ⟨zi, zn⟩
      · rw [if_neg c4] at H; have c4b0 : (a0 == 33) = false := beq_eq_false_iff_ne.mpr c4; have c4b1 : (a0 != 33) = true := bne_iff_ne.mpr c4
        by_cases c5 : a0 = 63
        · rw [if_pos c5] at H; have c5b0 : (a0 == 63) = true := beq_iff_eq.mpr c5; have c5b1 : (a0 != 63) = false := bne_eq_false_iff_eq.mpr c5; clear c5; obtain rfl := Option.some.inj H; go_enter Tryd.func48, Tryd.ntmps48; go_wp2
          go_ret
          exact ⟨zi, zn⟩
        · rw [if_neg c5] at H; have c5b0 : (a0 == 63) = false := beq_eq_false_iff_ne.mpr c5; have c5b1 : (a0 != 63) = true := bne_iff_ne.mpr c5
          by_cases c6 : a0 = 42
          · rw [if_pos c6] at H; have c6b0 : (a0 == 42) = true := beq_iff_eq.mpr c6; have c6b1 : (a0 != 42) = false := bne_eq_false_iff_eq.mpr c6; clear c6; obtain rfl := Option.some.inj H; go_enter Tryd.func48, Tryd.ntmps48; go_wp2
            go_ret
            exact ⟨zi, zn⟩
          · rw [if_neg c6] at H; have c6b0 : (a0 == 42) = false := beq_eq_false_iff_ne.mpr c6; have c6b1 : (a0 != 42) = true := bne_iff_ne.mpr c6
            by_cases c7 : a0 = 43
            · rw [if_pos c7] at H; have c7b0 : (a0 == 43) = true := beq_iff_eq.mpr c7; have c7b1 : (a0 != 43) = false := bne_eq_false_iff_eq.mpr c7; clear c7; obtain rfl := Option.some.inj H; go_enter Tryd.func48, Tryd.ntmps48; go_wp2
              go_ret
              exact ⟨zi, zn⟩
            · rw [if_neg c7] at H; have c7b0 : (a0 == 43) = false := beq_eq_false_iff_ne.mpr c7; have c7b1 : (a0 != 43) = true := bne_iff_ne.mpr c7
              by_cases c8 : a0 = 40
              · rw [if_pos c8] at H; have c8b0 : (a0 == 40) = true := beq_iff_eq.mpr c8; have c8b1 : (a0 != 40) = false := bne_eq_false_iff_eq.mpr c8; clear c8; obtain rfl := Option.some.inj H; go_enter Tryd.func48, Tryd.ntmps48; go_wp2
                go_ret
                exact ⟨zi, zn⟩
              · rw [if_neg c8] at H; have c8b0 : (a0 == 40) = false := beq_eq_false_iff_ne.mpr c8; have c8b1 : (a0 != 40) = true := bne_iff_ne.mpr c8
                by_cases c9 : a0 = 41
                · rw [if_pos c9] at H; have c9b0 : (a0 == 41) = true := beq_iff_eq.mpr c9; have c9b1 : (a0 != 41) = false := bne_eq_false_iff_eq.mpr c9; clear c9; obtain rfl := Option.some.inj H; go_enter Tryd.func48, Tryd.ntmps48; go_wp2
                  go_ret
                  exact ⟨zi, zn⟩
                · rw [if_neg c9] at H; have c9b0 : (a0 == 41) = false := beq_eq_false_iff_ne.mpr c9; have c9b1 : (a0 != 41) = true := bne_iff_ne.mpr c9
                  by_cases c10 : a0 = 44
                  · rw [if_pos c10] at H; have c10b0 : (a0 == 44) = true := beq_iff_eq.mpr c10; have c10b1 : (a0 != 44) = false := bne_eq_false_iff_eq.mpr c10; clear c10; obtain rfl := Option.some.inj H; go_enter Tryd.func48, Tryd.ntmps48; go_wp2
                    go_ret
                    exact ⟨zi, zn⟩
                  · rw [if_neg c10] at H; have c10b0 : (a0 == 44) = false := beq_eq_false_iff_ne.mpr c10; have c10b1 : (a0 != 44) = true := bne_iff_ne.mpr c10
                    by_cases c11 : a0 = 46
                    · rw [if_pos c11] at H; have c11b0 : (a0 == 46) = true := beq_iff_eq.mpr c11; have c11b1 : (a0 != 46) = false := bne_eq_false_iff_eq.mpr c11; clear c11; obtain rfl := Option.some.inj H; go_enter Tryd.func48, Tryd.ntmps48; go_wp2
                      go_ret
                      exact ⟨zi, zn⟩
                    · rw [if_neg c11] at H; have c11b0 : (a0 == 46) = false := beq_eq_false_iff_ne.mpr c11; have c11b1 : (a0 != 46) = true := bne_iff_ne.mpr c11; obtain rfl := Option.some.inj H; go_enter Tryd.func48, Tryd.ntmps48; go_wp2
                      go_ret
                      exact ⟨zi, zn⟩
def lexis_fault.f (a0 : Int) (a1 : Int) : Option (Int × Int × Int × ByteArray × Bool × Int × Int × Int × Int × Int × Int × Int × Int) := some (0, 0, 0, (⟨#[]⟩ : ByteArray), false, 0, 0, 0, 0, 0, 0, a0, a1)
set_option maxHeartbeats 8000000 in
set_option maxRecDepth 100000 in
theorem lexis_fault.calls (a0 : Int) (a1 : Int) (r1 : Int) (r2 : Int) (r3 : Int) (r4 : ByteArray) (r5 : Bool) (r6 : Int) (r7 : Int) (r8 : Int) (r9 : Int) (r10 : Int) (r11 : Int) (r12 : Int) (r13 : Int) (w : World) (h : lexis_fault.f a0 a1 = some (r1, r2, r3, r4, r5, r6, r7, r8, r9, r10, r11, r12, r13)) :
    Calls Tryd.prog 56 #[.int .i64 a0, .int .i64 a1] w fun e w' => e = .returned (.tuple #[.agg #[.int .i64 r1, .int .i64 r2, .int .i64 r3, .string r4, .bool r5, .int .u64 r6, .int .u64 r7, .int .u64 r8, .int .u64 r9, .int .i64 r10, .int .i64 r11], .agg #[.int .i64 r12, .int .i64 r13]]) ∧ Below w.heap.size w w' := by
  have hu26 := Tryd.underlying26; have hu41 := Tryd.underlying41; have HB := zz (Below.refl w.heap.size w); have H : (some (0, 0, 0, (⟨#[]⟩ : ByteArray), false, 0, 0, 0, 0, 0, 0, a0, a1)) = some (r1, r2, r3, r4, r5, r6, r7, r8, r9, r10, r11, r12, r13) := h; clear h; simp only [Option.some.injEq, Prod.mk.injEq] at H; obtain ⟨rfl, rfl, rfl, rfl, rfl, rfl, rfl, rfl, rfl, rfl, rfl, rfl, rfl⟩ := H; go_enter Tryd.func56, Tryd.ntmps56; go_wp2_with (first | ((with_reducible refine gate_dst (N := 4) rfl ?_); refine box_event ?hg (N := 4) ?hd (cs := #[.int .i64 0, .int .i64 0, .int .i64 0, .string (⟨#[]⟩ : ByteArray), .bool false, .int .u64 0, .int .u64 0, .int .u64 0, .int .u64 0, .int .i64 0, .int .i64 0]) (t := 26) ?hr ?_; (case hd => rfl); (case hg => rfl); (case hr => first | (go_simp; done) | (go_simp; rfl)); intro gb191 hg w3 hbox hb; have BK191 := zz (hbox); have GW191 := zz ((zg0 hg HB)); have GE191 := zz ((zg0 hg HB)); replace HB := zz (Q23 (zh0 HB) hb); clear hb hbox hg) | ((with_reducible refine gate_dst (N := 5) rfl ?_); refine box_event ?hg (N := 5) ?hd (cs := #[.int .i64 0, .int .i64 0]) (t := 41) ?hr ?_; (case hd => rfl); (case hg => rfl); (case hr => first | (go_simp; done) | (go_simp; rfl)); intro gb192 hg w4 hbox hb; have BK192 := zz (hbox); have GW192 := zz ((zg1 hg HB GE191)); have GE192 := zz ((zg1 hg HB GE191)); replace HB := zz (Q23 (zh1 HB GE191) hb); have NB191_192 := zz ((zl hg BK191)); have NB192_191 := zz ((zr hg BK191)); replace BK191 := zz (zk BK191 hb); clear hb hbox hg; have hnb5 := NB191_192.out; have hnc5 := NB192_191.out; obtain ⟨hcz6_0, hcz6_1, hcz6_2, hcz6_3, hcz6_4, hcz6_5, hcz6_6, hcz6_7, hcz6_8, hcz6_9, hcz6_10, hfz6_0, hfz6_1, hfz6_2, hfz6_3, hfz6_4, hfz6_5, hfz6_6, hfz6_7, hfz6_8, hfz6_9, hfz6_10⟩ := Q27 BK191.out; obtain ⟨hcz7_0, hcz7_1, hfz7_0, hfz7_1⟩ := blk_cells2 BK192.out)); refine bodyPost_ret (results_cc rfl _ _ gb191 gb192 26 41 #[.int .i64 0, .int .i64 0, .int .i64 0, .string (⟨#[]⟩ : ByteArray), .bool false, .int .u64 0, .int .u64 0, .int .u64 0, .int .u64 0, .int .i64 0, .int .i64 0] #[.int .i64 a0, .int .i64 a1] (0, 0) (0, 0) _ _ rfl (by (with_reducible repeat (first | refine Q12 ?_ _ | refine Q13 ?_ | refine Q8 ?_ _)); refine blk_far2 ?_ NB191_192.out; (with_reducible repeat (first | refine Q12 ?_ _ | refine Q13 ?_ | refine Q8 ?_ _)); apply blk_put11; (with_reducible repeat (first | refine Q12 ?_ _ | refine Q13 ?_ | refine Q8 ?_ _)); exact BK191.out) Tryd.underlying26 rfl (by kernel_rfl) rfl (by (with_reducible repeat (first | refine Q12 ?_ _ | refine Q13 ?_ | refine Q8 ?_ _)); apply blk_put2; (with_reducible repeat (first | refine Q12 ?_ _ | refine Q13 ?_ | refine Q8 ?_ _)); refine blk_far11 ?_ NB192_191.out; (with_reducible repeat (first | refine Q12 ?_ _ | refine Q13 ?_ | refine Q8 ?_ _)); exact BK192.out) Tryd.underlying41 rfl (by kernel_rfl)) rfl ?_; exact ⟨ze, zh2 HB GE191 GE192⟩
def lexis_word.f (k : Nat) (a0 : ByteArray) (a1 : Int) : Option (Int × Int × Int × ByteArray × Bool × Int × Int × Int × Int × Int × Int × Int × Int) := (lexis_named.f k a0 a1).bind fun t195 => (if t195 > 64 then ((lexis_fault.f a1 1).bind fun bt196 => (some (bt196.1, bt196.2.1, bt196.2.2.1, bt196.2.2.2.1, bt196.2.2.2.2.1, bt196.2.2.2.2.2.1, bt196.2.2.2.2.2.2.1, bt196.2.2.2.2.2.2.2.1, bt196.2.2.2.2.2.2.2.2.1, bt196.2.2.2.2.2.2.2.2.2.1, bt196.2.2.2.2.2.2.2.2.2.2.1, bt196.2.2.2.2.2.2.2.2.2.2.2.1, bt196.2.2.2.2.2.2.2.2.2.2.2.2))) else (if 0 ≤ a1 then (if a1 ≤ (wrap64 (a1 + t195)) then (if (wrap64 (a1 + t195)) ≤ (a0.size : Int) then (some (1, a1, wrap64 (a1 + t195), a0.extract (a1 : Int).toNat ((wrap64 (a1 + t195)) : Int).toNat, false, 0, 0, 0, 0, 0, 0, 0, 0)) else (none)) else (none)) else (none)))
set_option maxHeartbeats 8000000 in
set_option maxRecDepth 100000 in
theorem lexis_word.calls (k : Nat) (a0 : ByteArray) (a1 : Int) (r1 : Int) (r2 : Int) (r3 : Int) (r4 : ByteArray) (r5 : Bool) (r6 : Int) (r7 : Int) (r8 : Int) (r9 : Int) (r10 : Int) (r11 : Int) (r12 : Int) (r13 : Int) (w : World) (h : lexis_word.f k a0 a1 = some (r1, r2, r3, r4, r5, r6, r7, r8, r9, r10, r11, r12, r13)) :
    Calls Tryd.prog 50 #[.string a0, .int .i64 a1] w fun e w' => e = .returned (.tuple #[.agg #[.int .i64 r1, .int .i64 r2, .int .i64 r3, .string r4, .bool r5, .int .u64 r6, .int .u64 r7, .int .u64 r8, .int .u64 r9, .int .i64 r10, .int .i64 r11], .agg #[.int .i64 r12, .int .i64 r13]]) ∧ Below w.heap.size w w' := by
  have hu26 := Tryd.underlying26; have hu41 := Tryd.underlying41; have HB := zz (Below.refl w.heap.size w); have H : ((lexis_named.f k a0 a1).bind fun t195 => (if t195 > 64 then ((lexis_fault.f a1 1).bind fun bt196 => (some (bt196.1, bt196.2.1, bt196.2.2.1, bt196.2.2.2.1, bt196.2.2.2.2.1, bt196.2.2.2.2.2.1, bt196.2.2.2.2.2.2.1, bt196.2.2.2.2.2.2.2.1, bt196.2.2.2.2.2.2.2.2.1, bt196.2.2.2.2.2.2.2.2.2.1, bt196.2.2.2.2.2.2.2.2.2.2.1, bt196.2.2.2.2.2.2.2.2.2.2.2.1, bt196.2.2.2.2.2.2.2.2.2.2.2.2))) else (if 0 ≤ a1 then (if a1 ≤ (wrap64 (a1 + t195)) then (if (wrap64 (a1 + t195)) ≤ (a0.size : Int) then (some (1, a1, wrap64 (a1 + t195), a0.extract (a1 : Int).toNat ((wrap64 (a1 + t195)) : Int).toNat, false, 0, 0, 0, 0, 0, 0, 0, 0)) else (none)) else (none)) else (none)))) = some (r1, r2, r3, r4, r5, r6, r7, r8, r9, r10, r11, r12, r13) := h; clear h; replace H := Option.bind_eq_some_iff.mp H; obtain ⟨t195, A30, H⟩ := H; replace H : (if t195 > 64 then ((lexis_fault.f a1 1).bind fun bt196 => (some (bt196.1, bt196.2.1, bt196.2.2.1, bt196.2.2.2.1, bt196.2.2.2.2.1, bt196.2.2.2.2.2.1, bt196.2.2.2.2.2.2.1, bt196.2.2.2.2.2.2.2.1, bt196.2.2.2.2.2.2.2.2.1, bt196.2.2.2.2.2.2.2.2.2.1, bt196.2.2.2.2.2.2.2.2.2.2.1, bt196.2.2.2.2.2.2.2.2.2.2.2.1, bt196.2.2.2.2.2.2.2.2.2.2.2.2))) else (if 0 ≤ a1 then (if a1 ≤ (wrap64 (a1 + t195)) then (if (wrap64 (a1 + t195)) ≤ (a0.size : Int) then (some (1, a1, wrap64 (a1 + t195), a0.extract (a1 : Int).toNat ((wrap64 (a1 + t195)) : Int).toNat, false, 0, 0, 0, 0, 0, 0, 0, 0)) else (none)) else (none)) else (none))) = some (r1, r2, r3, r4, r5, r6, r7, r8, r9, r10, r11, r12, r13) := H; have A3 := Aside0.mk A30; clear A30
  by_cases c4 : t195 > 64
  · rw [if_pos c4] at H; have c4b0 : decide (64 < t195) = true := decide_eq_true c4; clear c4; replace H := Option.bind_eq_some_iff.mp H; obtain ⟨⟨t196, t197, t198, t199, t200, t201, t202, t203, t204, t205, t206, t207, t208⟩, A50, H⟩ := H; replace H : (some (t196, t197, t198, t199, t200, t201, t202, t203, t204, t205, t206, t207, t208)) = some (r1, r2, r3, r4, r5, r6, r7, r8, r9, r10, r11, r12, r13) := H; have A5 := Aside0.mk A50; clear A50; simp only [Option.some.injEq, Prod.mk.injEq] at H; obtain ⟨rfl, rfl, rfl, rfl, rfl, rfl, rfl, rfl, rfl, rfl, rfl, rfl, rfl⟩ := H; go_enter Tryd.func50, Tryd.ntmps50; go_wp2_with (first | ((with_reducible refine gate_dst (N := 4) rfl ?_); refine box_event ?hg (N := 4) ?hd (cs := #[.int .i64 0, .int .i64 0, .int .i64 0, .string (⟨#[]⟩ : ByteArray), .bool false, .int .u64 0, .int .u64 0, .int .u64 0, .int .u64 0, .int .i64 0, .int .i64 0]) (t := 26) ?hr ?_; (case hd => rfl); (case hg => rfl); (case hr => first | (go_simp; done) | (go_simp; rfl)); intro gb193 hg w6 hbox hb; have BK193 := zz (hbox); have GW193 := zz ((zg0 hg HB)); have GE193 := zz ((zg0 hg HB)); replace HB := zz (Q23 (zh0 HB) hb); clear hb hbox hg) | ((with_reducible refine gate_dst (N := 5) rfl ?_); refine box_event ?hg (N := 5) ?hd (cs := #[.int .i64 0, .int .i64 0]) (t := 41) ?hr ?_; (case hd => rfl); (case hg => rfl); (case hr => first | (go_simp; done) | (go_simp; rfl)); intro gb194 hg w7 hbox hb; have BK194 := zz (hbox); have GW194 := zz ((zg1 hg HB GE193)); have GE194 := zz ((zg1 hg HB GE193)); replace HB := zz (Q23 (zh1 HB GE193) hb); have NB193_194 := zz ((zl hg BK193)); have NB194_193 := zz ((zr hg BK193)); replace BK193 := zz (zk BK193 hb); clear hb hbox hg) | ((with_reducible refine Q26 (f := 46) rfl ?_); refine goesL_ (some 9) rfl rfl Tryd.func46 (by kernel_rfl) rfl #[.string a0, .int .i64 a1] rfl za ?_; (with_reducible refine (lexis_named.calls k a0 a1 t195 _ A3.out).mono ?_); rintro e w' ⟨rfl, ⟨nd, rfl⟩⟩; refine ⟨_, rfl, ?_⟩; (try (rw [drewN_self w7]; generalize hq_ : World.drewN w7 _ = w7; have n0_ : Aside0 (w7.heap[gb193]? = some (.cells #[.int .i64 0, .int .i64 0, .int .i64 0, .string (⟨#[]⟩ : ByteArray), .bool false, .int .u64 0, .int .u64 0, .int .u64 0, .int .u64 0, .int .i64 0, .int .i64 0] 26 (0, 0))) := ⟨by rw [← hq_]; exact (zb BK193)⟩; have n1_ : Aside0 (w7.heap[gb194]? = some (.cells #[.int .i64 0, .int .i64 0] 41 (0, 0))) := ⟨by rw [← hq_]; exact (zb BK194)⟩; have n2_ : Aside0 (Below w.heap.size w w7) := ⟨by rw [← hq_]; exact (zh2 HB GE193 GE194)⟩; clear BK193 BK194 HB hq_; have BK193 := n0_; have BK194 := n1_; have HB := n2_; clear n0_ n1_ n2_))) | ((with_reducible refine Q26 (f := 56) rfl ?_); refine goesL_ (some 13) rfl rfl Tryd.func56 (by kernel_rfl) rfl #[.int .i64 a1, .int .i64 1] rfl za ?_; (with_reducible refine (lexis_fault.calls a1 1 t196 t197 t198 t199 t200 t201 t202 t203 t204 t205 t206 t207 t208 _ A5.out).mono ?_); rintro e w8 ⟨rfl, hb⟩; refine ⟨_, rfl, ?_⟩; replace BK193 := zz (zk BK193 hb); replace BK194 := zz (zk BK194 hb); replace HB := zz (Q23 (zh2 HB GE193 GE194) hb); (try clear hb); have hnb9 := NB193_194.out; have hnc9 := NB194_193.out; obtain ⟨hcz10_0, hcz10_1, hcz10_2, hcz10_3, hcz10_4, hcz10_5, hcz10_6, hcz10_7, hcz10_8, hcz10_9, hcz10_10, hfz10_0, hfz10_1, hfz10_2, hfz10_3, hfz10_4, hfz10_5, hfz10_6, hfz10_7, hfz10_8, hfz10_9, hfz10_10⟩ := Q27 BK193.out; obtain ⟨hcz11_0, hcz11_1, hfz11_0, hfz11_1⟩ := blk_cells2 BK194.out)); refine bodyPost_ret (results_cc rfl _ _ gb193 gb194 26 41 #[.int .i64 t196, .int .i64 t197, .int .i64 t198, .string t199, .bool t200, .int .u64 t201, .int .u64 t202, .int .u64 t203, .int .u64 t204, .int .i64 t205, .int .i64 t206] #[.int .i64 t207, .int .i64 t208] (0, 0) (0, 0) _ _ rfl (by (with_reducible repeat (first | refine Q12 ?_ _ | refine Q13 ?_ | refine Q8 ?_ _)); refine blk_far2 ?_ NB193_194.out; (with_reducible repeat (first | refine Q12 ?_ _ | refine Q13 ?_ | refine Q8 ?_ _)); apply blk_put11; (with_reducible repeat (first | refine Q12 ?_ _ | refine Q13 ?_ | refine Q8 ?_ _)); exact BK193.out) Tryd.underlying26 rfl (by kernel_rfl) rfl (by (with_reducible repeat (first | refine Q12 ?_ _ | refine Q13 ?_ | refine Q8 ?_ _)); apply blk_put2; (with_reducible repeat (first | refine Q12 ?_ _ | refine Q13 ?_ | refine Q8 ?_ _)); refine blk_far11 ?_ NB194_193.out; (with_reducible repeat (first | refine Q12 ?_ _ | refine Q13 ?_ | refine Q8 ?_ _)); exact BK194.out) Tryd.underlying41 rfl (by kernel_rfl)) rfl ?_; exact ⟨ze, zh2 HB GE193 GE194⟩
  · rw [if_neg c4] at H; have c4b0 : decide (64 < t195) = false := decide_eq_false c4; clear c4
    by_cases c12 : 0 ≤ a1
    · rw [if_pos c12] at H; have c12b0 := eq_true c12; have c12b1 : decide (0 ≤ a1) = true := decide_eq_true c12; clear c12
      by_cases c13 : a1 ≤ (wrap64 (a1 + t195))
      · rw [if_pos c13] at H; have c13b0 := eq_true c13; have c13b1 : decide (a1 ≤ (wrap64 (a1 + t195))) = true := decide_eq_true c13
        by_cases c14 : (wrap64 (a1 + t195)) ≤ (a0.size : Int)
        · rw [if_pos c14] at H; have c14b0 := eq_true c14; have c14b1 : decide ((wrap64 (a1 + t195)) ≤ (a0.size : Int)) = true := decide_eq_true c14; simp only [Option.some.injEq, Prod.mk.injEq] at H; obtain ⟨rfl, rfl, rfl, rfl, rfl, rfl, rfl, rfl, rfl, rfl, rfl, rfl, rfl⟩ := H; go_enter Tryd.func50, Tryd.ntmps50; go_wp2_with (first | ((with_reducible refine gate_dst (N := 4) rfl ?_); refine box_event ?hg (N := 4) ?hd (cs := #[.int .i64 0, .int .i64 0, .int .i64 0, .string (⟨#[]⟩ : ByteArray), .bool false, .int .u64 0, .int .u64 0, .int .u64 0, .int .u64 0, .int .i64 0, .int .i64 0]) (t := 26) ?hr ?_; (case hd => rfl); (case hg => rfl); (case hr => first | (go_simp; done) | (go_simp; rfl)); intro gb193 hg w15 hbox hb; have BK193 := zz (hbox); have GW193 := zz ((zg0 hg HB)); have GE193 := zz ((zg0 hg HB)); replace HB := zz (Q23 (zh0 HB) hb); clear hb hbox hg) | ((with_reducible refine gate_dst (N := 5) rfl ?_); refine box_event ?hg (N := 5) ?hd (cs := #[.int .i64 0, .int .i64 0]) (t := 41) ?hr ?_; (case hd => rfl); (case hg => rfl); (case hr => first | (go_simp; done) | (go_simp; rfl)); intro gb194 hg w16 hbox hb; have BK194 := zz (hbox); have GW194 := zz ((zg1 hg HB GE193)); have GE194 := zz ((zg1 hg HB GE193)); replace HB := zz (Q23 (zh1 HB GE193) hb); have NB193_194 := zz ((zl hg BK193)); have NB194_193 := zz ((zr hg BK193)); replace BK193 := zz (zk BK193 hb); clear hb hbox hg) | ((with_reducible refine Q26 (f := 46) rfl ?_); refine goesL_ (some 9) rfl rfl Tryd.func46 (by kernel_rfl) rfl #[.string a0, .int .i64 a1] rfl za ?_; (with_reducible refine (lexis_named.calls k a0 a1 t195 _ A3.out).mono ?_); rintro e w' ⟨rfl, ⟨nd, rfl⟩⟩; refine ⟨_, rfl, ?_⟩; (try (rw [drewN_self w16]; generalize hq_ : World.drewN w16 _ = w16; have n0_ : Aside0 (w16.heap[gb193]? = some (.cells #[.int .i64 0, .int .i64 0, .int .i64 0, .string (⟨#[]⟩ : ByteArray), .bool false, .int .u64 0, .int .u64 0, .int .u64 0, .int .u64 0, .int .i64 0, .int .i64 0] 26 (0, 0))) := ⟨by rw [← hq_]; exact (zb BK193)⟩; have n1_ : Aside0 (w16.heap[gb194]? = some (.cells #[.int .i64 0, .int .i64 0] 41 (0, 0))) := ⟨by rw [← hq_]; exact (zb BK194)⟩; have n2_ : Aside0 (Below w.heap.size w w16) := ⟨by rw [← hq_]; exact (zh2 HB GE193 GE194)⟩; clear BK193 BK194 HB hq_; have BK193 := n0_; have BK194 := n1_; have HB := n2_; clear n0_ n1_ n2_)); have hnb17 := NB193_194.out; have hnc17 := NB194_193.out; obtain ⟨hcz18_0, hcz18_1, hcz18_2, hcz18_3, hcz18_4, hcz18_5, hcz18_6, hcz18_7, hcz18_8, hcz18_9, hcz18_10, hfz18_0, hfz18_1, hfz18_2, hfz18_3, hfz18_4, hfz18_5, hfz18_6, hfz18_7, hfz18_8, hfz18_9, hfz18_10⟩ := Q27 BK193.out; obtain ⟨hcz19_0, hcz19_1, hfz19_0, hfz19_1⟩ := blk_cells2 BK194.out)); refine bodyPost_ret (results_cc rfl _ _ gb193 gb194 26 41 #[.int .i64 1, .int .i64 a1, .int .i64 (wrap64 (a1 + t195)), .string (a0.extract (a1 : Int).toNat ((wrap64 (a1 + t195)) : Int).toNat), .bool false, .int .u64 0, .int .u64 0, .int .u64 0, .int .u64 0, .int .i64 0, .int .i64 0] #[.int .i64 0, .int .i64 0] (0, 0) (0, 0) _ _ rfl (by (with_reducible repeat (first | refine Q12 ?_ _ | refine Q13 ?_ | refine Q8 ?_ _)); refine blk_far2 ?_ NB193_194.out; (with_reducible repeat (first | refine Q12 ?_ _ | refine Q13 ?_ | refine Q8 ?_ _)); apply blk_put11; (with_reducible repeat (first | refine Q12 ?_ _ | refine Q13 ?_ | refine Q8 ?_ _)); exact BK193.out) Tryd.underlying26 rfl (by kernel_rfl) rfl (by (with_reducible repeat (first | refine Q12 ?_ _ | refine Q13 ?_ | refine Q8 ?_ _)); apply blk_put2; (with_reducible repeat (first | refine Q12 ?_ _ | refine Q13 ?_ | refine Q8 ?_ _)); refine blk_far11 ?_ NB194_193.out; (with_reducible repeat (first | refine Q12 ?_ _ | refine Q13 ?_ | refine Q8 ?_ _)); exact BK194.out) Tryd.underlying41 rfl (by kernel_rfl)) rfl ?_; exact ⟨ze, zh2 HB GE193 GE194⟩
        · rw [if_neg c14] at H; exact absurd H (by simp)
      · rw [if_neg c13] at H; exact absurd H (by simp)
    · rw [if_neg c12] at H; exact absurd H (by simp)
def lexis_number.l0 : Nat → ByteArray → Int → Int → Int → Option (Int × Int)
  | 0, _, _, _, _ => none
  | k + 1, x0, x1, x6, x7 => if x7 < (x0.size : Int) then (if 0 ≤ x7 then ((lexis_digit.f (bt x0 x7)).bind fun t209 => (if t209 = true then (if x7 < (wrap64 (x1 + 4)) then (lexis_number.l0 k x0 x1 (wrap64 ((wrap64 (10 * x6)) + (((bt x0 x7) - 48) % 256))) (wrap64 (x7 + 1))) else (if x7 = x1 then (some ((-1), x1)) else (if x7 > (wrap64 (x1 + 1)) then (if 0 ≤ x1 then (if x1 < (x0.size : Int) then (if (bt x0 x1) = 48 then (some ((-1), x1)) else (if x6 > 255 then (some ((-1), x1)) else (some (x6, x7)))) else (none)) else (none)) else (if x6 > 255 then (some ((-1), x1)) else (some (x6, x7)))))) else (if x7 = x1 then (some ((-1), x1)) else (if x7 > (wrap64 (x1 + 1)) then (if 0 ≤ x1 then (if x1 < (x0.size : Int) then (if (bt x0 x1) = 48 then (some ((-1), x1)) else (if x6 > 255 then (some ((-1), x1)) else (some (x6, x7)))) else (none)) else (none)) else (if x6 > 255 then (some ((-1), x1)) else (some (x6, x7))))))) else (none)) else (if x7 = x1 then (some ((-1), x1)) else (if x7 > (wrap64 (x1 + 1)) then (if 0 ≤ x1 then (if x1 < (x0.size : Int) then (if (bt x0 x1) = 48 then (some ((-1), x1)) else (if x6 > 255 then (some ((-1), x1)) else (some (x6, x7)))) else (none)) else (none)) else (if x6 > 255 then (some ((-1), x1)) else (some (x6, x7)))))
def lexis_number.f (k : Nat) (a0 : ByteArray) (a1 : Int) : Option (Int × Int) := lexis_number.l0 k a0 a1 0 a1
set_option maxHeartbeats 8000000 in
set_option maxRecDepth 100000 in
theorem lexis_number.calls (k : Nat) (a0 : ByteArray) (a1 : Int) (r1 : Int) (r2 : Int) (w : World) (h : lexis_number.f k a0 a1 = some (r1, r2)) :
    Calls Tryd.prog 74 #[.string a0, .int .i64 a1] w fun e w' => e = .returned (.tuple #[.int .i64 r1, .int .i64 r2]) ∧ Drawn0 w w' := by
  have H : (lexis_number.l0 k a0 a1 0 a1) = some (r1, r2) := h; clear h; have H' := Aside0.mk H; clear H; go_enter Tryd.func74, Tryd.ntmps74; go_wp2
  go_loopg [6, 7] k (fun kq v6 v7 w' => ∃ (x6_1 : Int) (x7_1 : Int), v6 = .int .i64 x6_1 ∧ v7 = .int .i64 x7_1 ∧ Aside0 (lexis_number.l0 kq a0 a1 x6_1 x7_1 = some (r1, r2)) ∧ Aside0 (kq ≤ k) ∧ Drawn0 w w')
  case atStart => exact ⟨(0), (a1), zi, zi, H', ⟨Nat.le_refl _⟩, zn⟩
  case round =>
    clear H'; (try clear p2); obtain ⟨x6_1, x7_1, rfl, rfl, HA, HK1, ⟨m1, rfl⟩⟩ := hrel
    cases gk with
    | zero => exact absurd HA.out (by simp [lexis_number.l0])
    | succ k1 =>
      have H := HA.out; clear HA; simp only [lexis_number.l0] at H
      by_cases c3 : x7_1 < (a0.size : Int)
      · rw [if_pos c3] at H; have c3b0 : decide (x7_1 < (a0.size : Int)) = true := decide_eq_true c3; clear c3
        by_cases c4 : 0 ≤ x7_1
        · rw [if_pos c4] at H; have c4b0 : decide (0 ≤ x7_1) = true := decide_eq_true c4; clear c4; replace H := Option.bind_eq_some_iff.mp H; obtain ⟨t209, A60, H⟩ := H; replace H : (if t209 = true then (if x7_1 < (wrap64 (a1 + 4)) then (lexis_number.l0 k1 a0 a1 (wrap64 ((wrap64 (10 * x6_1)) + (((bt a0 x7_1) - 48) % 256))) (wrap64 (x7_1 + 1))) else (if x7_1 = a1 then (some ((-1), a1)) else (if x7_1 > (wrap64 (a1 + 1)) then (if 0 ≤ a1 then (if a1 < (a0.size : Int) then (if (bt a0 a1) = 48 then (some ((-1), a1)) else (if x6_1 > 255 then (some ((-1), a1)) else (some (x6_1, x7_1)))) else (none)) else (none)) else (if x6_1 > 255 then (some ((-1), a1)) else (some (x6_1, x7_1)))))) else (if x7_1 = a1 then (some ((-1), a1)) else (if x7_1 > (wrap64 (a1 + 1)) then (if 0 ≤ a1 then (if a1 < (a0.size : Int) then (if (bt a0 a1) = 48 then (some ((-1), a1)) else (if x6_1 > 255 then (some ((-1), a1)) else (some (x6_1, x7_1)))) else (none)) else (none)) else (if x6_1 > 255 then (some ((-1), a1)) else (some (x6_1, x7_1)))))) = some (r1, r2) := H; have A6 := Aside0.mk A60; clear A60
          by_cases c7 : t209 = true
          · subst c7
            have H1 : (if x7_1 < (wrap64 (a1 + 4)) then (lexis_number.l0 k1 a0 a1 (wrap64 ((wrap64 (10 * x6_1)) + (((bt a0 x7_1) - 48) % 256))) (wrap64 (x7_1 + 1))) else (if x7_1 = a1 then (some ((-1), a1)) else (if x7_1 > (wrap64 (a1 + 1)) then (if 0 ≤ a1 then (if a1 < (a0.size : Int) then (if (bt a0 a1) = 48 then (some ((-1), a1)) else (if x6_1 > 255 then (some ((-1), a1)) else (some (x6_1, x7_1)))) else (none)) else (none)) else (if x6_1 > 255 then (some ((-1), a1)) else (some (x6_1, x7_1)))))) = some (r1, r2) := by rw [if_pos rfl] at H; exact H
            clear H; have H := H1; clear H1
            by_cases c8 : x7_1 < (wrap64 (a1 + 4))
            · rw [if_pos c8] at H; have c8b0 : decide (x7_1 < (wrap64 (a1 + 4))) = true := decide_eq_true c8; clear c8; have H' := Aside0.mk H; clear H; have p5 : 0 ≤ (x7_1 : Int) := zd; have q5 : x7_1 < (a0.size : Int) := zd; have hx5 := bt_at a0 x7_1; replace p5 := eq_true p5; replace q5 := eq_true q5; go_wp2_with (first | (go_at_call 76; (with_reducible refine (lexis_digit.calls (bt a0 x7_1) true _ A6.out).mono ?_); rintro e w' ⟨rfl, ⟨nd, rfl⟩⟩; have p9 : 0 ≤ (x7_1 : Int) := zd; have q9 : x7_1 < (a0.size : Int) := zd; have hx9 := bt_at a0 x7_1; replace p9 := eq_true p9; replace q9 := eq_true q9))
              go_roundg k1
              case measure => have := HK1.out; omega
              case rel => exact ⟨(wrap64 ((wrap64 (10 * x6_1)) + (((bt a0 x7_1) - 48) % 256))), (wrap64 (x7_1 + 1)), zi, zi, H', ⟨by have := HK1.out; omega⟩, zn⟩
            · rw [if_neg c8] at H; have c8b0 : decide (x7_1 < (wrap64 (a1 + 4))) = false := decide_eq_false c8; clear c8
              by_cases c10 : x7_1 = a1
              · rw [if_pos c10] at H; have c10b0 : (x7_1 == a1) = true := beq_iff_eq.mpr c10; have c10b1 : (x7_1 != a1) = false := bne_eq_false_iff_eq.mpr c10; clear c10; simp only [Option.some.injEq, Prod.mk.injEq] at H; obtain ⟨rfl, rfl⟩ := H; have p5 : 0 ≤ (x7_1 : Int) := zd; have q5 : x7_1 < (a0.size : Int) := zd; have hx5 := bt_at a0 x7_1; replace p5 := eq_true p5; replace q5 := eq_true q5; go_wp2_with (first | (go_at_call 76; (with_reducible refine (lexis_digit.calls (bt a0 x7_1) true _ A6.out).mono ?_); rintro e w' ⟨rfl, ⟨nd, rfl⟩⟩))
                go_ret2
                exact ⟨zi, zn⟩
              · rw [if_neg c10] at H; have c10b0 : (x7_1 == a1) = false := beq_eq_false_iff_ne.mpr c10; have c10b1 : (x7_1 != a1) = true := bne_iff_ne.mpr c10
                by_cases c11 : x7_1 > (wrap64 (a1 + 1))
                · rw [if_pos c11] at H; have c11b0 : decide ((wrap64 (a1 + 1)) < x7_1) = true := decide_eq_true c11; clear c11
                  by_cases c12 : 0 ≤ a1
                  · rw [if_pos c12] at H; have c12b0 : decide (0 ≤ a1) = true := decide_eq_true c12; clear c12
                    by_cases c13 : a1 < (a0.size : Int)
                    · rw [if_pos c13] at H; have c13b0 : decide (a1 < (a0.size : Int)) = true := decide_eq_true c13; clear c13
                      by_cases c15 : (bt a0 a1) = 48
                      · rw [if_pos c15] at H; have c15b0 : ((bt a0 a1) == 48) = true := beq_iff_eq.mpr c15; have c15b1 : ((bt a0 a1) != 48) = false := bne_eq_false_iff_eq.mpr c15; clear c15; simp only [Option.some.injEq, Prod.mk.injEq] at H; obtain ⟨rfl, rfl⟩ := H; have p5 : 0 ≤ (x7_1 : Int) := zd; have q5 : x7_1 < (a0.size : Int) := zd; have hx5 := bt_at a0 x7_1; replace p5 := eq_true p5; replace q5 := eq_true q5; go_wp2_with (first | (go_at_call 76; (with_reducible refine (lexis_digit.calls (bt a0 x7_1) true _ A6.out).mono ?_); rintro e w' ⟨rfl, ⟨nd, rfl⟩⟩; have p14 : 0 ≤ (a1 : Int) := zd; have q14 : a1 < (a0.size : Int) := zd; have hx14 := bt_at a0 a1; replace p14 := eq_true p14; replace q14 := eq_true q14))
                        go_ret2
                        exact ⟨zi, zn⟩
                      · rw [if_neg c15] at H; have c15b0 : ((bt a0 a1) == 48) = false := beq_eq_false_iff_ne.mpr c15; have c15b1 : ((bt a0 a1) != 48) = true := bne_iff_ne.mpr c15
                        by_cases c16 : x6_1 > 255
                        · rw [if_pos c16] at H; have c16b0 : decide (255 < x6_1) = true := decide_eq_true c16; clear c16; simp only [Option.some.injEq, Prod.mk.injEq] at H; obtain ⟨rfl, rfl⟩ := H; have p5 : 0 ≤ (x7_1 : Int) := zd; have q5 : x7_1 < (a0.size : Int) := zd; have hx5 := bt_at a0 x7_1; replace p5 := eq_true p5; replace q5 := eq_true q5; go_wp2_with (first | (go_at_call 76; (with_reducible refine (lexis_digit.calls (bt a0 x7_1) true _ A6.out).mono ?_); rintro e w' ⟨rfl, ⟨nd, rfl⟩⟩; have p14 : 0 ≤ (a1 : Int) := zd; have q14 : a1 < (a0.size : Int) := zd; have hx14 := bt_at a0 a1; replace p14 := eq_true p14; replace q14 := eq_true q14))
                          go_ret2
                          exact ⟨zi, zn⟩
                        · rw [if_neg c16] at H; have c16b0 : decide (255 < x6_1) = false := decide_eq_false c16; clear c16; simp only [Option.some.injEq, Prod.mk.injEq] at H; obtain ⟨rfl, rfl⟩ := H; have p5 : 0 ≤ (x7_1 : Int) := zd; have q5 : x7_1 < (a0.size : Int) := zd; have hx5 := bt_at a0 x7_1; replace p5 := eq_true p5; replace q5 := eq_true q5; go_wp2_with (first | (go_at_call 76; (with_reducible refine (lexis_digit.calls (bt a0 x7_1) true _ A6.out).mono ?_); rintro e w' ⟨rfl, ⟨nd, rfl⟩⟩; have p14 : 0 ≤ (a1 : Int) := zd; have q14 : a1 < (a0.size : Int) := zd; have hx14 := bt_at a0 a1; replace p14 := eq_true p14; replace q14 := eq_true q14))
                          go_ret2
                          exact ⟨zi, zn⟩
                    · rw [if_neg c13] at H; exact absurd H (by simp)
                  · rw [if_neg c12] at H; exact absurd H (by simp)
                · rw [if_neg c11] at H; have c11b0 : decide ((wrap64 (a1 + 1)) < x7_1) = false := decide_eq_false c11; clear c11
                  by_cases c17 : x6_1 > 255
                  · rw [if_pos c17] at H; have c17b0 : decide (255 < x6_1) = true := decide_eq_true c17; clear c17; simp only [Option.some.injEq, Prod.mk.injEq] at H; obtain ⟨rfl, rfl⟩ := H; have p5 : 0 ≤ (x7_1 : Int) := zd; have q5 : x7_1 < (a0.size : Int) := zd; have hx5 := bt_at a0 x7_1; replace p5 := eq_true p5; replace q5 := eq_true q5; go_wp2_with (first | (go_at_call 76; (with_reducible refine (lexis_digit.calls (bt a0 x7_1) true _ A6.out).mono ?_); rintro e w' ⟨rfl, ⟨nd, rfl⟩⟩))
                    go_ret2
                    exact ⟨zi, zn⟩
                  · rw [if_neg c17] at H; have c17b0 : decide (255 < x6_1) = false := decide_eq_false c17; clear c17; simp only [Option.some.injEq, Prod.mk.injEq] at H; obtain ⟨rfl, rfl⟩ := H; have p5 : 0 ≤ (x7_1 : Int) := zd; have q5 : x7_1 < (a0.size : Int) := zd; have hx5 := bt_at a0 x7_1; replace p5 := eq_true p5; replace q5 := eq_true q5; go_wp2_with (first | (go_at_call 76; (with_reducible refine (lexis_digit.calls (bt a0 x7_1) true _ A6.out).mono ?_); rintro e w' ⟨rfl, ⟨nd, rfl⟩⟩))
                    go_ret2
                    exact ⟨zi, zn⟩
          · replace c7 := Bool.eq_false_iff.mpr c7; subst c7
            have H1 : (if x7_1 = a1 then (some ((-1), a1)) else (if x7_1 > (wrap64 (a1 + 1)) then (if 0 ≤ a1 then (if a1 < (a0.size : Int) then (if (bt a0 a1) = 48 then (some ((-1), a1)) else (if x6_1 > 255 then (some ((-1), a1)) else (some (x6_1, x7_1)))) else (none)) else (none)) else (if x6_1 > 255 then (some ((-1), a1)) else (some (x6_1, x7_1))))) = some (r1, r2) := by rw [if_neg (show ¬ (false = true) by decide)] at H; exact H
            clear H; have H := H1; clear H1
            by_cases c18 : x7_1 = a1
            · rw [if_pos c18] at H; have c18b0 : (x7_1 == a1) = true := beq_iff_eq.mpr c18; have c18b1 : (x7_1 != a1) = false := bne_eq_false_iff_eq.mpr c18; clear c18; simp only [Option.some.injEq, Prod.mk.injEq] at H; obtain ⟨rfl, rfl⟩ := H; have p5 : 0 ≤ (x7_1 : Int) := zd; have q5 : x7_1 < (a0.size : Int) := zd; have hx5 := bt_at a0 x7_1; replace p5 := eq_true p5; replace q5 := eq_true q5; go_wp2_with (first | (go_at_call 76; (with_reducible refine (lexis_digit.calls (bt a0 x7_1) false _ A6.out).mono ?_); rintro e w' ⟨rfl, ⟨nd, rfl⟩⟩))
              go_ret2
              exact ⟨zi, zn⟩
            · rw [if_neg c18] at H; have c18b0 : (x7_1 == a1) = false := beq_eq_false_iff_ne.mpr c18; have c18b1 : (x7_1 != a1) = true := bne_iff_ne.mpr c18
              by_cases c19 : x7_1 > (wrap64 (a1 + 1))
              · rw [if_pos c19] at H; have c19b0 : decide ((wrap64 (a1 + 1)) < x7_1) = true := decide_eq_true c19; clear c19
                by_cases c20 : 0 ≤ a1
                · rw [if_pos c20] at H; have c20b0 : decide (0 ≤ a1) = true := decide_eq_true c20; clear c20
                  by_cases c21 : a1 < (a0.size : Int)
                  · rw [if_pos c21] at H; have c21b0 : decide (a1 < (a0.size : Int)) = true := decide_eq_true c21; clear c21
                    by_cases c23 : (bt a0 a1) = 48
                    · rw [if_pos c23] at H; have c23b0 : ((bt a0 a1) == 48) = true := beq_iff_eq.mpr c23; have c23b1 : ((bt a0 a1) != 48) = false := bne_eq_false_iff_eq.mpr c23; clear c23; simp only [Option.some.injEq, Prod.mk.injEq] at H; obtain ⟨rfl, rfl⟩ := H; have p5 : 0 ≤ (x7_1 : Int) := zd; have q5 : x7_1 < (a0.size : Int) := zd; have hx5 := bt_at a0 x7_1; replace p5 := eq_true p5; replace q5 := eq_true q5; go_wp2_with (first | (go_at_call 76; (with_reducible refine (lexis_digit.calls (bt a0 x7_1) false _ A6.out).mono ?_); rintro e w' ⟨rfl, ⟨nd, rfl⟩⟩; have p22 : 0 ≤ (a1 : Int) := zd; have q22 : a1 < (a0.size : Int) := zd; have hx22 := bt_at a0 a1; replace p22 := eq_true p22; replace q22 := eq_true q22))
                      go_ret2
                      exact ⟨zi, zn⟩
                    · rw [if_neg c23] at H; have c23b0 : ((bt a0 a1) == 48) = false := beq_eq_false_iff_ne.mpr c23; have c23b1 : ((bt a0 a1) != 48) = true := bne_iff_ne.mpr c23
                      by_cases c24 : x6_1 > 255
                      · rw [if_pos c24] at H; have c24b0 : decide (255 < x6_1) = true := decide_eq_true c24; clear c24; simp only [Option.some.injEq, Prod.mk.injEq] at H; obtain ⟨rfl, rfl⟩ := H; have p5 : 0 ≤ (x7_1 : Int) := zd; have q5 : x7_1 < (a0.size : Int) := zd; have hx5 := bt_at a0 x7_1; replace p5 := eq_true p5; replace q5 := eq_true q5; go_wp2_with (first | (go_at_call 76; (with_reducible refine (lexis_digit.calls (bt a0 x7_1) false _ A6.out).mono ?_); rintro e w' ⟨rfl, ⟨nd, rfl⟩⟩; have p22 : 0 ≤ (a1 : Int) := zd; have q22 : a1 < (a0.size : Int) := zd; have hx22 := bt_at a0 a1; replace p22 := eq_true p22; replace q22 := eq_true q22))
                        go_ret2
                        exact ⟨zi, zn⟩
                      · rw [if_neg c24] at H; have c24b0 : decide (255 < x6_1) = false := decide_eq_false c24; clear c24; simp only [Option.some.injEq, Prod.mk.injEq] at H; obtain ⟨rfl, rfl⟩ := H; have p5 : 0 ≤ (x7_1 : Int) := zd; have q5 : x7_1 < (a0.size : Int) := zd; have hx5 := bt_at a0 x7_1; replace p5 := eq_true p5; replace q5 := eq_true q5; go_wp2_with (first | (go_at_call 76; (with_reducible refine (lexis_digit.calls (bt a0 x7_1) false _ A6.out).mono ?_); rintro e w' ⟨rfl, ⟨nd, rfl⟩⟩; have p22 : 0 ≤ (a1 : Int) := zd; have q22 : a1 < (a0.size : Int) := zd; have hx22 := bt_at a0 a1; replace p22 := eq_true p22; replace q22 := eq_true q22))
                        go_ret2
                        exact ⟨zi, zn⟩
                  · rw [if_neg c21] at H; exact absurd H (by simp)
                · rw [if_neg c20] at H; exact absurd H (by simp)
              · rw [if_neg c19] at H; have c19b0 : decide ((wrap64 (a1 + 1)) < x7_1) = false := decide_eq_false c19; clear c19
                by_cases c25 : x6_1 > 255
                · rw [if_pos c25] at H; have c25b0 : decide (255 < x6_1) = true := decide_eq_true c25; clear c25; simp only [Option.some.injEq, Prod.mk.injEq] at H; obtain ⟨rfl, rfl⟩ := H; have p5 : 0 ≤ (x7_1 : Int) := zd; have q5 : x7_1 < (a0.size : Int) := zd; have hx5 := bt_at a0 x7_1; replace p5 := eq_true p5; replace q5 := eq_true q5; go_wp2_with (first | (go_at_call 76; (with_reducible refine (lexis_digit.calls (bt a0 x7_1) false _ A6.out).mono ?_); rintro e w' ⟨rfl, ⟨nd, rfl⟩⟩))
                  go_ret2
                  exact ⟨zi, zn⟩
                · rw [if_neg c25] at H; have c25b0 : decide (255 < x6_1) = false := decide_eq_false c25; clear c25; simp only [Option.some.injEq, Prod.mk.injEq] at H; obtain ⟨rfl, rfl⟩ := H; have p5 : 0 ≤ (x7_1 : Int) := zd; have q5 : x7_1 < (a0.size : Int) := zd; have hx5 := bt_at a0 x7_1; replace p5 := eq_true p5; replace q5 := eq_true q5; go_wp2_with (first | (go_at_call 76; (with_reducible refine (lexis_digit.calls (bt a0 x7_1) false _ A6.out).mono ?_); rintro e w' ⟨rfl, ⟨nd, rfl⟩⟩))
                  go_ret2
                  exact ⟨zi, zn⟩
        · rw [if_neg c4] at H; exact absurd H (by simp)
      · rw [if_neg c3] at H; have c3b0 : decide (x7_1 < (a0.size : Int)) = false := decide_eq_false c3; clear c3
        by_cases c26 : x7_1 = a1
        · rw [if_pos c26] at H; have c26b0 : (x7_1 == a1) = true := beq_iff_eq.mpr c26; have c26b1 : (x7_1 != a1) = false := bne_eq_false_iff_eq.mpr c26; clear c26; simp only [Option.some.injEq, Prod.mk.injEq] at H; obtain ⟨rfl, rfl⟩ := H; go_wp2
          go_ret2
          exact ⟨zi, zn⟩
        · rw [if_neg c26] at H; have c26b0 : (x7_1 == a1) = false := beq_eq_false_iff_ne.mpr c26; have c26b1 : (x7_1 != a1) = true := bne_iff_ne.mpr c26
          by_cases c27 : x7_1 > (wrap64 (a1 + 1))
          · rw [if_pos c27] at H; have c27b0 : decide ((wrap64 (a1 + 1)) < x7_1) = true := decide_eq_true c27; clear c27
            by_cases c28 : 0 ≤ a1
            · rw [if_pos c28] at H; have c28b0 : decide (0 ≤ a1) = true := decide_eq_true c28; clear c28
              by_cases c29 : a1 < (a0.size : Int)
              · rw [if_pos c29] at H; have c29b0 : decide (a1 < (a0.size : Int)) = true := decide_eq_true c29; clear c29
                by_cases c31 : (bt a0 a1) = 48
                · rw [if_pos c31] at H; have c31b0 : ((bt a0 a1) == 48) = true := beq_iff_eq.mpr c31; have c31b1 : ((bt a0 a1) != 48) = false := bne_eq_false_iff_eq.mpr c31; clear c31; simp only [Option.some.injEq, Prod.mk.injEq] at H; obtain ⟨rfl, rfl⟩ := H; have p30 : 0 ≤ (a1 : Int) := zd; have q30 : a1 < (a0.size : Int) := zd; have hx30 := bt_at a0 a1; replace p30 := eq_true p30; replace q30 := eq_true q30; go_wp2
                  go_ret2
                  exact ⟨zi, zn⟩
                · rw [if_neg c31] at H; have c31b0 : ((bt a0 a1) == 48) = false := beq_eq_false_iff_ne.mpr c31; have c31b1 : ((bt a0 a1) != 48) = true := bne_iff_ne.mpr c31
                  by_cases c32 : x6_1 > 255
                  · rw [if_pos c32] at H; have c32b0 : decide (255 < x6_1) = true := decide_eq_true c32; clear c32; simp only [Option.some.injEq, Prod.mk.injEq] at H; obtain ⟨rfl, rfl⟩ := H; have p30 : 0 ≤ (a1 : Int) := zd; have q30 : a1 < (a0.size : Int) := zd; have hx30 := bt_at a0 a1; replace p30 := eq_true p30; replace q30 := eq_true q30; go_wp2
                    go_ret2
                    exact ⟨zi, zn⟩
                  · rw [if_neg c32] at H; have c32b0 : decide (255 < x6_1) = false := decide_eq_false c32; clear c32; simp only [Option.some.injEq, Prod.mk.injEq] at H; obtain ⟨rfl, rfl⟩ := H; have p30 : 0 ≤ (a1 : Int) := zd; have q30 : a1 < (a0.size : Int) := zd; have hx30 := bt_at a0 a1; replace p30 := eq_true p30; replace q30 := eq_true q30; go_wp2
                    go_ret2
                    exact ⟨zi, zn⟩
              · rw [if_neg c29] at H; exact absurd H (by simp)
            · rw [if_neg c28] at H; exact absurd H (by simp)
          · rw [if_neg c27] at H; have c27b0 : decide ((wrap64 (a1 + 1)) < x7_1) = false := decide_eq_false c27; clear c27
            by_cases c33 : x6_1 > 255
            · rw [if_pos c33] at H; have c33b0 : decide (255 < x6_1) = true := decide_eq_true c33; clear c33; simp only [Option.some.injEq, Prod.mk.injEq] at H; obtain ⟨rfl, rfl⟩ := H; go_wp2
              go_ret2
              exact ⟨zi, zn⟩
            · rw [if_neg c33] at H; have c33b0 : decide (255 < x6_1) = false := decide_eq_false c33; clear c33; simp only [Option.some.injEq, Prod.mk.injEq] at H; obtain ⟨rfl, rfl⟩ := H; go_wp2
              go_ret2
              exact ⟨zi, zn⟩
end Go.Proofs.YtldjdcdoegjmoaaDoor.P
