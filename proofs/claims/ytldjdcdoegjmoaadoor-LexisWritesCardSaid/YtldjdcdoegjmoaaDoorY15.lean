import Derived.Test.YtldjdcdoegjmoaaDoorY1
import Derived.Test.YtldjdcdoegjmoaaDoorY4
import Derived.Test.YtldjdcdoegjmoaaDoorY7
import Derived.Test.YtldjdcdoegjmoaaDoorY12
import Derived.Test.YtldjdcdoegjmoaaDoorY14
namespace Go.Proofs.YtldjdcdoegjmoaaDoor.P
open Go.RowKit Go.Proofs.YtldjdcdoegjmoaaDoorW.PrintWords Go.Proofs.YtldjdcdoegjmoaaDoorW.PrintLast Go.Proofs.YtldjdcdoegjmoaaDoorW.PrintMore
set_option linter.unusedVariables false
set_option linter.unusedSimpArgs false
def lexis_plain.f (a0 : Int) : Option (ByteArray) := if a0 = 2 then (some (⟨#[60, 45]⟩ : ByteArray)) else (if a0 = 3 then (some (⟨#[47]⟩ : ByteArray)) else (if a0 = 4 then (some (⟨#[38]⟩ : ByteArray)) else (if a0 = 5 then (some (⟨#[33]⟩ : ByteArray)) else (if a0 = 6 then (some (⟨#[63]⟩ : ByteArray)) else (if a0 = 7 then (some (⟨#[42]⟩ : ByteArray)) else (if a0 = 8 then (some (⟨#[43]⟩ : ByteArray)) else (if a0 = 10 then (some (⟨#[40]⟩ : ByteArray)) else (if a0 = 11 then (some (⟨#[41]⟩ : ByteArray)) else (if a0 = 12 then (some (⟨#[44]⟩ : ByteArray)) else (if a0 = 13 then (some (⟨#[46]⟩ : ByteArray)) else (some (⟨#[]⟩ : ByteArray))))))))))))
set_option maxHeartbeats 8000000 in
set_option maxRecDepth 100000 in
theorem lexis_plain.calls (a0 : Int) (r : ByteArray) (w : World) (h : lexis_plain.f a0 = some r) :
    Calls Tryd.prog 38 #[.int .i64 a0] w fun e w' => e = .returned (.string r) ∧ Drawn0 w w' := by
  have H : (if a0 = 2 then (some (⟨#[60, 45]⟩ : ByteArray)) else (if a0 = 3 then (some (⟨#[47]⟩ : ByteArray)) else (if a0 = 4 then (some (⟨#[38]⟩ : ByteArray)) else (if a0 = 5 then (some (⟨#[33]⟩ : ByteArray)) else (if a0 = 6 then (some (⟨#[63]⟩ : ByteArray)) else (if a0 = 7 then (some (⟨#[42]⟩ : ByteArray)) else (if a0 = 8 then (some (⟨#[43]⟩ : ByteArray)) else (if a0 = 10 then (some (⟨#[40]⟩ : ByteArray)) else (if a0 = 11 then (some (⟨#[41]⟩ : ByteArray)) else (if a0 = 12 then (some (⟨#[44]⟩ : ByteArray)) else (if a0 = 13 then (some (⟨#[46]⟩ : ByteArray)) else (some (⟨#[]⟩ : ByteArray))))))))))))) = some r := h
  clear h
  by_cases c2 : a0 = 2
  · rw [if_pos c2] at H
    have c2b0 : (a0 == 2) = true := beq_iff_eq.mpr c2
    have c2b1 : (a0 != 2) = false := bne_eq_false_iff_eq.mpr c2
    clear c2
    obtain rfl := Option.some.inj H
    go_enter Tryd.func38, Tryd.ntmps38
    go_wp2
    go_ret
    exact ⟨by first | rfl | (simp; done) | (simp [*]; done), by repeat (first | exact Drawn0.refl _ | apply Drawn0.step)⟩
  · rw [if_neg c2] at H
    have c2b0 : (a0 == 2) = false := beq_eq_false_iff_ne.mpr c2
    have c2b1 : (a0 != 2) = true := bne_iff_ne.mpr c2
    by_cases c3 : a0 = 3
    · rw [if_pos c3] at H
      have c3b0 : (a0 == 3) = true := beq_iff_eq.mpr c3
      have c3b1 : (a0 != 3) = false := bne_eq_false_iff_eq.mpr c3
      clear c3
      obtain rfl := Option.some.inj H
      go_enter Tryd.func38, Tryd.ntmps38
      go_wp2
      go_ret
      exact ⟨by first | rfl | (simp; done) | (simp [*]; done), by repeat (first | exact Drawn0.refl _ | apply Drawn0.step)⟩
    · rw [if_neg c3] at H
      have c3b0 : (a0 == 3) = false := beq_eq_false_iff_ne.mpr c3
      have c3b1 : (a0 != 3) = true := bne_iff_ne.mpr c3
      by_cases c4 : a0 = 4
      · rw [if_pos c4] at H
        have c4b0 : (a0 == 4) = true := beq_iff_eq.mpr c4
        have c4b1 : (a0 != 4) = false := bne_eq_false_iff_eq.mpr c4
        clear c4
        obtain rfl := Option.some.inj H
        go_enter Tryd.func38, Tryd.ntmps38
        go_wp2
        go_ret
        exact ⟨by first | rfl | (simp; done) | (simp [*]; done), by repeat (first | exact Drawn0.refl _ | apply Drawn0.step)⟩
      · rw [if_neg c4] at H
        have c4b0 : (a0 == 4) = false := beq_eq_false_iff_ne.mpr c4
        have c4b1 : (a0 != 4) = true := bne_iff_ne.mpr c4
        by_cases c5 : a0 = 5
        · rw [if_pos c5] at H
          have c5b0 : (a0 == 5) = true := beq_iff_eq.mpr c5
          have c5b1 : (a0 != 5) = false := bne_eq_false_iff_eq.mpr c5
          clear c5
          obtain rfl := Option.some.inj H
          go_enter Tryd.func38, Tryd.ntmps38
          go_wp2
          go_ret
          exact ⟨by first | rfl | (simp; done) | (simp [*]; done), by repeat (first | exact Drawn0.refl _ | apply Drawn0.step)⟩
        · rw [if_neg c5] at H
          have c5b0 : (a0 == 5) = false := beq_eq_false_iff_ne.mpr c5
          have c5b1 : (a0 != 5) = true := bne_iff_ne.mpr c5
          by_cases c6 : a0 = 6
          · rw [if_pos c6] at H
            have c6b0 : (a0 == 6) = true := beq_iff_eq.mpr c6
            have c6b1 : (a0 != 6) = false := bne_eq_false_iff_eq.mpr c6
            clear c6
            obtain rfl := Option.some.inj H
            go_enter Tryd.func38, Tryd.ntmps38
            go_wp2
            go_ret
            exact ⟨by first | rfl | (simp; done) | (simp [*]; done), by repeat (first | exact Drawn0.refl _ | apply Drawn0.step)⟩
          · rw [if_neg c6] at H
            have c6b0 : (a0 == 6) = false := beq_eq_false_iff_ne.mpr c6
            have c6b1 : (a0 != 6) = true := bne_iff_ne.mpr c6
            by_cases c7 : a0 = 7
            · rw [if_pos c7] at H
              have c7b0 : (a0 == 7) = true := beq_iff_eq.mpr c7
              have c7b1 : (a0 != 7) = false := bne_eq_false_iff_eq.mpr c7
              clear c7
              obtain rfl := Option.some.inj H
              go_enter Tryd.func38, Tryd.ntmps38
              go_wp2
              go_ret
              exact ⟨by first | rfl | (simp; done) | (simp [*]; done), by repeat (first | exact Drawn0.refl _ | apply Drawn0.step)⟩
            · rw [if_neg c7] at H
              have c7b0 : (a0 == 7) = false := beq_eq_false_iff_ne.mpr c7
              have c7b1 : (a0 != 7) = true := bne_iff_ne.mpr c7
              by_cases c8 : a0 = 8
              · rw [if_pos c8] at H
                have c8b0 : (a0 == 8) = true := beq_iff_eq.mpr c8
                have c8b1 : (a0 != 8) = false := bne_eq_false_iff_eq.mpr c8
                clear c8
                obtain rfl := Option.some.inj H
                go_enter Tryd.func38, Tryd.ntmps38
                go_wp2
                go_ret
                exact ⟨by first | rfl | (simp; done) | (simp [*]; done), by repeat (first | exact Drawn0.refl _ | apply Drawn0.step)⟩
              · rw [if_neg c8] at H
                have c8b0 : (a0 == 8) = false := beq_eq_false_iff_ne.mpr c8
                have c8b1 : (a0 != 8) = true := bne_iff_ne.mpr c8
                by_cases c9 : a0 = 10
                · rw [if_pos c9] at H
                  have c9b0 : (a0 == 10) = true := beq_iff_eq.mpr c9
                  have c9b1 : (a0 != 10) = false := bne_eq_false_iff_eq.mpr c9
                  clear c9
                  obtain rfl := Option.some.inj H
                  go_enter Tryd.func38, Tryd.ntmps38
                  go_wp2
                  go_ret
                  exact ⟨by first | rfl | (simp; done) | (simp [*]; done), by repeat (first | exact Drawn0.refl _ | apply Drawn0.step)⟩
                · rw [if_neg c9] at H
                  have c9b0 : (a0 == 10) = false := beq_eq_false_iff_ne.mpr c9
                  have c9b1 : (a0 != 10) = true := bne_iff_ne.mpr c9
                  by_cases c10 : a0 = 11
                  · rw [if_pos c10] at H
                    have c10b0 : (a0 == 11) = true := beq_iff_eq.mpr c10
                    have c10b1 : (a0 != 11) = false := bne_eq_false_iff_eq.mpr c10
                    clear c10
                    obtain rfl := Option.some.inj H
                    go_enter Tryd.func38, Tryd.ntmps38
                    go_wp2
                    go_ret
                    exact ⟨by first | rfl | (simp; done) | (simp [*]; done), by repeat (first | exact Drawn0.refl _ | apply Drawn0.step)⟩
                  · rw [if_neg c10] at H
                    have c10b0 : (a0 == 11) = false := beq_eq_false_iff_ne.mpr c10
                    have c10b1 : (a0 != 11) = true := bne_iff_ne.mpr c10
                    by_cases c11 : a0 = 12
                    · rw [if_pos c11] at H
                      have c11b0 : (a0 == 12) = true := beq_iff_eq.mpr c11
                      have c11b1 : (a0 != 12) = false := bne_eq_false_iff_eq.mpr c11
                      clear c11
                      obtain rfl := Option.some.inj H
                      go_enter Tryd.func38, Tryd.ntmps38
                      go_wp2
                      go_ret
                      exact ⟨by first | rfl | (simp; done) | (simp [*]; done), by repeat (first | exact Drawn0.refl _ | apply Drawn0.step)⟩
                    · rw [if_neg c11] at H
                      have c11b0 : (a0 == 12) = false := beq_eq_false_iff_ne.mpr c11
                      have c11b1 : (a0 != 12) = true := bne_iff_ne.mpr c11
                      by_cases c12 : a0 = 13
                      · rw [if_pos c12] at H
                        have c12b0 : (a0 == 13) = true := beq_iff_eq.mpr c12
                        have c12b1 : (a0 != 13) = false := bne_eq_false_iff_eq.mpr c12
                        clear c12
                        obtain rfl := Option.some.inj H
                        go_enter Tryd.func38, Tryd.ntmps38
                        go_wp2
                        go_ret
                        exact ⟨by first | rfl | (simp; done) | (simp [*]; done), by repeat (first | exact Drawn0.refl _ | apply Drawn0.step)⟩
                      · rw [if_neg c12] at H
                        have c12b0 : (a0 == 13) = false := beq_eq_false_iff_ne.mpr c12
                        have c12b1 : (a0 != 13) = true := bne_iff_ne.mpr c12
                        obtain rfl := Option.some.inj H
                        go_enter Tryd.func38, Tryd.ntmps38
                        go_wp2
                        go_ret
                        exact ⟨by first | rfl | (simp; done) | (simp [*]; done), by repeat (first | exact Drawn0.refl _ | apply Drawn0.step)⟩
def lexis_text.f (k : Nat) (a0_0 : Int) (a0_1 : Int) (a0_2 : Int) (a0_3 : ByteArray) (a0_4 : Bool) (a0_5 : Int) (a0_6 : Int) (a0_7 : Int) (a0_8 : Int) (a0_9 : Int) (a0_10 : Int) : Option (ByteArray) := if a0_0 = 1 then (some a0_3) else (if a0_0 = 16 then (if 1 + a0_3.size ≤ 9223372036854775807 then (some ((⟨#[64]⟩ : ByteArray) ++ a0_3)) else (none)) else (if a0_0 = 17 then (if 1 + a0_3.size ≤ 9223372036854775807 then (some ((⟨#[94]⟩ : ByteArray) ++ a0_3)) else (none)) else (if a0_0 = 9 then ((strconv_Itoa.f a0_9).bind fun t165 => (if 1 + t165.size ≤ 9223372036854775807 then (if a0_10 = (-1) then (if ((⟨#[123]⟩ : ByteArray) ++ t165).size + 1 ≤ 9223372036854775807 then (if (((⟨#[123]⟩ : ByteArray) ++ t165) ++ (⟨#[44]⟩ : ByteArray)).size + 1 ≤ 9223372036854775807 then (some ((((⟨#[123]⟩ : ByteArray) ++ t165) ++ (⟨#[44]⟩ : ByteArray)) ++ (⟨#[125]⟩ : ByteArray))) else (none)) else (none)) else (if a0_10 > a0_9 then ((strconv_Itoa.f a0_10).bind fun t166 => (if 1 + t166.size ≤ 9223372036854775807 then (if ((⟨#[123]⟩ : ByteArray) ++ t165).size + ((⟨#[44]⟩ : ByteArray) ++ t166).size ≤ 9223372036854775807 then (if (((⟨#[123]⟩ : ByteArray) ++ t165) ++ ((⟨#[44]⟩ : ByteArray) ++ t166)).size + 1 ≤ 9223372036854775807 then (some ((((⟨#[123]⟩ : ByteArray) ++ t165) ++ ((⟨#[44]⟩ : ByteArray) ++ t166)) ++ (⟨#[125]⟩ : ByteArray))) else (none)) else (none)) else (none))) else (if ((⟨#[123]⟩ : ByteArray) ++ t165).size + 1 ≤ 9223372036854775807 then (some (((⟨#[123]⟩ : ByteArray) ++ t165) ++ (⟨#[125]⟩ : ByteArray))) else (none)))) else (none))) else (if a0_0 = 15 then ((class_Text.f k a0_5 a0_6 a0_7 a0_8).bind fun t167 => (some t167)) else (if a0_0 = 14 then (if a0_4 = true then ((lexis_quoted.f a0_3).bind fun t168 => (if t168.size + 1 ≤ 9223372036854775807 then (some (t168 ++ (⟨#[105]⟩ : ByteArray))) else (none))) else ((lexis_quoted.f a0_3).bind fun t169 => (some t169))) else ((lexis_plain.f a0_0).bind fun t170 => (some t170)))))))
theorem lexis_text.mono : ∀ a0 a1 a2 a3 a4 a5 a6 a7 a8 a9 a10 k, LeO (lexis_text.f k a0 a1 a2 a3 a4 a5 a6 a7 a8 a9 a10) (lexis_text.f (k + 1) a0 a1 a2 a3 a4 a5 a6 a7 a8 a9 a10) := by
  intro a0 a1 a2 a3 a4 a5 a6 a7 a8 a9 a10 k
  unfold lexis_text.f
  repeat' first
      | (with_reducible exact class_Text.mono _ _ _ _ _)
      | (with_reducible exact LeO.refl _)
      | (with_reducible exact LeO.none _)
      | (with_reducible refine LeO.ite ?_ ?_)
      | (with_reducible refine LeO.bind ?_ (fun _ => ?_))
      | exact class_Text.mono _ _ _ _ _
      | exact LeO.none _
      | refine LeO.ite ?_ ?_
      | refine LeO.bind ?_ (fun _ => ?_)
set_option maxHeartbeats 8000000 in
set_option maxRecDepth 100000 in
theorem lexis_text.calls (k : Nat) (a0_0 : Int) (a0_1 : Int) (a0_2 : Int) (a0_3 : ByteArray) (a0_4 : Bool) (a0_5 : Int) (a0_6 : Int) (a0_7 : Int) (a0_8 : Int) (a0_9 : Int) (a0_10 : Int) (r : ByteArray) (w : World) (h : lexis_text.f k a0_0 a0_1 a0_2 a0_3 a0_4 a0_5 a0_6 a0_7 a0_8 a0_9 a0_10 = some r) (ht : TabOk w) :
    Calls Tryd.prog 20 #[.agg #[.int .i64 a0_0, .int .i64 a0_1, .int .i64 a0_2, .string a0_3, .bool a0_4, .int .u64 a0_5, .int .u64 a0_6, .int .u64 a0_7, .int .u64 a0_8, .int .i64 a0_9, .int .i64 a0_10]] w fun e w' => e = .returned (.string r) ∧ Below w.heap.size w w' := by
  have HT := Aside0.mk ht
  clear ht
  have hu26 := Tryd.underlying26
  have hu24 := Tryd.underlying24
  have HB := Aside0.mk (Below.refl w.heap.size w)
  have H : (if a0_0 = 1 then (some a0_3) else (if a0_0 = 16 then (if 1 + a0_3.size ≤ 9223372036854775807 then (some ((⟨#[64]⟩ : ByteArray) ++ a0_3)) else (none)) else (if a0_0 = 17 then (if 1 + a0_3.size ≤ 9223372036854775807 then (some ((⟨#[94]⟩ : ByteArray) ++ a0_3)) else (none)) else (if a0_0 = 9 then ((strconv_Itoa.f a0_9).bind fun t165 => (if 1 + t165.size ≤ 9223372036854775807 then (if a0_10 = (-1) then (if ((⟨#[123]⟩ : ByteArray) ++ t165).size + 1 ≤ 9223372036854775807 then (if (((⟨#[123]⟩ : ByteArray) ++ t165) ++ (⟨#[44]⟩ : ByteArray)).size + 1 ≤ 9223372036854775807 then (some ((((⟨#[123]⟩ : ByteArray) ++ t165) ++ (⟨#[44]⟩ : ByteArray)) ++ (⟨#[125]⟩ : ByteArray))) else (none)) else (none)) else (if a0_10 > a0_9 then ((strconv_Itoa.f a0_10).bind fun t166 => (if 1 + t166.size ≤ 9223372036854775807 then (if ((⟨#[123]⟩ : ByteArray) ++ t165).size + ((⟨#[44]⟩ : ByteArray) ++ t166).size ≤ 9223372036854775807 then (if (((⟨#[123]⟩ : ByteArray) ++ t165) ++ ((⟨#[44]⟩ : ByteArray) ++ t166)).size + 1 ≤ 9223372036854775807 then (some ((((⟨#[123]⟩ : ByteArray) ++ t165) ++ ((⟨#[44]⟩ : ByteArray) ++ t166)) ++ (⟨#[125]⟩ : ByteArray))) else (none)) else (none)) else (none))) else (if ((⟨#[123]⟩ : ByteArray) ++ t165).size + 1 ≤ 9223372036854775807 then (some (((⟨#[123]⟩ : ByteArray) ++ t165) ++ (⟨#[125]⟩ : ByteArray))) else (none)))) else (none))) else (if a0_0 = 15 then ((class_Text.f k a0_5 a0_6 a0_7 a0_8).bind fun t167 => (some t167)) else (if a0_0 = 14 then (if a0_4 = true then ((lexis_quoted.f a0_3).bind fun t168 => (if t168.size + 1 ≤ 9223372036854775807 then (some (t168 ++ (⟨#[105]⟩ : ByteArray))) else (none))) else ((lexis_quoted.f a0_3).bind fun t169 => (some t169))) else ((lexis_plain.f a0_0).bind fun t170 => (some t170)))))))) = some r := h
  clear h
  by_cases c2 : a0_0 = 1
  · rw [if_pos c2] at H
    have c2b0 : (a0_0 == 1) = true := beq_iff_eq.mpr c2
    have c2b1 : (a0_0 != 1) = false := bne_eq_false_iff_eq.mpr c2
    clear c2
    obtain rfl := Option.some.inj H
    go_enter Tryd.func20, Tryd.ntmps20
    go_wp2_with (first | ((with_reducible refine gate_dst (N := 1) rfl ?_); refine box_event ?hg (N := 1) ?hd (cs := #[.int .i64 a0_0, .int .i64 a0_1, .int .i64 a0_2, .string a0_3, .bool a0_4, .int .u64 a0_5, .int .u64 a0_6, .int .u64 a0_7, .int .u64 a0_8, .int .i64 a0_9, .int .i64 a0_10]) (t := 26) ?hr ?_; (case hd => rfl); (case hg => rfl); (case hr => first | (go_simp; done) | (go_simp; rfl)); intro gb164 hg w3 hbox hb; have n0_ := Aside0.mk (Q25 (by repeat (first | (with_reducible first | exact HB.out | apply Q17 | apply Q11 | apply Q16) | exact HB.out)) hb); have n1_ := Aside0.mk (hbox); have n2_ := Aside0.mk ((by rw [hg]; exact (Q27 (by repeat (first | (with_reducible first | exact HB.out | apply Q17 | apply Q11 | apply Q16) | exact HB.out))) : w.heap.size ≤ gb164)); have n3_ := Aside0.mk ((by rw [hg]; exact (Q27 (by repeat (first | (with_reducible first | exact HB.out | apply Q17 | apply Q11 | apply Q16) | exact HB.out))) : w.heap.size ≤ gb164)); clear HB; have HB := n0_; have BK164 := n1_; have GW164 := n2_; have GE164 := n3_; clear n0_ n1_ n2_ n3_; clear hb hbox hg; have hcz4_0 : w3.cell? ⟨gb164, 0, none⟩ = some (.int .i64 a0_0) := (Q19 BK164.out 0).trans rfl; have hcz4_1 : w3.cell? ⟨gb164, 1, none⟩ = some (.int .i64 a0_1) := (Q19 BK164.out 1).trans rfl; have hcz4_2 : w3.cell? ⟨gb164, 2, none⟩ = some (.int .i64 a0_2) := (Q19 BK164.out 2).trans rfl; have hcz4_3 : w3.cell? ⟨gb164, 3, none⟩ = some (.string a0_3) := (Q19 BK164.out 3).trans rfl; have hcz4_4 : w3.cell? ⟨gb164, 4, none⟩ = some (.bool a0_4) := (Q19 BK164.out 4).trans rfl; have hcz4_5 : w3.cell? ⟨gb164, 5, none⟩ = some (.int .u64 a0_5) := (Q19 BK164.out 5).trans rfl; have hcz4_6 : w3.cell? ⟨gb164, 6, none⟩ = some (.int .u64 a0_6) := (Q19 BK164.out 6).trans rfl; have hcz4_7 : w3.cell? ⟨gb164, 7, none⟩ = some (.int .u64 a0_7) := (Q19 BK164.out 7).trans rfl; have hcz4_8 : w3.cell? ⟨gb164, 8, none⟩ = some (.int .u64 a0_8) := (Q19 BK164.out 8).trans rfl; have hcz4_9 : w3.cell? ⟨gb164, 9, none⟩ = some (.int .i64 a0_9) := (Q19 BK164.out 9).trans rfl; have hcz4_10 : w3.cell? ⟨gb164, 10, none⟩ = some (.int .i64 a0_10) := (Q19 BK164.out 10).trans rfl; have hfz4_0 := Q14 BK164.out 0; have hfz4_1 := Q14 BK164.out 1; have hfz4_2 := Q14 BK164.out 2; have hfz4_3 := Q14 BK164.out 3; have hfz4_4 := Q14 BK164.out 4; have hfz4_5 := Q14 BK164.out 5; have hfz4_6 := Q14 BK164.out 6; have hfz4_7 := Q14 BK164.out 7; have hfz4_8 := Q14 BK164.out 8; have hfz4_9 := Q14 BK164.out 9; have hfz4_10 := Q14 BK164.out 10))
    go_ret
    exact ⟨by first | rfl | (simp [Q31, Q28] <;> rfl) | (simp [*, Q31, Q28] <;> rfl), by repeat (first | (with_reducible first | exact HB.out | apply Q17 | apply Q11 | apply Q16 | refine Q22 ?_ GE164.out) | exact HB.out)⟩
  · rw [if_neg c2] at H
    have c2b0 : (a0_0 == 1) = false := beq_eq_false_iff_ne.mpr c2
    have c2b1 : (a0_0 != 1) = true := bne_iff_ne.mpr c2
    by_cases c5 : a0_0 = 16
    · rw [if_pos c5] at H
      have c5b0 : (a0_0 == 16) = true := beq_iff_eq.mpr c5
      have c5b1 : (a0_0 != 16) = false := bne_eq_false_iff_eq.mpr c5
      clear c5
      by_cases c6 : 1 + a0_3.size ≤ 9223372036854775807
      · rw [if_pos c6] at H
        have c6b0 := eq_true c6
        have c6b1 : decide (1 + a0_3.size ≤ 9223372036854775807) = true := decide_eq_true c6
        try have c6b2 : (9223372036854775807 < 1 + a0_3.size) = False := eq_false (Nat.not_lt.2 c6)
        obtain rfl := Option.some.inj H
        go_enter Tryd.func20, Tryd.ntmps20
        go_wp2_with (first | ((with_reducible refine gate_dst (N := 1) rfl ?_); refine box_event ?hg (N := 1) ?hd (cs := #[.int .i64 a0_0, .int .i64 a0_1, .int .i64 a0_2, .string a0_3, .bool a0_4, .int .u64 a0_5, .int .u64 a0_6, .int .u64 a0_7, .int .u64 a0_8, .int .i64 a0_9, .int .i64 a0_10]) (t := 26) ?hr ?_; (case hd => rfl); (case hg => rfl); (case hr => first | (go_simp; done) | (go_simp; rfl)); intro gb164 hg w7 hbox hb; have n0_ := Aside0.mk (Q25 (by repeat (first | (with_reducible first | exact HB.out | apply Q17 | apply Q11 | apply Q16) | exact HB.out)) hb); have n1_ := Aside0.mk (hbox); have n2_ := Aside0.mk ((by rw [hg]; exact (Q27 (by repeat (first | (with_reducible first | exact HB.out | apply Q17 | apply Q11 | apply Q16) | exact HB.out))) : w.heap.size ≤ gb164)); have n3_ := Aside0.mk ((by rw [hg]; exact (Q27 (by repeat (first | (with_reducible first | exact HB.out | apply Q17 | apply Q11 | apply Q16) | exact HB.out))) : w.heap.size ≤ gb164)); clear HB; have HB := n0_; have BK164 := n1_; have GW164 := n2_; have GE164 := n3_; clear n0_ n1_ n2_ n3_; clear hb hbox hg; have hcz8_0 : w7.cell? ⟨gb164, 0, none⟩ = some (.int .i64 a0_0) := (Q19 BK164.out 0).trans rfl; have hcz8_1 : w7.cell? ⟨gb164, 1, none⟩ = some (.int .i64 a0_1) := (Q19 BK164.out 1).trans rfl; have hcz8_2 : w7.cell? ⟨gb164, 2, none⟩ = some (.int .i64 a0_2) := (Q19 BK164.out 2).trans rfl; have hcz8_3 : w7.cell? ⟨gb164, 3, none⟩ = some (.string a0_3) := (Q19 BK164.out 3).trans rfl; have hcz8_4 : w7.cell? ⟨gb164, 4, none⟩ = some (.bool a0_4) := (Q19 BK164.out 4).trans rfl; have hcz8_5 : w7.cell? ⟨gb164, 5, none⟩ = some (.int .u64 a0_5) := (Q19 BK164.out 5).trans rfl; have hcz8_6 : w7.cell? ⟨gb164, 6, none⟩ = some (.int .u64 a0_6) := (Q19 BK164.out 6).trans rfl; have hcz8_7 : w7.cell? ⟨gb164, 7, none⟩ = some (.int .u64 a0_7) := (Q19 BK164.out 7).trans rfl; have hcz8_8 : w7.cell? ⟨gb164, 8, none⟩ = some (.int .u64 a0_8) := (Q19 BK164.out 8).trans rfl; have hcz8_9 : w7.cell? ⟨gb164, 9, none⟩ = some (.int .i64 a0_9) := (Q19 BK164.out 9).trans rfl; have hcz8_10 : w7.cell? ⟨gb164, 10, none⟩ = some (.int .i64 a0_10) := (Q19 BK164.out 10).trans rfl; have hfz8_0 := Q14 BK164.out 0; have hfz8_1 := Q14 BK164.out 1; have hfz8_2 := Q14 BK164.out 2; have hfz8_3 := Q14 BK164.out 3; have hfz8_4 := Q14 BK164.out 4; have hfz8_5 := Q14 BK164.out 5; have hfz8_6 := Q14 BK164.out 6; have hfz8_7 := Q14 BK164.out 7; have hfz8_8 := Q14 BK164.out 8; have hfz8_9 := Q14 BK164.out 9; have hfz8_10 := Q14 BK164.out 10))
        go_ret
        exact ⟨by first | rfl | (simp [Q31, Q28] <;> rfl) | (simp [*, Q31, Q28] <;> rfl), by repeat (first | (with_reducible first | exact HB.out | apply Q17 | apply Q11 | apply Q16 | refine Q22 ?_ GE164.out) | exact HB.out)⟩
      · rw [if_neg c6] at H
        exact absurd H (by simp)
    · rw [if_neg c5] at H
      have c5b0 : (a0_0 == 16) = false := beq_eq_false_iff_ne.mpr c5
      have c5b1 : (a0_0 != 16) = true := bne_iff_ne.mpr c5
      by_cases c9 : a0_0 = 17
      · rw [if_pos c9] at H
        have c9b0 : (a0_0 == 17) = true := beq_iff_eq.mpr c9
        have c9b1 : (a0_0 != 17) = false := bne_eq_false_iff_eq.mpr c9
        clear c9
        by_cases c10 : 1 + a0_3.size ≤ 9223372036854775807
        · rw [if_pos c10] at H
          have c10b0 := eq_true c10
          have c10b1 : decide (1 + a0_3.size ≤ 9223372036854775807) = true := decide_eq_true c10
          try have c10b2 : (9223372036854775807 < 1 + a0_3.size) = False := eq_false (Nat.not_lt.2 c10)
          obtain rfl := Option.some.inj H
          go_enter Tryd.func20, Tryd.ntmps20
          go_wp2_with (first | ((with_reducible refine gate_dst (N := 1) rfl ?_); refine box_event ?hg (N := 1) ?hd (cs := #[.int .i64 a0_0, .int .i64 a0_1, .int .i64 a0_2, .string a0_3, .bool a0_4, .int .u64 a0_5, .int .u64 a0_6, .int .u64 a0_7, .int .u64 a0_8, .int .i64 a0_9, .int .i64 a0_10]) (t := 26) ?hr ?_; (case hd => rfl); (case hg => rfl); (case hr => first | (go_simp; done) | (go_simp; rfl)); intro gb164 hg w11 hbox hb; have n0_ := Aside0.mk (Q25 (by repeat (first | (with_reducible first | exact HB.out | apply Q17 | apply Q11 | apply Q16) | exact HB.out)) hb); have n1_ := Aside0.mk (hbox); have n2_ := Aside0.mk ((by rw [hg]; exact (Q27 (by repeat (first | (with_reducible first | exact HB.out | apply Q17 | apply Q11 | apply Q16) | exact HB.out))) : w.heap.size ≤ gb164)); have n3_ := Aside0.mk ((by rw [hg]; exact (Q27 (by repeat (first | (with_reducible first | exact HB.out | apply Q17 | apply Q11 | apply Q16) | exact HB.out))) : w.heap.size ≤ gb164)); clear HB; have HB := n0_; have BK164 := n1_; have GW164 := n2_; have GE164 := n3_; clear n0_ n1_ n2_ n3_; clear hb hbox hg; have hcz12_0 : w11.cell? ⟨gb164, 0, none⟩ = some (.int .i64 a0_0) := (Q19 BK164.out 0).trans rfl; have hcz12_1 : w11.cell? ⟨gb164, 1, none⟩ = some (.int .i64 a0_1) := (Q19 BK164.out 1).trans rfl; have hcz12_2 : w11.cell? ⟨gb164, 2, none⟩ = some (.int .i64 a0_2) := (Q19 BK164.out 2).trans rfl; have hcz12_3 : w11.cell? ⟨gb164, 3, none⟩ = some (.string a0_3) := (Q19 BK164.out 3).trans rfl; have hcz12_4 : w11.cell? ⟨gb164, 4, none⟩ = some (.bool a0_4) := (Q19 BK164.out 4).trans rfl; have hcz12_5 : w11.cell? ⟨gb164, 5, none⟩ = some (.int .u64 a0_5) := (Q19 BK164.out 5).trans rfl; have hcz12_6 : w11.cell? ⟨gb164, 6, none⟩ = some (.int .u64 a0_6) := (Q19 BK164.out 6).trans rfl; have hcz12_7 : w11.cell? ⟨gb164, 7, none⟩ = some (.int .u64 a0_7) := (Q19 BK164.out 7).trans rfl; have hcz12_8 : w11.cell? ⟨gb164, 8, none⟩ = some (.int .u64 a0_8) := (Q19 BK164.out 8).trans rfl; have hcz12_9 : w11.cell? ⟨gb164, 9, none⟩ = some (.int .i64 a0_9) := (Q19 BK164.out 9).trans rfl; have hcz12_10 : w11.cell? ⟨gb164, 10, none⟩ = some (.int .i64 a0_10) := (Q19 BK164.out 10).trans rfl; have hfz12_0 := Q14 BK164.out 0; have hfz12_1 := Q14 BK164.out 1; have hfz12_2 := Q14 BK164.out 2; have hfz12_3 := Q14 BK164.out 3; have hfz12_4 := Q14 BK164.out 4; have hfz12_5 := Q14 BK164.out 5; have hfz12_6 := Q14 BK164.out 6; have hfz12_7 := Q14 BK164.out 7; have hfz12_8 := Q14 BK164.out 8; have hfz12_9 := Q14 BK164.out 9; have hfz12_10 := Q14 BK164.out 10))
          go_ret
          exact ⟨by first | rfl | (simp [Q31, Q28] <;> rfl) | (simp [*, Q31, Q28] <;> rfl), by repeat (first | (with_reducible first | exact HB.out | apply Q17 | apply Q11 | apply Q16 | refine Q22 ?_ GE164.out) | exact HB.out)⟩
        · rw [if_neg c10] at H
          exact absurd H (by simp)
      · rw [if_neg c9] at H
        have c9b0 : (a0_0 == 17) = false := beq_eq_false_iff_ne.mpr c9
        have c9b1 : (a0_0 != 17) = true := bne_iff_ne.mpr c9
        by_cases c13 : a0_0 = 9
        · rw [if_pos c13] at H
          have c13b0 : (a0_0 == 9) = true := beq_iff_eq.mpr c13
          have c13b1 : (a0_0 != 9) = false := bne_eq_false_iff_eq.mpr c13
          clear c13
          replace H := Option.bind_eq_some_iff.mp H
          obtain ⟨t165, A140, H⟩ := H
          replace H : (if 1 + t165.size ≤ 9223372036854775807 then (if a0_10 = (-1) then (if ((⟨#[123]⟩ : ByteArray) ++ t165).size + 1 ≤ 9223372036854775807 then (if (((⟨#[123]⟩ : ByteArray) ++ t165) ++ (⟨#[44]⟩ : ByteArray)).size + 1 ≤ 9223372036854775807 then (some ((((⟨#[123]⟩ : ByteArray) ++ t165) ++ (⟨#[44]⟩ : ByteArray)) ++ (⟨#[125]⟩ : ByteArray))) else (none)) else (none)) else (if a0_10 > a0_9 then ((strconv_Itoa.f a0_10).bind fun t166 => (if 1 + t166.size ≤ 9223372036854775807 then (if ((⟨#[123]⟩ : ByteArray) ++ t165).size + ((⟨#[44]⟩ : ByteArray) ++ t166).size ≤ 9223372036854775807 then (if (((⟨#[123]⟩ : ByteArray) ++ t165) ++ ((⟨#[44]⟩ : ByteArray) ++ t166)).size + 1 ≤ 9223372036854775807 then (some ((((⟨#[123]⟩ : ByteArray) ++ t165) ++ ((⟨#[44]⟩ : ByteArray) ++ t166)) ++ (⟨#[125]⟩ : ByteArray))) else (none)) else (none)) else (none))) else (if ((⟨#[123]⟩ : ByteArray) ++ t165).size + 1 ≤ 9223372036854775807 then (some (((⟨#[123]⟩ : ByteArray) ++ t165) ++ (⟨#[125]⟩ : ByteArray))) else (none)))) else (none)) = some r := H
          have A14 := Aside0.mk A140
          clear A140
          by_cases c15 : 1 + t165.size ≤ 9223372036854775807
          · rw [if_pos c15] at H
            have c15b0 := eq_true c15
            have c15b1 : decide (1 + t165.size ≤ 9223372036854775807) = true := decide_eq_true c15
            try have c15b2 : (9223372036854775807 < 1 + t165.size) = False := eq_false (Nat.not_lt.2 c15)
            by_cases c16 : a0_10 = (-1)
            · rw [if_pos c16] at H
              have c16b0 : (a0_10 == (-1)) = true := beq_iff_eq.mpr c16
              have c16b1 : (a0_10 != (-1)) = false := bne_eq_false_iff_eq.mpr c16
              clear c16
              by_cases c17 : ((⟨#[123]⟩ : ByteArray) ++ t165).size + 1 ≤ 9223372036854775807
              · rw [if_pos c17] at H
                have c17b0 := eq_true c17
                have c17b1 : decide (((⟨#[123]⟩ : ByteArray) ++ t165).size + 1 ≤ 9223372036854775807) = true := decide_eq_true c17
                have c17z : (9223372036854775807 < 1 + t165.size + 1) = False := eq_false (by have h_ := c17; simp only [ByteArray.size_append] at h_; have : (⟨#[123]⟩ : ByteArray).size = 1 := rfl; omega)
                try have c17b2 : (9223372036854775807 < ((⟨#[123]⟩ : ByteArray) ++ t165).size + 1) = False := eq_false (Nat.not_lt.2 c17)
                by_cases c18 : (((⟨#[123]⟩ : ByteArray) ++ t165) ++ (⟨#[44]⟩ : ByteArray)).size + 1 ≤ 9223372036854775807
                · rw [if_pos c18] at H
                  have c18b0 := eq_true c18
                  have c18b1 : decide ((((⟨#[123]⟩ : ByteArray) ++ t165) ++ (⟨#[44]⟩ : ByteArray)).size + 1 ≤ 9223372036854775807) = true := decide_eq_true c18
                  have c18z : (9223372036854775807 < 1 + t165.size + 1 + 1) = False := eq_false (by have h_ := c18; simp only [ByteArray.size_append] at h_; have : (⟨#[123]⟩ : ByteArray).size = 1 := rfl; have : (⟨#[44]⟩ : ByteArray).size = 1 := rfl; omega)
                  try have c18b2 : (9223372036854775807 < (((⟨#[123]⟩ : ByteArray) ++ t165) ++ (⟨#[44]⟩ : ByteArray)).size + 1) = False := eq_false (Nat.not_lt.2 c18)
                  obtain rfl := Option.some.inj H
                  go_enter Tryd.func20, Tryd.ntmps20
                  go_wp2_with (first | ((with_reducible refine gate_dst (N := 1) rfl ?_); refine box_event ?hg (N := 1) ?hd (cs := #[.int .i64 a0_0, .int .i64 a0_1, .int .i64 a0_2, .string a0_3, .bool a0_4, .int .u64 a0_5, .int .u64 a0_6, .int .u64 a0_7, .int .u64 a0_8, .int .i64 a0_9, .int .i64 a0_10]) (t := 26) ?hr ?_; (case hd => rfl); (case hg => rfl); (case hr => first | (go_simp; done) | (go_simp; rfl)); intro gb164 hg w19 hbox hb; have n0_ := Aside0.mk (Q25 (by repeat (first | (with_reducible first | exact HB.out | apply Q17 | apply Q11 | apply Q16) | exact HB.out)) hb); have n1_ := Aside0.mk (hbox); have n2_ := Aside0.mk ((by rw [hg]; exact (Q27 (by repeat (first | (with_reducible first | exact HB.out | apply Q17 | apply Q11 | apply Q16) | exact HB.out))) : w.heap.size ≤ gb164)); have n3_ := Aside0.mk ((by rw [hg]; exact (Q27 (by repeat (first | (with_reducible first | exact HB.out | apply Q17 | apply Q11 | apply Q16) | exact HB.out))) : w.heap.size ≤ gb164)); clear HB; have HB := n0_; have BK164 := n1_; have GW164 := n2_; have GE164 := n3_; clear n0_ n1_ n2_ n3_; clear hb hbox hg; have hcz20_0 : w19.cell? ⟨gb164, 0, none⟩ = some (.int .i64 a0_0) := (Q19 BK164.out 0).trans rfl; have hcz20_1 : w19.cell? ⟨gb164, 1, none⟩ = some (.int .i64 a0_1) := (Q19 BK164.out 1).trans rfl; have hcz20_2 : w19.cell? ⟨gb164, 2, none⟩ = some (.int .i64 a0_2) := (Q19 BK164.out 2).trans rfl; have hcz20_3 : w19.cell? ⟨gb164, 3, none⟩ = some (.string a0_3) := (Q19 BK164.out 3).trans rfl; have hcz20_4 : w19.cell? ⟨gb164, 4, none⟩ = some (.bool a0_4) := (Q19 BK164.out 4).trans rfl; have hcz20_5 : w19.cell? ⟨gb164, 5, none⟩ = some (.int .u64 a0_5) := (Q19 BK164.out 5).trans rfl; have hcz20_6 : w19.cell? ⟨gb164, 6, none⟩ = some (.int .u64 a0_6) := (Q19 BK164.out 6).trans rfl; have hcz20_7 : w19.cell? ⟨gb164, 7, none⟩ = some (.int .u64 a0_7) := (Q19 BK164.out 7).trans rfl; have hcz20_8 : w19.cell? ⟨gb164, 8, none⟩ = some (.int .u64 a0_8) := (Q19 BK164.out 8).trans rfl; have hcz20_9 : w19.cell? ⟨gb164, 9, none⟩ = some (.int .i64 a0_9) := (Q19 BK164.out 9).trans rfl; have hcz20_10 : w19.cell? ⟨gb164, 10, none⟩ = some (.int .i64 a0_10) := (Q19 BK164.out 10).trans rfl; have hfz20_0 := Q14 BK164.out 0; have hfz20_1 := Q14 BK164.out 1; have hfz20_2 := Q14 BK164.out 2; have hfz20_3 := Q14 BK164.out 3; have hfz20_4 := Q14 BK164.out 4; have hfz20_5 := Q14 BK164.out 5; have hfz20_6 := Q14 BK164.out 6; have hfz20_7 := Q14 BK164.out 7; have hfz20_8 := Q14 BK164.out 8; have hfz20_9 := Q14 BK164.out 9; have hfz20_10 := Q14 BK164.out 10) | ((with_reducible refine Q34 (f := 35) rfl ?_); refine goesL_ (some 24) rfl rfl Tryd.func35 (by kernel_rfl) rfl #[.int .i64 a0_9] rfl (by (try simp only [List.map_toArray, List.map_cons, List.map_nil]); first | done | rfl | (simp only [List.length_drop, List.length_take]; rfl)) ?_; (with_reducible refine (strconv_Itoa.calls a0_9 t165 _ A14.out ?tab).mono ?_); (case tab => exact tab_below HT.out (by repeat (first | (with_reducible first | exact HB.out | apply Q17 | apply Q11 | apply Q16) | exact HB.out))); rintro e w21 ⟨rfl, hb⟩; refine ⟨_, rfl, ?_⟩; have n0_ := Aside0.mk (Q35 (g := gb164) (o := .cells #[.int .i64 a0_0, .int .i64 a0_1, .int .i64 a0_2, .string a0_3, .bool a0_4, .int .u64 a0_5, .int .u64 a0_6, .int .u64 a0_7, .int .u64 a0_8, .int .i64 a0_9, .int .i64 a0_10] 26 (0, 0)) (by (with_reducible repeat (first | refine Q23 ?_ _ | refine Q26 ?_ | refine Q24 ?_ _)); exact BK164.out) hb); have n1_ := Aside0.mk (Q25 (by repeat (first | (with_reducible first | exact HB.out | apply Q17 | apply Q11 | apply Q16 | refine Q22 ?_ GE164.out) | exact HB.out)) hb); clear BK164; clear HB; have BK164 := n0_; have HB := n1_; clear n0_ n1_; (try clear hb); (try clear hb2); (try clear hk); (try clear hi); have hcz22_0 : w21.cell? ⟨gb164, 0, none⟩ = some (.int .i64 a0_0) := (Q19 BK164.out 0).trans rfl; have hcz22_1 : w21.cell? ⟨gb164, 1, none⟩ = some (.int .i64 a0_1) := (Q19 BK164.out 1).trans rfl; have hcz22_2 : w21.cell? ⟨gb164, 2, none⟩ = some (.int .i64 a0_2) := (Q19 BK164.out 2).trans rfl; have hcz22_3 : w21.cell? ⟨gb164, 3, none⟩ = some (.string a0_3) := (Q19 BK164.out 3).trans rfl; have hcz22_4 : w21.cell? ⟨gb164, 4, none⟩ = some (.bool a0_4) := (Q19 BK164.out 4).trans rfl; have hcz22_5 : w21.cell? ⟨gb164, 5, none⟩ = some (.int .u64 a0_5) := (Q19 BK164.out 5).trans rfl; have hcz22_6 : w21.cell? ⟨gb164, 6, none⟩ = some (.int .u64 a0_6) := (Q19 BK164.out 6).trans rfl; have hcz22_7 : w21.cell? ⟨gb164, 7, none⟩ = some (.int .u64 a0_7) := (Q19 BK164.out 7).trans rfl; have hcz22_8 : w21.cell? ⟨gb164, 8, none⟩ = some (.int .u64 a0_8) := (Q19 BK164.out 8).trans rfl; have hcz22_9 : w21.cell? ⟨gb164, 9, none⟩ = some (.int .i64 a0_9) := (Q19 BK164.out 9).trans rfl; have hcz22_10 : w21.cell? ⟨gb164, 10, none⟩ = some (.int .i64 a0_10) := (Q19 BK164.out 10).trans rfl; have hfz22_0 := Q14 BK164.out 0; have hfz22_1 := Q14 BK164.out 1; have hfz22_2 := Q14 BK164.out 2; have hfz22_3 := Q14 BK164.out 3; have hfz22_4 := Q14 BK164.out 4; have hfz22_5 := Q14 BK164.out 5; have hfz22_6 := Q14 BK164.out 6; have hfz22_7 := Q14 BK164.out 7; have hfz22_8 := Q14 BK164.out 8; have hfz22_9 := Q14 BK164.out 9; have hfz22_10 := Q14 BK164.out 10))
                  go_ret
                  exact ⟨by first | rfl | (simp [Q31, Q28] <;> rfl) | (simp [*, Q31, Q28] <;> rfl), by repeat (first | (with_reducible first | exact HB.out | apply Q17 | apply Q11 | apply Q16 | refine Q22 ?_ GE164.out) | exact HB.out)⟩
                · rw [if_neg c18] at H
                  exact absurd H (by simp)
              · rw [if_neg c17] at H
                exact absurd H (by simp)
            · rw [if_neg c16] at H
              have c16b0 : (a0_10 == (-1)) = false := beq_eq_false_iff_ne.mpr c16
              have c16b1 : (a0_10 != (-1)) = true := bne_iff_ne.mpr c16
              by_cases c23 : a0_10 > a0_9
              · rw [if_pos c23] at H
                have c23b0 : decide (a0_9 < a0_10) = true := decide_eq_true c23
                clear c23
                replace H := Option.bind_eq_some_iff.mp H
                obtain ⟨t166, A240, H⟩ := H
                replace H : (if 1 + t166.size ≤ 9223372036854775807 then (if ((⟨#[123]⟩ : ByteArray) ++ t165).size + ((⟨#[44]⟩ : ByteArray) ++ t166).size ≤ 9223372036854775807 then (if (((⟨#[123]⟩ : ByteArray) ++ t165) ++ ((⟨#[44]⟩ : ByteArray) ++ t166)).size + 1 ≤ 9223372036854775807 then (some ((((⟨#[123]⟩ : ByteArray) ++ t165) ++ ((⟨#[44]⟩ : ByteArray) ++ t166)) ++ (⟨#[125]⟩ : ByteArray))) else (none)) else (none)) else (none)) = some r := H
                have A24 := Aside0.mk A240
                clear A240
                by_cases c25 : 1 + t166.size ≤ 9223372036854775807
                · rw [if_pos c25] at H
                  have c25b0 := eq_true c25
                  have c25b1 : decide (1 + t166.size ≤ 9223372036854775807) = true := decide_eq_true c25
                  try have c25b2 : (9223372036854775807 < 1 + t166.size) = False := eq_false (Nat.not_lt.2 c25)
                  by_cases c26 : ((⟨#[123]⟩ : ByteArray) ++ t165).size + ((⟨#[44]⟩ : ByteArray) ++ t166).size ≤ 9223372036854775807
                  · rw [if_pos c26] at H
                    have c26b0 := eq_true c26
                    have c26b1 : decide (((⟨#[123]⟩ : ByteArray) ++ t165).size + ((⟨#[44]⟩ : ByteArray) ++ t166).size ≤ 9223372036854775807) = true := decide_eq_true c26
                    have c26z : (9223372036854775807 < 1 + t165.size + (1 + t166.size)) = False := eq_false (by have h_ := c26; simp only [ByteArray.size_append] at h_; have : (⟨#[123]⟩ : ByteArray).size = 1 := rfl; have : (⟨#[44]⟩ : ByteArray).size = 1 := rfl; have : (⟨#[125]⟩ : ByteArray).size = 1 := rfl; omega)
                    try have c26b2 : (9223372036854775807 < ((⟨#[123]⟩ : ByteArray) ++ t165).size + ((⟨#[44]⟩ : ByteArray) ++ t166).size) = False := eq_false (Nat.not_lt.2 c26)
                    by_cases c27 : (((⟨#[123]⟩ : ByteArray) ++ t165) ++ ((⟨#[44]⟩ : ByteArray) ++ t166)).size + 1 ≤ 9223372036854775807
                    · rw [if_pos c27] at H
                      have c27b0 := eq_true c27
                      have c27b1 : decide ((((⟨#[123]⟩ : ByteArray) ++ t165) ++ ((⟨#[44]⟩ : ByteArray) ++ t166)).size + 1 ≤ 9223372036854775807) = true := decide_eq_true c27
                      have c27z : (9223372036854775807 < 1 + t165.size + (1 + t166.size) + 1) = False := eq_false (by have h_ := c27; simp only [ByteArray.size_append] at h_; have : (⟨#[123]⟩ : ByteArray).size = 1 := rfl; have : (⟨#[44]⟩ : ByteArray).size = 1 := rfl; have : (⟨#[125]⟩ : ByteArray).size = 1 := rfl; omega)
                      try have c27b2 : (9223372036854775807 < (((⟨#[123]⟩ : ByteArray) ++ t165) ++ ((⟨#[44]⟩ : ByteArray) ++ t166)).size + 1) = False := eq_false (Nat.not_lt.2 c27)
                      obtain rfl := Option.some.inj H
                      go_enter Tryd.func20, Tryd.ntmps20
                      go_wp2_with (first | ((with_reducible refine gate_dst (N := 1) rfl ?_); refine box_event ?hg (N := 1) ?hd (cs := #[.int .i64 a0_0, .int .i64 a0_1, .int .i64 a0_2, .string a0_3, .bool a0_4, .int .u64 a0_5, .int .u64 a0_6, .int .u64 a0_7, .int .u64 a0_8, .int .i64 a0_9, .int .i64 a0_10]) (t := 26) ?hr ?_; (case hd => rfl); (case hg => rfl); (case hr => first | (go_simp; done) | (go_simp; rfl)); intro gb164 hg w28 hbox hb; have n0_ := Aside0.mk (Q25 (by repeat (first | (with_reducible first | exact HB.out | apply Q17 | apply Q11 | apply Q16) | exact HB.out)) hb); have n1_ := Aside0.mk (hbox); have n2_ := Aside0.mk ((by rw [hg]; exact (Q27 (by repeat (first | (with_reducible first | exact HB.out | apply Q17 | apply Q11 | apply Q16) | exact HB.out))) : w.heap.size ≤ gb164)); have n3_ := Aside0.mk ((by rw [hg]; exact (Q27 (by repeat (first | (with_reducible first | exact HB.out | apply Q17 | apply Q11 | apply Q16) | exact HB.out))) : w.heap.size ≤ gb164)); clear HB; have HB := n0_; have BK164 := n1_; have GW164 := n2_; have GE164 := n3_; clear n0_ n1_ n2_ n3_; clear hb hbox hg; have hcz29_0 : w28.cell? ⟨gb164, 0, none⟩ = some (.int .i64 a0_0) := (Q19 BK164.out 0).trans rfl; have hcz29_1 : w28.cell? ⟨gb164, 1, none⟩ = some (.int .i64 a0_1) := (Q19 BK164.out 1).trans rfl; have hcz29_2 : w28.cell? ⟨gb164, 2, none⟩ = some (.int .i64 a0_2) := (Q19 BK164.out 2).trans rfl; have hcz29_3 : w28.cell? ⟨gb164, 3, none⟩ = some (.string a0_3) := (Q19 BK164.out 3).trans rfl; have hcz29_4 : w28.cell? ⟨gb164, 4, none⟩ = some (.bool a0_4) := (Q19 BK164.out 4).trans rfl; have hcz29_5 : w28.cell? ⟨gb164, 5, none⟩ = some (.int .u64 a0_5) := (Q19 BK164.out 5).trans rfl; have hcz29_6 : w28.cell? ⟨gb164, 6, none⟩ = some (.int .u64 a0_6) := (Q19 BK164.out 6).trans rfl; have hcz29_7 : w28.cell? ⟨gb164, 7, none⟩ = some (.int .u64 a0_7) := (Q19 BK164.out 7).trans rfl; have hcz29_8 : w28.cell? ⟨gb164, 8, none⟩ = some (.int .u64 a0_8) := (Q19 BK164.out 8).trans rfl; have hcz29_9 : w28.cell? ⟨gb164, 9, none⟩ = some (.int .i64 a0_9) := (Q19 BK164.out 9).trans rfl; have hcz29_10 : w28.cell? ⟨gb164, 10, none⟩ = some (.int .i64 a0_10) := (Q19 BK164.out 10).trans rfl; have hfz29_0 := Q14 BK164.out 0; have hfz29_1 := Q14 BK164.out 1; have hfz29_2 := Q14 BK164.out 2; have hfz29_3 := Q14 BK164.out 3; have hfz29_4 := Q14 BK164.out 4; have hfz29_5 := Q14 BK164.out 5; have hfz29_6 := Q14 BK164.out 6; have hfz29_7 := Q14 BK164.out 7; have hfz29_8 := Q14 BK164.out 8; have hfz29_9 := Q14 BK164.out 9; have hfz29_10 := Q14 BK164.out 10) | ((with_reducible refine Q34 (f := 35) rfl ?_); refine goesL_ (some 24) rfl rfl Tryd.func35 (by kernel_rfl) rfl #[.int .i64 a0_9] rfl (by (try simp only [List.map_toArray, List.map_cons, List.map_nil]); first | done | rfl | (simp only [List.length_drop, List.length_take]; rfl)) ?_; (with_reducible refine (strconv_Itoa.calls a0_9 t165 _ A14.out ?tab).mono ?_); (case tab => exact tab_below HT.out (by repeat (first | (with_reducible first | exact HB.out | apply Q17 | apply Q11 | apply Q16) | exact HB.out))); rintro e w30 ⟨rfl, hb⟩; refine ⟨_, rfl, ?_⟩; have n0_ := Aside0.mk (Q35 (g := gb164) (o := .cells #[.int .i64 a0_0, .int .i64 a0_1, .int .i64 a0_2, .string a0_3, .bool a0_4, .int .u64 a0_5, .int .u64 a0_6, .int .u64 a0_7, .int .u64 a0_8, .int .i64 a0_9, .int .i64 a0_10] 26 (0, 0)) (by (with_reducible repeat (first | refine Q23 ?_ _ | refine Q26 ?_ | refine Q24 ?_ _)); exact BK164.out) hb); have n1_ := Aside0.mk (Q25 (by repeat (first | (with_reducible first | exact HB.out | apply Q17 | apply Q11 | apply Q16 | refine Q22 ?_ GE164.out) | exact HB.out)) hb); clear BK164; clear HB; have BK164 := n0_; have HB := n1_; clear n0_ n1_; (try clear hb); (try clear hb2); (try clear hk); (try clear hi); have hcz31_0 : w30.cell? ⟨gb164, 0, none⟩ = some (.int .i64 a0_0) := (Q19 BK164.out 0).trans rfl; have hcz31_1 : w30.cell? ⟨gb164, 1, none⟩ = some (.int .i64 a0_1) := (Q19 BK164.out 1).trans rfl; have hcz31_2 : w30.cell? ⟨gb164, 2, none⟩ = some (.int .i64 a0_2) := (Q19 BK164.out 2).trans rfl; have hcz31_3 : w30.cell? ⟨gb164, 3, none⟩ = some (.string a0_3) := (Q19 BK164.out 3).trans rfl; have hcz31_4 : w30.cell? ⟨gb164, 4, none⟩ = some (.bool a0_4) := (Q19 BK164.out 4).trans rfl; have hcz31_5 : w30.cell? ⟨gb164, 5, none⟩ = some (.int .u64 a0_5) := (Q19 BK164.out 5).trans rfl; have hcz31_6 : w30.cell? ⟨gb164, 6, none⟩ = some (.int .u64 a0_6) := (Q19 BK164.out 6).trans rfl; have hcz31_7 : w30.cell? ⟨gb164, 7, none⟩ = some (.int .u64 a0_7) := (Q19 BK164.out 7).trans rfl; have hcz31_8 : w30.cell? ⟨gb164, 8, none⟩ = some (.int .u64 a0_8) := (Q19 BK164.out 8).trans rfl; have hcz31_9 : w30.cell? ⟨gb164, 9, none⟩ = some (.int .i64 a0_9) := (Q19 BK164.out 9).trans rfl; have hcz31_10 : w30.cell? ⟨gb164, 10, none⟩ = some (.int .i64 a0_10) := (Q19 BK164.out 10).trans rfl; have hfz31_0 := Q14 BK164.out 0; have hfz31_1 := Q14 BK164.out 1; have hfz31_2 := Q14 BK164.out 2; have hfz31_3 := Q14 BK164.out 3; have hfz31_4 := Q14 BK164.out 4; have hfz31_5 := Q14 BK164.out 5; have hfz31_6 := Q14 BK164.out 6; have hfz31_7 := Q14 BK164.out 7; have hfz31_8 := Q14 BK164.out 8; have hfz31_9 := Q14 BK164.out 9; have hfz31_10 := Q14 BK164.out 10) | ((with_reducible refine Q34 (f := 35) rfl ?_); refine goesL_ (some 39) rfl rfl Tryd.func35 (by kernel_rfl) rfl #[.int .i64 a0_10] rfl (by (try simp only [List.map_toArray, List.map_cons, List.map_nil]); first | done | rfl | (simp only [List.length_drop, List.length_take]; rfl)) ?_; (with_reducible refine (strconv_Itoa.calls a0_10 t166 _ A24.out ?tab).mono ?_); (case tab => exact tab_below HT.out (by repeat (first | (with_reducible first | exact HB.out | apply Q17 | apply Q11 | apply Q16) | exact HB.out))); rintro e w32 ⟨rfl, hb⟩; refine ⟨_, rfl, ?_⟩; have n0_ := Aside0.mk (Q35 (g := gb164) (o := .cells #[.int .i64 a0_0, .int .i64 a0_1, .int .i64 a0_2, .string a0_3, .bool a0_4, .int .u64 a0_5, .int .u64 a0_6, .int .u64 a0_7, .int .u64 a0_8, .int .i64 a0_9, .int .i64 a0_10] 26 (0, 0)) (by (with_reducible repeat (first | refine Q23 ?_ _ | refine Q26 ?_ | refine Q24 ?_ _)); exact BK164.out) hb); have n1_ := Aside0.mk (Q25 (by repeat (first | (with_reducible first | exact HB.out | apply Q17 | apply Q11 | apply Q16 | refine Q22 ?_ GE164.out) | exact HB.out)) hb); clear BK164; clear HB; have BK164 := n0_; have HB := n1_; clear n0_ n1_; (try clear hb); (try clear hb2); (try clear hk); (try clear hi)))
                      go_ret
                      exact ⟨by first | rfl | (simp [Q31, Q28] <;> rfl) | (simp [*, Q31, Q28] <;> rfl), by repeat (first | (with_reducible first | exact HB.out | apply Q17 | apply Q11 | apply Q16 | refine Q22 ?_ GE164.out) | exact HB.out)⟩
                    · rw [if_neg c27] at H
                      exact absurd H (by simp)
                  · rw [if_neg c26] at H
                    exact absurd H (by simp)
                · rw [if_neg c25] at H
                  exact absurd H (by simp)
              · rw [if_neg c23] at H
                have c23b0 : decide (a0_9 < a0_10) = false := decide_eq_false c23
                clear c23
                by_cases c33 : ((⟨#[123]⟩ : ByteArray) ++ t165).size + 1 ≤ 9223372036854775807
                · rw [if_pos c33] at H
                  have c33b0 := eq_true c33
                  have c33b1 : decide (((⟨#[123]⟩ : ByteArray) ++ t165).size + 1 ≤ 9223372036854775807) = true := decide_eq_true c33
                  have c33z : (9223372036854775807 < 1 + t165.size + 1) = False := eq_false (by have h_ := c33; simp only [ByteArray.size_append] at h_; have : (⟨#[123]⟩ : ByteArray).size = 1 := rfl; omega)
                  try have c33b2 : (9223372036854775807 < ((⟨#[123]⟩ : ByteArray) ++ t165).size + 1) = False := eq_false (Nat.not_lt.2 c33)
                  obtain rfl := Option.some.inj H
                  go_enter Tryd.func20, Tryd.ntmps20
                  go_wp2_with (first | ((with_reducible refine gate_dst (N := 1) rfl ?_); refine box_event ?hg (N := 1) ?hd (cs := #[.int .i64 a0_0, .int .i64 a0_1, .int .i64 a0_2, .string a0_3, .bool a0_4, .int .u64 a0_5, .int .u64 a0_6, .int .u64 a0_7, .int .u64 a0_8, .int .i64 a0_9, .int .i64 a0_10]) (t := 26) ?hr ?_; (case hd => rfl); (case hg => rfl); (case hr => first | (go_simp; done) | (go_simp; rfl)); intro gb164 hg w34 hbox hb; have n0_ := Aside0.mk (Q25 (by repeat (first | (with_reducible first | exact HB.out | apply Q17 | apply Q11 | apply Q16) | exact HB.out)) hb); have n1_ := Aside0.mk (hbox); have n2_ := Aside0.mk ((by rw [hg]; exact (Q27 (by repeat (first | (with_reducible first | exact HB.out | apply Q17 | apply Q11 | apply Q16) | exact HB.out))) : w.heap.size ≤ gb164)); have n3_ := Aside0.mk ((by rw [hg]; exact (Q27 (by repeat (first | (with_reducible first | exact HB.out | apply Q17 | apply Q11 | apply Q16) | exact HB.out))) : w.heap.size ≤ gb164)); clear HB; have HB := n0_; have BK164 := n1_; have GW164 := n2_; have GE164 := n3_; clear n0_ n1_ n2_ n3_; clear hb hbox hg; have hcz35_0 : w34.cell? ⟨gb164, 0, none⟩ = some (.int .i64 a0_0) := (Q19 BK164.out 0).trans rfl; have hcz35_1 : w34.cell? ⟨gb164, 1, none⟩ = some (.int .i64 a0_1) := (Q19 BK164.out 1).trans rfl; have hcz35_2 : w34.cell? ⟨gb164, 2, none⟩ = some (.int .i64 a0_2) := (Q19 BK164.out 2).trans rfl; have hcz35_3 : w34.cell? ⟨gb164, 3, none⟩ = some (.string a0_3) := (Q19 BK164.out 3).trans rfl; have hcz35_4 : w34.cell? ⟨gb164, 4, none⟩ = some (.bool a0_4) := (Q19 BK164.out 4).trans rfl; have hcz35_5 : w34.cell? ⟨gb164, 5, none⟩ = some (.int .u64 a0_5) := (Q19 BK164.out 5).trans rfl; have hcz35_6 : w34.cell? ⟨gb164, 6, none⟩ = some (.int .u64 a0_6) := (Q19 BK164.out 6).trans rfl; have hcz35_7 : w34.cell? ⟨gb164, 7, none⟩ = some (.int .u64 a0_7) := (Q19 BK164.out 7).trans rfl; have hcz35_8 : w34.cell? ⟨gb164, 8, none⟩ = some (.int .u64 a0_8) := (Q19 BK164.out 8).trans rfl; have hcz35_9 : w34.cell? ⟨gb164, 9, none⟩ = some (.int .i64 a0_9) := (Q19 BK164.out 9).trans rfl; have hcz35_10 : w34.cell? ⟨gb164, 10, none⟩ = some (.int .i64 a0_10) := (Q19 BK164.out 10).trans rfl; have hfz35_0 := Q14 BK164.out 0; have hfz35_1 := Q14 BK164.out 1; have hfz35_2 := Q14 BK164.out 2; have hfz35_3 := Q14 BK164.out 3; have hfz35_4 := Q14 BK164.out 4; have hfz35_5 := Q14 BK164.out 5; have hfz35_6 := Q14 BK164.out 6; have hfz35_7 := Q14 BK164.out 7; have hfz35_8 := Q14 BK164.out 8; have hfz35_9 := Q14 BK164.out 9; have hfz35_10 := Q14 BK164.out 10) | ((with_reducible refine Q34 (f := 35) rfl ?_); refine goesL_ (some 24) rfl rfl Tryd.func35 (by kernel_rfl) rfl #[.int .i64 a0_9] rfl (by (try simp only [List.map_toArray, List.map_cons, List.map_nil]); first | done | rfl | (simp only [List.length_drop, List.length_take]; rfl)) ?_; (with_reducible refine (strconv_Itoa.calls a0_9 t165 _ A14.out ?tab).mono ?_); (case tab => exact tab_below HT.out (by repeat (first | (with_reducible first | exact HB.out | apply Q17 | apply Q11 | apply Q16) | exact HB.out))); rintro e w36 ⟨rfl, hb⟩; refine ⟨_, rfl, ?_⟩; have n0_ := Aside0.mk (Q35 (g := gb164) (o := .cells #[.int .i64 a0_0, .int .i64 a0_1, .int .i64 a0_2, .string a0_3, .bool a0_4, .int .u64 a0_5, .int .u64 a0_6, .int .u64 a0_7, .int .u64 a0_8, .int .i64 a0_9, .int .i64 a0_10] 26 (0, 0)) (by (with_reducible repeat (first | refine Q23 ?_ _ | refine Q26 ?_ | refine Q24 ?_ _)); exact BK164.out) hb); have n1_ := Aside0.mk (Q25 (by repeat (first | (with_reducible first | exact HB.out | apply Q17 | apply Q11 | apply Q16 | refine Q22 ?_ GE164.out) | exact HB.out)) hb); clear BK164; clear HB; have BK164 := n0_; have HB := n1_; clear n0_ n1_; (try clear hb); (try clear hb2); (try clear hk); (try clear hi); have hcz37_0 : w36.cell? ⟨gb164, 0, none⟩ = some (.int .i64 a0_0) := (Q19 BK164.out 0).trans rfl; have hcz37_1 : w36.cell? ⟨gb164, 1, none⟩ = some (.int .i64 a0_1) := (Q19 BK164.out 1).trans rfl; have hcz37_2 : w36.cell? ⟨gb164, 2, none⟩ = some (.int .i64 a0_2) := (Q19 BK164.out 2).trans rfl; have hcz37_3 : w36.cell? ⟨gb164, 3, none⟩ = some (.string a0_3) := (Q19 BK164.out 3).trans rfl; have hcz37_4 : w36.cell? ⟨gb164, 4, none⟩ = some (.bool a0_4) := (Q19 BK164.out 4).trans rfl; have hcz37_5 : w36.cell? ⟨gb164, 5, none⟩ = some (.int .u64 a0_5) := (Q19 BK164.out 5).trans rfl; have hcz37_6 : w36.cell? ⟨gb164, 6, none⟩ = some (.int .u64 a0_6) := (Q19 BK164.out 6).trans rfl; have hcz37_7 : w36.cell? ⟨gb164, 7, none⟩ = some (.int .u64 a0_7) := (Q19 BK164.out 7).trans rfl; have hcz37_8 : w36.cell? ⟨gb164, 8, none⟩ = some (.int .u64 a0_8) := (Q19 BK164.out 8).trans rfl; have hcz37_9 : w36.cell? ⟨gb164, 9, none⟩ = some (.int .i64 a0_9) := (Q19 BK164.out 9).trans rfl; have hcz37_10 : w36.cell? ⟨gb164, 10, none⟩ = some (.int .i64 a0_10) := (Q19 BK164.out 10).trans rfl; have hfz37_0 := Q14 BK164.out 0; have hfz37_1 := Q14 BK164.out 1; have hfz37_2 := Q14 BK164.out 2; have hfz37_3 := Q14 BK164.out 3; have hfz37_4 := Q14 BK164.out 4; have hfz37_5 := Q14 BK164.out 5; have hfz37_6 := Q14 BK164.out 6; have hfz37_7 := Q14 BK164.out 7; have hfz37_8 := Q14 BK164.out 8; have hfz37_9 := Q14 BK164.out 9; have hfz37_10 := Q14 BK164.out 10))
                  go_ret
                  exact ⟨by first | rfl | (simp [Q31, Q28] <;> rfl) | (simp [*, Q31, Q28] <;> rfl), by repeat (first | (with_reducible first | exact HB.out | apply Q17 | apply Q11 | apply Q16 | refine Q22 ?_ GE164.out) | exact HB.out)⟩
                · rw [if_neg c33] at H
                  exact absurd H (by simp)
          · rw [if_neg c15] at H
            exact absurd H (by simp)
        · rw [if_neg c13] at H
          have c13b0 : (a0_0 == 9) = false := beq_eq_false_iff_ne.mpr c13
          have c13b1 : (a0_0 != 9) = true := bne_iff_ne.mpr c13
          by_cases c38 : a0_0 = 15
          · rw [if_pos c38] at H
            have c38b0 : (a0_0 == 15) = true := beq_iff_eq.mpr c38
            have c38b1 : (a0_0 != 15) = false := bne_eq_false_iff_eq.mpr c38
            clear c38
            replace H := Option.bind_eq_some_iff.mp H
            obtain ⟨t167, A390, H⟩ := H
            replace H : (some t167) = some r := H
            have A39 := Aside0.mk A390
            clear A390
            obtain rfl := Option.some.inj H
            go_enter Tryd.func20, Tryd.ntmps20
            go_wp2_with (first | ((with_reducible refine gate_dst (N := 1) rfl ?_); refine box_event ?hg (N := 1) ?hd (cs := #[.int .i64 a0_0, .int .i64 a0_1, .int .i64 a0_2, .string a0_3, .bool a0_4, .int .u64 a0_5, .int .u64 a0_6, .int .u64 a0_7, .int .u64 a0_8, .int .i64 a0_9, .int .i64 a0_10]) (t := 26) ?hr ?_; (case hd => rfl); (case hg => rfl); (case hr => first | (go_simp; done) | (go_simp; rfl)); intro gb164 hg w40 hbox hb; have n0_ := Aside0.mk (Q25 (by repeat (first | (with_reducible first | exact HB.out | apply Q17 | apply Q11 | apply Q16) | exact HB.out)) hb); have n1_ := Aside0.mk (hbox); have n2_ := Aside0.mk ((by rw [hg]; exact (Q27 (by repeat (first | (with_reducible first | exact HB.out | apply Q17 | apply Q11 | apply Q16) | exact HB.out))) : w.heap.size ≤ gb164)); have n3_ := Aside0.mk ((by rw [hg]; exact (Q27 (by repeat (first | (with_reducible first | exact HB.out | apply Q17 | apply Q11 | apply Q16) | exact HB.out))) : w.heap.size ≤ gb164)); clear HB; have HB := n0_; have BK164 := n1_; have GW164 := n2_; have GE164 := n3_; clear n0_ n1_ n2_ n3_; clear hb hbox hg; have hcz41_0 : w40.cell? ⟨gb164, 0, none⟩ = some (.int .i64 a0_0) := (Q19 BK164.out 0).trans rfl; have hcz41_1 : w40.cell? ⟨gb164, 1, none⟩ = some (.int .i64 a0_1) := (Q19 BK164.out 1).trans rfl; have hcz41_2 : w40.cell? ⟨gb164, 2, none⟩ = some (.int .i64 a0_2) := (Q19 BK164.out 2).trans rfl; have hcz41_3 : w40.cell? ⟨gb164, 3, none⟩ = some (.string a0_3) := (Q19 BK164.out 3).trans rfl; have hcz41_4 : w40.cell? ⟨gb164, 4, none⟩ = some (.bool a0_4) := (Q19 BK164.out 4).trans rfl; have hcz41_5 : w40.cell? ⟨gb164, 5, none⟩ = some (.int .u64 a0_5) := (Q19 BK164.out 5).trans rfl; have hcz41_6 : w40.cell? ⟨gb164, 6, none⟩ = some (.int .u64 a0_6) := (Q19 BK164.out 6).trans rfl; have hcz41_7 : w40.cell? ⟨gb164, 7, none⟩ = some (.int .u64 a0_7) := (Q19 BK164.out 7).trans rfl; have hcz41_8 : w40.cell? ⟨gb164, 8, none⟩ = some (.int .u64 a0_8) := (Q19 BK164.out 8).trans rfl; have hcz41_9 : w40.cell? ⟨gb164, 9, none⟩ = some (.int .i64 a0_9) := (Q19 BK164.out 9).trans rfl; have hcz41_10 : w40.cell? ⟨gb164, 10, none⟩ = some (.int .i64 a0_10) := (Q19 BK164.out 10).trans rfl; have hfz41_0 := Q14 BK164.out 0; have hfz41_1 := Q14 BK164.out 1; have hfz41_2 := Q14 BK164.out 2; have hfz41_3 := Q14 BK164.out 3; have hfz41_4 := Q14 BK164.out 4; have hfz41_5 := Q14 BK164.out 5; have hfz41_6 := Q14 BK164.out 6; have hfz41_7 := Q14 BK164.out 7; have hfz41_8 := Q14 BK164.out 8; have hfz41_9 := Q14 BK164.out 9; have hfz41_10 := Q14 BK164.out 10) | ((with_reducible refine Q34 (f := 36) rfl ?_); refine goesL_ (some 48) rfl rfl Tryd.func36 (by kernel_rfl) rfl #[.agg #[.int .u64 a0_5, .int .u64 a0_6, .int .u64 a0_7, .int .u64 a0_8]] rfl (by (try simp only [List.map_toArray, List.map_cons, List.map_nil]); first | done | rfl | (simp only [List.length_drop, List.length_take]; rfl)) ?_; (with_reducible refine (class_Text.calls k a0_5 a0_6 a0_7 a0_8 t167 _ A39.out).mono ?_); rintro e w42 ⟨rfl, hb⟩; refine ⟨_, rfl, ?_⟩; have n0_ := Aside0.mk (Q35 (g := gb164) (o := .cells #[.int .i64 a0_0, .int .i64 a0_1, .int .i64 a0_2, .string a0_3, .bool a0_4, .int .u64 a0_5, .int .u64 a0_6, .int .u64 a0_7, .int .u64 a0_8, .int .i64 a0_9, .int .i64 a0_10] 26 (0, 0)) (by (with_reducible repeat (first | refine Q23 ?_ _ | refine Q26 ?_ | refine Q24 ?_ _)); exact BK164.out) hb); have n1_ := Aside0.mk (Q25 (by repeat (first | (with_reducible first | exact HB.out | apply Q17 | apply Q11 | apply Q16 | refine Q22 ?_ GE164.out) | exact HB.out)) hb); clear BK164; clear HB; have BK164 := n0_; have HB := n1_; clear n0_ n1_; (try clear hb); (try clear hb2); (try clear hk); (try clear hi)))
            go_ret
            exact ⟨by first | rfl | (simp [Q31, Q28] <;> rfl) | (simp [*, Q31, Q28] <;> rfl), by repeat (first | (with_reducible first | exact HB.out | apply Q17 | apply Q11 | apply Q16 | refine Q22 ?_ GE164.out) | exact HB.out)⟩
          · rw [if_neg c38] at H
            have c38b0 : (a0_0 == 15) = false := beq_eq_false_iff_ne.mpr c38
            have c38b1 : (a0_0 != 15) = true := bne_iff_ne.mpr c38
            by_cases c43 : a0_0 = 14
            · rw [if_pos c43] at H
              have c43b0 : (a0_0 == 14) = true := beq_iff_eq.mpr c43
              have c43b1 : (a0_0 != 14) = false := bne_eq_false_iff_eq.mpr c43
              clear c43
              by_cases c44 : a0_4 = true
              · subst c44
                have H1 : ((lexis_quoted.f a0_3).bind fun t168 => (if t168.size + 1 ≤ 9223372036854775807 then (some (t168 ++ (⟨#[105]⟩ : ByteArray))) else (none))) = some r := by rw [if_pos rfl] at H; exact H
                clear H
                have H := H1
                clear H1
                replace H := Option.bind_eq_some_iff.mp H
                obtain ⟨t168, A450, H⟩ := H
                replace H : (if t168.size + 1 ≤ 9223372036854775807 then (some (t168 ++ (⟨#[105]⟩ : ByteArray))) else (none)) = some r := H
                have A45 := Aside0.mk A450
                clear A450
                by_cases c46 : t168.size + 1 ≤ 9223372036854775807
                · rw [if_pos c46] at H
                  have c46b0 := eq_true c46
                  have c46b1 : decide (t168.size + 1 ≤ 9223372036854775807) = true := decide_eq_true c46
                  try have c46b2 : (9223372036854775807 < t168.size + 1) = False := eq_false (Nat.not_lt.2 c46)
                  obtain rfl := Option.some.inj H
                  go_enter Tryd.func20, Tryd.ntmps20
                  go_wp2_with (first | ((with_reducible refine gate_dst (N := 1) rfl ?_); refine box_event ?hg (N := 1) ?hd (cs := #[.int .i64 a0_0, .int .i64 a0_1, .int .i64 a0_2, .string a0_3, .bool true, .int .u64 a0_5, .int .u64 a0_6, .int .u64 a0_7, .int .u64 a0_8, .int .i64 a0_9, .int .i64 a0_10]) (t := 26) ?hr ?_; (case hd => rfl); (case hg => rfl); (case hr => first | (go_simp; done) | (go_simp; rfl)); intro gb164 hg w47 hbox hb; have n0_ := Aside0.mk (Q25 (by repeat (first | (with_reducible first | exact HB.out | apply Q17 | apply Q11 | apply Q16) | exact HB.out)) hb); have n1_ := Aside0.mk (hbox); have n2_ := Aside0.mk ((by rw [hg]; exact (Q27 (by repeat (first | (with_reducible first | exact HB.out | apply Q17 | apply Q11 | apply Q16) | exact HB.out))) : w.heap.size ≤ gb164)); have n3_ := Aside0.mk ((by rw [hg]; exact (Q27 (by repeat (first | (with_reducible first | exact HB.out | apply Q17 | apply Q11 | apply Q16) | exact HB.out))) : w.heap.size ≤ gb164)); clear HB; have HB := n0_; have BK164 := n1_; have GW164 := n2_; have GE164 := n3_; clear n0_ n1_ n2_ n3_; clear hb hbox hg; have hcz48_0 : w47.cell? ⟨gb164, 0, none⟩ = some (.int .i64 a0_0) := (Q19 BK164.out 0).trans rfl; have hcz48_1 : w47.cell? ⟨gb164, 1, none⟩ = some (.int .i64 a0_1) := (Q19 BK164.out 1).trans rfl; have hcz48_2 : w47.cell? ⟨gb164, 2, none⟩ = some (.int .i64 a0_2) := (Q19 BK164.out 2).trans rfl; have hcz48_3 : w47.cell? ⟨gb164, 3, none⟩ = some (.string a0_3) := (Q19 BK164.out 3).trans rfl; have hcz48_4 : w47.cell? ⟨gb164, 4, none⟩ = some (.bool true) := (Q19 BK164.out 4).trans rfl; have hcz48_5 : w47.cell? ⟨gb164, 5, none⟩ = some (.int .u64 a0_5) := (Q19 BK164.out 5).trans rfl; have hcz48_6 : w47.cell? ⟨gb164, 6, none⟩ = some (.int .u64 a0_6) := (Q19 BK164.out 6).trans rfl; have hcz48_7 : w47.cell? ⟨gb164, 7, none⟩ = some (.int .u64 a0_7) := (Q19 BK164.out 7).trans rfl; have hcz48_8 : w47.cell? ⟨gb164, 8, none⟩ = some (.int .u64 a0_8) := (Q19 BK164.out 8).trans rfl; have hcz48_9 : w47.cell? ⟨gb164, 9, none⟩ = some (.int .i64 a0_9) := (Q19 BK164.out 9).trans rfl; have hcz48_10 : w47.cell? ⟨gb164, 10, none⟩ = some (.int .i64 a0_10) := (Q19 BK164.out 10).trans rfl; have hfz48_0 := Q14 BK164.out 0; have hfz48_1 := Q14 BK164.out 1; have hfz48_2 := Q14 BK164.out 2; have hfz48_3 := Q14 BK164.out 3; have hfz48_4 := Q14 BK164.out 4; have hfz48_5 := Q14 BK164.out 5; have hfz48_6 := Q14 BK164.out 6; have hfz48_7 := Q14 BK164.out 7; have hfz48_8 := Q14 BK164.out 8; have hfz48_9 := Q14 BK164.out 9; have hfz48_10 := Q14 BK164.out 10) | ((with_reducible refine Q34 (f := 37) rfl ?_); refine goesL_ (some 55) rfl rfl Tryd.func37 (by kernel_rfl) rfl #[.string a0_3] rfl (by (try simp only [List.map_toArray, List.map_cons, List.map_nil]); first | done | rfl | (simp only [List.length_drop, List.length_take]; rfl)) ?_; (with_reducible refine (lexis_quoted.calls a0_3 t168 _ A45.out).mono ?_); rintro e w49 ⟨rfl, hb⟩; refine ⟨_, rfl, ?_⟩; have n0_ := Aside0.mk (Q35 (g := gb164) (o := .cells #[.int .i64 a0_0, .int .i64 a0_1, .int .i64 a0_2, .string a0_3, .bool true, .int .u64 a0_5, .int .u64 a0_6, .int .u64 a0_7, .int .u64 a0_8, .int .i64 a0_9, .int .i64 a0_10] 26 (0, 0)) (by (with_reducible repeat (first | refine Q23 ?_ _ | refine Q26 ?_ | refine Q24 ?_ _)); exact BK164.out) hb); have n1_ := Aside0.mk (Q25 (by repeat (first | (with_reducible first | exact HB.out | apply Q17 | apply Q11 | apply Q16 | refine Q22 ?_ GE164.out) | exact HB.out)) hb); clear BK164; clear HB; have BK164 := n0_; have HB := n1_; clear n0_ n1_; (try clear hb); (try clear hb2); (try clear hk); (try clear hi)))
                  go_ret
                  exact ⟨by first | rfl | (simp [Q31, Q28] <;> rfl) | (simp [*, Q31, Q28] <;> rfl), by repeat (first | (with_reducible first | exact HB.out | apply Q17 | apply Q11 | apply Q16 | refine Q22 ?_ GE164.out) | exact HB.out)⟩
                · rw [if_neg c46] at H
                  exact absurd H (by simp)
              · replace c44 := Bool.eq_false_iff.mpr c44
                subst c44
                have H1 : ((lexis_quoted.f a0_3).bind fun t169 => (some t169)) = some r := by rw [if_neg (show ¬ (false = true) by decide)] at H; exact H
                clear H
                have H := H1
                clear H1
                replace H := Option.bind_eq_some_iff.mp H
                obtain ⟨t169, A500, H⟩ := H
                replace H : (some t169) = some r := H
                have A50 := Aside0.mk A500
                clear A500
                obtain rfl := Option.some.inj H
                go_enter Tryd.func20, Tryd.ntmps20
                go_wp2_with (first | ((with_reducible refine gate_dst (N := 1) rfl ?_); refine box_event ?hg (N := 1) ?hd (cs := #[.int .i64 a0_0, .int .i64 a0_1, .int .i64 a0_2, .string a0_3, .bool false, .int .u64 a0_5, .int .u64 a0_6, .int .u64 a0_7, .int .u64 a0_8, .int .i64 a0_9, .int .i64 a0_10]) (t := 26) ?hr ?_; (case hd => rfl); (case hg => rfl); (case hr => first | (go_simp; done) | (go_simp; rfl)); intro gb164 hg w51 hbox hb; have n0_ := Aside0.mk (Q25 (by repeat (first | (with_reducible first | exact HB.out | apply Q17 | apply Q11 | apply Q16) | exact HB.out)) hb); have n1_ := Aside0.mk (hbox); have n2_ := Aside0.mk ((by rw [hg]; exact (Q27 (by repeat (first | (with_reducible first | exact HB.out | apply Q17 | apply Q11 | apply Q16) | exact HB.out))) : w.heap.size ≤ gb164)); have n3_ := Aside0.mk ((by rw [hg]; exact (Q27 (by repeat (first | (with_reducible first | exact HB.out | apply Q17 | apply Q11 | apply Q16) | exact HB.out))) : w.heap.size ≤ gb164)); clear HB; have HB := n0_; have BK164 := n1_; have GW164 := n2_; have GE164 := n3_; clear n0_ n1_ n2_ n3_; clear hb hbox hg; have hcz52_0 : w51.cell? ⟨gb164, 0, none⟩ = some (.int .i64 a0_0) := (Q19 BK164.out 0).trans rfl; have hcz52_1 : w51.cell? ⟨gb164, 1, none⟩ = some (.int .i64 a0_1) := (Q19 BK164.out 1).trans rfl; have hcz52_2 : w51.cell? ⟨gb164, 2, none⟩ = some (.int .i64 a0_2) := (Q19 BK164.out 2).trans rfl; have hcz52_3 : w51.cell? ⟨gb164, 3, none⟩ = some (.string a0_3) := (Q19 BK164.out 3).trans rfl; have hcz52_4 : w51.cell? ⟨gb164, 4, none⟩ = some (.bool false) := (Q19 BK164.out 4).trans rfl; have hcz52_5 : w51.cell? ⟨gb164, 5, none⟩ = some (.int .u64 a0_5) := (Q19 BK164.out 5).trans rfl; have hcz52_6 : w51.cell? ⟨gb164, 6, none⟩ = some (.int .u64 a0_6) := (Q19 BK164.out 6).trans rfl; have hcz52_7 : w51.cell? ⟨gb164, 7, none⟩ = some (.int .u64 a0_7) := (Q19 BK164.out 7).trans rfl; have hcz52_8 : w51.cell? ⟨gb164, 8, none⟩ = some (.int .u64 a0_8) := (Q19 BK164.out 8).trans rfl; have hcz52_9 : w51.cell? ⟨gb164, 9, none⟩ = some (.int .i64 a0_9) := (Q19 BK164.out 9).trans rfl; have hcz52_10 : w51.cell? ⟨gb164, 10, none⟩ = some (.int .i64 a0_10) := (Q19 BK164.out 10).trans rfl; have hfz52_0 := Q14 BK164.out 0; have hfz52_1 := Q14 BK164.out 1; have hfz52_2 := Q14 BK164.out 2; have hfz52_3 := Q14 BK164.out 3; have hfz52_4 := Q14 BK164.out 4; have hfz52_5 := Q14 BK164.out 5; have hfz52_6 := Q14 BK164.out 6; have hfz52_7 := Q14 BK164.out 7; have hfz52_8 := Q14 BK164.out 8; have hfz52_9 := Q14 BK164.out 9; have hfz52_10 := Q14 BK164.out 10) | ((with_reducible refine Q34 (f := 37) rfl ?_); refine goesL_ (some 59) rfl rfl Tryd.func37 (by kernel_rfl) rfl #[.string a0_3] rfl (by (try simp only [List.map_toArray, List.map_cons, List.map_nil]); first | done | rfl | (simp only [List.length_drop, List.length_take]; rfl)) ?_; (with_reducible refine (lexis_quoted.calls a0_3 t169 _ A50.out).mono ?_); rintro e w53 ⟨rfl, hb⟩; refine ⟨_, rfl, ?_⟩; have n0_ := Aside0.mk (Q35 (g := gb164) (o := .cells #[.int .i64 a0_0, .int .i64 a0_1, .int .i64 a0_2, .string a0_3, .bool false, .int .u64 a0_5, .int .u64 a0_6, .int .u64 a0_7, .int .u64 a0_8, .int .i64 a0_9, .int .i64 a0_10] 26 (0, 0)) (by (with_reducible repeat (first | refine Q23 ?_ _ | refine Q26 ?_ | refine Q24 ?_ _)); exact BK164.out) hb); have n1_ := Aside0.mk (Q25 (by repeat (first | (with_reducible first | exact HB.out | apply Q17 | apply Q11 | apply Q16 | refine Q22 ?_ GE164.out) | exact HB.out)) hb); clear BK164; clear HB; have BK164 := n0_; have HB := n1_; clear n0_ n1_; (try clear hb); (try clear hb2); (try clear hk); (try clear hi)))
                go_ret
                exact ⟨by first | rfl | (simp [Q31, Q28] <;> rfl) | (simp [*, Q31, Q28] <;> rfl), by repeat (first | (with_reducible first | exact HB.out | apply Q17 | apply Q11 | apply Q16 | refine Q22 ?_ GE164.out) | exact HB.out)⟩
            · rw [if_neg c43] at H
              have c43b0 : (a0_0 == 14) = false := beq_eq_false_iff_ne.mpr c43
              have c43b1 : (a0_0 != 14) = true := bne_iff_ne.mpr c43
              replace H := Option.bind_eq_some_iff.mp H
              obtain ⟨t170, A540, H⟩ := H
              replace H : (some t170) = some r := H
              have A54 := Aside0.mk A540
              clear A540
              obtain rfl := Option.some.inj H
              go_enter Tryd.func20, Tryd.ntmps20
              go_wp2_with (first | ((with_reducible refine gate_dst (N := 1) rfl ?_); refine box_event ?hg (N := 1) ?hd (cs := #[.int .i64 a0_0, .int .i64 a0_1, .int .i64 a0_2, .string a0_3, .bool a0_4, .int .u64 a0_5, .int .u64 a0_6, .int .u64 a0_7, .int .u64 a0_8, .int .i64 a0_9, .int .i64 a0_10]) (t := 26) ?hr ?_; (case hd => rfl); (case hg => rfl); (case hr => first | (go_simp; done) | (go_simp; rfl)); intro gb164 hg w55 hbox hb; have n0_ := Aside0.mk (Q25 (by repeat (first | (with_reducible first | exact HB.out | apply Q17 | apply Q11 | apply Q16) | exact HB.out)) hb); have n1_ := Aside0.mk (hbox); have n2_ := Aside0.mk ((by rw [hg]; exact (Q27 (by repeat (first | (with_reducible first | exact HB.out | apply Q17 | apply Q11 | apply Q16) | exact HB.out))) : w.heap.size ≤ gb164)); have n3_ := Aside0.mk ((by rw [hg]; exact (Q27 (by repeat (first | (with_reducible first | exact HB.out | apply Q17 | apply Q11 | apply Q16) | exact HB.out))) : w.heap.size ≤ gb164)); clear HB; have HB := n0_; have BK164 := n1_; have GW164 := n2_; have GE164 := n3_; clear n0_ n1_ n2_ n3_; clear hb hbox hg; have hcz56_0 : w55.cell? ⟨gb164, 0, none⟩ = some (.int .i64 a0_0) := (Q19 BK164.out 0).trans rfl; have hcz56_1 : w55.cell? ⟨gb164, 1, none⟩ = some (.int .i64 a0_1) := (Q19 BK164.out 1).trans rfl; have hcz56_2 : w55.cell? ⟨gb164, 2, none⟩ = some (.int .i64 a0_2) := (Q19 BK164.out 2).trans rfl; have hcz56_3 : w55.cell? ⟨gb164, 3, none⟩ = some (.string a0_3) := (Q19 BK164.out 3).trans rfl; have hcz56_4 : w55.cell? ⟨gb164, 4, none⟩ = some (.bool a0_4) := (Q19 BK164.out 4).trans rfl; have hcz56_5 : w55.cell? ⟨gb164, 5, none⟩ = some (.int .u64 a0_5) := (Q19 BK164.out 5).trans rfl; have hcz56_6 : w55.cell? ⟨gb164, 6, none⟩ = some (.int .u64 a0_6) := (Q19 BK164.out 6).trans rfl; have hcz56_7 : w55.cell? ⟨gb164, 7, none⟩ = some (.int .u64 a0_7) := (Q19 BK164.out 7).trans rfl; have hcz56_8 : w55.cell? ⟨gb164, 8, none⟩ = some (.int .u64 a0_8) := (Q19 BK164.out 8).trans rfl; have hcz56_9 : w55.cell? ⟨gb164, 9, none⟩ = some (.int .i64 a0_9) := (Q19 BK164.out 9).trans rfl; have hcz56_10 : w55.cell? ⟨gb164, 10, none⟩ = some (.int .i64 a0_10) := (Q19 BK164.out 10).trans rfl; have hfz56_0 := Q14 BK164.out 0; have hfz56_1 := Q14 BK164.out 1; have hfz56_2 := Q14 BK164.out 2; have hfz56_3 := Q14 BK164.out 3; have hfz56_4 := Q14 BK164.out 4; have hfz56_5 := Q14 BK164.out 5; have hfz56_6 := Q14 BK164.out 6; have hfz56_7 := Q14 BK164.out 7; have hfz56_8 := Q14 BK164.out 8; have hfz56_9 := Q14 BK164.out 9; have hfz56_10 := Q14 BK164.out 10) | ((with_reducible refine Q34 (f := 38) rfl ?_); refine goesL_ (some 62) rfl rfl Tryd.func38 (by kernel_rfl) rfl #[.int .i64 a0_0] rfl (by (try simp only [List.map_toArray, List.map_cons, List.map_nil]); first | done | rfl | (simp only [List.length_drop, List.length_take]; rfl)) ?_; (with_reducible refine (lexis_plain.calls a0_0 t170 _ A54.out).mono ?_); rintro e w' ⟨rfl, ⟨nd, rfl⟩⟩; refine ⟨_, rfl, ?_⟩))
              go_ret
              exact ⟨by first | rfl | (simp [Q31, Q28] <;> rfl) | (simp [*, Q31, Q28] <;> rfl), by repeat (first | (with_reducible first | exact HB.out | apply Q17 | apply Q11 | apply Q16 | refine Q22 ?_ GE164.out) | exact HB.out)⟩
def lexis_Spell.f (k : Nat) (a0_0 : Int) (a0_1 : Int) (a0_2 : Int) (a0_3 : ByteArray) (a0_4 : Bool) (a0_5 : Int) (a0_6 : Int) (a0_7 : Int) (a0_8 : Int) (a0_9 : Int) (a0_10 : Int) : Option (ByteArray × Int) := (lexis_right.f k a0_0 a0_1 a0_2 a0_3 a0_4 a0_5 a0_6 a0_7 a0_8 a0_9 a0_10).bind fun t172 => (if t172 = true then (if (a0_3.size : Int) > 65536 then (some ((⟨#[]⟩ : ByteArray), 2)) else ((lexis_text.f k a0_0 a0_1 a0_2 a0_3 a0_4 a0_5 a0_6 a0_7 a0_8 a0_9 a0_10).bind fun t173 => (if (t173.size : Int) > 65536 then (some ((⟨#[]⟩ : ByteArray), 2)) else (some (t173, 0))))) else (some ((⟨#[]⟩ : ByteArray), 6)))
end Go.Proofs.YtldjdcdoegjmoaaDoor.P
