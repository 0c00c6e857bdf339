import Derived.Test.YtldjdcdoegjmoaaDoorY1
import Derived.Test.YtldjdcdoegjmoaaDoorY21
import Derived.Test.YtldjdcdoegjmoaaDoorY23
namespace Go.Proofs.YtldjdcdoegjmoaaDoor.P
open Go.RowKit Go.Proofs.YtldjdcdoegjmoaaDoorW.PrintWords Go.Proofs.YtldjdcdoegjmoaaDoorW.PrintLast Go.Proofs.YtldjdcdoegjmoaaDoorW.PrintMore
set_option linter.unusedVariables false
set_option linter.unusedSimpArgs false
def dowelref04_spelled.l0 : Nat → Int → Int → Int → Int → ByteArray → Bool → Int → Int → Int → Int → Int → Int → Option (ByteArray)
  | 0, _, _, _, _, _, _, _, _, _, _, _, _ => none
  | k + 1, x3, x226000, x226001, x226002, x226003, x226004, x226005, x226006, x226007, x226008, x226009, x226010 => if x3 < 10 then (if 0 ≤ x3 then ((dowelref04_sign.f (bt (⟨#[47, 38, 33, 63, 42, 43, 40, 41, 44, 46]⟩ : ByteArray) x3)).bind fun t233 => (if t233 = x226000 then (if x3 ≤ (wrap64 (x3 + 1)) then (if (wrap64 (x3 + 1)) ≤ 10 then (some ((⟨#[47, 38, 33, 63, 42, 43, 40, 41, 44, 46]⟩ : ByteArray).extract (x3 : Int).toNat ((wrap64 (x3 + 1)) : Int).toNat)) else (none)) else (none)) else (dowelref04_spelled.l0 k (wrap64 (x3 + 1)) x226000 x226001 x226002 x226003 x226004 x226005 x226006 x226007 x226008 x226009 x226010))) else (none)) else (some (⟨#[]⟩ : ByteArray))
def dowelref04_spelled.f (k : Nat) (a0_0 : Int) (a0_1 : Int) (a0_2 : Int) (a0_3 : ByteArray) (a0_4 : Bool) (a0_5 : Int) (a0_6 : Int) (a0_7 : Int) (a0_8 : Int) (a0_9 : Int) (a0_10 : Int) : Option (ByteArray) := if a0_0 = 0 then (some (⟨#[]⟩ : ByteArray)) else (if a0_0 = 1 then (some a0_3) else (if a0_0 = 2 then (some (⟨#[60, 45]⟩ : ByteArray)) else (if a0_0 = 16 then (if 1 + a0_3.size ≤ 9223372036854775807 then (some ((⟨#[64]⟩ : ByteArray) ++ a0_3)) else (none)) else (if a0_0 = 17 then (if 1 + a0_3.size ≤ 9223372036854775807 then (some ((⟨#[94]⟩ : ByteArray) ++ a0_3)) else (none)) else (if a0_0 = 15 then ((dowelref03_Text.f k a0_5 a0_6 a0_7 a0_8).bind fun t226 => (some t226)) else (if a0_0 = 14 then (if a0_4 = true then ((dowelref04_Quoted.f a0_3).bind fun t227 => (if t227.size + 1 ≤ 9223372036854775807 then (some (t227 ++ (⟨#[105]⟩ : ByteArray))) else (none))) else ((dowelref04_Quoted.f a0_3).bind fun t228 => (some t228))) else (if a0_0 = 9 then (if a0_10 = a0_9 then ((dowelref04_Digits.f k a0_9).bind fun t229 => (if 1 + t229.size ≤ 9223372036854775807 then (if ((⟨#[123]⟩ : ByteArray) ++ t229).size + 1 ≤ 9223372036854775807 then (some (((⟨#[123]⟩ : ByteArray) ++ t229) ++ (⟨#[125]⟩ : ByteArray))) else (none)) else (none))) else (if a0_10 = (-1) then ((dowelref04_Digits.f k a0_9).bind fun t230 => (if 1 + t230.size ≤ 9223372036854775807 then (if ((⟨#[123]⟩ : ByteArray) ++ t230).size + 2 ≤ 9223372036854775807 then (some (((⟨#[123]⟩ : ByteArray) ++ t230) ++ (⟨#[44, 125]⟩ : ByteArray))) else (none)) else (none))) else ((dowelref04_Digits.f k a0_9).bind fun t231 => (if 1 + t231.size ≤ 9223372036854775807 then (if ((⟨#[123]⟩ : ByteArray) ++ t231).size + 1 ≤ 9223372036854775807 then ((dowelref04_Digits.f k a0_10).bind fun t232 => (if (((⟨#[123]⟩ : ByteArray) ++ t231) ++ (⟨#[44]⟩ : ByteArray)).size + t232.size ≤ 9223372036854775807 then (if ((((⟨#[123]⟩ : ByteArray) ++ t231) ++ (⟨#[44]⟩ : ByteArray)) ++ t232).size + 1 ≤ 9223372036854775807 then (some (((((⟨#[123]⟩ : ByteArray) ++ t231) ++ (⟨#[44]⟩ : ByteArray)) ++ t232) ++ (⟨#[125]⟩ : ByteArray))) else (none)) else (none))) else (none)) else (none))))) else (dowelref04_spelled.l0 k 0 a0_0 a0_1 a0_2 a0_3 a0_4 a0_5 a0_6 a0_7 a0_8 a0_9 a0_10))))))))
theorem dowelref04_spelled.mono_l : ∀ k, (∀ y0 y1 y2 y3 y4 y5 y6 y7 y8 y9 y10 y11, LeO (dowelref04_spelled.l0 k y0 y1 y2 y3 y4 y5 y6 y7 y8 y9 y10 y11) (dowelref04_spelled.l0 (k + 1) y0 y1 y2 y3 y4 y5 y6 y7 y8 y9 y10 y11))
  | 0 => fun _ _ _ _ _ _ _ _ _ _ _ _ r h => by simp [dowelref04_spelled.l0] at h
  | k + 1 => by
    have ih0 := dowelref04_spelled.mono_l k
    · intro y0 y1 y2 y3 y4 y5 y6 y7 y8 y9 y10 y11
      unfold dowelref04_spelled.l0
      repeat' first
      | (with_reducible exact ih0 _ _ _ _ _ _ _ _ _ _ _ _)
      | (with_reducible exact dowelref03_Text.mono _ _ _ _ _)
      | (with_reducible exact dowelref04_Digits.mono _ _)
      | (with_reducible exact LeO.refl _)
      | (with_reducible exact LeO.none _)
      | (with_reducible refine LeO.ite ?_ ?_)
      | (with_reducible refine LeO.bind ?_ (fun _ => ?_))
      | exact ih0 _ _ _ _ _ _ _ _ _ _ _ _
      | exact dowelref03_Text.mono _ _ _ _ _
      | exact dowelref04_Digits.mono _ _
      | exact LeO.none _
      | refine LeO.ite ?_ ?_
      | refine LeO.bind ?_ (fun _ => ?_)
theorem dowelref04_spelled.mono : ∀ a0 a1 a2 a3 a4 a5 a6 a7 a8 a9 a10 k, LeO (dowelref04_spelled.f k a0 a1 a2 a3 a4 a5 a6 a7 a8 a9 a10) (dowelref04_spelled.f (k + 1) a0 a1 a2 a3 a4 a5 a6 a7 a8 a9 a10) := by
  intro a0 a1 a2 a3 a4 a5 a6 a7 a8 a9 a10 k
  have ih0 := dowelref04_spelled.mono_l k
  unfold dowelref04_spelled.f
  repeat' first
      | (with_reducible exact ih0 _ _ _ _ _ _ _ _ _ _ _ _)
      | (with_reducible exact dowelref03_Text.mono _ _ _ _ _)
      | (with_reducible exact dowelref04_Digits.mono _ _)
      | (with_reducible exact LeO.refl _)
      | (with_reducible exact LeO.none _)
      | (with_reducible refine LeO.ite ?_ ?_)
      | (with_reducible refine LeO.bind ?_ (fun _ => ?_))
      | exact ih0 _ _ _ _ _ _ _ _ _ _ _ _
      | exact dowelref03_Text.mono _ _ _ _ _
      | exact dowelref04_Digits.mono _ _
      | exact LeO.none _
      | refine LeO.ite ?_ ?_
      | refine LeO.bind ?_ (fun _ => ?_)
def dowelref04_spelled.T24 : Bool × List (List Nat × List Nat) := (true, [([], []), ([0], [0]), ([1], [1]), ([2], [2]), ([3], [3]), ([], []), ([5], [5]), ([6, 2], [6]), ([4, 7], [4, 7]), ([8], [8]), ([9, 7, 0, 1, 2, 3, 4, 5, 6, 7, 8, 9], [9])])
def dowelref04_spelled.B24 : List Nat := [0, 1, 3, 7, 15, 0, 32, 103, 255, 511, 1023]
theorem dowelref04_spelled.tab24 : rtab .any (opsOf Tryd.f22 24) = dowelref04_spelled.T24 := by kernel_rfl
theorem dowelref04_spelled.bits24 : waitsOk dowelref04_spelled.T24.2 dowelref04_spelled.B24 = true := by kernel_rfl
set_option maxHeartbeats 8000000 in
set_option maxRecDepth 100000 in
theorem dowelref04_spelled.calls (k : Nat) (a0_0 : Int) (a0_1 : Int) (a0_2 : Int) (a0_3 : ByteArray) (a0_4 : Bool) (a0_5 : Int) (a0_6 : Int) (a0_7 : Int) (a0_8 : Int) (a0_9 : Int) (a0_10 : Int) (r : ByteArray) (w : World) (h : dowelref04_spelled.f k a0_0 a0_1 a0_2 a0_3 a0_4 a0_5 a0_6 a0_7 a0_8 a0_9 a0_10 = some r) :
    Calls Tryd.prog 22 #[.agg #[.int .i64 a0_0, .int .i64 a0_1, .int .i64 a0_2, .string a0_3, .bool a0_4, .int .u64 a0_5, .int .u64 a0_6, .int .u64 a0_7, .int .u64 a0_8, .int .i64 a0_9, .int .i64 a0_10]] w fun e w' => e = .returned (.string r) ∧ Below w.heap.size w w' := by
  have hu26 := Tryd.underlying26
  have hu24 := Tryd.underlying24
  have HB := Aside0.mk (Below.refl w.heap.size w)
  have H : (if a0_0 = 0 then (some (⟨#[]⟩ : ByteArray)) else (if a0_0 = 1 then (some a0_3) else (if a0_0 = 2 then (some (⟨#[60, 45]⟩ : ByteArray)) else (if a0_0 = 16 then (if 1 + a0_3.size ≤ 9223372036854775807 then (some ((⟨#[64]⟩ : ByteArray) ++ a0_3)) else (none)) else (if a0_0 = 17 then (if 1 + a0_3.size ≤ 9223372036854775807 then (some ((⟨#[94]⟩ : ByteArray) ++ a0_3)) else (none)) else (if a0_0 = 15 then ((dowelref03_Text.f k a0_5 a0_6 a0_7 a0_8).bind fun t226 => (some t226)) else (if a0_0 = 14 then (if a0_4 = true then ((dowelref04_Quoted.f a0_3).bind fun t227 => (if t227.size + 1 ≤ 9223372036854775807 then (some (t227 ++ (⟨#[105]⟩ : ByteArray))) else (none))) else ((dowelref04_Quoted.f a0_3).bind fun t228 => (some t228))) else (if a0_0 = 9 then (if a0_10 = a0_9 then ((dowelref04_Digits.f k a0_9).bind fun t229 => (if 1 + t229.size ≤ 9223372036854775807 then (if ((⟨#[123]⟩ : ByteArray) ++ t229).size + 1 ≤ 9223372036854775807 then (some (((⟨#[123]⟩ : ByteArray) ++ t229) ++ (⟨#[125]⟩ : ByteArray))) else (none)) else (none))) else (if a0_10 = (-1) then ((dowelref04_Digits.f k a0_9).bind fun t230 => (if 1 + t230.size ≤ 9223372036854775807 then (if ((⟨#[123]⟩ : ByteArray) ++ t230).size + 2 ≤ 9223372036854775807 then (some (((⟨#[123]⟩ : ByteArray) ++ t230) ++ (⟨#[44, 125]⟩ : ByteArray))) else (none)) else (none))) else ((dowelref04_Digits.f k a0_9).bind fun t231 => (if 1 + t231.size ≤ 9223372036854775807 then (if ((⟨#[123]⟩ : ByteArray) ++ t231).size + 1 ≤ 9223372036854775807 then ((dowelref04_Digits.f k a0_10).bind fun t232 => (if (((⟨#[123]⟩ : ByteArray) ++ t231) ++ (⟨#[44]⟩ : ByteArray)).size + t232.size ≤ 9223372036854775807 then (if ((((⟨#[123]⟩ : ByteArray) ++ t231) ++ (⟨#[44]⟩ : ByteArray)) ++ t232).size + 1 ≤ 9223372036854775807 then (some (((((⟨#[123]⟩ : ByteArray) ++ t231) ++ (⟨#[44]⟩ : ByteArray)) ++ t232) ++ (⟨#[125]⟩ : ByteArray))) else (none)) else (none))) else (none)) else (none))))) else (dowelref04_spelled.l0 k 0 a0_0 a0_1 a0_2 a0_3 a0_4 a0_5 a0_6 a0_7 a0_8 a0_9 a0_10))))))))) = some r := h
  clear h
  by_cases c2 : a0_0 = 0
  · rw [if_pos c2] at H
    have c2b0 : (a0_0 == 0) = true := beq_iff_eq.mpr c2
    have c2b1 : (a0_0 != 0) = false := bne_eq_false_iff_eq.mpr c2
    clear c2
    obtain rfl := Option.some.inj H
    go_enter Tryd.func22, Tryd.ntmps22
    go_wp2_with (first | ((with_reducible refine gate_dst (N := 1) rfl ?_); refine box_event ?hg (N := 1) ?hd (cs := #[.int .i64 a0_0, .int .i64 a0_1, .int .i64 a0_2, .string a0_3, .bool a0_4, .int .u64 a0_5, .int .u64 a0_6, .int .u64 a0_7, .int .u64 a0_8, .int .i64 a0_9, .int .i64 a0_10]) (t := 26) ?hr ?_; (case hd => rfl); (case hg => rfl); (case hr => first | (go_simp; done) | (go_simp; rfl)); intro gb225 hg w3 hbox hb; have n0_ := Aside0.mk (Q25 (by repeat (first | (with_reducible first | exact HB.out | apply Q17 | apply Q11 | apply Q16) | exact HB.out)) hb); have n1_ := Aside0.mk (hbox); have n2_ := Aside0.mk ((by rw [hg]; exact (Q27 (by repeat (first | (with_reducible first | exact HB.out | apply Q17 | apply Q11 | apply Q16) | exact HB.out))) : w.heap.size ≤ gb225)); have n3_ := Aside0.mk ((by rw [hg]; exact (Q27 (by repeat (first | (with_reducible first | exact HB.out | apply Q17 | apply Q11 | apply Q16) | exact HB.out))) : w.heap.size ≤ gb225)); clear HB; have HB := n0_; have BK225 := n1_; have GW225 := n2_; have GE225 := n3_; clear n0_ n1_ n2_ n3_; clear hb hbox hg; have hcz4_0 : w3.cell? ⟨gb225, 0, none⟩ = some (.int .i64 a0_0) := (Q19 BK225.out 0).trans rfl; have hcz4_1 : w3.cell? ⟨gb225, 1, none⟩ = some (.int .i64 a0_1) := (Q19 BK225.out 1).trans rfl; have hcz4_2 : w3.cell? ⟨gb225, 2, none⟩ = some (.int .i64 a0_2) := (Q19 BK225.out 2).trans rfl; have hcz4_3 : w3.cell? ⟨gb225, 3, none⟩ = some (.string a0_3) := (Q19 BK225.out 3).trans rfl; have hcz4_4 : w3.cell? ⟨gb225, 4, none⟩ = some (.bool a0_4) := (Q19 BK225.out 4).trans rfl; have hcz4_5 : w3.cell? ⟨gb225, 5, none⟩ = some (.int .u64 a0_5) := (Q19 BK225.out 5).trans rfl; have hcz4_6 : w3.cell? ⟨gb225, 6, none⟩ = some (.int .u64 a0_6) := (Q19 BK225.out 6).trans rfl; have hcz4_7 : w3.cell? ⟨gb225, 7, none⟩ = some (.int .u64 a0_7) := (Q19 BK225.out 7).trans rfl; have hcz4_8 : w3.cell? ⟨gb225, 8, none⟩ = some (.int .u64 a0_8) := (Q19 BK225.out 8).trans rfl; have hcz4_9 : w3.cell? ⟨gb225, 9, none⟩ = some (.int .i64 a0_9) := (Q19 BK225.out 9).trans rfl; have hcz4_10 : w3.cell? ⟨gb225, 10, none⟩ = some (.int .i64 a0_10) := (Q19 BK225.out 10).trans rfl; have hfz4_0 := Q14 BK225.out 0; have hfz4_1 := Q14 BK225.out 1; have hfz4_2 := Q14 BK225.out 2; have hfz4_3 := Q14 BK225.out 3; have hfz4_4 := Q14 BK225.out 4; have hfz4_5 := Q14 BK225.out 5; have hfz4_6 := Q14 BK225.out 6; have hfz4_7 := Q14 BK225.out 7; have hfz4_8 := Q14 BK225.out 8; have hfz4_9 := Q14 BK225.out 9; have hfz4_10 := Q14 BK225.out 10))
    go_ret
    exact ⟨by first | rfl | (simp [Q31, Q28] <;> rfl) | (simp [*, Q31, Q28] <;> rfl), by repeat (first | (with_reducible first | exact HB.out | apply Q17 | apply Q11 | apply Q16 | refine Q22 ?_ GE225.out) | exact HB.out)⟩
  · rw [if_neg c2] at H
    have c2b0 : (a0_0 == 0) = false := beq_eq_false_iff_ne.mpr c2
    have c2b1 : (a0_0 != 0) = true := bne_iff_ne.mpr c2
    by_cases c5 : a0_0 = 1
    · rw [if_pos c5] at H
      have c5b0 : (a0_0 == 1) = true := beq_iff_eq.mpr c5
      have c5b1 : (a0_0 != 1) = false := bne_eq_false_iff_eq.mpr c5
      clear c5
      obtain rfl := Option.some.inj H
      go_enter Tryd.func22, Tryd.ntmps22
      go_wp2_with (first | ((with_reducible refine gate_dst (N := 1) rfl ?_); refine box_event ?hg (N := 1) ?hd (cs := #[.int .i64 a0_0, .int .i64 a0_1, .int .i64 a0_2, .string a0_3, .bool a0_4, .int .u64 a0_5, .int .u64 a0_6, .int .u64 a0_7, .int .u64 a0_8, .int .i64 a0_9, .int .i64 a0_10]) (t := 26) ?hr ?_; (case hd => rfl); (case hg => rfl); (case hr => first | (go_simp; done) | (go_simp; rfl)); intro gb225 hg w6 hbox hb; have n0_ := Aside0.mk (Q25 (by repeat (first | (with_reducible first | exact HB.out | apply Q17 | apply Q11 | apply Q16) | exact HB.out)) hb); have n1_ := Aside0.mk (hbox); have n2_ := Aside0.mk ((by rw [hg]; exact (Q27 (by repeat (first | (with_reducible first | exact HB.out | apply Q17 | apply Q11 | apply Q16) | exact HB.out))) : w.heap.size ≤ gb225)); have n3_ := Aside0.mk ((by rw [hg]; exact (Q27 (by repeat (first | (with_reducible first | exact HB.out | apply Q17 | apply Q11 | apply Q16) | exact HB.out))) : w.heap.size ≤ gb225)); clear HB; have HB := n0_; have BK225 := n1_; have GW225 := n2_; have GE225 := n3_; clear n0_ n1_ n2_ n3_; clear hb hbox hg; have hcz7_0 : w6.cell? ⟨gb225, 0, none⟩ = some (.int .i64 a0_0) := (Q19 BK225.out 0).trans rfl; have hcz7_1 : w6.cell? ⟨gb225, 1, none⟩ = some (.int .i64 a0_1) := (Q19 BK225.out 1).trans rfl; have hcz7_2 : w6.cell? ⟨gb225, 2, none⟩ = some (.int .i64 a0_2) := (Q19 BK225.out 2).trans rfl; have hcz7_3 : w6.cell? ⟨gb225, 3, none⟩ = some (.string a0_3) := (Q19 BK225.out 3).trans rfl; have hcz7_4 : w6.cell? ⟨gb225, 4, none⟩ = some (.bool a0_4) := (Q19 BK225.out 4).trans rfl; have hcz7_5 : w6.cell? ⟨gb225, 5, none⟩ = some (.int .u64 a0_5) := (Q19 BK225.out 5).trans rfl; have hcz7_6 : w6.cell? ⟨gb225, 6, none⟩ = some (.int .u64 a0_6) := (Q19 BK225.out 6).trans rfl; have hcz7_7 : w6.cell? ⟨gb225, 7, none⟩ = some (.int .u64 a0_7) := (Q19 BK225.out 7).trans rfl; have hcz7_8 : w6.cell? ⟨gb225, 8, none⟩ = some (.int .u64 a0_8) := (Q19 BK225.out 8).trans rfl; have hcz7_9 : w6.cell? ⟨gb225, 9, none⟩ = some (.int .i64 a0_9) := (Q19 BK225.out 9).trans rfl; have hcz7_10 : w6.cell? ⟨gb225, 10, none⟩ = some (.int .i64 a0_10) := (Q19 BK225.out 10).trans rfl; have hfz7_0 := Q14 BK225.out 0; have hfz7_1 := Q14 BK225.out 1; have hfz7_2 := Q14 BK225.out 2; have hfz7_3 := Q14 BK225.out 3; have hfz7_4 := Q14 BK225.out 4; have hfz7_5 := Q14 BK225.out 5; have hfz7_6 := Q14 BK225.out 6; have hfz7_7 := Q14 BK225.out 7; have hfz7_8 := Q14 BK225.out 8; have hfz7_9 := Q14 BK225.out 9; have hfz7_10 := Q14 BK225.out 10))
      go_ret
      exact ⟨by first | rfl | (simp [Q31, Q28] <;> rfl) | (simp [*, Q31, Q28] <;> rfl), by repeat (first | (with_reducible first | exact HB.out | apply Q17 | apply Q11 | apply Q16 | refine Q22 ?_ GE225.out) | exact HB.out)⟩
    · rw [if_neg c5] at H
      have c5b0 : (a0_0 == 1) = false := beq_eq_false_iff_ne.mpr c5
      have c5b1 : (a0_0 != 1) = true := bne_iff_ne.mpr c5
      by_cases c8 : a0_0 = 2
      · rw [if_pos c8] at H
        have c8b0 : (a0_0 == 2) = true := beq_iff_eq.mpr c8
        have c8b1 : (a0_0 != 2) = false := bne_eq_false_iff_eq.mpr c8
        clear c8
        obtain rfl := Option.some.inj H
        go_enter Tryd.func22, Tryd.ntmps22
        go_wp2_with (first | ((with_reducible refine gate_dst (N := 1) rfl ?_); refine box_event ?hg (N := 1) ?hd (cs := #[.int .i64 a0_0, .int .i64 a0_1, .int .i64 a0_2, .string a0_3, .bool a0_4, .int .u64 a0_5, .int .u64 a0_6, .int .u64 a0_7, .int .u64 a0_8, .int .i64 a0_9, .int .i64 a0_10]) (t := 26) ?hr ?_; (case hd => rfl); (case hg => rfl); (case hr => first | (go_simp; done) | (go_simp; rfl)); intro gb225 hg w9 hbox hb; have n0_ := Aside0.mk (Q25 (by repeat (first | (with_reducible first | exact HB.out | apply Q17 | apply Q11 | apply Q16) | exact HB.out)) hb); have n1_ := Aside0.mk (hbox); have n2_ := Aside0.mk ((by rw [hg]; exact (Q27 (by repeat (first | (with_reducible first | exact HB.out | apply Q17 | apply Q11 | apply Q16) | exact HB.out))) : w.heap.size ≤ gb225)); have n3_ := Aside0.mk ((by rw [hg]; exact (Q27 (by repeat (first | (with_reducible first | exact HB.out | apply Q17 | apply Q11 | apply Q16) | exact HB.out))) : w.heap.size ≤ gb225)); clear HB; have HB := n0_; have BK225 := n1_; have GW225 := n2_; have GE225 := n3_; clear n0_ n1_ n2_ n3_; clear hb hbox hg; have hcz10_0 : w9.cell? ⟨gb225, 0, none⟩ = some (.int .i64 a0_0) := (Q19 BK225.out 0).trans rfl; have hcz10_1 : w9.cell? ⟨gb225, 1, none⟩ = some (.int .i64 a0_1) := (Q19 BK225.out 1).trans rfl; have hcz10_2 : w9.cell? ⟨gb225, 2, none⟩ = some (.int .i64 a0_2) := (Q19 BK225.out 2).trans rfl; have hcz10_3 : w9.cell? ⟨gb225, 3, none⟩ = some (.string a0_3) := (Q19 BK225.out 3).trans rfl; have hcz10_4 : w9.cell? ⟨gb225, 4, none⟩ = some (.bool a0_4) := (Q19 BK225.out 4).trans rfl; have hcz10_5 : w9.cell? ⟨gb225, 5, none⟩ = some (.int .u64 a0_5) := (Q19 BK225.out 5).trans rfl; have hcz10_6 : w9.cell? ⟨gb225, 6, none⟩ = some (.int .u64 a0_6) := (Q19 BK225.out 6).trans rfl; have hcz10_7 : w9.cell? ⟨gb225, 7, none⟩ = some (.int .u64 a0_7) := (Q19 BK225.out 7).trans rfl; have hcz10_8 : w9.cell? ⟨gb225, 8, none⟩ = some (.int .u64 a0_8) := (Q19 BK225.out 8).trans rfl; have hcz10_9 : w9.cell? ⟨gb225, 9, none⟩ = some (.int .i64 a0_9) := (Q19 BK225.out 9).trans rfl; have hcz10_10 : w9.cell? ⟨gb225, 10, none⟩ = some (.int .i64 a0_10) := (Q19 BK225.out 10).trans rfl; have hfz10_0 := Q14 BK225.out 0; have hfz10_1 := Q14 BK225.out 1; have hfz10_2 := Q14 BK225.out 2; have hfz10_3 := Q14 BK225.out 3; have hfz10_4 := Q14 BK225.out 4; have hfz10_5 := Q14 BK225.out 5; have hfz10_6 := Q14 BK225.out 6; have hfz10_7 := Q14 BK225.out 7; have hfz10_8 := Q14 BK225.out 8; have hfz10_9 := Q14 BK225.out 9; have hfz10_10 := Q14 BK225.out 10))
        go_ret
        exact ⟨by first | rfl | (simp [Q31, Q28] <;> rfl) | (simp [*, Q31, Q28] <;> rfl), by repeat (first | (with_reducible first | exact HB.out | apply Q17 | apply Q11 | apply Q16 | refine Q22 ?_ GE225.out) | exact HB.out)⟩
      · rw [if_neg c8] at H
        have c8b0 : (a0_0 == 2) = false := beq_eq_false_iff_ne.mpr c8
        have c8b1 : (a0_0 != 2) = true := bne_iff_ne.mpr c8
        by_cases c11 : a0_0 = 16
        · rw [if_pos c11] at H
          have c11b0 : (a0_0 == 16) = true := beq_iff_eq.mpr c11
          have c11b1 : (a0_0 != 16) = false := bne_eq_false_iff_eq.mpr c11
          clear c11
          by_cases c12 : 1 + a0_3.size ≤ 9223372036854775807
          · rw [if_pos c12] at H
            have c12b0 := eq_true c12
            have c12b1 : decide (1 + a0_3.size ≤ 9223372036854775807) = true := decide_eq_true c12
            try have c12b2 : (9223372036854775807 < 1 + a0_3.size) = False := eq_false (Nat.not_lt.2 c12)
            obtain rfl := Option.some.inj H
            go_enter Tryd.func22, Tryd.ntmps22
            go_wp2_with (first | ((with_reducible refine gate_dst (N := 1) rfl ?_); refine box_event ?hg (N := 1) ?hd (cs := #[.int .i64 a0_0, .int .i64 a0_1, .int .i64 a0_2, .string a0_3, .bool a0_4, .int .u64 a0_5, .int .u64 a0_6, .int .u64 a0_7, .int .u64 a0_8, .int .i64 a0_9, .int .i64 a0_10]) (t := 26) ?hr ?_; (case hd => rfl); (case hg => rfl); (case hr => first | (go_simp; done) | (go_simp; rfl)); intro gb225 hg w13 hbox hb; have n0_ := Aside0.mk (Q25 (by repeat (first | (with_reducible first | exact HB.out | apply Q17 | apply Q11 | apply Q16) | exact HB.out)) hb); have n1_ := Aside0.mk (hbox); have n2_ := Aside0.mk ((by rw [hg]; exact (Q27 (by repeat (first | (with_reducible first | exact HB.out | apply Q17 | apply Q11 | apply Q16) | exact HB.out))) : w.heap.size ≤ gb225)); have n3_ := Aside0.mk ((by rw [hg]; exact (Q27 (by repeat (first | (with_reducible first | exact HB.out | apply Q17 | apply Q11 | apply Q16) | exact HB.out))) : w.heap.size ≤ gb225)); clear HB; have HB := n0_; have BK225 := n1_; have GW225 := n2_; have GE225 := n3_; clear n0_ n1_ n2_ n3_; clear hb hbox hg; have hcz14_0 : w13.cell? ⟨gb225, 0, none⟩ = some (.int .i64 a0_0) := (Q19 BK225.out 0).trans rfl; have hcz14_1 : w13.cell? ⟨gb225, 1, none⟩ = some (.int .i64 a0_1) := (Q19 BK225.out 1).trans rfl; have hcz14_2 : w13.cell? ⟨gb225, 2, none⟩ = some (.int .i64 a0_2) := (Q19 BK225.out 2).trans rfl; have hcz14_3 : w13.cell? ⟨gb225, 3, none⟩ = some (.string a0_3) := (Q19 BK225.out 3).trans rfl; have hcz14_4 : w13.cell? ⟨gb225, 4, none⟩ = some (.bool a0_4) := (Q19 BK225.out 4).trans rfl; have hcz14_5 : w13.cell? ⟨gb225, 5, none⟩ = some (.int .u64 a0_5) := (Q19 BK225.out 5).trans rfl; have hcz14_6 : w13.cell? ⟨gb225, 6, none⟩ = some (.int .u64 a0_6) := (Q19 BK225.out 6).trans rfl; have hcz14_7 : w13.cell? ⟨gb225, 7, none⟩ = some (.int .u64 a0_7) := (Q19 BK225.out 7).trans rfl; have hcz14_8 : w13.cell? ⟨gb225, 8, none⟩ = some (.int .u64 a0_8) := (Q19 BK225.out 8).trans rfl; have hcz14_9 : w13.cell? ⟨gb225, 9, none⟩ = some (.int .i64 a0_9) := (Q19 BK225.out 9).trans rfl; have hcz14_10 : w13.cell? ⟨gb225, 10, none⟩ = some (.int .i64 a0_10) := (Q19 BK225.out 10).trans rfl; have hfz14_0 := Q14 BK225.out 0; have hfz14_1 := Q14 BK225.out 1; have hfz14_2 := Q14 BK225.out 2; have hfz14_3 := Q14 BK225.out 3; have hfz14_4 := Q14 BK225.out 4; have hfz14_5 := Q14 BK225.out 5; have hfz14_6 := Q14 BK225.out 6; have hfz14_7 := Q14 BK225.out 7; have hfz14_8 := Q14 BK225.out 8; have hfz14_9 := Q14 BK225.out 9; have hfz14_10 := Q14 BK225.out 10))
            go_ret
            exact ⟨by first | rfl | (simp [Q31, Q28] <;> rfl) | (simp [*, Q31, Q28] <;> rfl), by repeat (first | (with_reducible first | exact HB.out | apply Q17 | apply Q11 | apply Q16 | refine Q22 ?_ GE225.out) | exact HB.out)⟩
          · rw [if_neg c12] at H
            exact absurd H (by simp)
        · rw [if_neg c11] at H
          have c11b0 : (a0_0 == 16) = false := beq_eq_false_iff_ne.mpr c11
          have c11b1 : (a0_0 != 16) = true := bne_iff_ne.mpr c11
          by_cases c15 : a0_0 = 17
          · rw [if_pos c15] at H
            have c15b0 : (a0_0 == 17) = true := beq_iff_eq.mpr c15
            have c15b1 : (a0_0 != 17) = false := bne_eq_false_iff_eq.mpr c15
            clear c15
            by_cases c16 : 1 + a0_3.size ≤ 9223372036854775807
            · rw [if_pos c16] at H
              have c16b0 := eq_true c16
              have c16b1 : decide (1 + a0_3.size ≤ 9223372036854775807) = true := decide_eq_true c16
              try have c16b2 : (9223372036854775807 < 1 + a0_3.size) = False := eq_false (Nat.not_lt.2 c16)
              obtain rfl := Option.some.inj H
              go_enter Tryd.func22, Tryd.ntmps22
              go_wp2_with (first | ((with_reducible refine gate_dst (N := 1) rfl ?_); refine box_event ?hg (N := 1) ?hd (cs := #[.int .i64 a0_0, .int .i64 a0_1, .int .i64 a0_2, .string a0_3, .bool a0_4, .int .u64 a0_5, .int .u64 a0_6, .int .u64 a0_7, .int .u64 a0_8, .int .i64 a0_9, .int .i64 a0_10]) (t := 26) ?hr ?_; (case hd => rfl); (case hg => rfl); (case hr => first | (go_simp; done) | (go_simp; rfl)); intro gb225 hg w17 hbox hb; have n0_ := Aside0.mk (Q25 (by repeat (first | (with_reducible first | exact HB.out | apply Q17 | apply Q11 | apply Q16) | exact HB.out)) hb); have n1_ := Aside0.mk (hbox); have n2_ := Aside0.mk ((by rw [hg]; exact (Q27 (by repeat (first | (with_reducible first | exact HB.out | apply Q17 | apply Q11 | apply Q16) | exact HB.out))) : w.heap.size ≤ gb225)); have n3_ := Aside0.mk ((by rw [hg]; exact (Q27 (by repeat (first | (with_reducible first | exact HB.out | apply Q17 | apply Q11 | apply Q16) | exact HB.out))) : w.heap.size ≤ gb225)); clear HB; have HB := n0_; have BK225 := n1_; have GW225 := n2_; have GE225 := n3_; clear n0_ n1_ n2_ n3_; clear hb hbox hg; have hcz18_0 : w17.cell? ⟨gb225, 0, none⟩ = some (.int .i64 a0_0) := (Q19 BK225.out 0).trans rfl; have hcz18_1 : w17.cell? ⟨gb225, 1, none⟩ = some (.int .i64 a0_1) := (Q19 BK225.out 1).trans rfl; have hcz18_2 : w17.cell? ⟨gb225, 2, none⟩ = some (.int .i64 a0_2) := (Q19 BK225.out 2).trans rfl; have hcz18_3 : w17.cell? ⟨gb225, 3, none⟩ = some (.string a0_3) := (Q19 BK225.out 3).trans rfl; have hcz18_4 : w17.cell? ⟨gb225, 4, none⟩ = some (.bool a0_4) := (Q19 BK225.out 4).trans rfl; have hcz18_5 : w17.cell? ⟨gb225, 5, none⟩ = some (.int .u64 a0_5) := (Q19 BK225.out 5).trans rfl; have hcz18_6 : w17.cell? ⟨gb225, 6, none⟩ = some (.int .u64 a0_6) := (Q19 BK225.out 6).trans rfl; have hcz18_7 : w17.cell? ⟨gb225, 7, none⟩ = some (.int .u64 a0_7) := (Q19 BK225.out 7).trans rfl; have hcz18_8 : w17.cell? ⟨gb225, 8, none⟩ = some (.int .u64 a0_8) := (Q19 BK225.out 8).trans rfl; have hcz18_9 : w17.cell? ⟨gb225, 9, none⟩ = some (.int .i64 a0_9) := (Q19 BK225.out 9).trans rfl; have hcz18_10 : w17.cell? ⟨gb225, 10, none⟩ = some (.int .i64 a0_10) := (Q19 BK225.out 10).trans rfl; have hfz18_0 := Q14 BK225.out 0; have hfz18_1 := Q14 BK225.out 1; have hfz18_2 := Q14 BK225.out 2; have hfz18_3 := Q14 BK225.out 3; have hfz18_4 := Q14 BK225.out 4; have hfz18_5 := Q14 BK225.out 5; have hfz18_6 := Q14 BK225.out 6; have hfz18_7 := Q14 BK225.out 7; have hfz18_8 := Q14 BK225.out 8; have hfz18_9 := Q14 BK225.out 9; have hfz18_10 := Q14 BK225.out 10))
              go_ret
              exact ⟨by first | rfl | (simp [Q31, Q28] <;> rfl) | (simp [*, Q31, Q28] <;> rfl), by repeat (first | (with_reducible first | exact HB.out | apply Q17 | apply Q11 | apply Q16 | refine Q22 ?_ GE225.out) | exact HB.out)⟩
            · rw [if_neg c16] at H
              exact absurd H (by simp)
          · rw [if_neg c15] at H
            have c15b0 : (a0_0 == 17) = false := beq_eq_false_iff_ne.mpr c15
            have c15b1 : (a0_0 != 17) = true := bne_iff_ne.mpr c15
            by_cases c19 : a0_0 = 15
            · rw [if_pos c19] at H
              have c19b0 : (a0_0 == 15) = true := beq_iff_eq.mpr c19
              have c19b1 : (a0_0 != 15) = false := bne_eq_false_iff_eq.mpr c19
              clear c19
              replace H := Option.bind_eq_some_iff.mp H
              obtain ⟨t226, A200, H⟩ := H
              replace H : (some t226) = some r := H
              have A20 := Aside0.mk A200
              clear A200
              obtain rfl := Option.some.inj H
              go_enter Tryd.func22, Tryd.ntmps22
              go_wp2_with (first | ((with_reducible refine gate_dst (N := 1) rfl ?_); refine box_event ?hg (N := 1) ?hd (cs := #[.int .i64 a0_0, .int .i64 a0_1, .int .i64 a0_2, .string a0_3, .bool a0_4, .int .u64 a0_5, .int .u64 a0_6, .int .u64 a0_7, .int .u64 a0_8, .int .i64 a0_9, .int .i64 a0_10]) (t := 26) ?hr ?_; (case hd => rfl); (case hg => rfl); (case hr => first | (go_simp; done) | (go_simp; rfl)); intro gb225 hg w21 hbox hb; have n0_ := Aside0.mk (Q25 (by repeat (first | (with_reducible first | exact HB.out | apply Q17 | apply Q11 | apply Q16) | exact HB.out)) hb); have n1_ := Aside0.mk (hbox); have n2_ := Aside0.mk ((by rw [hg]; exact (Q27 (by repeat (first | (with_reducible first | exact HB.out | apply Q17 | apply Q11 | apply Q16) | exact HB.out))) : w.heap.size ≤ gb225)); have n3_ := Aside0.mk ((by rw [hg]; exact (Q27 (by repeat (first | (with_reducible first | exact HB.out | apply Q17 | apply Q11 | apply Q16) | exact HB.out))) : w.heap.size ≤ gb225)); clear HB; have HB := n0_; have BK225 := n1_; have GW225 := n2_; have GE225 := n3_; clear n0_ n1_ n2_ n3_; clear hb hbox hg; have hcz22_0 : w21.cell? ⟨gb225, 0, none⟩ = some (.int .i64 a0_0) := (Q19 BK225.out 0).trans rfl; have hcz22_1 : w21.cell? ⟨gb225, 1, none⟩ = some (.int .i64 a0_1) := (Q19 BK225.out 1).trans rfl; have hcz22_2 : w21.cell? ⟨gb225, 2, none⟩ = some (.int .i64 a0_2) := (Q19 BK225.out 2).trans rfl; have hcz22_3 : w21.cell? ⟨gb225, 3, none⟩ = some (.string a0_3) := (Q19 BK225.out 3).trans rfl; have hcz22_4 : w21.cell? ⟨gb225, 4, none⟩ = some (.bool a0_4) := (Q19 BK225.out 4).trans rfl; have hcz22_5 : w21.cell? ⟨gb225, 5, none⟩ = some (.int .u64 a0_5) := (Q19 BK225.out 5).trans rfl; have hcz22_6 : w21.cell? ⟨gb225, 6, none⟩ = some (.int .u64 a0_6) := (Q19 BK225.out 6).trans rfl; have hcz22_7 : w21.cell? ⟨gb225, 7, none⟩ = some (.int .u64 a0_7) := (Q19 BK225.out 7).trans rfl; have hcz22_8 : w21.cell? ⟨gb225, 8, none⟩ = some (.int .u64 a0_8) := (Q19 BK225.out 8).trans rfl; have hcz22_9 : w21.cell? ⟨gb225, 9, none⟩ = some (.int .i64 a0_9) := (Q19 BK225.out 9).trans rfl; have hcz22_10 : w21.cell? ⟨gb225, 10, none⟩ = some (.int .i64 a0_10) := (Q19 BK225.out 10).trans rfl; have hfz22_0 := Q14 BK225.out 0; have hfz22_1 := Q14 BK225.out 1; have hfz22_2 := Q14 BK225.out 2; have hfz22_3 := Q14 BK225.out 3; have hfz22_4 := Q14 BK225.out 4; have hfz22_5 := Q14 BK225.out 5; have hfz22_6 := Q14 BK225.out 6; have hfz22_7 := Q14 BK225.out 7; have hfz22_8 := Q14 BK225.out 8; have hfz22_9 := Q14 BK225.out 9; have hfz22_10 := Q14 BK225.out 10) | ((with_reducible refine Q34 (f := 41) rfl ?_); refine goesL_ (some 28) rfl rfl Tryd.func41 (by kernel_rfl) rfl #[.agg #[.int .u64 a0_5, .int .u64 a0_6, .int .u64 a0_7, .int .u64 a0_8]] rfl (by (try simp only [List.map_toArray, List.map_cons, List.map_nil]); first | done | rfl | (simp only [List.length_drop, List.length_take]; rfl)) ?_; (with_reducible refine (dowelref03_Text.calls k a0_5 a0_6 a0_7 a0_8 t226 _ A20.out).mono ?_); rintro e w23 ⟨rfl, hb⟩; refine ⟨_, rfl, ?_⟩; have n0_ := Aside0.mk (Q35 (g := gb225) (o := .cells #[.int .i64 a0_0, .int .i64 a0_1, .int .i64 a0_2, .string a0_3, .bool a0_4, .int .u64 a0_5, .int .u64 a0_6, .int .u64 a0_7, .int .u64 a0_8, .int .i64 a0_9, .int .i64 a0_10] 26 (0, 0)) (by (with_reducible repeat (first | refine Q23 ?_ _ | refine Q26 ?_ | refine Q24 ?_ _)); exact BK225.out) hb); have n1_ := Aside0.mk (Q25 (by repeat (first | (with_reducible first | exact HB.out | apply Q17 | apply Q11 | apply Q16 | refine Q22 ?_ GE225.out) | exact HB.out)) hb); clear BK225; clear HB; have BK225 := n0_; have HB := n1_; clear n0_ n1_; (try clear hb); (try clear hb2); (try clear hk); (try clear hi)))
              go_ret
              exact ⟨by first | rfl | (simp [Q31, Q28] <;> rfl) | (simp [*, Q31, Q28] <;> rfl), by repeat (first | (with_reducible first | exact HB.out | apply Q17 | apply Q11 | apply Q16 | refine Q22 ?_ GE225.out) | exact HB.out)⟩
            · rw [if_neg c19] at H
              have c19b0 : (a0_0 == 15) = false := beq_eq_false_iff_ne.mpr c19
              have c19b1 : (a0_0 != 15) = true := bne_iff_ne.mpr c19
              by_cases c24 : a0_0 = 14
              · rw [if_pos c24] at H
                have c24b0 : (a0_0 == 14) = true := beq_iff_eq.mpr c24
                have c24b1 : (a0_0 != 14) = false := bne_eq_false_iff_eq.mpr c24
                clear c24
                by_cases c25 : a0_4 = true
                · subst c25
                  have H1 : ((dowelref04_Quoted.f a0_3).bind fun t227 => (if t227.size + 1 ≤ 9223372036854775807 then (some (t227 ++ (⟨#[105]⟩ : ByteArray))) else (none))) = some r := by rw [if_pos rfl] at H; exact H
                  clear H
                  have H := H1
                  clear H1
                  replace H := Option.bind_eq_some_iff.mp H
                  obtain ⟨t227, A260, H⟩ := H
                  replace H : (if t227.size + 1 ≤ 9223372036854775807 then (some (t227 ++ (⟨#[105]⟩ : ByteArray))) else (none)) = some r := H
                  have A26 := Aside0.mk A260
                  clear A260
                  by_cases c27 : t227.size + 1 ≤ 9223372036854775807
                  · rw [if_pos c27] at H
                    have c27b0 := eq_true c27
                    have c27b1 : decide (t227.size + 1 ≤ 9223372036854775807) = true := decide_eq_true c27
                    try have c27b2 : (9223372036854775807 < t227.size + 1) = False := eq_false (Nat.not_lt.2 c27)
                    obtain rfl := Option.some.inj H
                    go_enter Tryd.func22, Tryd.ntmps22
                    go_wp2_with (first | ((with_reducible refine gate_dst (N := 1) rfl ?_); refine box_event ?hg (N := 1) ?hd (cs := #[.int .i64 a0_0, .int .i64 a0_1, .int .i64 a0_2, .string a0_3, .bool true, .int .u64 a0_5, .int .u64 a0_6, .int .u64 a0_7, .int .u64 a0_8, .int .i64 a0_9, .int .i64 a0_10]) (t := 26) ?hr ?_; (case hd => rfl); (case hg => rfl); (case hr => first | (go_simp; done) | (go_simp; rfl)); intro gb225 hg w28 hbox hb; have n0_ := Aside0.mk (Q25 (by repeat (first | (with_reducible first | exact HB.out | apply Q17 | apply Q11 | apply Q16) | exact HB.out)) hb); have n1_ := Aside0.mk (hbox); have n2_ := Aside0.mk ((by rw [hg]; exact (Q27 (by repeat (first | (with_reducible first | exact HB.out | apply Q17 | apply Q11 | apply Q16) | exact HB.out))) : w.heap.size ≤ gb225)); have n3_ := Aside0.mk ((by rw [hg]; exact (Q27 (by repeat (first | (with_reducible first | exact HB.out | apply Q17 | apply Q11 | apply Q16) | exact HB.out))) : w.heap.size ≤ gb225)); clear HB; have HB := n0_; have BK225 := n1_; have GW225 := n2_; have GE225 := n3_; clear n0_ n1_ n2_ n3_; clear hb hbox hg; have hcz29_0 : w28.cell? ⟨gb225, 0, none⟩ = some (.int .i64 a0_0) := (Q19 BK225.out 0).trans rfl; have hcz29_1 : w28.cell? ⟨gb225, 1, none⟩ = some (.int .i64 a0_1) := (Q19 BK225.out 1).trans rfl; have hcz29_2 : w28.cell? ⟨gb225, 2, none⟩ = some (.int .i64 a0_2) := (Q19 BK225.out 2).trans rfl; have hcz29_3 : w28.cell? ⟨gb225, 3, none⟩ = some (.string a0_3) := (Q19 BK225.out 3).trans rfl; have hcz29_4 : w28.cell? ⟨gb225, 4, none⟩ = some (.bool true) := (Q19 BK225.out 4).trans rfl; have hcz29_5 : w28.cell? ⟨gb225, 5, none⟩ = some (.int .u64 a0_5) := (Q19 BK225.out 5).trans rfl; have hcz29_6 : w28.cell? ⟨gb225, 6, none⟩ = some (.int .u64 a0_6) := (Q19 BK225.out 6).trans rfl; have hcz29_7 : w28.cell? ⟨gb225, 7, none⟩ = some (.int .u64 a0_7) := (Q19 BK225.out 7).trans rfl; have hcz29_8 : w28.cell? ⟨gb225, 8, none⟩ = some (.int .u64 a0_8) := (Q19 BK225.out 8).trans rfl; have hcz29_9 : w28.cell? ⟨gb225, 9, none⟩ = some (.int .i64 a0_9) := (Q19 BK225.out 9).trans rfl; have hcz29_10 : w28.cell? ⟨gb225, 10, none⟩ = some (.int .i64 a0_10) := (Q19 BK225.out 10).trans rfl; have hfz29_0 := Q14 BK225.out 0; have hfz29_1 := Q14 BK225.out 1; have hfz29_2 := Q14 BK225.out 2; have hfz29_3 := Q14 BK225.out 3; have hfz29_4 := Q14 BK225.out 4; have hfz29_5 := Q14 BK225.out 5; have hfz29_6 := Q14 BK225.out 6; have hfz29_7 := Q14 BK225.out 7; have hfz29_8 := Q14 BK225.out 8; have hfz29_9 := Q14 BK225.out 9; have hfz29_10 := Q14 BK225.out 10) | ((with_reducible refine Q34 (f := 42) rfl ?_); refine goesL_ (some 35) rfl rfl Tryd.func42 (by kernel_rfl) rfl #[.string a0_3] rfl (by (try simp only [List.map_toArray, List.map_cons, List.map_nil]); first | done | rfl | (simp only [List.length_drop, List.length_take]; rfl)) ?_; (with_reducible refine (dowelref04_Quoted.calls a0_3 t227 _ A26.out).mono ?_); rintro e w30 ⟨rfl, hb⟩; refine ⟨_, rfl, ?_⟩; have n0_ := Aside0.mk (Q35 (g := gb225) (o := .cells #[.int .i64 a0_0, .int .i64 a0_1, .int .i64 a0_2, .string a0_3, .bool true, .int .u64 a0_5, .int .u64 a0_6, .int .u64 a0_7, .int .u64 a0_8, .int .i64 a0_9, .int .i64 a0_10] 26 (0, 0)) (by (with_reducible repeat (first | refine Q23 ?_ _ | refine Q26 ?_ | refine Q24 ?_ _)); exact BK225.out) hb); have n1_ := Aside0.mk (Q25 (by repeat (first | (with_reducible first | exact HB.out | apply Q17 | apply Q11 | apply Q16 | refine Q22 ?_ GE225.out) | exact HB.out)) hb); clear BK225; clear HB; have BK225 := n0_; have HB := n1_; clear n0_ n1_; (try clear hb); (try clear hb2); (try clear hk); (try clear hi)))
                    go_ret
                    exact ⟨by first | rfl | (simp [Q31, Q28] <;> rfl) | (simp [*, Q31, Q28] <;> rfl), by repeat (first | (with_reducible first | exact HB.out | apply Q17 | apply Q11 | apply Q16 | refine Q22 ?_ GE225.out) | exact HB.out)⟩
                  · rw [if_neg c27] at H
                    exact absurd H (by simp)
                · replace c25 := Bool.eq_false_iff.mpr c25
                  subst c25
                  have H1 : ((dowelref04_Quoted.f a0_3).bind fun t228 => (some t228)) = some r := by rw [if_neg (show ¬ (false = true) by decide)] at H; exact H
                  clear H
                  have H := H1
                  clear H1
                  replace H := Option.bind_eq_some_iff.mp H
                  obtain ⟨t228, A310, H⟩ := H
                  replace H : (some t228) = some r := H
                  have A31 := Aside0.mk A310
                  clear A310
                  obtain rfl := Option.some.inj H
                  go_enter Tryd.func22, Tryd.ntmps22
                  go_wp2_with (first | ((with_reducible refine gate_dst (N := 1) rfl ?_); refine box_event ?hg (N := 1) ?hd (cs := #[.int .i64 a0_0, .int .i64 a0_1, .int .i64 a0_2, .string a0_3, .bool false, .int .u64 a0_5, .int .u64 a0_6, .int .u64 a0_7, .int .u64 a0_8, .int .i64 a0_9, .int .i64 a0_10]) (t := 26) ?hr ?_; (case hd => rfl); (case hg => rfl); (case hr => first | (go_simp; done) | (go_simp; rfl)); intro gb225 hg w32 hbox hb; have n0_ := Aside0.mk (Q25 (by repeat (first | (with_reducible first | exact HB.out | apply Q17 | apply Q11 | apply Q16) | exact HB.out)) hb); have n1_ := Aside0.mk (hbox); have n2_ := Aside0.mk ((by rw [hg]; exact (Q27 (by repeat (first | (with_reducible first | exact HB.out | apply Q17 | apply Q11 | apply Q16) | exact HB.out))) : w.heap.size ≤ gb225)); have n3_ := Aside0.mk ((by rw [hg]; exact (Q27 (by repeat (first | (with_reducible first | exact HB.out | apply Q17 | apply Q11 | apply Q16) | exact HB.out))) : w.heap.size ≤ gb225)); clear HB; have HB := n0_; have BK225 := n1_; have GW225 := n2_; have GE225 := n3_; clear n0_ n1_ n2_ n3_; clear hb hbox hg; have hcz33_0 : w32.cell? ⟨gb225, 0, none⟩ = some (.int .i64 a0_0) := (Q19 BK225.out 0).trans rfl; have hcz33_1 : w32.cell? ⟨gb225, 1, none⟩ = some (.int .i64 a0_1) := (Q19 BK225.out 1).trans rfl; have hcz33_2 : w32.cell? ⟨gb225, 2, none⟩ = some (.int .i64 a0_2) := (Q19 BK225.out 2).trans rfl; have hcz33_3 : w32.cell? ⟨gb225, 3, none⟩ = some (.string a0_3) := (Q19 BK225.out 3).trans rfl; have hcz33_4 : w32.cell? ⟨gb225, 4, none⟩ = some (.bool false) := (Q19 BK225.out 4).trans rfl; have hcz33_5 : w32.cell? ⟨gb225, 5, none⟩ = some (.int .u64 a0_5) := (Q19 BK225.out 5).trans rfl; have hcz33_6 : w32.cell? ⟨gb225, 6, none⟩ = some (.int .u64 a0_6) := (Q19 BK225.out 6).trans rfl; have hcz33_7 : w32.cell? ⟨gb225, 7, none⟩ = some (.int .u64 a0_7) := (Q19 BK225.out 7).trans rfl; have hcz33_8 : w32.cell? ⟨gb225, 8, none⟩ = some (.int .u64 a0_8) := (Q19 BK225.out 8).trans rfl; have hcz33_9 : w32.cell? ⟨gb225, 9, none⟩ = some (.int .i64 a0_9) := (Q19 BK225.out 9).trans rfl; have hcz33_10 : w32.cell? ⟨gb225, 10, none⟩ = some (.int .i64 a0_10) := (Q19 BK225.out 10).trans rfl; have hfz33_0 := Q14 BK225.out 0; have hfz33_1 := Q14 BK225.out 1; have hfz33_2 := Q14 BK225.out 2; have hfz33_3 := Q14 BK225.out 3; have hfz33_4 := Q14 BK225.out 4; have hfz33_5 := Q14 BK225.out 5; have hfz33_6 := Q14 BK225.out 6; have hfz33_7 := Q14 BK225.out 7; have hfz33_8 := Q14 BK225.out 8; have hfz33_9 := Q14 BK225.out 9; have hfz33_10 := Q14 BK225.out 10) | ((with_reducible refine Q34 (f := 42) rfl ?_); refine goesL_ (some 39) rfl rfl Tryd.func42 (by kernel_rfl) rfl #[.string a0_3] rfl (by (try simp only [List.map_toArray, List.map_cons, List.map_nil]); first | done | rfl | (simp only [List.length_drop, List.length_take]; rfl)) ?_; (with_reducible refine (dowelref04_Quoted.calls a0_3 t228 _ A31.out).mono ?_); rintro e w34 ⟨rfl, hb⟩; refine ⟨_, rfl, ?_⟩; have n0_ := Aside0.mk (Q35 (g := gb225) (o := .cells #[.int .i64 a0_0, .int .i64 a0_1, .int .i64 a0_2, .string a0_3, .bool false, .int .u64 a0_5, .int .u64 a0_6, .int .u64 a0_7, .int .u64 a0_8, .int .i64 a0_9, .int .i64 a0_10] 26 (0, 0)) (by (with_reducible repeat (first | refine Q23 ?_ _ | refine Q26 ?_ | refine Q24 ?_ _)); exact BK225.out) hb); have n1_ := Aside0.mk (Q25 (by repeat (first | (with_reducible first | exact HB.out | apply Q17 | apply Q11 | apply Q16 | refine Q22 ?_ GE225.out) | exact HB.out)) hb); clear BK225; clear HB; have BK225 := n0_; have HB := n1_; clear n0_ n1_; (try clear hb); (try clear hb2); (try clear hk); (try clear hi)))
                  go_ret
                  exact ⟨by first | rfl | (simp [Q31, Q28] <;> rfl) | (simp [*, Q31, Q28] <;> rfl), by repeat (first | (with_reducible first | exact HB.out | apply Q17 | apply Q11 | apply Q16 | refine Q22 ?_ GE225.out) | exact HB.out)⟩
              · rw [if_neg c24] at H
                have c24b0 : (a0_0 == 14) = false := beq_eq_false_iff_ne.mpr c24
                have c24b1 : (a0_0 != 14) = true := bne_iff_ne.mpr c24
                by_cases c35 : a0_0 = 9
                · rw [if_pos c35] at H
                  have c35b0 : (a0_0 == 9) = true := beq_iff_eq.mpr c35
                  have c35b1 : (a0_0 != 9) = false := bne_eq_false_iff_eq.mpr c35
                  clear c35
                  by_cases c36 : a0_10 = a0_9
                  · rw [if_pos c36] at H
                    have c36b0 : (a0_10 == a0_9) = true := beq_iff_eq.mpr c36
                    have c36b1 : (a0_10 != a0_9) = false := bne_eq_false_iff_eq.mpr c36
                    clear c36
                    replace H := Option.bind_eq_some_iff.mp H
                    obtain ⟨t229, A370, H⟩ := H
                    replace H : (if 1 + t229.size ≤ 9223372036854775807 then (if ((⟨#[123]⟩ : ByteArray) ++ t229).size + 1 ≤ 9223372036854775807 then (some (((⟨#[123]⟩ : ByteArray) ++ t229) ++ (⟨#[125]⟩ : ByteArray))) else (none)) else (none)) = some r := H
                    have A37 := Aside0.mk A370
                    clear A370
                    by_cases c38 : 1 + t229.size ≤ 9223372036854775807
                    · rw [if_pos c38] at H
                      have c38b0 := eq_true c38
                      have c38b1 : decide (1 + t229.size ≤ 9223372036854775807) = true := decide_eq_true c38
                      try have c38b2 : (9223372036854775807 < 1 + t229.size) = False := eq_false (Nat.not_lt.2 c38)
                      by_cases c39 : ((⟨#[123]⟩ : ByteArray) ++ t229).size + 1 ≤ 9223372036854775807
                      · rw [if_pos c39] at H
                        have c39b0 := eq_true c39
                        have c39b1 : decide (((⟨#[123]⟩ : ByteArray) ++ t229).size + 1 ≤ 9223372036854775807) = true := decide_eq_true c39
                        have c39z : (9223372036854775807 < 1 + t229.size + 1) = False := eq_false (by have h_ := c39; simp only [ByteArray.size_append] at h_; have : (⟨#[123]⟩ : ByteArray).size = 1 := rfl; omega)
                        try have c39b2 : (9223372036854775807 < ((⟨#[123]⟩ : ByteArray) ++ t229).size + 1) = False := eq_false (Nat.not_lt.2 c39)
                        obtain rfl := Option.some.inj H
                        go_enter Tryd.func22, Tryd.ntmps22
                        go_wp2_with (first | ((with_reducible refine gate_dst (N := 1) rfl ?_); refine box_event ?hg (N := 1) ?hd (cs := #[.int .i64 a0_0, .int .i64 a0_1, .int .i64 a0_2, .string a0_3, .bool a0_4, .int .u64 a0_5, .int .u64 a0_6, .int .u64 a0_7, .int .u64 a0_8, .int .i64 a0_9, .int .i64 a0_10]) (t := 26) ?hr ?_; (case hd => rfl); (case hg => rfl); (case hr => first | (go_simp; done) | (go_simp; rfl)); intro gb225 hg w40 hbox hb; have n0_ := Aside0.mk (Q25 (by repeat (first | (with_reducible first | exact HB.out | apply Q17 | apply Q11 | apply Q16) | exact HB.out)) hb); have n1_ := Aside0.mk (hbox); have n2_ := Aside0.mk ((by rw [hg]; exact (Q27 (by repeat (first | (with_reducible first | exact HB.out | apply Q17 | apply Q11 | apply Q16) | exact HB.out))) : w.heap.size ≤ gb225)); have n3_ := Aside0.mk ((by rw [hg]; exact (Q27 (by repeat (first | (with_reducible first | exact HB.out | apply Q17 | apply Q11 | apply Q16) | exact HB.out))) : w.heap.size ≤ gb225)); clear HB; have HB := n0_; have BK225 := n1_; have GW225 := n2_; have GE225 := n3_; clear n0_ n1_ n2_ n3_; clear hb hbox hg; have hcz41_0 : w40.cell? ⟨gb225, 0, none⟩ = some (.int .i64 a0_0) := (Q19 BK225.out 0).trans rfl; have hcz41_1 : w40.cell? ⟨gb225, 1, none⟩ = some (.int .i64 a0_1) := (Q19 BK225.out 1).trans rfl; have hcz41_2 : w40.cell? ⟨gb225, 2, none⟩ = some (.int .i64 a0_2) := (Q19 BK225.out 2).trans rfl; have hcz41_3 : w40.cell? ⟨gb225, 3, none⟩ = some (.string a0_3) := (Q19 BK225.out 3).trans rfl; have hcz41_4 : w40.cell? ⟨gb225, 4, none⟩ = some (.bool a0_4) := (Q19 BK225.out 4).trans rfl; have hcz41_5 : w40.cell? ⟨gb225, 5, none⟩ = some (.int .u64 a0_5) := (Q19 BK225.out 5).trans rfl; have hcz41_6 : w40.cell? ⟨gb225, 6, none⟩ = some (.int .u64 a0_6) := (Q19 BK225.out 6).trans rfl; have hcz41_7 : w40.cell? ⟨gb225, 7, none⟩ = some (.int .u64 a0_7) := (Q19 BK225.out 7).trans rfl; have hcz41_8 : w40.cell? ⟨gb225, 8, none⟩ = some (.int .u64 a0_8) := (Q19 BK225.out 8).trans rfl; have hcz41_9 : w40.cell? ⟨gb225, 9, none⟩ = some (.int .i64 a0_9) := (Q19 BK225.out 9).trans rfl; have hcz41_10 : w40.cell? ⟨gb225, 10, none⟩ = some (.int .i64 a0_10) := (Q19 BK225.out 10).trans rfl; have hfz41_0 := Q14 BK225.out 0; have hfz41_1 := Q14 BK225.out 1; have hfz41_2 := Q14 BK225.out 2; have hfz41_3 := Q14 BK225.out 3; have hfz41_4 := Q14 BK225.out 4; have hfz41_5 := Q14 BK225.out 5; have hfz41_6 := Q14 BK225.out 6; have hfz41_7 := Q14 BK225.out 7; have hfz41_8 := Q14 BK225.out 8; have hfz41_9 := Q14 BK225.out 9; have hfz41_10 := Q14 BK225.out 10) | ((with_reducible refine Q34 (f := 43) rfl ?_); refine goesL_ (some 50) rfl rfl Tryd.func43 (by kernel_rfl) rfl #[.int .i64 a0_9] rfl (by (try simp only [List.map_toArray, List.map_cons, List.map_nil]); first | done | rfl | (simp only [List.length_drop, List.length_take]; rfl)) ?_; (with_reducible refine (dowelref04_Digits.calls k a0_9 t229 _ A37.out).mono ?_); rintro e w42 ⟨rfl, hb⟩; refine ⟨_, rfl, ?_⟩; have n0_ := Aside0.mk (Q35 (g := gb225) (o := .cells #[.int .i64 a0_0, .int .i64 a0_1, .int .i64 a0_2, .string a0_3, .bool a0_4, .int .u64 a0_5, .int .u64 a0_6, .int .u64 a0_7, .int .u64 a0_8, .int .i64 a0_9, .int .i64 a0_10] 26 (0, 0)) (by (with_reducible repeat (first | refine Q23 ?_ _ | refine Q26 ?_ | refine Q24 ?_ _)); exact BK225.out) hb); have n1_ := Aside0.mk (Q25 (by repeat (first | (with_reducible first | exact HB.out | apply Q17 | apply Q11 | apply Q16 | refine Q22 ?_ GE225.out) | exact HB.out)) hb); clear BK225; clear HB; have BK225 := n0_; have HB := n1_; clear n0_ n1_; (try clear hb); (try clear hb2); (try clear hk); (try clear hi)))
                        go_ret
                        exact ⟨by first | rfl | (simp [Q31, Q28] <;> rfl) | (simp [*, Q31, Q28] <;> rfl), by repeat (first | (with_reducible first | exact HB.out | apply Q17 | apply Q11 | apply Q16 | refine Q22 ?_ GE225.out) | exact HB.out)⟩
                      · rw [if_neg c39] at H
                        exact absurd H (by simp)
                    · rw [if_neg c38] at H
                      exact absurd H (by simp)
                  · rw [if_neg c36] at H
                    have c36b0 : (a0_10 == a0_9) = false := beq_eq_false_iff_ne.mpr c36
                    have c36b1 : (a0_10 != a0_9) = true := bne_iff_ne.mpr c36
                    by_cases c43 : a0_10 = (-1)
                    · rw [if_pos c43] at H
                      have c43b0 : (a0_10 == (-1)) = true := beq_iff_eq.mpr c43
                      have c43b1 : (a0_10 != (-1)) = false := bne_eq_false_iff_eq.mpr c43
                      clear c43
                      replace H := Option.bind_eq_some_iff.mp H
                      obtain ⟨t230, A440, H⟩ := H
                      replace H : (if 1 + t230.size ≤ 9223372036854775807 then (if ((⟨#[123]⟩ : ByteArray) ++ t230).size + 2 ≤ 9223372036854775807 then (some (((⟨#[123]⟩ : ByteArray) ++ t230) ++ (⟨#[44, 125]⟩ : ByteArray))) else (none)) else (none)) = some r := H
                      have A44 := Aside0.mk A440
                      clear A440
                      by_cases c45 : 1 + t230.size ≤ 9223372036854775807
                      · rw [if_pos c45] at H
                        have c45b0 := eq_true c45
                        have c45b1 : decide (1 + t230.size ≤ 9223372036854775807) = true := decide_eq_true c45
                        try have c45b2 : (9223372036854775807 < 1 + t230.size) = False := eq_false (Nat.not_lt.2 c45)
                        by_cases c46 : ((⟨#[123]⟩ : ByteArray) ++ t230).size + 2 ≤ 9223372036854775807
                        · rw [if_pos c46] at H
                          have c46b0 := eq_true c46
                          have c46b1 : decide (((⟨#[123]⟩ : ByteArray) ++ t230).size + 2 ≤ 9223372036854775807) = true := decide_eq_true c46
                          have c46z : (9223372036854775807 < 1 + t230.size + 2) = False := eq_false (by have h_ := c46; simp only [ByteArray.size_append] at h_; have : (⟨#[123]⟩ : ByteArray).size = 1 := rfl; omega)
                          try have c46b2 : (9223372036854775807 < ((⟨#[123]⟩ : ByteArray) ++ t230).size + 2) = False := eq_false (Nat.not_lt.2 c46)
                          obtain rfl := Option.some.inj H
                          go_enter Tryd.func22, Tryd.ntmps22
                          go_wp2_with (first | ((with_reducible refine gate_dst (N := 1) rfl ?_); refine box_event ?hg (N := 1) ?hd (cs := #[.int .i64 a0_0, .int .i64 a0_1, .int .i64 a0_2, .string a0_3, .bool a0_4, .int .u64 a0_5, .int .u64 a0_6, .int .u64 a0_7, .int .u64 a0_8, .int .i64 a0_9, .int .i64 a0_10]) (t := 26) ?hr ?_; (case hd => rfl); (case hg => rfl); (case hr => first | (go_simp; done) | (go_simp; rfl)); intro gb225 hg w47 hbox hb; have n0_ := Aside0.mk (Q25 (by repeat (first | (with_reducible first | exact HB.out | apply Q17 | apply Q11 | apply Q16) | exact HB.out)) hb); have n1_ := Aside0.mk (hbox); have n2_ := Aside0.mk ((by rw [hg]; exact (Q27 (by repeat (first | (with_reducible first | exact HB.out | apply Q17 | apply Q11 | apply Q16) | exact HB.out))) : w.heap.size ≤ gb225)); have n3_ := Aside0.mk ((by rw [hg]; exact (Q27 (by repeat (first | (with_reducible first | exact HB.out | apply Q17 | apply Q11 | apply Q16) | exact HB.out))) : w.heap.size ≤ gb225)); clear HB; have HB := n0_; have BK225 := n1_; have GW225 := n2_; have GE225 := n3_; clear n0_ n1_ n2_ n3_; clear hb hbox hg; have hcz48_0 : w47.cell? ⟨gb225, 0, none⟩ = some (.int .i64 a0_0) := (Q19 BK225.out 0).trans rfl; have hcz48_1 : w47.cell? ⟨gb225, 1, none⟩ = some (.int .i64 a0_1) := (Q19 BK225.out 1).trans rfl; have hcz48_2 : w47.cell? ⟨gb225, 2, none⟩ = some (.int .i64 a0_2) := (Q19 BK225.out 2).trans rfl; have hcz48_3 : w47.cell? ⟨gb225, 3, none⟩ = some (.string a0_3) := (Q19 BK225.out 3).trans rfl; have hcz48_4 : w47.cell? ⟨gb225, 4, none⟩ = some (.bool a0_4) := (Q19 BK225.out 4).trans rfl; have hcz48_5 : w47.cell? ⟨gb225, 5, none⟩ = some (.int .u64 a0_5) := (Q19 BK225.out 5).trans rfl; have hcz48_6 : w47.cell? ⟨gb225, 6, none⟩ = some (.int .u64 a0_6) := (Q19 BK225.out 6).trans rfl; have hcz48_7 : w47.cell? ⟨gb225, 7, none⟩ = some (.int .u64 a0_7) := (Q19 BK225.out 7).trans rfl; have hcz48_8 : w47.cell? ⟨gb225, 8, none⟩ = some (.int .u64 a0_8) := (Q19 BK225.out 8).trans rfl; have hcz48_9 : w47.cell? ⟨gb225, 9, none⟩ = some (.int .i64 a0_9) := (Q19 BK225.out 9).trans rfl; have hcz48_10 : w47.cell? ⟨gb225, 10, none⟩ = some (.int .i64 a0_10) := (Q19 BK225.out 10).trans rfl; have hfz48_0 := Q14 BK225.out 0; have hfz48_1 := Q14 BK225.out 1; have hfz48_2 := Q14 BK225.out 2; have hfz48_3 := Q14 BK225.out 3; have hfz48_4 := Q14 BK225.out 4; have hfz48_5 := Q14 BK225.out 5; have hfz48_6 := Q14 BK225.out 6; have hfz48_7 := Q14 BK225.out 7; have hfz48_8 := Q14 BK225.out 8; have hfz48_9 := Q14 BK225.out 9; have hfz48_10 := Q14 BK225.out 10) | ((with_reducible refine Q34 (f := 43) rfl ?_); refine goesL_ (some 57) rfl rfl Tryd.func43 (by kernel_rfl) rfl #[.int .i64 a0_9] rfl (by (try simp only [List.map_toArray, List.map_cons, List.map_nil]); first | done | rfl | (simp only [List.length_drop, List.length_take]; rfl)) ?_; (with_reducible refine (dowelref04_Digits.calls k a0_9 t230 _ A44.out).mono ?_); rintro e w49 ⟨rfl, hb⟩; refine ⟨_, rfl, ?_⟩; have n0_ := Aside0.mk (Q35 (g := gb225) (o := .cells #[.int .i64 a0_0, .int .i64 a0_1, .int .i64 a0_2, .string a0_3, .bool a0_4, .int .u64 a0_5, .int .u64 a0_6, .int .u64 a0_7, .int .u64 a0_8, .int .i64 a0_9, .int .i64 a0_10] 26 (0, 0)) (by (with_reducible repeat (first | refine Q23 ?_ _ | refine Q26 ?_ | refine Q24 ?_ _)); exact BK225.out) hb); have n1_ := Aside0.mk (Q25 (by repeat (first | (with_reducible first | exact HB.out | apply Q17 | apply Q11 | apply Q16 | refine Q22 ?_ GE225.out) | exact HB.out)) hb); clear BK225; clear HB; have BK225 := n0_; have HB := n1_; clear n0_ n1_; (try clear hb); (try clear hb2); (try clear hk); (try clear hi)))
                          go_ret
                          exact ⟨by first | rfl | (simp [Q31, Q28] <;> rfl) | (simp [*, Q31, Q28] <;> rfl), by repeat (first | (with_reducible first | exact HB.out | apply Q17 | apply Q11 | apply Q16 | refine Q22 ?_ GE225.out) | exact HB.out)⟩
                        · rw [if_neg c46] at H
                          exact absurd H (by simp)
                      · rw [if_neg c45] at H
                        exact absurd H (by simp)
                    · rw [if_neg c43] at H
                      have c43b0 : (a0_10 == (-1)) = false := beq_eq_false_iff_ne.mpr c43
                      have c43b1 : (a0_10 != (-1)) = true := bne_iff_ne.mpr c43
                      replace H := Option.bind_eq_some_iff.mp H
                      obtain ⟨t231, A500, H⟩ := H
                      replace H : (if 1 + t231.size ≤ 9223372036854775807 then (if ((⟨#[123]⟩ : ByteArray) ++ t231).size + 1 ≤ 9223372036854775807 then ((dowelref04_Digits.f k a0_10).bind fun t232 => (if (((⟨#[123]⟩ : ByteArray) ++ t231) ++ (⟨#[44]⟩ : ByteArray)).size + t232.size ≤ 9223372036854775807 then (if ((((⟨#[123]⟩ : ByteArray) ++ t231) ++ (⟨#[44]⟩ : ByteArray)) ++ t232).size + 1 ≤ 9223372036854775807 then (some (((((⟨#[123]⟩ : ByteArray) ++ t231) ++ (⟨#[44]⟩ : ByteArray)) ++ t232) ++ (⟨#[125]⟩ : ByteArray))) else (none)) else (none))) else (none)) else (none)) = some r := H
                      have A50 := Aside0.mk A500
                      clear A500
                      by_cases c51 : 1 + t231.size ≤ 9223372036854775807
                      · rw [if_pos c51] at H
                        have c51b0 := eq_true c51
                        have c51b1 : decide (1 + t231.size ≤ 9223372036854775807) = true := decide_eq_true c51
                        try have c51b2 : (9223372036854775807 < 1 + t231.size) = False := eq_false (Nat.not_lt.2 c51)
                        by_cases c52 : ((⟨#[123]⟩ : ByteArray) ++ t231).size + 1 ≤ 9223372036854775807
                        · rw [if_pos c52] at H
                          have c52b0 := eq_true c52
                          have c52b1 : decide (((⟨#[123]⟩ : ByteArray) ++ t231).size + 1 ≤ 9223372036854775807) = true := decide_eq_true c52
                          have c52z : (9223372036854775807 < 1 + t231.size + 1) = False := eq_false (by have h_ := c52; simp only [ByteArray.size_append] at h_; have : (⟨#[123]⟩ : ByteArray).size = 1 := rfl; omega)
                          try have c52b2 : (9223372036854775807 < ((⟨#[123]⟩ : ByteArray) ++ t231).size + 1) = False := eq_false (Nat.not_lt.2 c52)
                          replace H := Option.bind_eq_some_iff.mp H
                          obtain ⟨t232, A530, H⟩ := H
                          replace H : (if (((⟨#[123]⟩ : ByteArray) ++ t231) ++ (⟨#[44]⟩ : ByteArray)).size + t232.size ≤ 9223372036854775807 then (if ((((⟨#[123]⟩ : ByteArray) ++ t231) ++ (⟨#[44]⟩ : ByteArray)) ++ t232).size + 1 ≤ 9223372036854775807 then (some (((((⟨#[123]⟩ : ByteArray) ++ t231) ++ (⟨#[44]⟩ : ByteArray)) ++ t232) ++ (⟨#[125]⟩ : ByteArray))) else (none)) else (none)) = some r := H
                          have A53 := Aside0.mk A530
                          clear A530
                          by_cases c54 : (((⟨#[123]⟩ : ByteArray) ++ t231) ++ (⟨#[44]⟩ : ByteArray)).size + t232.size ≤ 9223372036854775807
                          · rw [if_pos c54] at H
                            have c54b0 := eq_true c54
                            have c54b1 : decide ((((⟨#[123]⟩ : ByteArray) ++ t231) ++ (⟨#[44]⟩ : ByteArray)).size + t232.size ≤ 9223372036854775807) = true := decide_eq_true c54
                            have c54z : (9223372036854775807 < 1 + t231.size + 1 + t232.size) = False := eq_false (by have h_ := c54; simp only [ByteArray.size_append] at h_; have : (⟨#[123]⟩ : ByteArray).size = 1 := rfl; have : (⟨#[44]⟩ : ByteArray).size = 1 := rfl; omega)
                            try have c54b2 : (9223372036854775807 < (((⟨#[123]⟩ : ByteArray) ++ t231) ++ (⟨#[44]⟩ : ByteArray)).size + t232.size) = False := eq_false (Nat.not_lt.2 c54)
                            by_cases c55 : ((((⟨#[123]⟩ : ByteArray) ++ t231) ++ (⟨#[44]⟩ : ByteArray)) ++ t232).size + 1 ≤ 9223372036854775807
                            · rw [if_pos c55] at H
                              have c55b0 := eq_true c55
                              have c55b1 : decide (((((⟨#[123]⟩ : ByteArray) ++ t231) ++ (⟨#[44]⟩ : ByteArray)) ++ t232).size + 1 ≤ 9223372036854775807) = true := decide_eq_true c55
                              have c55z : (9223372036854775807 < 1 + t231.size + 1 + t232.size + 1) = False := eq_false (by have h_ := c55; simp only [ByteArray.size_append] at h_; have : (⟨#[123]⟩ : ByteArray).size = 1 := rfl; have : (⟨#[44]⟩ : ByteArray).size = 1 := rfl; omega)
                              try have c55b2 : (9223372036854775807 < ((((⟨#[123]⟩ : ByteArray) ++ t231) ++ (⟨#[44]⟩ : ByteArray)) ++ t232).size + 1) = False := eq_false (Nat.not_lt.2 c55)
                              obtain rfl := Option.some.inj H
                              go_enter Tryd.func22, Tryd.ntmps22
                              try go_wp2_with (first | ((with_reducible refine gate_dst (N := 1) rfl ?_); refine box_event ?hg (N := 1) ?hd (cs := #[.int .i64 a0_0, .int .i64 a0_1, .int .i64 a0_2, .string a0_3, .bool a0_4, .int .u64 a0_5, .int .u64 a0_6, .int .u64 a0_7, .int .u64 a0_8, .int .i64 a0_9, .int .i64 a0_10]) (t := 26) ?hr ?_; (case hd => rfl); (case hg => rfl); (case hr => first | (go_simp; done) | (go_simp; rfl)); intro gb225 hg w56 hbox hb; have n0_ := Aside0.mk (Q25 (by repeat (first | (with_reducible first | exact HB.out | apply Q17 | apply Q11 | apply Q16) | exact HB.out)) hb); have n1_ := Aside0.mk (hbox); have n2_ := Aside0.mk ((by rw [hg]; exact (Q27 (by repeat (first | (with_reducible first | exact HB.out | apply Q17 | apply Q11 | apply Q16) | exact HB.out))) : w.heap.size ≤ gb225)); have n3_ := Aside0.mk ((by rw [hg]; exact (Q27 (by repeat (first | (with_reducible first | exact HB.out | apply Q17 | apply Q11 | apply Q16) | exact HB.out))) : w.heap.size ≤ gb225)); clear HB; have HB := n0_; have BK225 := n1_; have GW225 := n2_; have GE225 := n3_; clear n0_ n1_ n2_ n3_; clear hb hbox hg; have hcz57_0 : w56.cell? ⟨gb225, 0, none⟩ = some (.int .i64 a0_0) := (Q19 BK225.out 0).trans rfl; have hcz57_1 : w56.cell? ⟨gb225, 1, none⟩ = some (.int .i64 a0_1) := (Q19 BK225.out 1).trans rfl; have hcz57_2 : w56.cell? ⟨gb225, 2, none⟩ = some (.int .i64 a0_2) := (Q19 BK225.out 2).trans rfl; have hcz57_3 : w56.cell? ⟨gb225, 3, none⟩ = some (.string a0_3) := (Q19 BK225.out 3).trans rfl; have hcz57_4 : w56.cell? ⟨gb225, 4, none⟩ = some (.bool a0_4) := (Q19 BK225.out 4).trans rfl; have hcz57_5 : w56.cell? ⟨gb225, 5, none⟩ = some (.int .u64 a0_5) := (Q19 BK225.out 5).trans rfl; have hcz57_6 : w56.cell? ⟨gb225, 6, none⟩ = some (.int .u64 a0_6) := (Q19 BK225.out 6).trans rfl; have hcz57_7 : w56.cell? ⟨gb225, 7, none⟩ = some (.int .u64 a0_7) := (Q19 BK225.out 7).trans rfl; have hcz57_8 : w56.cell? ⟨gb225, 8, none⟩ = some (.int .u64 a0_8) := (Q19 BK225.out 8).trans rfl; have hcz57_9 : w56.cell? ⟨gb225, 9, none⟩ = some (.int .i64 a0_9) := (Q19 BK225.out 9).trans rfl; have hcz57_10 : w56.cell? ⟨gb225, 10, none⟩ = some (.int .i64 a0_10) := (Q19 BK225.out 10).trans rfl; have hfz57_0 := Q14 BK225.out 0; have hfz57_1 := Q14 BK225.out 1; have hfz57_2 := Q14 BK225.out 2; have hfz57_3 := Q14 BK225.out 3; have hfz57_4 := Q14 BK225.out 4; have hfz57_5 := Q14 BK225.out 5; have hfz57_6 := Q14 BK225.out 6; have hfz57_7 := Q14 BK225.out 7; have hfz57_8 := Q14 BK225.out 8; have hfz57_9 := Q14 BK225.out 9; have hfz57_10 := Q14 BK225.out 10))
                              have n0_ := Aside0.mk (Q26 BK225.out)
                              have n1_ := Aside0.mk (Q16 HB.out)
                              clear BK225
                              clear HB
                              have BK225 := n0_
                              have HB := n1_
                              clear n0_ n1_
                              refine start_ (n := 11) (S := fun w' => w'.cell? ⟨gb225, 0, none⟩ = some (.int .i64 a0_0) ∧ w'.cell? ⟨gb225, 1, none⟩ = some (.int .i64 a0_1) ∧ w'.cell? ⟨gb225, 2, none⟩ = some (.int .i64 a0_2) ∧ w'.cell? ⟨gb225, 3, none⟩ = some (.string a0_3) ∧ w'.cell? ⟨gb225, 4, none⟩ = some (.bool a0_4) ∧ w'.cell? ⟨gb225, 5, none⟩ = some (.int .u64 a0_5) ∧ w'.cell? ⟨gb225, 6, none⟩ = some (.int .u64 a0_6) ∧ w'.cell? ⟨gb225, 7, none⟩ = some (.int .u64 a0_7) ∧ w'.cell? ⟨gb225, 8, none⟩ = some (.int .u64 a0_8) ∧ w'.cell? ⟨gb225, 9, none⟩ = some (.int .i64 a0_9) ∧ w'.cell? ⟨gb225, 10, none⟩ = some (.int .i64 a0_10)) (ds := []) #[false, false, false, false, false, false, false, false, false, false, false] (by kernel_rfl) rfl rfl ⟨(Q19 BK225.out 0).trans rfl, (Q19 BK225.out 1).trans rfl, (Q19 BK225.out 2).trans rfl, (Q19 BK225.out 3).trans rfl, (Q19 BK225.out 4).trans rfl, (Q19 BK225.out 5).trans rfl, (Q19 BK225.out 6).trans rfl, (Q19 BK225.out 7).trans rfl, (Q19 BK225.out 8).trans rfl, (Q19 BK225.out 9).trans rfl, (Q19 BK225.out 10).trans rfl⟩ (fun hHeld => ?_); refine with_tabW dowelref04_spelled.tab24 dowelref04_spelled.bits24 (fun HT_ HW_ => ?_)
                              generalize w56.drew = w58 at BK225 HB hHeld ⊢
                              refine pure_ (i := 0) (N := some 60) (v := ?_) (a' := ?_) #[true, false, false, false, false, false, false, false, false, false, false] rfl rfl (any_of HT_.out (by kernel_rfl)) (fun _ _ _ h => h) (Or.inl ⟨by rfl, ?_⟩) ?_ ?_
                              rotate_left
                              · intro w'
                                go_simp
                                with_reducible rfl
                              rotate_left
                              · simp only [Act.put, List.setIfInBounds_toArray, List.set_cons_zero, List.set_cons_succ, i64_w, i32_w]
                                rfl
                              refine pure_ (i := 5) (N := some 65) (v := ?_) (a' := ?_) #[true, false, false, false, false, true, false, false, false, false, false] rfl rfl (any_of HT_.out (by kernel_rfl)) (fun _ _ _ h => h) (Or.inl ⟨by rfl, ?_⟩) ?_ ?_
                              rotate_left
                              · intro w'
                                go_simp
                                with_reducible rfl
                              rotate_left
                              · simp only [Act.put, List.setIfInBounds_toArray, List.set_cons_zero, List.set_cons_succ, i64_w, i32_w]
                                rfl
                              refine take_ (i := 1) (N := some 61) (v := ?_) (a' := ?_) #[true, true, false, false, false, true, false, false, false, false, false] rfl rfl (take_ofW HT_.out HW_.out (by kernel_rfl)) (fun _ _ _ h => h) (Or.inl ⟨by rfl, ?_⟩) hHeld ?_ ?_
                              rotate_left
                              · rintro w' ⟨s0, s1, s2, s3, s4, s5, s6, s7, s8, s9, s10⟩
                                go_simp
                                with_reducible rfl
                              rotate_left
                              · simp only [Act.put, List.setIfInBounds_toArray, List.set_cons_zero, List.set_cons_succ, i64_w, i32_w]
                                rfl
                              refine take_ (i := 6) (N := some 66) (v := ?_) (a' := ?_) #[true, true, false, false, false, true, true, false, false, false, false] rfl rfl (take_ofW HT_.out HW_.out (by kernel_rfl)) (fun _ _ _ h => h) (Or.inl ⟨by rfl, ?_⟩) hHeld ?_ ?_
                              rotate_left
                              · rintro w' ⟨s0, s1, s2, s3, s4, s5, s6, s7, s8, s9, s10⟩
                                go_simp
                                with_reducible rfl
                              rotate_left
                              · simp only [Act.put, List.setIfInBounds_toArray, List.set_cons_zero, List.set_cons_succ, i64_w, i32_w]
                                rfl
                              refine one_ (i := 2) (N := some 62) #[true, true, true, false, false, true, true, false, false, false, false] rfl rfl (one_of HT_.out (by kernel_rfl)) (by decide) (fun K hK => ?_)
                              refine goes_ Tryd.func43 (by kernel_rfl) rfl #[.int .i64 a0_9] (by rfl) rfl rfl (by (try simp only [List.map_toArray, List.map_cons, List.map_nil]); first | done | rfl | (simp only [List.length_drop, List.length_take]; rfl)) ?_
                              with_reducible refine (dowelref04_Digits.calls k a0_9 t231 _ A50.out).mono ?_
                              rintro e w59 ⟨rfl, hb⟩
                              refine ⟨_, rfl, ?_⟩
                              have n0_ := Aside0.mk (Q35 (g := gb225) (o := .cells #[.int .i64 a0_0, .int .i64 a0_1, .int .i64 a0_2, .string a0_3, .bool a0_4, .int .u64 a0_5, .int .u64 a0_6, .int .u64 a0_7, .int .u64 a0_8, .int .i64 a0_9, .int .i64 a0_10] 26 (0, 0)) (by (with_reducible repeat (first | refine Q23 ?_ _ | refine Q26 ?_ | refine Q24 ?_ _)); exact BK225.out) hb)
                              have n1_ := Aside0.mk (Q25 (by repeat (first | (with_reducible first | exact HB.out | apply Q17 | apply Q11 | apply Q16 | refine Q22 ?_ GE225.out) | exact HB.out)) hb)
                              clear BK225
                              clear HB
                              have BK225 := n0_
                              have HB := n1_
                              clear n0_ n1_
                              (try clear hb)
                              (try clear hb2)
                              (try clear hk)
                              (try clear hi)
                              refine hK.out _ _ ⟨(Q19 BK225.out 0).trans rfl, (Q19 BK225.out 1).trans rfl, (Q19 BK225.out 2).trans rfl, (Q19 BK225.out 3).trans rfl, (Q19 BK225.out 4).trans rfl, (Q19 BK225.out 5).trans rfl, (Q19 BK225.out 6).trans rfl, (Q19 BK225.out 7).trans rfl, (Q19 BK225.out 8).trans rfl, (Q19 BK225.out 9).trans rfl, (Q19 BK225.out 10).trans rfl⟩ (fun hHeld => ?_)
                              clear hK K
                              refine norm_ (a' := ?_) ?_ ?_
                              rotate_left
                              · show Act.put _ (some 62) _ = _
                                simp only [Act.put, List.setIfInBounds_toArray, List.set_cons_zero, List.set_cons_succ, i64_w, i32_w]
                                rfl
                              refine pure_ (i := 3) (N := some 63) (v := ?_) (a' := ?_) #[true, true, true, true, false, true, true, false, false, false, false] rfl rfl (any_of HT_.out (by kernel_rfl)) (fun _ _ _ h => h) (Or.inl ⟨by rfl, ?_⟩) ?_ ?_
                              rotate_left
                              · intro w'
                                go_simp
                                with_reducible rfl
                              rotate_left
                              · simp only [Act.put, List.setIfInBounds_toArray, List.set_cons_zero, List.set_cons_succ, i64_w, i32_w]
                                rfl
                              refine pure_ (i := 4) (N := some 64) (v := ?_) (a' := ?_) #[true, true, true, true, true, true, true, false, false, false, false] rfl rfl (any_of HT_.out (by kernel_rfl)) (fun _ _ _ h => h) (Or.inl ⟨by rfl, ?_⟩) ?_ ?_
                              rotate_left
                              · intro w'
                                go_simp
                                with_reducible rfl
                              rotate_left
                              · simp only [Act.put, List.setIfInBounds_toArray, List.set_cons_zero, List.set_cons_succ, i64_w, i32_w]
                                rfl
                              refine one_ (i := 7) (N := some 67) #[true, true, true, true, true, true, true, true, false, false, false] rfl rfl (one_of HT_.out (by kernel_rfl)) (by decide) (fun K hK => ?_)
                              refine goes_ Tryd.func43 (by kernel_rfl) rfl #[.int .i64 a0_10] (by rfl) rfl rfl (by (try simp only [List.map_toArray, List.map_cons, List.map_nil]); first | done | rfl | (simp only [List.length_drop, List.length_take]; rfl)) ?_
                              with_reducible refine (dowelref04_Digits.calls k a0_10 t232 _ A53.out).mono ?_
                              rintro e w60 ⟨rfl, hb⟩
                              refine ⟨_, rfl, ?_⟩
                              have n0_ := Aside0.mk (Q35 (g := gb225) (o := .cells #[.int .i64 a0_0, .int .i64 a0_1, .int .i64 a0_2, .string a0_3, .bool a0_4, .int .u64 a0_5, .int .u64 a0_6, .int .u64 a0_7, .int .u64 a0_8, .int .i64 a0_9, .int .i64 a0_10] 26 (0, 0)) (by (with_reducible repeat (first | refine Q23 ?_ _ | refine Q26 ?_ | refine Q24 ?_ _)); exact BK225.out) hb)
                              have n1_ := Aside0.mk (Q25 (by repeat (first | (with_reducible first | exact HB.out | apply Q17 | apply Q11 | apply Q16 | refine Q22 ?_ GE225.out) | exact HB.out)) hb)
                              clear BK225
                              clear HB
                              have BK225 := n0_
                              have HB := n1_
                              clear n0_ n1_
                              (try clear hb)
                              (try clear hb2)
                              (try clear hk)
                              (try clear hi)
                              refine hK.out _ _ ⟨(Q19 BK225.out 0).trans rfl, (Q19 BK225.out 1).trans rfl, (Q19 BK225.out 2).trans rfl, (Q19 BK225.out 3).trans rfl, (Q19 BK225.out 4).trans rfl, (Q19 BK225.out 5).trans rfl, (Q19 BK225.out 6).trans rfl, (Q19 BK225.out 7).trans rfl, (Q19 BK225.out 8).trans rfl, (Q19 BK225.out 9).trans rfl, (Q19 BK225.out 10).trans rfl⟩ (fun hHeld => ?_)
                              clear hK K
                              refine norm_ (a' := ?_) ?_ ?_
                              rotate_left
                              · show Act.put _ (some 67) _ = _
                                simp only [Act.put, List.setIfInBounds_toArray, List.set_cons_zero, List.set_cons_succ, i64_w, i32_w]
                                rfl
                              refine pure_ (i := 8) (N := some 68) (v := ?_) (a' := ?_) #[true, true, true, true, true, true, true, true, true, false, false] rfl rfl (any_of HT_.out (by kernel_rfl)) (fun _ _ _ h => h) (Or.inl ⟨by rfl, ?_⟩) ?_ ?_
                              rotate_left
                              · intro w'
                                go_simp
                                with_reducible rfl
                              rotate_left
                              · simp only [Act.put, List.setIfInBounds_toArray, List.set_cons_zero, List.set_cons_succ, i64_w, i32_w]
                                rfl
                              refine pure_ (i := 9) (N := some 69) (v := ?_) (a' := ?_) #[true, true, true, true, true, true, true, true, true, true, false] rfl rfl (any_of HT_.out (by kernel_rfl)) (fun _ _ _ h => h) (Or.inl ⟨by rfl, ?_⟩) ?_ ?_
                              rotate_left
                              · intro w'
                                go_simp
                                with_reducible rfl
                              rotate_left
                              · simp only [Act.put, List.setIfInBounds_toArray, List.set_cons_zero, List.set_cons_succ, i64_w, i32_w]
                                rfl
                              refine pure_ (i := 10) (N := some 2) (v := ?_) (a' := ?_) #[true, true, true, true, true, true, true, true, true, true, true] rfl rfl (any_of HT_.out (by kernel_rfl)) (fun _ _ _ h => h) (Or.inl ⟨by rfl, ?_⟩) ?_ ?_
                              rotate_left
                              · intro w'
                                go_simp
                                with_reducible rfl
                              rotate_left
                              · simp only [Act.put, List.setIfInBounds_toArray, List.set_cons_zero, List.set_cons_succ, i64_w, i32_w]
                                rfl
                              refine done_ (done_of HT_.out (by kernel_rfl)) ?_
                              try go_wp2
                              go_ret
                              exact ⟨by first | rfl | (simp [Q31, Q28] <;> rfl) | (simp [*, Q31, Q28] <;> rfl), by repeat (first | (with_reducible first | exact HB.out | apply Q17 | apply Q11 | apply Q16 | refine Q22 ?_ GE225.out) | exact HB.out)⟩
                            · rw [if_neg c55] at H
                              exact absurd H (by simp)
                          · rw [if_neg c54] at H
                            exact absurd H (by simp)
                        · rw [if_neg c52] at H
                          exact absurd H (by simp)
                      · rw [if_neg c51] at H
                        exact absurd H (by simp)
                · rw [if_neg c35] at H
                  have c35b0 : (a0_0 == 9) = false := beq_eq_false_iff_ne.mpr c35
                  have c35b1 : (a0_0 != 9) = true := bne_iff_ne.mpr c35
                  have H' := Aside0.mk H
                  clear H
                  go_enter Tryd.func22, Tryd.ntmps22
                  go_wp2_with (first | ((with_reducible refine gate_dst (N := 1) rfl ?_); refine box_event ?hg (N := 1) ?hd (cs := #[.int .i64 a0_0, .int .i64 a0_1, .int .i64 a0_2, .string a0_3, .bool a0_4, .int .u64 a0_5, .int .u64 a0_6, .int .u64 a0_7, .int .u64 a0_8, .int .i64 a0_9, .int .i64 a0_10]) (t := 26) ?hr ?_; (case hd => rfl); (case hg => rfl); (case hr => first | (go_simp; done) | (go_simp; rfl)); intro gb225 hg w61 hbox hb; have n0_ := Aside0.mk (Q25 (by repeat (first | (with_reducible first | exact HB.out | apply Q17 | apply Q11 | apply Q16) | exact HB.out)) hb); have n1_ := Aside0.mk (hbox); have n2_ := Aside0.mk ((by rw [hg]; exact (Q27 (by repeat (first | (with_reducible first | exact HB.out | apply Q17 | apply Q11 | apply Q16) | exact HB.out))) : w.heap.size ≤ gb225)); have n3_ := Aside0.mk ((by rw [hg]; exact (Q27 (by repeat (first | (with_reducible first | exact HB.out | apply Q17 | apply Q11 | apply Q16) | exact HB.out))) : w.heap.size ≤ gb225)); clear HB; have HB := n0_; have BK225 := n1_; have GW225 := n2_; have GE225 := n3_; clear n0_ n1_ n2_ n3_; clear hb hbox hg; have hcz62_0 : w61.cell? ⟨gb225, 0, none⟩ = some (.int .i64 a0_0) := (Q19 BK225.out 0).trans rfl; have hcz62_1 : w61.cell? ⟨gb225, 1, none⟩ = some (.int .i64 a0_1) := (Q19 BK225.out 1).trans rfl; have hcz62_2 : w61.cell? ⟨gb225, 2, none⟩ = some (.int .i64 a0_2) := (Q19 BK225.out 2).trans rfl; have hcz62_3 : w61.cell? ⟨gb225, 3, none⟩ = some (.string a0_3) := (Q19 BK225.out 3).trans rfl; have hcz62_4 : w61.cell? ⟨gb225, 4, none⟩ = some (.bool a0_4) := (Q19 BK225.out 4).trans rfl; have hcz62_5 : w61.cell? ⟨gb225, 5, none⟩ = some (.int .u64 a0_5) := (Q19 BK225.out 5).trans rfl; have hcz62_6 : w61.cell? ⟨gb225, 6, none⟩ = some (.int .u64 a0_6) := (Q19 BK225.out 6).trans rfl; have hcz62_7 : w61.cell? ⟨gb225, 7, none⟩ = some (.int .u64 a0_7) := (Q19 BK225.out 7).trans rfl; have hcz62_8 : w61.cell? ⟨gb225, 8, none⟩ = some (.int .u64 a0_8) := (Q19 BK225.out 8).trans rfl; have hcz62_9 : w61.cell? ⟨gb225, 9, none⟩ = some (.int .i64 a0_9) := (Q19 BK225.out 9).trans rfl; have hcz62_10 : w61.cell? ⟨gb225, 10, none⟩ = some (.int .i64 a0_10) := (Q19 BK225.out 10).trans rfl; have hfz62_0 := Q14 BK225.out 0; have hfz62_1 := Q14 BK225.out 1; have hfz62_2 := Q14 BK225.out 2; have hfz62_3 := Q14 BK225.out 3; have hfz62_4 := Q14 BK225.out 4; have hfz62_5 := Q14 BK225.out 5; have hfz62_6 := Q14 BK225.out 6; have hfz62_7 := Q14 BK225.out 7; have hfz62_8 := Q14 BK225.out 8; have hfz62_9 := Q14 BK225.out 9; have hfz62_10 := Q14 BK225.out 10))
                  go_loopg [3] k (fun kq v3 w' => ∃ (x3_1 : Int), v3 = .int .i64 x3_1 ∧ Aside0 (dowelref04_spelled.l0 kq x3_1 a0_0 a0_1 a0_2 a0_3 a0_4 a0_5 a0_6 a0_7 a0_8 a0_9 a0_10 = some r) ∧ Aside0 (kq ≤ k) ∧ Aside0 (w'.heap[gb225]? = some (.cells #[.int .i64 a0_0, .int .i64 a0_1, .int .i64 a0_2, .string a0_3, .bool a0_4, .int .u64 a0_5, .int .u64 a0_6, .int .u64 a0_7, .int .u64 a0_8, .int .i64 a0_9, .int .i64 a0_10] 26 (0, 0))) ∧ Aside0 (Below w.heap.size w w'))
                  case atStart => exact ⟨(0), (by first | rfl | (simp; done) | (simp [*]; done)), H', ⟨Nat.le_refl _⟩, ⟨by (with_reducible repeat (first | refine Q23 ?_ _ | refine Q26 ?_ | refine Q24 ?_ _)); exact BK225.out⟩, ⟨by repeat (first | (with_reducible first | exact HB.out | apply Q17 | apply Q11 | apply Q16 | refine Q22 ?_ GE225.out) | exact HB.out)⟩⟩
                  case round =>
                    clear H'
                    try clear c1
                    try clear c2
                    try clear c2b0
                    try clear c2b1
                    try clear p2
                    try clear c3
                    try clear c4
                    try clear c5
                    try clear c5b0
                    try clear c5b1
                    try clear c8
                    try clear c8b0
                    try clear c8b1
                    try clear c11
                    try clear c11b0
                    try clear c11b1
                    try clear c12
                    try clear c12b0
                    try clear c12b1
                    try clear c12b2
                    try clear c15
                    try clear c15b0
                    try clear c15b1
                    try clear c16
                    try clear c16b0
                    try clear c16b1
                    try clear c16b2
                    try clear c19
                    try clear c19b0
                    try clear c19b1
                    try clear c22
                    try clear c24
                    try clear c24b0
                    try clear c24b1
                    try clear c25
                    try clear c27
                    try clear c27b0
                    try clear c27b1
                    try clear c27b2
                    try clear c35
                    try clear c35b0
                    try clear c35b1
                    try clear c36
                    try clear c36b0
                    try clear c36b1
                    try clear c38
                    try clear c38b0
                    try clear c38b1
                    try clear c38b2
                    try clear c39
                    try clear c39b0
                    try clear c39b1
                    try clear c39b2
                    try clear c41
                    try clear c42
                    try clear c43
                    try clear c43b0
                    try clear c43b1
                    try clear c45
                    try clear c45b0
                    try clear c45b1
                    try clear c45b2
                    try clear c46
                    try clear c46b0
                    try clear c46b1
                    try clear c46b2
                    try clear c51
                    try clear c51b0
                    try clear c51b1
                    try clear c51b2
                    try clear c52
                    try clear c52b0
                    try clear c52b1
                    try clear c52b2
                    try clear c54
                    try clear c54b0
                    try clear c54b1
                    try clear c54b2
                    try clear c55
                    try clear c55b0
                    try clear c55b1
                    try clear c55b2
                    try clear hcz10_0
                    try clear hcz10_1
                    try clear hcz10_10
                    try clear hcz10_2
                    try clear hcz10_3
                    try clear hcz10_4
                    try clear hcz10_5
                    try clear hcz10_6
                    try clear hcz10_7
                    try clear hcz10_8
                    try clear hcz10_9
                    try clear hcz14_0
                    try clear hcz14_1
                    try clear hcz14_10
                    try clear hcz14_2
                    try clear hcz14_3
                    try clear hcz14_4
                    try clear hcz14_5
                    try clear hcz14_6
                    try clear hcz14_7
                    try clear hcz14_8
                    try clear hcz14_9
                    try clear hcz18_0
                    try clear hcz18_1
                    try clear hcz18_10
                    try clear hcz18_2
                    try clear hcz18_3
                    try clear hcz18_4
                    try clear hcz18_5
                    try clear hcz18_6
                    try clear hcz18_7
                    try clear hcz18_8
                    try clear hcz18_9
                    try clear hcz22_0
                    try clear hcz22_1
                    try clear hcz22_10
                    try clear hcz22_2
                    try clear hcz22_3
                    try clear hcz22_4
                    try clear hcz22_5
                    try clear hcz22_6
                    try clear hcz22_7
                    try clear hcz22_8
                    try clear hcz22_9
                    try clear hcz29_0
                    try clear hcz29_1
                    try clear hcz29_10
                    try clear hcz29_2
                    try clear hcz29_3
                    try clear hcz29_4
                    try clear hcz29_5
                    try clear hcz29_6
                    try clear hcz29_7
                    try clear hcz29_8
                    try clear hcz29_9
                    try clear hcz33_0
                    try clear hcz33_1
                    try clear hcz33_10
                    try clear hcz33_2
                    try clear hcz33_3
                    try clear hcz33_4
                    try clear hcz33_5
                    try clear hcz33_6
                    try clear hcz33_7
                    try clear hcz33_8
                    try clear hcz33_9
                    try clear hcz41_0
                    try clear hcz41_1
                    try clear hcz41_10
                    try clear hcz41_2
                    try clear hcz41_3
                    try clear hcz41_4
                    try clear hcz41_5
                    try clear hcz41_6
                    try clear hcz41_7
                    try clear hcz41_8
                    try clear hcz41_9
                    try clear hcz48_0
                    try clear hcz48_1
                    try clear hcz48_10
                    try clear hcz48_2
                    try clear hcz48_3
                    try clear hcz48_4
                    try clear hcz48_5
                    try clear hcz48_6
                    try clear hcz48_7
                    try clear hcz48_8
                    try clear hcz48_9
                    try clear hcz4_0
                    try clear hcz4_1
                    try clear hcz4_10
                    try clear hcz4_2
                    try clear hcz4_3
                    try clear hcz4_4
                    try clear hcz4_5
                    try clear hcz4_6
                    try clear hcz4_7
                    try clear hcz4_8
                    try clear hcz4_9
                    try clear hcz57_0
                    try clear hcz57_1
                    try clear hcz57_10
                    try clear hcz57_2
                    try clear hcz57_3
                    try clear hcz57_4
                    try clear hcz57_5
                    try clear hcz57_6
                    try clear hcz57_7
                    try clear hcz57_8
                    try clear hcz57_9
                    try clear hcz62_0
                    try clear hcz62_1
                    try clear hcz62_10
                    try clear hcz62_2
                    try clear hcz62_3
                    try clear hcz62_4
                    try clear hcz62_5
                    try clear hcz62_6
                    try clear hcz62_7
                    try clear hcz62_8
                    try clear hcz62_9
                    try clear hcz7_0
                    try clear hcz7_1
                    try clear hcz7_10
                    try clear hcz7_2
                    try clear hcz7_3
                    try clear hcz7_4
                    try clear hcz7_5
                    try clear hcz7_6
                    try clear hcz7_7
                    try clear hcz7_8
                    try clear hcz7_9
                    try clear hfz10_0
                    try clear hfz10_1
                    try clear hfz10_10
                    try clear hfz10_2
                    try clear hfz10_3
                    try clear hfz10_4
                    try clear hfz10_5
                    try clear hfz10_6
                    try clear hfz10_7
                    try clear hfz10_8
                    try clear hfz10_9
                    try clear hfz14_0
                    try clear hfz14_1
                    try clear hfz14_10
                    try clear hfz14_2
                    try clear hfz14_3
                    try clear hfz14_4
                    try clear hfz14_5
                    try clear hfz14_6
                    try clear hfz14_7
                    try clear hfz14_8
                    try clear hfz14_9
                    try clear hfz18_0
                    try clear hfz18_1
                    try clear hfz18_10
                    try clear hfz18_2
                    try clear hfz18_3
                    try clear hfz18_4
                    try clear hfz18_5
                    try clear hfz18_6
                    try clear hfz18_7
                    try clear hfz18_8
                    try clear hfz18_9
                    try clear hfz22_0
                    try clear hfz22_1
                    try clear hfz22_10
                    try clear hfz22_2
                    try clear hfz22_3
                    try clear hfz22_4
                    try clear hfz22_5
                    try clear hfz22_6
                    try clear hfz22_7
                    try clear hfz22_8
                    try clear hfz22_9
                    try clear hfz29_0
                    try clear hfz29_1
                    try clear hfz29_10
                    try clear hfz29_2
                    try clear hfz29_3
                    try clear hfz29_4
                    try clear hfz29_5
                    try clear hfz29_6
                    try clear hfz29_7
                    try clear hfz29_8
                    try clear hfz29_9
                    try clear hfz33_0
                    try clear hfz33_1
                    try clear hfz33_10
                    try clear hfz33_2
                    try clear hfz33_3
                    try clear hfz33_4
                    try clear hfz33_5
                    try clear hfz33_6
                    try clear hfz33_7
                    try clear hfz33_8
                    try clear hfz33_9
                    try clear hfz41_0
                    try clear hfz41_1
                    try clear hfz41_10
                    try clear hfz41_2
                    try clear hfz41_3
                    try clear hfz41_4
                    try clear hfz41_5
                    try clear hfz41_6
                    try clear hfz41_7
                    try clear hfz41_8
                    try clear hfz41_9
                    try clear hfz48_0
                    try clear hfz48_1
                    try clear hfz48_10
                    try clear hfz48_2
                    try clear hfz48_3
                    try clear hfz48_4
                    try clear hfz48_5
                    try clear hfz48_6
                    try clear hfz48_7
                    try clear hfz48_8
                    try clear hfz48_9
                    try clear hfz4_0
                    try clear hfz4_1
                    try clear hfz4_10
                    try clear hfz4_2
                    try clear hfz4_3
                    try clear hfz4_4
                    try clear hfz4_5
                    try clear hfz4_6
                    try clear hfz4_7
                    try clear hfz4_8
                    try clear hfz4_9
                    try clear hfz57_0
                    try clear hfz57_1
                    try clear hfz57_10
                    try clear hfz57_2
                    try clear hfz57_3
                    try clear hfz57_4
                    try clear hfz57_5
                    try clear hfz57_6
                    try clear hfz57_7
                    try clear hfz57_8
                    try clear hfz57_9
                    try clear hfz62_0
                    try clear hfz62_1
                    try clear hfz62_10
                    try clear hfz62_2
                    try clear hfz62_3
                    try clear hfz62_4
                    try clear hfz62_5
                    try clear hfz62_6
                    try clear hfz62_7
                    try clear hfz62_8
                    try clear hfz62_9
                    try clear hfz7_0
                    try clear hfz7_1
                    try clear hfz7_10
                    try clear hfz7_2
                    try clear hfz7_3
                    try clear hfz7_4
                    try clear hfz7_5
                    try clear hfz7_6
                    try clear hfz7_7
                    try clear hfz7_8
                    try clear hfz7_9
                    obtain ⟨x3_1, rfl, HA, HK1, BK225, HB⟩ := hrel
                    cases gk with
                    | zero => exact absurd HA.out (by simp [dowelref04_spelled.l0])
                    | succ k1 =>
                      have H := HA.out
                      clear HA
                      simp only [dowelref04_spelled.l0] at H
                      by_cases c63 : x3_1 < 10
                      · rw [if_pos c63] at H
                        have c63b0 : decide (x3_1 < 10) = true := decide_eq_true c63
                        clear c63
                        by_cases c64 : 0 ≤ x3_1
                        · rw [if_pos c64] at H
                          have c64b0 : decide (0 ≤ x3_1) = true := decide_eq_true c64
                          clear c64
                          replace H := Option.bind_eq_some_iff.mp H
                          obtain ⟨t233, A660, H⟩ := H
                          replace H : (if t233 = a0_0 then (if x3_1 ≤ (wrap64 (x3_1 + 1)) then (if (wrap64 (x3_1 + 1)) ≤ 10 then (some ((⟨#[47, 38, 33, 63, 42, 43, 40, 41, 44, 46]⟩ : ByteArray).extract (x3_1 : Int).toNat ((wrap64 (x3_1 + 1)) : Int).toNat)) else (none)) else (none)) else (dowelref04_spelled.l0 k1 (wrap64 (x3_1 + 1)) a0_0 a0_1 a0_2 a0_3 a0_4 a0_5 a0_6 a0_7 a0_8 a0_9 a0_10)) = some r := H
                          have A66 := Aside0.mk A660
                          clear A660
                          by_cases c67 : t233 = a0_0
                          · rw [if_pos c67] at H
                            have c67b0 : (t233 == a0_0) = true := beq_iff_eq.mpr c67
                            have c67b1 : (t233 != a0_0) = false := bne_eq_false_iff_eq.mpr c67
                            clear c67
                            have c68b0 := eq_true (of_decide_eq_true (by first | (with_reducible assumption) | assumption) : 0 ≤ x3_1)
                            by_cases c69 : x3_1 ≤ (wrap64 (x3_1 + 1))
                            · rw [if_pos c69] at H
                              have c69b0 := eq_true c69
                              have c69b1 : decide (x3_1 ≤ (wrap64 (x3_1 + 1))) = true := decide_eq_true c69
                              by_cases c70 : (wrap64 (x3_1 + 1)) ≤ 10
                              · rw [if_pos c70] at H
                                have c70b0 := eq_true c70
                                have c70b1 : decide ((wrap64 (x3_1 + 1)) ≤ 10) = true := decide_eq_true c70
                                obtain rfl := Option.some.inj H
                                try go_wp2
                                have n0_ := Aside0.mk (Q26 BK225.out)
                                have n1_ := Aside0.mk (Q16 HB.out)
                                clear BK225
                                clear HB
                                have BK225 := n0_
                                have HB := n1_
                                clear n0_ n1_
                                have p65 : 0 ≤ (x3_1 : Int) := of_decide_eq_true (by first | (with_reducible assumption) | assumption)
                                have q65 : x3_1 < (10 : Int) := of_decide_eq_true (by first | (with_reducible assumption) | assumption)
                                have hx65 := bt_at (⟨#[47, 38, 33, 63, 42, 43, 40, 41, 44, 46]⟩ : ByteArray) x3_1
                                replace p65 := eq_true p65
                                replace q65 := eq_true q65
                                refine start_ (n := 6) (S := fun w' => w'.cell? ⟨gb225, 0, none⟩ = some (.int .i64 a0_0) ∧ w'.cell? ⟨gb225, 1, none⟩ = some (.int .i64 a0_1) ∧ w'.cell? ⟨gb225, 2, none⟩ = some (.int .i64 a0_2) ∧ w'.cell? ⟨gb225, 3, none⟩ = some (.string a0_3) ∧ w'.cell? ⟨gb225, 4, none⟩ = some (.bool a0_4) ∧ w'.cell? ⟨gb225, 5, none⟩ = some (.int .u64 a0_5) ∧ w'.cell? ⟨gb225, 6, none⟩ = some (.int .u64 a0_6) ∧ w'.cell? ⟨gb225, 7, none⟩ = some (.int .u64 a0_7) ∧ w'.cell? ⟨gb225, 8, none⟩ = some (.int .u64 a0_8) ∧ w'.cell? ⟨gb225, 9, none⟩ = some (.int .i64 a0_9) ∧ w'.cell? ⟨gb225, 10, none⟩ = some (.int .i64 a0_10)) (ds := []) #[false, false, false, false, false, false] (by kernel_rfl) rfl rfl ⟨(Q19 BK225.out 0).trans rfl, (Q19 BK225.out 1).trans rfl, (Q19 BK225.out 2).trans rfl, (Q19 BK225.out 3).trans rfl, (Q19 BK225.out 4).trans rfl, (Q19 BK225.out 5).trans rfl, (Q19 BK225.out 6).trans rfl, (Q19 BK225.out 7).trans rfl, (Q19 BK225.out 8).trans rfl, (Q19 BK225.out 9).trans rfl, (Q19 BK225.out 10).trans rfl⟩ (fun hHeld => ?_)
                                generalize wr.drew = w71 at BK225 HB hHeld ⊢
                                refine pure_ (i := 0) (N := some 74) (v := ?_) (a' := ?_) #[true, false, false, false, false, false] rfl rfl (by kernel_rfl) (fun _ _ _ h => h) (Or.inl ⟨by rfl, ?_⟩) ?_ ?_
                                rotate_left
                                · intro w'
                                  go_simp
                                  with_reducible rfl
                                rotate_left
                                · simp only [Act.put, List.setIfInBounds_toArray, List.set_cons_zero, List.set_cons_succ, i64_w, i32_w]
                                  rfl
                                refine pure_ (i := 3) (N := some 77) (v := ?_) (a' := ?_) #[true, false, false, true, false, false] rfl rfl (by kernel_rfl) (fun _ _ _ h => h) (Or.inl ⟨by rfl, ?_⟩) ?_ ?_
                                rotate_left
                                · intro w'
                                  go_simp
                                  with_reducible rfl
                                rotate_left
                                · simp only [Act.put, List.setIfInBounds_toArray, List.set_cons_zero, List.set_cons_succ, i64_w, i32_w]
                                  rfl
                                refine take_ (i := 1) (N := some 75) (v := ?_) (a' := ?_) #[true, true, false, true, false, false] rfl rfl (by kernel_rfl) (fun _ _ _ h => h) (Or.inl ⟨by rfl, ?_⟩) hHeld ?_ ?_
                                rotate_left
                                · rintro w' ⟨s0, s1, s2, s3, s4, s5, s6, s7, s8, s9, s10⟩
                                  go_simp
                                  with_reducible rfl
                                rotate_left
                                · simp only [Act.put, List.setIfInBounds_toArray, List.set_cons_zero, List.set_cons_succ, i64_w, i32_w]
                                  rfl
                                refine take_ (i := 4) (N := some 78) (v := ?_) (a' := ?_) #[true, true, false, true, true, false] rfl rfl (by kernel_rfl) (fun _ _ _ h => h) (Or.inl ⟨by rfl, ?_⟩) hHeld ?_ ?_
                                rotate_left
                                · rintro w' ⟨s0, s1, s2, s3, s4, s5, s6, s7, s8, s9, s10⟩
                                  go_simp
                                  with_reducible rfl
                                rotate_left
                                · simp only [Act.put, List.setIfInBounds_toArray, List.set_cons_zero, List.set_cons_succ, i64_w, i32_w]
                                  rfl
                                refine one_ (i := 2) (N := some 76) #[true, true, true, true, true, false] rfl rfl (by kernel_rfl) (by decide) (fun K hK => ?_)
                                refine goes_ Tryd.func44 (by kernel_rfl) rfl #[.int .u8 (bt (⟨#[47, 38, 33, 63, 42, 43, 40, 41, 44, 46]⟩ : ByteArray) x3_1)] (by rfl) rfl rfl (by (try simp only [List.map_toArray, List.map_cons, List.map_nil]); first | done | rfl | (simp only [List.length_drop, List.length_take]; rfl)) ?_
                                with_reducible refine (dowelref04_sign.calls (bt (⟨#[47, 38, 33, 63, 42, 43, 40, 41, 44, 46]⟩ : ByteArray) x3_1) t233 _ A66.out).mono ?_
                                rintro e w' ⟨rfl, ⟨nd, rfl⟩⟩
                                refine ⟨_, rfl, ?_⟩
                                refine hK.out _ _ ⟨(Q19 BK225.out 0).trans rfl, (Q19 BK225.out 1).trans rfl, (Q19 BK225.out 2).trans rfl, (Q19 BK225.out 3).trans rfl, (Q19 BK225.out 4).trans rfl, (Q19 BK225.out 5).trans rfl, (Q19 BK225.out 6).trans rfl, (Q19 BK225.out 7).trans rfl, (Q19 BK225.out 8).trans rfl, (Q19 BK225.out 9).trans rfl, (Q19 BK225.out 10).trans rfl⟩ (fun hHeld => ?_)
                                clear hK K
                                refine norm_ (a' := ?_) ?_ ?_
                                rotate_left
                                · show Act.put _ (some 76) _ = _
                                  simp only [Act.put, List.setIfInBounds_toArray, List.set_cons_zero, List.set_cons_succ, i64_w, i32_w]
                                  rfl
                                refine pure_ (i := 5) (N := some 79) (v := ?_) (a' := ?_) #[true, true, true, true, true, true] rfl rfl (by kernel_rfl) (fun _ _ _ h => h) (Or.inl ⟨by rfl, ?_⟩) ?_ ?_
                                rotate_left
                                · intro w'
                                  go_simp
                                  with_reducible rfl
                                rotate_left
                                · simp only [Act.put, List.setIfInBounds_toArray, List.set_cons_zero, List.set_cons_succ, i64_w, i32_w]
                                  rfl
                                refine done_ (by kernel_rfl) ?_
                                try go_wp2
                                go_ret
                                exact ⟨by first | rfl | (simp [Q31, Q28] <;> rfl) | (simp [*, Q31, Q28] <;> rfl), by repeat (first | (with_reducible first | exact HB.out | apply Q17 | apply Q11 | apply Q16 | refine Q22 ?_ GE225.out) | exact HB.out)⟩
                              · rw [if_neg c70] at H
                                exact absurd H (by simp)
                            · rw [if_neg c69] at H
                              exact absurd H (by simp)
                          · rw [if_neg c67] at H
                            have c67b0 : (t233 == a0_0) = false := beq_eq_false_iff_ne.mpr c67
                            have c67b1 : (t233 != a0_0) = true := bne_iff_ne.mpr c67
                            have H' := Aside0.mk H
                            clear H
                            try go_wp2
                            have n0_ := Aside0.mk (Q26 BK225.out)
                            have n1_ := Aside0.mk (Q16 HB.out)
                            clear BK225
                            clear HB
                            have BK225 := n0_
                            have HB := n1_
                            clear n0_ n1_
                            have p65 : 0 ≤ (x3_1 : Int) := of_decide_eq_true (by first | (with_reducible assumption) | assumption)
                            have q65 : x3_1 < (10 : Int) := of_decide_eq_true (by first | (with_reducible assumption) | assumption)
                            have hx65 := bt_at (⟨#[47, 38, 33, 63, 42, 43, 40, 41, 44, 46]⟩ : ByteArray) x3_1
                            replace p65 := eq_true p65
                            replace q65 := eq_true q65
                            refine start_ (n := 6) (S := fun w' => w'.cell? ⟨gb225, 0, none⟩ = some (.int .i64 a0_0) ∧ w'.cell? ⟨gb225, 1, none⟩ = some (.int .i64 a0_1) ∧ w'.cell? ⟨gb225, 2, none⟩ = some (.int .i64 a0_2) ∧ w'.cell? ⟨gb225, 3, none⟩ = some (.string a0_3) ∧ w'.cell? ⟨gb225, 4, none⟩ = some (.bool a0_4) ∧ w'.cell? ⟨gb225, 5, none⟩ = some (.int .u64 a0_5) ∧ w'.cell? ⟨gb225, 6, none⟩ = some (.int .u64 a0_6) ∧ w'.cell? ⟨gb225, 7, none⟩ = some (.int .u64 a0_7) ∧ w'.cell? ⟨gb225, 8, none⟩ = some (.int .u64 a0_8) ∧ w'.cell? ⟨gb225, 9, none⟩ = some (.int .i64 a0_9) ∧ w'.cell? ⟨gb225, 10, none⟩ = some (.int .i64 a0_10)) (ds := []) #[false, false, false, false, false, false] (by kernel_rfl) rfl rfl ⟨(Q19 BK225.out 0).trans rfl, (Q19 BK225.out 1).trans rfl, (Q19 BK225.out 2).trans rfl, (Q19 BK225.out 3).trans rfl, (Q19 BK225.out 4).trans rfl, (Q19 BK225.out 5).trans rfl, (Q19 BK225.out 6).trans rfl, (Q19 BK225.out 7).trans rfl, (Q19 BK225.out 8).trans rfl, (Q19 BK225.out 9).trans rfl, (Q19 BK225.out 10).trans rfl⟩ (fun hHeld => ?_)
                            generalize wr.drew = w72 at BK225 HB hHeld ⊢
                            refine pure_ (i := 0) (N := some 74) (v := ?_) (a' := ?_) #[true, false, false, false, false, false] rfl rfl (by kernel_rfl) (fun _ _ _ h => h) (Or.inl ⟨by rfl, ?_⟩) ?_ ?_
                            rotate_left
                            · intro w'
                              go_simp
                              with_reducible rfl
                            rotate_left
                            · simp only [Act.put, List.setIfInBounds_toArray, List.set_cons_zero, List.set_cons_succ, i64_w, i32_w]
                              rfl
                            refine pure_ (i := 3) (N := some 77) (v := ?_) (a' := ?_) #[true, false, false, true, false, false] rfl rfl (by kernel_rfl) (fun _ _ _ h => h) (Or.inl ⟨by rfl, ?_⟩) ?_ ?_
                            rotate_left
                            · intro w'
                              go_simp
                              with_reducible rfl
                            rotate_left
                            · simp only [Act.put, List.setIfInBounds_toArray, List.set_cons_zero, List.set_cons_succ, i64_w, i32_w]
                              rfl
                            refine take_ (i := 1) (N := some 75) (v := ?_) (a' := ?_) #[true, true, false, true, false, false] rfl rfl (by kernel_rfl) (fun _ _ _ h => h) (Or.inl ⟨by rfl, ?_⟩) hHeld ?_ ?_
                            rotate_left
                            · rintro w' ⟨s0, s1, s2, s3, s4, s5, s6, s7, s8, s9, s10⟩
                              go_simp
                              with_reducible rfl
                            rotate_left
                            · simp only [Act.put, List.setIfInBounds_toArray, List.set_cons_zero, List.set_cons_succ, i64_w, i32_w]
                              rfl
                            refine take_ (i := 4) (N := some 78) (v := ?_) (a' := ?_) #[true, true, false, true, true, false] rfl rfl (by kernel_rfl) (fun _ _ _ h => h) (Or.inl ⟨by rfl, ?_⟩) hHeld ?_ ?_
                            rotate_left
                            · rintro w' ⟨s0, s1, s2, s3, s4, s5, s6, s7, s8, s9, s10⟩
                              go_simp
                              with_reducible rfl
                            rotate_left
                            · simp only [Act.put, List.setIfInBounds_toArray, List.set_cons_zero, List.set_cons_succ, i64_w, i32_w]
                              rfl
                            refine one_ (i := 2) (N := some 76) #[true, true, true, true, true, false] rfl rfl (by kernel_rfl) (by decide) (fun K hK => ?_)
                            refine goes_ Tryd.func44 (by kernel_rfl) rfl #[.int .u8 (bt (⟨#[47, 38, 33, 63, 42, 43, 40, 41, 44, 46]⟩ : ByteArray) x3_1)] (by rfl) rfl rfl (by (try simp only [List.map_toArray, List.map_cons, List.map_nil]); first | done | rfl | (simp only [List.length_drop, List.length_take]; rfl)) ?_
                            with_reducible refine (dowelref04_sign.calls (bt (⟨#[47, 38, 33, 63, 42, 43, 40, 41, 44, 46]⟩ : ByteArray) x3_1) t233 _ A66.out).mono ?_
                            rintro e w' ⟨rfl, ⟨nd, rfl⟩⟩
                            refine ⟨_, rfl, ?_⟩
                            refine hK.out _ _ ⟨(Q19 BK225.out 0).trans rfl, (Q19 BK225.out 1).trans rfl, (Q19 BK225.out 2).trans rfl, (Q19 BK225.out 3).trans rfl, (Q19 BK225.out 4).trans rfl, (Q19 BK225.out 5).trans rfl, (Q19 BK225.out 6).trans rfl, (Q19 BK225.out 7).trans rfl, (Q19 BK225.out 8).trans rfl, (Q19 BK225.out 9).trans rfl, (Q19 BK225.out 10).trans rfl⟩ (fun hHeld => ?_)
                            clear hK K
                            refine norm_ (a' := ?_) ?_ ?_
                            rotate_left
                            · show Act.put _ (some 76) _ = _
                              simp only [Act.put, List.setIfInBounds_toArray, List.set_cons_zero, List.set_cons_succ, i64_w, i32_w]
                              rfl
                            refine pure_ (i := 5) (N := some 79) (v := ?_) (a' := ?_) #[true, true, true, true, true, true] rfl rfl (by kernel_rfl) (fun _ _ _ h => h) (Or.inl ⟨by rfl, ?_⟩) ?_ ?_
                            rotate_left
                            · intro w'
                              go_simp
                              with_reducible rfl
                            rotate_left
                            · simp only [Act.put, List.setIfInBounds_toArray, List.set_cons_zero, List.set_cons_succ, i64_w, i32_w]
                              rfl
                            refine done_ (by kernel_rfl) ?_
                            try go_wp2
                            go_roundg k1
                            case measure => have := HK1.out; omega
                            case rel => exact ⟨(wrap64 (x3_1 + 1)), (by first | rfl | (simp; done) | (simp [*]; done)), H', ⟨by have := HK1.out; omega⟩, ⟨by (with_reducible repeat (first | refine Q23 ?_ _ | refine Q26 ?_ | refine Q24 ?_ _)); exact BK225.out⟩, ⟨by repeat (first | (with_reducible first | exact HB.out | apply Q17 | apply Q11 | apply Q16 | refine Q22 ?_ GE225.out) | exact HB.out)⟩⟩
                        · rw [if_neg c64] at H
                          exact absurd H (by simp)
                      · rw [if_neg c63] at H
                        have c63b0 : decide (x3_1 < 10) = false := decide_eq_false c63
                        clear c63
                        obtain rfl := Option.some.inj H
                        go_wp2
                        go_ret
                        exact ⟨by first | rfl | (simp [Q31, Q28] <;> rfl) | (simp [*, Q31, Q28] <;> rfl), by repeat (first | (with_reducible first | exact HB.out | apply Q17 | apply Q11 | apply Q16 | refine Q22 ?_ GE225.out) | exact HB.out)⟩
end Go.Proofs.YtldjdcdoegjmoaaDoor.P
