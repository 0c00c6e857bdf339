/- Classes: Count, put. -/
import Derived.Test.YtachpdeejificaaCls6
import Derived.Test.YtachpdeejificaaOnes
set_option linter.unusedVariables false
set_option linter.unusedSimpArgs false
namespace Go.Proofs.Ytachpdeejificaa
open Go.RowKit
theorem cast_div (x k : Nat) : ((x : Int) / (k : Int)) = ((x / k : Nat) : Int) := by simp
theorem and_le' (a : Nat) {m : Nat} : a &&& m ≤ m := Nat.and_le_right
theorem o1_int {x : Nat} (hx : x < w64) : IntKind.u64.wrap (bits .and .u64 ((x : Int) / 2) 6148914691236517205 + bits .and .u64 (x : Int) 6148914691236517205) = ((on1 x : Nat) : Int) := by
  have hm : (6148914691236517205 : Nat) < w64 := by unfold w64; omega
  rw [show ((x : Int) / 2) = ((x / 2 : Nat) : Int) by omega, show (6148914691236517205 : Int) = ((6148914691236517205 : Nat) : Int) from rfl, bits_and (Nat.lt_of_le_of_lt (Nat.div_le_self _ _) hx) hm, bits_and hx hm, IntKind.wrap_u64]
  have h1 := and_le' (x / 2) (m := 6148914691236517205); have h2 := and_le' x (m := 6148914691236517205)
  unfold on1
  omega
theorem o2_int {x : Nat} (hx : x < w64) : IntKind.u64.wrap (bits .and .u64 ((x : Int) / 4) 3689348814741910323 + bits .and .u64 (x : Int) 3689348814741910323) = ((on2 x : Nat) : Int) := by
  have hm : (3689348814741910323 : Nat) < w64 := by unfold w64; omega
  rw [show ((x : Int) / 4) = ((x / 4 : Nat) : Int) by omega, show (3689348814741910323 : Int) = ((3689348814741910323 : Nat) : Int) from rfl, bits_and (Nat.lt_of_le_of_lt (Nat.div_le_self _ _) hx) hm, bits_and hx hm, IntKind.wrap_u64]
  have h1 := and_le' (x / 4) (m := 3689348814741910323); have h2 := and_le' x (m := 3689348814741910323)
  unfold on2
  omega
theorem on1_lt (x : Nat) : on1 x < w64 := by
  have h1 := and_le' (x / 2) (m := 6148914691236517205); have h2 := and_le' x (m := 6148914691236517205)
  unfold on1 w64; omega
theorem on2_le (x : Nat) : on2 x ≤ 7378697629483820646 := by
  have h1 := and_le' (x / 4) (m := 3689348814741910323); have h2 := and_le' x (m := 3689348814741910323)
  unfold on2; omega
theorem o3_int {x : Nat} (hx : x ≤ 7378697629483820646) : bits .and .u64 (IntKind.u64.wrap ((x : Int) / 16 + (x : Int))) 1085102592571150095 = ((on3 x : Nat) : Int) := by
  have hm : (1085102592571150095 : Nat) < w64 := by unfold w64; omega
  rw [show IntKind.u64.wrap ((x : Int) / 16 + (x : Int)) = ((x / 16 + x : Nat) : Int) by rw [IntKind.wrap_u64]; omega, show (1085102592571150095 : Int) = ((1085102592571150095 : Nat) : Int) from rfl, bits_and (by unfold w64; omega) hm]
  rfl
theorem on3_le (x : Nat) : on3 x ≤ 1085102592571150095 := and_le' _
theorem o4_int {x : Nat} (hx : x ≤ 1085102592571150095) : IntKind.u64.wrap ((x : Int) + (x : Int) / 256) = ((on4 x : Nat) : Int) := by rw [IntKind.wrap_u64]; unfold on4; omega
theorem on4_le {x : Nat} (hx : x ≤ 1085102592571150095) : on4 x ≤ 1090000000000000000 := by unfold on4; omega
theorem o5_int {x : Nat} (hx : x ≤ 1090000000000000000) : IntKind.u64.wrap ((x : Int) + (x : Int) / 65536) = ((on5 x : Nat) : Int) := by rw [IntKind.wrap_u64]; unfold on5; omega
theorem on5_le {x : Nat} (hx : x ≤ 1090000000000000000) : on5 x ≤ 1100000000000000000 := by unfold on5; omega
theorem o6_int {x : Nat} (hx : x ≤ 1100000000000000000) : IntKind.u64.wrap ((x : Int) + (x : Int) / 4294967296) = ((on6 x : Nat) : Int) := by rw [IntKind.wrap_u64]; unfold on6; omega
theorem on6_le {x : Nat} (hx : x ≤ 1100000000000000000) : on6 x ≤ 1200000000000000000 := by unfold on6; omega
theorem ones_c (x : Nat) (hx : x < w64) (w : World) : Calls Try.prog 39 #[.int .u64 x] w fun e w' => e = .returned (.int .i64 (cnt x.testBit 64)) ∧ w = w' := by
  have H := Lib.hid hx; clear hx
  go_enter Try.func39, Try.ntmps39
  go_wp2
  go_ret
  refine ⟨ret_v ?_, rfl⟩
  rw [← ones_eq H.out]
  have hx := H.out
  simp only [Array.getD_eq_getD_getElem?, List.getElem?_toArray, List.getElem?_cons_succ, List.getElem?_cons_zero, Option.getD_some]
  rw [o1_int hx, o2_int (on1_lt x), o3_int (on2_le _), o4_int (on3_le _), o5_int (on4_le (on3_le _)), o6_int (on5_le (on4_le (on3_le _)))]
  have hl := on6_le (on5_le (on4_le (on3_le (on2 (on1 x)))))
  generalize on6 (on5 (on4 (on3 (on2 (on1 x))))) = n at hl ⊢
  have e1 : wrap64 (n : Int) = (n : Int) := by unfold wrap64; omega
  rw [e1, show (127 : Int) = ((127 : Nat) : Int) from rfl, (bits_nat .i64 62 (by decide) (fun m h0 h1 => by rw [IntKind.wrap_i64]; omega) n 127 (by omega) (by omega)).1]
  exact congrArg (fun z : Nat => Value.int .i64 (z : Int)) (Nat.and_two_pow_sub_one_eq_mod n 7)
theorem Cls.count_eq (a : Cls) : a.bytes.length = cnt a.c0.testBit 64 + cnt a.c1.testBit 64 + cnt a.c2.testBit 64 + cnt a.c3.testBit 64 := by
  show cnt a.mem 256 = _
  have h : ∀ k, k < 4 → cnt (fun j => a.mem (64 * k + j)) 64 = cnt (a.word k).testBit 64 := fun k hk => cnt_congr fun j hj => by
    unfold Cls.mem
    rw [show (64 * k + j) / 64 = k by omega, show (64 * k + j) % 64 = j by omega]
  have h0 := h 0 (by omega); have h1 := h 1 (by omega); have h2 := h 2 (by omega); have h3 := h 3 (by omega)
  rw [show 256 = 192 + 64 from rfl, cnt_add, show 192 = 128 + 64 from rfl, cnt_add, show 128 = 64 + 64 from rfl, cnt_add]
  simp only [Nat.mul_zero, Nat.zero_add, Nat.reduceMul] at h0 h1 h2 h3
  rw [show cnt a.mem 64 = cnt a.c0.testBit 64 from h0]
  have g1 : cnt (fun j => a.mem (64 + j)) 64 = cnt a.c1.testBit 64 := h1
  have g2 : cnt (fun j => a.mem (64 + 64 + j)) 64 = cnt a.c2.testBit 64 := h2
  have g3 : cnt (fun j => a.mem (128 + 64 + j)) 64 = cnt a.c3.testBit 64 := h3
  rw [g1, g2, g3]
set_option maxRecDepth 100000 in
theorem count_c (a : Cls) (ha : a.ok) (w : World) : Calls Try.prog 25 #[V4 a] w fun e w' => e = .returned (.int .i64 a.bytes.length) ∧ Below w.heap.size w w' := by
  have HA := Lib.hid ha; clear ha
  have i0 : ∀ w, (Instr.index 24 (V4 a) (.int .i64 0)).run Try.prog w = .ok (.int .u64 a.c0) w := fun _ => by kernel_rfl
  have i1 : ∀ w, (Instr.index 24 (V4 a) (.int .i64 1)).run Try.prog w = .ok (.int .u64 a.c1) w := fun _ => by kernel_rfl
  have i2 : ∀ w, (Instr.index 24 (V4 a) (.int .i64 2)).run Try.prog w = .ok (.int .u64 a.c2) w := fun _ => by kernel_rfl
  have i3 : ∀ w, (Instr.index 24 (V4 a) (.int .i64 3)).run Try.prog w = .ok (.int .u64 a.c3) w := fun _ => by kernel_rfl
  have l0 : cnt a.c0.testBit 64 ≤ 64 := Nat.le_trans (List.length_filter_le _ _) (by simp)
  have l1 : cnt a.c1.testBit 64 ≤ 64 := Nat.le_trans (List.length_filter_le _ _) (by simp)
  have l2 : cnt a.c2.testBit 64 ≤ 64 := Nat.le_trans (List.length_filter_le _ _) (by simp)
  have l3 : cnt a.c3.testBit 64 ≤ 64 := Nat.le_trans (List.length_filter_le _ _) (by simp)
  go_enter Try.func25, Try.ntmps25
  go_wp2_with fail
  refine wp_loop_rounds 5 ?_
  rw [rounds_succ]
  go_wp2_with (go_at_call 39; refine (ones_c a.c0 HA.out.1 _).mono ?_; rintro e w' ⟨rfl, rfl⟩)
  rw [rounds_succ]
  go_wp2_with (go_at_call 39; refine (ones_c a.c1 HA.out.2.1 _).mono ?_; rintro e w' ⟨rfl, rfl⟩)
  rw [rounds_succ]
  go_wp2_with (go_at_call 39; refine (ones_c a.c2 HA.out.2.2.1 _).mono ?_; rintro e w' ⟨rfl, rfl⟩)
  rw [rounds_succ]
  go_wp2_with (go_at_call 39; refine (ones_c a.c3 HA.out.2.2.2 _).mono ?_; rintro e w' ⟨rfl, rfl⟩)
  rw [rounds_succ]
  go_wp2_with fail
  go_ret
  refine ⟨ret_v ?_, (Below.refl _ _).alloc (Nat.le_refl _) _⟩
  rw [Cls.count_eq]
  exact congrArg (Value.int .i64) (by omega)
theorem put_c (a : Cls) (ha : a.ok) (x : Nat) (hx : x < 256) (g : Nat) (w : World) (hc : w.heap[g]? = some (.cells a.cells 24 (0, 0))) :
    Calls Try.prog 37 #[.pointer (some ⟨g, 0, none⟩), .int .u8 (x : Int)] w fun e w' => e = .returned (.tuple #[]) ∧ w' = (w.setCell ⟨g, x / 64, none⟩ (.int .u64 ((a.word (x / 64) ||| 2 ^ (x % 64) : Nat) : Int))).drew := by
  have c0 : w.cell? ⟨g, x / 64, none⟩ = some (.int .u64 (a.word (x / 64))) := by rw [cell_of_row _ _ _ _ _ _ hc]; exact a.cells_at (x / 64) (by omega)
  have f0 : w.frozen? ⟨g, x / 64, none⟩ = false := frozen_of_row _ _ _ _ _ hc
  have HC := Lib.hid hc; have HA := Lib.hid ha; clear hc ha
  go_enter Try.func37, Try.ntmps37
  go_wp2
  go_region
  go_wp2
  go_end0
  exact ⟨rfl, by rw [bits_put HA.out]⟩
end Go.Proofs.Ytachpdeejificaa
