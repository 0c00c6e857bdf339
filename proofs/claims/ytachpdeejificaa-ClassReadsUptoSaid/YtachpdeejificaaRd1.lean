/- Reading a class: what is shared by both ways, plain; digits. -/
import Derived.Test.YtachpdeejificaaCls2
set_option linter.unusedVariables false
set_option linter.unusedSimpArgs false
namespace Go.Proofs.Ytachpdeejificaa
open Go.RowKit
/-- A text's byte at a place; 0: there is none. -/
def bat (s : ByteArray) (i : Nat) : Nat := (s.data.toList.getD i 0).toNat
theorem bat_lt (s : ByteArray) (i : Nat) : bat s i < 256 := (s.data.toList.getD i 0).toNat_lt
theorem bat_eq (s : ByteArray) (i : Nat) (h : i < s.size) : (s[i]'h).toNat = bat s i := by
  unfold bat
  rw [List.getD_eq_getElem?_getD, List.getElem?_eq_getElem (by simpa using h)]
  rfl
/-- What a hexadecimal digit is worth; -1: it is none. -/
def hexv (c : Nat) : Int := if 48 ≤ c ∧ c ≤ 57 then (c : Int) - 48 else if 97 ≤ c ∧ c ≤ 102 then (c : Int) - 87 else if 65 ≤ c ∧ c ≤ 70 then (c : Int) - 55 else -1
theorem hexv_lo (c : Nat) : -1 ≤ hexv c := by unfold hexv; split <;> (try split) <;> (try split) <;> omega
theorem hexv_hi (c : Nat) : hexv c ≤ 15 := by unfold hexv; split <;> (try split) <;> (try split) <;> omega
set_option maxRecDepth 100000 in
theorem or32 : ∀ c : Fin 256, bits .or .u8 ((c.val : Nat) : Int) 32 = if c.val / 32 % 2 = 1 then ((c.val : Nat) : Int) else ((c.val : Nat) : Int) + 32 := by decide +kernel
theorem ret_int {k : IntKind} {a b : Int} (h : a = b) : Ending.returned (.int k a) = .returned (.int k b) := by rw [h]
theorem digitR_c (c : Nat) (hc : c < 256) (w : World) : Calls Try.prog 47 #[.int .u8 (c : Int)] w fun e w' => e = .returned (.int .i64 (hexv c)) ∧ w' = w := by
  go_enter Try.func47, Try.ntmps47
  go_wp2
  all_goals go_ret
  all_goals refine ⟨ret_int ?_, rfl⟩
  all_goals unfold hexv
  all_goals split <;> (try split) <;> (try split) <;> omega
theorem digit_c (c : Nat) (hc : c < 256) (w : World) : Calls Try.prog 49 #[.int .u8 (c : Int)] w fun e w' => e = .returned (.int .i64 (hexv c)) ∧ w' = w := by
  have hx := or32 ⟨c, hc⟩
  dsimp only at hx
  go_enter Try.func49, Try.ntmps49
  go_wp2
  all_goals go_ret
  all_goals refine ⟨ret_int ?_, rfl⟩
  all_goals unfold hexv
  all_goals split at hx <;> split <;> (try split) <;> (try split) <;> omega
end Go.Proofs.Ytachpdeejificaa
