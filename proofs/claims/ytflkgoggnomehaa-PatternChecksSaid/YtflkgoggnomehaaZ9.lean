import Derived.BigQuiet
import Derived.Deep.QuietTactic
import Derived.Test.YtflkgoggnomehaaZ2
import Derived.Test.YtflkgoggnomehaaZ5
set_option linter.unusedVariables false
set_option linter.unusedSimpArgs false
namespace Go.Proofs.Ytflkgoggnomehaa
open Go.RowKit
theorem hex_cut : ∀ p : Fin 16, (⟨#[48, 49, 50, 51, 52, 53, 54, 55, 56, 57, 97, 98, 99, 100, 101, 102]⟩ : ByteArray).extract p.val (p.val + 1) = ⟨#[UInt8.ofNat (hexd p.val)]⟩ := by decide +kernel
def HexT (b : Nat) : ByteArray := ⟨#[UInt8.ofNat (hexd (b / 16)), UInt8.ofNat (hexd (b % 16))]⟩
set_option maxHeartbeats 1000000 in
theorem hexR_c (b : Nat) (hb : b < 256) (w : World) : Calls Try.prog 116 #[.int .u8 (b : Int)] w fun e w' => e = .returned (.string (HexT b)) ∧ ∃ n, w' = w.drewN n := by
  obtain ⟨p, hp⟩ : ∃ p, p = b / 16 := ⟨_, rfl⟩
  obtain ⟨q, hq⟩ : ∃ q, q = b % 16 := ⟨_, rfl⟩
  have e1 : Int.tdiv (b : Int) 16 = (p : Int) := by rw [hp]; rfl
  have e2 : Int.tmod (b : Int) 16 = (q : Int) := by rw [hq]; rfl
  have p1 : p < 16 := by omega
  have q1 : q < 16 := by omega
  have e3 : IntKind.u8.wrap ((p : Int) + 1) = (p : Int) + 1 := by rw [IntKind.wrap_u8]; omega
  have e4 : IntKind.u8.wrap ((q : Int) + 1) = (q : Int) + 1 := by rw [IntKind.wrap_u8]; omega
  have e5 : (0 : Int) ≤ (p : Int) ∧ (p : Int) ≤ (p : Int) + 1 ∧ (p : Int) + 1 ≤ 16 := by omega
  have e6 : (0 : Int) ≤ (q : Int) ∧ (q : Int) ≤ (q : Int) + 1 ∧ (q : Int) + 1 ≤ 16 := by omega
  have HR := Lib.hid (show (⟨#[48, 49, 50, 51, 52, 53, 54, 55, 56, 57, 97, 98, 99, 100, 101, 102]⟩ : ByteArray).extract p (p + 1) ++ (⟨#[48, 49, 50, 51, 52, 53, 54, 55, 56, 57, 97, 98, 99, 100, 101, 102]⟩ : ByteArray).extract q (q + 1) = HexT b by
    rw [hex_cut ⟨p, p1⟩, hex_cut ⟨q, q1⟩]; unfold HexT; rw [← hp, ← hq]; rfl)
  clear hp hq
  go_enter Try.func116, Try.ntmps116
  go_wp2
  go_quiet (fail)
  go_wp2
  go_ret
  exact ⟨congrArg (fun x => Ending.returned (.string x)) HR.out, _, rfl⟩
end Go.Proofs.Ytflkgoggnomehaa
