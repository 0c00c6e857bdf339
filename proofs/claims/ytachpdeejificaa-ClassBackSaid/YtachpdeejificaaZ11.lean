import Derived.Test.YtachpdeejificaaZ1
import Derived.Test.YtachpdeejificaaZ4
import Derived.Test.YtachpdeejificaaZ10
namespace Go.Proofs.Ytachpdeejificaa.P
open Go.RowKit Go.Proofs.YtachpdeejificaaW.PrintWords Go.Proofs.YtachpdeejificaaW.PrintLast Go.Proofs.YtachpdeejificaaW.PrintMore
set_option linter.unusedVariables false
set_option linter.unusedSimpArgs false
def midB (a0 : ByteArray) (a1 : Int) : Bool := decide (a0.size ≤ bigN) && (decide (0 ≤ a1) && (decide (a1 ≤ a0.size) && (decide ((parseF a0 a1.toNat).2.2.1 = 0) && (decide ((parseF a0 a1.toNat).2.2.2 = 0) && decide ((parseF a0 a1.toNat).2.1 ≤ a1.toNat + 1000000)))))
def class_Parse.f (a0 : ByteArray) (a1 : Int) : Option (Int × Int × Int × Int × Int × Int × Int) := if (a0.size ≤ smallN ∨ midB a0 a1 = true) ∧ -9223372036854775808 ≤ a1 ∧ a1 ≤ 9223372036854775807 then some (((parseI a0 a1).1.c0 : Int), ((parseI a0 a1).1.c1 : Int), ((parseI a0 a1).1.c2 : Int), ((parseI a0 a1).1.c3 : Int), ((parseI a0 a1).2.1 : Int), ((parseI a0 a1).2.2.1 : Int), ((parseI a0 a1).2.2.2 : Int)) else none
theorem class_Parse.calls (a0 : ByteArray) (a1 : Int) (r1 : Int) (r2 : Int) (r3 : Int) (r4 : Int) (r5 : Int) (r6 : Int) (r7 : Int) (w : World) (h : class_Parse.f a0 a1 = some (r1, r2, r3, r4, r5, r6, r7)) :
    Calls Try.prog 31 #[.string a0, .int .i64 a1] w fun e w' => e = .returned (.tuple #[.agg #[.int .u64 r1, .int .u64 r2, .int .u64 r3, .int .u64 r4], .int .i64 r5, .agg #[.int .i64 r6, .int .i64 r7]]) ∧ Below w.heap.size w w' := by
  unfold class_Parse.f at h
  split at h
  · next q =>
    injection h with h
    simp only [Prod.mk.injEq] at h
    obtain ⟨rfl, rfl, rfl, rfl, rfl, rfl, rfl⟩ := h
    rcases q.1 with hs | hm
    · exact (parse_c a0 hs a1 q.2 w).mono fun _ _ h => h
    · unfold midB at hm
      simp only [Bool.and_eq_true, decide_eq_true_eq] at hm
      obtain ⟨m1, m2, m3, m4, m5, m6⟩ := hm
      obtain ⟨p, rfl⟩ : ∃ p : Nat, a1 = (p : Int) := ⟨a1.toNat, by omega⟩
      rw [Int.toNat_natCast] at m4 m5 m6
      have e : parseI a0 (p : Int) = parseF a0 p := by unfold parseI; rw [if_neg (by omega), Int.toNat_natCast]
      rw [e]
      exact (parse_mid a0 m1 p (parseF a0 p).2.1 (parseF a0 p).1 (by rw [← m4]; exact Prod.ext rfl (Prod.ext rfl (Prod.ext rfl (by rw [m5, m4])))) m6 w).mono fun _ _ h => h
  · cases h
end Go.Proofs.Ytachpdeejificaa.P
namespace Go.Proofs.Ytachpdeejificaa.P
open Go.RowKit Go.Proofs.YtachpdeejificaaW.PrintWords Go.Proofs.YtachpdeejificaaW.PrintLast Go.Proofs.YtachpdeejificaaW.PrintMore
set_option linter.unusedVariables false
set_option linter.unusedSimpArgs false
def class_Has.f (a0_0 : Int) (a0_1 : Int) (a0_2 : Int) (a0_3 : Int) (a1 : Int) : Option (Bool) := if okB a0_0 a0_1 a0_2 a0_3 = true ∧ 0 ≤ a1 ∧ a1 < 256 then some ((cI a0_0 a0_1 a0_2 a0_3).mem a1.toNat) else none
theorem class_Has.calls (a0_0 : Int) (a0_1 : Int) (a0_2 : Int) (a0_3 : Int) (a1 : Int) (r : Bool) (w : World) (h : class_Has.f a0_0 a0_1 a0_2 a0_3 a1 = some r) :
    Calls Try.prog 15 #[.agg #[.int .u64 a0_0, .int .u64 a0_1, .int .u64 a0_2, .int .u64 a0_3], .int .u8 a1] w fun e w' => e = .returned (.bool r) ∧ Below w.heap.size w w' := by
  unfold class_Has.f at h
  split at h
  · next q =>
    obtain rfl := Option.some.inj h
    rw [cI_V q.1]
    have e : a1 = ((a1.toNat : Nat) : Int) := by omega
    have := has_c _ (cI_ok q.1) a1.toNat (by omega) w
    rw [← e] at this
    exact this
  · cases h
end Go.Proofs.Ytachpdeejificaa.P
