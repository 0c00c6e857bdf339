import Derived.Test.YtachpdeejificaaZ1
import Derived.Test.YtachpdeejificaaZ15
import Derived.Test.YtachpdeejificaaZ16
namespace Go.Proofs.Ytachpdeejificaa.P
open Go.RowKit Go.Proofs.YtachpdeejificaaW.PrintWords Go.Proofs.YtachpdeejificaaW.PrintLast Go.Proofs.YtachpdeejificaaW.PrintMore
set_option linter.unusedVariables false
set_option linter.unusedSimpArgs false
def dowelref03_Hex.f (a0 : Int) : Option (ByteArray) := if 0 ≤ a0 ∧ a0 < 256 then some (HexT a0.toNat) else none
end Go.Proofs.Ytachpdeejificaa.P
namespace Go.Proofs.Ytachpdeejificaa.P
open Go.RowKit Go.Proofs.YtachpdeejificaaW.PrintWords Go.Proofs.YtachpdeejificaaW.PrintLast Go.Proofs.YtachpdeejificaaW.PrintMore
set_option linter.unusedVariables false
set_option linter.unusedSimpArgs false
def dowelref03_spelled.j0 : Nat → Int → Bool → Option (ByteArray)
  | 0, _, _ => none
  | k + 1, x0, x10 => if x10 = true then ((some (([x0] : List Int) : List Int)).bind fun y196 => (if 1 + (strOfNums y196).size ≤ 9223372036854775807 then (some ((⟨#[92]⟩ : ByteArray) ++ (strOfNums y196))) else (none))) else (if x0 ≥ 32 then (if x0 ≤ 126 then (some (strOfNums (([x0] : List Int)))) else ((dowelref03_Hex.f x0).bind fun t202 => (if 2 + t202.size ≤ 9223372036854775807 then (some ((⟨#[92, 120]⟩ : ByteArray) ++ t202)) else (none)))) else ((dowelref03_Hex.f x0).bind fun t203 => (if 2 + t203.size ≤ 9223372036854775807 then (some ((⟨#[92, 120]⟩ : ByteArray) ++ t203)) else (none))))
def dowelref03_spelled.f (k : Nat) (a0 : Int) : Option (ByteArray) := if a0 = 9 then (some (⟨#[92, 116]⟩ : ByteArray)) else (if a0 = 10 then (some (⟨#[92, 110]⟩ : ByteArray)) else (if a0 = 13 then (some (⟨#[92, 114]⟩ : ByteArray)) else (if a0 = 92 then (dowelref03_spelled.j0 k a0 (a0 == 92)) else (if a0 = 93 then (dowelref03_spelled.j0 k a0 (a0 == 93)) else (if a0 = 45 then (dowelref03_spelled.j0 k a0 (a0 == 45)) else (dowelref03_spelled.j0 k a0 (a0 == 94)))))))
mutual
def dowelref03_Text.j0 : Nat → ByteArray → Int → Int → Int → Int → Option (ByteArray)
  | 0, _, _, _, _, _ => none
  | k + 1, x3, x205000, x205001, x205002, x205003 => (dowelref03_Ranges.f x205000 x205001 x205002 x205003).bind fun t212 => (dowelref03_Text.l0 k x3 t212 0)
def dowelref03_Text.l0 : Nat → ByteArray → List (S34) → Int → Option (ByteArray)
  | 0, _, _, _ => none
  | k + 1, x3, x4, x5 => if x5 < (x4.length : Int) then (if 0 ≤ x5 then ((dowelref03_spelled.f k ((Q14 x4 x5).f0)).bind fun t216 => (if x3.size + t216.size ≤ 9223372036854775807 then (if ((((Q14 x4 x5).f1) - ((Q14 x4 x5).f0)) % 256) > 1 then (if (x3 ++ t216).size + 1 ≤ 9223372036854775807 then (if ((Q14 x4 x5).f1) > ((Q14 x4 x5).f0) then ((dowelref03_spelled.f k ((Q14 x4 x5).f1)).bind fun t222 => (if ((x3 ++ t216) ++ (⟨#[45]⟩ : ByteArray)).size + t222.size ≤ 9223372036854775807 then (dowelref03_Text.l0 k (((x3 ++ t216) ++ (⟨#[45]⟩ : ByteArray)) ++ t222) x4 (wrap64 (x5 + 1))) else (none))) else (dowelref03_Text.l0 k ((x3 ++ t216) ++ (⟨#[45]⟩ : ByteArray)) x4 (wrap64 (x5 + 1)))) else (none)) else (if ((Q14 x4 x5).f1) > ((Q14 x4 x5).f0) then ((dowelref03_spelled.f k ((Q14 x4 x5).f1)).bind fun t226 => (if (x3 ++ t216).size + t226.size ≤ 9223372036854775807 then (dowelref03_Text.l0 k ((x3 ++ t216) ++ t226) x4 (wrap64 (x5 + 1))) else (none))) else (dowelref03_Text.l0 k (x3 ++ t216) x4 (wrap64 (x5 + 1))))) else (none))) else (none)) else (if x3.size + 1 ≤ 9223372036854775807 then (some (x3 ++ (⟨#[93]⟩ : ByteArray))) else (none))
end
def dowelref03_Text.f (k : Nat) (a0_0 : Int) (a0_1 : Int) (a0_2 : Int) (a0_3 : Int) : Option (ByteArray) := (dowelref03_Bytes.f a0_0 a0_1 a0_2 a0_3).bind fun t205 => (if (t205.length : Int) > 128 then ((dowelref03_Not.f a0_0 a0_1 a0_2 a0_3).bind fun bt208 => (dowelref03_Text.j0 k (⟨#[91, 94]⟩ : ByteArray) bt208.1 bt208.2.1 bt208.2.2.1 bt208.2.2.2)) else (dowelref03_Text.j0 k (⟨#[91]⟩ : ByteArray) a0_0 a0_1 a0_2 a0_3))
end Go.Proofs.Ytachpdeejificaa.P
