import Derived.BigQuiet
import Derived.Deep.QuietTactic
import Derived.Test.YtachpdeejificaaZ2
import Derived.Test.YtachpdeejificaaZ14
set_option linter.unusedVariables false
set_option linter.unusedSimpArgs false
namespace Go.Proofs.Ytachpdeejificaa
open Go.RowKit
def HexT (b : Nat) : ByteArray := ⟨#[UInt8.ofNat (hexd (b / 16)), UInt8.ofNat (hexd (b % 16))]⟩
end Go.Proofs.Ytachpdeejificaa
