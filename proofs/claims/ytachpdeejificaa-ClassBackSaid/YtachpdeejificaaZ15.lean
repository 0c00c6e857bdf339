import Derived.Test.YtachpdeejificaaZ1
import Derived.Test.YtachpdeejificaaZ4
import Derived.Test.YtachpdeejificaaZ14
namespace Go.Proofs.Ytachpdeejificaa.P
open Go.RowKit Go.Proofs.YtachpdeejificaaW.PrintWords Go.Proofs.YtachpdeejificaaW.PrintLast Go.Proofs.YtachpdeejificaaW.PrintMore
set_option linter.unusedVariables false
set_option linter.unusedSimpArgs false
def dowelref03_Ranges.f (a0_0 : Int) (a0_1 : Int) (a0_2 : Int) (a0_3 : Int) : Option (List (S34)) := if okB a0_0 a0_1 a0_2 a0_3 = true then some ((rangesL (cI a0_0 a0_1 a0_2 a0_3)).map fun p => (⟨(p.1 : Int), (p.2 : Int)⟩ : S34)) else none
end Go.Proofs.Ytachpdeejificaa.P
namespace Go.Proofs.Ytachpdeejificaa.P
open Go.RowKit Go.Proofs.YtachpdeejificaaW.PrintWords Go.Proofs.YtachpdeejificaaW.PrintLast Go.Proofs.YtachpdeejificaaW.PrintMore
set_option linter.unusedVariables false
set_option linter.unusedSimpArgs false
def dowelref03_Bytes.f (a0_0 : Int) (a0_1 : Int) (a0_2 : Int) (a0_3 : Int) : Option (List Int) := if okB a0_0 a0_1 a0_2 a0_3 = true then some ((cI a0_0 a0_1 a0_2 a0_3).bytes.map fun (b : Nat) => (b : Int)) else none
end Go.Proofs.Ytachpdeejificaa.P
namespace Go.Proofs.Ytachpdeejificaa.P
open Go.RowKit Go.Proofs.YtachpdeejificaaW.PrintWords Go.Proofs.YtachpdeejificaaW.PrintLast Go.Proofs.YtachpdeejificaaW.PrintMore
set_option linter.unusedVariables false
set_option linter.unusedSimpArgs false
def dowelref03_Not.f (a0_0 : Int) (a0_1 : Int) (a0_2 : Int) (a0_3 : Int) : Option (Int × Int × Int × Int) := if okB a0_0 a0_1 a0_2 a0_3 = true then some (c4 ((cI a0_0 a0_1 a0_2 a0_3).not)) else none
end Go.Proofs.Ytachpdeejificaa.P
