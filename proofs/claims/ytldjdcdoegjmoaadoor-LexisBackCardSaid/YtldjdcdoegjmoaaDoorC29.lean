import Derived.Test.YtldjdcdoegjmoaaDoorC1
import Derived.Test.YtldjdcdoegjmoaaDoorC3
import Derived.Test.YtldjdcdoegjmoaaDoorC14
import Derived.Test.YtldjdcdoegjmoaaDoorC25
import Derived.Test.YtldjdcdoegjmoaaDoorC27
import Derived.Test.YtldjdcdoegjmoaaDoorC28
namespace Go.Proofs.YtldjdcdoegjmoaaDoor.P
open Go.RowKit Go.Proofs.YtldjdcdoegjmoaaDoorW.PrintWords Go.Proofs.YtldjdcdoegjmoaaDoorW.PrintLast Go.Proofs.YtldjdcdoegjmoaaDoorW.PrintMore
set_option linter.unusedVariables false
set_option linter.unusedSimpArgs false
attribute [local go_sem high] eqA41
def dowellaw04_works.f (k : Nat) : Option Bool := some true
theorem dowellaw04_works.calls (k : Nat)  (r : Bool) (w : World) (h : dowellaw04_works.f k  = some r) (ht : TabOk w) :
    Calls Tryd.prog 14 #[] w fun e w' => e = .returned (.bool r) ∧ Below w.heap.size w w' := by
  obtain rfl := Option.some.inj h; exact works_w w ht
mutual
def dowellaw04_blank.l0 : Nat → ByteArray → Int → Option (Bool)
  | 0, _, _ => none
  | k + 1, x0, x3 => if x3 < (x0.size : Int) then (if 0 ≤ x3 then (if (bt x0 x3) = 32 then (dowellaw04_blank.j1 k x0 x3 (bt x0 x3) ((bt x0 x3) == 32)) else (if (bt x0 x3) = 9 then (dowellaw04_blank.j1 k x0 x3 (bt x0 x3) ((bt x0 x3) == 9)) else (if (bt x0 x3) = 13 then (dowellaw04_blank.j1 k x0 x3 (bt x0 x3) ((bt x0 x3) == 13)) else (dowellaw04_blank.j1 k x0 x3 (bt x0 x3) ((bt x0 x3) == 10))))) else (none)) else (some true)
def dowellaw04_blank.j1 : Nat → ByteArray → Int → Int → Bool → Option (Bool)
  | 0, _, _, _, _ => none
  | k + 1, x0, x3, x12, x13 => if x13 = true then (dowellaw04_blank.l0 k x0 (wrap64 (x3 + 1))) else (if x12 = 35 then (dowellaw04_blank.l1 k x0 x3) else (some false))
def dowellaw04_blank.l1 : Nat → ByteArray → Int → Option (Bool)
  | 0, _, _ => none
  | k + 1, x0, x3 => if x3 < (x0.size : Int) then (if 0 ≤ x3 then (if (bt x0 x3) = 10 then (dowellaw04_blank.l0 k x0 (wrap64 (x3 + 1))) else (dowellaw04_blank.l1 k x0 (wrap64 (x3 + 1)))) else (none)) else (dowellaw04_blank.l0 k x0 (wrap64 (x3 + 1)))
end
def dowellaw04_blank.f (k : Nat) (a0 : ByteArray) : Option (Bool) := dowellaw04_blank.l0 k a0 0
end Go.Proofs.YtldjdcdoegjmoaaDoor.P
