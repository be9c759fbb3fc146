/- A part of the proof of TopUnitsSaid: no condition beyond what each theorem says. -/
import Derived.Test.YtkohflnifdpahaaGreatU08
import Derived.Test.YtkohflnifdpahaaGreatProg
import Derived.KernelRfl
set_option linter.all false
namespace Go.V
open Go.Proofs
theorem mixed:Tryz.prog.follows .mixedOrders=true:=by kernel_rfl
instance:Inv Tryz.prog where
 I _:=True
 below _ _ _ _:=trivial
end Go.V
