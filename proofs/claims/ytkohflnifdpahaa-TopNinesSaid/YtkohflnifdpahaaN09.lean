/- A part of the proof of TopNinesSaid: no condition beyond what each theorem says. -/
import Derived.Test.YtkohflnifdpahaaN08
import Derived.Test.YtkohflnifdpahaaProg
import Derived.KernelRfl
set_option linter.all false
namespace Go.V
open Go.Proofs
theorem mixed:Try.prog.follows .mixedOrders=true:=by kernel_rfl
instance:Inv Try.prog where
  I _:=True
  below _ _ _ _:=trivial
end Go.V
