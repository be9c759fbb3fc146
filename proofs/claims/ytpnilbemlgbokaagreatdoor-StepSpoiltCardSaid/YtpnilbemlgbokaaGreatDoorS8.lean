/- A part of the proof of a law of the step table. -/
import Derived.Test.YtpnilbemlgbokaaGreatDoorS7k
import Derived.Test.YtpnilbemlgbokaaGreatDoorSK1
import Derived.Test.YtpnilbemlgbokaaGreatDoorSK2
import Derived.Test.YtpnilbemlgbokaaGreatDoorSK3
set_option linter.all false
namespace Go.V
theorem k76 : f76 () = .ret tB := rfl
theorem k24 : f24 () = .ret true := by
  show F24 fuel () = _
  unfold F24
  simp only [f25v_eq, k25, f26v_eq, k26, f28v_eq, k28, f36v_eq, k36, f37v_eq, k37, f42v_eq, k42, f43v_eq, k43, f48v_eq, k48, f49v_eq, k49, f53v_eq, k53, f55v_eq, k55, f56v_eq, k56, f59v_eq, k59, f68v_eq, k68, f69v_eq, k69, f76v_eq, k76]
  simp only [f31v_eq]
  kernel_rfl
theorem known_true : f24v () = .ret true := by rw [f24v_eq]; exact k24
end Go.V
