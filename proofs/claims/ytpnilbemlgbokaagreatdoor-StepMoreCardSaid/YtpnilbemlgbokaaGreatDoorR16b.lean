/- A part of the proof of a law of the step table. -/
import Derived.Test.YtpnilbemlgbokaaGreatDoorR16
set_option linter.all false
namespace Go.V
open Go.Proofs Go.Proofs.YtpnilbemlgbokaaGreatDoor
open Go.ChangeShapes Go.WideShapes Go.ChangeAt Go.RowKit
theorem k1 : Tryz.prog.inPlace 16 = Rows.stepMoreRow.inPlace := by kernel_rfl
theorem k2 : Tryz.prog.unfollowed 16 = Rows.stepMoreRow.unfollowed := by kernel_rfl
theorem k3 : Tryz.prog.recurses 16 = Rows.stepMoreRow.recurses := by kernel_rfl
theorem k4 : Tryz.prog.varsNamed 16 = Rows.stepMoreRow.named := by kernel_rfl
theorem closed16 : joinedFacts Tryz.prog 16 Tryz.f16 Rows.stepMoreSpec Rows.stepMoreRow = true := by
  unfold joinedFacts
  rw [j1, j2, j3, j4, j5, j6, j7, j8, j9, k1, k2, k3, k4]
  kernel_rfl
theorem over16 : Rows.StepMoreSaid :=
  OpenClaim.holds_of_wide 16 Tryz.f16 rfl rfl rfl rfl rfl rfl rfl ⟨rfl, rfl, rfl, rfl, rfl⟩ rfl rfl rfl rfl rfl (by kernel_rfl) Tryz.func16 closed16
    (of_decide_eq_true (by kernel_rfl)) (by unfold Func.isWrapper; first | (rw [if_pos (by decide +kernel)]; kernel_rfl) | (rw [if_neg (by decide +kernel)]; exact ⟨rfl, rfl⟩))
    (fun os started H enc _ => lifted16 os started H enc)
end Go.V
