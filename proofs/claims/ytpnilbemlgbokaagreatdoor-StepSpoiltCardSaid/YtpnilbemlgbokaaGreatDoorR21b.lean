/- A part of the proof of a law of the step table. -/
import Derived.Test.YtpnilbemlgbokaaGreatDoorR21
set_option linter.all false
namespace Go.V
open Go.Proofs Go.Proofs.YtpnilbemlgbokaaGreatDoor
open Go.ChangeShapes Go.WideShapes Go.ChangeAt Go.RowKit
theorem k1 : Tryz.prog.inPlace 21 = Rows.stepSpoiltRow.inPlace := by kernel_rfl
theorem k2 : Tryz.prog.unfollowed 21 = Rows.stepSpoiltRow.unfollowed := by kernel_rfl
theorem k3 : Tryz.prog.recurses 21 = Rows.stepSpoiltRow.recurses := by kernel_rfl
theorem k4 : Tryz.prog.varsNamed 21 = Rows.stepSpoiltRow.named := by kernel_rfl
theorem closed21 : joinedFacts Tryz.prog 21 Tryz.f21 Rows.stepSpoiltSpec Rows.stepSpoiltRow = true := by
  unfold joinedFacts
  rw [j1, j2, j3, j4, j5, j6, j7, j8, j9, k1, k2, k3, k4]
  kernel_rfl
theorem over21 : Rows.StepSpoiltSaid :=
  OpenClaim.holds_of_wide 21 Tryz.f21 rfl rfl rfl rfl rfl rfl rfl ⟨rfl, rfl, rfl, rfl, rfl⟩ rfl rfl rfl rfl rfl (by kernel_rfl) Tryz.func21 closed21
    (of_decide_eq_true (by kernel_rfl)) (by unfold Func.isWrapper; first | (rw [if_pos (by decide +kernel)]; kernel_rfl) | (rw [if_neg (by decide +kernel)]; exact ⟨rfl, rfl⟩))
    (fun os started H enc _ => lifted21 os started H enc)
end Go.V
