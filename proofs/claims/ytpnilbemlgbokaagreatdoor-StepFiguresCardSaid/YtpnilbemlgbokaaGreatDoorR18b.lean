/- A part of the proof of a law of the step table. -/
import Derived.Test.YtpnilbemlgbokaaGreatDoorR18
set_option linter.all false
namespace Go.V
open Go.Proofs Go.Proofs.YtpnilbemlgbokaaGreatDoor
open Go.ChangeShapes Go.WideShapes Go.ChangeAt Go.RowKit
theorem k1 : Tryz.prog.inPlace 18 = Rows.stepFiguresRow.inPlace := by kernel_rfl
theorem k2 : Tryz.prog.unfollowed 18 = Rows.stepFiguresRow.unfollowed := by kernel_rfl
theorem k3 : Tryz.prog.recurses 18 = Rows.stepFiguresRow.recurses := by kernel_rfl
theorem k4 : Tryz.prog.varsNamed 18 = Rows.stepFiguresRow.named := by kernel_rfl
theorem closed18 : joinedFacts Tryz.prog 18 Tryz.f18 Rows.stepFiguresSpec Rows.stepFiguresRow = true := by
  unfold joinedFacts
  rw [j1, j2, j3, j4, j5, j6, j7, j8, j9, k1, k2, k3, k4]
  kernel_rfl
theorem over18 : Rows.StepFiguresSaid :=
  OpenClaim.holds_of_wide 18 Tryz.f18 rfl rfl rfl rfl rfl rfl rfl ⟨rfl, rfl, rfl, rfl, rfl⟩ rfl rfl rfl rfl rfl (by kernel_rfl) Tryz.func18 closed18
    (of_decide_eq_true (by kernel_rfl)) (by unfold Func.isWrapper; first | (rw [if_pos (by decide +kernel)]; kernel_rfl) | (rw [if_neg (by decide +kernel)]; exact ⟨rfl, rfl⟩))
    (fun os started H enc _ => lifted18 os started H enc)
end Go.V
