/- A part of the proof of a law of the step table. -/
import Derived.Test.YtpnilbemlgbokaaGreatDoorR13
set_option linter.all false
namespace Go.V
open Go.Proofs Go.Proofs.YtpnilbemlgbokaaGreatDoor
open Go.ChangeShapes Go.WideShapes Go.ChangeAt Go.RowKit
theorem k1 : Tryz.prog.inPlace 13 = Rows.stepRivalRow.inPlace := by kernel_rfl
theorem k2 : Tryz.prog.unfollowed 13 = Rows.stepRivalRow.unfollowed := by kernel_rfl
theorem k3 : Tryz.prog.recurses 13 = Rows.stepRivalRow.recurses := by kernel_rfl
theorem k4 : Tryz.prog.varsNamed 13 = Rows.stepRivalRow.named := by kernel_rfl
theorem closed13 : joinedFacts Tryz.prog 13 Tryz.f13 Rows.stepRivalSpec Rows.stepRivalRow = true := by
  unfold joinedFacts
  rw [j1, j2, j3, j4, j5, j6, j7, j8, j9, k1, k2, k3, k4]
  kernel_rfl
theorem over13 : Rows.StepRivalSaid :=
  OpenClaim.holds_of_wide 13 Tryz.f13 rfl rfl rfl rfl rfl rfl rfl ⟨rfl, rfl, rfl, rfl, rfl⟩ rfl rfl rfl rfl rfl (by kernel_rfl) Tryz.func13 closed13
    (of_decide_eq_true (by kernel_rfl)) (by unfold Func.isWrapper; first | (rw [if_pos (by decide +kernel)]; kernel_rfl) | (rw [if_neg (by decide +kernel)]; exact ⟨rfl, rfl⟩))
    (fun os started H enc _ => lifted13 os started H enc)
end Go.V
