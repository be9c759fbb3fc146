/- A part of the proof of a law of the step table. -/
import Derived.Test.YtpnilbemlgbokaaGreatDoorR20
set_option linter.all false
namespace Go.V
open Go.Proofs Go.Proofs.YtpnilbemlgbokaaGreatDoor
open Go.ChangeShapes Go.WideShapes Go.ChangeAt Go.RowKit
theorem k1 : Tryz.prog.inPlace 20 = Rows.stepReadsRow.inPlace := by kernel_rfl
theorem k2 : Tryz.prog.unfollowed 20 = Rows.stepReadsRow.unfollowed := by kernel_rfl
theorem k3 : Tryz.prog.recurses 20 = Rows.stepReadsRow.recurses := by kernel_rfl
theorem k4 : Tryz.prog.varsNamed 20 = Rows.stepReadsRow.named := by kernel_rfl
theorem closed20 : joinedFacts Tryz.prog 20 Tryz.f20 Rows.stepReadsSpec Rows.stepReadsRow = true := by
  unfold joinedFacts
  rw [j1, j2, j3, j4, j5, j6, j7, j8, j9, k1, k2, k3, k4]
  kernel_rfl
theorem over20 : Rows.StepReadsSaid :=
  OpenClaim.holds_of_wide 20 Tryz.f20 rfl rfl rfl rfl rfl rfl rfl ⟨rfl, rfl, rfl, rfl, rfl⟩ rfl rfl rfl rfl rfl (by kernel_rfl) Tryz.func20 closed20
    (of_decide_eq_true (by kernel_rfl)) (by unfold Func.isWrapper; first | (rw [if_pos (by decide +kernel)]; kernel_rfl) | (rw [if_neg (by decide +kernel)]; exact ⟨rfl, rfl⟩))
    (fun os started H enc _ => lifted20 os started H enc)
end Go.V
