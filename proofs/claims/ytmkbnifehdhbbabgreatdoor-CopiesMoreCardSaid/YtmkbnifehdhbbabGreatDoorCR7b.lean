/- The row of law 7 of the copies over the repository: its closed facts. -/
import Derived.Test.YtmkbnifehdhbbabGreatDoorCR7
set_option linter.all false
namespace Go.V
open Go.Proofs Go.Proofs.YtmkbnifehdhbbabGreatDoor
open Go.ChangeShapes Go.WideShapes Go.ChangeAt Go.RowKit
theorem k1 : Tryz.prog.inPlace 7 = Rows.copiesMoreRow.inPlace := by kernel_rfl
theorem k2 : Tryz.prog.unfollowed 7 = Rows.copiesMoreRow.unfollowed := by kernel_rfl
theorem k3 : Tryz.prog.recurses 7 = Rows.copiesMoreRow.recurses := by kernel_rfl
theorem k4 : Tryz.prog.varsNamed 7 = Rows.copiesMoreRow.named := by kernel_rfl
theorem closed7 : joinedFacts Tryz.prog 7 Tryz.f7 Rows.copiesMoreSpec Rows.copiesMoreRow = true := by
  unfold joinedFacts
  rw [j1, j2, j3, j4, j5, j6, j7, j8, j9, k1, k2, k3, k4]
  kernel_rfl
theorem over7 : Rows.CopiesMoreSaid :=
  OpenClaim.holds_of_wide 7 Tryz.f7 rfl rfl rfl rfl rfl rfl rfl ⟨rfl, rfl, rfl, rfl, rfl⟩ rfl rfl rfl rfl rfl (by kernel_rfl) Tryz.func7 closed7
    (of_decide_eq_true (by kernel_rfl)) (by unfold Func.isWrapper; first | (rw [if_pos (by decide +kernel)]; kernel_rfl) | (rw [if_neg (by decide +kernel)]; exact ⟨rfl, rfl⟩))
    (fun os started H enc _ => lifted7 os started H enc)
end Go.V
