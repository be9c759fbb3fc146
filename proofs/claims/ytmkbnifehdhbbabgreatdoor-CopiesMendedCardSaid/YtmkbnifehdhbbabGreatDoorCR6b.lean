/- The row of law 6 of the copies over the repository: its closed facts. -/
import Derived.Test.YtmkbnifehdhbbabGreatDoorCR6
set_option linter.all false
namespace Go.V
open Go.Proofs Go.Proofs.YtmkbnifehdhbbabGreatDoor
open Go.ChangeShapes Go.WideShapes Go.ChangeAt Go.RowKit
theorem k1 : Tryz.prog.inPlace 6 = Rows.copiesMendedRow.inPlace := by kernel_rfl
theorem k2 : Tryz.prog.unfollowed 6 = Rows.copiesMendedRow.unfollowed := by kernel_rfl
theorem k3 : Tryz.prog.recurses 6 = Rows.copiesMendedRow.recurses := by kernel_rfl
theorem k4 : Tryz.prog.varsNamed 6 = Rows.copiesMendedRow.named := by kernel_rfl
theorem closed6 : joinedFacts Tryz.prog 6 Tryz.f6 Rows.copiesMendedSpec Rows.copiesMendedRow = true := by
  unfold joinedFacts
  rw [j1, j2, j3, j4, j5, j6, j7, j8, j9, k1, k2, k3, k4]
  kernel_rfl
theorem over6 : Rows.CopiesMendedSaid :=
  OpenClaim.holds_of_wide 6 Tryz.f6 rfl rfl rfl rfl rfl rfl rfl ⟨rfl, rfl, rfl, rfl, rfl⟩ rfl rfl rfl rfl rfl (by kernel_rfl) Tryz.func6 closed6
    (of_decide_eq_true (by kernel_rfl)) (by unfold Func.isWrapper; first | (rw [if_pos (by decide +kernel)]; kernel_rfl) | (rw [if_neg (by decide +kernel)]; exact ⟨rfl, rfl⟩))
    (fun os started H enc _ => lifted6 os started H enc)
end Go.V
