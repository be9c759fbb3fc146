/- The row of law 5 of the copies over the repository: its closed facts. -/
import Derived.Test.YtmkbnifehdhbbabGreatDoorCR5
set_option linter.all false
namespace Go.V
open Go.Proofs Go.Proofs.YtmkbnifehdhbbabGreatDoor
open Go.ChangeShapes Go.WideShapes Go.ChangeAt Go.RowKit
theorem k1 : Tryz.prog.inPlace 5 = Rows.copiesAgainsRow.inPlace := by kernel_rfl
theorem k2 : Tryz.prog.unfollowed 5 = Rows.copiesAgainsRow.unfollowed := by kernel_rfl
theorem k3 : Tryz.prog.recurses 5 = Rows.copiesAgainsRow.recurses := by kernel_rfl
theorem k4 : Tryz.prog.varsNamed 5 = Rows.copiesAgainsRow.named := by kernel_rfl
theorem closed5 : joinedFacts Tryz.prog 5 Tryz.f5 Rows.copiesAgainsSpec Rows.copiesAgainsRow = true := by
  unfold joinedFacts
  rw [j1, j2, j3, j4, j5, j6, j7, j8, j9, k1, k2, k3, k4]
  kernel_rfl
theorem over5 : Rows.CopiesAgainsSaid :=
  OpenClaim.holds_of_wide 5 Tryz.f5 rfl rfl rfl rfl rfl rfl rfl ⟨rfl, rfl, rfl, rfl, rfl⟩ rfl rfl rfl rfl rfl (by kernel_rfl) Tryz.func5 closed5
    (of_decide_eq_true (by kernel_rfl)) (by unfold Func.isWrapper; first | (rw [if_pos (by decide +kernel)]; kernel_rfl) | (rw [if_neg (by decide +kernel)]; exact ⟨rfl, rfl⟩))
    (fun os started H enc _ => lifted5 os started H enc)
end Go.V
