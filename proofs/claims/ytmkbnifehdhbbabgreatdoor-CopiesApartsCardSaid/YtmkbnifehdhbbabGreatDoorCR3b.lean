/- The row of law 3 of the copies over the repository: its closed facts. -/
import Derived.Test.YtmkbnifehdhbbabGreatDoorCR3
set_option linter.all false
namespace Go.V
open Go.Proofs Go.Proofs.YtmkbnifehdhbbabGreatDoor
open Go.ChangeShapes Go.WideShapes Go.ChangeAt Go.RowKit
theorem k1 : Tryz.prog.inPlace 3 = Rows.copiesApartsRow.inPlace := by kernel_rfl
theorem k2 : Tryz.prog.unfollowed 3 = Rows.copiesApartsRow.unfollowed := by kernel_rfl
theorem k3 : Tryz.prog.recurses 3 = Rows.copiesApartsRow.recurses := by kernel_rfl
theorem k4 : Tryz.prog.varsNamed 3 = Rows.copiesApartsRow.named := by kernel_rfl
theorem closed3 : joinedFacts Tryz.prog 3 Tryz.f3 Rows.copiesApartsSpec Rows.copiesApartsRow = true := by
  unfold joinedFacts
  rw [j1, j2, j3, j4, j5, j6, j7, j8, j9, k1, k2, k3, k4]
  kernel_rfl
theorem over3 : Rows.CopiesApartsSaid :=
  OpenClaim.holds_of_wide 3 Tryz.f3 rfl rfl rfl rfl rfl rfl rfl ⟨rfl, rfl, rfl, rfl, rfl⟩ rfl rfl rfl rfl rfl (by kernel_rfl) Tryz.func3 closed3
    (of_decide_eq_true (by kernel_rfl)) (by unfold Func.isWrapper; first | (rw [if_pos (by decide +kernel)]; kernel_rfl) | (rw [if_neg (by decide +kernel)]; exact ⟨rfl, rfl⟩))
    (fun os started H enc _ => lifted3 os started H enc)
end Go.V
