/- The row of law 4 of the copies over the repository: its closed facts. -/
import Derived.Test.YtmkbnifehdhbbabGreatDoorCR4
set_option linter.all false
namespace Go.V
open Go.Proofs Go.Proofs.YtmkbnifehdhbbabGreatDoor
open Go.ChangeShapes Go.WideShapes Go.ChangeAt Go.RowKit
theorem k1 : Tryz.prog.inPlace 4 = Rows.copiesAloneRow.inPlace := by kernel_rfl
theorem k2 : Tryz.prog.unfollowed 4 = Rows.copiesAloneRow.unfollowed := by kernel_rfl
theorem k3 : Tryz.prog.recurses 4 = Rows.copiesAloneRow.recurses := by kernel_rfl
theorem k4 : Tryz.prog.varsNamed 4 = Rows.copiesAloneRow.named := by kernel_rfl
theorem closed4 : joinedFacts Tryz.prog 4 Tryz.f4 Rows.copiesAloneSpec Rows.copiesAloneRow = true := by
  unfold joinedFacts
  rw [j1, j2, j3, j4, j5, j6, j7, j8, j9, k1, k2, k3, k4]
  kernel_rfl
theorem over4 : Rows.CopiesAloneSaid :=
  OpenClaim.holds_of_wide 4 Tryz.f4 rfl rfl rfl rfl rfl rfl rfl ⟨rfl, rfl, rfl, rfl, rfl⟩ rfl rfl rfl rfl rfl (by kernel_rfl) Tryz.func4 closed4
    (of_decide_eq_true (by kernel_rfl)) (by unfold Func.isWrapper; first | (rw [if_pos (by decide +kernel)]; kernel_rfl) | (rw [if_neg (by decide +kernel)]; exact ⟨rfl, rfl⟩))
    (fun os started H enc _ => lifted4 os started H enc)
end Go.V
