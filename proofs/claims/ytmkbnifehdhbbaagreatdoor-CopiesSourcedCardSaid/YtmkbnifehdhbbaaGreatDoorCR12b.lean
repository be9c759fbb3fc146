/- The row of law 12 of the copies over the repository: its closed facts. -/
import Derived.Test.YtmkbnifehdhbbaaGreatDoorCR12
set_option linter.all false
namespace Go.V
open Go.Proofs Go.Proofs.YtmkbnifehdhbbaaGreatDoor
open Go.ChangeShapes Go.WideShapes Go.ChangeAt Go.RowKit
theorem k1 : Tryz.prog.inPlace 12 = Rows.copiesSourcedRow.inPlace := by kernel_rfl
theorem k2 : Tryz.prog.unfollowed 12 = Rows.copiesSourcedRow.unfollowed := by kernel_rfl
theorem k3 : Tryz.prog.recurses 12 = Rows.copiesSourcedRow.recurses := by kernel_rfl
theorem k4 : Tryz.prog.varsNamed 12 = Rows.copiesSourcedRow.named := by kernel_rfl
theorem closed12 : joinedFacts Tryz.prog 12 Tryz.f12 Rows.copiesSourcedSpec Rows.copiesSourcedRow = true := by
  unfold joinedFacts
  rw [j1, j2, j3, j4, j5, j6, j7, j8, j9, k1, k2, k3, k4]
  kernel_rfl
theorem over12 : Rows.CopiesSourcedSaid :=
  OpenClaim.holds_of_wide 12 Tryz.f12 rfl rfl rfl rfl rfl rfl rfl ⟨rfl, rfl, rfl, rfl, rfl⟩ rfl rfl rfl rfl rfl (by kernel_rfl) Tryz.func12 closed12
    (of_decide_eq_true (by kernel_rfl)) (by unfold Func.isWrapper; first | (rw [if_pos (by decide +kernel)]; kernel_rfl) | (rw [if_neg (by decide +kernel)]; exact ⟨rfl, rfl⟩))
    (fun os started H enc _ => lifted12 os started H enc)
end Go.V
