/- Row. -/
import Derived.Test.YtmkbnifehdhbbaaGreatDoorCR10
set_option linter.all false
namespace Go.V
open Go.Proofs Go.Proofs.YtmkbnifehdhbbaaGreatDoor
open Go.ChangeShapes Go.WideShapes Go.ChangeAt Go.RowKit
theorem k1 : Tryz.prog.inPlace 10 = Rows.copiesAskedRow.inPlace := by kernel_rfl
theorem k2 : Tryz.prog.unfollowed 10 = Rows.copiesAskedRow.unfollowed := by kernel_rfl
theorem k3 : Tryz.prog.recurses 10 = Rows.copiesAskedRow.recurses := by kernel_rfl
theorem k4 : Tryz.prog.varsNamed 10 = Rows.copiesAskedRow.named := by kernel_rfl
theorem Zj : joinedFacts Tryz.prog 10 Tryz.f10 Rows.copiesAskedSpec Rows.copiesAskedRow = true := by
  unfold joinedFacts
  rw [j1, j2, j3, j4, j5, j6, j7, j8, j9, k1, k2, k3, k4]
  kernel_rfl
theorem Z1 : Rows.CopiesAskedSaid :=
  OpenClaim.holds_of_wide 10 Tryz.f10 rfl rfl rfl rfl rfl rfl rfl ⟨rfl, rfl, rfl, rfl, rfl⟩ rfl rfl rfl rfl rfl (by kernel_rfl) Tryz.func10 Zj
    (of_decide_eq_true (by kernel_rfl)) (by unfold Func.isWrapper; first | (rw [if_pos (by decide +kernel)]; kernel_rfl) | (rw [if_neg (by decide +kernel)]; exact ⟨rfl, rfl⟩))
    (fun os started H enc _ => ZU os started H enc)
end Go.V
