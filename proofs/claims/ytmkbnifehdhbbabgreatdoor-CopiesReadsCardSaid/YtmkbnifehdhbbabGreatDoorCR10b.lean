/- Row. -/
import Derived.Test.YtmkbnifehdhbbabGreatDoorCR10
set_option linter.all false
namespace Go.V
open Go.Proofs Go.Proofs.YtmkbnifehdhbbabGreatDoor
open Go.ChangeShapes Go.WideShapes Go.ChangeAt Go.RowKit
theorem k1 : Tryz.prog.inPlace 10 = Rows.copiesReadsRow.inPlace := by kernel_rfl
theorem k2 : Tryz.prog.unfollowed 10 = Rows.copiesReadsRow.unfollowed := by kernel_rfl
theorem k3 : Tryz.prog.recurses 10 = Rows.copiesReadsRow.recurses := by kernel_rfl
theorem k4 : Tryz.prog.varsNamed 10 = Rows.copiesReadsRow.named := by kernel_rfl
theorem aao : joinedFacts Tryz.prog 10 Tryz.f10 Rows.copiesReadsSpec Rows.copiesReadsRow = true := by
  unfold joinedFacts
  rw [j1, j2, j3, j4, j5, j6, j7, j8, j9, k1, k2, k3, k4]
  kernel_rfl
theorem abe : Rows.CopiesReadsSaid :=
  OpenClaim.holds_of_wide 10 Tryz.f10 rfl rfl rfl rfl rfl rfl rfl ⟨rfl, rfl, rfl, rfl, rfl⟩ rfl rfl rfl rfl rfl (by kernel_rfl) Tryz.func10 aao
    (of_decide_eq_true (by kernel_rfl)) (by unfold Func.isWrapper; first | (rw [if_pos (by decide +kernel)]; kernel_rfl) | (rw [if_neg (by decide +kernel)]; exact ⟨rfl, rfl⟩))
    (fun os started H enc _ => aa7 os started H enc)
end Go.V
