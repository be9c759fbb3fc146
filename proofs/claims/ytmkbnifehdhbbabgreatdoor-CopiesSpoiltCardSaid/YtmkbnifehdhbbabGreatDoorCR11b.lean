/- Row. -/
import Derived.Test.YtmkbnifehdhbbabGreatDoorCR11
set_option linter.all false
namespace Go.V
open Go.Proofs Go.Proofs.YtmkbnifehdhbbabGreatDoor
open Go.ChangeShapes Go.WideShapes Go.ChangeAt Go.RowKit
theorem k1 : Tryz.prog.inPlace 11 = Rows.copiesSpoiltRow.inPlace := by kernel_rfl
theorem k2 : Tryz.prog.unfollowed 11 = Rows.copiesSpoiltRow.unfollowed := by kernel_rfl
theorem k3 : Tryz.prog.recurses 11 = Rows.copiesSpoiltRow.recurses := by kernel_rfl
theorem k4 : Tryz.prog.varsNamed 11 = Rows.copiesSpoiltRow.named := by kernel_rfl
theorem aap : joinedFacts Tryz.prog 11 Tryz.f11 Rows.copiesSpoiltSpec Rows.copiesSpoiltRow = true := by
  unfold joinedFacts
  rw [j1, j2, j3, j4, j5, j6, j7, j8, j9, k1, k2, k3, k4]
  kernel_rfl
theorem abf : Rows.CopiesSpoiltSaid :=
  OpenClaim.holds_of_wide 11 Tryz.f11 rfl rfl rfl rfl rfl rfl rfl ⟨rfl, rfl, rfl, rfl, rfl⟩ rfl rfl rfl rfl rfl (by kernel_rfl) Tryz.func11 aap
    (of_decide_eq_true (by kernel_rfl)) (by unfold Func.isWrapper; first | (rw [if_pos (by decide +kernel)]; kernel_rfl) | (rw [if_neg (by decide +kernel)]; exact ⟨rfl, rfl⟩))
    (fun os started H enc _ => aa8 os started H enc)
end Go.V
