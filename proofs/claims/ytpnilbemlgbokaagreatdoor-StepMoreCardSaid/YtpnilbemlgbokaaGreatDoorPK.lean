/- A part of the proof of a law of the step table. -/
import Derived.Test.YtpnilbemlgbokaaGreatDoorPA
set_option linter.all false
namespace Go.V
open Go.Proofs
def bl : List Int → List Int → Prop
  | [], [] => False
  | [], _ :: _ => True
  | _ :: _, [] => False
  | a :: l, b :: m => a < b ∨ (a = b ∧ bl l m)
theorem bl_app (p : List Int) {l m : List Int} (h : bl l m) : bl (p ++ l) (p ++ m) := by
  induction p with
  | nil => exact h
  | cons a p ih => exact .inr ⟨rfl, ih⟩
end Go.V
