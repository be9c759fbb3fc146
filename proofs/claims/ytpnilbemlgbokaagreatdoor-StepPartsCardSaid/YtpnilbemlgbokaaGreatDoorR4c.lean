/- A part of the proof of a law of the step table. -/
import Derived.Test.YtpnilbemlgbokaaGreatDoorR4b
import Derived.Test.YtpnilbemlgbokaaGreatDoorCards
import Derived.Test.YtpnilbemlgbokaaGreatDoorTie
import Derived.SevenTiedAt
set_option linter.all false
/- THE CARD of StepParts. -/
namespace Go.Proofs.YtpnilbemlgbokaaGreatDoor
open Go Go.V
theorem main_is : Tryz.prog.mainIs = some (true, "4d5c4be3f06c0dda4f5f619023940ed23f8a00fab49db8b23e85899696290530".toList) := by
  unfold Program.mainIs
  rw [ioL]; kernel_rfl
theorem card4 : Rows.StepPartsCardSaid :=
  Claim7.holds_tied_plain_at .later [] [.data, .data, .data, .data, .pinned] true (true, "4d5c4be3f06c0dda4f5f619023940ed23f8a00fab49db8b23e85899696290530") true
    over4 (fun _ h => by cases h) (by kernel_rfl) (fun _ h => by cases h) stepParts_row_tie rfl ⟨rfl, rfl⟩ main_is rfl
    (fun f fn hf hfn => by
      obtain rfl : f = 4 := Option.some.inj ((show Tryz.prog.funcNamed "ephemerist/ephemeristlaw05.StepParts" = some 4 by kernel_rfl).symm.trans hf) |>.symm
      obtain rfl : fn = Tryz.f4 := (Option.some.inj (Tryz.func4.symm.trans hfn)).symm
      exact ⟨by kernel_rfl, fun j t ht => by
        rw [Tryz.params4] at ht
        have h3 : t = 3 ∨ t = 23 := by
          rcases j with _ | _ | _ | j
          · left; simpa using ht.symm
          · left; simpa using ht.symm
          · right; simpa using ht.symm
          · simp at ht
        rcases h3 with rfl | rfl
        · exact (show Tryz.prog.wantsStandIn 3 = false by kernel_rfl)
        · exact (show Tryz.prog.wantsStandIn 23 = false by kernel_rfl)⟩)
    (by kernel_rfl)
#print axioms card4
end Go.Proofs.YtpnilbemlgbokaaGreatDoor
