/- A part of the proof of a law of the step table. -/
import Derived.Test.YtpnilbemlgbokaaGreatDoorR21b
import Derived.Test.YtpnilbemlgbokaaGreatDoorCards
import Derived.Test.YtpnilbemlgbokaaGreatDoorTie
import Derived.SevenTiedAt
set_option linter.all false
namespace Go.Proofs.YtpnilbemlgbokaaGreatDoor
open Go Go.V
theorem main_is : Tryz.prog.mainIs = some (true, "4d5c4be3f06c0dda4f5f619023940ed23f8a00fab49db8b23e85899696290530".toList) := by
  unfold Program.mainIs
  rw [ioL]; kernel_rfl
theorem plain_params : Tryz.f21.params.toList.all (fun t => !Tryz.prog.wantsStandIn t) = true := by kernel_rfl
theorem card21 : Rows.StepSpoiltCardSaid :=
  Claim7.holds_tied_plain_at .later [] [.data, .data, .data, .data, .pinned] true (true, "4d5c4be3f06c0dda4f5f619023940ed23f8a00fab49db8b23e85899696290530") true
    over21 (fun _ h => by cases h) (by kernel_rfl) (fun _ h => by cases h) stepSpoilt_row_tie rfl ⟨rfl, rfl⟩ main_is rfl
    (fun f fn hf hfn => by
      obtain rfl : f = 21 := Option.some.inj ((show Tryz.prog.funcNamed "ephemerist/ephemeristlaw05.StepSpoilt" = some 21 by kernel_rfl).symm.trans hf) |>.symm
      obtain rfl : fn = Tryz.f21 := (Option.some.inj (Tryz.func21.symm.trans hfn)).symm
      exact ⟨by kernel_rfl, fun j t ht => by
        have h := List.all_eq_true.1 plain_params t (List.mem_of_getElem? (by simpa using ht))
        exact (show Tryz.prog.wantsStandIn t = false by simpa using h)⟩)
    (by kernel_rfl)
#print axioms card21
end Go.Proofs.YtpnilbemlgbokaaGreatDoor
