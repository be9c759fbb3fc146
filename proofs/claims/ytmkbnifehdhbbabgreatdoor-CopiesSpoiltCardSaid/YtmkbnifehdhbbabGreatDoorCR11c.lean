/- Row. -/
import Derived.Test.YtmkbnifehdhbbabGreatDoorCR11b
import Derived.Test.YtmkbnifehdhbbabGreatDoorCards
import Derived.Test.YtmkbnifehdhbbabGreatDoorTie
import Derived.SevenTiedAt
set_option linter.all false
namespace Go.Proofs.YtmkbnifehdhbbabGreatDoor
open Go Go.V
theorem Zl : Tryz.prog.mainIs = some (true, "d0b7961701d66e5faff0bbf6f9e812e494de12179ce161f3b3dee8bc94afbba0".toList) := by
  unfold Program.mainIs
  rw [RG]; kernel_rfl
theorem Zp : Tryz.f11.params.toList.all (fun t => !Tryz.prog.wantsStandIn t) = true := by kernel_rfl
theorem card11 : Rows.CopiesSpoiltCardSaid :=
  Claim7.holds_tied_plain_at .later [] [.data, .data, .data, .data, .pinned] true (true, "d0b7961701d66e5faff0bbf6f9e812e494de12179ce161f3b3dee8bc94afbba0") true
    abf (fun _ h => by cases h) (by kernel_rfl) (fun _ h => by cases h) copiesSpoilt_row_tie rfl ⟨rfl, rfl⟩ Zl rfl
    (fun f fn hf hfn => by
      obtain rfl : f = 11 := Option.some.inj ((show Tryz.prog.funcNamed "ephemerist/ephemeristlaw07.CopiesSpoilt" = some 11 by kernel_rfl).symm.trans hf) |>.symm
      obtain rfl : fn = Tryz.f11 := (Option.some.inj (Tryz.func11.symm.trans hfn)).symm
      exact ⟨by kernel_rfl, fun j t ht => by
        have h := List.all_eq_true.1 Zp t (List.mem_of_getElem? (by simpa using ht))
        exact (show Tryz.prog.wantsStandIn t = false by simpa using h)⟩)
    (by kernel_rfl)
#print axioms card11
end Go.Proofs.YtmkbnifehdhbbabGreatDoor
