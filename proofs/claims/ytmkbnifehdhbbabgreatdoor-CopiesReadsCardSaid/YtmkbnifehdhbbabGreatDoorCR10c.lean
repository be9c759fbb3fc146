/- Row. -/
import Derived.Test.YtmkbnifehdhbbabGreatDoorCR10b
import Derived.Test.YtmkbnifehdhbbabGreatDoorCards
import Derived.Test.YtmkbnifehdhbbabGreatDoorTie
import Derived.SevenTiedAt
set_option linter.all false
namespace Go.Proofs.YtmkbnifehdhbbabGreatDoor
open Go Go.V
theorem Zl : Tryz.prog.mainIs = some (true, "d0b7961701d66e5faff0bbf6f9e812e494de12179ce161f3b3dee8bc94afbba0".toList) := by
  unfold Program.mainIs
  rw [RG]; kernel_rfl
theorem Zp : Tryz.f10.params.toList.all (fun t => !Tryz.prog.wantsStandIn t) = true := by kernel_rfl
theorem card10 : Rows.CopiesReadsCardSaid :=
  Claim7.holds_tied_plain_at .later [] [.data, .data, .data, .data, .pinned] true (true, "d0b7961701d66e5faff0bbf6f9e812e494de12179ce161f3b3dee8bc94afbba0") true
    abe (fun _ h => by cases h) (by kernel_rfl) (fun _ h => by cases h) copiesReads_row_tie rfl ⟨rfl, rfl⟩ Zl rfl
    (fun f fn hf hfn => by
      obtain rfl : f = 10 := Option.some.inj ((show Tryz.prog.funcNamed "ephemerist/ephemeristlaw07.CopiesReads" = some 10 by kernel_rfl).symm.trans hf) |>.symm
      obtain rfl : fn = Tryz.f10 := (Option.some.inj (Tryz.func10.symm.trans hfn)).symm
      exact ⟨by kernel_rfl, fun j t ht => by
        have h := List.all_eq_true.1 Zp t (List.mem_of_getElem? (by simpa using ht))
        exact (show Tryz.prog.wantsStandIn t = false by simpa using h)⟩)
    (by kernel_rfl)
#print axioms card10
end Go.Proofs.YtmkbnifehdhbbabGreatDoor
