/- The card of law 5 of the copies holds; no condition. -/
import Derived.Test.YtmkbnifehdhbbaaGreatDoorCR5b
import Derived.Test.YtmkbnifehdhbbaaGreatDoorCards
import Derived.Test.YtmkbnifehdhbbaaGreatDoorTie
import Derived.SevenTiedAt
set_option linter.all false
namespace Go.Proofs.YtmkbnifehdhbbaaGreatDoor
open Go Go.V
theorem main_is : Tryz.prog.mainIs = some (true, "097b3f2d4bf7b1990c1db747358a5df7783f0fc4cb834a8d8d9c2f9fabaaba8b".toList) := by
  unfold Program.mainIs
  rw [ioL]; kernel_rfl
theorem plain_params : Tryz.f5.params.toList.all (fun t => !Tryz.prog.wantsStandIn t) = true := by kernel_rfl
theorem card5 : Rows.CopiesFirstsCardSaid :=
  Claim7.holds_tied_plain_at .later [] [.data, .data, .data, .data, .pinned] true (true, "097b3f2d4bf7b1990c1db747358a5df7783f0fc4cb834a8d8d9c2f9fabaaba8b") true
    over5 (fun _ h => by cases h) (by kernel_rfl) (fun _ h => by cases h) copiesFirsts_row_tie rfl ⟨rfl, rfl⟩ main_is rfl
    (fun f fn hf hfn => by
      obtain rfl : f = 5 := Option.some.inj ((show Tryz.prog.funcNamed "ephemerist/ephemeristlaw07.CopiesFirsts" = some 5 by kernel_rfl).symm.trans hf) |>.symm
      obtain rfl : fn = Tryz.f5 := (Option.some.inj (Tryz.func5.symm.trans hfn)).symm
      exact ⟨by kernel_rfl, fun j t ht => by
        have h := List.all_eq_true.1 plain_params t (List.mem_of_getElem? (by simpa using ht))
        exact (show Tryz.prog.wantsStandIn t = false by simpa using h)⟩)
    (by kernel_rfl)
#print axioms card5
end Go.Proofs.YtmkbnifehdhbbaaGreatDoor
