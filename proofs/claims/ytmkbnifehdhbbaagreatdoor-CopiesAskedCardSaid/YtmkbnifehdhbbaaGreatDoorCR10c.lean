/- Row. -/
import Derived.Test.YtmkbnifehdhbbaaGreatDoorCR10b
import Derived.Test.YtmkbnifehdhbbaaGreatDoorCards
import Derived.Test.YtmkbnifehdhbbaaGreatDoorTie
import Derived.SevenTiedAt
set_option linter.all false
namespace Go.Proofs.YtmkbnifehdhbbaaGreatDoor
open Go Go.V
theorem ZW : Tryz.prog.mainIs = some (true, "097b3f2d4bf7b1990c1db747358a5df7783f0fc4cb834a8d8d9c2f9fabaaba8b".toList) := by
  unfold Program.mainIs
  rw [Ro]; kernel_rfl
theorem Z3 : Tryz.f10.params.toList.all (fun t => !Tryz.prog.wantsStandIn t) = true := by kernel_rfl
theorem card10 : Rows.CopiesAskedCardSaid :=
  Claim7.holds_tied_plain_at .later [] [.data, .data, .data, .data, .pinned] true (true, "097b3f2d4bf7b1990c1db747358a5df7783f0fc4cb834a8d8d9c2f9fabaaba8b") true
    Z1 (fun _ h => by cases h) (by kernel_rfl) (fun _ h => by cases h) copiesAsked_row_tie rfl ⟨rfl, rfl⟩ ZW rfl
    (fun f fn hf hfn => by
      obtain rfl : f = 10 := Option.some.inj ((show Tryz.prog.funcNamed "ephemerist/ephemeristlaw07.CopiesAsked" = some 10 by kernel_rfl).symm.trans hf) |>.symm
      obtain rfl : fn = Tryz.f10 := (Option.some.inj (Tryz.func10.symm.trans hfn)).symm
      exact ⟨by kernel_rfl, fun j t ht => by
        have h := List.all_eq_true.1 Z3 t (List.mem_of_getElem? (by simpa using ht))
        exact (show Tryz.prog.wantsStandIn t = false by simpa using h)⟩)
    (by kernel_rfl)
#print axioms card10
end Go.Proofs.YtmkbnifehdhbbaaGreatDoor
