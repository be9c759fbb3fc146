/- A part of the proof of a law of the step table. -/
import Derived.Test.YtpnilbemlgbokaaGreatDoorSY
import Derived.Test.YtpnilbemlgbokaaGreatDoorVV
import Derived.Laws.IdiomStrings
set_option linter.all false
namespace Go.V
open Go.Proofs
open Go.RowKit (Below)
noncomputable def regAt (id : Nat) (c : Code) : Array Oper := match findRegion id c with | some o => o | none => #[]
theorem infoAt {ops : Array Oper} {L : List (Option Tmp × Op × Option (Nat × Bool))} (h : ops.toList.map opInfo = L) {i : Nat} {x : Option Tmp × Op × Option (Nat × Bool)} (hx : L[i]? = some x) : ∃ o, ops[i]? = some o ∧ o.dst = x.1 ∧ o.op = x.2.1 ∧ o.guard = x.2.2 := by
  rw [← h, List.getElem?_map, Array.getElem?_toList] at hx
  cases h : ops[i]? with
  | none => rw [h] at hx; cases hx
  | some o => rw [h] at hx; cases hx; exact ⟨o, rfl, rfl, rfl, rfl⟩
section
variable {a : Act} {w : World} {o : Oper}
end
theorem put_none {a : Act} {v : Value} : a.put none v = a := rfl
end Go.V
