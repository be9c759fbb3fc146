/- A part of the proof of a law of the step table. -/
import Derived.Test.YtpnilbemlgbokaaGreatDoorSZb
set_option linter.all false
namespace Go.V
open Go.Proofs
noncomputable def specs68 : List Spec := [sp77]
def hints68 : List (Nat × List Nat) := []
noncomputable def F68 (N : Nat) (x : ((List UInt8) × Unit)) : Out (((List (Int × (Int × Unit))) × (Int × (Int × Unit))) × (Int × Unit)) :=
 match (decide ((lenI x.1) > (270 : Int))) with
 | true =>
  .ret ((([] : List (Int × (Int × Unit))), ((0 : Int), ((0 : Int), ()))), ((3 : Int), ()))
 | false =>
  match f117 (x.1, ()) with
  | .ret r_1 =>
   match f77 (r_1, ()) with
   | .ret r_4 =>
    match (!r_4) with
    | true =>
     .ret ((([] : List (Int × (Int × Unit))), ((0 : Int), ((0 : Int), ()))), ((2 : Int), ()))
    | false =>
     .ret (r_1, ((0 : Int), ()))
   | .pan p_5 =>
    .pan p_5
   | .fail => .fail
  | .pan p_2 =>
   match errOut p_2 with
   | .ret e_3 =>
    match (e_3 != (0 : Int)) with
    | true =>
     .ret ((([] : List (Int × (Int × Unit))), ((0 : Int), ((0 : Int), ()))), (e_3, ()))
    | false =>
     match f77 ((([] : List (Int × (Int × Unit))), ((0 : Int), ((0 : Int), ()))), ()) with
     | .ret r_6 =>
      match (!r_6) with
      | true =>
       .ret ((([] : List (Int × (Int × Unit))), ((0 : Int), ((0 : Int), ()))), ((2 : Int), ()))
      | false =>
       .ret ((([] : List (Int × (Int × Unit))), ((0 : Int), ((0 : Int), ()))), ((0 : Int), ()))
     | .pan p_7 =>
      .pan p_7
     | .fail => .fail
   | .pan _ => .fail
   | .fail => .fail
  | .fail => .fail
theorem e68 (N : Nat) (x : ((List UInt8) × Unit)) : vfnCut Tryz.prog (phi specs68) hints68 N g4 [1, 1, 1, 0, 0] Tryz.f68 true false (.prod .str .unit) ty6 x = F68 N x := by
 kernel_rfl
noncomputable def f68 (x : ((List UInt8) × Unit)) : Out (((List (Int × (Int × Unit))) × (Int × (Int × Unit))) × (Int × Unit)) := F68 fuel x
noncomputable def sp68 : Spec := ⟨68, .call, (.prod .str .unit), ty6, true, false, f68⟩
theorem c68 : Contract Tryz.prog sp68 := contract_cut (l := specs68) (arg := (.prod .str .unit)) (res := ty6) (multi := true) (own := false) (F := f68) mixed (all_cons c77 all_nil) (c := bodyOf Tryz.f68) (r := .region 4 reg4 false) Tryz.func68 (by kernel_rfl) (g := g4) (path := [1, 1, 1, 0, 0]) (by kernel_rfl) reg4_ok hints68 fun x _ => ⟨fuel, e68 fuel x⟩
end Go.V
