/- A part of the proof of a law of the step table. -/
import Derived.Test.YtpnilbemlgbokaaGreatDoorS7k
import Derived.Test.YtpnilbemlgbokaaGreatDoorSXa
set_option linter.all false
namespace Go.V
open Go.Proofs
noncomputable def specs21 : List Spec := [sp33, sp24v, sp34v, sp67v, sp68v, sp70v]
def hints21 : List (Nat × List Nat) := []
noncomputable def F21 (N : Nat) (x : (((List (Int × (Int × Unit))) × (Int × (Int × Unit))) × (Int × (Int × Unit)))) : Out Bool :=
 match (!(decide ((lenI x.1.1) ≤ (16 : Int)))) with
 | true =>
  match f24v () with
  | .ret r_1 =>
   .ret r_1
  | .pan p_2 =>
   .pan p_2
  | .fail => .fail
 | false =>
  match f34v (x.1, ()) with
  | .ret r_3 =>
   match (!r_3) with
   | true =>
    match f24v () with
    | .ret r_5 =>
     .ret r_5
    | .pan p_6 =>
     .pan p_6
    | .fail => .fail
   | false =>
    match (decide (x.2.2.1 < (0 : Int))) with
    | true =>
     match f24v () with
     | .ret r_7 =>
      .ret r_7
     | .pan p_8 =>
      .pan p_8
     | .fail => .fail
    | false =>
     match (decide (x.2.2.1 > (9 : Int))) with
     | true =>
      match f24v () with
      | .ret r_9 =>
       .ret r_9
      | .pan p_10 =>
       .pan p_10
      | .fail => .fail
     | false =>
      match f67v (x.1, ()) with
      | .ret r_11 =>
       match (r_11.2.1 != (0 : Int)) with
       | true =>
        .ret false
       | false =>
        match (decide (x.2.1 < (0 : Int))) with
        | true =>
         match f24v () with
         | .ret r_13 =>
          .ret r_13
         | .pan p_14 =>
          .pan p_14
         | .fail => .fail
        | false =>
         match (decide (x.2.1 ≥ (lenI r_11.1))) with
         | true =>
          match f24v () with
          | .ret r_15 =>
           .ret r_15
          | .pan p_16 =>
           .pan p_16
          | .fail => .fail
         | false =>
          bif (inb x.2.1 r_11.1.length) then
           match (decide ((byteAt r_11.1 x.2.1) < (48 : Int))) with
           | true =>
            match f24v () with
            | .ret r_17 =>
             .ret r_17
            | .pan p_18 =>
             .pan p_18
            | .fail => .fail
           | false =>
            bif (inb x.2.1 r_11.1.length) then
             match (decide ((byteAt r_11.1 x.2.1) > (57 : Int))) with
             | true =>
              match f24v () with
              | .ret r_19 =>
               .ret r_19
              | .pan p_20 =>
               .pan p_20
              | .fail => .fail
             | false =>
              bif (inb x.2.1 r_11.1.length) then
               match ((IntKind.i64.wrap (IntKind.u8.wrap ((byteAt r_11.1 x.2.1) - (48 : Int)))) == x.2.2.1) with
               | true =>
                match f24v () with
                | .ret r_21 =>
                 .ret r_21
                | .pan p_22 =>
                 .pan p_22
                | .fail => .fail
               | false =>
                bif (in21 r_11.1 x.2.1 x.2.2.1) then
                 match f68v ((setB r_11.1 x.2.1 x.2.2.1), ()) with
                 | .ret r_23 =>
                  match (r_23.2.1 == (4 : Int)) with
                  | true =>
                   match f70v (r_23.1, ((([] : List (Int × (Int × Unit))), ((0 : Int), ((0 : Int), ()))), ())) with
                   | .ret r_25 =>
                    match r_25 with
                    | true =>
                     match f24v () with
                     | .ret r_27 =>
                      .ret r_27
                     | .pan p_28 =>
                      .pan p_28
                     | .fail => .fail
                    | false =>
                     .ret false
                   | .pan p_26 =>
                    .pan p_26
                   | .fail => .fail
                  | false =>
                   .ret false
                 | .pan p_24 =>
                  .pan p_24
                 | .fail => .fail
                else .fail
              else .fail
            else .fail
          else .fail
      | .pan p_12 =>
       .pan p_12
      | .fail => .fail
  | .pan p_4 =>
   .pan p_4
  | .fail => .fail
theorem e21 (N : Nat) (x : (((List (Int × (Int × Unit))) × (Int × (Int × Unit))) × (Int × (Int × Unit)))) : vfnE Tryz.prog (phi specs21) hints21 N (fun {ρ} k st => E21 (phi specs21) hints21 N k st) [1, 1, 1, 1, 1] Tryz.f21 false false ty21 .bool x = F21 N x := by
 kernel_rfl
noncomputable def f21 (x : (((List (Int × (Int × Unit))) × (Int × (Int × Unit))) × (Int × (Int × Unit)))) : Out Bool := F21 fuel x
noncomputable def sp21 : Spec := ⟨21, .call, ty21, .bool, false, false, f21⟩
theorem c21 : Contract Tryz.prog sp21 := contract_cutE (l := specs21) (arg := ty21) (res := .bool) (multi := false) (own := false) (F := f21) mixed (all_cons c33 (all_cons c24v (all_cons c34v (all_cons c67v (all_cons c68v (all_cons c70v all_nil)))))) (c := bodyOf Tryz.f21) (r := .seq (.region 8 r821 false) (.seq (.region 9 r921 false) (.seq (.region 10 r1021 false) tail21))) Tryz.func21 (by kernel_rfl) (E := (fun {ρ} k st => E21 (phi specs21) hints21 fuel k st)) (path := [1, 1, 1, 1, 1]) way21 (e21_ok (phi_ok (all_cons c33 (all_cons c24v (all_cons c34v (all_cons c67v (all_cons c68v (all_cons c70v all_nil))))))) hints21 fuel) hints21 fun x _ => ⟨fuel, e21 fuel x⟩
end Go.V
