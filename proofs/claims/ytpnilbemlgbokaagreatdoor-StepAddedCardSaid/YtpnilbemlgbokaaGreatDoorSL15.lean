/- A part of the proof of a law of the step table. -/
import Derived.Test.YtpnilbemlgbokaaGreatDoorS7k
set_option linter.all false
namespace Go.V
open Go.Proofs
noncomputable def specs15 : List Spec := [sp22v, sp24v, sp35v, sp41v, sp59v, sp61v, sp37v]
def hints15 : List (Nat × List Nat) := []
noncomputable def F15 (N : Nat) (x : (((List (Int × (Int × Unit))) × (Int × (Int × Unit))) × ((List Int) × (Int × Unit)))) : Out Bool :=
 match f22v (x.1, (x.2.1, ())) with
 | .ret r_1 =>
  match (!r_1) with
  | true =>
   match f24v () with
   | .ret r_3 =>
    .ret r_3
   | .pan p_4 =>
    .pan p_4
   | .fail => .fail
  | false =>
   match f35v (x.1, (x.2.2.1, ())) with
   | .ret r_5 =>
    match (!r_5) with
    | true =>
     match f24v () with
     | .ret r_7 =>
      .ret r_7
     | .pan p_8 =>
      .pan p_8
     | .fail => .fail
    | false =>
     match f41v (x.2.1, (x.2.2.1, ())) with
     | .ret r_9 =>
      match r_9 with
      | true =>
       match f24v () with
       | .ret r_11 =>
        .ret r_11
       | .pan p_12 =>
        .pan p_12
       | .fail => .fail
      | false =>
       match f59v (x.1, (x.2.1, ())) with
       | .ret r_13 =>
        match (r_13.2.2.1 != (0 : Int)) with
        | true =>
         .ret false
        | false =>
         match f35v (x.1, (r_13.1, ())) with
         | .ret r_15 =>
          match (!r_15) with
          | true =>
           .ret false
          | false =>
           match f41v (x.2.1, (r_13.1, ())) with
           | .ret r_17 =>
            match r_17 with
            | true =>
             .ret false
            | false =>
             match f61v (x.2.1, (r_13.1, ())) with
             | .ret r_19 =>
              match f37v (x.1, (r_19, ())) with
              | .ret r_21 =>
               match f61v (x.2.1, (x.2.2.1, ())) with
               | .ret r_23 =>
                match f37v (x.1, (r_23, ())) with
                | .ret r_25 =>
                 match (r_21.2.1 == (0 : Int)) with
                 | true =>
                  match (r_25.2.1 == (0 : Int)) with
                  | true =>
                   match ((lenI r_21.1) == r_13.2.1) with
                   | true =>
                    match (decide ((lenI r_25.1) ≥ r_13.2.1)) with
                    | true =>
                     match (decide ((lenI r_25.1) > r_13.2.1)) with
                     | true =>
                      match f24v () with
                      | .ret r_27 =>
                       .ret r_27
                      | .pan p_28 =>
                       .pan p_28
                      | .fail => .fail
                     | false =>
                      match (decide (x.2.2.1 ≥ r_13.1)) with
                      | true =>
                       match f24v () with
                       | .ret r_29 =>
                        .ret r_29
                       | .pan p_30 =>
                        .pan p_30
                       | .fail => .fail
                      | false =>
                       .ret false
                    | false =>
                     .ret false
                   | false =>
                    .ret false
                  | false =>
                   .ret false
                 | false =>
                  .ret false
                | .pan p_26 =>
                 .pan p_26
                | .fail => .fail
               | .pan p_24 =>
                .pan p_24
               | .fail => .fail
              | .pan p_22 =>
               .pan p_22
              | .fail => .fail
             | .pan p_20 =>
              .pan p_20
             | .fail => .fail
           | .pan p_18 =>
            .pan p_18
           | .fail => .fail
         | .pan p_16 =>
          .pan p_16
         | .fail => .fail
       | .pan p_14 =>
        .pan p_14
       | .fail => .fail
     | .pan p_10 =>
      .pan p_10
     | .fail => .fail
   | .pan p_6 =>
    .pan p_6
   | .fail => .fail
 | .pan p_2 =>
  .pan p_2
 | .fail => .fail
theorem e15 (N : Nat) (x : (((List (Int × (Int × Unit))) × (Int × (Int × Unit))) × ((List Int) × (Int × Unit)))) : vfn Tryz.prog (phi specs15) hints15 N Tryz.f15 false false ty18 .bool x = F15 N x := by
 kernel_rfl
noncomputable def f15 (x : (((List (Int × (Int × Unit))) × (Int × (Int × Unit))) × ((List Int) × (Int × Unit)))) : Out Bool := F15 fuel x
noncomputable def sp15 : Spec := ⟨15, .call, ty18, .bool, false, false, f15⟩
theorem c15 : Contract Tryz.prog sp15 := contract_at (l := specs15) (arg := ty18) (res := .bool) (multi := false) (own := false) (F := f15) mixed (all_cons c22v (all_cons c24v (all_cons c35v (all_cons c41v (all_cons c59v (all_cons c61v (all_cons c37v all_nil))))))) Tryz.func15 rfl hints15 fun x _ => ⟨fuel, e15 fuel x⟩
end Go.V
