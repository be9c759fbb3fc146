/- A part of the proof of a law of the step table. -/
import Derived.Test.YtpnilbemlgbokaaGreatDoorS7k
set_option linter.all false
namespace Go.V
open Go.Proofs
noncomputable def specs3 : List Spec := [sp22v, sp24v, sp23v, sp25v, sp26v, sp27v]
def hints3 : List (Nat × List Nat) := [(13, [2, 5, 11, 13, 19, 20])]
noncomputable def L3_0 (N : Nat) (n_L3_0 : Nat) (x : (((List (Int × (Int × Unit))) × (Int × (Int × Unit))) × ((List Int) × ((List Int) × (Int × (Int × Unit)))))) (r_19 : ((List Int) × (Int × Unit))) (r_21 : (Bool × (Int × Unit))) (fine_25 : Bool) (r_26 : Int) : Out Bool :=
 vloop Tryz.prog (phi specs3) hints3 N Tryz.f3 false false .bool [.at 1, .at 1, .at 1, .at 1, .at 1, .at 1, .at 1, .at 1, .at 1, .at 0, .at 1, .at 0] n_L3_0 [.und, .und, .d (.list (.int .i64)) x.2.2.1, .und, .und, .box [.d ty2 x.1.1, .d (.int .i64) x.1.2.1, .d (.int .i64) x.1.2.2.1], .und, .und, .und, .und, .und, .d (.list (.int .i64)) r_19.1, .und, .d .bool r_21.1, .und, .und, .und, .und, .und, .d .bool fine_25, .d (.int .i64) r_26, .und, .und, .und, .und, .und, .und, .und, .und, .und, .und, .und, .und, .und, .und, .und, .und, .und, .und, .und, .und, .und, .und, .und, .und, .und, .und, .und, .und, .und, .und, .und, .und, .und, .und, .und, .und, .und, .und, .und, .und, .und, .und, .und, .und, .und, .und, .und, .und, .und, .und, .und, .und, .und, .und, .und, .und, .und, .und, .und, .und, .und, .und, .und, .und, .und, .und, .und, .und, .und, .und, .und, .und, .und, .und, .und, .und, .und, .und, .und, .und, .und, .und, .und, .und, .und, .und, .und, .und, .und, .und, .und, .und, .und, .und, .und, .und, .und, .und, .und, .und, .und, .und, .und, .und, .und, .und, .und, .und, .und, .und, .und, .und, .und, .und, .und, .und, .und, .und, .und, .und, .und, .und, .und, .und, .und, .und, .und, .und, .und, .und, .und, .und, .und, .und, .und, .und, .und, .und, .und, .und, .und, .und, .und, .und, .und, .und, .und, .und, .und, .und, .und, .und, .und, .und, .und, .und, .und, .und, .und, .und, .und, .und, .und, .und, .und, .und, .und, .und, .und, .und, .und, .und, .und, .und, .und, .und, .und, .und, .und, .und, .und, .und, .und, .und, .und, .und, .und, .und, .und, .und, .und, .und, .und, .und, .und, .und, .und, .und, .und, .und, .und, .und, .und, .und, .und, .und, .und, .und, .und, .und, .und, .und, .und, .und, .und, .und, .und, .und, .und, .und, .und, .und, .und]
theorem L3_0_succ (N : Nat) (n_L3_0 : Nat) (x : (((List (Int × (Int × Unit))) × (Int × (Int × Unit))) × ((List Int) × ((List Int) × (Int × (Int × Unit)))))) (r_19 : ((List Int) × (Int × Unit))) (r_21 : (Bool × (Int × Unit))) (fine_25 : Bool) (r_26 : Int) : L3_0 N  (n_L3_0 + 1) x r_19 r_21 fine_25 r_26 =
  (
  match (decide (r_26 < (lenI r_19.1))) with
  | true =>
   bif (inb r_26 r_19.1.length) then
    match (decide ((List.getD r_19.1 r_26.toNat (0 : Int)) < (-9999 : Int))) with
    | true =>
     .ret false
    | false =>
     bif (inb r_26 r_19.1.length) then
      match (decide ((List.getD r_19.1 r_26.toNat (0 : Int)) > (9999 : Int))) with
      | true =>
       .ret false
      | false =>
       match fine_25 with
       | true =>
        bif (inb r_26 r_19.1.length) then
         bif (inb r_26 x.2.2.1.length) then
          match (decide ((IntKind.i64.wrap ((List.getD r_19.1 r_26.toNat (0 : Int)) - (List.getD x.2.2.1 r_26.toNat (0 : Int)))) ≤ x.1.2.2.1)) with
          | true =>
           bif (inb r_26 x.2.2.1.length) then
            bif (inb r_26 r_19.1.length) then
             L3_0 N n_L3_0 x r_19 r_21 (decide ((IntKind.i64.wrap ((List.getD x.2.2.1 r_26.toNat (0 : Int)) - (List.getD r_19.1 r_26.toNat (0 : Int)))) ≤ x.1.2.2.1)) (IntKind.i64.wrap (r_26 + (1 : Int)))
            else .fail
           else .fail
          | false =>
           L3_0 N n_L3_0 x r_19 r_21 false (IntKind.i64.wrap (r_26 + (1 : Int)))
         else .fail
        else .fail
       | false =>
        L3_0 N n_L3_0 x r_19 r_21 false (IntKind.i64.wrap (r_26 + (1 : Int)))
     else .fail
   else .fail
  | false =>
   match (r_21.1 == fine_25) with
   | true =>
    match f24v () with
    | .ret r_27 =>
     .ret r_27
    | .pan p_28 =>
     .pan p_28
    | .fail => .fail
   | false =>
    .ret false : Out Bool) := by
 kernel_rfl
noncomputable def F3 (N : Nat) (x : (((List (Int × (Int × Unit))) × (Int × (Int × Unit))) × ((List Int) × ((List Int) × (Int × (Int × Unit)))))) : Out Bool :=
 match f22v (x.1, (x.2.1, ())) with
 | .ret r_1 =>
  match (!r_1) with
  | true =>
   match f24v () with
   | .ret r_3 =>
    .ret r_3
   | .pan p_4 =>
    .pan p_4
   | .fail => .fail
  | false =>
   match (decide ((lenI x.2.2.1) > (16 : Int))) with
   | true =>
    match f24v () with
    | .ret r_5 =>
     .ret r_5
    | .pan p_6 =>
     .pan p_6
    | .fail => .fail
   | false =>
    match f23v (x.1, (x.2.2.1, ())) with
    | .ret r_7 =>
     match (!r_7) with
     | true =>
      match f24v () with
      | .ret r_9 =>
       .ret r_9
      | .pan p_10 =>
       .pan p_10
      | .fail => .fail
     | false =>
      match (decide (x.2.2.2.1 < (0 : Int))) with
      | true =>
       match f24v () with
       | .ret r_11 =>
        .ret r_11
       | .pan p_12 =>
        .pan p_12
       | .fail => .fail
      | false =>
       match (decide (x.2.2.2.1 ≥ (IntKind.i64.wrap ((lenI x.2.1) - (1 : Int))))) with
       | true =>
        match f24v () with
        | .ret r_13 =>
         .ret r_13
        | .pan p_14 =>
         .pan p_14
        | .fail => .fail
       | false =>
        bif (inb x.2.2.2.1 x.2.1.length) then
         match (decide (x.2.2.2.2.1 < (List.getD x.2.1 x.2.2.2.1.toNat (0 : Int)))) with
         | true =>
          match f24v () with
          | .ret r_15 =>
           .ret r_15
          | .pan p_16 =>
           .pan p_16
          | .fail => .fail
         | false =>
          bif (inb (IntKind.i64.wrap (x.2.2.2.1 + (1 : Int))) x.2.1.length) then
           match (decide (x.2.2.2.2.1 > (List.getD x.2.1 (IntKind.i64.wrap (x.2.2.2.1 + (1 : Int))).toNat (0 : Int)))) with
           | true =>
            match f24v () with
            | .ret r_17 =>
             .ret r_17
            | .pan p_18 =>
             .pan p_18
            | .fail => .fail
           | false =>
            match f25v (x.1, (x.2.1, (x.2.2.1, ()))) with
            | .ret r_19 =>
             match f26v (x.1, (x.2.1, (x.2.2.1, ()))) with
             | .ret r_21 =>
              match (r_19.2.1 != (0 : Int)) with
              | true =>
               .ret false
              | false =>
               match (r_21.2.1 != (0 : Int)) with
               | true =>
                .ret false
               | false =>
                match ((lenI r_19.1) != (lenI x.2.2.1)) with
                | true =>
                 .ret false
                | false =>
                 bif (inb x.2.2.2.1 x.2.1.length) then
                  bif (inb (IntKind.i64.wrap (x.2.2.2.1 + (1 : Int))) x.2.1.length) then
                   bif (inb (List.getD x.2.1 x.2.2.2.1.toNat (0 : Int)) x.2.2.1.length) then
                    bif (inb (List.getD x.2.1 (IntKind.i64.wrap (x.2.2.2.1 + (1 : Int))).toNat (0 : Int)) x.2.2.1.length) then
                     match f27v ((IntKind.i64.wrap ((IntKind.i64.wrap ((List.getD x.2.2.1 (List.getD x.2.1 x.2.2.2.1.toNat (0 : Int)).toNat (0 : Int)) * (IntKind.i64.wrap ((List.getD x.2.1 (IntKind.i64.wrap (x.2.2.2.1 + (1 : Int))).toNat (0 : Int)) - x.2.2.2.2.1)))) + (IntKind.i64.wrap ((List.getD x.2.2.1 (List.getD x.2.1 (IntKind.i64.wrap (x.2.2.2.1 + (1 : Int))).toNat (0 : Int)).toNat (0 : Int)) * (IntKind.i64.wrap (x.2.2.2.2.1 - (List.getD x.2.1 x.2.2.2.1.toNat (0 : Int)))))))), ((IntKind.i64.wrap ((List.getD x.2.1 (IntKind.i64.wrap (x.2.2.2.1 + (1 : Int))).toNat (0 : Int)) - (List.getD x.2.1 x.2.2.2.1.toNat (0 : Int)))), (x.1.2.1, ()))) with
                     | .ret r_23 =>
                      match (r_23.2.1 != (0 : Int)) with
                      | true =>
                       .ret false
                      | false =>
                       bif (inb x.2.2.2.2.1 r_19.1.length) then
                        match ((List.getD r_19.1 x.2.2.2.2.1.toNat (0 : Int)) != r_23.1) with
                        | true =>
                         .ret false
                        | false =>
                         bif (inb (List.getD x.2.1 x.2.2.2.1.toNat (0 : Int)) r_19.1.length) then
                          bif (inb (List.getD x.2.1 x.2.2.2.1.toNat (0 : Int)) x.2.2.1.length) then
                           match ((List.getD r_19.1 (List.getD x.2.1 x.2.2.2.1.toNat (0 : Int)).toNat (0 : Int)) != (List.getD x.2.2.1 (List.getD x.2.1 x.2.2.2.1.toNat (0 : Int)).toNat (0 : Int))) with
                           | true =>
                            .ret false
                           | false =>
                            bif (inb (List.getD x.2.1 (IntKind.i64.wrap (x.2.2.2.1 + (1 : Int))).toNat (0 : Int)) r_19.1.length) then
                             bif (inb (List.getD x.2.1 (IntKind.i64.wrap (x.2.2.2.1 + (1 : Int))).toNat (0 : Int)) x.2.2.1.length) then
                              match ((List.getD r_19.1 (List.getD x.2.1 (IntKind.i64.wrap (x.2.2.2.1 + (1 : Int))).toNat (0 : Int)).toNat (0 : Int)) != (List.getD x.2.2.1 (List.getD x.2.1 (IntKind.i64.wrap (x.2.2.2.1 + (1 : Int))).toNat (0 : Int)).toNat (0 : Int))) with
                              | true =>
                               .ret false
                              | false =>
                               bif (inb x.2.2.2.2.1 r_19.1.length) then
                                bif (inb (List.getD x.2.1 x.2.2.2.1.toNat (0 : Int)) x.2.2.1.length) then
                                 bif (inb (List.getD x.2.1 (IntKind.i64.wrap (x.2.2.2.1 + (1 : Int))).toNat (0 : Int)) x.2.2.1.length) then
                                  match (decide ((List.getD r_19.1 x.2.2.2.2.1.toNat (0 : Int)) < (if (List.getD x.2.2.1 (List.getD x.2.1 (IntKind.i64.wrap (x.2.2.2.1 + (1 : Int))).toNat (0 : Int)).toNat (0 : Int)) < (List.getD x.2.2.1 (List.getD x.2.1 x.2.2.2.1.toNat (0 : Int)).toNat (0 : Int)) then (List.getD x.2.2.1 (List.getD x.2.1 (IntKind.i64.wrap (x.2.2.2.1 + (1 : Int))).toNat (0 : Int)).toNat (0 : Int)) else (List.getD x.2.2.1 (List.getD x.2.1 x.2.2.2.1.toNat (0 : Int)).toNat (0 : Int))))) with
                                  | true =>
                                   .ret false
                                  | false =>
                                   bif (inb x.2.2.2.2.1 r_19.1.length) then
                                    bif (inb (List.getD x.2.1 x.2.2.2.1.toNat (0 : Int)) x.2.2.1.length) then
                                     bif (inb (List.getD x.2.1 (IntKind.i64.wrap (x.2.2.2.1 + (1 : Int))).toNat (0 : Int)) x.2.2.1.length) then
                                      match (decide ((List.getD r_19.1 x.2.2.2.2.1.toNat (0 : Int)) > (if (List.getD x.2.2.1 (List.getD x.2.1 (IntKind.i64.wrap (x.2.2.2.1 + (1 : Int))).toNat (0 : Int)).toNat (0 : Int)) > (List.getD x.2.2.1 (List.getD x.2.1 x.2.2.2.1.toNat (0 : Int)).toNat (0 : Int)) then (List.getD x.2.2.1 (List.getD x.2.1 (IntKind.i64.wrap (x.2.2.2.1 + (1 : Int))).toNat (0 : Int)).toNat (0 : Int)) else (List.getD x.2.2.1 (List.getD x.2.1 x.2.2.2.1.toNat (0 : Int)).toNat (0 : Int))))) with
                                      | true =>
                                       .ret false
                                      | false =>
                                       L3_0 N N x r_19 r_21 true (0 : Int)
                                     else .fail
                                    else .fail
                                   else .fail
                                 else .fail
                                else .fail
                               else .fail
                             else .fail
                            else .fail
                          else .fail
                         else .fail
                       else .fail
                     | .pan p_24 =>
                      .pan p_24
                     | .fail => .fail
                    else .fail
                   else .fail
                  else .fail
                 else .fail
             | .pan p_22 =>
              .pan p_22
             | .fail => .fail
            | .pan p_20 =>
             .pan p_20
            | .fail => .fail
          else .fail
        else .fail
    | .pan p_8 =>
     .pan p_8
    | .fail => .fail
 | .pan p_2 =>
  .pan p_2
 | .fail => .fail
theorem e3 (N : Nat) (x : (((List (Int × (Int × Unit))) × (Int × (Int × Unit))) × ((List Int) × ((List Int) × (Int × (Int × Unit)))))) : vfn Tryz.prog (phi specs3) hints3 N Tryz.f3 false false (.prod (.prod (.list (.prod (.int .i64) (.prod (.int .i64) .unit))) (.prod (.int .i64) (.prod (.int .i64) .unit))) (.prod (.list (.int .i64)) (.prod (.list (.int .i64)) (.prod (.int .i64) (.prod (.int .i64) .unit))))) .bool x = F3 N x := by
 kernel_rfl
noncomputable def f3 (x : (((List (Int × (Int × Unit))) × (Int × (Int × Unit))) × ((List Int) × ((List Int) × (Int × (Int × Unit)))))) : Out Bool := F3 fuel x
noncomputable def sp3 : Spec := ⟨3, .call, (.prod (.prod (.list (.prod (.int .i64) (.prod (.int .i64) .unit))) (.prod (.int .i64) (.prod (.int .i64) .unit))) (.prod (.list (.int .i64)) (.prod (.list (.int .i64)) (.prod (.int .i64) (.prod (.int .i64) .unit))))), .bool, false, false, f3⟩
theorem c3 : Contract Tryz.prog sp3 := contract_at (l := specs3) (arg := (.prod (.prod (.list (.prod (.int .i64) (.prod (.int .i64) .unit))) (.prod (.int .i64) (.prod (.int .i64) .unit))) (.prod (.list (.int .i64)) (.prod (.list (.int .i64)) (.prod (.int .i64) (.prod (.int .i64) .unit)))))) (res := .bool) (multi := false) (own := false) (F := f3) mixed (all_cons c22v (all_cons c24v (all_cons c23v (all_cons c25v (all_cons c26v (all_cons c27v all_nil)))))) Tryz.func3 rfl hints3 fun x _ => ⟨fuel, e3 fuel x⟩
end Go.V
