/- A part of the proof of a law of the step table. -/
import Derived.Test.YtpnilbemlgbokaaGreatDoorS7k
import Derived.Test.YtpnilbemlgbokaaGreatDoorSXb
set_option linter.all false
namespace Go.V
open Go.Proofs
noncomputable def specs16 : List Spec := [sp22v, sp24v, sp35v, sp54v, sp56v, sp53v, sp41v]
def hints16 : List (Nat × List Nat) := [(15, [16, 18, 24]), (3000007, [11])]
noncomputable def L16_0 (N : Nat) (n_L16_0 : Nat) (r_23 : ((List Int) × (Int × Unit))) (r_25 : ((List Int) × (Int × Unit))) (i_31 : Int) : Out Bool :=
 vloop Tryz.prog (phi specs16) hints16 N Tryz.f16 false false .bool [.at 1, .at 1, .at 1, .at 1, .at 1, .at 1, .at 1, .at 1, .at 1, .at 1, .at 1, .at 1, .at 0, .at 1, .at 0] n_L16_0 [.und, .und, .und, .und, .und, .und, .und, .und, .und, .und, .und, .und, .und, .und, .und, .und, .d (.list (.int .i64)) r_23.1, .und, .d (.list (.int .i64)) r_25.1, .und, .und, .und, .und, .und, .d (.int .i64) i_31, .und, .und, .und, .und, .und, .und, .und, .und, .und, .und, .und, .und, .und, .und, .und, .und, .und, .und, .und, .und, .und, .und, .und, .und, .und, .und, .und, .und, .und, .und, .und, .und, .und, .und, .und, .und, .und, .und, .und, .und, .und, .und, .und, .und, .und, .und, .und, .und, .und, .und, .und, .und, .und, .und, .und, .und, .und, .und, .und, .und, .und, .und, .und, .und, .und, .und, .und, .und, .und, .und, .und, .und, .und, .und, .und, .und, .und, .und, .und, .und, .und, .und, .und, .und, .und, .und, .und, .und, .und, .und, .und, .und, .und, .und, .und, .und, .und, .und, .und, .und, .und, .und, .und, .und, .und, .und, .und, .und, .und, .und, .und, .und, .und, .und, .und, .und, .und, .und, .und, .und, .und, .und, .und, .und, .und, .und, .und, .und, .und, .und, .und, .und, .und, .und, .und, .und, .und, .und, .und, .und, .und, .und, .und, .und, .und, .und, .und, .und, .und, .und, .und, .und, .und, .und, .und, .und, .und, .und, .und, .und, .und]
theorem L16_0_succ (N : Nat) (n_L16_0 : Nat) (r_23 : ((List Int) × (Int × Unit))) (r_25 : ((List Int) × (Int × Unit))) (i_31 : Int) : L16_0 N  (n_L16_0 + 1) r_23 r_25 i_31 =
  (
  match (decide (i_31 < (lenI r_25.1))) with
  | true =>
   bif (inb i_31 r_25.1.length) then
    match f41v (r_23.1, ((List.getD r_25.1 i_31.toNat (0 : Int)), ())) with
    | .ret r_32 =>
     match (!r_32) with
     | true =>
      .ret false
     | false =>
      L16_0 N n_L16_0 r_23 r_25 (IntKind.i64.wrap (i_31 + (1 : Int)))
    | .pan p_33 =>
     .pan p_33
    | .fail => .fail
   else .fail
  | false =>
   match f24v () with
   | .ret r_34 =>
    .ret r_34
   | .pan p_35 =>
    .pan p_35
   | .fail => .fail : Out Bool) := by
 kernel_rfl
noncomputable def F16 (N : Nat) (x : (((List (Int × (Int × Unit))) × (Int × (Int × Unit))) × ((List Int) × (Int × ((Int × (Int × Unit)) × (Int × Unit)))))) : Out Bool :=
 match f22v (x.1, (x.2.1, ())) with
 | .ret r_1 =>
  match (!r_1) with
  | true =>
   match f24v () with
   | .ret r_3 =>
    .ret r_3
   | .pan p_4 =>
    .pan p_4
   | .fail => .fail
  | false =>
   match f35v (x.1, (x.2.2.1, ())) with
   | .ret r_5 =>
    match (!r_5) with
    | true =>
     match f24v () with
     | .ret r_7 =>
      .ret r_7
     | .pan p_8 =>
      .pan p_8
     | .fail => .fail
    | false =>
     bif (inb x.2.2.1 x.1.1.length) then
      match (decide (x.2.2.2.1.1 < ((List.getD x.1.1 x.2.2.1.toNat ((0 : Int), ((0 : Int), ())))).1)) with
      | true =>
       match f24v () with
       | .ret r_9 =>
        .ret r_9
       | .pan p_10 =>
        .pan p_10
       | .fail => .fail
      | false =>
       bif (inb x.2.2.1 x.1.1.length) then
        match (decide (x.2.2.2.1.2.1 > ((List.getD x.1.1 x.2.2.1.toNat ((0 : Int), ((0 : Int), ())))).2.1)) with
        | true =>
         match f24v () with
         | .ret r_11 =>
          .ret r_11
         | .pan p_12 =>
          .pan p_12
         | .fail => .fail
        | false =>
         match (decide (x.2.2.2.1.1 > x.2.2.2.1.2.1)) with
         | true =>
          match f24v () with
          | .ret r_13 =>
           .ret r_13
          | .pan p_14 =>
           .pan p_14
          | .fail => .fail
         | false =>
          match (decide (x.2.2.2.2.1 < (0 : Int))) with
          | true =>
           match f24v () with
           | .ret r_15 =>
            .ret r_15
           | .pan p_16 =>
            .pan p_16
           | .fail => .fail
          | false =>
           match (decide (x.2.2.2.2.1 > (100 : Int))) with
           | true =>
            match f24v () with
            | .ret r_17 =>
             .ret r_17
            | .pan p_18 =>
             .pan p_18
            | .fail => .fail
           | false =>
            bif (in16a x.1.1) then
             bif (in16b x.1.1 x.2.2.1) then
              bif (in16c x.1.1 x.2.2.1) then
               bif (inb x.2.2.1 (set16 x.1.1 x.2.2.1 x.2.2.2.1.1).length) then
                bif (decide ((x.2.2.1.toNat) < (set16 x.1.1 x.2.2.1 x.2.2.2.1.1).length)) then
                 match f54v (x.1, (x.2.1, ())) with
                 | .ret r_19 =>
                  match f54v (((List.set (set16 x.1.1 x.2.2.1 x.2.2.2.1.1) (x.2.2.1.toNat) x.2.2.2.1), (x.1.2.1, ((if (IntKind.i64.wrap (x.1.2.2.1 + x.2.2.2.2.1)) < (100 : Int) then (IntKind.i64.wrap (x.1.2.2.1 + x.2.2.2.2.1)) else (100 : Int)), ()))), (x.2.1, ())) with
                  | .ret r_21 =>
                   match f56v (x.1, ()) with
                   | .ret r_23 =>
                    match f56v (((List.set (set16 x.1.1 x.2.2.1 x.2.2.2.1.1) (x.2.2.1.toNat) x.2.2.2.1), (x.1.2.1, ((if (IntKind.i64.wrap (x.1.2.2.1 + x.2.2.2.2.1)) < (100 : Int) then (IntKind.i64.wrap (x.1.2.2.1 + x.2.2.2.2.1)) else (100 : Int)), ()))), ()) with
                    | .ret r_25 =>
                     match f53v (x.1, ()) with
                     | .ret r_27 =>
                      match f53v (((List.set (set16 x.1.1 x.2.2.1 x.2.2.2.1.1) (x.2.2.1.toNat) x.2.2.2.1), (x.1.2.1, ((if (IntKind.i64.wrap (x.1.2.2.1 + x.2.2.2.2.1)) < (100 : Int) then (IntKind.i64.wrap (x.1.2.2.1 + x.2.2.2.2.1)) else (100 : Int)), ()))), ()) with
                      | .ret r_29 =>
                       match (!r_19.2.1) with
                       | true =>
                        .ret false
                       | false =>
                        match (!r_21.2.1) with
                        | true =>
                         .ret false
                        | false =>
                         match r_19.1 with
                         | true =>
                          match (!r_21.1) with
                          | true =>
                           .ret false
                          | false =>
                           match (r_23.2.1 != (0 : Int)) with
                           | true =>
                            .ret false
                           | false =>
                            match (r_25.2.1 != (0 : Int)) with
                            | true =>
                             .ret false
                            | false =>
                             match (r_27.2.1 != (0 : Int)) with
                             | true =>
                              .ret false
                             | false =>
                              match (r_29.2.1 != (0 : Int)) with
                              | true =>
                               .ret false
                              | false =>
                               match (decide ((lenI r_23.1) > (lenI x.1.1))) with
                               | true =>
                                .ret false
                               | false =>
                                match (decide ((lenI r_25.1) > (lenI r_23.1))) with
                                | true =>
                                 .ret false
                                | false =>
                                 match (decide ((lenI r_29.1) > (lenI r_27.1))) with
                                 | true =>
                                  .ret false
                                 | false =>
                                  L16_0 N N r_23 r_25 (0 : Int)
                         | false =>
                          match (r_23.2.1 != (0 : Int)) with
                          | true =>
                           .ret false
                          | false =>
                           match (r_25.2.1 != (0 : Int)) with
                           | true =>
                            .ret false
                           | false =>
                            match (r_27.2.1 != (0 : Int)) with
                            | true =>
                             .ret false
                            | false =>
                             match (r_29.2.1 != (0 : Int)) with
                             | true =>
                              .ret false
                             | false =>
                              match (decide ((lenI r_23.1) > (lenI x.1.1))) with
                              | true =>
                               .ret false
                              | false =>
                               match (decide ((lenI r_25.1) > (lenI r_23.1))) with
                               | true =>
                                .ret false
                               | false =>
                                match (decide ((lenI r_29.1) > (lenI r_27.1))) with
                                | true =>
                                 .ret false
                                | false =>
                                 L16_0 N N r_23 r_25 (0 : Int)
                      | .pan p_30 =>
                       .pan p_30
                      | .fail => .fail
                     | .pan p_28 =>
                      .pan p_28
                     | .fail => .fail
                    | .pan p_26 =>
                     .pan p_26
                    | .fail => .fail
                   | .pan p_24 =>
                    .pan p_24
                   | .fail => .fail
                  | .pan p_22 =>
                   .pan p_22
                  | .fail => .fail
                 | .pan p_20 =>
                  .pan p_20
                 | .fail => .fail
                else .fail
               else .fail
              else .fail
             else .fail
            else .fail
       else .fail
     else .fail
   | .pan p_6 =>
    .pan p_6
   | .fail => .fail
 | .pan p_2 =>
  .pan p_2
 | .fail => .fail
theorem e16 (N : Nat) (x : (((List (Int × (Int × Unit))) × (Int × (Int × Unit))) × ((List Int) × (Int × ((Int × (Int × Unit)) × (Int × Unit)))))) : vfnE Tryz.prog (phi specs16) hints16 N (fun {ρ} k st => E16 k st) [1, 1, 0] Tryz.f16 false false (.prod (.prod (.list (.prod (.int .i64) (.prod (.int .i64) .unit))) (.prod (.int .i64) (.prod (.int .i64) .unit))) (.prod (.list (.int .i64)) (.prod (.int .i64) (.prod (.prod (.int .i64) (.prod (.int .i64) .unit)) (.prod (.int .i64) .unit))))) .bool x = F16 N x := by
 kernel_rfl
noncomputable def f16 (x : (((List (Int × (Int × Unit))) × (Int × (Int × Unit))) × ((List Int) × (Int × ((Int × (Int × Unit)) × (Int × Unit)))))) : Out Bool := F16 fuel x
noncomputable def sp16 : Spec := ⟨16, .call, (.prod (.prod (.list (.prod (.int .i64) (.prod (.int .i64) .unit))) (.prod (.int .i64) (.prod (.int .i64) .unit))) (.prod (.list (.int .i64)) (.prod (.int .i64) (.prod (.prod (.int .i64) (.prod (.int .i64) .unit)) (.prod (.int .i64) .unit))))), .bool, false, false, f16⟩
theorem c16 : Contract Tryz.prog sp16 := contract_cutE (l := specs16) (arg := (.prod (.prod (.list (.prod (.int .i64) (.prod (.int .i64) .unit))) (.prod (.int .i64) (.prod (.int .i64) .unit))) (.prod (.list (.int .i64)) (.prod (.int .i64) (.prod (.prod (.int .i64) (.prod (.int .i64) .unit)) (.prod (.int .i64) .unit)))))) (res := .bool) (multi := false) (own := false) (F := f16) mixed (all_cons c22v (all_cons c24v (all_cons c35v (all_cons c54v (all_cons c56v (all_cons c53v (all_cons c41v all_nil))))))) (c := bodyOf Tryz.f16) (r := .region 3 r316 false) Tryz.func16 (by kernel_rfl) (E := (fun {ρ} k st => E16 k st)) (path := [1, 1, 0]) way16 e16_ok hints16 fun x _ => ⟨fuel, e16 fuel x⟩
end Go.V
