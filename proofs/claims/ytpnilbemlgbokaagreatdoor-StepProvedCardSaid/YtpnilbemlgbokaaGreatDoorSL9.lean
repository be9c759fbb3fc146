/- A part of the proof of a law of the step table. -/
import Derived.Test.YtpnilbemlgbokaaGreatDoorS7k
set_option linter.all false
namespace Go.V
open Go.Proofs
noncomputable def specs9 : List Spec := [sp22v, sp24v, sp23v, sp46v, sp42v, sp43v, sp26v, sp36v, sp47v]
def hints9 : List (Nat × List Nat) := []
noncomputable def F9 (N : Nat) (x : (((List (Int × (Int × Unit))) × (Int × (Int × Unit))) × ((List Int) × ((List Int) × (Int × Unit))))) : Out Bool :=
 match f22v (x.1, (x.2.1, ())) with
 | .ret r_1 =>
  match (!r_1) with
  | true =>
   match f24v () with
   | .ret r_3 =>
    .ret r_3
   | .pan p_4 =>
    .pan p_4
   | .fail => .fail
  | false =>
   match (decide ((lenI x.2.2.1) > (16 : Int))) with
   | true =>
    match f24v () with
    | .ret r_5 =>
     .ret r_5
    | .pan p_6 =>
     .pan p_6
    | .fail => .fail
   | false =>
    match f23v (x.1, (x.2.2.1, ())) with
    | .ret r_7 =>
     match (!r_7) with
     | true =>
      match f24v () with
      | .ret r_9 =>
       .ret r_9
      | .pan p_10 =>
       .pan p_10
      | .fail => .fail
     | false =>
      match f46v (x.2.2.2.1, ()) with
      | .ret r_11 =>
       match (!r_11) with
       | true =>
        match f24v () with
        | .ret r_13 =>
         .ret r_13
        | .pan p_14 =>
         .pan p_14
        | .fail => .fail
       | false =>
        match f42v (x.1, (x.2.1, ())) with
        | .ret r_15 =>
         match f43v (x.1, (x.2.1, ())) with
         | .ret r_17 =>
          match f26v (x.1, (x.2.1, (x.2.2.1, ()))) with
          | .ret r_19 =>
           match f36v ((x.1.1, (x.1.2.1, x.2.2.2)), (x.2.1, ())) with
           | .ret r_21 =>
            match (r_15.2.1 != (0 : Int)) with
            | true =>
             match (r_15.2.1 != (5 : Int)) with
             | true =>
              .ret false
             | false =>
              match (r_17.2.1 != (0 : Int)) with
              | true =>
               .ret false
              | false =>
               match (r_19.2.1 != (0 : Int)) with
               | true =>
                .ret false
               | false =>
                match (r_21.2.1 != (0 : Int)) with
                | true =>
                 .ret false
                | false =>
                 match (decide (r_17.1 < (0 : Int))) with
                 | true =>
                  .ret false
                 | false =>
                  match ((r_15.2.1 == (5 : Int)) != (decide (x.1.2.2.1 ≥ r_17.1))) with
                  | true =>
                   .ret false
                  | false =>
                   match (r_15.2.1 != (0 : Int)) with
                   | true =>
                    match (!r_19.1) with
                    | true =>
                     .ret false
                    | false =>
                     match ((r_21.1 == (3 : Int)) != (decide (x.2.2.2.1 ≥ r_17.1))) with
                     | true =>
                      .ret false
                     | false =>
                      match (r_15.2.1 != (0 : Int)) with
                      | true =>
                       match f24v () with
                       | .ret r_23 =>
                        .ret r_23
                       | .pan p_24 =>
                        .pan p_24
                       | .fail => .fail
                      | false =>
                       match f23v (x.1, (r_15.1, ())) with
                       | .ret r_25 =>
                        match (!r_25) with
                        | true =>
                         .ret false
                        | false =>
                         match (!r_19.1) with
                         | true =>
                          match f47v (x.2.2.1, (r_15.1, ())) with
                          | .ret r_27 =>
                           match r_27 with
                           | true =>
                            .ret false
                           | false =>
                            match f26v (x.1, (x.2.1, (r_15.1, ()))) with
                            | .ret r_29 =>
                             match (r_29.2.1 == (0 : Int)) with
                             | true =>
                              match (!r_29.1) with
                              | true =>
                               match f24v () with
                               | .ret r_31 =>
                                .ret r_31
                               | .pan p_32 =>
                                .pan p_32
                               | .fail => .fail
                              | false =>
                               .ret false
                             | false =>
                              .ret false
                            | .pan p_30 =>
                             .pan p_30
                            | .fail => .fail
                          | .pan p_28 =>
                           .pan p_28
                          | .fail => .fail
                         | false =>
                          match f26v (x.1, (x.2.1, (r_15.1, ()))) with
                          | .ret r_33 =>
                           match (r_33.2.1 == (0 : Int)) with
                           | true =>
                            match (!r_33.1) with
                            | true =>
                             match f24v () with
                             | .ret r_35 =>
                              .ret r_35
                             | .pan p_36 =>
                              .pan p_36
                             | .fail => .fail
                            | false =>
                             .ret false
                           | false =>
                            .ret false
                          | .pan p_34 =>
                           .pan p_34
                          | .fail => .fail
                       | .pan p_26 =>
                        .pan p_26
                       | .fail => .fail
                   | false =>
                    match ((r_21.1 == (3 : Int)) != (decide (x.2.2.2.1 ≥ r_17.1))) with
                    | true =>
                     .ret false
                    | false =>
                     match (r_15.2.1 != (0 : Int)) with
                     | true =>
                      match f24v () with
                      | .ret r_37 =>
                       .ret r_37
                      | .pan p_38 =>
                       .pan p_38
                      | .fail => .fail
                     | false =>
                      match f23v (x.1, (r_15.1, ())) with
                      | .ret r_39 =>
                       match (!r_39) with
                       | true =>
                        .ret false
                       | false =>
                        match (!r_19.1) with
                        | true =>
                         match f47v (x.2.2.1, (r_15.1, ())) with
                         | .ret r_41 =>
                          match r_41 with
                          | true =>
                           .ret false
                          | false =>
                           match f26v (x.1, (x.2.1, (r_15.1, ()))) with
                           | .ret r_43 =>
                            match (r_43.2.1 == (0 : Int)) with
                            | true =>
                             match (!r_43.1) with
                             | true =>
                              match f24v () with
                              | .ret r_45 =>
                               .ret r_45
                              | .pan p_46 =>
                               .pan p_46
                              | .fail => .fail
                             | false =>
                              .ret false
                            | false =>
                             .ret false
                           | .pan p_44 =>
                            .pan p_44
                           | .fail => .fail
                         | .pan p_42 =>
                          .pan p_42
                         | .fail => .fail
                        | false =>
                         match f26v (x.1, (x.2.1, (r_15.1, ()))) with
                         | .ret r_47 =>
                          match (r_47.2.1 == (0 : Int)) with
                          | true =>
                           match (!r_47.1) with
                           | true =>
                            match f24v () with
                            | .ret r_49 =>
                             .ret r_49
                            | .pan p_50 =>
                             .pan p_50
                            | .fail => .fail
                           | false =>
                            .ret false
                          | false =>
                           .ret false
                         | .pan p_48 =>
                          .pan p_48
                         | .fail => .fail
                      | .pan p_40 =>
                       .pan p_40
                      | .fail => .fail
            | false =>
             match (r_17.2.1 != (0 : Int)) with
             | true =>
              .ret false
             | false =>
              match (r_19.2.1 != (0 : Int)) with
              | true =>
               .ret false
              | false =>
               match (r_21.2.1 != (0 : Int)) with
               | true =>
                .ret false
               | false =>
                match (decide (r_17.1 < (0 : Int))) with
                | true =>
                 .ret false
                | false =>
                 match ((r_15.2.1 == (5 : Int)) != (decide (x.1.2.2.1 ≥ r_17.1))) with
                 | true =>
                  .ret false
                 | false =>
                  match (r_15.2.1 != (0 : Int)) with
                  | true =>
                   match (!r_19.1) with
                   | true =>
                    .ret false
                   | false =>
                    match ((r_21.1 == (3 : Int)) != (decide (x.2.2.2.1 ≥ r_17.1))) with
                    | true =>
                     .ret false
                    | false =>
                     match (r_15.2.1 != (0 : Int)) with
                     | true =>
                      match f24v () with
                      | .ret r_51 =>
                       .ret r_51
                      | .pan p_52 =>
                       .pan p_52
                      | .fail => .fail
                     | false =>
                      match f23v (x.1, (r_15.1, ())) with
                      | .ret r_53 =>
                       match (!r_53) with
                       | true =>
                        .ret false
                       | false =>
                        match (!r_19.1) with
                        | true =>
                         match f47v (x.2.2.1, (r_15.1, ())) with
                         | .ret r_55 =>
                          match r_55 with
                          | true =>
                           .ret false
                          | false =>
                           match f26v (x.1, (x.2.1, (r_15.1, ()))) with
                           | .ret r_57 =>
                            match (r_57.2.1 == (0 : Int)) with
                            | true =>
                             match (!r_57.1) with
                             | true =>
                              match f24v () with
                              | .ret r_59 =>
                               .ret r_59
                              | .pan p_60 =>
                               .pan p_60
                              | .fail => .fail
                             | false =>
                              .ret false
                            | false =>
                             .ret false
                           | .pan p_58 =>
                            .pan p_58
                           | .fail => .fail
                         | .pan p_56 =>
                          .pan p_56
                         | .fail => .fail
                        | false =>
                         match f26v (x.1, (x.2.1, (r_15.1, ()))) with
                         | .ret r_61 =>
                          match (r_61.2.1 == (0 : Int)) with
                          | true =>
                           match (!r_61.1) with
                           | true =>
                            match f24v () with
                            | .ret r_63 =>
                             .ret r_63
                            | .pan p_64 =>
                             .pan p_64
                            | .fail => .fail
                           | false =>
                            .ret false
                          | false =>
                           .ret false
                         | .pan p_62 =>
                          .pan p_62
                         | .fail => .fail
                      | .pan p_54 =>
                       .pan p_54
                      | .fail => .fail
                  | false =>
                   match ((r_21.1 == (3 : Int)) != (decide (x.2.2.2.1 ≥ r_17.1))) with
                   | true =>
                    .ret false
                   | false =>
                    match (r_15.2.1 != (0 : Int)) with
                    | true =>
                     match f24v () with
                     | .ret r_65 =>
                      .ret r_65
                     | .pan p_66 =>
                      .pan p_66
                     | .fail => .fail
                    | false =>
                     match f23v (x.1, (r_15.1, ())) with
                     | .ret r_67 =>
                      match (!r_67) with
                      | true =>
                       .ret false
                      | false =>
                       match (!r_19.1) with
                       | true =>
                        match f47v (x.2.2.1, (r_15.1, ())) with
                        | .ret r_69 =>
                         match r_69 with
                         | true =>
                          .ret false
                         | false =>
                          match f26v (x.1, (x.2.1, (r_15.1, ()))) with
                          | .ret r_71 =>
                           match (r_71.2.1 == (0 : Int)) with
                           | true =>
                            match (!r_71.1) with
                            | true =>
                             match f24v () with
                             | .ret r_73 =>
                              .ret r_73
                             | .pan p_74 =>
                              .pan p_74
                             | .fail => .fail
                            | false =>
                             .ret false
                           | false =>
                            .ret false
                          | .pan p_72 =>
                           .pan p_72
                          | .fail => .fail
                        | .pan p_70 =>
                         .pan p_70
                        | .fail => .fail
                       | false =>
                        match f26v (x.1, (x.2.1, (r_15.1, ()))) with
                        | .ret r_75 =>
                         match (r_75.2.1 == (0 : Int)) with
                         | true =>
                          match (!r_75.1) with
                          | true =>
                           match f24v () with
                           | .ret r_77 =>
                            .ret r_77
                           | .pan p_78 =>
                            .pan p_78
                           | .fail => .fail
                          | false =>
                           .ret false
                         | false =>
                          .ret false
                        | .pan p_76 =>
                         .pan p_76
                        | .fail => .fail
                     | .pan p_68 =>
                      .pan p_68
                     | .fail => .fail
           | .pan p_22 =>
            .pan p_22
           | .fail => .fail
          | .pan p_20 =>
           .pan p_20
          | .fail => .fail
         | .pan p_18 =>
          .pan p_18
         | .fail => .fail
        | .pan p_16 =>
         .pan p_16
        | .fail => .fail
      | .pan p_12 =>
       .pan p_12
      | .fail => .fail
    | .pan p_8 =>
     .pan p_8
    | .fail => .fail
 | .pan p_2 =>
  .pan p_2
 | .fail => .fail
theorem e9 (N : Nat) (x : (((List (Int × (Int × Unit))) × (Int × (Int × Unit))) × ((List Int) × ((List Int) × (Int × Unit))))) : vfn Tryz.prog (phi specs9) hints9 N Tryz.f9 false false (.prod (.prod (.list (.prod (.int .i64) (.prod (.int .i64) .unit))) (.prod (.int .i64) (.prod (.int .i64) .unit))) (.prod (.list (.int .i64)) (.prod (.list (.int .i64)) (.prod (.int .i64) .unit)))) .bool x = F9 N x := by
 kernel_rfl
noncomputable def f9 (x : (((List (Int × (Int × Unit))) × (Int × (Int × Unit))) × ((List Int) × ((List Int) × (Int × Unit))))) : Out Bool := F9 fuel x
noncomputable def sp9 : Spec := ⟨9, .call, (.prod (.prod (.list (.prod (.int .i64) (.prod (.int .i64) .unit))) (.prod (.int .i64) (.prod (.int .i64) .unit))) (.prod (.list (.int .i64)) (.prod (.list (.int .i64)) (.prod (.int .i64) .unit)))), .bool, false, false, f9⟩
theorem c9 : Contract Tryz.prog sp9 := contract_at (l := specs9) (arg := (.prod (.prod (.list (.prod (.int .i64) (.prod (.int .i64) .unit))) (.prod (.int .i64) (.prod (.int .i64) .unit))) (.prod (.list (.int .i64)) (.prod (.list (.int .i64)) (.prod (.int .i64) .unit))))) (res := .bool) (multi := false) (own := false) (F := f9) mixed (all_cons c22v (all_cons c24v (all_cons c23v (all_cons c46v (all_cons c42v (all_cons c43v (all_cons c26v (all_cons c36v (all_cons c47v all_nil))))))))) Tryz.func9 rfl hints9 fun x _ => ⟨fuel, e9 fuel x⟩
end Go.V
