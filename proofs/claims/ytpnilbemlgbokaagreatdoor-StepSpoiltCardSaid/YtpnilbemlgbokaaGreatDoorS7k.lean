/- A part of the proof of a law of the step table. -/
import Derived.Test.YtpnilbemlgbokaaGreatDoorS7v
set_option linter.all false
namespace Go.V
open Go.Proofs
noncomputable def specs24 : List Spec := [sp73, sp74, sp75, sp25v, sp26v, sp28v, sp76v, sp36v, sp37v, sp42v, sp43v, sp48v, sp49v, sp53v, sp55v, sp56v, sp59v, sp68v, sp31v, sp69v]
def hints24 : List (Nat × List Nat) := []
noncomputable def F24 (N : Nat) (x : Unit) : Out Bool :=
 match f25v ((([((0 : Int), ((0 : Int), ())), ((10 : Int), ((10 : Int), ())), ((40 : Int), ((40 : Int), ())), ((90 : Int), ((91 : Int), ())), ((160 : Int), ((160 : Int), ())), ((250 : Int), ((250 : Int), ())), ((360 : Int), ((360 : Int), ()))] : List (Int × (Int × Unit))), ((3 : Int), ((10 : Int), ()))), (([(0 : Int), (2 : Int), (4 : Int), (6 : Int)] : List Int), (([(0 : Int), (10 : Int), (40 : Int), (90 : Int), (160 : Int), (250 : Int), (360 : Int)] : List Int), ()))) with
 | .ret r_1 =>
  match f26v ((([((0 : Int), ((0 : Int), ())), ((10 : Int), ((10 : Int), ())), ((40 : Int), ((40 : Int), ())), ((90 : Int), ((91 : Int), ())), ((160 : Int), ((160 : Int), ())), ((250 : Int), ((250 : Int), ())), ((360 : Int), ((360 : Int), ()))] : List (Int × (Int × Unit))), ((3 : Int), ((10 : Int), ()))), (([(0 : Int), (2 : Int), (4 : Int), (6 : Int)] : List Int), (([(0 : Int), (10 : Int), (40 : Int), (90 : Int), (160 : Int), (250 : Int), (360 : Int)] : List Int), ()))) with
  | .ret r_3 =>
   match f28v ((10 : Int), ((4 : Int), ((3 : Int), ()))) with
   | .ret r_5 =>
    match f76v () with
    | .ret r_7 =>
     match f36v (r_7, (([(0 : Int), (2 : Int), (4 : Int), (6 : Int)] : List Int), ())) with
     | .ret r_9 =>
      match f76v () with
      | .ret r_11 =>
       match f37v (r_11, (([(0 : Int), (2 : Int), (4 : Int), (6 : Int)] : List Int), ())) with
       | .ret r_13 =>
        match f76v () with
        | .ret r_15 =>
         match f42v (r_15, (([(0 : Int), (2 : Int), (4 : Int), (6 : Int)] : List Int), ())) with
         | .ret r_17 =>
          match f76v () with
          | .ret r_19 =>
           match f43v (r_19, (([(0 : Int), (2 : Int), (4 : Int), (6 : Int)] : List Int), ())) with
           | .ret r_21 =>
            match f48v ((([((0 : Int), ((0 : Int), ())), ((10 : Int), ((10 : Int), ())), ((40 : Int), ((40 : Int), ())), ((90 : Int), ((91 : Int), ())), ((160 : Int), ((160 : Int), ())), ((250 : Int), ((250 : Int), ())), ((360 : Int), ((360 : Int), ()))] : List (Int × (Int × Unit))), ((3 : Int), ((10 : Int), ()))), ((4 : Int), ())) with
            | .ret r_23 =>
             match f49v ((([((0 : Int), ((0 : Int), ())), ((10 : Int), ((10 : Int), ())), ((40 : Int), ((40 : Int), ())), ((90 : Int), ((91 : Int), ())), ((160 : Int), ((160 : Int), ())), ((250 : Int), ((250 : Int), ())), ((360 : Int), ((360 : Int), ()))] : List (Int × (Int × Unit))), ((3 : Int), ((10 : Int), ()))), ()) with
             | .ret r_25 =>
              match f53v ((([((0 : Int), ((0 : Int), ())), ((10 : Int), ((10 : Int), ())), ((40 : Int), ((40 : Int), ())), ((90 : Int), ((91 : Int), ())), ((160 : Int), ((160 : Int), ())), ((250 : Int), ((250 : Int), ())), ((360 : Int), ((360 : Int), ()))] : List (Int × (Int × Unit))), ((3 : Int), ((10 : Int), ()))), ()) with
              | .ret r_27 =>
               match f55v ((([((0 : Int), ((0 : Int), ())), ((10 : Int), ((10 : Int), ())), ((40 : Int), ((40 : Int), ())), ((90 : Int), ((91 : Int), ())), ((160 : Int), ((160 : Int), ())), ((250 : Int), ((250 : Int), ())), ((360 : Int), ((360 : Int), ()))] : List (Int × (Int × Unit))), ((3 : Int), ((10 : Int), ()))), ()) with
               | .ret r_29 =>
                match f56v ((([((0 : Int), ((0 : Int), ())), ((10 : Int), ((10 : Int), ())), ((40 : Int), ((40 : Int), ())), ((90 : Int), ((91 : Int), ())), ((160 : Int), ((160 : Int), ())), ((250 : Int), ((250 : Int), ())), ((360 : Int), ((360 : Int), ()))] : List (Int × (Int × Unit))), ((3 : Int), ((10 : Int), ()))), ()) with
                | .ret r_31 =>
                 match f76v () with
                 | .ret r_33 =>
                  match f59v (r_33, (([(0 : Int), (2 : Int), (4 : Int), (6 : Int)] : List Int), ())) with
                  | .ret r_35 =>
                   match f68v (([116, 97, 98, 108, 101, 32, 48, 32, 49, 10, 118, 97, 108, 117, 101, 32, 53, 32, 54, 10, 118, 97, 108, 117, 101, 32, 55, 32, 55, 10, 101, 110, 100, 32, 48, 53, 51, 10] : List UInt8), ()) with
                   | .ret r_37 =>
                    match (r_1.2.1 != (0 : Int)) with
                    | true =>
                     .ret false
                    | false =>
                     match (r_3.2.1 != (0 : Int)) with
                     | true =>
                      .ret false
                     | false =>
                      match (r_5.2.1 != (0 : Int)) with
                      | true =>
                       .ret false
                      | false =>
                       match (r_9.2.1 != (0 : Int)) with
                       | true =>
                        .ret false
                       | false =>
                        match (r_13.2.1 != (0 : Int)) with
                        | true =>
                         .ret false
                        | false =>
                         match (r_17.2.1 != (0 : Int)) with
                         | true =>
                          .ret false
                         | false =>
                          match (r_21.2.1 != (0 : Int)) with
                          | true =>
                           .ret false
                          | false =>
                           match (r_23.2.1 != (0 : Int)) with
                           | true =>
                            .ret false
                           | false =>
                            match (r_25.2.1 != (0 : Int)) with
                            | true =>
                             .ret false
                            | false =>
                             match (r_27.2.1 != (0 : Int)) with
                             | true =>
                              .ret false
                             | false =>
                              match (r_29.2.1 != (0 : Int)) with
                              | true =>
                               .ret false
                              | false =>
                               match (r_31.2.1 != (0 : Int)) with
                               | true =>
                                .ret false
                               | false =>
                                match (r_35.2.2.1 != (0 : Int)) with
                                | true =>
                                 .ret false
                                | false =>
                                 match (r_37.2.1 != (0 : Int)) with
                                 | true =>
                                  .ret false
                                 | false =>
                                  match f31v (r_1.1, (([(0 : Int), (20 : Int), (40 : Int), (100 : Int), (160 : Int), (260 : Int), (360 : Int)] : List Int), ())) with
                                  | .ret r_39 =>
                                   match (!r_39) with
                                   | true =>
                                    .ret false
                                   | false =>
                                    match (!r_3.1) with
                                    | true =>
                                     .ret false
                                    | false =>
                                     match f31v (r_5.1, (([(0 : Int), (3 : Int), (5 : Int), (8 : Int), (10 : Int)] : List Int), ())) with
                                     | .ret r_41 =>
                                      match (!r_41) with
                                      | true =>
                                       .ret false
                                      | false =>
                                       match (r_9.1 != (2 : Int)) with
                                       | true =>
                                        .ret false
                                       | false =>
                                        match f31v (r_13.1, (([(3 : Int), (5 : Int)] : List Int), ())) with
                                        | .ret r_43 =>
                                         match (!r_43) with
                                         | true =>
                                          .ret false
                                         | false =>
                                          match f31v (r_17.1, (([(0 : Int), (10 : Int), (40 : Int), (90 : Int), (161 : Int), (250 : Int), (360 : Int)] : List Int), ())) with
                                          | .ret r_45 =>
                                           match (!r_45) with
                                           | true =>
                                            .ret false
                                           | false =>
                                            match (r_21.1 != (11 : Int)) with
                                            | true =>
                                             .ret false
                                            | false =>
                                             match f31v (r_23.1, (([(0 : Int), (4 : Int), (6 : Int)] : List Int), ())) with
                                             | .ret r_47 =>
                                              match r_47 with
                                              | true =>
                                               match (r_25.1 == (2 : Int)) with
                                               | true =>
                                                match f31v (r_27.1, (([(0 : Int), (2 : Int), (4 : Int), (6 : Int)] : List Int), ())) with
                                                | .ret r_49 =>
                                                 match r_49 with
                                                 | true =>
                                                  match (r_29.1 == (1 : Int)) with
                                                  | true =>
                                                   match f31v (r_31.1, (([(0 : Int), (2 : Int), (4 : Int), (6 : Int)] : List Int), ())) with
                                                   | .ret r_51 =>
                                                    match r_51 with
                                                    | true =>
                                                     match (r_35.1 == (3 : Int)) with
                                                     | true =>
                                                      match (r_35.2.1 == (1 : Int)) with
                                                      | true =>
                                                       match f69v (r_37.1, ()) with
                                                       | .ret r_53 =>
                                                        .ret (r_53 == ([116, 97, 98, 108, 101, 32, 48, 32, 49, 10, 118, 97, 108, 117, 101, 32, 53, 32, 54, 10, 118, 97, 108, 117, 101, 32, 55, 32, 55, 10, 101, 110, 100, 32, 48, 53, 51, 10] : List UInt8))
                                                       | .pan p_54 =>
                                                        .pan p_54
                                                       | .fail => .fail
                                                      | false =>
                                                       .ret false
                                                     | false =>
                                                      .ret false
                                                    | false =>
                                                     .ret false
                                                   | .pan p_52 =>
                                                    .pan p_52
                                                   | .fail => .fail
                                                  | false =>
                                                   .ret false
                                                 | false =>
                                                  .ret false
                                                | .pan p_50 =>
                                                 .pan p_50
                                                | .fail => .fail
                                               | false =>
                                                .ret false
                                              | false =>
                                               .ret false
                                             | .pan p_48 =>
                                              .pan p_48
                                             | .fail => .fail
                                          | .pan p_46 =>
                                           .pan p_46
                                          | .fail => .fail
                                        | .pan p_44 =>
                                         .pan p_44
                                        | .fail => .fail
                                     | .pan p_42 =>
                                      .pan p_42
                                     | .fail => .fail
                                  | .pan p_40 =>
                                   .pan p_40
                                  | .fail => .fail
                   | .pan p_38 =>
                    .pan p_38
                   | .fail => .fail
                  | .pan p_36 =>
                   .pan p_36
                  | .fail => .fail
                 | .pan p_34 =>
                  .pan p_34
                 | .fail => .fail
                | .pan p_32 =>
                 .pan p_32
                | .fail => .fail
               | .pan p_30 =>
                .pan p_30
               | .fail => .fail
              | .pan p_28 =>
               .pan p_28
              | .fail => .fail
             | .pan p_26 =>
              .pan p_26
             | .fail => .fail
            | .pan p_24 =>
             .pan p_24
            | .fail => .fail
           | .pan p_22 =>
            .pan p_22
           | .fail => .fail
          | .pan p_20 =>
           .pan p_20
          | .fail => .fail
         | .pan p_18 =>
          .pan p_18
         | .fail => .fail
        | .pan p_16 =>
         .pan p_16
        | .fail => .fail
       | .pan p_14 =>
        .pan p_14
       | .fail => .fail
      | .pan p_12 =>
       .pan p_12
      | .fail => .fail
     | .pan p_10 =>
      .pan p_10
     | .fail => .fail
    | .pan p_8 =>
     .pan p_8
    | .fail => .fail
   | .pan p_6 =>
    .pan p_6
   | .fail => .fail
  | .pan p_4 =>
   .pan p_4
  | .fail => .fail
 | .pan p_2 =>
  .pan p_2
 | .fail => .fail
theorem e24 (N : Nat) (x : Unit) : vfn Tryz.prog (phi specs24) hints24 N Tryz.f24 false false .unit .bool x = F24 N x := by
 kernel_rfl
noncomputable def f24 (x : Unit) : Out Bool := F24 fuel x
noncomputable def sp24 : Spec := ⟨24, .call, .unit, .bool, false, false, f24⟩
theorem c24 : Contract Tryz.prog sp24 := contract_at (l := specs24) (arg := .unit) (res := .bool) (multi := false) (own := false) (F := f24) mixed (all_cons c73 (all_cons c74 (all_cons c75 (all_cons c25v (all_cons c26v (all_cons c28v (all_cons c76v (all_cons c36v (all_cons c37v (all_cons c42v (all_cons c43v (all_cons c48v (all_cons c49v (all_cons c53v (all_cons c55v (all_cons c56v (all_cons c59v (all_cons c68v (all_cons c31v (all_cons c69v all_nil)))))))))))))))))))) Tryz.func24 rfl hints24 fun x _ => ⟨fuel, e24 fuel x⟩
@[irreducible] noncomputable def f24v : Unit → Out Bool := veil f24
theorem f24v_eq : f24v = f24 := by unfold f24v; exact veil_eq f24
noncomputable def sp24v : Spec := ⟨24, .call, .unit, .bool, false, false, f24v⟩
theorem c24v : Contract Tryz.prog sp24v := by
 unfold sp24v
 rw [f24v_eq]
 exact c24
end Go.V
