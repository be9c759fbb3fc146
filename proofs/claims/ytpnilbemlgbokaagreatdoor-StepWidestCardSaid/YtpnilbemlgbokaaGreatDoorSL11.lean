/- A part of the proof of a law of the step table. -/
import Derived.Test.YtpnilbemlgbokaaGreatDoorS7k
set_option linter.all false
namespace Go.V
open Go.Proofs
noncomputable def specs11 : List Spec := [sp33, sp24v, sp34v, sp51v, sp49v, sp48v, sp53v, sp38v, sp54v]
def hints11 : List (Nat × List Nat) := []
noncomputable def F11 (N : Nat) (x : (((List (Int × (Int × Unit))) × (Int × (Int × Unit))) × (Int × Unit))) : Out Bool :=
 match (!(decide ((lenI x.1.1) ≤ (16 : Int)))) with
 | true =>
  match f24v () with
  | .ret r_1 =>
   .ret r_1
  | .pan p_2 =>
   .pan p_2
  | .fail => .fail
 | false =>
  match f34v (x.1, ()) with
  | .ret r_3 =>
   match (!r_3) with
   | true =>
    match f24v () with
    | .ret r_5 =>
     .ret r_5
    | .pan p_6 =>
     .pan p_6
    | .fail => .fail
   | false =>
    match f51v (x.1, (x.2.1, ())) with
    | .ret r_7 =>
     match (!r_7) with
     | true =>
      match f24v () with
      | .ret r_9 =>
       .ret r_9
      | .pan p_10 =>
       .pan p_10
      | .fail => .fail
     | false =>
      match f49v (x.1, ()) with
      | .ret r_11 =>
       match (r_11.2.1 != (0 : Int)) with
       | true =>
        .ret false
       | false =>
        match f51v (x.1, (r_11.1, ())) with
        | .ret r_13 =>
         match (!r_13) with
         | true =>
          .ret false
         | false =>
          match f48v (x.1, (r_11.1, ())) with
          | .ret r_15 =>
           match f48v (x.1, (x.2.1, ())) with
           | .ret r_17 =>
            match f53v (x.1, ()) with
            | .ret r_19 =>
             match (r_15.2.1 != (0 : Int)) with
             | true =>
              .ret false
             | false =>
              match (r_17.2.1 != (0 : Int)) with
              | true =>
               .ret false
              | false =>
               match (r_19.2.1 != (0 : Int)) with
               | true =>
                .ret false
               | false =>
                match (decide ((lenI r_15.1) > (lenI x.1.1))) with
                | true =>
                 .ret false
                | false =>
                 match (decide ((lenI r_17.1) > (lenI x.1.1))) with
                 | true =>
                  .ret false
                 | false =>
                  match f38v (x.1, (r_15.1, ())) with
                  | .ret r_21 =>
                   match (!r_21) with
                   | true =>
                    .ret false
                   | false =>
                    match f38v (x.1, (r_17.1, ())) with
                    | .ret r_23 =>
                     match (!r_23) with
                     | true =>
                      .ret false
                     | false =>
                      match (decide ((lenI r_19.1) > (lenI r_15.1))) with
                      | true =>
                       .ret false
                      | false =>
                       match f54v (x.1, (r_15.1, ())) with
                       | .ret r_25 =>
                        match f54v (x.1, (r_17.1, ())) with
                        | .ret r_27 =>
                         match r_25.2.1 with
                         | true =>
                          match r_25.1 with
                          | true =>
                           match r_27.2.1 with
                           | true =>
                            match (!r_27.1) with
                            | true =>
                             match f24v () with
                             | .ret r_29 =>
                              .ret r_29
                             | .pan p_30 =>
                              .pan p_30
                             | .fail => .fail
                            | false =>
                             match (decide (x.2.1 ≤ r_11.1)) with
                             | true =>
                              match f24v () with
                              | .ret r_31 =>
                               .ret r_31
                              | .pan p_32 =>
                               .pan p_32
                              | .fail => .fail
                             | false =>
                              .ret false
                           | false =>
                            .ret false
                          | false =>
                           .ret false
                         | false =>
                          .ret false
                        | .pan p_28 =>
                         .pan p_28
                        | .fail => .fail
                       | .pan p_26 =>
                        .pan p_26
                       | .fail => .fail
                    | .pan p_24 =>
                     .pan p_24
                    | .fail => .fail
                  | .pan p_22 =>
                   .pan p_22
                  | .fail => .fail
            | .pan p_20 =>
             .pan p_20
            | .fail => .fail
           | .pan p_18 =>
            .pan p_18
           | .fail => .fail
          | .pan p_16 =>
           .pan p_16
          | .fail => .fail
        | .pan p_14 =>
         .pan p_14
        | .fail => .fail
      | .pan p_12 =>
       .pan p_12
      | .fail => .fail
    | .pan p_8 =>
     .pan p_8
    | .fail => .fail
  | .pan p_4 =>
   .pan p_4
  | .fail => .fail
theorem e11 (N : Nat) (x : (((List (Int × (Int × Unit))) × (Int × (Int × Unit))) × (Int × Unit))) : vfn Tryz.prog (phi specs11) hints11 N Tryz.f11 false false ty6 .bool x = F11 N x := by
 kernel_rfl
noncomputable def f11 (x : (((List (Int × (Int × Unit))) × (Int × (Int × Unit))) × (Int × Unit))) : Out Bool := F11 fuel x
noncomputable def sp11 : Spec := ⟨11, .call, ty6, .bool, false, false, f11⟩
theorem c11 : Contract Tryz.prog sp11 := contract_at (l := specs11) (arg := ty6) (res := .bool) (multi := false) (own := false) (F := f11) mixed (all_cons c33 (all_cons c24v (all_cons c34v (all_cons c51v (all_cons c49v (all_cons c48v (all_cons c53v (all_cons c38v (all_cons c54v all_nil))))))))) Tryz.func11 rfl hints11 fun x _ => ⟨fuel, e11 fuel x⟩
end Go.V
