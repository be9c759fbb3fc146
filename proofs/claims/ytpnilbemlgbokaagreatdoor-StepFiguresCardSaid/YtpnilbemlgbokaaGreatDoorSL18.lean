/- A part of the proof of a law of the step table. -/
import Derived.Test.YtpnilbemlgbokaaGreatDoorS7k
set_option linter.all false
namespace Go.V
open Go.Proofs
noncomputable def specs18 : List Spec := [sp33, sp24v, sp64v, sp25v, sp26v, sp34v, sp38v, sp23v, sp65v, sp31v, sp66v]
def hints18 : List (Nat × List Nat) := []
noncomputable def F18 (N : Nat) (x : (((List (Int × (Int × Unit))) × (Int × (Int × Unit))) × ((List Int) × ((List Int) × Unit)))) : Out Bool :=
 match (!(decide ((lenI x.1.1) ≤ (16 : Int)))) with
 | true =>
  match f24v () with
  | .ret r_1 =>
   .ret r_1
  | .pan p_2 =>
   .pan p_2
  | .fail => .fail
 | false =>
  match (decide ((lenI x.2.1) > (16 : Int))) with
  | true =>
   match f24v () with
   | .ret r_3 =>
    .ret r_3
   | .pan p_4 =>
    .pan p_4
   | .fail => .fail
  | false =>
   match (decide ((lenI x.2.2.1) > (16 : Int))) with
   | true =>
    match f24v () with
    | .ret r_5 =>
     .ret r_5
    | .pan p_6 =>
     .pan p_6
    | .fail => .fail
   | false =>
    match f64v (x.1, ()) with
    | .ret r_7 =>
     match f25v (x.1, (x.2.1, (x.2.2.1, ()))) with
     | .ret r_9 =>
      match f26v (x.1, (x.2.1, (x.2.2.1, ()))) with
      | .ret r_11 =>
       match f34v (x.1, ()) with
       | .ret r_13 =>
        match (!r_13) with
        | true =>
         match (r_7 == (2 : Int)) with
         | true =>
          match (r_9.2.1 == (2 : Int)) with
          | true =>
           match ((lenI r_9.1) == (0 : Int)) with
           | true =>
            match (r_11.2.1 == (2 : Int)) with
            | true =>
             match (!r_11.1) with
             | true =>
              match f24v () with
              | .ret r_15 =>
               .ret r_15
              | .pan p_16 =>
               .pan p_16
              | .fail => .fail
             | false =>
              .ret false
            | false =>
             .ret false
           | false =>
            .ret false
          | false =>
           .ret false
         | false =>
          .ret false
        | false =>
         match (r_7 != (0 : Int)) with
         | true =>
          .ret false
         | false =>
          match f38v (x.1, (x.2.1, ())) with
          | .ret r_17 =>
           match (!r_17) with
           | true =>
            match (r_9.2.1 == (2 : Int)) with
            | true =>
             match ((lenI r_9.1) == (0 : Int)) with
             | true =>
              match (r_11.2.1 == (2 : Int)) with
              | true =>
               match (!r_11.1) with
               | true =>
                match f24v () with
                | .ret r_19 =>
                 .ret r_19
                | .pan p_20 =>
                 .pan p_20
                | .fail => .fail
               | false =>
                .ret false
              | false =>
               .ret false
             | false =>
              .ret false
            | false =>
             .ret false
           | false =>
            match f23v (x.1, (x.2.2.1, ())) with
            | .ret r_21 =>
             match (!r_21) with
             | true =>
              match (r_9.2.1 == (2 : Int)) with
              | true =>
               match ((lenI r_9.1) == (0 : Int)) with
               | true =>
                match (r_11.2.1 == (2 : Int)) with
                | true =>
                 match (!r_11.1) with
                 | true =>
                  match f24v () with
                  | .ret r_23 =>
                   .ret r_23
                  | .pan p_24 =>
                   .pan p_24
                  | .fail => .fail
                 | false =>
                  .ret false
                | false =>
                 .ret false
               | false =>
                .ret false
              | false =>
               .ret false
             | false =>
              match (r_9.2.1 == (0 : Int)) with
              | true =>
               match f65v (x.1, (x.2.1, (x.2.2.1, ()))) with
               | .ret r_25 =>
                match f31v (r_9.1, (r_25, ())) with
                | .ret r_27 =>
                 match r_27 with
                 | true =>
                  match (r_11.2.1 == (0 : Int)) with
                  | true =>
                   match f66v (x.1, (x.2.1, (x.2.2.1, ()))) with
                   | .ret r_29 =>
                    match (r_11.1 == r_29) with
                    | true =>
                     match f24v () with
                     | .ret r_31 =>
                      .ret r_31
                     | .pan p_32 =>
                      .pan p_32
                     | .fail => .fail
                    | false =>
                     .ret false
                   | .pan p_30 =>
                    .pan p_30
                   | .fail => .fail
                  | false =>
                   .ret false
                 | false =>
                  .ret false
                | .pan p_28 =>
                 .pan p_28
                | .fail => .fail
               | .pan p_26 =>
                .pan p_26
               | .fail => .fail
              | false =>
               .ret false
            | .pan p_22 =>
             .pan p_22
            | .fail => .fail
          | .pan p_18 =>
           .pan p_18
          | .fail => .fail
       | .pan p_14 =>
        .pan p_14
       | .fail => .fail
      | .pan p_12 =>
       .pan p_12
      | .fail => .fail
     | .pan p_10 =>
      .pan p_10
     | .fail => .fail
    | .pan p_8 =>
     .pan p_8
    | .fail => .fail
theorem e18 (N : Nat) (x : (((List (Int × (Int × Unit))) × (Int × (Int × Unit))) × ((List Int) × ((List Int) × Unit)))) : vfn Tryz.prog (phi specs18) hints18 N Tryz.f18 false false ty10 .bool x = F18 N x := by
 kernel_rfl
noncomputable def f18 (x : (((List (Int × (Int × Unit))) × (Int × (Int × Unit))) × ((List Int) × ((List Int) × Unit)))) : Out Bool := F18 fuel x
noncomputable def sp18 : Spec := ⟨18, .call, ty10, .bool, false, false, f18⟩
theorem c18 : Contract Tryz.prog sp18 := contract_at (l := specs18) (arg := ty10) (res := .bool) (multi := false) (own := false) (F := f18) mixed (all_cons c33 (all_cons c24v (all_cons c64v (all_cons c25v (all_cons c26v (all_cons c34v (all_cons c38v (all_cons c23v (all_cons c65v (all_cons c31v (all_cons c66v all_nil))))))))))) Tryz.func18 rfl hints18 fun x _ => ⟨fuel, e18 fuel x⟩
end Go.V
