/- A part of the proof of a law of the step table. -/
import Derived.Test.YtpnilbemlgbokaaGreatDoorS7k
set_option linter.all false
namespace Go.V
open Go.Proofs
noncomputable def specs8 : List Spec := [sp33, sp24v, sp42v, sp43v, sp34v, sp38v, sp44v, sp45v, sp31v]
def hints8 : List (Nat × List Nat) := []
noncomputable def F8 (N : Nat) (x : (((List (Int × (Int × Unit))) × (Int × (Int × Unit))) × ((List Int) × Unit))) : Out Bool :=
 match (!(decide ((lenI x.1.1) ≤ (16 : Int)))) with
 | true =>
  match f24v () with
  | .ret r_1 =>
   .ret r_1
  | .pan p_2 =>
   .pan p_2
  | .fail => .fail
 | false =>
  match (decide ((lenI x.2.1) > (16 : Int))) with
  | true =>
   match f24v () with
   | .ret r_3 =>
    .ret r_3
   | .pan p_4 =>
    .pan p_4
   | .fail => .fail
  | false =>
   match f42v (x.1, (x.2.1, ())) with
   | .ret r_5 =>
    match f43v (x.1, (x.2.1, ())) with
    | .ret r_7 =>
     match f34v (x.1, ()) with
     | .ret r_9 =>
      match (!r_9) with
      | true =>
       match (r_5.2.1 == (2 : Int)) with
       | true =>
        match ((lenI r_5.1) == (0 : Int)) with
        | true =>
         match (r_7.2.1 == (2 : Int)) with
         | true =>
          match (r_7.1 == (0 : Int)) with
          | true =>
           match f24v () with
           | .ret r_11 =>
            .ret r_11
           | .pan p_12 =>
            .pan p_12
           | .fail => .fail
          | false =>
           .ret false
         | false =>
          .ret false
        | false =>
         .ret false
       | false =>
        .ret false
      | false =>
       match f38v (x.1, (x.2.1, ())) with
       | .ret r_13 =>
        match (!r_13) with
        | true =>
         match (r_5.2.1 == (2 : Int)) with
         | true =>
          match ((lenI r_5.1) == (0 : Int)) with
          | true =>
           match (r_7.2.1 == (2 : Int)) with
           | true =>
            match (r_7.1 == (0 : Int)) with
            | true =>
             match f24v () with
             | .ret r_15 =>
              .ret r_15
             | .pan p_16 =>
              .pan p_16
             | .fail => .fail
            | false =>
             .ret false
           | false =>
            .ret false
          | false =>
           .ret false
         | false =>
          .ret false
        | false =>
         match f44v (x.1, (x.2.1, ())) with
         | .ret r_17 =>
          match (r_7.2.1 != (0 : Int)) with
          | true =>
           .ret false
          | false =>
           match f45v (x.1, (x.2.1, ())) with
           | .ret r_19 =>
            match (r_7.1 != r_19) with
            | true =>
             .ret false
            | false =>
             match (!r_17.2.1) with
             | true =>
              match (r_5.2.1 == (5 : Int)) with
              | true =>
               match ((lenI r_5.1) == (0 : Int)) with
               | true =>
                match f24v () with
                | .ret r_21 =>
                 .ret r_21
                | .pan p_22 =>
                 .pan p_22
                | .fail => .fail
               | false =>
                .ret false
              | false =>
               .ret false
             | false =>
              match (r_5.2.1 == (0 : Int)) with
              | true =>
               match f31v (r_5.1, (r_17.1, ())) with
               | .ret r_23 =>
                match r_23 with
                | true =>
                 match f24v () with
                 | .ret r_25 =>
                  .ret r_25
                 | .pan p_26 =>
                  .pan p_26
                 | .fail => .fail
                | false =>
                 .ret false
               | .pan p_24 =>
                .pan p_24
               | .fail => .fail
              | false =>
               .ret false
           | .pan p_20 =>
            .pan p_20
           | .fail => .fail
         | .pan p_18 =>
          .pan p_18
         | .fail => .fail
       | .pan p_14 =>
        .pan p_14
       | .fail => .fail
     | .pan p_10 =>
      .pan p_10
     | .fail => .fail
    | .pan p_8 =>
     .pan p_8
    | .fail => .fail
   | .pan p_6 =>
    .pan p_6
   | .fail => .fail
theorem e8 (N : Nat) (x : (((List (Int × (Int × Unit))) × (Int × (Int × Unit))) × ((List Int) × Unit))) : vfn Tryz.prog (phi specs8) hints8 N Tryz.f8 false false ty0 .bool x = F8 N x := by
 kernel_rfl
noncomputable def f8 (x : (((List (Int × (Int × Unit))) × (Int × (Int × Unit))) × ((List Int) × Unit))) : Out Bool := F8 fuel x
noncomputable def sp8 : Spec := ⟨8, .call, ty0, .bool, false, false, f8⟩
theorem c8 : Contract Tryz.prog sp8 := contract_at (l := specs8) (arg := ty0) (res := .bool) (multi := false) (own := false) (F := f8) mixed (all_cons c33 (all_cons c24v (all_cons c42v (all_cons c43v (all_cons c34v (all_cons c38v (all_cons c44v (all_cons c45v (all_cons c31v all_nil))))))))) Tryz.func8 rfl hints8 fun x _ => ⟨fuel, e8 fuel x⟩
end Go.V
