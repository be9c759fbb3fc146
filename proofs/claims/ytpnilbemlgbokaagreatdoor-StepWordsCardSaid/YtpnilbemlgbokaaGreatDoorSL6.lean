/- A part of the proof of a law of the step table. -/
import Derived.Test.YtpnilbemlgbokaaGreatDoorS7k
set_option linter.all false
namespace Go.V
open Go.Proofs
noncomputable def specs6 : List Spec := [sp33, sp24v, sp36v, sp37v, sp34v, sp38v, sp39v, sp40v, sp31v]
def hints6 : List (Nat × List Nat) := []
noncomputable def F6 (N : Nat) (x : (((List (Int × (Int × Unit))) × (Int × (Int × Unit))) × ((List Int) × Unit))) : Out Bool :=
 match (!(decide ((lenI x.1.1) ≤ (16 : Int)))) with
 | true =>
  match f24v () with
  | .ret r_1 =>
   .ret r_1
  | .pan p_2 =>
   .pan p_2
  | .fail => .fail
 | false =>
  match (decide ((lenI x.2.1) > (16 : Int))) with
  | true =>
   match f24v () with
   | .ret r_3 =>
    .ret r_3
   | .pan p_4 =>
    .pan p_4
   | .fail => .fail
  | false =>
   match f36v (x.1, (x.2.1, ())) with
   | .ret r_5 =>
    match f37v (x.1, (x.2.1, ())) with
    | .ret r_7 =>
     match f34v (x.1, ()) with
     | .ret r_9 =>
      match (!r_9) with
      | true =>
       match (r_5.2.1 == (2 : Int)) with
       | true =>
        match (r_5.1 == (0 : Int)) with
        | true =>
         match (r_7.2.1 == (2 : Int)) with
         | true =>
          match ((lenI r_7.1) == (0 : Int)) with
          | true =>
           match f24v () with
           | .ret r_11 =>
            .ret r_11
           | .pan p_12 =>
            .pan p_12
           | .fail => .fail
          | false =>
           .ret false
         | false =>
          .ret false
        | false =>
         .ret false
       | false =>
        .ret false
      | false =>
       match f38v (x.1, (x.2.1, ())) with
       | .ret r_13 =>
        match (!r_13) with
        | true =>
         match (r_5.2.1 == (2 : Int)) with
         | true =>
          match (r_5.1 == (0 : Int)) with
          | true =>
           match (r_7.2.1 == (2 : Int)) with
           | true =>
            match ((lenI r_7.1) == (0 : Int)) with
            | true =>
             match f24v () with
             | .ret r_15 =>
              .ret r_15
             | .pan p_16 =>
              .pan p_16
             | .fail => .fail
            | false =>
             .ret false
           | false =>
            .ret false
          | false =>
           .ret false
         | false =>
          .ret false
        | false =>
         match (r_5.2.1 == (0 : Int)) with
         | true =>
          match f39v (x.1, (x.2.1, ())) with
          | .ret r_17 =>
           match (r_5.1 == r_17) with
           | true =>
            match (r_7.2.1 == (0 : Int)) with
            | true =>
             match f40v (x.1, (x.2.1, ())) with
             | .ret r_19 =>
              match f31v (r_7.1, (r_19, ())) with
              | .ret r_21 =>
               match r_21 with
               | true =>
                match f24v () with
                | .ret r_23 =>
                 .ret r_23
                | .pan p_24 =>
                 .pan p_24
                | .fail => .fail
               | false =>
                .ret false
              | .pan p_22 =>
               .pan p_22
              | .fail => .fail
             | .pan p_20 =>
              .pan p_20
             | .fail => .fail
            | false =>
             .ret false
           | false =>
            .ret false
          | .pan p_18 =>
           .pan p_18
          | .fail => .fail
         | false =>
          .ret false
       | .pan p_14 =>
        .pan p_14
       | .fail => .fail
     | .pan p_10 =>
      .pan p_10
     | .fail => .fail
    | .pan p_8 =>
     .pan p_8
    | .fail => .fail
   | .pan p_6 =>
    .pan p_6
   | .fail => .fail
theorem e6 (N : Nat) (x : (((List (Int × (Int × Unit))) × (Int × (Int × Unit))) × ((List Int) × Unit))) : vfn Tryz.prog (phi specs6) hints6 N Tryz.f6 false false ty0 .bool x = F6 N x := by
 kernel_rfl
noncomputable def f6 (x : (((List (Int × (Int × Unit))) × (Int × (Int × Unit))) × ((List Int) × Unit))) : Out Bool := F6 fuel x
noncomputable def sp6 : Spec := ⟨6, .call, ty0, .bool, false, false, f6⟩
theorem c6 : Contract Tryz.prog sp6 := contract_at (l := specs6) (arg := ty0) (res := .bool) (multi := false) (own := false) (F := f6) mixed (all_cons c33 (all_cons c24v (all_cons c36v (all_cons c37v (all_cons c34v (all_cons c38v (all_cons c39v (all_cons c40v (all_cons c31v all_nil))))))))) Tryz.func6 rfl hints6 fun x _ => ⟨fuel, e6 fuel x⟩
end Go.V
