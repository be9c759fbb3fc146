/- A part of the proof of a law of the step table. -/
import Derived.Test.YtpnilbemlgbokaaGreatDoorS7k
set_option linter.all false
namespace Go.V
open Go.Proofs
noncomputable def specs13 : List Spec := [sp22v, sp24v, sp53v, sp55v, sp56v, sp38v, sp54v, sp41v, sp47v, sp31v]
def hints13 : List (Nat × List Nat) := [(13, [1, 5, 7, 9, 13, 15])]
noncomputable def L13_0 (N : Nat) (n_L13_0 : Nat) (x : (((List (Int × (Int × Unit))) × (Int × (Int × Unit))) × ((List Int) × Unit))) (r_5 : ((List Int) × (Int × Unit))) (r_7 : (Int × (Int × Unit))) (r_9 : ((List Int) × (Int × Unit))) (r_15 : (Bool × (Bool × Unit))) (i_17 : Int) : Out Bool :=
 vloop Tryz.prog (phi specs13) hints13 N Tryz.f13 false false .bool [.at 1, .at 1, .at 1, .at 1, .at 1, .at 1, .at 1, .at 1, .at 1, .at 0, .at 1, .at 0] n_L13_0 [.und, .d (.list (.int .i64)) x.2.1, .und, .und, .und, .d (.list (.int .i64)) r_5.1, .und, .d (.int .i64) r_7.1, .und, .d (.list (.int .i64)) r_9.1, .und, .und, .und, .d .bool r_15.1, .und, .d (.int .i64) i_17, .und, .und, .und, .und, .und, .und, .und, .und, .und, .und, .und, .und, .und, .und, .und, .und, .und, .und, .und, .und, .und, .und, .und, .und, .und, .und, .und, .und, .und, .und, .und, .und, .und, .und, .und, .und, .und, .und, .und, .und, .und, .und, .und, .und, .und, .und, .und, .und, .und, .und, .und, .und, .und, .und, .und, .und, .und, .und, .und, .und, .und, .und, .und, .und, .und, .und, .und, .und, .und, .und, .und, .und, .und, .und, .und, .und, .und, .und, .und, .und, .und, .und, .und, .und, .und, .und, .und, .und, .und, .und, .und, .und, .und, .und, .und, .und, .und, .und, .und, .und, .und, .und, .und, .und, .und, .und, .und, .und, .und, .und, .und, .und, .und, .und, .und, .und, .und, .und, .und, .und, .und, .und, .und, .und, .und, .und, .und, .und, .und, .und, .und, .und, .und, .und, .und, .und]
theorem L13_0_succ (N : Nat) (n_L13_0 : Nat) (x : (((List (Int × (Int × Unit))) × (Int × (Int × Unit))) × ((List Int) × Unit))) (r_5 : ((List Int) × (Int × Unit))) (r_7 : (Int × (Int × Unit))) (r_9 : ((List Int) × (Int × Unit))) (r_15 : (Bool × (Bool × Unit))) (i_17 : Int) : L13_0 N  (n_L13_0 + 1) x r_5 r_7 r_9 r_15 i_17 =
  (
  match (decide (i_17 < (lenI r_9.1))) with
  | true =>
   bif (inb i_17 r_9.1.length) then
    match f41v (r_5.1, ((List.getD r_9.1 i_17.toNat (0 : Int)), ())) with
    | .ret r_18 =>
     match (!r_18) with
     | true =>
      .ret false
     | false =>
      match r_15.1 with
      | true =>
       bif (inb i_17 r_9.1.length) then
        match f41v (x.2.1, ((List.getD r_9.1 i_17.toNat (0 : Int)), ())) with
        | .ret r_20 =>
         match (!r_20) with
         | true =>
          .ret false
         | false =>
          L13_0 N n_L13_0 x r_5 r_7 r_9 r_15 (IntKind.i64.wrap (i_17 + (1 : Int)))
        | .pan p_21 =>
         .pan p_21
        | .fail => .fail
       else .fail
      | false =>
       L13_0 N n_L13_0 x r_5 r_7 r_9 r_15 (IntKind.i64.wrap (i_17 + (1 : Int)))
    | .pan p_19 =>
     .pan p_19
    | .fail => .fail
   else .fail
  | false =>
   match (!r_15.1) with
   | true =>
    match f24v () with
    | .ret r_22 =>
     .ret r_22
    | .pan p_23 =>
     .pan p_23
    | .fail => .fail
   | false =>
    match (decide ((lenI x.2.1) > (lenI r_5.1))) with
    | true =>
     match f24v () with
     | .ret r_24 =>
      .ret r_24
     | .pan p_25 =>
      .pan p_25
     | .fail => .fail
    | false =>
     match ((lenI x.2.1) == (lenI r_5.1)) with
     | true =>
      match f47v (x.2.1, (r_5.1, ())) with
      | .ret r_26 =>
       match (!r_26) with
       | true =>
        match f31v (x.2.1, (r_5.1, ())) with
        | .ret r_28 =>
         match r_28 with
         | true =>
          match f24v () with
          | .ret r_30 =>
           .ret r_30
          | .pan p_31 =>
           .pan p_31
          | .fail => .fail
         | false =>
          match (decide (r_7.1 > (1 : Int))) with
          | true =>
           match f24v () with
           | .ret r_32 =>
            .ret r_32
           | .pan p_33 =>
            .pan p_33
           | .fail => .fail
          | false =>
           .ret false
        | .pan p_29 =>
         .pan p_29
        | .fail => .fail
       | false =>
        .ret false
      | .pan p_27 =>
       .pan p_27
      | .fail => .fail
     | false =>
      .ret false : Out Bool) := by
 kernel_rfl
noncomputable def F13 (N : Nat) (x : (((List (Int × (Int × Unit))) × (Int × (Int × Unit))) × ((List Int) × Unit))) : Out Bool :=
 match f22v (x.1, (x.2.1, ())) with
 | .ret r_1 =>
  match (!r_1) with
  | true =>
   match f24v () with
   | .ret r_3 =>
    .ret r_3
   | .pan p_4 =>
    .pan p_4
   | .fail => .fail
  | false =>
   match f53v (x.1, ()) with
   | .ret r_5 =>
    match f55v (x.1, ()) with
    | .ret r_7 =>
     match f56v (x.1, ()) with
     | .ret r_9 =>
      match (r_5.2.1 != (0 : Int)) with
      | true =>
       .ret false
      | false =>
       match (r_7.2.1 != (0 : Int)) with
       | true =>
        .ret false
       | false =>
        match (r_9.2.1 != (0 : Int)) with
        | true =>
         .ret false
        | false =>
         match (decide (r_7.1 < (1 : Int))) with
         | true =>
          .ret false
         | false =>
          match (decide ((lenI r_5.1) > (lenI x.1.1))) with
          | true =>
           .ret false
          | false =>
           match f38v (x.1, (r_5.1, ())) with
           | .ret r_11 =>
            match (!r_11) with
            | true =>
             .ret false
            | false =>
             match (decide ((lenI r_9.1) > (lenI x.1.1))) with
             | true =>
              .ret false
             | false =>
              match f54v (x.1, (r_5.1, ())) with
              | .ret r_13 =>
               match f54v (x.1, (x.2.1, ())) with
               | .ret r_15 =>
                match (!r_13.2.1) with
                | true =>
                 .ret false
                | false =>
                 match (!r_13.1) with
                 | true =>
                  .ret false
                 | false =>
                  match (!r_15.2.1) with
                  | true =>
                   .ret false
                  | false =>
                   L13_0 N N x r_5 r_7 r_9 r_15 (0 : Int)
               | .pan p_16 =>
                .pan p_16
               | .fail => .fail
              | .pan p_14 =>
               .pan p_14
              | .fail => .fail
           | .pan p_12 =>
            .pan p_12
           | .fail => .fail
     | .pan p_10 =>
      .pan p_10
     | .fail => .fail
    | .pan p_8 =>
     .pan p_8
    | .fail => .fail
   | .pan p_6 =>
    .pan p_6
   | .fail => .fail
 | .pan p_2 =>
  .pan p_2
 | .fail => .fail
theorem e13 (N : Nat) (x : (((List (Int × (Int × Unit))) × (Int × (Int × Unit))) × ((List Int) × Unit))) : vfn Tryz.prog (phi specs13) hints13 N Tryz.f13 false false ty0 .bool x = F13 N x := by
 kernel_rfl
noncomputable def f13 (x : (((List (Int × (Int × Unit))) × (Int × (Int × Unit))) × ((List Int) × Unit))) : Out Bool := F13 fuel x
noncomputable def sp13 : Spec := ⟨13, .call, ty0, .bool, false, false, f13⟩
theorem c13 : Contract Tryz.prog sp13 := contract_at (l := specs13) (arg := ty0) (res := .bool) (multi := false) (own := false) (F := f13) mixed (all_cons c22v (all_cons c24v (all_cons c53v (all_cons c55v (all_cons c56v (all_cons c38v (all_cons c54v (all_cons c41v (all_cons c47v (all_cons c31v all_nil)))))))))) Tryz.func13 rfl hints13 fun x _ => ⟨fuel, e13 fuel x⟩
end Go.V
