/- A part of the proof of a law of the step table. -/
import Derived.Test.YtpnilbemlgbokaaGreatDoorS7k
set_option linter.all false
namespace Go.V
open Go.Proofs
noncomputable def specs7 : List Spec := [sp22v, sp24v, sp23v, sp36v, sp37v, sp25v, sp26v, sp41v]
def hints7 : List (Nat × List Nat) := [(10, [1, 2, 3, 7, 9, 11, 13, 15])]
noncomputable def L7_0 (N : Nat) (n_L7_0 : Nat) (x : (((List (Int × (Int × Unit))) × (Int × (Int × Unit))) × ((List Int) × ((List Int) × Unit)))) (r_11 : (Int × (Int × Unit))) (r_13 : ((List Int) × (Int × Unit))) (r_15 : ((List Int) × (Int × Unit))) (r_17 : (Bool × (Int × Unit))) (r_19 : Int) : Out Bool :=
 vloop Tryz.prog (phi specs7) hints7 N Tryz.f7 false false .bool [.at 1, .at 1, .at 1, .at 1, .at 1, .at 1, .at 1, .at 0, .at 1, .at 0] n_L7_0 [.und, .d (.list (.int .i64)) x.2.1, .d (.list (.int .i64)) x.2.2.1, .box [.d ty2 x.1.1, .d (.int .i64) x.1.2.1, .d (.int .i64) x.1.2.2.1], .und, .und, .und, .d (.int .i64) r_11.1, .und, .d (.list (.int .i64)) r_13.1, .und, .d (.list (.int .i64)) r_15.1, .und, .d .bool r_17.1, .und, .d (.int .i64) r_19, .und, .und, .und, .und, .und, .und, .und, .und, .und, .und, .und, .und, .und, .und, .und, .und, .und, .und, .und, .und, .und, .und, .und, .und, .und, .und, .und, .und, .und, .und, .und, .und, .und, .und, .und, .und, .und, .und, .und, .und, .und, .und, .und, .und, .und, .und, .und, .und, .und, .und, .und, .und, .und, .und, .und, .und, .und, .und, .und, .und, .und, .und, .und, .und, .und, .und, .und, .und, .und, .und, .und, .und, .und, .und, .und, .und, .und, .und, .und, .und, .und, .und, .und, .und, .und, .und, .und, .und, .und, .und, .und, .und, .und, .und, .und, .und, .und, .und, .und, .und, .und, .und, .und, .und, .und, .und, .und, .und, .und, .und, .und, .und, .und, .und, .und, .und, .und, .und, .und, .und, .und, .und, .und, .und, .und, .und, .und, .und, .und, .und, .und, .und, .und, .und, .und, .und, .und, .und, .und, .und, .und, .und, .und, .und, .und, .und, .und, .und, .und, .und, .und, .und, .und, .und, .und, .und, .und, .und, .und, .und, .und, .und, .und, .und, .und, .und, .und]
theorem L7_0_succ (N : Nat) (n_L7_0 : Nat) (x : (((List (Int × (Int × Unit))) × (Int × (Int × Unit))) × ((List Int) × ((List Int) × Unit)))) (r_11 : (Int × (Int × Unit))) (r_13 : ((List Int) × (Int × Unit))) (r_15 : ((List Int) × (Int × Unit))) (r_17 : (Bool × (Int × Unit))) (r_19 : Int) : L7_0 N  (n_L7_0 + 1) x r_11 r_13 r_15 r_17 r_19 =
  (
  match (decide (r_19 < (lenI r_15.1))) with
  | true =>
   bif (inb r_19 r_15.1.length) then
    match (decide ((List.getD r_15.1 r_19.toNat (0 : Int)) < (-9999 : Int))) with
    | true =>
     .ret false
    | false =>
     bif (inb r_19 r_15.1.length) then
      match (decide ((List.getD r_15.1 r_19.toNat (0 : Int)) > (9999 : Int))) with
      | true =>
       .ret false
      | false =>
       bif (inb r_19 r_15.1.length) then
        bif (inb r_19 x.2.2.1.length) then
         match (decide ((IntKind.i64.wrap ((List.getD r_15.1 r_19.toNat (0 : Int)) - (List.getD x.2.2.1 r_19.toNat (0 : Int)))) > x.1.2.2.1)) with
         | true =>
          match r_17.1 with
          | true =>
           .ret false
          | false =>
           match f41v (r_13.1, (r_19, ())) with
           | .ret r_20 =>
            match (!r_20) with
            | true =>
             .ret false
            | false =>
             match f41v (r_13.1, (r_19, ())) with
             | .ret r_22 =>
              match r_22 with
              | true =>
               match f41v (x.2.1, (r_19, ())) with
               | .ret r_24 =>
                match r_24 with
                | true =>
                 .ret false
                | false =>
                 L7_0 N n_L7_0 x r_11 r_13 r_15 r_17 (IntKind.i64.wrap (r_19 + (1 : Int)))
               | .pan p_25 =>
                .pan p_25
               | .fail => .fail
              | false =>
               L7_0 N n_L7_0 x r_11 r_13 r_15 r_17 (IntKind.i64.wrap (r_19 + (1 : Int)))
             | .pan p_23 =>
              .pan p_23
             | .fail => .fail
           | .pan p_21 =>
            .pan p_21
           | .fail => .fail
         | false =>
          bif (inb r_19 x.2.2.1.length) then
           bif (inb r_19 r_15.1.length) then
            match (decide ((IntKind.i64.wrap ((List.getD x.2.2.1 r_19.toNat (0 : Int)) - (List.getD r_15.1 r_19.toNat (0 : Int)))) > x.1.2.2.1)) with
            | true =>
             match r_17.1 with
             | true =>
              .ret false
             | false =>
              match f41v (r_13.1, (r_19, ())) with
              | .ret r_26 =>
               match (!r_26) with
               | true =>
                .ret false
               | false =>
                match f41v (r_13.1, (r_19, ())) with
                | .ret r_28 =>
                 match r_28 with
                 | true =>
                  match f41v (x.2.1, (r_19, ())) with
                  | .ret r_30 =>
                   match r_30 with
                   | true =>
                    .ret false
                   | false =>
                    L7_0 N n_L7_0 x r_11 r_13 r_15 r_17 (IntKind.i64.wrap (r_19 + (1 : Int)))
                  | .pan p_31 =>
                   .pan p_31
                  | .fail => .fail
                 | false =>
                  L7_0 N n_L7_0 x r_11 r_13 r_15 r_17 (IntKind.i64.wrap (r_19 + (1 : Int)))
                | .pan p_29 =>
                 .pan p_29
                | .fail => .fail
              | .pan p_27 =>
               .pan p_27
              | .fail => .fail
            | false =>
             match f41v (r_13.1, (r_19, ())) with
             | .ret r_32 =>
              match r_32 with
              | true =>
               match f41v (x.2.1, (r_19, ())) with
               | .ret r_34 =>
                match r_34 with
                | true =>
                 .ret false
                | false =>
                 L7_0 N n_L7_0 x r_11 r_13 r_15 r_17 (IntKind.i64.wrap (r_19 + (1 : Int)))
               | .pan p_35 =>
                .pan p_35
               | .fail => .fail
              | false =>
               L7_0 N n_L7_0 x r_11 r_13 r_15 r_17 (IntKind.i64.wrap (r_19 + (1 : Int)))
             | .pan p_33 =>
              .pan p_33
             | .fail => .fail
           else .fail
          else .fail
        else .fail
       else .fail
     else .fail
   else .fail
  | false =>
   match r_17.1 with
   | true =>
    match (!r_17.1) with
    | true =>
     match f24v () with
     | .ret r_36 =>
      .ret r_36
     | .pan p_37 =>
      .pan p_37
     | .fail => .fail
    | false =>
     match (r_11.1 != (1 : Int)) with
     | true =>
      match f24v () with
      | .ret r_38 =>
       .ret r_38
      | .pan p_39 =>
       .pan p_39
      | .fail => .fail
     | false =>
      .ret false
   | false =>
    match (r_11.1 != (3 : Int)) with
    | true =>
     match (!r_17.1) with
     | true =>
      match f24v () with
      | .ret r_40 =>
       .ret r_40
      | .pan p_41 =>
       .pan p_41
      | .fail => .fail
     | false =>
      match (r_11.1 != (1 : Int)) with
      | true =>
       match f24v () with
       | .ret r_42 =>
        .ret r_42
       | .pan p_43 =>
        .pan p_43
       | .fail => .fail
      | false =>
       .ret false
    | false =>
     .ret false : Out Bool) := by
 kernel_rfl
noncomputable def F7 (N : Nat) (x : (((List (Int × (Int × Unit))) × (Int × (Int × Unit))) × ((List Int) × ((List Int) × Unit)))) : Out Bool :=
 match f22v (x.1, (x.2.1, ())) with
 | .ret r_1 =>
  match (!r_1) with
  | true =>
   match f24v () with
   | .ret r_3 =>
    .ret r_3
   | .pan p_4 =>
    .pan p_4
   | .fail => .fail
  | false =>
   match (decide ((lenI x.2.2.1) > (16 : Int))) with
   | true =>
    match f24v () with
    | .ret r_5 =>
     .ret r_5
    | .pan p_6 =>
     .pan p_6
    | .fail => .fail
   | false =>
    match f23v (x.1, (x.2.2.1, ())) with
    | .ret r_7 =>
     match (!r_7) with
     | true =>
      match f24v () with
      | .ret r_9 =>
       .ret r_9
      | .pan p_10 =>
       .pan p_10
      | .fail => .fail
     | false =>
      match f36v (x.1, (x.2.1, ())) with
      | .ret r_11 =>
       match f37v (x.1, (x.2.1, ())) with
       | .ret r_13 =>
        match f25v (x.1, (x.2.1, (x.2.2.1, ()))) with
        | .ret r_15 =>
         match f26v (x.1, (x.2.1, (x.2.2.1, ()))) with
         | .ret r_17 =>
          match (r_11.2.1 != (0 : Int)) with
          | true =>
           .ret false
          | false =>
           match (r_13.2.1 != (0 : Int)) with
           | true =>
            .ret false
           | false =>
            match (r_15.2.1 != (0 : Int)) with
            | true =>
             .ret false
            | false =>
             match (r_17.2.1 != (0 : Int)) with
             | true =>
              .ret false
             | false =>
              match ((lenI r_15.1) != (lenI x.2.2.1)) with
              | true =>
               .ret false
              | false =>
               match (decide ((lenI r_13.1) > (lenI x.2.2.1))) with
               | true =>
                .ret false
               | false =>
                match (decide (r_11.1 < (1 : Int))) with
                | true =>
                 .ret false
                | false =>
                 match (decide (r_11.1 > (3 : Int))) with
                 | true =>
                  .ret false
                 | false =>
                  match ((r_11.1 == (3 : Int)) != ((lenI r_13.1) == (0 : Int))) with
                  | true =>
                   .ret false
                  | false =>
                   L7_0 N N x r_11 r_13 r_15 r_17 (0 : Int)
         | .pan p_18 =>
          .pan p_18
         | .fail => .fail
        | .pan p_16 =>
         .pan p_16
        | .fail => .fail
       | .pan p_14 =>
        .pan p_14
       | .fail => .fail
      | .pan p_12 =>
       .pan p_12
      | .fail => .fail
    | .pan p_8 =>
     .pan p_8
    | .fail => .fail
 | .pan p_2 =>
  .pan p_2
 | .fail => .fail
theorem e7 (N : Nat) (x : (((List (Int × (Int × Unit))) × (Int × (Int × Unit))) × ((List Int) × ((List Int) × Unit)))) : vfn Tryz.prog (phi specs7) hints7 N Tryz.f7 false false ty10 .bool x = F7 N x := by
 kernel_rfl
noncomputable def f7 (x : (((List (Int × (Int × Unit))) × (Int × (Int × Unit))) × ((List Int) × ((List Int) × Unit)))) : Out Bool := F7 fuel x
noncomputable def sp7 : Spec := ⟨7, .call, ty10, .bool, false, false, f7⟩
theorem c7 : Contract Tryz.prog sp7 := contract_at (l := specs7) (arg := ty10) (res := .bool) (multi := false) (own := false) (F := f7) mixed (all_cons c22v (all_cons c24v (all_cons c23v (all_cons c36v (all_cons c37v (all_cons c25v (all_cons c26v (all_cons c41v all_nil)))))))) Tryz.func7 rfl hints7 fun x _ => ⟨fuel, e7 fuel x⟩
end Go.V
