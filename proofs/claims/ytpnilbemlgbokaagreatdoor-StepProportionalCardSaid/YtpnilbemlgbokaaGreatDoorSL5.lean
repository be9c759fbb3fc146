/- A part of the proof of a law of the step table. -/
import Derived.Test.YtpnilbemlgbokaaGreatDoorS7k
set_option linter.all false
namespace Go.V
open Go.Proofs
noncomputable def specs5 : List Spec := [sp33, sp24v, sp34v, sp23v, sp35v, sp29v, sp28v, sp25v]
def hints5 : List (Nat × List Nat) := [(10, [1, 2, 3, 7, 8, 9, 11, 13])]
noncomputable def L5_0 (N : Nat) (n_L5_0 : Nat) (x : (((List (Int × (Int × Unit))) × (Int × (Int × Unit))) × ((List Int) × (Int × Unit)))) (r_21 : ((List Int) × (Int × Unit))) (r_23 : ((List Int) × (Int × Unit))) (i_25 : Int) : Out Bool :=
 vloop Tryz.prog (phi specs5) hints5 N Tryz.f5 false false .bool [.at 1, .at 1, .at 1, .at 1, .at 1, .at 1, .at 1, .at 0, .at 1, .at 0] n_L5_0 [.und, .d (.list (.int .i64)) x.2.1, .d (.int .i64) x.2.2.1, .box [.d ty2 x.1.1, .d (.int .i64) x.1.2.1, .d (.int .i64) x.1.2.2.1], .und, .und, .und, .d (.int .i64) (IntKind.i64.wrap ((lenI x.1.1) - (1 : Int))), .d (.int .i64) (IntKind.i64.wrap ((List.getD x.2.1 (IntKind.i64.wrap ((lenI x.1.1) - (1 : Int))).toNat (0 : Int)) - (List.getD x.2.1 (0 : Int).toNat (0 : Int)))), .d (.list (.int .i64)) r_21.1, .und, .d (.list (.int .i64)) r_23.1, .und, .d (.int .i64) i_25, .und, .und, .und, .und, .und, .und, .und, .und, .und, .und, .und, .und, .und, .und, .und, .und, .und, .und, .und, .und, .und, .und, .und, .und, .und, .und, .und, .und, .und, .und, .und, .und, .und, .und, .und, .und, .und, .und, .und, .und, .und, .und, .und, .und, .und, .und, .und, .und, .und, .und, .und, .und, .und, .und, .und, .und, .und, .und, .und, .und, .und, .und, .und, .und, .und, .und, .und, .und, .und, .und, .und, .und, .und, .und, .und, .und, .und, .und, .und, .und, .und, .und, .und, .und, .und, .und, .und, .und, .und, .und, .und, .und, .und, .und, .und, .und, .und, .und, .und, .und, .und, .und, .und, .und, .und, .und, .und, .und, .und, .und, .und, .und, .und, .und, .und, .und, .und, .und, .und, .und, .und, .und, .und, .und, .und, .und, .und, .und, .und, .und, .und, .und, .und, .und, .und, .und, .und, .und, .und, .und, .und, .und, .und, .und, .und, .und, .und, .und, .und, .und, .und, .und, .und, .und, .und, .und, .und]
theorem L5_0_succ (N : Nat) (n_L5_0 : Nat) (x : (((List (Int × (Int × Unit))) × (Int × (Int × Unit))) × ((List Int) × (Int × Unit)))) (r_21 : ((List Int) × (Int × Unit))) (r_23 : ((List Int) × (Int × Unit))) (i_25 : Int) : L5_0 N  (n_L5_0 + 1) x r_21 r_23 i_25 =
  (
  match (decide (i_25 ≤ (IntKind.i64.wrap ((lenI x.1.1) - (1 : Int))))) with
  | true =>
   match (decide ((IntKind.i64.wrap ((List.getD x.2.1 (IntKind.i64.wrap ((lenI x.1.1) - (1 : Int))).toNat (0 : Int)) - (List.getD x.2.1 (0 : Int).toNat (0 : Int)))) ≥ (0 : Int))) with
   | true =>
    bif (inb i_25 r_21.1.length) then
     bif (inb (IntKind.i64.wrap (i_25 - (1 : Int))) r_21.1.length) then
      match (decide ((List.getD r_21.1 i_25.toNat (0 : Int)) < (List.getD r_21.1 (IntKind.i64.wrap (i_25 - (1 : Int))).toNat (0 : Int)))) with
      | true =>
       .ret false
      | false =>
       match (decide ((IntKind.i64.wrap ((List.getD x.2.1 (IntKind.i64.wrap ((lenI x.1.1) - (1 : Int))).toNat (0 : Int)) - (List.getD x.2.1 (0 : Int).toNat (0 : Int)))) ≤ (0 : Int))) with
       | true =>
        bif (inb i_25 r_21.1.length) then
         bif (inb (IntKind.i64.wrap (i_25 - (1 : Int))) r_21.1.length) then
          match (decide ((List.getD r_21.1 i_25.toNat (0 : Int)) > (List.getD r_21.1 (IntKind.i64.wrap (i_25 - (1 : Int))).toNat (0 : Int)))) with
          | true =>
           .ret false
          | false =>
           L5_0 N n_L5_0 x r_21 r_23 (IntKind.i64.wrap (i_25 + (1 : Int)))
         else .fail
        else .fail
       | false =>
        L5_0 N n_L5_0 x r_21 r_23 (IntKind.i64.wrap (i_25 + (1 : Int)))
     else .fail
    else .fail
   | false =>
    match (decide ((IntKind.i64.wrap ((List.getD x.2.1 (IntKind.i64.wrap ((lenI x.1.1) - (1 : Int))).toNat (0 : Int)) - (List.getD x.2.1 (0 : Int).toNat (0 : Int)))) ≤ (0 : Int))) with
    | true =>
     bif (inb i_25 r_21.1.length) then
      bif (inb (IntKind.i64.wrap (i_25 - (1 : Int))) r_21.1.length) then
       match (decide ((List.getD r_21.1 i_25.toNat (0 : Int)) > (List.getD r_21.1 (IntKind.i64.wrap (i_25 - (1 : Int))).toNat (0 : Int)))) with
       | true =>
        .ret false
       | false =>
        L5_0 N n_L5_0 x r_21 r_23 (IntKind.i64.wrap (i_25 + (1 : Int)))
      else .fail
     else .fail
    | false =>
     L5_0 N n_L5_0 x r_21 r_23 (IntKind.i64.wrap (i_25 + (1 : Int)))
  | false =>
   match (x.1.2.1 == (4 : Int)) with
   | true =>
    match f24v () with
    | .ret r_26 =>
     .ret r_26
    | .pan p_27 =>
     .pan p_27
    | .fail => .fail
   | false =>
    bif (inb x.2.2.1 r_23.1.length) then
     bif (inb (0 : Int) x.2.1.length) then
      bif (inb x.2.2.1 r_21.1.length) then
       match ((IntKind.i64.wrap ((List.getD r_23.1 x.2.2.1.toNat (0 : Int)) - (List.getD x.2.1 (0 : Int).toNat (0 : Int)))) == (List.getD r_21.1 x.2.2.1.toNat (0 : Int))) with
       | true =>
        match f24v () with
        | .ret r_28 =>
         .ret r_28
        | .pan p_29 =>
         .pan p_29
        | .fail => .fail
       | false =>
        .ret false
      else .fail
     else .fail
    else .fail : Out Bool) := by
 kernel_rfl
noncomputable def F5 (N : Nat) (x : (((List (Int × (Int × Unit))) × (Int × (Int × Unit))) × ((List Int) × (Int × Unit)))) : Out Bool :=
 match (!(decide ((lenI x.1.1) ≤ (16 : Int)))) with
 | true =>
  match f24v () with
  | .ret r_1 =>
   .ret r_1
  | .pan p_2 =>
   .pan p_2
  | .fail => .fail
 | false =>
  match (decide ((lenI x.2.1) > (16 : Int))) with
  | true =>
   match f24v () with
   | .ret r_3 =>
    .ret r_3
   | .pan p_4 =>
    .pan p_4
   | .fail => .fail
  | false =>
   match f34v (x.1, ()) with
   | .ret r_5 =>
    match (!r_5) with
    | true =>
     match f24v () with
     | .ret r_7 =>
      .ret r_7
     | .pan p_8 =>
      .pan p_8
     | .fail => .fail
    | false =>
     match f23v (x.1, (x.2.1, ())) with
     | .ret r_9 =>
      match (!r_9) with
      | true =>
       match f24v () with
       | .ret r_11 =>
        .ret r_11
       | .pan p_12 =>
        .pan p_12
       | .fail => .fail
      | false =>
       match f35v (x.1, (x.2.2.1, ())) with
       | .ret r_13 =>
        match (!r_13) with
        | true =>
         match f24v () with
         | .ret r_15 =>
          .ret r_15
         | .pan p_16 =>
          .pan p_16
         | .fail => .fail
        | false =>
         bif (inb (IntKind.i64.wrap ((lenI x.1.1) - (1 : Int))) x.2.1.length) then
          bif (inb (0 : Int) x.2.1.length) then
           match f29v ((IntKind.i64.wrap ((List.getD x.2.1 (IntKind.i64.wrap ((lenI x.1.1) - (1 : Int))).toNat (0 : Int)) - (List.getD x.2.1 (0 : Int).toNat (0 : Int)))), ((IntKind.i64.wrap ((lenI x.1.1) - (1 : Int))), ())) with
           | .ret r_17 =>
            match (!r_17) with
            | true =>
             match f24v () with
             | .ret r_19 =>
              .ret r_19
             | .pan p_20 =>
              .pan p_20
             | .fail => .fail
            | false =>
             bif (inb (IntKind.i64.wrap ((lenI x.1.1) - (1 : Int))) x.2.1.length) then
              bif (inb (0 : Int) x.2.1.length) then
               match f28v ((IntKind.i64.wrap ((List.getD x.2.1 (IntKind.i64.wrap ((lenI x.1.1) - (1 : Int))).toNat (0 : Int)) - (List.getD x.2.1 (0 : Int).toNat (0 : Int)))), ((IntKind.i64.wrap ((lenI x.1.1) - (1 : Int))), (x.1.2.1, ()))) with
               | .ret r_21 =>
                match f25v (x.1, (([(0 : Int), (IntKind.i64.wrap ((lenI x.1.1) - (1 : Int)))] : List Int), (x.2.1, ()))) with
                | .ret r_23 =>
                 match (r_21.2.1 != (0 : Int)) with
                 | true =>
                  .ret false
                 | false =>
                  match (r_23.2.1 != (0 : Int)) with
                  | true =>
                   .ret false
                  | false =>
                   match ((lenI r_21.1) != (IntKind.i64.wrap ((IntKind.i64.wrap ((lenI x.1.1) - (1 : Int))) + (1 : Int)))) with
                   | true =>
                    .ret false
                   | false =>
                    match ((lenI r_23.1) != (IntKind.i64.wrap ((IntKind.i64.wrap ((lenI x.1.1) - (1 : Int))) + (1 : Int)))) with
                    | true =>
                     .ret false
                    | false =>
                     bif (inb (0 : Int) r_21.1.length) then
                      match ((List.getD r_21.1 (0 : Int).toNat (0 : Int)) != (0 : Int)) with
                      | true =>
                       .ret false
                      | false =>
                       bif (inb (IntKind.i64.wrap ((lenI x.1.1) - (1 : Int))) r_21.1.length) then
                        match ((List.getD r_21.1 (IntKind.i64.wrap ((lenI x.1.1) - (1 : Int))).toNat (0 : Int)) != (IntKind.i64.wrap ((List.getD x.2.1 (IntKind.i64.wrap ((lenI x.1.1) - (1 : Int))).toNat (0 : Int)) - (List.getD x.2.1 (0 : Int).toNat (0 : Int))))) with
                        | true =>
                         .ret false
                        | false =>
                         L5_0 N N x r_21 r_23 (1 : Int)
                       else .fail
                     else .fail
                | .pan p_24 =>
                 .pan p_24
                | .fail => .fail
               | .pan p_22 =>
                .pan p_22
               | .fail => .fail
              else .fail
             else .fail
           | .pan p_18 =>
            .pan p_18
           | .fail => .fail
          else .fail
         else .fail
       | .pan p_14 =>
        .pan p_14
       | .fail => .fail
     | .pan p_10 =>
      .pan p_10
     | .fail => .fail
   | .pan p_6 =>
    .pan p_6
   | .fail => .fail
theorem e5 (N : Nat) (x : (((List (Int × (Int × Unit))) × (Int × (Int × Unit))) × ((List Int) × (Int × Unit)))) : vfn Tryz.prog (phi specs5) hints5 N Tryz.f5 false false ty18 .bool x = F5 N x := by
 kernel_rfl
noncomputable def f5 (x : (((List (Int × (Int × Unit))) × (Int × (Int × Unit))) × ((List Int) × (Int × Unit)))) : Out Bool := F5 fuel x
noncomputable def sp5 : Spec := ⟨5, .call, ty18, .bool, false, false, f5⟩
theorem c5 : Contract Tryz.prog sp5 := contract_at (l := specs5) (arg := ty18) (res := .bool) (multi := false) (own := false) (F := f5) mixed (all_cons c33 (all_cons c24v (all_cons c34v (all_cons c23v (all_cons c35v (all_cons c29v (all_cons c28v (all_cons c25v all_nil)))))))) Tryz.func5 rfl hints5 fun x _ => ⟨fuel, e5 fuel x⟩
end Go.V
