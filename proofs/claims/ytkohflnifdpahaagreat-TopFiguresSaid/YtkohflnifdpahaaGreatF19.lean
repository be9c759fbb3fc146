/- A part of the proof of TopFiguresSaid: no condition beyond what each theorem says. -/
import Derived.Test.YtkohflnifdpahaaGreatF13
import Derived.Test.YtkohflnifdpahaaGreatF18
set_option linter.all false
namespace Go.V
open Go.Proofs
noncomputable def specs4 : List Spec := [sp9v, sp13, sp14, sp15, sp16, sp17, sp18, sp19, sp12]
def hints4 : List (Nat × List Nat) := [(6, [1, 2, 3, 7, 8]), (17, [2, 3, 9, 11, 13, 17, 18])]
noncomputable def L4_1 (N : Nat) (n_L4_1 : Nat) (x : (((List (Int × (Int × Unit))) × (Int × (Int × Unit))) × ((List Int) × (Int × Unit)))) (p_17 : (List (Int × (Int × Unit)))) (p_18 : Int) (p_19 : Int) (r_24 : ((List Int) × (Int × Unit))) (r_26 : ((List (Int × (Int × Unit))) × (Int × Unit))) (r_28 : ((List (Int × (Int × Unit))) × (Int × Unit))) (unit_32 : Int) (k_33 : Int) : Out Bool :=
  vloop Tryz.prog (phi specs4) hints4 N Tryz.f4 false false .bool [.at 1, .at 1, .at 1, .at 1, .at 1, .at 1, .at 1, .at 1, .at 1, .at 1, .at 1, .at 0, .at 1, .at 0] n_L4_1 [.und, .und, .d (.int .i64) x.2.2.1, .box [.d (.list (.prod (.int .i64) (.prod (.int .i64) .unit))) p_17, .d (.int .i64) p_18, .d (.int .i64) p_19], .und, .und, .und, .und, .und, .d (.list (.int .i64)) r_24.1, .und, .d (.list (.prod (.int .i64) (.prod (.int .i64) .unit))) r_26.1, .und, .d (.list (.prod (.int .i64) (.prod (.int .i64) .unit))) r_28.1, .und, .und, .und, .d (.int .i64) unit_32, .d (.int .i64) k_33, .und, .und, .und, .und, .und, .und, .und, .und, .und, .und, .und, .und, .und, .und, .und, .und, .und, .und, .und, .und, .und, .und, .und, .und, .und, .und, .und, .und, .und, .und, .und, .und, .und, .und, .und, .und, .und, .und, .und, .und, .und, .und, .und, .und, .und, .und, .und, .und, .und, .und, .und, .und, .und, .und, .und, .und, .und, .und, .und, .und, .und, .und, .und, .und, .und, .und, .und, .und, .und, .und, .und, .und, .und, .und, .und, .und, .und, .und, .und, .und, .und, .und, .und, .und, .und, .und, .und, .und, .und, .und, .und, .und, .und, .und, .und, .und, .und, .und, .und, .und, .und, .und, .und, .und, .und, .und, .und, .und, .und, .und, .und, .und, .und, .und, .und, .und, .und, .und, .und, .und, .und, .und, .und, .und, .und, .und, .und, .und, .und, .und, .und, .und, .und, .und, .und, .und, .und, .und, .und, .und, .und, .und, .und, .und, .und, .und, .und, .und, .und, .und, .und, .und, .und, .und, .und, .und, .und, .und, .und, .und, .und, .und, .und, .und, .und, .und, .und, .und, .und, .und, .und, .und]
noncomputable def L4_0 (N : Nat) (n_L4_0 : Nat) (x : (((List (Int × (Int × Unit))) × (Int × (Int × Unit))) × ((List Int) × (Int × Unit)))) (p_17 : (List (Int × (Int × Unit)))) (p_18 : Int) (p_19 : Int) (x_20 : (List (Int × (Int × Unit)))) (x_21 : Int) (x_22 : Int) (i_23 : Int) : Out Bool :=
  vloop Tryz.prog (phi specs4) hints4 N Tryz.f4 false false .bool [.at 1, .at 1, .at 1, .at 1, .at 0, .at 1, .at 0] n_L4_0 [.und, .d (.list (.int .i64)) x.2.1, .d (.int .i64) x.2.2.1, .box [.d (.list (.prod (.int .i64) (.prod (.int .i64) .unit))) p_17, .d (.int .i64) p_18, .d (.int .i64) p_19], .und, .und, .und, .box [.own (.prod (.int .i64) (.prod (.int .i64) .unit)) x_20 false, .d (.int .i64) x_21, .d (.int .i64) x_22], .d (.int .i64) i_23, .und, .und, .und, .und, .und, .und, .und, .und, .und, .und, .und, .und, .und, .und, .und, .und, .und, .und, .und, .und, .und, .und, .und, .und, .und, .und, .und, .und, .und, .und, .und, .und, .und, .und, .und, .und, .und, .und, .und, .und, .und, .und, .und, .und, .und, .und, .und, .und, .und, .und, .und, .und, .und, .und, .und, .und, .und, .und, .und, .und, .und, .und, .und, .und, .und, .und, .und, .und, .und, .und, .und, .und, .und, .und, .und, .und, .und, .und, .und, .und, .und, .und, .und, .und, .und, .und, .und, .und, .und, .und, .und, .und, .und, .und, .und, .und, .und, .und, .und, .und, .und, .und, .und, .und, .und, .und, .und, .und, .und, .und, .und, .und, .und, .und, .und, .und, .und, .und, .und, .und, .und, .und, .und, .und, .und, .und, .und, .und, .und, .und, .und, .und, .und, .und, .und, .und, .und, .und, .und, .und, .und, .und, .und, .und, .und, .und, .und, .und, .und, .und, .und, .und, .und, .und, .und, .und, .und, .und, .und, .und, .und, .und, .und, .und, .und, .und, .und, .und, .und, .und, .und, .und, .und, .und, .und, .und, .und, .und, .und, .und, .und, .und]
theorem L4_1_succ (N : Nat) (n_L4_1 : Nat) (x : (((List (Int × (Int × Unit))) × (Int × (Int × Unit))) × ((List Int) × (Int × Unit)))) (p_17 : (List (Int × (Int × Unit)))) (p_18 : Int) (p_19 : Int) (r_24 : ((List Int) × (Int × Unit))) (r_26 : ((List (Int × (Int × Unit))) × (Int × Unit))) (r_28 : ((List (Int × (Int × Unit))) × (Int × Unit))) (unit_32 : Int) (k_33 : Int) : L4_1 N  (n_L4_1 + 1) x p_17 p_18 p_19 r_24 r_26 r_28 unit_32 k_33 =
    (
    match (decide (k_33 < p_19)) with
    | true =>
      L4_1 N n_L4_1 x p_17 p_18 p_19 r_24 r_26 r_28 (IntKind.i64.wrap (unit_32 * (10 : Int))) (IntKind.i64.wrap (k_33 + (1 : Int)))
    | false =>
      bif (inb x.2.2.1 r_24.1.length) then
        match f12 ((List.getD r_24.1 x.2.2.1.toNat (0 : Int)), (unit_32, ((3 : Int), ()))) with
        | .ret r_34 =>
          match r_34.2.1 with
          | true =>
            bif (inb x.2.2.1 r_26.1.length) then
              match (eqI ((List.getD r_26.1 x.2.2.1.toNat ((0 : Int), ((0 : Int), ())))).1 r_34.1 && (eqI ((List.getD r_26.1 x.2.2.1.toNat ((0 : Int), ((0 : Int), ())))).2.1 r_34.1 && true)) with
              | true =>
                bif (inb x.2.2.1 r_28.1.length) then
                  match (decide (r_34.1 ≥ ((List.getD r_28.1 x.2.2.1.toNat ((0 : Int), ((0 : Int), ())))).1)) with
                  | true =>
                    bif (inb x.2.2.1 r_28.1.length) then
                      match (decide (r_34.1 ≤ ((List.getD r_28.1 x.2.2.1.toNat ((0 : Int), ((0 : Int), ())))).2.1)) with
                      | true =>
                        match f9v () with
                        | .ret r_36 =>
                          .ret r_36
                        | .pan p_37 =>
                          .pan p_37
                        | .fail => .fail
                      | false =>
                        .ret false
                    else .fail
                  | false =>
                    .ret false
                else .fail
              | false =>
                .ret false
            else .fail
          | false =>
            .ret false
        | .pan p_35 =>
          .pan p_35
        | .fail => .fail
      else .fail : Out Bool) := by
  kernel_rfl
theorem L4_0_succ (N : Nat) (n_L4_0 : Nat) (x : (((List (Int × (Int × Unit))) × (Int × (Int × Unit))) × ((List Int) × (Int × Unit)))) (p_17 : (List (Int × (Int × Unit)))) (p_18 : Int) (p_19 : Int) (x_20 : (List (Int × (Int × Unit)))) (x_21 : Int) (x_22 : Int) (i_23 : Int) : L4_0 N  (n_L4_0 + 1) x p_17 p_18 p_19 x_20 x_21 x_22 i_23 =
    (
    match (decide (i_23 < (lenI x.2.1))) with
    | true =>
      bif (inb i_23 x.2.1.length) then
        bif (fits x_20 ([((List.getD x.2.1 i_23.toNat (0 : Int)), ((List.getD x.2.1 i_23.toNat (0 : Int)), ()))] : List (Int × (Int × Unit)))) then
          L4_0 N n_L4_0 x p_17 p_18 p_19 (x_20 ++ ([((List.getD x.2.1 i_23.toNat (0 : Int)), ((List.getD x.2.1 i_23.toNat (0 : Int)), ()))] : List (Int × (Int × Unit)))) x_21 x_22 (IntKind.i64.wrap (i_23 + (1 : Int)))
        else .fail
      else .fail
    | false =>
      match f17 ((p_17, (p_18, (p_19, ()))), (x.2.1, ())) with
      | .ret r_24 =>
        match f18 ((x_20, (x_21, (x_22, ()))), ()) with
        | .ret r_26 =>
          match f18 ((p_17, (p_18, (p_19, ()))), ()) with
          | .ret r_28 =>
            match f19 ((x_20, (x_21, (x_22, ()))), ()) with
            | .ret r_30 =>
              match (r_24.2.1 != (0 : Int)) with
              | true =>
                .ret false
              | false =>
                match (r_26.2.1 != (0 : Int)) with
                | true =>
                  .ret false
                | false =>
                  match (r_28.2.1 != (0 : Int)) with
                  | true =>
                    .ret false
                  | false =>
                    match (r_30.2.1 != (0 : Int)) with
                    | true =>
                      .ret false
                    | false =>
                      match ((lenI r_24.1) != p_18) with
                      | true =>
                        .ret false
                      | false =>
                        match ((lenI r_26.1) != p_18) with
                        | true =>
                          .ret false
                        | false =>
                          match ((lenI r_28.1) != p_18) with
                          | true =>
                            .ret false
                          | false =>
                            match ((lenI r_30.1) != p_18) with
                            | true =>
                              .ret false
                            | false =>
                              bif (inb x.2.2.1 r_24.1.length) then
                                match (decide ((List.getD r_24.1 x.2.2.1.toNat (0 : Int)) < (-1099511627776 : Int))) with
                                | true =>
                                  .ret false
                                | false =>
                                  bif (inb x.2.2.1 r_24.1.length) then
                                    match (decide ((List.getD r_24.1 x.2.2.1.toNat (0 : Int)) > (1099511627776 : Int))) with
                                    | true =>
                                      .ret false
                                    | false =>
                                      L4_1 N N x p_17 p_18 p_19 r_24 r_26 r_28 (1 : Int) (0 : Int)
                                  else .fail
                              else .fail
            | .pan p_31 =>
              .pan p_31
            | .fail => .fail
          | .pan p_29 =>
            .pan p_29
          | .fail => .fail
        | .pan p_27 =>
          .pan p_27
        | .fail => .fail
      | .pan p_25 =>
        .pan p_25
      | .fail => .fail : Out Bool) := by
  kernel_rfl
noncomputable def F4 (N : Nat) (x : (((List (Int × (Int × Unit))) × (Int × (Int × Unit))) × ((List Int) × (Int × Unit)))) : Out Bool :=
  match (decide ((lenI x.1.1) > (6 : Int))) with
  | true =>
    match f9v () with
    | .ret r_1 =>
      .ret r_1
    | .pan p_2 =>
      .pan p_2
    | .fail => .fail
  | false =>
    match (decide ((lenI x.2.1) > (6 : Int))) with
    | true =>
      match f9v () with
      | .ret r_3 =>
        .ret r_3
      | .pan p_4 =>
        .pan p_4
      | .fail => .fail
    | false =>
      match f13 (x.1, ()) with
      | .ret r_5 =>
        match (!r_5) with
        | true =>
          match f9v () with
          | .ret r_7 =>
            .ret r_7
          | .pan p_8 =>
            .pan p_8
          | .fail => .fail
        | false =>
          match f14 (x.1, (x.2.1, ())) with
          | .ret r_9 =>
            match (!r_9) with
            | true =>
              match f9v () with
              | .ret r_11 =>
                .ret r_11
              | .pan p_12 =>
                .pan p_12
              | .fail => .fail
            | false =>
              match f15 (x.1, (x.2.2.1, ())) with
              | .ret r_13 =>
                match (!r_13) with
                | true =>
                  match f9v () with
                  | .ret r_15 =>
                    .ret r_15
                  | .pan p_16 =>
                    .pan p_16
                  | .fail => .fail
                | false =>
                  L4_0 N N x x.1.1 x.1.2.1 x.1.2.2.1 ([] : List (Int × (Int × Unit))) x.1.2.1 x.1.2.2.1 (0 : Int)
              | .pan p_14 =>
                .pan p_14
              | .fail => .fail
          | .pan p_10 =>
            .pan p_10
          | .fail => .fail
      | .pan p_6 =>
        .pan p_6
      | .fail => .fail
theorem e4 (N : Nat) (x : (((List (Int × (Int × Unit))) × (Int × (Int × Unit))) × ((List Int) × (Int × Unit)))) : vfn Tryz.prog (phi specs4) hints4 N Tryz.f4 false false (.prod (.prod (.list (.prod (.int .i64) (.prod (.int .i64) .unit))) (.prod (.int .i64) (.prod (.int .i64) .unit))) (.prod (.list (.int .i64)) (.prod (.int .i64) .unit))) .bool x = F4 N x := by
  kernel_rfl
noncomputable def f4 (x : (((List (Int × (Int × Unit))) × (Int × (Int × Unit))) × ((List Int) × (Int × Unit)))) : Out Bool := F4 fuel x
noncomputable def sp4 : Spec := ⟨4, .call, (.prod (.prod (.list (.prod (.int .i64) (.prod (.int .i64) .unit))) (.prod (.int .i64) (.prod (.int .i64) .unit))) (.prod (.list (.int .i64)) (.prod (.int .i64) .unit))), .bool, false, false, f4⟩
theorem c4 : Contract Tryz.prog sp4 := contract_at (l := specs4) (arg := (.prod (.prod (.list (.prod (.int .i64) (.prod (.int .i64) .unit))) (.prod (.int .i64) (.prod (.int .i64) .unit))) (.prod (.list (.int .i64)) (.prod (.int .i64) .unit)))) (res := .bool) (multi := false) (own := false) (F := f4) mixed (all_cons c9v (all_cons c13 (all_cons c14 (all_cons c15 (all_cons c16 (all_cons c17 (all_cons c18 (all_cons c19 (all_cons c12 all_nil))))))))) Tryz.func4 rfl hints4 fun x _ => ⟨fuel, e4 fuel x⟩
end Go.V
