/- A part of the proof of a law of the step table. -/
import Derived.Test.YtpnilbemlgbokaaGreatDoorS7k
import Derived.Test.YtpnilbemlgbokaaGreatDoorSX
set_option linter.all false
namespace Go.V
open Go.Proofs
noncomputable def specs17 : List Spec := [sp24v, sp63, sp34v, sp53v, sp49v, sp43v, sp31v]
def hints17 : List (Nat × List Nat) := [(5, [0, 1, 2, 9, 10])]
noncomputable def L17_0 (N : Nat) (n_L17_0 : Nat) (x : (Int × (Int × (Int × (Int × Unit))))) (t_13 : (List (Int × (Int × Unit)))) (t_14 : Int) (t_15 : Int) (i_16 : Int) : Out Bool :=
 vloop Tryz.prog (phi specs17) hints17 N Tryz.f17 false false .bool [.at 1, .at 1, .at 1, .at 0, .at 1, .at 0] n_L17_0 [.d (.int .i64) x.1, .d (.int .i64) x.2.1, .d (.int .i64) x.2.2.1, .und, .und, .und, .und, .und, .und, .box [.own ty3 t_13 false, .d (.int .i64) t_14, .d (.int .i64) t_15], .d (.int .i64) i_16, .und, .und, .und, .und, .und, .und, .und, .und, .und, .und, .und, .und, .und, .und, .und, .und, .und, .und, .und, .und, .und, .und, .und, .und, .und, .und, .und, .und, .und, .und, .und, .und, .und, .und, .und, .und, .und, .und, .und, .und, .und, .und, .und, .und, .und, .und, .und, .und, .und, .und, .und, .und, .und, .und, .und, .und, .und, .und, .und, .und, .und, .und, .und, .und, .und, .und, .und, .und, .und, .und, .und, .und, .und, .und, .und, .und, .und, .und, .und, .und, .und, .und, .und, .und, .und, .und, .und, .und, .und, .und, .und, .und, .und, .und, .und, .und, .und, .und, .und]
theorem L17_0_succ (N : Nat) (n_L17_0 : Nat) (x : (Int × (Int × (Int × (Int × Unit))))) (t_13 : (List (Int × (Int × Unit)))) (t_14 : Int) (t_15 : Int) (i_16 : Int) : L17_0 N  (n_L17_0 + 1) x t_13 t_14 t_15 i_16 =
  (
  match (decide (i_16 < x.2.2.1)) with
  | true =>
   bif (fits t_13 ([((IntKind.i64.wrap (x.1 + (IntKind.i64.wrap (i_16 * x.2.1)))), ((IntKind.i64.wrap (x.1 + (IntKind.i64.wrap (i_16 * x.2.1)))), ()))] : List (Int × (Int × Unit)))) then
    L17_0 N n_L17_0 x (t_13 ++ ([((IntKind.i64.wrap (x.1 + (IntKind.i64.wrap (i_16 * x.2.1)))), ((IntKind.i64.wrap (x.1 + (IntKind.i64.wrap (i_16 * x.2.1)))), ()))] : List (Int × (Int × Unit)))) t_14 t_15 (IntKind.i64.wrap (i_16 + (1 : Int)))
   else .fail
  | false =>
   match f34v ((t_13, (t_14, (t_15, ()))), ()) with
   | .ret r_17 =>
    match (!r_17) with
    | true =>
     match f24v () with
     | .ret r_19 =>
      .ret r_19
     | .pan p_20 =>
      .pan p_20
     | .fail => .fail
    | false =>
     match f53v ((t_13, (t_14, (t_15, ()))), ()) with
     | .ret r_21 =>
      match f49v ((t_13, (t_14, (t_15, ()))), ()) with
      | .ret r_23 =>
       match f43v ((t_13, (t_14, (t_15, ()))), (([(0 : Int), (IntKind.i64.wrap (x.2.2.1 - (1 : Int)))] : List Int), ())) with
       | .ret r_25 =>
        match (r_21.2.1 == (0 : Int)) with
        | true =>
         match f31v (r_21.1, (([(0 : Int), (IntKind.i64.wrap (x.2.2.1 - (1 : Int)))] : List Int), ())) with
         | .ret r_27 =>
          match r_27 with
          | true =>
           match (r_23.2.1 == (0 : Int)) with
           | true =>
            match (r_23.1 == (IntKind.i64.wrap (x.2.2.1 - (1 : Int)))) with
            | true =>
             match (r_25.2.1 == (0 : Int)) with
             | true =>
              match (r_25.1 == (0 : Int)) with
              | true =>
               match f24v () with
               | .ret r_29 =>
                .ret r_29
               | .pan p_30 =>
                .pan p_30
               | .fail => .fail
              | false =>
               .ret false
             | false =>
              .ret false
            | false =>
             .ret false
           | false =>
            .ret false
          | false =>
           .ret false
         | .pan p_28 =>
          .pan p_28
         | .fail => .fail
        | false =>
         .ret false
       | .pan p_26 =>
        .pan p_26
       | .fail => .fail
      | .pan p_24 =>
       .pan p_24
      | .fail => .fail
     | .pan p_22 =>
      .pan p_22
     | .fail => .fail
   | .pan p_18 =>
    .pan p_18
   | .fail => .fail : Out Bool) := by
 kernel_rfl
noncomputable def F17 (N : Nat) (x : (Int × (Int × (Int × (Int × Unit))))) : Out Bool :=
 match (decide (x.1 < (-9999 : Int))) with
 | true =>
  match f24v () with
  | .ret r_1 =>
   .ret r_1
  | .pan p_2 =>
   .pan p_2
  | .fail => .fail
 | false =>
  match (decide (x.1 > (9999 : Int))) with
  | true =>
   match f24v () with
   | .ret r_3 =>
    .ret r_3
   | .pan p_4 =>
    .pan p_4
   | .fail => .fail
  | false =>
   match (decide (x.2.1 < (-9999 : Int))) with
   | true =>
    match f24v () with
    | .ret r_5 =>
     .ret r_5
    | .pan p_6 =>
     .pan p_6
    | .fail => .fail
   | false =>
    match (decide (x.2.1 > (9999 : Int))) with
    | true =>
     match f24v () with
     | .ret r_7 =>
      .ret r_7
     | .pan p_8 =>
      .pan p_8
     | .fail => .fail
    | false =>
     match (decide (x.2.2.1 < (2 : Int))) with
     | true =>
      match f24v () with
      | .ret r_9 =>
       .ret r_9
      | .pan p_10 =>
       .pan p_10
      | .fail => .fail
     | false =>
      match (decide (x.2.2.1 > (13 : Int))) with
      | true =>
       match f24v () with
       | .ret r_11 =>
        .ret r_11
       | .pan p_12 =>
        .pan p_12
       | .fail => .fail
      | false =>
       L17_0 N N x ([] : List (Int × (Int × Unit))) x.2.2.2.1 (0 : Int) (0 : Int)
theorem e17 (N : Nat) (x : (Int × (Int × (Int × (Int × Unit))))) : vfnCut Tryz.prog (phi specs17) hints17 N g317 [1, 1, 0] Tryz.f17 false false (.prod (.int .i64) (.prod (.int .i64) (.prod (.int .i64) (.prod (.int .i64) .unit)))) .bool x = F17 N x := by
 kernel_rfl
noncomputable def f17 (x : (Int × (Int × (Int × (Int × Unit))))) : Out Bool := F17 fuel x
noncomputable def sp17 : Spec := ⟨17, .call, (.prod (.int .i64) (.prod (.int .i64) (.prod (.int .i64) (.prod (.int .i64) .unit)))), .bool, false, false, f17⟩
theorem c17 : Contract Tryz.prog sp17 := contract_cut (l := specs17) (arg := (.prod (.int .i64) (.prod (.int .i64) (.prod (.int .i64) (.prod (.int .i64) .unit))))) (res := .bool) (multi := false) (own := false) (F := f17) mixed (all_cons c24v (all_cons c63 (all_cons c34v (all_cons c53v (all_cons c49v (all_cons c43v (all_cons c31v all_nil))))))) (c := bodyOf Tryz.f17) (r := .region 3 reg317 false) Tryz.func17 (by kernel_rfl) (g := g317) (path := [1, 1, 0]) (by kernel_rfl) reg317_ok hints17 fun x _ => ⟨fuel, e17 fuel x⟩
end Go.V
