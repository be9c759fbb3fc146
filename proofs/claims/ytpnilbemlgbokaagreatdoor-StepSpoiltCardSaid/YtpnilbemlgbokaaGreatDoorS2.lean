/- A part of the proof of a law of the step table. -/
import Derived.Test.YtpnilbemlgbokaaGreatDoorSD
import Derived.Test.YtpnilbemlgbokaaGreatDoorSE
set_option linter.all false
namespace Go.V
open Go.Proofs
noncomputable def specs59 : List Spec := [sp77, sp78, sp108, sp110a, sp109, sp80, sp92, sp111a]
def hints59 : List (Nat × List Nat) := [(5, [1, 2, 7, 24, 25])]
noncomputable def L59_0 (N : Nat) (n_L59_0 : Nat) (x : (((List (Int × (Int × Unit))) × (Int × (Int × Unit))) × ((List Int) × Unit))) (l_5 : (List (Int × (Int × Unit)))) (t25_6 : Int) : Out (Int × (Int × (Int × Unit))) :=
 vloop Tryz.prog (phi specs59) hints59 N Tryz.f59 true false ty5 [.at 1, .at 1, .at 1, .at 0, .at 1, .at 0] n_L59_0 [.und, .d (.list (.int .i64)) x.2.1, .box [.d ty2 x.1.1, .d (.int .i64) x.1.2.1, .d (.int .i64) x.1.2.2.1], .und, .und, .und, .und, .own ty3 l_5 false, .und, .und, .und, .und, .und, .und, .und, .und, .und, .und, .und, .und, .und, .und, .und, .und, .d (.int .i64) (lenI x.1.1), .d (.int .i64) t25_6, .und, .und, .und, .und, .und, .und, .und, .und, .und, .und, .und, .und, .und, .und, .und, .und, .und, .und, .und, .und, .und, .und, .und, .und, .und, .und, .und, .und, .und, .und, .und, .und, .und, .und, .und, .und, .und]
theorem L59_0_succ (N : Nat) (n_L59_0 : Nat) (x : (((List (Int × (Int × Unit))) × (Int × (Int × Unit))) × ((List Int) × Unit))) (l_5 : (List (Int × (Int × Unit)))) (t25_6 : Int) : L59_0 N  (n_L59_0 + 1) x l_5 t25_6 =
  (
  match (decide (t25_6 < (lenI x.1.1))) with
  | true =>
   match f108 (x.2.1, (t25_6, ())) with
   | .ret r_7 =>
    match (!r_7.2.1) with
    | true =>
     match f110 (x.2.1, ()) with
     | .ret r_9 =>
      match f109 (r_9, (r_7.1, (([t25_6] : List Int), ()))) with
      | .ret r_11 =>
       match f92 ((x.1, (r_11, ((), ()))), ()) with
       | .ret r_13 =>
        bif (fits l_5 ([(t25_6, ((lenI r_13), ()))] : List (Int × (Int × Unit)))) then
         L59_0 N n_L59_0 x (l_5 ++ ([(t25_6, ((lenI r_13), ()))] : List (Int × (Int × Unit)))) (IntKind.i64.wrap (t25_6 + (1 : Int)))
        else .fail
       | .pan p_14 =>
        .pan p_14
       | .fail => .fail
      | _ => .fail
     | .pan p_10 =>
      .pan p_10
     | .fail => .fail
    | false =>
     L59_0 N n_L59_0 x l_5 (IntKind.i64.wrap (t25_6 + (1 : Int)))
   | .pan p_8 =>
    .pan p_8
   | .fail => .fail
  | false =>
   match f111a (l_5, ((Value.func (.func 112) #[] #[]), ())) with
   | .ret r_15 =>
    match (!r_15.2.1) with
    | true =>
     .ret ((0 : Int), ((0 : Int), ((5 : Int), ())))
    | false =>
     .ret (r_15.1.1, (r_15.1.2.1, ((0 : Int), ())))
   | .pan p_16 =>
    .pan p_16
   | .fail => .fail : Out (Int × (Int × (Int × Unit)))) := by
 kernel_rfl
noncomputable def F59 (N : Nat) (x : (((List (Int × (Int × Unit))) × (Int × (Int × Unit))) × ((List Int) × Unit))) : Out (Int × (Int × (Int × Unit))) :=
 match f77 (x.1, ()) with
 | .ret r_1 =>
  match (!r_1) with
  | true =>
   .ret ((0 : Int), ((0 : Int), ((2 : Int), ())))
  | false =>
   match f78 (x.1, (x.2.1, ())) with
   | .ret r_3 =>
    match (!r_3) with
    | true =>
     .ret ((0 : Int), ((0 : Int), ((2 : Int), ())))
    | false =>
     L59_0 N N x ([] : List (Int × (Int × Unit))) (0 : Int)
   | .pan p_4 =>
    .pan p_4
   | .fail => .fail
 | .pan p_2 =>
  .pan p_2
 | .fail => .fail
theorem e59 (N : Nat) (x : (((List (Int × (Int × Unit))) × (Int × (Int × Unit))) × ((List Int) × Unit))) : vfn Tryz.prog (phi specs59) hints59 N Tryz.f59 true false ty0 ty5 x = F59 N x := by
 kernel_rfl
noncomputable def f59 (x : (((List (Int × (Int × Unit))) × (Int × (Int × Unit))) × ((List Int) × Unit))) : Out (Int × (Int × (Int × Unit))) := F59 fuel x
noncomputable def sp59 : Spec := ⟨59, .call, ty0, ty5, true, false, f59⟩
theorem c59 : Contract Tryz.prog sp59 := contract_at (l := specs59) (arg := ty0) (res := ty5) (multi := true) (own := false) (F := f59) mixed (all_cons c77 (all_cons c78 (all_cons c108 (all_cons c110a (all_cons c109 (all_cons c80 (all_cons c92 (all_cons c111a all_nil)))))))) Tryz.func59 rfl hints59 fun x _ => ⟨fuel, e59 fuel x⟩
noncomputable def specs81 : List Spec := [sp110a, sp99, sp125]
def hints81 : List (Nat × List Nat) := [(3, [1, 2, 5, 11, 12])]
noncomputable def L81_0 (N : Nat) (n_L81_0 : Nat) (x : ((((List (Int × (Int × Unit))) × (Int × (Int × Unit))) × ((List Int) × (Unit × Unit))) × ((List Int) × Unit))) (t_3 : (List (Int × (Int × Unit)))) (t_4 : Int) (t_5 : Int) (t_6 : (List Int)) (t_7 : Unit) (out_8 : (List Int)) (t12_9 : Int) : Out (List Int) :=
 vloop Tryz.prog (phi specs81) hints81 N Tryz.f81 false true (.list (.int .i64)) [.at 1, .at 1, .at 0, .at 1, .at 0] n_L81_0 [.und, .d (.list (.int .i64)) x.2.1, .box [.d ty2 t_3, .d (.int .i64) t_4, .d (.int .i64) t_5, .d (.list (.int .i64)) t_6, .d .opq t_7], .und, .und, .arr (.int .i64) out_8 false, .und, .und, .und, .und, .und, .d (.int .i64) (lenI x.2.1), .d (.int .i64) t12_9, .und, .und, .und, .und, .und, .und, .und, .und, .und, .und, .und, .und, .und, .und, .und, .und, .und, .und, .und, .und, .und, .und, .und, .und, .und, .und, .und, .und, .und]
theorem L81_0_succ (N : Nat) (n_L81_0 : Nat) (x : ((((List (Int × (Int × Unit))) × (Int × (Int × Unit))) × ((List Int) × (Unit × Unit))) × ((List Int) × Unit))) (t_3 : (List (Int × (Int × Unit)))) (t_4 : Int) (t_5 : Int) (t_6 : (List Int)) (t_7 : Unit) (out_8 : (List Int)) (t12_9 : Int) : L81_0 N  (n_L81_0 + 1) x t_3 t_4 t_5 t_6 t_7 out_8 t12_9 =
  (
  match (decide (t12_9 < (lenI x.2.1))) with
  | true =>
   match f99 (((t_3, (t_4, (t_5, ()))), (t_6, (t_7, ()))), (t12_9, ())) with
   | .ret r_10 =>
    match (decide (r_10.1 < r_10.2.1)) with
    | true =>
     bif (inb r_10.1 x.2.1.length) then
      bif (inb r_10.2.1 x.2.1.length) then
       match f125 (((t_3, (t_4, (t_5, ()))), (t_6, (t_7, ()))), (r_10, ((List.getD x.2.1 r_10.1.toNat (0 : Int)), ((List.getD x.2.1 r_10.2.1.toNat (0 : Int)), (t12_9, ()))))) with
       | .ret r_12 =>
        bif (inb t12_9 out_8.length) then
         bif (decide ((t12_9.toNat) < out_8.length)) then
          L81_0 N n_L81_0 x t_3 t_4 t_5 t_6 t_7 (List.set out_8 (t12_9.toNat) r_12) (IntKind.i64.wrap (t12_9 + (1 : Int)))
         else .fail
        else .fail
       | .pan p_13 =>
        .pan p_13
       | .fail => .fail
      else .fail
     else .fail
    | false =>
     L81_0 N n_L81_0 x t_3 t_4 t_5 t_6 t_7 out_8 (IntKind.i64.wrap (t12_9 + (1 : Int)))
   | .pan p_11 =>
    .pan p_11
   | .fail => .fail
  | false =>
   .ret out_8 : Out (List Int)) := by
 kernel_rfl
noncomputable def F81 (N : Nat) (x : ((((List (Int × (Int × Unit))) × (Int × (Int × Unit))) × ((List Int) × (Unit × Unit))) × ((List Int) × Unit))) : Out (List Int) :=
 match f110 (x.2.1, ()) with
 | .ret r_1 =>
  L81_0 N N x x.1.1.1 x.1.1.2.1 x.1.1.2.2.1 x.1.2.1 x.1.2.2.1 r_1 (0 : Int)
 | .pan p_2 =>
  .pan p_2
 | .fail => .fail
theorem e81 (N : Nat) (x : ((((List (Int × (Int × Unit))) × (Int × (Int × Unit))) × ((List Int) × (Unit × Unit))) × ((List Int) × Unit))) : vfn Tryz.prog (phi specs81) hints81 N Tryz.f81 false true ty26 (.list (.int .i64)) x = F81 N x := by
 kernel_rfl
noncomputable def f81 (x : ((((List (Int × (Int × Unit))) × (Int × (Int × Unit))) × ((List Int) × (Unit × Unit))) × ((List Int) × Unit))) : Out (List Int) := F81 fuel x
noncomputable def sp81 : Spec := ⟨81, .call, ty26, (.list (.int .i64)), false, true, f81⟩
theorem c81 : Contract Tryz.prog sp81 := contract_at (l := specs81) (arg := ty26) (res := (.list (.int .i64))) (multi := false) (own := true) (F := f81) mixed (all_cons c110a (all_cons c99 (all_cons c125 all_nil))) Tryz.func81 rfl hints81 fun x _ => ⟨fuel, e81 fuel x⟩
noncomputable def specs82 : List Spec := [sp81, sp126]
def hints82 : List (Nat × List Nat) := [(2, [1, 2, 9, 10, 11])]
noncomputable def L82_0 (N : Nat) (n_L82_0 : Nat) (x : ((((List (Int × (Int × Unit))) × (Int × (Int × Unit))) × ((List Int) × (Unit × Unit))) × ((List Int) × Unit))) (r_1 : (List Int)) (t9_3 : (List Int)) (t11_4 : Int) : Out Bool :=
 vloop Tryz.prog (phi specs82) hints82 N Tryz.f82 false false .bool [.at 1, .at 0, .at 1, .at 0] n_L82_0 [.und, .d (.list (.int .i64)) x.2.1, .box [.d ty2 x.1.1.1, .d (.int .i64) x.1.1.2.1, .d (.int .i64) x.1.1.2.2.1, .d (.list (.int .i64)) x.1.2.1, .d .opq x.1.2.2.1], .und, .und, .und, .und, .und, .und, .own (.int .i64) t9_3 false, .d (.int .i64) (lenI r_1), .d (.int .i64) t11_4, .und, .und, .und, .und, .und, .und, .und, .und, .und, .und, .und, .und, .und, .und, .und]
theorem L82_0_succ (N : Nat) (n_L82_0 : Nat) (x : ((((List (Int × (Int × Unit))) × (Int × (Int × Unit))) × ((List Int) × (Unit × Unit))) × ((List Int) × Unit))) (r_1 : (List Int)) (t9_3 : (List Int)) (t11_4 : Int) : L82_0 N  (n_L82_0 + 1) x r_1 t9_3 t11_4 =
  (
  match (decide (t11_4 < (lenI r_1))) with
  | true =>
   bif (inb t11_4 t9_3.length) then
    bif (inb t11_4 x.2.1.length) then
     match (decide ((if (IntKind.i64.wrap ((List.getD x.2.1 t11_4.toNat (0 : Int)) - (List.getD t9_3 t11_4.toNat (0 : Int)))) > (IntKind.i64.wrap ((List.getD t9_3 t11_4.toNat (0 : Int)) - (List.getD x.2.1 t11_4.toNat (0 : Int)))) then (IntKind.i64.wrap ((List.getD x.2.1 t11_4.toNat (0 : Int)) - (List.getD t9_3 t11_4.toNat (0 : Int)))) else (IntKind.i64.wrap ((List.getD t9_3 t11_4.toNat (0 : Int)) - (List.getD x.2.1 t11_4.toNat (0 : Int))))) > x.1.1.2.2.1)) with
     | true =>
      .ret false
     | false =>
      L82_0 N n_L82_0 x r_1 t9_3 (IntKind.i64.wrap (t11_4 + (1 : Int)))
    else .fail
   else .fail
  | false =>
   .ret true : Out Bool) := by
 kernel_rfl
noncomputable def F82 (N : Nat) (x : ((((List (Int × (Int × Unit))) × (Int × (Int × Unit))) × ((List Int) × (Unit × Unit))) × ((List Int) × Unit))) : Out Bool :=
 match f81 (x.1, (x.2.1, ())) with
 | .ret r_1 =>
  L82_0 N N x r_1 r_1 (0 : Int)
 | .pan p_2 =>
  .pan p_2
 | .fail => .fail
theorem e82 (N : Nat) (x : ((((List (Int × (Int × Unit))) × (Int × (Int × Unit))) × ((List Int) × (Unit × Unit))) × ((List Int) × Unit))) : vfn Tryz.prog (phi specs82) hints82 N Tryz.f82 false false ty26 .bool x = F82 N x := by
 kernel_rfl
noncomputable def f82 (x : ((((List (Int × (Int × Unit))) × (Int × (Int × Unit))) × ((List Int) × (Unit × Unit))) × ((List Int) × Unit))) : Out Bool := F82 fuel x
noncomputable def sp82 : Spec := ⟨82, .call, ty26, .bool, false, false, f82⟩
theorem c82 : Contract Tryz.prog sp82 := contract_at (l := specs82) (arg := ty26) (res := .bool) (multi := false) (own := false) (F := f82) mixed (all_cons c81 (all_cons c126 all_nil)) Tryz.func82 rfl hints82 fun x _ => ⟨fuel, e82 fuel x⟩
noncomputable def specs90 : List Spec := [sp115]
def hints90 : List (Nat × List Nat) := []
noncomputable def F90 (N : Nat) (x : ((((List (Int × (Int × Unit))) × (Int × (Int × Unit))) × ((List Int) × (Unit × Unit))) × Unit)) : Out Bool :=
 match f115 ((x.1, ()), ()) with
 | .ret r_1 =>
  .ret (r_1 == (0 : Int))
 | .pan p_2 =>
  .pan p_2
 | .fail => .fail
theorem e90 (N : Nat) (x : ((((List (Int × (Int × Unit))) × (Int × (Int × Unit))) × ((List Int) × (Unit × Unit))) × Unit)) : vfn Tryz.prog (phi specs90) hints90 N Tryz.f90 false false ty13 .bool x = F90 N x := by
 kernel_rfl
noncomputable def f90 (x : ((((List (Int × (Int × Unit))) × (Int × (Int × Unit))) × ((List Int) × (Unit × Unit))) × Unit)) : Out Bool := F90 fuel x
noncomputable def sp90 : Spec := ⟨90, .call, ty13, .bool, false, false, f90⟩
theorem c90 : Contract Tryz.prog sp90 := contract_at (l := specs90) (arg := ty13) (res := .bool) (multi := false) (own := false) (F := f90) mixed (all_cons c115 all_nil) Tryz.func90 rfl hints90 fun x _ => ⟨fuel, e90 fuel x⟩
noncomputable def specs95 : List Spec := [sp99, sp136a, sp125, sp126]
def hints95 : List (Nat × List Nat) := [(5, [1, 2, 5, 6, 7, 8, 9]), (8, [1, 2, 5, 6, 7, 8, 9]), (11, [1, 2, 5, 6, 7, 8, 9])]
noncomputable def L95_2 (N : Nat) (n_L95_0 : Nat) (n_L95_1 : Nat) (n_L95_2 : Nat) (x : ((((List (Int × (Int × Unit))) × (Int × (Int × Unit))) × ((List Int) × (Unit × Unit))) × (Int × Unit))) (t_33 : (List (Int × (Int × Unit)))) (t_34 : Int) (t_35 : Int) (t_36 : (List Int)) (t_37 : Unit) (p_38 : Int) (p_39 : Int) (from_40 : Int) (from_41 : Int) (own_42 : Int) (own_43 : Int) (to_44 : Int) (to_45 : Int) (out_46 : (List Int)) : Out (List Int) :=
 vloop Tryz.prog (phi specs95) hints95 N Tryz.f95 false true (.list (.int .i64)) [.at 1, .at 1, .at 1, .at 1, .at 0, .at 1, .at 0, .at n_L95_0, .at 1, .at 0, .at 0, .at 1, .at 0, .at n_L95_1, .at 1, .at 0, .at 0, .at 1, .at 0] n_L95_2 [.und, .d (.int .i64) x.2.1, .box [.d ty2 t_33, .d (.int .i64) t_34, .d (.int .i64) t_35, .d (.list (.int .i64)) t_36, .d .opq t_37], .und, .und, .box [.d (.int .i64) p_38, .d (.int .i64) p_39], .box [.d (.int .i64) from_40, .d (.int .i64) from_41], .box [.d (.int .i64) own_42, .d (.int .i64) own_43], .box [.d (.int .i64) to_44, .d (.int .i64) to_45], .arr (.int .i64) out_46 false, .und, .und, .und, .und, .und, .und, .und, .und, .und, .und, .und, .und, .und, .und, .und, .und, .und, .und, .und, .und, .und, .und, .und, .und, .und, .und, .und, .und, .und, .und, .und, .und, .und, .und, .und, .und, .und, .und, .und, .und, .und, .und, .und, .und, .und, .und, .und, .und, .und, .und, .und, .und, .und, .und, .und, .und, .und, .und, .und, .und, .und, .und, .und, .und, .und, .und, .und, .und, .und, .und, .und, .und, .und, .und, .und, .und, .und, .und, .und, .und, .und, .und, .und, .und, .und, .und, .und, .und, .und, .und, .und, .und, .und, .und, .und, .und, .und, .und, .und, .und, .und, .und, .und, .und, .und, .und, .und, .und, .und, .und, .und]
noncomputable def L95_1 (N : Nat) (n_L95_0 : Nat) (n_L95_1 : Nat) (x : ((((List (Int × (Int × Unit))) × (Int × (Int × Unit))) × ((List Int) × (Unit × Unit))) × (Int × Unit))) (t_19 : (List (Int × (Int × Unit)))) (t_20 : Int) (t_21 : Int) (t_22 : (List Int)) (t_23 : Unit) (p_24 : Int) (p_25 : Int) (from_26 : Int) (from_27 : Int) (own_28 : Int) (own_29 : Int) (to_30 : Int) (to_31 : Int) (out_32 : (List Int)) : Out (List Int) :=
 vloop Tryz.prog (phi specs95) hints95 N Tryz.f95 false true (.list (.int .i64)) [.at 1, .at 1, .at 1, .at 1, .at 0, .at 1, .at 0, .at n_L95_0, .at 1, .at 0, .at 0, .at 1, .at 0] n_L95_1 [.und, .d (.int .i64) x.2.1, .box [.d ty2 t_19, .d (.int .i64) t_20, .d (.int .i64) t_21, .d (.list (.int .i64)) t_22, .d .opq t_23], .und, .und, .box [.d (.int .i64) p_24, .d (.int .i64) p_25], .box [.d (.int .i64) from_26, .d (.int .i64) from_27], .box [.d (.int .i64) own_28, .d (.int .i64) own_29], .box [.d (.int .i64) to_30, .d (.int .i64) to_31], .arr (.int .i64) out_32 false, .und, .und, .und, .und, .und, .und, .und, .und, .und, .und, .und, .und, .und, .und, .und, .und, .und, .und, .und, .und, .und, .und, .und, .und, .und, .und, .und, .und, .und, .und, .und, .und, .und, .und, .und, .und, .und, .und, .und, .und, .und, .und, .und, .und, .und, .und, .und, .und, .und, .und, .und, .und, .und, .und, .und, .und, .und, .und, .und, .und, .und, .und, .und, .und, .und, .und, .und, .und, .und, .und, .und, .und, .und, .und, .und, .und, .und, .und, .und, .und, .und, .und, .und, .und, .und, .und, .und, .und, .und, .und, .und, .und, .und, .und, .und, .und, .und, .und, .und, .und, .und, .und, .und, .und, .und, .und, .und, .und, .und, .und, .und]
noncomputable def L95_0 (N : Nat) (n_L95_0 : Nat) (x : ((((List (Int × (Int × Unit))) × (Int × (Int × Unit))) × ((List Int) × (Unit × Unit))) × (Int × Unit))) (t_5 : (List (Int × (Int × Unit)))) (t_6 : Int) (t_7 : Int) (t_8 : (List Int)) (t_9 : Unit) (p_10 : Int) (p_11 : Int) (from_12 : Int) (from_13 : Int) (own_14 : Int) (own_15 : Int) (to_16 : Int) (to_17 : Int) (out_18 : (List Int)) : Out (List Int) :=
 vloop Tryz.prog (phi specs95) hints95 N Tryz.f95 false true (.list (.int .i64)) [.at 1, .at 1, .at 1, .at 1, .at 0, .at 1, .at 0] n_L95_0 [.und, .d (.int .i64) x.2.1, .box [.d ty2 t_5, .d (.int .i64) t_6, .d (.int .i64) t_7, .d (.list (.int .i64)) t_8, .d .opq t_9], .und, .und, .box [.d (.int .i64) p_10, .d (.int .i64) p_11], .box [.d (.int .i64) from_12, .d (.int .i64) from_13], .box [.d (.int .i64) own_14, .d (.int .i64) own_15], .box [.d (.int .i64) to_16, .d (.int .i64) to_17], .arr (.int .i64) out_18 false, .und, .und, .und, .und, .und, .und, .und, .und, .und, .und, .und, .und, .und, .und, .und, .und, .und, .und, .und, .und, .und, .und, .und, .und, .und, .und, .und, .und, .und, .und, .und, .und, .und, .und, .und, .und, .und, .und, .und, .und, .und, .und, .und, .und, .und, .und, .und, .und, .und, .und, .und, .und, .und, .und, .und, .und, .und, .und, .und, .und, .und, .und, .und, .und, .und, .und, .und, .und, .und, .und, .und, .und, .und, .und, .und, .und, .und, .und, .und, .und, .und, .und, .und, .und, .und, .und, .und, .und, .und, .und, .und, .und, .und, .und, .und, .und, .und, .und, .und, .und, .und, .und, .und, .und, .und, .und, .und, .und, .und, .und, .und]
theorem L95_2_succ (N : Nat) (n_L95_0 : Nat) (n_L95_1 : Nat) (n_L95_2 : Nat) (x : ((((List (Int × (Int × Unit))) × (Int × (Int × Unit))) × ((List Int) × (Unit × Unit))) × (Int × Unit))) (t_33 : (List (Int × (Int × Unit)))) (t_34 : Int) (t_35 : Int) (t_36 : (List Int)) (t_37 : Unit) (p_38 : Int) (p_39 : Int) (from_40 : Int) (from_41 : Int) (own_42 : Int) (own_43 : Int) (to_44 : Int) (to_45 : Int) (out_46 : (List Int)) : L95_2 N n_L95_0 n_L95_1 (n_L95_2 + 1) x t_33 t_34 t_35 t_36 t_37 p_38 p_39 from_40 from_41 own_42 own_43 to_44 to_45 out_46 =
  (
  bif (inb p_39 out_46.length) then
   bif (decide ((p_39.toNat) < out_46.length)) then
    match (decide ((List.getD out_46 (p_39.toNat) (0 : Int)) ≤ to_45)) with
    | true =>
     bif (inb p_38 out_46.length) then
      bif (decide ((p_38.toNat) < out_46.length)) then
       bif (inb p_39 out_46.length) then
        bif (decide ((p_39.toNat) < out_46.length)) then
         match f125 (((t_33, (t_34, (t_35, ()))), (t_36, (t_37, ()))), ((p_38, (p_39, ())), ((List.getD out_46 (p_38.toNat) (0 : Int)), ((List.getD out_46 (p_39.toNat) (0 : Int)), (x.2.1, ()))))) with
         | .ret r_47 =>
          bif (inb x.2.1 out_46.length) then
           bif (decide ((x.2.1.toNat) < out_46.length)) then
            match (decide ((if (IntKind.i64.wrap ((List.getD out_46 (x.2.1.toNat) (0 : Int)) - r_47)) > (IntKind.i64.wrap (r_47 - (List.getD out_46 (x.2.1.toNat) (0 : Int)))) then (IntKind.i64.wrap ((List.getD out_46 (x.2.1.toNat) (0 : Int)) - r_47)) else (IntKind.i64.wrap (r_47 - (List.getD out_46 (x.2.1.toNat) (0 : Int))))) > t_35)) with
            | true =>
             .ret out_46
            | false =>
             bif (inb p_39 out_46.length) then
              bif (decide ((p_39.toNat) < out_46.length)) then
               bif (inb p_39 out_46.length) then
                bif (decide ((p_39.toNat) < out_46.length)) then
                 L95_2 N n_L95_0 n_L95_1 n_L95_2 x t_33 t_34 t_35 t_36 t_37 p_38 p_39 from_40 from_41 own_42 own_43 to_44 to_45 (List.set out_46 (p_39.toNat) (IntKind.i64.wrap ((List.getD out_46 (p_39.toNat) (0 : Int)) + (1 : Int))))
                else .fail
               else .fail
              else .fail
             else .fail
           else .fail
          else .fail
         | .pan p_48 =>
          .pan p_48
         | .fail => .fail
        else .fail
       else .fail
      else .fail
     else .fail
    | false =>
     bif (inb x.2.1 out_46.length) then
      bif (decide ((x.2.1.toNat) < out_46.length)) then
       bif (inb x.2.1 out_46.length) then
        bif (decide ((x.2.1.toNat) < out_46.length)) then
         L95_1 N n_L95_0 n_L95_1 x t_33 t_34 t_35 t_36 t_37 p_38 p_39 from_40 from_41 own_42 own_43 to_44 to_45 (List.set out_46 (x.2.1.toNat) (IntKind.i64.wrap ((List.getD out_46 (x.2.1.toNat) (0 : Int)) + (1 : Int))))
        else .fail
       else .fail
      else .fail
     else .fail
   else .fail
  else .fail : Out (List Int)) := by
 kernel_rfl
theorem L95_1_succ (N : Nat) (n_L95_0 : Nat) (n_L95_1 : Nat) (x : ((((List (Int × (Int × Unit))) × (Int × (Int × Unit))) × ((List Int) × (Unit × Unit))) × (Int × Unit))) (t_19 : (List (Int × (Int × Unit)))) (t_20 : Int) (t_21 : Int) (t_22 : (List Int)) (t_23 : Unit) (p_24 : Int) (p_25 : Int) (from_26 : Int) (from_27 : Int) (own_28 : Int) (own_29 : Int) (to_30 : Int) (to_31 : Int) (out_32 : (List Int)) : L95_1 N n_L95_0 (n_L95_1 + 1) x t_19 t_20 t_21 t_22 t_23 p_24 p_25 from_26 from_27 own_28 own_29 to_30 to_31 out_32 =
  (
  bif (inb x.2.1 out_32.length) then
   bif (decide ((x.2.1.toNat) < out_32.length)) then
    match (decide ((List.getD out_32 (x.2.1.toNat) (0 : Int)) ≤ own_29)) with
    | true =>
     bif (inb p_25 out_32.length) then
      bif (decide ((p_25.toNat) < out_32.length)) then
       L95_2 N n_L95_0 n_L95_1 N x t_19 t_20 t_21 t_22 t_23 p_24 p_25 from_26 from_27 own_28 own_29 to_30 to_31 (List.set out_32 (p_25.toNat) to_30)
      else .fail
     else .fail
    | false =>
     bif (inb p_24 out_32.length) then
      bif (decide ((p_24.toNat) < out_32.length)) then
       bif (inb p_24 out_32.length) then
        bif (decide ((p_24.toNat) < out_32.length)) then
         L95_0 N n_L95_0 x t_19 t_20 t_21 t_22 t_23 p_24 p_25 from_26 from_27 own_28 own_29 to_30 to_31 (List.set out_32 (p_24.toNat) (IntKind.i64.wrap ((List.getD out_32 (p_24.toNat) (0 : Int)) + (1 : Int))))
        else .fail
       else .fail
      else .fail
     else .fail
   else .fail
  else .fail : Out (List Int)) := by
 kernel_rfl
theorem L95_0_succ (N : Nat) (n_L95_0 : Nat) (x : ((((List (Int × (Int × Unit))) × (Int × (Int × Unit))) × ((List Int) × (Unit × Unit))) × (Int × Unit))) (t_5 : (List (Int × (Int × Unit)))) (t_6 : Int) (t_7 : Int) (t_8 : (List Int)) (t_9 : Unit) (p_10 : Int) (p_11 : Int) (from_12 : Int) (from_13 : Int) (own_14 : Int) (own_15 : Int) (to_16 : Int) (to_17 : Int) (out_18 : (List Int)) : L95_0 N  (n_L95_0 + 1) x t_5 t_6 t_7 t_8 t_9 p_10 p_11 from_12 from_13 own_14 own_15 to_16 to_17 out_18 =
  (
  bif (inb p_10 out_18.length) then
   bif (decide ((p_10.toNat) < out_18.length)) then
    match (decide ((List.getD out_18 (p_10.toNat) (0 : Int)) ≤ from_13)) with
    | true =>
     bif (inb x.2.1 out_18.length) then
      bif (decide ((x.2.1.toNat) < out_18.length)) then
       L95_1 N n_L95_0 N x t_5 t_6 t_7 t_8 t_9 p_10 p_11 from_12 from_13 own_14 own_15 to_16 to_17 (List.set out_18 (x.2.1.toNat) own_14)
      else .fail
     else .fail
    | false =>
     .ret ([] : List Int)
   else .fail
  else .fail : Out (List Int)) := by
 kernel_rfl
noncomputable def F95 (N : Nat) (x : ((((List (Int × (Int × Unit))) × (Int × (Int × Unit))) × ((List Int) × (Unit × Unit))) × (Int × Unit))) : Out (List Int) :=
 match f99 (x.1, (x.2.1, ())) with
 | .ret r_1 =>
  bif (inb r_1.1 x.1.1.1.length) then
   bif (inb x.2.1 x.1.1.1.length) then
    bif (inb r_1.2.1 x.1.1.1.length) then
     match f136 (x.1, ()) with
     | .ret r_3 =>
      bif (inb r_1.1 r_3.length) then
       bif (decide ((r_1.1.toNat) < r_3.length)) then
        L95_0 N N x x.1.1.1 x.1.1.2.1 x.1.1.2.2.1 x.1.2.1 x.1.2.2.1 r_1.1 r_1.2.1 ((List.getD x.1.1.1 r_1.1.toNat ((0 : Int), ((0 : Int), ())))).1 ((List.getD x.1.1.1 r_1.1.toNat ((0 : Int), ((0 : Int), ())))).2.1 ((List.getD x.1.1.1 x.2.1.toNat ((0 : Int), ((0 : Int), ())))).1 ((List.getD x.1.1.1 x.2.1.toNat ((0 : Int), ((0 : Int), ())))).2.1 ((List.getD x.1.1.1 r_1.2.1.toNat ((0 : Int), ((0 : Int), ())))).1 ((List.getD x.1.1.1 r_1.2.1.toNat ((0 : Int), ((0 : Int), ())))).2.1 (List.set r_3 (r_1.1.toNat) ((List.getD x.1.1.1 r_1.1.toNat ((0 : Int), ((0 : Int), ())))).1)
       else .fail
      else .fail
     | .pan p_4 =>
      .pan p_4
     | .fail => .fail
    else .fail
   else .fail
  else .fail
 | .pan p_2 =>
  .pan p_2
 | .fail => .fail
theorem e95 (N : Nat) (x : ((((List (Int × (Int × Unit))) × (Int × (Int × Unit))) × ((List Int) × (Unit × Unit))) × (Int × Unit))) : vfn Tryz.prog (phi specs95) hints95 N Tryz.f95 false true ty25 (.list (.int .i64)) x = F95 N x := by
 kernel_rfl
noncomputable def f95 (x : ((((List (Int × (Int × Unit))) × (Int × (Int × Unit))) × ((List Int) × (Unit × Unit))) × (Int × Unit))) : Out (List Int) := F95 fuel x
noncomputable def sp95 : Spec := ⟨95, .call, ty25, (.list (.int .i64)), false, true, f95⟩
theorem c95 : Contract Tryz.prog sp95 := contract_at (l := specs95) (arg := ty25) (res := (.list (.int .i64))) (multi := false) (own := true) (F := f95) mixed (all_cons c99 (all_cons c136a (all_cons c125 (all_cons c126 all_nil)))) Tryz.func95 rfl hints95 fun x _ => ⟨fuel, e95 fuel x⟩
noncomputable def specs148a : List Spec := [sp164, sp219, sp149]
def hints148a : List (Nat × List Nat) := [(7, [4, 15, 16, 17])]
noncomputable def L148a_0 (N : Nat) (n_L148a_0 : Nat) (x : ((((List (Int × (Int × Unit))) × (Int × (Int × Unit))) × Unit) × Unit)) (out_1 : (List UInt8)) (t15_2 : (List Int)) (t17_3 : Int) : Out (List UInt8) :=
 vloop Tryz.prog (phi specs148a) hints148a N Tryz.f148 false false .str [.at 1, .at 1, .at 1, .at 1, .at 0, .at 1, .at 0] n_L148a_0 [.und, .und, .und, .und, .d .str out_1, .und, .und, .und, .und, .und, .und, .und, .und, .und, .und, .own (.int .i64) t15_2 false, .d (.int .i64) (lenI ([x.1.1.2.2.1, x.1.1.2.1] : List Int)), .d (.int .i64) t17_3, .und, .und, .und, .und, .und, .und, .und, .und, .und, .und]
theorem L148a_0_succ (N : Nat) (n_L148a_0 : Nat) (x : ((((List (Int × (Int × Unit))) × (Int × (Int × Unit))) × Unit) × Unit)) (out_1 : (List UInt8)) (t15_2 : (List Int)) (t17_3 : Int) : L148a_0 N  (n_L148a_0 + 1) x out_1 t15_2 t17_3 =
  (
  match (decide (t17_3 < (lenI ([x.1.1.2.2.1, x.1.1.2.1] : List Int)))) with
  | true =>
   bif (inb t17_3 t15_2.length) then
    match f149 ((List.getD t15_2 t17_3.toNat (0 : Int)), ()) with
    | .ret r_4 =>
     bif (decide (([32] : List UInt8).length + r_4.length < 1000000)) then
      bif (decide (out_1.length + (([32] : List UInt8) ++ r_4).length < 1000000)) then
       L148a_0 N n_L148a_0 x (out_1 ++ (([32] : List UInt8) ++ r_4)) t15_2 (IntKind.i64.wrap (t17_3 + (1 : Int)))
      else .fail
     else .fail
    | .pan p_5 =>
     .pan p_5
    | .fail => .fail
   else .fail
  | false =>
   .ret out_1 : Out (List UInt8)) := by
 kernel_rfl
noncomputable def F148a (N : Nat) (x : ((((List (Int × (Int × Unit))) × (Int × (Int × Unit))) × Unit) × Unit)) : Out (List UInt8) :=
 L148a_0 N N x ([116, 97, 98, 108, 101] : List UInt8) ([x.1.1.2.2.1, x.1.1.2.1] : List Int) (0 : Int)
theorem e148a (N : Nat) (x : ((((List (Int × (Int × Unit))) × (Int × (Int × Unit))) × Unit) × Unit)) : vfn Tryz.prog (phi specs148a) hints148a N Tryz.f148 false false ty50 .str x = F148a N x := by
 kernel_rfl
noncomputable def f148a (x : ((((List (Int × (Int × Unit))) × (Int × (Int × Unit))) × Unit) × Unit)) : Out (List UInt8) := F148a fuel x
noncomputable def sp148a : Spec := ⟨148, .call, ty50, .str, false, false, f148a⟩
theorem c148a : Contract Tryz.prog sp148a := contract_at (l := specs148a) (arg := ty50) (res := .str) (multi := false) (own := false) (F := f148a) mixed (all_cons c164 (all_cons c219 (all_cons c149 all_nil))) Tryz.func148 rfl hints148a fun x _ => ⟨fuel, e148a fuel x⟩
noncomputable def specs148b : List Spec := [sp164, sp220, sp149]
def hints148b : List (Nat × List Nat) := [(7, [4, 15, 16, 17])]
noncomputable def L148b_0 (N : Nat) (n_L148b_0 : Nat) (x : ((Int × (Int × Unit)) × Unit)) (out_1 : (List UInt8)) (t15_2 : (List Int)) (t17_3 : Int) : Out (List UInt8) :=
 vloop Tryz.prog (phi specs148b) hints148b N Tryz.f148 false false .str [.at 1, .at 1, .at 1, .at 1, .at 0, .at 1, .at 0] n_L148b_0 [.und, .und, .und, .und, .d .str out_1, .und, .und, .und, .und, .und, .und, .und, .und, .und, .und, .own (.int .i64) t15_2 false, .d (.int .i64) (lenI ([x.1.1, x.1.2.1] : List Int)), .d (.int .i64) t17_3, .und, .und, .und, .und, .und, .und, .und, .und, .und, .und]
theorem L148b_0_succ (N : Nat) (n_L148b_0 : Nat) (x : ((Int × (Int × Unit)) × Unit)) (out_1 : (List UInt8)) (t15_2 : (List Int)) (t17_3 : Int) : L148b_0 N  (n_L148b_0 + 1) x out_1 t15_2 t17_3 =
  (
  match (decide (t17_3 < (lenI ([x.1.1, x.1.2.1] : List Int)))) with
  | true =>
   bif (inb t17_3 t15_2.length) then
    match f149 ((List.getD t15_2 t17_3.toNat (0 : Int)), ()) with
    | .ret r_4 =>
     bif (decide (([32] : List UInt8).length + r_4.length < 1000000)) then
      bif (decide (out_1.length + (([32] : List UInt8) ++ r_4).length < 1000000)) then
       L148b_0 N n_L148b_0 x (out_1 ++ (([32] : List UInt8) ++ r_4)) t15_2 (IntKind.i64.wrap (t17_3 + (1 : Int)))
      else .fail
     else .fail
    | .pan p_5 =>
     .pan p_5
    | .fail => .fail
   else .fail
  | false =>
   .ret out_1 : Out (List UInt8)) := by
 kernel_rfl
noncomputable def F148b (N : Nat) (x : ((Int × (Int × Unit)) × Unit)) : Out (List UInt8) :=
 L148b_0 N N x ([118, 97, 108, 117, 101] : List UInt8) ([x.1.1, x.1.2.1] : List Int) (0 : Int)
theorem e148b (N : Nat) (x : ((Int × (Int × Unit)) × Unit)) : vfn Tryz.prog (phi specs148b) hints148b N Tryz.f148 false false (.prod (.dyn 157 (.prod (.int .i64) (.prod (.int .i64) .unit))) .unit) .str x = F148b N x := by
 kernel_rfl
noncomputable def f148b (x : ((Int × (Int × Unit)) × Unit)) : Out (List UInt8) := F148b fuel x
noncomputable def sp148b : Spec := ⟨148, .call, (.prod (.dyn 157 (.prod (.int .i64) (.prod (.int .i64) .unit))) .unit), .str, false, false, f148b⟩
theorem c148b : Contract Tryz.prog sp148b := contract_at (l := specs148b) (arg := (.prod (.dyn 157 (.prod (.int .i64) (.prod (.int .i64) .unit))) .unit)) (res := .str) (multi := false) (own := false) (F := f148b) mixed (all_cons c164 (all_cons c220 (all_cons c149 all_nil))) Tryz.func148 rfl hints148b fun x _ => ⟨fuel, e148b fuel x⟩
noncomputable def specs154 : List Spec := [sp153, sp149]
def hints154 : List (Nat × List Nat) := [(3, [0, 3, 7])]
noncomputable def L154_0 (N : Nat) (n_L154_0 : Nat) (x : ((List UInt8) × Unit)) (n_1 : Int) (t7_2 : Nat) : Out Int :=
 vloop Tryz.prog (phi specs154) hints154 N Tryz.f154 false false (.int .i64) [.at 1, .at 1, .at 0, .at 1, .at 0] n_L154_0 [.d .str x.1, .und, .und, .d (.int .i64) n_1, .und, .und, .und, .sit x.1 t7_2, .und, .und, .und, .und, .und, .und, .und, .und, .und, .und, .und, .und, .und, .und, .und, .und, .und, .und, .und, .und, .und, .und, .und, .und, .und, .und, .und, .und, .und, .und, .und, .und, .und]
theorem L154_0_succ (N : Nat) (n_L154_0 : Nat) (x : ((List UInt8) × Unit)) (n_1 : Int) (t7_2 : Nat) : L154_0 N  (n_L154_0 + 1) x n_1 t7_2 =
  (
  match (decide (t7_2 < x.1.length)) with
  | true =>
   bif (decide (t7_2 < x.1.length)) then
    match (decide ((runeAt x.1 t7_2) ≥ (48 : Int))) with
    | true =>
     match (decide ((runeAt x.1 t7_2) ≤ (57 : Int))) with
     | true =>
      match f153 ((decide ((lenI x.1) ≤ (4 : Int))), (x.1, ())) with
      | .ret r_3 =>
       L154_0 N n_L154_0 x (IntKind.i64.wrap ((IntKind.i64.wrap ((10 : Int) * n_1)) + (IntKind.i64.wrap (IntKind.i32.wrap ((runeAt x.1 t7_2) - (48 : Int)))))) (posAt x.1 t7_2)
      | .pan p_4 =>
       .pan p_4
      | .fail => .fail
     | false =>
      match f153 (false, (x.1, ())) with
      | .ret r_5 =>
       L154_0 N n_L154_0 x (IntKind.i64.wrap ((IntKind.i64.wrap ((10 : Int) * n_1)) + (IntKind.i64.wrap (IntKind.i32.wrap ((runeAt x.1 t7_2) - (48 : Int)))))) (posAt x.1 t7_2)
      | .pan p_6 =>
       .pan p_6
      | .fail => .fail
    | false =>
     match f153 (false, (x.1, ())) with
     | .ret r_7 =>
      L154_0 N n_L154_0 x (IntKind.i64.wrap ((IntKind.i64.wrap ((10 : Int) * n_1)) + (IntKind.i64.wrap (IntKind.i32.wrap ((runeAt x.1 t7_2) - (48 : Int)))))) (posAt x.1 t7_2)
     | .pan p_8 =>
      .pan p_8
     | .fail => .fail
   else .fail
  | false =>
   match (x.1 != ([] : List UInt8)) with
   | true =>
    match f149 (n_1, ()) with
    | .ret r_9 =>
     match f153 ((r_9 == x.1), (x.1, ())) with
     | .ret r_11 =>
      .ret n_1
     | .pan p_12 =>
      .pan p_12
     | .fail => .fail
    | .pan p_10 =>
     .pan p_10
    | .fail => .fail
   | false =>
    match f153 (false, (x.1, ())) with
    | .ret r_13 =>
     .ret n_1
    | .pan p_14 =>
     .pan p_14
    | .fail => .fail : Out Int) := by
 kernel_rfl
noncomputable def F154 (N : Nat) (x : ((List UInt8) × Unit)) : Out Int :=
 L154_0 N N x (0 : Int) 0
theorem e154 (N : Nat) (x : ((List UInt8) × Unit)) : vfn Tryz.prog (phi specs154) hints154 N Tryz.f154 false false (.prod .str .unit) (.int .i64) x = F154 N x := by
 kernel_rfl
noncomputable def f154 (x : ((List UInt8) × Unit)) : Out Int := F154 fuel x
noncomputable def sp154 : Spec := ⟨154, .call, (.prod .str .unit), (.int .i64), false, false, f154⟩
theorem c154 : Contract Tryz.prog sp154 := contract_at (l := specs154) (arg := (.prod .str .unit)) (res := (.int .i64)) (multi := false) (own := false) (F := f154) mixed (all_cons c153 (all_cons c149 all_nil)) Tryz.func154 rfl hints154 fun x _ => ⟨fuel, e154 fuel x⟩
noncomputable def specs155 : List Spec := [sp170, sp154, sp153]
def hints155 : List (Nat × List Nat) := []
noncomputable def F155 (N : Nat) (x : ((List UInt8) × Unit)) : Out Int :=
 match f170 (x.1, (([45] : List UInt8), ())) with
 | .ret r_1 =>
  match r_1.2.1 with
  | true =>
   match f154 (r_1.1, ()) with
   | .ret r_3 =>
    match f153 ((decide (r_3 > (0 : Int))), (x.1, ())) with
    | .ret r_5 =>
     .ret (IntKind.i64.wrap (0 - r_3))
    | .pan p_6 =>
     .pan p_6
    | .fail => .fail
   | .pan p_4 =>
    .pan p_4
   | .fail => .fail
  | false =>
   match f154 (x.1, ()) with
   | .ret r_7 =>
    .ret r_7
   | .pan p_8 =>
    .pan p_8
   | .fail => .fail
 | .pan p_2 =>
  .pan p_2
 | .fail => .fail
theorem e155 (N : Nat) (x : ((List UInt8) × Unit)) : vfn Tryz.prog (phi specs155) hints155 N Tryz.f155 false false (.prod .str .unit) (.int .i64) x = F155 N x := by
 kernel_rfl
noncomputable def f155 (x : ((List UInt8) × Unit)) : Out Int := F155 fuel x
noncomputable def sp155 : Spec := ⟨155, .call, (.prod .str .unit), (.int .i64), false, false, f155⟩
theorem c155 : Contract Tryz.prog sp155 := contract_at (l := specs155) (arg := (.prod .str .unit)) (res := (.int .i64)) (multi := false) (own := false) (F := f155) mixed (all_cons c170 (all_cons c154 (all_cons c153 all_nil))) Tryz.func155 rfl hints155 fun x _ => ⟨fuel, e155 fuel x⟩
noncomputable def specs25 : List Spec := [sp77, sp78, sp79, sp80, sp81]
def hints25 : List (Nat × List Nat) := []
noncomputable def F25 (N : Nat) (x : (((List (Int × (Int × Unit))) × (Int × (Int × Unit))) × ((List Int) × ((List Int) × Unit)))) : Out ((List Int) × (Int × Unit)) :=
 match f77 (x.1, ()) with
 | .ret r_1 =>
  match (!r_1) with
  | true =>
   .ret (([] : List Int), ((2 : Int), ()))
  | false =>
   match f78 (x.1, (x.2.1, ())) with
   | .ret r_3 =>
    match (!r_3) with
    | true =>
     .ret (([] : List Int), ((2 : Int), ()))
    | false =>
     match f79 (x.1, (x.2.2.1, ())) with
     | .ret r_5 =>
      match (!r_5) with
      | true =>
       .ret (([] : List Int), ((2 : Int), ()))
      | false =>
       match f81 ((x.1, (x.2.1, ((), ()))), (x.2.2.1, ())) with
       | .ret r_7 =>
        .ret (r_7, ((0 : Int), ()))
       | .pan p_8 =>
        .pan p_8
       | .fail => .fail
     | .pan p_6 =>
      .pan p_6
     | .fail => .fail
   | .pan p_4 =>
    .pan p_4
   | .fail => .fail
 | .pan p_2 =>
  .pan p_2
 | .fail => .fail
theorem e25 (N : Nat) (x : (((List (Int × (Int × Unit))) × (Int × (Int × Unit))) × ((List Int) × ((List Int) × Unit)))) : vfn Tryz.prog (phi specs25) hints25 N Tryz.f25 true false ty10 ty4 x = F25 N x := by
 kernel_rfl
noncomputable def f25 (x : (((List (Int × (Int × Unit))) × (Int × (Int × Unit))) × ((List Int) × ((List Int) × Unit)))) : Out ((List Int) × (Int × Unit)) := F25 fuel x
noncomputable def sp25 : Spec := ⟨25, .call, ty10, ty4, true, false, f25⟩
theorem c25 : Contract Tryz.prog sp25 := contract_at (l := specs25) (arg := ty10) (res := ty4) (multi := true) (own := false) (F := f25) mixed (all_cons c77 (all_cons c78 (all_cons c79 (all_cons c80 (all_cons c81 all_nil))))) Tryz.func25 rfl hints25 fun x _ => ⟨fuel, e25 fuel x⟩
noncomputable def specs26 : List Spec := [sp77, sp78, sp79, sp80, sp82]
def hints26 : List (Nat × List Nat) := []
noncomputable def F26 (N : Nat) (x : (((List (Int × (Int × Unit))) × (Int × (Int × Unit))) × ((List Int) × ((List Int) × Unit)))) : Out (Bool × (Int × Unit)) :=
 match f77 (x.1, ()) with
 | .ret r_1 =>
  match (!r_1) with
  | true =>
   .ret (false, ((2 : Int), ()))
  | false =>
   match f78 (x.1, (x.2.1, ())) with
   | .ret r_3 =>
    match (!r_3) with
    | true =>
     .ret (false, ((2 : Int), ()))
    | false =>
     match f79 (x.1, (x.2.2.1, ())) with
     | .ret r_5 =>
      match (!r_5) with
      | true =>
       .ret (false, ((2 : Int), ()))
      | false =>
       match f82 ((x.1, (x.2.1, ((), ()))), (x.2.2.1, ())) with
       | .ret r_7 =>
        .ret (r_7, ((0 : Int), ()))
       | .pan p_8 =>
        .pan p_8
       | .fail => .fail
     | .pan p_6 =>
      .pan p_6
     | .fail => .fail
   | .pan p_4 =>
    .pan p_4
   | .fail => .fail
 | .pan p_2 =>
  .pan p_2
 | .fail => .fail
theorem e26 (N : Nat) (x : (((List (Int × (Int × Unit))) × (Int × (Int × Unit))) × ((List Int) × ((List Int) × Unit)))) : vfn Tryz.prog (phi specs26) hints26 N Tryz.f26 true false ty10 (.prod .bool (.prod (.int .i64) .unit)) x = F26 N x := by
 kernel_rfl
noncomputable def f26 (x : (((List (Int × (Int × Unit))) × (Int × (Int × Unit))) × ((List Int) × ((List Int) × Unit)))) : Out (Bool × (Int × Unit)) := F26 fuel x
noncomputable def sp26 : Spec := ⟨26, .call, ty10, (.prod .bool (.prod (.int .i64) .unit)), true, false, f26⟩
theorem c26 : Contract Tryz.prog sp26 := contract_at (l := specs26) (arg := ty10) (res := (.prod .bool (.prod (.int .i64) .unit))) (multi := true) (own := false) (F := f26) mixed (all_cons c77 (all_cons c78 (all_cons c79 (all_cons c80 (all_cons c82 all_nil))))) Tryz.func26 rfl hints26 fun x _ => ⟨fuel, e26 fuel x⟩
noncomputable def specs36 : List Spec := [sp77, sp78, sp80, sp90, sp91]
def hints36 : List (Nat × List Nat) := []
noncomputable def F36 (N : Nat) (x : (((List (Int × (Int × Unit))) × (Int × (Int × Unit))) × ((List Int) × Unit))) : Out (Int × (Int × Unit)) :=
 match f77 (x.1, ()) with
 | .ret r_1 =>
  match (!r_1) with
  | true =>
   .ret ((0 : Int), ((2 : Int), ()))
  | false =>
   match f78 (x.1, (x.2.1, ())) with
   | .ret r_3 =>
    match (!r_3) with
    | true =>
     .ret ((0 : Int), ((2 : Int), ()))
    | false =>
     match f90 ((x.1, (x.2.1, ((), ()))), ()) with
     | .ret r_5 =>
      match r_5 with
      | true =>
       .ret ((3 : Int), ((0 : Int), ()))
      | false =>
       match f91 ((x.1, (x.2.1, ((), ()))), ()) with
       | .ret r_7 =>
        match r_7 with
        | true =>
         .ret ((2 : Int), ((0 : Int), ()))
        | false =>
         .ret ((1 : Int), ((0 : Int), ()))
       | .pan p_8 =>
        .pan p_8
       | .fail => .fail
     | .pan p_6 =>
      .pan p_6
     | .fail => .fail
   | .pan p_4 =>
    .pan p_4
   | .fail => .fail
 | .pan p_2 =>
  .pan p_2
 | .fail => .fail
theorem e36 (N : Nat) (x : (((List (Int × (Int × Unit))) × (Int × (Int × Unit))) × ((List Int) × Unit))) : vfn Tryz.prog (phi specs36) hints36 N Tryz.f36 true false ty0 ty3 x = F36 N x := by
 kernel_rfl
noncomputable def f36 (x : (((List (Int × (Int × Unit))) × (Int × (Int × Unit))) × ((List Int) × Unit))) : Out (Int × (Int × Unit)) := F36 fuel x
noncomputable def sp36 : Spec := ⟨36, .call, ty0, ty3, true, false, f36⟩
theorem c36 : Contract Tryz.prog sp36 := contract_at (l := specs36) (arg := ty0) (res := ty3) (multi := true) (own := false) (F := f36) mixed (all_cons c77 (all_cons c78 (all_cons c80 (all_cons c90 (all_cons c91 all_nil))))) Tryz.func36 rfl hints36 fun x _ => ⟨fuel, e36 fuel x⟩
noncomputable def specs42 : List Spec := [sp77, sp78, sp80, sp92, sp95, sp96b]
def hints42 : List (Nat × List Nat) := [(6, [6, 7, 25, 26, 27])]
noncomputable def L42_0 (N : Nat) (n_L42_0 : Nat) (x : (((List (Int × (Int × Unit))) × (Int × (Int × Unit))) × ((List Int) × Unit))) (r_5 : (List Int)) (l_7 : (List (List Int))) (t25_8 : (List Int)) (t27_9 : Int) : Out ((List Int) × (Int × Unit)) :=
 vloop Tryz.prog (phi specs42) hints42 N Tryz.f42 true false ty4 [.at 1, .at 1, .at 1, .at 1, .at 0, .at 1, .at 0] n_L42_0 [.und, .und, .und, .und, .und, .und, .box [.d ty2 x.1.1, .d (.int .i64) x.1.2.1, .d (.int .i64) x.1.2.2.1, .d (.list (.int .i64)) x.2.1, .d .opq ()], .own (.list (.int .i64)) l_7 false, .und, .und, .und, .und, .und, .und, .und, .und, .und, .und, .und, .und, .und, .und, .und, .und, .und, .own (.int .i64) t25_8 false, .d (.int .i64) (lenI r_5), .d (.int .i64) t27_9, .und, .und, .und, .und, .und, .und, .und, .und, .und, .und, .und, .und, .und, .und, .und, .und, .und, .und]
theorem L42_0_succ (N : Nat) (n_L42_0 : Nat) (x : (((List (Int × (Int × Unit))) × (Int × (Int × Unit))) × ((List Int) × Unit))) (r_5 : (List Int)) (l_7 : (List (List Int))) (t25_8 : (List Int)) (t27_9 : Int) : L42_0 N  (n_L42_0 + 1) x r_5 l_7 t25_8 t27_9 =
  (
  match (decide (t27_9 < (lenI r_5))) with
  | true =>
   bif (inb t27_9 t25_8.length) then
    match f95 ((x.1, (x.2.1, ((), ()))), ((List.getD t25_8 t27_9.toNat (0 : Int)), ())) with
    | .ret r_10 =>
     bif (fits l_7 ([r_10] : List (List Int))) then
      L42_0 N n_L42_0 x r_5 (l_7 ++ ([r_10] : List (List Int))) t25_8 (IntKind.i64.wrap (t27_9 + (1 : Int)))
     else .fail
    | .pan p_11 =>
     .pan p_11
    | .fail => .fail
   else .fail
  | false =>
   match f96b (l_7, ((Value.func (.func 97) #[] #[]), ())) with
   | .ret r_12 =>
    match (!r_12.2.1) with
    | true =>
     .ret (([] : List Int), ((5 : Int), ()))
    | false =>
     .ret (r_12.1, ((0 : Int), ()))
   | .pan p_13 =>
    .pan p_13
   | .fail => .fail : Out ((List Int) × (Int × Unit))) := by
 kernel_rfl
noncomputable def F42 (N : Nat) (x : (((List (Int × (Int × Unit))) × (Int × (Int × Unit))) × ((List Int) × Unit))) : Out ((List Int) × (Int × Unit)) :=
 match f77 (x.1, ()) with
 | .ret r_1 =>
  match (!r_1) with
  | true =>
   .ret (([] : List Int), ((2 : Int), ()))
  | false =>
   match f78 (x.1, (x.2.1, ())) with
   | .ret r_3 =>
    match (!r_3) with
    | true =>
     .ret (([] : List Int), ((2 : Int), ()))
    | false =>
     match f92 ((x.1, (x.2.1, ((), ()))), ()) with
     | .ret r_5 =>
      L42_0 N N x r_5 ([] : List (List Int)) r_5 (0 : Int)
     | .pan p_6 =>
      .pan p_6
     | .fail => .fail
   | .pan p_4 =>
    .pan p_4
   | .fail => .fail
 | .pan p_2 =>
  .pan p_2
 | .fail => .fail
theorem e42 (N : Nat) (x : (((List (Int × (Int × Unit))) × (Int × (Int × Unit))) × ((List Int) × Unit))) : vfn Tryz.prog (phi specs42) hints42 N Tryz.f42 true false ty0 ty4 x = F42 N x := by
 kernel_rfl
noncomputable def f42 (x : (((List (Int × (Int × Unit))) × (Int × (Int × Unit))) × ((List Int) × Unit))) : Out ((List Int) × (Int × Unit)) := F42 fuel x
noncomputable def sp42 : Spec := ⟨42, .call, ty0, ty4, true, false, f42⟩
theorem c42 : Contract Tryz.prog sp42 := contract_at (l := specs42) (arg := ty0) (res := ty4) (multi := true) (own := false) (F := f42) mixed (all_cons c77 (all_cons c78 (all_cons c80 (all_cons c92 (all_cons c95 (all_cons c96b all_nil)))))) Tryz.func42 rfl hints42 fun x _ => ⟨fuel, e42 fuel x⟩
noncomputable def specs49 : List Spec := [sp77, sp102, sp80, sp90]
def hints49 : List (Nat × List Nat) := [(5, [1, 4, 5])]
noncomputable def L49_0 (N : Nat) (n_L49_0 : Nat) (x : (((List (Int × (Int × Unit))) × (Int × (Int × Unit))) × Unit)) (widest_3 : Int) (step_4 : Int) : Out (Int × (Int × Unit)) :=
 vloop Tryz.prog (phi specs49) hints49 N Tryz.f49 true false ty3 [.at 1, .at 0, .at 1, .at 1, .at 1, .at 0, .at 1, .at 0] n_L49_0 [.und, .box [.d ty2 x.1.1, .d (.int .i64) x.1.2.1, .d (.int .i64) x.1.2.2.1], .und, .und, .d (.int .i64) widest_3, .d (.int .i64) step_4, .und, .und, .und, .und, .und, .und, .und, .und, .und, .und, .und, .und, .und, .und, .und, .und, .und, .und, .und]
theorem L49_0_succ (N : Nat) (n_L49_0 : Nat) (x : (((List (Int × (Int × Unit))) × (Int × (Int × Unit))) × Unit)) (widest_3 : Int) (step_4 : Int) : L49_0 N  (n_L49_0 + 1) x widest_3 step_4 =
  (
  match (decide (step_4 > (0 : Int))) with
  | true =>
   match f102 (x.1, (step_4, ())) with
   | .ret r_5 =>
    match f90 ((x.1, (r_5, ((), ()))), ()) with
    | .ret r_7 =>
     match r_7 with
     | true =>
      .ret (step_4, ((0 : Int), ()))
     | false =>
      L49_0 N n_L49_0 x widest_3 (IntKind.i64.wrap (step_4 - (1 : Int)))
    | .pan p_8 =>
     .pan p_8
    | .fail => .fail
   | .pan p_6 =>
    .pan p_6
   | .fail => .fail
  | false =>
   .ret (widest_3, ((0 : Int), ())) : Out (Int × (Int × Unit))) := by
 kernel_rfl
noncomputable def F49 (N : Nat) (x : (((List (Int × (Int × Unit))) × (Int × (Int × Unit))) × Unit)) : Out (Int × (Int × Unit)) :=
 match f77 (x.1, ()) with
 | .ret r_1 =>
  match (!r_1) with
  | true =>
   .ret ((0 : Int), ((2 : Int), ()))
  | false =>
   L49_0 N N x (0 : Int) (IntKind.i64.wrap ((lenI x.1.1) - (1 : Int)))
 | .pan p_2 =>
  .pan p_2
 | .fail => .fail
theorem e49 (N : Nat) (x : (((List (Int × (Int × Unit))) × (Int × (Int × Unit))) × Unit)) : vfn Tryz.prog (phi specs49) hints49 N Tryz.f49 true false ty1 ty3 x = F49 N x := by
 kernel_rfl
noncomputable def f49 (x : (((List (Int × (Int × Unit))) × (Int × (Int × Unit))) × Unit)) : Out (Int × (Int × Unit)) := F49 fuel x
noncomputable def sp49 : Spec := ⟨49, .call, ty1, ty3, true, false, f49⟩
theorem c49 : Contract Tryz.prog sp49 := contract_at (l := specs49) (arg := ty1) (res := ty3) (multi := true) (own := false) (F := f49) mixed (all_cons c77 (all_cons c102 (all_cons c80 (all_cons c90 all_nil)))) Tryz.func49 rfl hints49 fun x _ => ⟨fuel, e49 fuel x⟩
noncomputable def specs54 : List Spec := [sp36]
def hints54 : List (Nat × List Nat) := []
noncomputable def F54 (N : Nat) (x : (((List (Int × (Int × Unit))) × (Int × (Int × Unit))) × ((List Int) × Unit))) : Out (Bool × (Bool × Unit)) :=
 match f36 (x.1, (x.2.1, ())) with
 | .ret r_1 =>
  match (r_1.2.1 == (0 : Int)) with
  | true =>
   match (r_1.2.1 == (0 : Int)) with
   | true =>
    match (decide (r_1.1 ≥ (1 : Int))) with
    | true =>
     .ret ((r_1.1 == (3 : Int)), ((decide (r_1.1 ≤ (3 : Int))), ()))
    | false =>
     .ret ((r_1.1 == (3 : Int)), (false, ()))
   | false =>
    .ret ((r_1.1 == (3 : Int)), (false, ()))
  | false =>
   match (r_1.2.1 == (0 : Int)) with
   | true =>
    match (decide (r_1.1 ≥ (1 : Int))) with
    | true =>
     .ret (false, ((decide (r_1.1 ≤ (3 : Int))), ()))
    | false =>
     .ret (false, (false, ()))
   | false =>
    .ret (false, (false, ()))
 | .pan p_2 =>
  .pan p_2
 | .fail => .fail
theorem e54 (N : Nat) (x : (((List (Int × (Int × Unit))) × (Int × (Int × Unit))) × ((List Int) × Unit))) : vfn Tryz.prog (phi specs54) hints54 N Tryz.f54 true false ty0 (.prod .bool (.prod .bool .unit)) x = F54 N x := by
 kernel_rfl
noncomputable def f54 (x : (((List (Int × (Int × Unit))) × (Int × (Int × Unit))) × ((List Int) × Unit))) : Out (Bool × (Bool × Unit)) := F54 fuel x
noncomputable def sp54 : Spec := ⟨54, .call, ty0, (.prod .bool (.prod .bool .unit)), true, false, f54⟩
theorem c54 : Contract Tryz.prog sp54 := contract_at (l := specs54) (arg := ty0) (res := (.prod .bool (.prod .bool .unit))) (multi := true) (own := false) (F := f54) mixed (all_cons c36 all_nil) Tryz.func54 rfl hints54 fun x _ => ⟨fuel, e54 fuel x⟩
noncomputable def specs114 : List Spec := [sp148a, sp148b, sp149, sp150]
def hints114 : List (Nat × List Nat) := [(3, [3, 16, 17, 18]), (9, [3, 6, 29, 30, 31]), (12, [3, 6, 7, 8, 29, 30, 31, 37, 38])]
noncomputable def L114_2 (N : Nat) (n_L114_1 : Nat) (n_L114_2 : Nat) (t31_9 : Int) (rows_3 : (List (List UInt8))) (rows_10 : (List (List UInt8))) (check_11 : Int) (t38_12 : Int) : Out (List UInt8) :=
 vloop Tryz.prog (phi specs114) hints114 N Tryz.f114 false false .str [.at 1, .at 1, .at 1, .at 1, .at 0, .at 1, .at 0, .at n_L114_1, .at 1, .at 1, .at 0, .at 0, .at 1, .at 1, .at 0] n_L114_2 [.und, .und, .und, .own .str rows_10 false, .und, .und, .d (.int .i64) check_11, .d (.int .i64) t31_9, .d .str (List.getD rows_3 t31_9.toNat ([] : List UInt8)), .und, .und, .und, .und, .und, .und, .und, .und, .und, .und, .und, .und, .und, .und, .und, .und, .und, .und, .und, .und, .d (.list .str) rows_3, .d (.int .i64) (lenI rows_3), .d (.int .i64) t31_9, .und, .und, .und, .und, .und, .d (.int .i64) (lenI (List.getD rows_3 t31_9.toNat ([] : List UInt8))), .d (.int .i64) t38_12, .und, .und, .und, .und, .und, .und, .und, .und, .und, .und, .und, .und, .und, .und, .und, .und, .und, .und, .und, .und, .und, .und, .und, .und, .und, .und, .und, .und, .und, .und, .und, .und, .und, .und, .und, .und, .und]
noncomputable def L114_1 (N : Nat) (n_L114_1 : Nat) (rows_3 : (List (List UInt8))) (rows_7 : (List (List UInt8))) (check_8 : Int) (t31_9 : Int) : Out (List UInt8) :=
 vloop Tryz.prog (phi specs114) hints114 N Tryz.f114 false false .str [.at 1, .at 1, .at 1, .at 1, .at 0, .at 1, .at 0] n_L114_1 [.und, .und, .und, .own .str rows_7 false, .und, .und, .d (.int .i64) check_8, .und, .und, .und, .und, .und, .und, .und, .und, .und, .und, .und, .und, .und, .und, .und, .und, .und, .und, .und, .und, .und, .und, .d (.list .str) rows_3, .d (.int .i64) (lenI rows_3), .d (.int .i64) t31_9, .und, .und, .und, .und, .und, .und, .und, .und, .und, .und, .und, .und, .und, .und, .und, .und, .und, .und, .und, .und, .und, .und, .und, .und, .und, .und, .und, .und, .und, .und, .und, .und, .und, .und, .und, .und, .und, .und, .und, .und, .und, .und, .und, .und]
noncomputable def L114_0 (N : Nat) (n_L114_0 : Nat) (x : (((List (Int × (Int × Unit))) × (Int × (Int × Unit))) × Unit)) (rows_3 : (List (List UInt8))) (t18_4 : Int) : Out (List UInt8) :=
 vloop Tryz.prog (phi specs114) hints114 N Tryz.f114 false false .str [.at 1, .at 1, .at 0, .at 1, .at 0] n_L114_0 [.und, .und, .und, .own .str rows_3 false, .und, .und, .und, .und, .und, .und, .und, .und, .und, .und, .und, .und, .d ty2 x.1.1, .d (.int .i64) (lenI x.1.1), .d (.int .i64) t18_4, .und, .und, .und, .und, .und, .und, .und, .und, .und, .und, .und, .und, .und, .und, .und, .und, .und, .und, .und, .und, .und, .und, .und, .und, .und, .und, .und, .und, .und, .und, .und, .und, .und, .und, .und, .und, .und, .und, .und, .und, .und, .und, .und, .und, .und, .und, .und, .und, .und, .und, .und, .und, .und, .und, .und, .und, .und]
theorem L114_2_succ (N : Nat) (n_L114_1 : Nat) (n_L114_2 : Nat) (t31_9 : Int) (rows_3 : (List (List UInt8))) (rows_10 : (List (List UInt8))) (check_11 : Int) (t38_12 : Int) : L114_2 N n_L114_1 (n_L114_2 + 1) t31_9 rows_3 rows_10 check_11 t38_12 =
  (
  match (decide (t38_12 < (lenI (List.getD rows_3 t31_9.toNat ([] : List UInt8))))) with
  | true =>
   bif (inb t38_12 (List.getD rows_3 t31_9.toNat ([] : List UInt8)).length) then
    L114_2 N n_L114_1 n_L114_2 t31_9 rows_3 rows_10 (IntKind.i64.wrap (check_11 + (IntKind.i64.wrap ((IntKind.i64.wrap ((IntKind.i64.wrap (byteAt (List.getD rows_3 t31_9.toNat ([] : List UInt8)) t38_12)) * (IntKind.i64.wrap (t38_12 + (1 : Int))))) * (IntKind.i64.wrap (t31_9 + (1 : Int))))))) (IntKind.i64.wrap (t38_12 + (1 : Int)))
   else .fail
  | false =>
   L114_1 N n_L114_1 rows_3 rows_10 check_11 (IntKind.i64.wrap (t31_9 + (1 : Int))) : Out (List UInt8)) := by
 kernel_rfl
theorem L114_1_succ (N : Nat) (n_L114_1 : Nat) (rows_3 : (List (List UInt8))) (rows_7 : (List (List UInt8))) (check_8 : Int) (t31_9 : Int) : L114_1 N  (n_L114_1 + 1) rows_3 rows_7 check_8 t31_9 =
  (
  match (decide (t31_9 < (lenI rows_3))) with
  | true =>
   bif (inb t31_9 rows_3.length) then
    L114_2 N n_L114_1 N t31_9 rows_3 rows_7 check_8 (0 : Int)
   else .fail
  | false =>
   match f149 ((IntKind.i64.wrap ((check_8.tmod (241 : Int)).tdiv (100 : Int))), ()) with
   | .ret r_13 =>
    bif (decide (([101, 110, 100, 32] : List UInt8).length + r_13.length < 1000000)) then
     match f149 (((IntKind.i64.wrap ((check_8.tmod (241 : Int)).tdiv (10 : Int))).tmod (10 : Int)), ()) with
     | .ret r_15 =>
      bif (decide ((([101, 110, 100, 32] : List UInt8) ++ r_13).length + r_15.length < 1000000)) then
       match f149 (((check_8.tmod (241 : Int)).tmod (10 : Int)), ()) with
       | .ret r_17 =>
        bif (decide (((([101, 110, 100, 32] : List UInt8) ++ r_13) ++ r_15).length + r_17.length < 1000000)) then
         bif (fits rows_7 ([(((([101, 110, 100, 32] : List UInt8) ++ r_13) ++ r_15) ++ r_17)] : List (List UInt8))) then
          match f150 ((rows_7 ++ ([(((([101, 110, 100, 32] : List UInt8) ++ r_13) ++ r_15) ++ r_17)] : List (List UInt8))), (([10] : List UInt8), ())) with
          | .ret r_19 =>
           bif (decide (r_19.length + ([10] : List UInt8).length < 1000000)) then
            .ret (r_19 ++ ([10] : List UInt8))
           else .fail
          | .pan p_20 =>
           .pan p_20
          | .fail => .fail
         else .fail
        else .fail
       | .pan p_18 =>
        .pan p_18
       | .fail => .fail
      else .fail
     | .pan p_16 =>
      .pan p_16
     | .fail => .fail
    else .fail
   | .pan p_14 =>
    .pan p_14
   | .fail => .fail : Out (List UInt8)) := by
 kernel_rfl
theorem L114_0_succ (N : Nat) (n_L114_0 : Nat) (x : (((List (Int × (Int × Unit))) × (Int × (Int × Unit))) × Unit)) (rows_3 : (List (List UInt8))) (t18_4 : Int) : L114_0 N  (n_L114_0 + 1) x rows_3 t18_4 =
  (
  match (decide (t18_4 < (lenI x.1.1))) with
  | true =>
   bif (inb t18_4 x.1.1.length) then
    match f148b ((((List.getD x.1.1 t18_4.toNat ((0 : Int), ((0 : Int), ())))).1, (((List.getD x.1.1 t18_4.toNat ((0 : Int), ((0 : Int), ())))).2.1, ())), ()) with
    | .ret r_5 =>
     bif (fits rows_3 ([r_5] : List (List UInt8))) then
      L114_0 N n_L114_0 x (rows_3 ++ ([r_5] : List (List UInt8))) (IntKind.i64.wrap (t18_4 + (1 : Int)))
     else .fail
    | .pan p_6 =>
     .pan p_6
    | .fail => .fail
   else .fail
  | false =>
   L114_1 N N rows_3 rows_3 (0 : Int) (0 : Int) : Out (List UInt8)) := by
 kernel_rfl
noncomputable def F114 (N : Nat) (x : (((List (Int × (Int × Unit))) × (Int × (Int × Unit))) × Unit)) : Out (List UInt8) :=
 match f148a (x, ()) with
 | .ret r_1 =>
  L114_0 N N x ([r_1] : List (List UInt8)) (0 : Int)
 | .pan p_2 =>
  .pan p_2
 | .fail => .fail
theorem e114 (N : Nat) (x : (((List (Int × (Int × Unit))) × (Int × (Int × Unit))) × Unit)) : vfn Tryz.prog (phi specs114) hints114 N Tryz.f114 false false ty1 .str x = F114 N x := by
 kernel_rfl
noncomputable def f114 (x : (((List (Int × (Int × Unit))) × (Int × (Int × Unit))) × Unit)) : Out (List UInt8) := F114 fuel x
noncomputable def sp114 : Spec := ⟨114, .call, ty1, .str, false, false, f114⟩
theorem c114 : Contract Tryz.prog sp114 := contract_at (l := specs114) (arg := ty1) (res := .str) (multi := false) (own := false) (F := f114) mixed (all_cons c148a (all_cons c148b (all_cons c149 (all_cons c150 all_nil)))) Tryz.func114 rfl hints114 fun x _ => ⟨fuel, e114 fuel x⟩
noncomputable def specs67 : List Spec := [sp77, sp114]
def hints67 : List (Nat × List Nat) := []
noncomputable def F67 (N : Nat) (x : (((List (Int × (Int × Unit))) × (Int × (Int × Unit))) × Unit)) : Out ((List UInt8) × (Int × Unit)) :=
 match f77 (x.1, ()) with
 | .ret r_1 =>
  match (!r_1) with
  | true =>
   .ret (([] : List UInt8), ((2 : Int), ()))
  | false =>
   match f114 (x.1, ()) with
   | .ret r_3 =>
    .ret (r_3, ((0 : Int), ()))
   | .pan p_4 =>
    .pan p_4
   | .fail => .fail
 | .pan p_2 =>
  .pan p_2
 | .fail => .fail
theorem e67 (N : Nat) (x : (((List (Int × (Int × Unit))) × (Int × (Int × Unit))) × Unit)) : vfn Tryz.prog (phi specs67) hints67 N Tryz.f67 true false ty1 ty20 x = F67 N x := by
 kernel_rfl
noncomputable def f67 (x : (((List (Int × (Int × Unit))) × (Int × (Int × Unit))) × Unit)) : Out ((List UInt8) × (Int × Unit)) := F67 fuel x
noncomputable def sp67 : Spec := ⟨67, .call, ty1, ty20, true, false, f67⟩
theorem c67 : Contract Tryz.prog sp67 := contract_at (l := specs67) (arg := ty1) (res := ty20) (multi := true) (own := false) (F := f67) mixed (all_cons c77 (all_cons c114 all_nil)) Tryz.func67 rfl hints67 fun x _ => ⟨fuel, e67 fuel x⟩
end Go.V
