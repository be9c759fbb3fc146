/- A part of the proof of a law of the step table. -/
import Derived.Test.YtpnilbemlgbokaaGreatDoorS2
import Derived.Test.YtpnilbemlgbokaaGreatDoorSW
set_option linter.all false
namespace Go.V
open Go.Proofs
noncomputable def specs53 : List Spec := [sp77, sp104a, sp103, sp96a]
def hints53 : List (Nat × List Nat) := []
noncomputable def F53 (N : Nat) (x : (((List (Int × (Int × Unit))) × (Int × (Int × Unit))) × Unit)) : Out ((List Int) × (Int × Unit)) :=
 match f77 (x.1, ()) with
 | .ret r_1 =>
  match (!r_1) with
  | true =>
   .ret (([] : List Int), ((2 : Int), ()))
  | false =>
   match f103 (((), x), ()) with
   | .ret r_3 =>
    match f96a (r_3, ((Value.func (.func 105) #[] #[]), ())) with
    | .ret r_5 =>
     .ret (r_5.1, ((0 : Int), ()))
    | .pan p_6 =>
     .pan p_6
    | .fail => .fail
   | .pan p_4 =>
    .pan p_4
   | .fail => .fail
 | .pan p_2 =>
  .pan p_2
 | .fail => .fail
theorem e53 (N : Nat) (x : (((List (Int × (Int × Unit))) × (Int × (Int × Unit))) × Unit)) : vfn Tryz.prog (phi specs53) hints53 N Tryz.f53 true false ty1 ty4 x = F53 N x := by
 kernel_rfl
noncomputable def f53 (x : (((List (Int × (Int × Unit))) × (Int × (Int × Unit))) × Unit)) : Out ((List Int) × (Int × Unit)) := F53 fuel x
noncomputable def sp53 : Spec := ⟨53, .call, ty1, ty4, true, false, f53⟩
theorem c53 : Contract Tryz.prog sp53 := contract_at (l := specs53) (arg := ty1) (res := ty4) (multi := true) (own := false) (F := f53) mixed (all_cons c77 (all_cons c104a (all_cons c103 (all_cons c96a all_nil)))) Tryz.func53 rfl hints53 fun x _ => ⟨fuel, e53 fuel x⟩
noncomputable def specs55 : List Spec := [sp77, sp104a, sp103, sp96a]
def hints55 : List (Nat × List Nat) := [(7, [5, 7, 21, 22, 23])]
noncomputable def L55_0 (N : Nat) (n_L55_0 : Nat) (r_5 : ((List Int) × (Bool × Unit))) (r_3 : (List (List Int))) (many_7 : Int) (t23_8 : Int) : Out (Int × (Int × Unit)) :=
 vloop Tryz.prog (phi specs55) hints55 N Tryz.f55 true false ty3 [.at 1, .at 1, .at 1, .at 1, .at 1, .at 0, .at 1, .at 0] n_L55_0 [.und, .und, .und, .und, .und, .d (.list (.int .i64)) r_5.1, .und, .d (.int .i64) many_7, .und, .und, .und, .und, .und, .und, .und, .und, .und, .und, .und, .und, .und, .d (.list (.list (.int .i64))) r_3, .d (.int .i64) (lenI r_3), .d (.int .i64) t23_8, .und, .und, .und, .und, .und, .und, .und, .und, .und, .und, .und, .und]
theorem L55_0_succ (N : Nat) (n_L55_0 : Nat) (r_5 : ((List Int) × (Bool × Unit))) (r_3 : (List (List Int))) (many_7 : Int) (t23_8 : Int) : L55_0 N  (n_L55_0 + 1) r_5 r_3 many_7 t23_8 =
  (
  match (decide (t23_8 < (lenI r_3))) with
  | true =>
   bif (inb t23_8 r_3.length) then
    match ((lenI (List.getD r_3 t23_8.toNat ([] : List Int))) == (lenI r_5.1)) with
    | true =>
     L55_0 N n_L55_0 r_5 r_3 (IntKind.i64.wrap (many_7 + (1 : Int))) (IntKind.i64.wrap (t23_8 + (1 : Int)))
    | false =>
     L55_0 N n_L55_0 r_5 r_3 many_7 (IntKind.i64.wrap (t23_8 + (1 : Int)))
   else .fail
  | false =>
   .ret (many_7, ((0 : Int), ())) : Out (Int × (Int × Unit))) := by
 kernel_rfl
noncomputable def F55 (N : Nat) (x : (((List (Int × (Int × Unit))) × (Int × (Int × Unit))) × Unit)) : Out (Int × (Int × Unit)) :=
 match f77 (x.1, ()) with
 | .ret r_1 =>
  match (!r_1) with
  | true =>
   .ret ((0 : Int), ((2 : Int), ()))
  | false =>
   match f103 (((), x), ()) with
   | .ret r_3 =>
    match f96a (r_3, ((Value.func (.func 105) #[] #[]), ())) with
    | .ret r_5 =>
     L55_0 N N r_5 r_3 (0 : Int) (0 : Int)
    | .pan p_6 =>
     .pan p_6
    | .fail => .fail
   | .pan p_4 =>
    .pan p_4
   | .fail => .fail
 | .pan p_2 =>
  .pan p_2
 | .fail => .fail
theorem e55 (N : Nat) (x : (((List (Int × (Int × Unit))) × (Int × (Int × Unit))) × Unit)) : vfn Tryz.prog (phi specs55) hints55 N Tryz.f55 true false ty1 ty3 x = F55 N x := by
 kernel_rfl
noncomputable def f55 (x : (((List (Int × (Int × Unit))) × (Int × (Int × Unit))) × Unit)) : Out (Int × (Int × Unit)) := F55 fuel x
noncomputable def sp55 : Spec := ⟨55, .call, ty1, ty3, true, false, f55⟩
theorem c55 : Contract Tryz.prog sp55 := contract_at (l := specs55) (arg := ty1) (res := ty3) (multi := true) (own := false) (F := f55) mixed (all_cons c77 (all_cons c104a (all_cons c103 (all_cons c96a all_nil)))) Tryz.func55 rfl hints55 fun x _ => ⟨fuel, e55 fuel x⟩
noncomputable def specs56 : List Spec := [sp77, sp104a, sp140]
def hints56 : List (Nat × List Nat) := [(9, [1, 4, 5, 20, 24, 25, 26]), (15, [5, 9, 37, 38, 39]), (3000014, [4])]
noncomputable def L56_1 (N : Nat) (n_L56_1 : Nat) (all_7 : Int) (times_6 : (List Int)) (out_10 : (List Int)) (t39_11 : Int) : Out ((List Int) × (Int × Unit)) :=
 vloop Tryz.prog (phi specs56) hints56 N Tryz.f56 true false ty4 [.at 1, .at 1, .at 1, .at 1, .at 1, .at 1, .at 0, .at 1, .at 0] n_L56_1 [.und, .und, .und, .und, .und, .box [.d (.int .i64) all_7], .und, .und, .und, .own (.int .i64) out_10 false, .und, .und, .und, .und, .und, .und, .und, .und, .und, .und, .und, .und, .und, .und, .und, .und, .und, .und, .und, .und, .und, .und, .und, .und, .und, .und, .und, .d (.list (.int .i64)) times_6, .d (.int .i64) (lenI times_6), .d (.int .i64) t39_11, .und, .und, .und, .und, .und, .und, .und, .und, .und, .und, .und, .und, .und]
noncomputable def L56_2 (N : Nat) (n_L56_2 : Nat) (x : (((List (Int × (Int × Unit))) × (Int × (Int × Unit))) × Unit)) (y_8 : (List Int)) (r_1 : Bool) (ys_9 : (List (List Int))) (t_12 : (List (Int × (Int × Unit)))) (t_13 : Int) (t_14 : Int) (times_15 : (List Int)) (all_16 : Int) (t26_17 : Int) : Out ((List Int) × (Int × Unit)) :=
 vloop Tryz.prog (phi specs56) hints56 N Tryz.f56 true false ty4 [.at 1, .at 1, .at 1, .at 1, .at 0, .at 1, .at 0, .rg (.list (.int .i64)) ys_9 [.d ty8 x.1, .box [.d ty2 x.1.1, .d (.int .i64) x.1.2.1, .d (.int .i64) x.1.2.2.1], .d (.list (.int .i64)) ([] : List Int), .d (.int .i64) (0 : Int), .box [.arr (.int .i64) (zeros (.int .i64) (lenI x.1.1) : List Int) false], .box [.d (.int .i64) (0 : Int)], .und, .und, .und, .und, .und, .und, .d ty8 x.1, .d .bool r_1, .d .bool false, .und, .d ty2 x.1.1, .d (.int .i64) (lenI x.1.1), .und, .d ty8 x.1, .d (.clo 140 .unit ty19) ((), x), .und, .und, .und, .und, .und, .und, .und, .und, .und, .und, .und, .und, .und, .und, .und, .und, .und, .und, .und, .und, .und, .und, .und, .und, .und, .und, .und, .und, .und, .und, .und, .und], .at 0, .at 1, .at 1, .at 0] n_L56_2 [.und, .box [.d ty2 t_12, .d (.int .i64) t_13, .d (.int .i64) t_14], .und, .und, .box [.arr (.int .i64) times_15 false], .box [.d (.int .i64) all_16], .und, .und, .und, .und, .und, .und, .und, .und, .und, .und, .und, .und, .und, .und, .d (.clo 140 .unit ty19) ((), x), .und, .und, .und, .d (.list (.int .i64)) y_8, .d (.int .i64) (lenI y_8), .d (.int .i64) t26_17, .und, .und, .und, .und, .und, .und, .und, .und, .und, .und, .und, .und, .und, .und, .und, .und, .und, .und, .und, .und, .und, .und, .und, .und, .und, .und]
noncomputable def R56_0 (N : Nat) (ys_9 : List (List Int)) (x : (((List (Int × (Int × Unit))) × (Int × (Int × Unit))) × Unit)) (r_1 : Bool) (t_3 : (List (Int × (Int × Unit)))) (t_4 : Int) (t_5 : Int) (times_6 : (List Int)) (all_7 : Int) : Out ((List Int) × (Int × Unit)) :=
 vrng Tryz.prog (phi specs56) hints56 N Tryz.f56 true false ty4 [.at 1, .at 1, .at 1, .at 1, .at 0, .at 1, .at 0] (.list (.int .i64)) ys_9 [.d ty8 x.1, .box [.d ty2 x.1.1, .d (.int .i64) x.1.2.1, .d (.int .i64) x.1.2.2.1], .d (.list (.int .i64)) ([] : List Int), .d (.int .i64) (0 : Int), .box [.arr (.int .i64) (zeros (.int .i64) (lenI x.1.1) : List Int) false], .box [.d (.int .i64) (0 : Int)], .und, .und, .und, .und, .und, .und, .d ty8 x.1, .d .bool r_1, .d .bool false, .und, .d ty2 x.1.1, .d (.int .i64) (lenI x.1.1), .und, .d ty8 x.1, .d (.clo 140 .unit ty19) ((), x), .und, .und, .und, .und, .und, .und, .und, .und, .und, .und, .und, .und, .und, .und, .und, .und, .und, .und, .und, .und, .und, .und, .und, .und, .und, .und, .und, .und, .und, .und, .und, .und] [.d ty8 x.1, .box [.d ty2 t_3, .d (.int .i64) t_4, .d (.int .i64) t_5], .d (.list (.int .i64)) ([] : List Int), .d (.int .i64) (0 : Int), .box [.arr (.int .i64) times_6 false], .box [.d (.int .i64) all_7], .und, .und, .und, .und, .und, .und, .d ty8 x.1, .d .bool r_1, .d .bool false, .und, .d ty2 x.1.1, .d (.int .i64) (lenI x.1.1), .und, .d ty8 x.1, .d (.clo 140 .unit ty19) ((), x), .und, .und, .und, .und, .und, .und, .und, .und, .und, .und, .und, .und, .und, .und, .und, .und, .und, .und, .und, .und, .und, .und, .und, .und, .und, .und, .und, .und, .und, .und, .und, .und]
theorem L56_1_succ (N : Nat) (n_L56_1 : Nat) (all_7 : Int) (times_6 : (List Int)) (out_10 : (List Int)) (t39_11 : Int) : L56_1 N  (n_L56_1 + 1) all_7 times_6 out_10 t39_11 =
  (
  match (decide (t39_11 < (lenI times_6))) with
  | true =>
   bif (inb t39_11 times_6.length) then
    match ((List.getD times_6 t39_11.toNat (0 : Int)) == all_7) with
    | true =>
     bif (fits out_10 ([t39_11] : List Int)) then
      L56_1 N n_L56_1 all_7 times_6 (out_10 ++ ([t39_11] : List Int)) (IntKind.i64.wrap (t39_11 + (1 : Int)))
     else .fail
    | false =>
     L56_1 N n_L56_1 all_7 times_6 out_10 (IntKind.i64.wrap (t39_11 + (1 : Int)))
   else .fail
  | false =>
   .ret (out_10, ((0 : Int), ())) : Out ((List Int) × (Int × Unit))) := by
 kernel_rfl
theorem L56_2_succ (N : Nat) (n_L56_2 : Nat) (x : (((List (Int × (Int × Unit))) × (Int × (Int × Unit))) × Unit)) (y_8 : (List Int)) (r_1 : Bool) (ys_9 : (List (List Int))) (t_12 : (List (Int × (Int × Unit)))) (t_13 : Int) (t_14 : Int) (times_15 : (List Int)) (all_16 : Int) (t26_17 : Int) : L56_2 N  (n_L56_2 + 1) x y_8 r_1 ys_9 t_12 t_13 t_14 times_15 all_16 t26_17 =
  (
  match (decide (t26_17 < (lenI y_8))) with
  | true =>
   bif (inb t26_17 y_8.length) then
    bif (inb (List.getD y_8 t26_17.toNat (0 : Int)) times_15.length) then
     bif (decide (((List.getD y_8 t26_17.toNat (0 : Int)).toNat) < times_15.length)) then
      bif (inb (List.getD y_8 t26_17.toNat (0 : Int)) times_15.length) then
       bif (decide (((List.getD y_8 t26_17.toNat (0 : Int)).toNat) < times_15.length)) then
        L56_2 N n_L56_2 x y_8 r_1 ys_9 t_12 t_13 t_14 (List.set times_15 ((List.getD y_8 t26_17.toNat (0 : Int)).toNat) (IntKind.i64.wrap ((List.getD times_15 ((List.getD y_8 t26_17.toNat (0 : Int)).toNat) (0 : Int)) + (1 : Int)))) all_16 (IntKind.i64.wrap (t26_17 + (1 : Int)))
       else .fail
      else .fail
     else .fail
    else .fail
   else .fail
  | false =>
   R56_0 N ys_9 x r_1 t_12 t_13 t_14 times_15 all_16 : Out ((List Int) × (Int × Unit))) := by
 kernel_rfl
theorem R56_0_nil (N : Nat) (x : (((List (Int × (Int × Unit))) × (Int × (Int × Unit))) × Unit)) (r_1 : Bool) (t_3 : (List (Int × (Int × Unit)))) (t_4 : Int) (t_5 : Int) (times_6 : (List Int)) (all_7 : Int) : R56_0 N  [] x r_1 t_3 t_4 t_5 times_6 all_7 =
  (
  L56_1 N N all_7 times_6 ([] : List Int) (0 : Int) : Out ((List Int) × (Int × Unit))) := by
 kernel_rfl
theorem R56_0_cons (N : Nat) (y_8 : (List Int)) (ys_9 : List (List Int)) (x : (((List (Int × (Int × Unit))) × (Int × (Int × Unit))) × Unit)) (r_1 : Bool) (t_3 : (List (Int × (Int × Unit)))) (t_4 : Int) (t_5 : Int) (times_6 : (List Int)) (all_7 : Int) : R56_0 N  (y_8 :: ys_9) x r_1 t_3 t_4 t_5 times_6 all_7 =
  (
  L56_2 N N x y_8 r_1 ys_9 t_3 t_4 t_5 times_6 (IntKind.i64.wrap (all_7 + (1 : Int))) (0 : Int) : Out ((List Int) × (Int × Unit))) := by
 kernel_rfl
noncomputable def F56 (N : Nat) (x : (((List (Int × (Int × Unit))) × (Int × (Int × Unit))) × Unit)) : Out ((List Int) × (Int × Unit)) :=
 match f77 (x.1, ()) with
 | .ret r_1 =>
  match (!r_1) with
  | true =>
   .ret (([] : List Int), ((2 : Int), ()))
  | false =>
   bif (mayMake (lenI x.1.1)) then
    match f140 ((), x) with
    | .ret r_18 =>
     R56_0 N r_18 x r_1 x.1.1 x.1.2.1 x.1.2.2.1 (zeros (.int .i64) (lenI x.1.1) : List Int) (0 : Int)
    | _ => .fail
   else .fail
 | .pan p_2 =>
  .pan p_2
 | .fail => .fail
theorem e56 (N : Nat) (x : (((List (Int × (Int × Unit))) × (Int × (Int × Unit))) × Unit)) : vfn Tryz.prog (phi specs56) hints56 N Tryz.f56 true false ty1 ty4 x = F56 N x := by
 kernel_rfl
noncomputable def f56 (x : (((List (Int × (Int × Unit))) × (Int × (Int × Unit))) × Unit)) : Out ((List Int) × (Int × Unit)) := F56 fuel x
noncomputable def sp56 : Spec := ⟨56, .call, ty1, ty4, true, false, f56⟩
theorem c56 : Contract Tryz.prog sp56 := contract_at (l := specs56) (arg := ty1) (res := ty4) (multi := true) (own := false) (F := f56) mixed (all_cons c77 (all_cons c104a (all_cons c140 all_nil))) Tryz.func56 rfl hints56 fun x _ => ⟨fuel, e56 fuel x⟩
end Go.V
