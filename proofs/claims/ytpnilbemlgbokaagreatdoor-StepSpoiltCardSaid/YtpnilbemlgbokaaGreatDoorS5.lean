/- A part of the proof of a law of the step table. -/
import Derived.Test.YtpnilbemlgbokaaGreatDoorSY
set_option linter.all false
namespace Go.V
open Go.Proofs
noncomputable def specs117 : List Spec := [sp152, sp153, sp154, sp155, sp114]
def hints117 : List (Nat × List Nat) := [(8, [0, 2, 7, 44, 45, 46])]
noncomputable def L117_0 (N : Nat) (n_L117_0 : Nat) (x : ((List UInt8) × Unit)) (r_1 : (List (List UInt8))) (t2_13 : (List (Int × (Int × Unit)))) (t2_14 : Int) (t2_15 : Int) (t_16 : (List (Int × (Int × Unit)))) (t_17 : Int) (t_18 : Int) (t46_19 : Int) : Out ((List (Int × (Int × Unit))) × (Int × (Int × Unit))) :=
 vloop Tryz.prog (phi specs117) hints117 N Tryz.f117 false false ty8 [.at 1, .at 1, .at 1, .at 1, .at 1, .at 1, .at 1, .at 0, .at 1, .at 0] n_L117_0 [.d .str x.1, .und, .box [.own ty3 t2_13 false, .d (.int .i64) t2_14, .d (.int .i64) t2_15], .und, .und, .und, .und, .box [.own ty3 t_16 false, .d (.int .i64) t_17, .d (.int .i64) t_18], .und, .und, .und, .und, .und, .und, .und, .und, .und, .und, .und, .und, .und, .und, .und, .und, .und, .und, .und, .und, .und, .und, .und, .und, .und, .und, .und, .und, .und, .und, .und, .und, .und, .und, .und, .und, .d (.list .str) (cut r_1 (1 : Int) (IntKind.i64.wrap ((lenI r_1) - (2 : Int)))), .d (.int .i64) (lenI (cut r_1 (1 : Int) (IntKind.i64.wrap ((lenI r_1) - (2 : Int))))), .d (.int .i64) t46_19, .und, .und, .und, .und, .und, .und, .und, .und, .und, .und, .und, .und, .und, .und, .und, .und, .und, .und, .und, .und, .und, .und, .und, .und, .und, .und, .und, .und, .und, .und, .und, .und, .und, .und]
theorem L117_0_succ (N : Nat) (n_L117_0 : Nat) (x : ((List UInt8) × Unit)) (r_1 : (List (List UInt8))) (t2_13 : (List (Int × (Int × Unit)))) (t2_14 : Int) (t2_15 : Int) (t_16 : (List (Int × (Int × Unit)))) (t_17 : Int) (t_18 : Int) (t46_19 : Int) : L117_0 N  (n_L117_0 + 1) x r_1 t2_13 t2_14 t2_15 t_16 t_17 t_18 t46_19 =
  (
  match (decide (t46_19 < (lenI (cut r_1 (1 : Int) (IntKind.i64.wrap ((lenI r_1) - (2 : Int))))))) with
  | true =>
   bif (inb t46_19 (cut r_1 (1 : Int) (IntKind.i64.wrap ((lenI r_1) - (2 : Int)))).length) then
    match f152 ((List.getD (cut r_1 (1 : Int) (IntKind.i64.wrap ((lenI r_1) - (2 : Int)))) t46_19.toNat ([] : List UInt8)), (([32] : List UInt8), ())) with
    | .ret r_20 =>
     match f153 (((lenI r_20) == (3 : Int)), ((List.getD (cut r_1 (1 : Int) (IntKind.i64.wrap ((lenI r_1) - (2 : Int)))) t46_19.toNat ([] : List UInt8)), ())) with
     | .ret r_22 =>
      bif (inb (1 : Int) r_20.length) then
       match f155 ((List.getD r_20 (1 : Int).toNat ([] : List UInt8)), ()) with
       | .ret r_24 =>
        bif (inb (2 : Int) r_20.length) then
         match f155 ((List.getD r_20 (2 : Int).toNat ([] : List UInt8)), ()) with
         | .ret r_26 =>
          bif (fits t_16 ([(r_24, (r_26, ()))] : List (Int × (Int × Unit)))) then
           L117_0 N n_L117_0 x r_1 t2_13 t2_14 t2_15 (t_16 ++ ([(r_24, (r_26, ()))] : List (Int × (Int × Unit)))) t_17 t_18 (IntKind.i64.wrap (t46_19 + (1 : Int)))
          else .fail
         | .pan p_27 =>
          .pan p_27
         | .fail => .fail
        else .fail
       | .pan p_25 =>
        bif (inb (2 : Int) r_20.length) then
         .pan p_25
        else .fail
       | .fail => .fail
      else .fail
     | .pan p_23 =>
      .pan p_23
     | .fail => .fail
    | .pan p_21 =>
     .pan p_21
    | .fail => .fail
   else .fail
  | false =>
   match f114 ((t_16, (t_17, (t_18, ()))), ()) with
   | .ret r_28 =>
    match f153 ((r_28 == x.1), (x.1, ())) with
    | .ret r_30 =>
     .ret (t_16, (t_17, (t_18, ())))
    | .pan p_31 =>
     .pan p_31
    | .fail => .fail
   | .pan p_29 =>
    .pan p_29
   | .fail => .fail : Out ((List (Int × (Int × Unit))) × (Int × (Int × Unit)))) := by
 kernel_rfl
noncomputable def F117 (N : Nat) (x : ((List UInt8) × Unit)) : Out ((List (Int × (Int × Unit))) × (Int × (Int × Unit))) :=
 match f152 (x.1, (([10] : List UInt8), ())) with
 | .ret r_1 =>
  match f153 ((decide ((lenI r_1) ≥ (3 : Int))), (x.1, ())) with
  | .ret r_3 =>
   bif (inb (0 : Int) r_1.length) then
    match f152 ((List.getD r_1 (0 : Int).toNat ([] : List UInt8)), (([32] : List UInt8), ())) with
    | .ret r_5 =>
     match f153 (((lenI r_5) == (3 : Int)), (x.1, ())) with
     | .ret r_7 =>
      bif (inb (1 : Int) r_5.length) then
       match f154 ((List.getD r_5 (1 : Int).toNat ([] : List UInt8)), ()) with
       | .ret r_9 =>
        bif (inb (2 : Int) r_5.length) then
         match f154 ((List.getD r_5 (2 : Int).toNat ([] : List UInt8)), ()) with
         | .ret r_11 =>
          bif (cutOk (1 : Int) (IntKind.i64.wrap ((lenI r_1) - (2 : Int))) (lenI r_1)) then
           L117_0 N N x r_1 ([] : List (Int × (Int × Unit))) (0 : Int) (0 : Int) ([] : List (Int × (Int × Unit))) r_11 r_9 (0 : Int)
          else .fail
         | .pan p_12 =>
          .pan p_12
         | .fail => .fail
        else .fail
       | .pan p_10 =>
        bif (inb (2 : Int) r_5.length) then
         .pan p_10
        else .fail
       | .fail => .fail
      else .fail
     | .pan p_8 =>
      .pan p_8
     | .fail => .fail
    | .pan p_6 =>
     .pan p_6
    | .fail => .fail
   else .fail
  | .pan p_4 =>
   .pan p_4
  | .fail => .fail
 | .pan p_2 =>
  .pan p_2
 | .fail => .fail
theorem e117 (N : Nat) (x : ((List UInt8) × Unit)) : vfnCut Tryz.prog (phi specs117) hints117 N g6 [1, 1, 1, 1, 1, 1, 0] Tryz.f117 false false (.prod .str .unit) ty8 x = F117 N x := by
 kernel_rfl
noncomputable def f117 (x : ((List UInt8) × Unit)) : Out ((List (Int × (Int × Unit))) × (Int × (Int × Unit))) := F117 fuel x
noncomputable def sp117 : Spec := ⟨117, .call, (.prod .str .unit), ty8, false, false, f117⟩
theorem c117 : Contract Tryz.prog sp117 := contract_cut (l := specs117) (arg := (.prod .str .unit)) (res := ty8) (multi := false) (own := false) (F := f117) mixed (all_cons c152 (all_cons c153 (all_cons c154 (all_cons c155 (all_cons c114 all_nil))))) (c := bodyOf Tryz.f117) (r := .region 6 reg6 false) Tryz.func117 (by kernel_rfl) (g := g6) (path := [1, 1, 1, 1, 1, 1, 0]) (by kernel_rfl) reg6_ok hints117 fun x _ => ⟨fuel, e117 fuel x⟩
end Go.V
