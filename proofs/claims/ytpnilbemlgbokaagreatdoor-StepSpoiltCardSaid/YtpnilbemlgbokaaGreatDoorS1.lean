/- The functions read, second part. -/
import Derived.Test.YtpnilbemlgbokaaGreatDoorS1a
set_option linter.all false
namespace Go.V
open Go.Proofs
noncomputable def specs118 : List Spec := [sp156]
def hints118 : List (Nat × List Nat) := [(2, [0, 1, 5])]
noncomputable def L118_0 (N : Nat) (n_L118_0 : Nat) (x : ((List UInt8) × ((List Int) × Unit))) (word_1 : (List UInt8)) (i_2 : Int) : Out (List UInt8) :=
 vloop Tryz.prog (phi specs118) hints118 N Tryz.f118 false false .str [.at 1, .at 0, .at 1, .at 0] n_L118_0 [.d .str word_1, .d (.list (.int .i64)) x.2.1, .und, .und, .und, .d (.int .i64) i_2, .und, .und, .und, .und, .und, .und, .und, .und, .und, .und, .und, .und, .und, .und, .und]
theorem L118_0_succ (N : Nat) (n_L118_0 : Nat) (x : ((List UInt8) × ((List Int) × Unit))) (word_1 : (List UInt8)) (i_2 : Int) : L118_0 N  (n_L118_0 + 1) x word_1 i_2 =
  (
  match (decide (i_2 < (lenI x.2.1))) with
  | true =>
   bif (decide (word_1.length + ([32] : List UInt8).length < 1000000)) then
    bif (inb i_2 x.2.1.length) then
     match f156 ((List.getD x.2.1 i_2.toNat (0 : Int)), ()) with
     | .ret r_3 =>
      bif (decide ((word_1 ++ ([32] : List UInt8)).length + r_3.length < 1000000)) then
       L118_0 N n_L118_0 x ((word_1 ++ ([32] : List UInt8)) ++ r_3) (IntKind.i64.wrap (i_2 + (1 : Int)))
      else .fail
     | .pan p_4 =>
      .pan p_4
     | .fail => .fail
    else .fail
   else .fail
  | false =>
   .ret word_1 : Out (List UInt8)) := by
 kernel_rfl
noncomputable def F118 (N : Nat) (x : ((List UInt8) × ((List Int) × Unit))) : Out (List UInt8) :=
 L118_0 N N x x.1 (0 : Int)
theorem e118 (N : Nat) (x : ((List UInt8) × ((List Int) × Unit))) : vfn Tryz.prog (phi specs118) hints118 N Tryz.f118 false false (.prod .str (.prod (.list (.int .i64)) .unit)) .str x = F118 N x := by
 kernel_rfl
noncomputable def f118 (x : ((List UInt8) × ((List Int) × Unit))) : Out (List UInt8) := F118 fuel x
noncomputable def sp118 : Spec := ⟨118, .call, (.prod .str (.prod (.list (.int .i64)) .unit)), .str, false, false, f118⟩
theorem c118 : Contract Tryz.prog sp118 := contract_at (l := specs118) (arg := (.prod .str (.prod (.list (.int .i64)) .unit))) (res := .str) (multi := false) (own := false) (F := f118) mixed (all_cons c156 all_nil) Tryz.func118 rfl hints118 fun x _ => ⟨fuel, e118 fuel x⟩
noncomputable def specs119 : List Spec := [sp156]
def hints119 : List (Nat × List Nat) := [(3, [0, 1, 5, 6, 7]), (6, [0, 1, 5, 6, 7, 8])]
noncomputable def L119_1 (N : Nat) (n_L119_0 : Nat) (n_L119_1 : Nat) (x : ((List (List UInt8)) × (Int × Unit))) (out_1 : (List UInt8)) (i_3 : Int) (check_4 : Int) (k_5 : Int) : Out (List UInt8) :=
 vloop Tryz.prog (phi specs119) hints119 N Tryz.f119 false false .str [.at 1, .at 1, .at 0, .at 1, .at 0, .at n_L119_0, .at 1, .at 0, .at 0, .at 0, .at 1, .at 0] n_L119_1 [.d (.list .str) x.1, .d (.int .i64) x.2.1, .und, .und, .und, .d .str out_1, .d (.int .i64) check_4, .d (.int .i64) i_3, .d (.int .i64) k_5, .und, .und, .und, .und, .und, .und, .und, .und, .und, .und, .und, .und, .und, .und, .und, .und, .und, .und, .und, .und, .und, .und, .und, .und, .und, .und, .und, .und, .und, .und, .und, .und, .und, .und, .und, .und, .und, .und, .und, .und, .und, .und, .und, .und, .und, .und, .und, .und, .und, .und, .und, .und, .und, .und, .und, .und]
noncomputable def L119_0 (N : Nat) (n_L119_0 : Nat) (x : ((List (List UInt8)) × (Int × Unit))) (out_1 : (List UInt8)) (check_2 : Int) (i_3 : Int) : Out (List UInt8) :=
 vloop Tryz.prog (phi specs119) hints119 N Tryz.f119 false false .str [.at 1, .at 1, .at 0, .at 1, .at 0] n_L119_0 [.d (.list .str) x.1, .d (.int .i64) x.2.1, .und, .und, .und, .d .str out_1, .d (.int .i64) check_2, .d (.int .i64) i_3, .und, .und, .und, .und, .und, .und, .und, .und, .und, .und, .und, .und, .und, .und, .und, .und, .und, .und, .und, .und, .und, .und, .und, .und, .und, .und, .und, .und, .und, .und, .und, .und, .und, .und, .und, .und, .und, .und, .und, .und, .und, .und, .und, .und, .und, .und, .und, .und, .und, .und, .und, .und, .und, .und, .und, .und, .und]
theorem L119_1_succ (N : Nat) (n_L119_0 : Nat) (n_L119_1 : Nat) (x : ((List (List UInt8)) × (Int × Unit))) (out_1 : (List UInt8)) (i_3 : Int) (check_4 : Int) (k_5 : Int) : L119_1 N n_L119_0 (n_L119_1 + 1) x out_1 i_3 check_4 k_5 =
  (
  bif (inb i_3 x.1.length) then
   match (decide (k_5 < (lenI (List.getD x.1 i_3.toNat ([] : List UInt8))))) with
   | true =>
    bif (inb i_3 x.1.length) then
     bif (inb k_5 (List.getD x.1 i_3.toNat ([] : List UInt8)).length) then
      L119_1 N n_L119_0 n_L119_1 x out_1 i_3 (IntKind.i64.wrap (check_4 + (IntKind.i64.wrap ((IntKind.i64.wrap ((IntKind.i64.wrap (byteAt (List.getD x.1 i_3.toNat ([] : List UInt8)) k_5)) * (IntKind.i64.wrap (k_5 + (1 : Int))))) * (IntKind.i64.wrap (i_3 + (1 : Int))))))) (IntKind.i64.wrap (k_5 + (1 : Int)))
     else .fail
    else .fail
   | false =>
    bif (inb i_3 x.1.length) then
     bif (decide (out_1.length + (List.getD x.1 i_3.toNat ([] : List UInt8)).length < 1000000)) then
      bif (decide ((out_1 ++ (List.getD x.1 i_3.toNat ([] : List UInt8))).length + ([10] : List UInt8).length < 1000000)) then
       L119_0 N n_L119_0 x ((out_1 ++ (List.getD x.1 i_3.toNat ([] : List UInt8))) ++ ([10] : List UInt8)) check_4 (IntKind.i64.wrap (i_3 + (1 : Int)))
      else .fail
     else .fail
    else .fail
  else .fail : Out (List UInt8)) := by
 kernel_rfl
theorem L119_0_succ (N : Nat) (n_L119_0 : Nat) (x : ((List (List UInt8)) × (Int × Unit))) (out_1 : (List UInt8)) (check_2 : Int) (i_3 : Int) : L119_0 N  (n_L119_0 + 1) x out_1 check_2 i_3 =
  (
  match (decide (i_3 < (lenI x.1))) with
  | true =>
   L119_1 N n_L119_0 N x out_1 i_3 check_2 (0 : Int)
  | false =>
   bif (x.2.1 != (0 : Int)) then
    bif (decide (out_1.length + ([101, 110, 100, 32] : List UInt8).length < 1000000)) then
     match f156 ((IntKind.i64.wrap ((check_2.tmod x.2.1).tdiv (100 : Int))), ()) with
     | .ret r_6 =>
      bif (decide ((out_1 ++ ([101, 110, 100, 32] : List UInt8)).length + r_6.length < 1000000)) then
       match f156 (((IntKind.i64.wrap ((check_2.tmod x.2.1).tdiv (10 : Int))).tmod (10 : Int)), ()) with
       | .ret r_8 =>
        bif (decide (((out_1 ++ ([101, 110, 100, 32] : List UInt8)) ++ r_6).length + r_8.length < 1000000)) then
         match f156 (((check_2.tmod x.2.1).tmod (10 : Int)), ()) with
         | .ret r_10 =>
          bif (decide ((((out_1 ++ ([101, 110, 100, 32] : List UInt8)) ++ r_6) ++ r_8).length + r_10.length < 1000000)) then
           bif (decide (((((out_1 ++ ([101, 110, 100, 32] : List UInt8)) ++ r_6) ++ r_8) ++ r_10).length + ([10] : List UInt8).length < 1000000)) then
            .ret (((((out_1 ++ ([101, 110, 100, 32] : List UInt8)) ++ r_6) ++ r_8) ++ r_10) ++ ([10] : List UInt8))
           else .fail
          else .fail
         | .pan p_11 =>
          .pan p_11
         | .fail => .fail
        else .fail
       | .pan p_9 =>
        .pan p_9
       | .fail => .fail
      else .fail
     | .pan p_7 =>
      .pan p_7
     | .fail => .fail
    else .fail
   else .fail : Out (List UInt8)) := by
 kernel_rfl
noncomputable def F119 (N : Nat) (x : ((List (List UInt8)) × (Int × Unit))) : Out (List UInt8) :=
 L119_0 N N x ([] : List UInt8) (0 : Int) (0 : Int)
theorem e119 (N : Nat) (x : ((List (List UInt8)) × (Int × Unit))) : vfn Tryz.prog (phi specs119) hints119 N Tryz.f119 false false ty23 .str x = F119 N x := by
 kernel_rfl
noncomputable def f119 (x : ((List (List UInt8)) × (Int × Unit))) : Out (List UInt8) := F119 fuel x
noncomputable def sp119 : Spec := ⟨119, .call, ty23, .str, false, false, f119⟩
theorem c119 : Contract Tryz.prog sp119 := contract_at (l := specs119) (arg := ty23) (res := .str) (multi := false) (own := false) (F := f119) mixed (all_cons c156 all_nil) Tryz.func119 rfl hints119 fun x _ => ⟨fuel, e119 fuel x⟩
noncomputable def specs122 : List Spec := [sp157]
def hints122 : List (Nat × List Nat) := [(3, [0, 1, 6, 7])]
noncomputable def L122_0 (N : Nat) (n_L122_0 : Nat) (x : ((List (List UInt8)) × (Int × Unit))) (out_1 : (List Int)) (i_2 : Int) : Out ((List Int) × (Bool × Unit)) :=
 vloop Tryz.prog (phi specs122) hints122 N Tryz.f122 true false ty7 [.at 1, .at 1, .at 0, .at 1, .at 0] n_L122_0 [.d (.list .str) x.1, .d (.int .i64) x.2.1, .und, .und, .und, .und, .own (.int .i64) out_1 false, .d (.int .i64) i_2, .und, .und, .und, .und, .und, .und, .und, .und, .und, .und, .und, .und, .und, .und, .und, .und, .und, .und, .und, .und, .und, .und, .und, .und]
theorem L122_0_succ (N : Nat) (n_L122_0 : Nat) (x : ((List (List UInt8)) × (Int × Unit))) (out_1 : (List Int)) (i_2 : Int) : L122_0 N  (n_L122_0 + 1) x out_1 i_2 =
  (
  match (decide (i_2 < (lenI x.1))) with
  | true =>
   bif (inb i_2 x.1.length) then
    match f157 ((List.getD x.1 i_2.toNat ([] : List UInt8)), (x.2.1, ())) with
    | .ret r_3 =>
     match (!r_3.2.1) with
     | true =>
      .ret (([] : List Int), (false, ()))
     | false =>
      bif (fits out_1 ([r_3.1] : List Int)) then
       L122_0 N n_L122_0 x (out_1 ++ ([r_3.1] : List Int)) (IntKind.i64.wrap (i_2 + (1 : Int)))
      else .fail
    | .pan p_4 =>
     .pan p_4
    | .fail => .fail
   else .fail
  | false =>
   .ret (out_1, (true, ())) : Out ((List Int) × (Bool × Unit))) := by
 kernel_rfl
noncomputable def F122 (N : Nat) (x : ((List (List UInt8)) × (Int × Unit))) : Out ((List Int) × (Bool × Unit)) :=
 L122_0 N N x ([] : List Int) (0 : Int)
theorem e122 (N : Nat) (x : ((List (List UInt8)) × (Int × Unit))) : vfn Tryz.prog (phi specs122) hints122 N Tryz.f122 true false ty23 ty7 x = F122 N x := by
 kernel_rfl
noncomputable def f122 (x : ((List (List UInt8)) × (Int × Unit))) : Out ((List Int) × (Bool × Unit)) := F122 fuel x
noncomputable def sp122 : Spec := ⟨122, .call, ty23, ty7, true, false, f122⟩
theorem c122 : Contract Tryz.prog sp122 := contract_at (l := specs122) (arg := ty23) (res := ty7) (multi := true) (own := false) (F := f122) mixed (all_cons c157 all_nil) Tryz.func122 rfl hints122 fun x _ => ⟨fuel, e122 fuel x⟩
noncomputable def specs123a : List Spec := [sp158a]
def hints123a : List (Nat × List Nat) := []
noncomputable def F123a (N : Nat) (x : ((List (Int × (Int × Unit))) × (Value × Unit))) : Out Bool :=
 match f158a (x.1, ((Value.func (.func 124) #[] #[]), ())) with
 | .ret r_1 =>
  .ret (decide (r_1 ≥ (0 : Int)))
 | .pan p_2 =>
  .pan p_2
 | .fail => .fail
theorem e123a (N : Nat) (x : ((List (Int × (Int × Unit))) × (Value × Unit))) : vfn Tryz.prog (phi specs123a) hints123a N Tryz.f123 false false ty12 .bool (x.1, (Value.func (.func 124) #[] #[]), ()) = F123a N x := by
 kernel_rfl
@[irreducible] noncomputable def f123a (x : ((List (Int × (Int × Unit))) × (Value × Unit))) : Out Bool := vfn Tryz.prog (phi specs123a) hints123a fuel Tryz.f123 false false ty12 .bool x
noncomputable def sp123a : Spec := ⟨123, .call, ty12, .bool, false, false, f123a⟩
theorem q123a (x : ((List (Int × (Int × Unit))) × (Value × Unit))) : vfn Tryz.prog (phi specs123a) hints123a fuel Tryz.f123 false false ty12 .bool x = f123a x := by kernel_rfl
theorem c123a : Contract Tryz.prog sp123a := contract_at (l := specs123a) (arg := ty12) (res := .bool) (multi := false) (own := false) (F := f123a) mixed (all_cons c158a all_nil) Tryz.func123 rfl hints123a fun x _ => ⟨fuel, q123a x⟩
noncomputable def specs125 : List Spec := [sp159, sp27]
def hints125 : List (Nat × List Nat) := []
noncomputable def F125 (N : Nat) (x : ((((List (Int × (Int × Unit))) × (Int × (Int × Unit))) × ((List Int) × (Unit × Unit))) × ((Int × (Int × Unit)) × (Int × (Int × (Int × Unit)))))) : Out Int :=
 match f159 (([(IntKind.i64.wrap (x.2.2.1 * (IntKind.i64.wrap (x.2.1.2.1 - x.2.2.2.2.1)))), (IntKind.i64.wrap (x.2.2.2.1 * (IntKind.i64.wrap (x.2.2.2.2.1 - x.2.1.1))))] : List Int), ()) with
 | .ret r_1 =>
  match f27 (r_1, ((IntKind.i64.wrap (x.2.1.2.1 - x.2.1.1)), (x.1.1.2.1, ()))) with
  | .ret r_3 =>
   .ret r_3.1
  | .pan p_4 =>
   .pan p_4
  | .fail => .fail
 | .pan p_2 =>
  .pan p_2
 | .fail => .fail
theorem e125 (N : Nat) (x : ((((List (Int × (Int × Unit))) × (Int × (Int × Unit))) × ((List Int) × (Unit × Unit))) × ((Int × (Int × Unit)) × (Int × (Int × (Int × Unit)))))) : vfn Tryz.prog (phi specs125) hints125 N Tryz.f125 false false ty44 (.int .i64) x = F125 N x := by
 kernel_rfl
noncomputable def f125 (x : ((((List (Int × (Int × Unit))) × (Int × (Int × Unit))) × ((List Int) × (Unit × Unit))) × ((Int × (Int × Unit)) × (Int × (Int × (Int × Unit)))))) : Out Int := F125 fuel x
noncomputable def sp125 : Spec := ⟨125, .call, ty44, (.int .i64), false, false, f125⟩
theorem c125 : Contract Tryz.prog sp125 := contract_at (l := specs125) (arg := ty44) (res := (.int .i64)) (multi := false) (own := false) (F := f125) mixed (all_cons c159 (all_cons c27 all_nil)) Tryz.func125 rfl hints125 fun x _ => ⟨fuel, e125 fuel x⟩
noncomputable def specs132 : List Spec := [sp125, sp86]
def hints132 : List (Nat × List Nat) := [(3, [2, 3, 4, 7, 8]), (6, [2, 3, 4, 7, 8, 34, 35, 36]), (10, [2, 3, 4, 7, 8, 10, 11, 12, 34, 35, 36])]
noncomputable def L132_2 (N : Nat) (n_L132_0 : Nat) (n_L132_1 : Nat) (n_L132_2 : Nat) (x : ((((List (Int × (Int × Unit))) × (Int × (Int × Unit))) × ((List Int) × (Unit × Unit))) × ((Int × (Int × Unit)) × ((List Int) × Unit)))) (n_2 : Int) (t36_4 : Int) (out_5 : (List Int)) (fits_6 : Bool) (row_7 : Int) : Out (List Int) :=
 vloop Tryz.prog (phi specs132) hints132 N Tryz.f132 false true (.list (.int .i64)) [.at 1, .at 0, .at 1, .at 1, .at 0, .at 1, .at 0, .at n_L132_0, .at 1, .at 0, .at 0, .at 1, .at 0, .at n_L132_1, .at 1, .at 1, .at 0, .at 0, .at 1, .at 1, .at 0, .at 1, .at 0] n_L132_2 [.und, .und, .d (.list (.int .i64)) x.2.2.1, .box [.d ty2 x.1.1.1, .d (.int .i64) x.1.1.2.1, .d (.int .i64) x.1.1.2.2.1, .d (.list (.int .i64)) x.1.2.1, .d .opq x.1.2.2.1], .box [.d (.int .i64) x.2.1.1, .d (.int .i64) x.2.1.2.1], .und, .und, .own (.int .i64) out_5 false, .d (.int .i64) n_2, .und, .d (.int .i64) (List.getD x.2.2.1 t36_4.toNat (0 : Int)), .d .bool fits_6, .d (.int .i64) row_7, .und, .und, .und, .und, .und, .und, .und, .und, .und, .und, .und, .und, .und, .und, .und, .und, .und, .und, .und, .und, .und, .d (.list (.int .i64)) x.2.2.1, .d (.int .i64) (lenI x.2.2.1), .d (.int .i64) t36_4, .und, .und, .und, .und, .und, .und, .und, .und, .und, .und, .und, .und, .und, .und, .und, .und, .und, .und, .und, .und, .und, .und, .und, .und, .und, .und, .und, .und, .und, .und, .und, .und, .und, .und, .und, .und, .und, .und, .und, .und, .und, .und, .und, .und, .und, .und, .und, .und, .und, .und, .und, .und]
noncomputable def L132_1 (N : Nat) (n_L132_0 : Nat) (n_L132_1 : Nat) (x : ((((List (Int × (Int × Unit))) × (Int × (Int × Unit))) × ((List Int) × (Unit × Unit))) × ((Int × (Int × Unit)) × ((List Int) × Unit)))) (n_2 : Int) (out_3 : (List Int)) (t36_4 : Int) : Out (List Int) :=
 vloop Tryz.prog (phi specs132) hints132 N Tryz.f132 false true (.list (.int .i64)) [.at 1, .at 0, .at 1, .at 1, .at 0, .at 1, .at 0, .at n_L132_0, .at 1, .at 0, .at 0, .at 1, .at 0] n_L132_1 [.und, .und, .d (.list (.int .i64)) x.2.2.1, .box [.d ty2 x.1.1.1, .d (.int .i64) x.1.1.2.1, .d (.int .i64) x.1.1.2.2.1, .d (.list (.int .i64)) x.1.2.1, .d .opq x.1.2.2.1], .box [.d (.int .i64) x.2.1.1, .d (.int .i64) x.2.1.2.1], .und, .und, .own (.int .i64) out_3 false, .d (.int .i64) n_2, .und, .und, .und, .und, .und, .und, .und, .und, .und, .und, .und, .und, .und, .und, .und, .und, .und, .und, .und, .und, .und, .und, .und, .und, .und, .d (.list (.int .i64)) x.2.2.1, .d (.int .i64) (lenI x.2.2.1), .d (.int .i64) t36_4, .und, .und, .und, .und, .und, .und, .und, .und, .und, .und, .und, .und, .und, .und, .und, .und, .und, .und, .und, .und, .und, .und, .und, .und, .und, .und, .und, .und, .und, .und, .und, .und, .und, .und, .und, .und, .und, .und, .und, .und, .und, .und, .und, .und, .und, .und, .und, .und, .und, .und, .und, .und]
noncomputable def L132_0 (N : Nat) (n_L132_0 : Nat) (x : ((((List (Int × (Int × Unit))) × (Int × (Int × Unit))) × ((List Int) × (Unit × Unit))) × ((Int × (Int × Unit)) × ((List Int) × Unit)))) (out_1 : (List Int)) (n_2 : Int) : Out (List Int) :=
 vloop Tryz.prog (phi specs132) hints132 N Tryz.f132 false true (.list (.int .i64)) [.at 1, .at 0, .at 1, .at 1, .at 0, .at 1, .at 0] n_L132_0 [.und, .und, .d (.list (.int .i64)) x.2.2.1, .box [.d ty2 x.1.1.1, .d (.int .i64) x.1.1.2.1, .d (.int .i64) x.1.1.2.2.1, .d (.list (.int .i64)) x.1.2.1, .d .opq x.1.2.2.1], .box [.d (.int .i64) x.2.1.1, .d (.int .i64) x.2.1.2.1], .und, .und, .own (.int .i64) out_1 false, .d (.int .i64) n_2, .und, .und, .und, .und, .und, .und, .und, .und, .und, .und, .und, .und, .und, .und, .und, .und, .und, .und, .und, .und, .und, .und, .und, .und, .und, .und, .und, .und, .und, .und, .und, .und, .und, .und, .und, .und, .und, .und, .und, .und, .und, .und, .und, .und, .und, .und, .und, .und, .und, .und, .und, .und, .und, .und, .und, .und, .und, .und, .und, .und, .und, .und, .und, .und, .und, .und, .und, .und, .und, .und, .und, .und, .und, .und, .und, .und, .und, .und, .und, .und]
theorem L132_2_succ (N : Nat) (n_L132_0 : Nat) (n_L132_1 : Nat) (n_L132_2 : Nat) (x : ((((List (Int × (Int × Unit))) × (Int × (Int × Unit))) × ((List Int) × (Unit × Unit))) × ((Int × (Int × Unit)) × ((List Int) × Unit)))) (n_2 : Int) (t36_4 : Int) (out_5 : (List Int)) (fits_6 : Bool) (row_7 : Int) : L132_2 N n_L132_0 n_L132_1 (n_L132_2 + 1) x n_2 t36_4 out_5 fits_6 row_7 =
  (
  match (decide (row_7 < x.2.1.2.1)) with
  | true =>
   match f125 (x.1, (x.2.1, ((List.getD x.2.2.1 t36_4.toNat (0 : Int)), (n_2, (row_7, ()))))) with
   | .ret r_8 =>
    match fits_6 with
    | true =>
     bif (inb row_7 x.1.1.1.length) then
      bif (inb row_7 x.1.1.1.length) then
       match f86 (r_8, ((IntKind.i64.wrap (((List.getD x.1.1.1 row_7.toNat ((0 : Int), ((0 : Int), ())))).1 - x.1.1.2.2.1)), ((IntKind.i64.wrap (((List.getD x.1.1.1 row_7.toNat ((0 : Int), ((0 : Int), ())))).2.1 + x.1.1.2.2.1)), ()))) with
       | .ret r_10 =>
        L132_2 N n_L132_0 n_L132_1 n_L132_2 x n_2 t36_4 out_5 r_10 (IntKind.i64.wrap (row_7 + (1 : Int)))
       | .pan p_11 =>
        .pan p_11
       | .fail => .fail
      else .fail
     else .fail
    | false =>
     L132_2 N n_L132_0 n_L132_1 n_L132_2 x n_2 t36_4 out_5 false (IntKind.i64.wrap (row_7 + (1 : Int)))
   | .pan p_9 =>
    .pan p_9
   | .fail => .fail
  | false =>
   match fits_6 with
   | true =>
    bif (fits out_5 ([n_2] : List Int)) then
     L132_0 N n_L132_0 x (out_5 ++ ([n_2] : List Int)) (IntKind.i64.wrap (n_2 + (1 : Int)))
    else .fail
   | false =>
    L132_1 N n_L132_0 n_L132_1 x n_2 out_5 (IntKind.i64.wrap (t36_4 + (1 : Int))) : Out (List Int)) := by
 kernel_rfl
theorem L132_1_succ (N : Nat) (n_L132_0 : Nat) (n_L132_1 : Nat) (x : ((((List (Int × (Int × Unit))) × (Int × (Int × Unit))) × ((List Int) × (Unit × Unit))) × ((Int × (Int × Unit)) × ((List Int) × Unit)))) (n_2 : Int) (out_3 : (List Int)) (t36_4 : Int) : L132_1 N n_L132_0 (n_L132_1 + 1) x n_2 out_3 t36_4 =
  (
  match (decide (t36_4 < (lenI x.2.2.1))) with
  | true =>
   bif (inb t36_4 x.2.2.1.length) then
    L132_2 N n_L132_0 n_L132_1 N x n_2 t36_4 out_3 true (IntKind.i64.wrap (x.2.1.1 + (1 : Int)))
   else .fail
  | false =>
   L132_0 N n_L132_0 x out_3 (IntKind.i64.wrap (n_2 + (1 : Int))) : Out (List Int)) := by
 kernel_rfl
theorem L132_0_succ (N : Nat) (n_L132_0 : Nat) (x : ((((List (Int × (Int × Unit))) × (Int × (Int × Unit))) × ((List Int) × (Unit × Unit))) × ((Int × (Int × Unit)) × ((List Int) × Unit)))) (out_1 : (List Int)) (n_2 : Int) : L132_0 N  (n_L132_0 + 1) x out_1 n_2 =
  (
  bif (inb x.2.1.2.1 x.1.1.1.length) then
   match (decide (n_2 ≤ ((List.getD x.1.1.1 x.2.1.2.1.toNat ((0 : Int), ((0 : Int), ())))).2.1)) with
   | true =>
    L132_1 N n_L132_0 N x n_2 out_1 (0 : Int)
   | false =>
    .ret out_1
  else .fail : Out (List Int)) := by
 kernel_rfl
noncomputable def F132 (N : Nat) (x : ((((List (Int × (Int × Unit))) × (Int × (Int × Unit))) × ((List Int) × (Unit × Unit))) × ((Int × (Int × Unit)) × ((List Int) × Unit)))) : Out (List Int) :=
 bif (inb x.2.1.2.1 x.1.1.1.length) then
  L132_0 N N x ([] : List Int) ((List.getD x.1.1.1 x.2.1.2.1.toNat ((0 : Int), ((0 : Int), ())))).1
 else .fail
theorem e132 (N : Nat) (x : ((((List (Int × (Int × Unit))) × (Int × (Int × Unit))) × ((List Int) × (Unit × Unit))) × ((Int × (Int × Unit)) × ((List Int) × Unit)))) : vfn Tryz.prog (phi specs132) hints132 N Tryz.f132 false true ty45 (.list (.int .i64)) x = F132 N x := by
 kernel_rfl
noncomputable def f132 (x : ((((List (Int × (Int × Unit))) × (Int × (Int × Unit))) × ((List Int) × (Unit × Unit))) × ((Int × (Int × Unit)) × ((List Int) × Unit)))) : Out (List Int) := F132 fuel x
noncomputable def sp132 : Spec := ⟨132, .call, ty45, (.list (.int .i64)), false, true, f132⟩
theorem c132 : Contract Tryz.prog sp132 := contract_at (l := specs132) (arg := ty45) (res := (.list (.int .i64))) (multi := false) (own := true) (F := f132) mixed (all_cons c125 (all_cons c86 all_nil)) Tryz.func132 rfl hints132 fun x _ => ⟨fuel, e132 fuel x⟩
noncomputable def specs133 : List Spec := [sp147, sp72]
def hints133 : List (Nat × List Nat) := [(2, [1, 2, 3, 4, 5, 11])]
noncomputable def L133_0 (N : Nat) (n_L133_0 : Nat) (x : (((List (Int × (Int × Unit))) × (Int × (Int × Unit))) × (Int × (Int × (Int × (Int × Unit)))))) (r_1 : Int) : Out Bool :=
 vloop Tryz.prog (phi specs133) hints133 N Tryz.f133 false false .bool [.at 1, .at 0, .at 1, .at 0] n_L133_0 [.und, .d (.int .i64) x.2.1, .d (.int .i64) x.2.2.1, .d (.int .i64) x.2.2.2.1, .d (.int .i64) x.2.2.2.2.1, .box [.d ty2 x.1.1, .d (.int .i64) x.1.2.1, .d (.int .i64) x.1.2.2.1], .und, .und, .und, .und, .und, .d (.int .i64) r_1, .und, .und, .und, .und, .und, .und, .und, .und, .und, .und, .und, .und, .und, .und, .und, .und, .und, .und, .und, .und, .und, .und, .und, .und, .und, .und, .und, .und, .und, .und, .und, .und, .und, .und, .und]
theorem L133_0_succ (N : Nat) (n_L133_0 : Nat) (x : (((List (Int × (Int × Unit))) × (Int × (Int × Unit))) × (Int × (Int × (Int × (Int × Unit)))))) (r_1 : Int) : L133_0 N  (n_L133_0 + 1) x r_1 =
  (
  match (decide (r_1 < x.2.2.1)) with
  | true =>
   match f147 (x.1.2.1, (x.2.1, (x.2.2.1, (r_1, (x.2.2.2.1, (x.2.2.2.2.1, ())))))) with
   | .ret r_2 =>
    bif (inb r_1 x.1.1.length) then
     bif (inb r_1 x.1.1.length) then
      match f72 (r_2, ((IntKind.i64.wrap (((List.getD x.1.1 r_1.toNat ((0 : Int), ((0 : Int), ())))).1 - x.1.2.2.1)), ((IntKind.i64.wrap (((List.getD x.1.1 r_1.toNat ((0 : Int), ((0 : Int), ())))).2.1 + x.1.2.2.1)), ()))) with
      | .ret r_4 =>
       match (!r_4) with
       | true =>
        .ret false
       | false =>
        L133_0 N n_L133_0 x (IntKind.i64.wrap (r_1 + (1 : Int)))
      | .pan p_5 =>
       .pan p_5
      | .fail => .fail
     else .fail
    else .fail
   | .pan p_3 =>
    bif (inb r_1 x.1.1.length) then
     bif (inb r_1 x.1.1.length) then
      .pan p_3
     else .fail
    else .fail
   | .fail => .fail
  | false =>
   .ret true : Out Bool) := by
 kernel_rfl
noncomputable def F133 (N : Nat) (x : (((List (Int × (Int × Unit))) × (Int × (Int × Unit))) × (Int × (Int × (Int × (Int × Unit)))))) : Out Bool :=
 L133_0 N N x (IntKind.i64.wrap (x.2.1 + (1 : Int)))
theorem e133 (N : Nat) (x : (((List (Int × (Int × Unit))) × (Int × (Int × Unit))) × (Int × (Int × (Int × (Int × Unit)))))) : vfn Tryz.prog (phi specs133) hints133 N Tryz.f133 false false ty46 .bool x = F133 N x := by
 kernel_rfl
noncomputable def f133 (x : (((List (Int × (Int × Unit))) × (Int × (Int × Unit))) × (Int × (Int × (Int × (Int × Unit)))))) : Out Bool := F133 fuel x
noncomputable def sp133 : Spec := ⟨133, .call, ty46, .bool, false, false, f133⟩
theorem c133 : Contract Tryz.prog sp133 := contract_at (l := specs133) (arg := ty46) (res := .bool) (multi := false) (own := false) (F := f133) mixed (all_cons c147 (all_cons c72 all_nil)) Tryz.func133 rfl hints133 fun x _ => ⟨fuel, e133 fuel x⟩
noncomputable def specs137 : List Spec := [sp160]
def hints137 : List (Nat × List Nat) := []
noncomputable def F137 (N : Nat) (x : (Int × (Int × Unit))) : Out Int :=
 match (x.1 != x.1) with
 | true =>
  match (x.2.1 != x.2.1) with
  | true =>
   .ret (0 : Int)
  | false =>
   .ret (-1 : Int)
 | false =>
  match (x.2.1 != x.2.1) with
  | true =>
   .ret (1 : Int)
  | false =>
   match (decide (x.1 < x.2.1)) with
   | true =>
    .ret (-1 : Int)
   | false =>
    match (decide (x.1 > x.2.1)) with
    | true =>
     .ret (1 : Int)
    | false =>
     .ret (0 : Int)
theorem e137 (N : Nat) (x : (Int × (Int × Unit))) : vfn Tryz.prog (phi specs137) hints137 N Tryz.f137 false false ty3 (.int .i64) x = F137 N x := by
 kernel_rfl
noncomputable def f137 (x : (Int × (Int × Unit))) : Out Int := F137 fuel x
noncomputable def sp137 : Spec := ⟨137, .call, ty3, (.int .i64), false, false, f137⟩
theorem c137 : Contract Tryz.prog sp137 := contract_at (l := specs137) (arg := ty3) (res := (.int .i64)) (multi := false) (own := false) (F := f137) mixed (all_cons c160 all_nil) Tryz.func137 rfl hints137 fun x _ => ⟨fuel, e137 fuel x⟩
noncomputable def specs138 : List Spec := [sp161, sp162]
def hints138 : List (Nat × List Nat) := []
noncomputable def F138 (N : Nat) (x : ((((List (Int × (Int × Unit))) × (Int × (Int × Unit))) × ((List Int) × (Unit × Unit))) × (Int × (Int × Unit)))) : Out Int :=
 bif x.2.2.1 == (0 : Int) then
  bif (inb x.2.1 x.1.1.1.length) then
   .ret ((List.getD x.1.1.1 x.2.1.toNat ((0 : Int), ((0 : Int), ())))).1
  else .fail
 else
 bif x.2.2.1 == (1 : Int) then
  bif (inb x.2.1 x.1.1.1.length) then
   .ret ((List.getD x.1.1.1 x.2.1.toNat ((0 : Int), ((0 : Int), ())))).2.1
  else .fail
 else
 .fail
theorem e138 (N : Nat) (x : ((((List (Int × (Int × Unit))) × (Int × (Int × Unit))) × ((List Int) × (Unit × Unit))) × (Int × (Int × Unit)))) : vfn Tryz.prog (phi specs138) hints138 N Tryz.f138 false false ty47 (.int .i64) x = F138 N x := by
 kernel_rfl
noncomputable def f138 (x : ((((List (Int × (Int × Unit))) × (Int × (Int × Unit))) × ((List Int) × (Unit × Unit))) × (Int × (Int × Unit)))) : Out Int := F138 fuel x
noncomputable def sp138 : Spec := ⟨138, .call, ty47, (.int .i64), false, false, f138⟩
theorem c138 : Contract Tryz.prog sp138 := contract_at (l := specs138) (arg := ty47) (res := (.int .i64)) (multi := false) (own := false) (F := f138) mixed (all_cons c161 (all_cons c162 all_nil)) Tryz.func138 rfl hints138 fun x _ => ⟨fuel, e138 fuel x⟩
noncomputable def specs143 : List Spec := [sp160]
def hints143 : List (Nat × List Nat) := []
noncomputable def F143 (N : Nat) (x : (Int × (Int × Unit))) : Out Bool :=
 match (x.1 != x.1) with
 | true =>
  match (!(x.2.1 != x.2.1)) with
  | true =>
   .ret true
  | false =>
   .ret (decide (x.1 < x.2.1))
 | false =>
  .ret (decide (x.1 < x.2.1))
theorem e143 (N : Nat) (x : (Int × (Int × Unit))) : vfn Tryz.prog (phi specs143) hints143 N Tryz.f143 false false ty3 .bool x = F143 N x := by
 kernel_rfl
noncomputable def f143 (x : (Int × (Int × Unit))) : Out Bool := F143 fuel x
noncomputable def sp143 : Spec := ⟨143, .call, ty3, .bool, false, false, f143⟩
theorem c143 : Contract Tryz.prog sp143 := contract_at (l := specs143) (arg := ty3) (res := .bool) (multi := false) (own := false) (F := f143) mixed (all_cons c160 all_nil) Tryz.func143 rfl hints143 fun x _ => ⟨fuel, e143 fuel x⟩
noncomputable def specs178 : List Spec := [sp189]
def hints178 : List (Nat × List Nat) := []
noncomputable def F178 (N : Nat) (x : ((List UInt8) × ((List UInt8) × Unit))) : Out ((List UInt8) × (Bool × Unit)) :=
 match f189 (x.1, (x.2.1, ())) with
 | .ret r_1 =>
  match (!r_1) with
  | true =>
   .ret (x.1, (false, ()))
  | false =>
   bif (cutOk (lenI x.2.1) (lenI x.1) (lenI x.1)) then
    .ret ((cut x.1 (lenI x.2.1) (lenI x.1)), (true, ()))
   else .fail
 | .pan p_2 =>
  .pan p_2
 | .fail => .fail
theorem e178 (N : Nat) (x : ((List UInt8) × ((List UInt8) × Unit))) : vfn Tryz.prog (phi specs178) hints178 N Tryz.f178 true false ty15 ty24 x = F178 N x := by
 kernel_rfl
noncomputable def f178 (x : ((List UInt8) × ((List UInt8) × Unit))) : Out ((List UInt8) × (Bool × Unit)) := F178 fuel x
noncomputable def sp178 : Spec := ⟨178, .call, ty15, ty24, true, false, f178⟩
theorem c178 : Contract Tryz.prog sp178 := contract_at (l := specs178) (arg := ty15) (res := ty24) (multi := true) (own := false) (F := f178) mixed (all_cons c189 all_nil) Tryz.func178 rfl hints178 fun x _ => ⟨fuel, e178 fuel x⟩
noncomputable def specs34 : List Spec := [sp89, sp72, sp30, sp46]
def hints34 : List (Nat × List Nat) := [(2, [1, 3])]
noncomputable def L34_0 (N : Nat) (n_L34_0 : Nat) (x : (((List (Int × (Int × Unit))) × (Int × (Int × Unit))) × Unit)) (i_1 : Int) : Out Bool :=
 vloop Tryz.prog (phi specs34) hints34 N Tryz.f34 false false .bool [.at 1, .at 0, .at 1, .at 0] n_L34_0 [.und, .box [.d ty2 x.1.1, .d (.int .i64) x.1.2.1, .d (.int .i64) x.1.2.2.1], .und, .d (.int .i64) i_1, .und, .und, .und, .und, .und, .und, .und, .und, .und, .und, .und, .und, .und, .und, .und, .und, .und, .und, .und, .und, .und, .und, .und, .und, .und, .und, .und, .und]
theorem L34_0_succ (N : Nat) (n_L34_0 : Nat) (x : (((List (Int × (Int × Unit))) × (Int × (Int × Unit))) × Unit)) (i_1 : Int) : L34_0 N  (n_L34_0 + 1) x i_1 =
  (
  match (decide (i_1 < (lenI x.1.1))) with
  | true =>
   bif (inb i_1 x.1.1.length) then
    match f89 ((List.getD x.1.1 i_1.toNat ((0 : Int), ((0 : Int), ()))), ()) with
    | .ret r_2 =>
     match (!r_2) with
     | true =>
      .ret false
     | false =>
      L34_0 N n_L34_0 x (IntKind.i64.wrap (i_1 + (1 : Int)))
    | .pan p_3 =>
     .pan p_3
    | .fail => .fail
   else .fail
  | false =>
   match f72 ((lenI x.1.1), ((2 : Int), ((13 : Int), ()))) with
   | .ret r_4 =>
    match r_4 with
    | true =>
     match f30 (x.1.2.1, ()) with
     | .ret r_6 =>
      match r_6 with
      | true =>
       match f46 (x.1.2.2.1, ()) with
       | .ret r_8 =>
        .ret r_8
       | .pan p_9 =>
        .pan p_9
       | .fail => .fail
      | false =>
       .ret false
     | .pan p_7 =>
      .pan p_7
     | .fail => .fail
    | false =>
     .ret false
   | .pan p_5 =>
    .pan p_5
   | .fail => .fail : Out Bool) := by
 kernel_rfl
noncomputable def F34 (N : Nat) (x : (((List (Int × (Int × Unit))) × (Int × (Int × Unit))) × Unit)) : Out Bool :=
 L34_0 N N x (0 : Int)
theorem e34 (N : Nat) (x : (((List (Int × (Int × Unit))) × (Int × (Int × Unit))) × Unit)) : vfn Tryz.prog (phi specs34) hints34 N Tryz.f34 false false ty1 .bool x = F34 N x := by
 kernel_rfl
noncomputable def f34 (x : (((List (Int × (Int × Unit))) × (Int × (Int × Unit))) × Unit)) : Out Bool := F34 fuel x
noncomputable def sp34 : Spec := ⟨34, .call, ty1, .bool, false, false, f34⟩
theorem c34 : Contract Tryz.prog sp34 := contract_at (l := specs34) (arg := ty1) (res := .bool) (multi := false) (own := false) (F := f34) mixed (all_cons c89 (all_cons c72 (all_cons c30 (all_cons c46 all_nil)))) Tryz.func34 rfl hints34 fun x _ => ⟨fuel, e34 fuel x⟩
noncomputable def specs65 : List Spec := [sp113]
def hints65 : List (Nat × List Nat) := [(3, [1, 2, 3, 7, 8])]
noncomputable def L65_0 (N : Nat) (n_L65_0 : Nat) (x : (((List (Int × (Int × Unit))) × (Int × (Int × Unit))) × ((List Int) × ((List Int) × Unit)))) (out_1 : (List Int)) (r_2 : Int) : Out (List Int) :=
 vloop Tryz.prog (phi specs65) hints65 N Tryz.f65 false true (.list (.int .i64)) [.at 1, .at 1, .at 0, .at 1, .at 0] n_L65_0 [.und, .d (.list (.int .i64)) x.2.1, .d (.list (.int .i64)) x.2.2.1, .box [.d ty2 x.1.1, .d (.int .i64) x.1.2.1, .d (.int .i64) x.1.2.2.1], .und, .und, .und, .own (.int .i64) out_1 false, .d (.int .i64) r_2, .und, .und, .und, .und, .und, .und, .und, .und, .und, .und, .und, .und, .und, .und, .und, .und]
theorem L65_0_succ (N : Nat) (n_L65_0 : Nat) (x : (((List (Int × (Int × Unit))) × (Int × (Int × Unit))) × ((List Int) × ((List Int) × Unit)))) (out_1 : (List Int)) (r_2 : Int) : L65_0 N  (n_L65_0 + 1) x out_1 r_2 =
  (
  match (decide (r_2 < (lenI x.1.1))) with
  | true =>
   match f113 (x.1, (x.2.1, (r_2, (x.2.2.1, ())))) with
   | .ret r_3 =>
    bif (fits out_1 ([r_3] : List Int)) then
     L65_0 N n_L65_0 x (out_1 ++ ([r_3] : List Int)) (IntKind.i64.wrap (r_2 + (1 : Int)))
    else .fail
   | .pan p_4 =>
    .pan p_4
   | .fail => .fail
  | false =>
   .ret out_1 : Out (List Int)) := by
 kernel_rfl
noncomputable def F65 (N : Nat) (x : (((List (Int × (Int × Unit))) × (Int × (Int × Unit))) × ((List Int) × ((List Int) × Unit)))) : Out (List Int) :=
 L65_0 N N x ([] : List Int) (0 : Int)
theorem e65 (N : Nat) (x : (((List (Int × (Int × Unit))) × (Int × (Int × Unit))) × ((List Int) × ((List Int) × Unit)))) : vfn Tryz.prog (phi specs65) hints65 N Tryz.f65 false true ty10 (.list (.int .i64)) x = F65 N x := by
 kernel_rfl
noncomputable def f65 (x : (((List (Int × (Int × Unit))) × (Int × (Int × Unit))) × ((List Int) × ((List Int) × Unit)))) : Out (List Int) := F65 fuel x
noncomputable def sp65 : Spec := ⟨65, .call, ty10, (.list (.int .i64)), false, true, f65⟩
theorem c65 : Contract Tryz.prog sp65 := contract_at (l := specs65) (arg := ty10) (res := (.list (.int .i64))) (multi := false) (own := true) (F := f65) mixed (all_cons c113 all_nil) Tryz.func65 rfl hints65 fun x _ => ⟨fuel, e65 fuel x⟩
noncomputable def specs66 : List Spec := [sp113]
def hints66 : List (Nat × List Nat) := [(2, [1, 2, 3, 7])]
noncomputable def L66_0 (N : Nat) (n_L66_0 : Nat) (x : (((List (Int × (Int × Unit))) × (Int × (Int × Unit))) × ((List Int) × ((List Int) × Unit)))) (r_1 : Int) : Out Bool :=
 vloop Tryz.prog (phi specs66) hints66 N Tryz.f66 false false .bool [.at 1, .at 0, .at 1, .at 0] n_L66_0 [.und, .d (.list (.int .i64)) x.2.1, .d (.list (.int .i64)) x.2.2.1, .box [.d ty2 x.1.1, .d (.int .i64) x.1.2.1, .d (.int .i64) x.1.2.2.1], .und, .und, .und, .d (.int .i64) r_1, .und, .und, .und, .und, .und, .und, .und, .und, .und, .und, .und, .und, .und, .und, .und, .und, .und, .und, .und, .und, .und, .und, .und, .und, .und]
theorem L66_0_succ (N : Nat) (n_L66_0 : Nat) (x : (((List (Int × (Int × Unit))) × (Int × (Int × Unit))) × ((List Int) × ((List Int) × Unit)))) (r_1 : Int) : L66_0 N  (n_L66_0 + 1) x r_1 =
  (
  match (decide (r_1 < (lenI x.1.1))) with
  | true =>
   match f113 (x.1, (x.2.1, (r_1, (x.2.2.1, ())))) with
   | .ret r_2 =>
    bif (inb r_1 x.2.2.1.length) then
     match (decide ((if (IntKind.i64.wrap (0 - (IntKind.i64.wrap (r_2 - (List.getD x.2.2.1 r_1.toNat (0 : Int)))))) > (IntKind.i64.wrap (r_2 - (List.getD x.2.2.1 r_1.toNat (0 : Int)))) then (IntKind.i64.wrap (0 - (IntKind.i64.wrap (r_2 - (List.getD x.2.2.1 r_1.toNat (0 : Int)))))) else (IntKind.i64.wrap (r_2 - (List.getD x.2.2.1 r_1.toNat (0 : Int))))) > x.1.2.2.1)) with
     | true =>
      .ret false
     | false =>
      L66_0 N n_L66_0 x (IntKind.i64.wrap (r_1 + (1 : Int)))
    else .fail
   | .pan p_3 =>
    bif (inb r_1 x.2.2.1.length) then
     .pan p_3
    else .fail
   | .fail => .fail
  | false =>
   .ret true : Out Bool) := by
 kernel_rfl
noncomputable def F66 (N : Nat) (x : (((List (Int × (Int × Unit))) × (Int × (Int × Unit))) × ((List Int) × ((List Int) × Unit)))) : Out Bool :=
 L66_0 N N x (0 : Int)
theorem e66 (N : Nat) (x : (((List (Int × (Int × Unit))) × (Int × (Int × Unit))) × ((List Int) × ((List Int) × Unit)))) : vfn Tryz.prog (phi specs66) hints66 N Tryz.f66 false false ty10 .bool x = F66 N x := by
 kernel_rfl
noncomputable def f66 (x : (((List (Int × (Int × Unit))) × (Int × (Int × Unit))) × ((List Int) × ((List Int) × Unit)))) : Out Bool := F66 fuel x
noncomputable def sp66 : Spec := ⟨66, .call, ty10, .bool, false, false, f66⟩
theorem c66 : Contract Tryz.prog sp66 := contract_at (l := specs66) (arg := ty10) (res := .bool) (multi := false) (own := false) (F := f66) mixed (all_cons c113 all_nil) Tryz.func66 rfl hints66 fun x _ => ⟨fuel, e66 fuel x⟩
noncomputable def specs69 : List Spec := [sp118, sp119]
def hints69 : List (Nat × List Nat) := [(3, [1, 3, 4])]
noncomputable def L69_0 (N : Nat) (n_L69_0 : Nat) (x : (((List (Int × (Int × Unit))) × (Int × (Int × Unit))) × Unit)) (rows_3 : (List (List UInt8))) (i_4 : Int) : Out (List UInt8) :=
 vloop Tryz.prog (phi specs69) hints69 N Tryz.f69 false false .str [.at 1, .at 1, .at 0, .at 1, .at 0] n_L69_0 [.und, .box [.d ty2 x.1.1, .d (.int .i64) x.1.2.1, .d (.int .i64) x.1.2.2.1], .und, .own .str rows_3 false, .d (.int .i64) i_4, .und, .und, .und, .und, .und, .und, .und, .und, .und, .und, .und, .und, .und, .und, .und, .und, .und, .und, .und, .und, .und, .und, .und, .und, .und, .und, .und, .und, .und, .und, .und, .und, .und]
theorem L69_0_succ (N : Nat) (n_L69_0 : Nat) (x : (((List (Int × (Int × Unit))) × (Int × (Int × Unit))) × Unit)) (rows_3 : (List (List UInt8))) (i_4 : Int) : L69_0 N  (n_L69_0 + 1) x rows_3 i_4 =
  (
  match (decide (i_4 < (lenI x.1.1))) with
  | true =>
   bif (inb i_4 x.1.1.length) then
    bif (inb i_4 x.1.1.length) then
     match f118 (([118, 97, 108, 117, 101] : List UInt8), (([((List.getD x.1.1 i_4.toNat ((0 : Int), ((0 : Int), ())))).1, ((List.getD x.1.1 i_4.toNat ((0 : Int), ((0 : Int), ())))).2.1] : List Int), ())) with
     | .ret r_5 =>
      bif (fits rows_3 ([r_5] : List (List UInt8))) then
       L69_0 N n_L69_0 x (rows_3 ++ ([r_5] : List (List UInt8))) (IntKind.i64.wrap (i_4 + (1 : Int)))
      else .fail
     | .pan p_6 =>
      .pan p_6
     | .fail => .fail
    else .fail
   else .fail
  | false =>
   match f119 (rows_3, ((241 : Int), ())) with
   | .ret r_7 =>
    .ret r_7
   | .pan p_8 =>
    .pan p_8
   | .fail => .fail : Out (List UInt8)) := by
 kernel_rfl
noncomputable def F69 (N : Nat) (x : (((List (Int × (Int × Unit))) × (Int × (Int × Unit))) × Unit)) : Out (List UInt8) :=
 match f118 (([116, 97, 98, 108, 101] : List UInt8), (([x.1.2.2.1, x.1.2.1] : List Int), ())) with
 | .ret r_1 =>
  L69_0 N N x ([r_1] : List (List UInt8)) (0 : Int)
 | .pan p_2 =>
  .pan p_2
 | .fail => .fail
theorem e69 (N : Nat) (x : (((List (Int × (Int × Unit))) × (Int × (Int × Unit))) × Unit)) : vfn Tryz.prog (phi specs69) hints69 N Tryz.f69 false false ty1 .str x = F69 N x := by
 kernel_rfl
noncomputable def f69 (x : (((List (Int × (Int × Unit))) × (Int × (Int × Unit))) × Unit)) : Out (List UInt8) := F69 fuel x
noncomputable def sp69 : Spec := ⟨69, .call, ty1, .str, false, false, f69⟩
theorem c69 : Contract Tryz.prog sp69 := contract_at (l := specs69) (arg := ty1) (res := .str) (multi := false) (own := false) (F := f69) mixed (all_cons c118 (all_cons c119 all_nil)) Tryz.func69 rfl hints69 fun x _ => ⟨fuel, e69 fuel x⟩
noncomputable def specs71 : List Spec := [sp121, sp122, sp69]
def hints71 : List (Nat × List Nat) := [(4, [0, 2, 4, 5, 6])]
noncomputable def L71_0 (N : Nat) (n_L71_0 : Nat) (x : ((List UInt8) × Unit)) (t2_3 : (List (Int × (Int × Unit)))) (t2_4 : Int) (t2_5 : Int) (t_6 : (List (Int × (Int × Unit)))) (t_7 : Int) (t_8 : Int) (rows_9 : (List (List UInt8))) (i_10 : Int) : Out (((List (Int × (Int × Unit))) × (Int × (Int × Unit))) × (Bool × Unit)) :=
 vloop Tryz.prog (phi specs71) hints71 N Tryz.f71 true false ty27 [.at 1, .at 1, .at 1, .at 0, .at 1, .at 0] n_L71_0 [.d .str x.1, .und, .box [.own ty3 t2_3 false, .d (.int .i64) t2_4, .d (.int .i64) t2_5], .und, .box [.own ty3 t_6 false, .d (.int .i64) t_7, .d (.int .i64) t_8], .own .str rows_9 false, .d (.int .i64) i_10, .und, .und, .und, .und, .und, .und, .und, .und, .und, .und, .und, .und, .und, .und, .und, .und, .und, .und, .und, .und, .und, .und, .und, .und, .und, .und, .und, .und, .und, .und, .und, .und, .und, .und, .und, .und, .und, .und, .und, .und, .und, .und, .und, .und, .und, .und, .und, .und, .und, .und, .und, .und, .und, .und, .und, .und, .und, .und, .und, .und, .und, .und, .und, .und, .und, .und, .und, .und, .und, .und, .und, .und, .und, .und, .und, .und, .und, .und]
theorem L71_0_succ (N : Nat) (n_L71_0 : Nat) (x : ((List UInt8) × Unit)) (t2_3 : (List (Int × (Int × Unit)))) (t2_4 : Int) (t2_5 : Int) (t_6 : (List (Int × (Int × Unit)))) (t_7 : Int) (t_8 : Int) (rows_9 : (List (List UInt8))) (i_10 : Int) : L71_0 N  (n_L71_0 + 1) x t2_3 t2_4 t2_5 t_6 t_7 t_8 rows_9 i_10 =
  (
  match (decide (i_10 < (IntKind.i64.wrap ((lenI rows_9) - (2 : Int))))) with
  | true =>
   bif (inb i_10 rows_9.length) then
    match f121 ((List.getD rows_9 i_10.toNat ([] : List UInt8)), ((32 : Int), ())) with
    | .ret r_11 =>
     bif (cutOk (1 : Int) (lenI r_11) (lenI r_11)) then
      match f122 ((cut r_11 (1 : Int) (lenI r_11)), ((4 : Int), ())) with
      | .ret r_13 =>
       match (!r_13.2.1) with
       | true =>
        .ret ((([] : List (Int × (Int × Unit))), ((0 : Int), ((0 : Int), ()))), (false, ()))
       | false =>
        match ((lenI r_13.1) != (2 : Int)) with
        | true =>
         .ret ((([] : List (Int × (Int × Unit))), ((0 : Int), ((0 : Int), ()))), (false, ()))
        | false =>
         match (i_10 == (0 : Int)) with
         | true =>
          bif (inb (0 : Int) r_13.1.length) then
           match (decide ((List.getD r_13.1 (0 : Int).toNat (0 : Int)) < (0 : Int))) with
           | true =>
            .ret ((([] : List (Int × (Int × Unit))), ((0 : Int), ((0 : Int), ()))), (false, ()))
           | false =>
            bif (inb (1 : Int) r_13.1.length) then
             match (decide ((List.getD r_13.1 (1 : Int).toNat (0 : Int)) < (0 : Int))) with
             | true =>
              .ret ((([] : List (Int × (Int × Unit))), ((0 : Int), ((0 : Int), ()))), (false, ()))
             | false =>
              match (i_10 == (0 : Int)) with
              | true =>
               bif (inb (0 : Int) r_13.1.length) then
                bif (inb (1 : Int) r_13.1.length) then
                 L71_0 N n_L71_0 x t2_3 t2_4 t2_5 t_6 (List.getD r_13.1 (1 : Int).toNat (0 : Int)) (List.getD r_13.1 (0 : Int).toNat (0 : Int)) rows_9 (IntKind.i64.wrap (i_10 + (1 : Int)))
                else .fail
               else .fail
              | false =>
               bif (inb (0 : Int) r_13.1.length) then
                bif (inb (1 : Int) r_13.1.length) then
                 bif (fits t_6 ([((List.getD r_13.1 (0 : Int).toNat (0 : Int)), ((List.getD r_13.1 (1 : Int).toNat (0 : Int)), ()))] : List (Int × (Int × Unit)))) then
                  L71_0 N n_L71_0 x t2_3 t2_4 t2_5 (t_6 ++ ([((List.getD r_13.1 (0 : Int).toNat (0 : Int)), ((List.getD r_13.1 (1 : Int).toNat (0 : Int)), ()))] : List (Int × (Int × Unit)))) t_7 t_8 rows_9 (IntKind.i64.wrap (i_10 + (1 : Int)))
                 else .fail
                else .fail
               else .fail
            else .fail
          else .fail
         | false =>
          match (i_10 == (0 : Int)) with
          | true =>
           bif (inb (0 : Int) r_13.1.length) then
            bif (inb (1 : Int) r_13.1.length) then
             L71_0 N n_L71_0 x t2_3 t2_4 t2_5 t_6 (List.getD r_13.1 (1 : Int).toNat (0 : Int)) (List.getD r_13.1 (0 : Int).toNat (0 : Int)) rows_9 (IntKind.i64.wrap (i_10 + (1 : Int)))
            else .fail
           else .fail
          | false =>
           bif (inb (0 : Int) r_13.1.length) then
            bif (inb (1 : Int) r_13.1.length) then
             bif (fits t_6 ([((List.getD r_13.1 (0 : Int).toNat (0 : Int)), ((List.getD r_13.1 (1 : Int).toNat (0 : Int)), ()))] : List (Int × (Int × Unit)))) then
              L71_0 N n_L71_0 x t2_3 t2_4 t2_5 (t_6 ++ ([((List.getD r_13.1 (0 : Int).toNat (0 : Int)), ((List.getD r_13.1 (1 : Int).toNat (0 : Int)), ()))] : List (Int × (Int × Unit)))) t_7 t_8 rows_9 (IntKind.i64.wrap (i_10 + (1 : Int)))
             else .fail
            else .fail
           else .fail
      | .pan p_14 =>
       .pan p_14
      | .fail => .fail
     else .fail
    | .pan p_12 =>
     .pan p_12
    | .fail => .fail
   else .fail
  | false =>
   match (decide ((lenI rows_9) < (3 : Int))) with
   | true =>
    .ret ((([] : List (Int × (Int × Unit))), ((0 : Int), ((0 : Int), ()))), (false, ()))
   | false =>
    match f69 ((t_6, (t_7, (t_8, ()))), ()) with
    | .ret r_15 =>
     match (r_15 != x.1) with
     | true =>
      .ret ((([] : List (Int × (Int × Unit))), ((0 : Int), ((0 : Int), ()))), (false, ()))
     | false =>
      .ret ((t_6, (t_7, (t_8, ()))), (true, ()))
    | .pan p_16 =>
     .pan p_16
    | .fail => .fail : Out (((List (Int × (Int × Unit))) × (Int × (Int × Unit))) × (Bool × Unit))) := by
 kernel_rfl
noncomputable def F71 (N : Nat) (x : ((List UInt8) × Unit)) : Out (((List (Int × (Int × Unit))) × (Int × (Int × Unit))) × (Bool × Unit)) :=
 match f121 (x.1, ((10 : Int), ())) with
 | .ret r_1 =>
  L71_0 N N x ([] : List (Int × (Int × Unit))) (0 : Int) (0 : Int) ([] : List (Int × (Int × Unit))) (0 : Int) (0 : Int) r_1 (0 : Int)
 | .pan p_2 =>
  .pan p_2
 | .fail => .fail
theorem e71 (N : Nat) (x : ((List UInt8) × Unit)) : vfn Tryz.prog (phi specs71) hints71 N Tryz.f71 true false (.prod .str .unit) ty27 x = F71 N x := by
 kernel_rfl
noncomputable def f71 (x : ((List UInt8) × Unit)) : Out (((List (Int × (Int × Unit))) × (Int × (Int × Unit))) × (Bool × Unit)) := F71 fuel x
noncomputable def sp71 : Spec := ⟨71, .call, (.prod .str .unit), ty27, true, false, f71⟩
theorem c71 : Contract Tryz.prog sp71 := contract_at (l := specs71) (arg := (.prod .str .unit)) (res := ty27) (multi := true) (own := false) (F := f71) mixed (all_cons c121 (all_cons c122 (all_cons c69 all_nil))) Tryz.func71 rfl hints71 fun x _ => ⟨fuel, e71 fuel x⟩
noncomputable def specs77 : List Spec := [sp86, sp87, sp123a]
def hints77 : List (Nat × List Nat) := []
noncomputable def F77 (N : Nat) (x : (((List (Int × (Int × Unit))) × (Int × (Int × Unit))) × Unit)) : Out Bool :=
 match f86 ((lenI x.1.1), ((2 : Int), ((13 : Int), ()))) with
 | .ret r_1 =>
  match r_1 with
  | true =>
   match f87 (x.1.2.1, ()) with
   | .ret r_3 =>
    match r_3 with
    | true =>
     match f86 (x.1.2.2.1, ((0 : Int), ((100 : Int), ()))) with
     | .ret r_5 =>
      match r_5 with
      | true =>
       match f123a (x.1.1, ((Value.func (.func 124) #[] #[]), ())) with
       | .ret r_7 =>
        .ret (!r_7)
       | .pan p_8 =>
        .pan p_8
       | .fail => .fail
      | false =>
       .ret false
     | .pan p_6 =>
      .pan p_6
     | .fail => .fail
    | false =>
     .ret false
   | .pan p_4 =>
    .pan p_4
   | .fail => .fail
  | false =>
   .ret false
 | .pan p_2 =>
  .pan p_2
 | .fail => .fail
theorem e77 (N : Nat) (x : (((List (Int × (Int × Unit))) × (Int × (Int × Unit))) × Unit)) : vfn Tryz.prog (phi specs77) hints77 N Tryz.f77 false false ty1 .bool x = F77 N x := by
 kernel_rfl
noncomputable def f77 (x : (((List (Int × (Int × Unit))) × (Int × (Int × Unit))) × Unit)) : Out Bool := F77 fuel x
noncomputable def sp77 : Spec := ⟨77, .call, ty1, .bool, false, false, f77⟩
theorem c77 : Contract Tryz.prog sp77 := contract_at (l := specs77) (arg := ty1) (res := .bool) (multi := false) (own := false) (F := f77) mixed (all_cons c86 (all_cons c87 (all_cons c123a all_nil))) Tryz.func77 rfl hints77 fun x _ => ⟨fuel, e77 fuel x⟩
noncomputable def specs91 : List Spec := [sp132]
def hints91 : List (Nat × List Nat) := [(3, [1, 3, 4]), (7, [1, 3, 29, 30])]
noncomputable def L91_1 (N : Nat) (n_L91_1 : Nat) (x : ((((List (Int × (Int × Unit))) × (Int × (Int × Unit))) × ((List Int) × (Unit × Unit))) × Unit)) (l_3 : (List Int)) (t30_4 : Int) : Out Bool :=
 vloop Tryz.prog (phi specs91) hints91 N Tryz.f91 false false .bool [.at 1, .at 1, .at 1, .at 0, .at 1, .at 0] n_L91_1 [.und, .box [.d ty2 x.1.1.1, .d (.int .i64) x.1.1.2.1, .d (.int .i64) x.1.1.2.2.1, .d (.list (.int .i64)) x.1.2.1, .d .opq x.1.2.2.1], .und, .own (.int .i64) l_3 false, .und, .und, .und, .und, .und, .und, .und, .und, .und, .und, .und, .und, .und, .und, .und, .und, .und, .und, .und, .und, .und, .und, .und, .und, .und, .d (.int .i64) (IntKind.i64.wrap ((lenI x.1.2.1) - (1 : Int))), .d (.int .i64) t30_4, .und, .und, .und, .und, .und, .und, .und, .und, .und, .und, .und, .und, .und, .und, .und, .und, .und, .und, .und, .und, .und]
noncomputable def L91_0 (N : Nat) (n_L91_0 : Nat) (x : ((((List (Int × (Int × Unit))) × (Int × (Int × Unit))) × ((List Int) × (Unit × Unit))) × Unit)) (l_1 : (List Int)) (n_2 : Int) : Out Bool :=
 vloop Tryz.prog (phi specs91) hints91 N Tryz.f91 false false .bool [.at 1, .at 1, .at 0, .at 1, .at 0] n_L91_0 [.und, .box [.d ty2 x.1.1.1, .d (.int .i64) x.1.1.2.1, .d (.int .i64) x.1.1.2.2.1, .d (.list (.int .i64)) x.1.2.1, .d .opq x.1.2.2.1], .und, .own (.int .i64) l_1 false, .d (.int .i64) n_2, .und, .und, .und, .und, .und, .und, .und, .und, .und, .und, .und, .und, .und, .und, .und, .und, .und, .und, .und, .und, .und, .und, .und, .und, .und, .und, .und, .und, .und, .und, .und, .und, .und, .und, .und, .und, .und, .und, .und, .und, .und, .und, .und, .und, .und, .und, .und]
theorem L91_1_succ (N : Nat) (n_L91_1 : Nat) (x : ((((List (Int × (Int × Unit))) × (Int × (Int × Unit))) × ((List Int) × (Unit × Unit))) × Unit)) (l_3 : (List Int)) (t30_4 : Int) : L91_1 N  (n_L91_1 + 1) x l_3 t30_4 =
  (
  match (decide (t30_4 < (IntKind.i64.wrap ((lenI x.1.2.1) - (1 : Int))))) with
  | true =>
   bif (inb t30_4 x.1.2.1.length) then
    bif (inb (IntKind.i64.wrap (t30_4 + (1 : Int))) x.1.2.1.length) then
     match f132 (x.1, (((List.getD x.1.2.1 t30_4.toNat (0 : Int)), ((List.getD x.1.2.1 (IntKind.i64.wrap (t30_4 + (1 : Int))).toNat (0 : Int)), ())), (l_3, ()))) with
     | .ret r_5 =>
      L91_1 N n_L91_1 x r_5 (IntKind.i64.wrap (t30_4 + (1 : Int)))
     | .pan p_6 =>
      .pan p_6
     | .fail => .fail
    else .fail
   else .fail
  | false =>
   .ret (decide ((lenI l_3) > (0 : Int))) : Out Bool) := by
 kernel_rfl
theorem L91_0_succ (N : Nat) (n_L91_0 : Nat) (x : ((((List (Int × (Int × Unit))) × (Int × (Int × Unit))) × ((List Int) × (Unit × Unit))) × Unit)) (l_1 : (List Int)) (n_2 : Int) : L91_0 N  (n_L91_0 + 1) x l_1 n_2 =
  (
  bif (inb (0 : Int) x.1.1.1.length) then
   match (decide (n_2 ≤ ((List.getD x.1.1.1 (0 : Int).toNat ((0 : Int), ((0 : Int), ())))).2.1)) with
   | true =>
    bif (fits l_1 ([n_2] : List Int)) then
     L91_0 N n_L91_0 x (l_1 ++ ([n_2] : List Int)) (IntKind.i64.wrap (n_2 + (1 : Int)))
    else .fail
   | false =>
    L91_1 N N x l_1 (0 : Int)
  else .fail : Out Bool) := by
 kernel_rfl
noncomputable def F91 (N : Nat) (x : ((((List (Int × (Int × Unit))) × (Int × (Int × Unit))) × ((List Int) × (Unit × Unit))) × Unit)) : Out Bool :=
 bif (inb (0 : Int) x.1.1.1.length) then
  L91_0 N N x ([] : List Int) ((List.getD x.1.1.1 (0 : Int).toNat ((0 : Int), ((0 : Int), ())))).1
 else .fail
theorem e91 (N : Nat) (x : ((((List (Int × (Int × Unit))) × (Int × (Int × Unit))) × ((List Int) × (Unit × Unit))) × Unit)) : vfn Tryz.prog (phi specs91) hints91 N Tryz.f91 false false ty13 .bool x = F91 N x := by
 kernel_rfl
noncomputable def f91 (x : ((((List (Int × (Int × Unit))) × (Int × (Int × Unit))) × ((List Int) × (Unit × Unit))) × Unit)) : Out Bool := F91 fuel x
noncomputable def sp91 : Spec := ⟨91, .call, ty13, .bool, false, false, f91⟩
theorem c91 : Contract Tryz.prog sp91 := contract_at (l := specs91) (arg := ty13) (res := .bool) (multi := false) (own := false) (F := f91) mixed (all_cons c132 all_nil) Tryz.func91 rfl hints91 fun x _ => ⟨fuel, e91 fuel x⟩
noncomputable def specs93 : List Spec := [sp133]
def hints93 : List (Nat × List Nat) := [(3, [1, 2, 3, 4, 9, 10]), (7, [1, 2, 3, 4, 9, 10, 11, 12])]
noncomputable def L93_1 (N : Nat) (n_L93_0 : Nat) (n_L93_1 : Nat) (x : (((List (Int × (Int × Unit))) × (Int × (Int × Unit))) × (Int × (Int × ((List Int) × Unit))))) (n_2 : Int) (out_3 : (List Int)) (met_4 : Bool) (i_5 : Int) : Out (List Int) :=
 vloop Tryz.prog (phi specs93) hints93 N Tryz.f93 false true (.list (.int .i64)) [.at 1, .at 1, .at 0, .at 1, .at 0, .at n_L93_0, .at 1, .at 0, .at 0, .at 1, .at 0, .at 1, .at 0] n_L93_1 [.und, .d (.int .i64) x.2.1, .d (.int .i64) x.2.2.1, .d (.list (.int .i64)) x.2.2.2.1, .box [.d ty2 x.1.1, .d (.int .i64) x.1.2.1, .d (.int .i64) x.1.2.2.1], .und, .und, .und, .und, .own (.int .i64) out_3 false, .d (.int .i64) n_2, .d .bool met_4, .d (.int .i64) i_5, .und, .und, .und, .und, .und, .und, .und, .und, .und, .und, .und, .und, .und, .und, .und, .und, .und, .und, .und, .und, .und, .und, .und, .und, .und, .und, .und, .und, .und, .und, .und, .und, .und, .und, .und, .und, .und, .und, .und, .und]
noncomputable def L93_0 (N : Nat) (n_L93_0 : Nat) (x : (((List (Int × (Int × Unit))) × (Int × (Int × Unit))) × (Int × (Int × ((List Int) × Unit))))) (out_1 : (List Int)) (n_2 : Int) : Out (List Int) :=
 vloop Tryz.prog (phi specs93) hints93 N Tryz.f93 false true (.list (.int .i64)) [.at 1, .at 1, .at 0, .at 1, .at 0] n_L93_0 [.und, .d (.int .i64) x.2.1, .d (.int .i64) x.2.2.1, .d (.list (.int .i64)) x.2.2.2.1, .box [.d ty2 x.1.1, .d (.int .i64) x.1.2.1, .d (.int .i64) x.1.2.2.1], .und, .und, .und, .und, .own (.int .i64) out_1 false, .d (.int .i64) n_2, .und, .und, .und, .und, .und, .und, .und, .und, .und, .und, .und, .und, .und, .und, .und, .und, .und, .und, .und, .und, .und, .und, .und, .und, .und, .und, .und, .und, .und, .und, .und, .und, .und, .und, .und, .und, .und, .und, .und, .und, .und, .und]
theorem L93_1_succ (N : Nat) (n_L93_0 : Nat) (n_L93_1 : Nat) (x : (((List (Int × (Int × Unit))) × (Int × (Int × Unit))) × (Int × (Int × ((List Int) × Unit))))) (n_2 : Int) (out_3 : (List Int)) (met_4 : Bool) (i_5 : Int) : L93_1 N n_L93_0 (n_L93_1 + 1) x n_2 out_3 met_4 i_5 =
  (
  match (decide (i_5 < (lenI x.2.2.2.1))) with
  | true =>
   match met_4 with
   | true =>
    L93_1 N n_L93_0 n_L93_1 x n_2 out_3 true (IntKind.i64.wrap (i_5 + (1 : Int)))
   | false =>
    bif (inb i_5 x.2.2.2.1.length) then
     match f133 (x.1, (x.2.1, (x.2.2.1, ((List.getD x.2.2.2.1 i_5.toNat (0 : Int)), (n_2, ()))))) with
     | .ret r_6 =>
      L93_1 N n_L93_0 n_L93_1 x n_2 out_3 r_6 (IntKind.i64.wrap (i_5 + (1 : Int)))
     | .pan p_7 =>
      .pan p_7
     | .fail => .fail
    else .fail
  | false =>
   match met_4 with
   | true =>
    bif (fits out_3 ([n_2] : List Int)) then
     L93_0 N n_L93_0 x (out_3 ++ ([n_2] : List Int)) (IntKind.i64.wrap (n_2 + (1 : Int)))
    else .fail
   | false =>
    L93_0 N n_L93_0 x out_3 (IntKind.i64.wrap (n_2 + (1 : Int))) : Out (List Int)) := by
 kernel_rfl
theorem L93_0_succ (N : Nat) (n_L93_0 : Nat) (x : (((List (Int × (Int × Unit))) × (Int × (Int × Unit))) × (Int × (Int × ((List Int) × Unit))))) (out_1 : (List Int)) (n_2 : Int) : L93_0 N  (n_L93_0 + 1) x out_1 n_2 =
  (
  bif (inb x.2.2.1 x.1.1.length) then
   match (decide (n_2 ≤ ((List.getD x.1.1 x.2.2.1.toNat ((0 : Int), ((0 : Int), ())))).2.1)) with
   | true =>
    L93_1 N n_L93_0 N x n_2 out_1 false (0 : Int)
   | false =>
    .ret out_1
  else .fail : Out (List Int)) := by
 kernel_rfl
noncomputable def F93 (N : Nat) (x : (((List (Int × (Int × Unit))) × (Int × (Int × Unit))) × (Int × (Int × ((List Int) × Unit))))) : Out (List Int) :=
 bif (inb x.2.2.1 x.1.1.length) then
  L93_0 N N x ([] : List Int) ((List.getD x.1.1 x.2.2.1.toNat ((0 : Int), ((0 : Int), ())))).1
 else .fail
theorem e93 (N : Nat) (x : (((List (Int × (Int × Unit))) × (Int × (Int × Unit))) × (Int × (Int × ((List Int) × Unit))))) : vfn Tryz.prog (phi specs93) hints93 N Tryz.f93 false true ty48 (.list (.int .i64)) x = F93 N x := by
 kernel_rfl
noncomputable def f93 (x : (((List (Int × (Int × Unit))) × (Int × (Int × Unit))) × (Int × (Int × ((List Int) × Unit))))) : Out (List Int) := F93 fuel x
noncomputable def sp93 : Spec := ⟨93, .call, ty48, (.list (.int .i64)), false, true, f93⟩
theorem c93 : Contract Tryz.prog sp93 := contract_at (l := specs93) (arg := ty48) (res := (.list (.int .i64))) (multi := false) (own := true) (F := f93) mixed (all_cons c133 all_nil) Tryz.func93 rfl hints93 fun x _ => ⟨fuel, e93 fuel x⟩
noncomputable def specs94 : List Spec := [sp134, sp135, sp113, sp101]
def hints94 : List (Nat × List Nat) := []
noncomputable def F94 (N : Nat) (x : (((List (Int × (Int × Unit))) × (Int × (Int × Unit))) × ((List Int) × (Int × Unit)))) : Out Int :=
 match f134 (x.2.1, (x.2.2.1, ())) with
 | .ret r_1 =>
  match (r_1.1 == r_1.2.1) with
  | true =>
   .ret (0 : Int)
  | false =>
   match f135 (x.1, ()) with
   | .ret r_3 =>
    match f113 (x.1, (x.2.1, (x.2.2.1, (r_3, ())))) with
    | .ret r_5 =>
     bif (inb x.2.2.1 x.1.1.length) then
      bif (inb x.2.2.1 x.1.1.length) then
       match f101 (x.1, ()) with
       | .ret r_7 =>
        match f113 (x.1, (x.2.1, (x.2.2.1, (r_7, ())))) with
        | .ret r_9 =>
         .ret (if (IntKind.i64.wrap (((List.getD x.1.1 x.2.2.1.toNat ((0 : Int), ((0 : Int), ())))).2.1 - r_9)) > (IntKind.i64.wrap (r_5 - ((List.getD x.1.1 x.2.2.1.toNat ((0 : Int), ((0 : Int), ())))).1)) then (IntKind.i64.wrap (((List.getD x.1.1 x.2.2.1.toNat ((0 : Int), ((0 : Int), ())))).2.1 - r_9)) else (IntKind.i64.wrap (r_5 - ((List.getD x.1.1 x.2.2.1.toNat ((0 : Int), ((0 : Int), ())))).1)))
        | .pan p_10 =>
         .pan p_10
        | .fail => .fail
       | .pan p_8 =>
        .pan p_8
       | .fail => .fail
      else .fail
     else .fail
    | .pan p_6 =>
     bif (inb x.2.2.1 x.1.1.length) then
      bif (inb x.2.2.1 x.1.1.length) then
       .pan p_6
      else .fail
     else .fail
    | .fail => .fail
   | .pan p_4 =>
    bif (inb x.2.2.1 x.1.1.length) then
     bif (inb x.2.2.1 x.1.1.length) then
      .pan p_4
     else .fail
    else .fail
   | .fail => .fail
 | .pan p_2 =>
  .pan p_2
 | .fail => .fail
theorem e94 (N : Nat) (x : (((List (Int × (Int × Unit))) × (Int × (Int × Unit))) × ((List Int) × (Int × Unit)))) : vfn Tryz.prog (phi specs94) hints94 N Tryz.f94 false false ty18 (.int .i64) x = F94 N x := by
 kernel_rfl
noncomputable def f94 (x : (((List (Int × (Int × Unit))) × (Int × (Int × Unit))) × ((List Int) × (Int × Unit)))) : Out Int := F94 fuel x
noncomputable def sp94 : Spec := ⟨94, .call, ty18, (.int .i64), false, false, f94⟩
theorem c94 : Contract Tryz.prog sp94 := contract_at (l := specs94) (arg := ty18) (res := (.int .i64)) (multi := false) (own := false) (F := f94) mixed (all_cons c134 (all_cons c135 (all_cons c113 (all_cons c101 all_nil)))) Tryz.func94 rfl hints94 fun x _ => ⟨fuel, e94 fuel x⟩
noncomputable def specs98 : List Spec := [sp137]
def hints98 : List (Nat × List Nat) := [(2, [0, 1, 9, 10, 11])]
noncomputable def L98_0 (N : Nat) (n_L98_0 : Nat) (x : ((List Int) × ((List Int) × Unit))) (t11_1 : Int) : Out Int :=
 vloop Tryz.prog (phi specs98) hints98 N Tryz.f98 false false (.int .i64) [.at 1, .at 0, .at 1, .at 0] n_L98_0 [.d (.list (.int .i64)) x.1, .d (.list (.int .i64)) x.2.1, .und, .und, .und, .und, .und, .und, .und, .d (.list (.int .i64)) x.1, .d (.int .i64) (lenI x.1), .d (.int .i64) t11_1, .und, .und, .und, .und, .und, .und, .und, .und, .und, .und, .und, .und, .und, .und, .und, .und, .und, .und, .und, .und, .und, .und, .und, .und]
theorem L98_0_succ (N : Nat) (n_L98_0 : Nat) (x : ((List Int) × ((List Int) × Unit))) (t11_1 : Int) : L98_0 N  (n_L98_0 + 1) x t11_1 =
  (
  match (decide (t11_1 < (lenI x.1))) with
  | true =>
   bif (inb t11_1 x.1.length) then
    match (decide (t11_1 ≥ (lenI x.2.1))) with
    | true =>
     .ret (1 : Int)
    | false =>
     bif (inb t11_1 x.2.1.length) then
      match f137 ((List.getD x.1 t11_1.toNat (0 : Int)), ((List.getD x.2.1 t11_1.toNat (0 : Int)), ())) with
      | .ret r_2 =>
       match (r_2 != (0 : Int)) with
       | true =>
        .ret r_2
       | false =>
        L98_0 N n_L98_0 x (IntKind.i64.wrap (t11_1 + (1 : Int)))
      | .pan p_3 =>
       .pan p_3
      | .fail => .fail
     else .fail
   else .fail
  | false =>
   match (decide ((lenI x.1) < (lenI x.2.1))) with
   | true =>
    .ret (-1 : Int)
   | false =>
    .ret (0 : Int) : Out Int) := by
 kernel_rfl
noncomputable def F98 (N : Nat) (x : ((List Int) × ((List Int) × Unit))) : Out Int :=
 L98_0 N N x (0 : Int)
theorem e98 (N : Nat) (x : ((List Int) × ((List Int) × Unit))) : vfn Tryz.prog (phi specs98) hints98 N Tryz.f98 false false ty9 (.int .i64) x = F98 N x := by
 kernel_rfl
noncomputable def f98 (x : ((List Int) × ((List Int) × Unit))) : Out Int := F98 fuel x
noncomputable def sp98 : Spec := ⟨98, .call, ty9, (.int .i64), false, false, f98⟩
theorem c98 : Contract Tryz.prog sp98 := contract_at (l := specs98) (arg := ty9) (res := (.int .i64)) (multi := false) (own := false) (F := f98) mixed (all_cons c137 all_nil) Tryz.func98 rfl hints98 fun x _ => ⟨fuel, e98 fuel x⟩
noncomputable def specs100 : List Spec := [sp138, sp125]
def hints100 : List (Nat × List Nat) := []
noncomputable def F100 (N : Nat) (x : ((((List (Int × (Int × Unit))) × (Int × (Int × Unit))) × ((List Int) × (Unit × Unit))) × ((Int × (Int × Unit)) × (Int × Unit)))) : Out Int :=
 match f138 (x.1, (x.2.1.1, ((1 : Int), ()))) with
 | .ret r_1 =>
  match f138 (x.1, (x.2.1.2.1, ((1 : Int), ()))) with
  | .ret r_3 =>
   match f125 (x.1, (x.2.1, (r_1, (r_3, (x.2.2.1, ()))))) with
   | .ret r_5 =>
    match f138 (x.1, (x.2.1.1, ((0 : Int), ()))) with
    | .ret r_7 =>
     match f138 (x.1, (x.2.1.2.1, ((0 : Int), ()))) with
     | .ret r_9 =>
      match f125 (x.1, (x.2.1, (r_7, (r_9, (x.2.2.1, ()))))) with
      | .ret r_11 =>
       match f138 (x.1, (x.2.2.1, ((0 : Int), ()))) with
       | .ret r_13 =>
        match f138 (x.1, (x.2.2.1, ((1 : Int), ()))) with
        | .ret r_15 =>
         .ret (if (IntKind.i64.wrap (r_15 - r_11)) > (IntKind.i64.wrap (r_5 - r_13)) then (IntKind.i64.wrap (r_15 - r_11)) else (IntKind.i64.wrap (r_5 - r_13)))
        | .pan p_16 =>
         .pan p_16
        | .fail => .fail
       | .pan p_14 =>
        .pan p_14
       | .fail => .fail
      | .pan p_12 =>
       .pan p_12
      | .fail => .fail
     | .pan p_10 =>
      .pan p_10
     | .fail => .fail
    | .pan p_8 =>
     .pan p_8
    | .fail => .fail
   | .pan p_6 =>
    .pan p_6
   | .fail => .fail
  | .pan p_4 =>
   .pan p_4
  | .fail => .fail
 | .pan p_2 =>
  .pan p_2
 | .fail => .fail
theorem e100 (N : Nat) (x : ((((List (Int × (Int × Unit))) × (Int × (Int × Unit))) × ((List Int) × (Unit × Unit))) × ((Int × (Int × Unit)) × (Int × Unit)))) : vfn Tryz.prog (phi specs100) hints100 N Tryz.f100 false false ty49 (.int .i64) x = F100 N x := by
 kernel_rfl
noncomputable def f100 (x : ((((List (Int × (Int × Unit))) × (Int × (Int × Unit))) × ((List Int) × (Unit × Unit))) × ((Int × (Int × Unit)) × (Int × Unit)))) : Out Int := F100 fuel x
noncomputable def sp100 : Spec := ⟨100, .call, ty49, (.int .i64), false, false, f100⟩
theorem c100 : Contract Tryz.prog sp100 := contract_at (l := specs100) (arg := ty49) (res := (.int .i64)) (multi := false) (own := false) (F := f100) mixed (all_cons c138 (all_cons c125 all_nil)) Tryz.func100 rfl hints100 fun x _ => ⟨fuel, e100 fuel x⟩
noncomputable def specs107 : List Spec := [sp94]
def hints107 : List (Nat × List Nat) := [(2, [1, 2, 3, 7])]
noncomputable def L107_0 (N : Nat) (n_L107_0 : Nat) (x : (((List (Int × (Int × Unit))) × (Int × (Int × Unit))) × (Int × (Int × Unit)))) (r_1 : Int) : Out Bool :=
 vloop Tryz.prog (phi specs107) hints107 N Tryz.f107 false false .bool [.at 1, .at 0, .at 1, .at 0] n_L107_0 [.und, .d (.int .i64) x.2.1, .d (.int .i64) x.2.2.1, .box [.d ty2 x.1.1, .d (.int .i64) x.1.2.1, .d (.int .i64) x.1.2.2.1], .und, .und, .und, .d (.int .i64) r_1, .und, .und, .und, .und, .und, .und, .und, .und, .und, .und, .und, .und, .und, .und, .und, .und]
theorem L107_0_succ (N : Nat) (n_L107_0 : Nat) (x : (((List (Int × (Int × Unit))) × (Int × (Int × Unit))) × (Int × (Int × Unit)))) (r_1 : Int) : L107_0 N  (n_L107_0 + 1) x r_1 =
  (
  match (decide (r_1 < x.2.2.1)) with
  | true =>
   match f94 (x.1, (([x.2.1, x.2.2.1] : List Int), (r_1, ()))) with
   | .ret r_2 =>
    match (decide (r_2 > x.1.2.2.1)) with
    | true =>
     .ret false
    | false =>
     L107_0 N n_L107_0 x (IntKind.i64.wrap (r_1 + (1 : Int)))
   | .pan p_3 =>
    .pan p_3
   | .fail => .fail
  | false =>
   .ret true : Out Bool) := by
 kernel_rfl
noncomputable def F107 (N : Nat) (x : (((List (Int × (Int × Unit))) × (Int × (Int × Unit))) × (Int × (Int × Unit)))) : Out Bool :=
 L107_0 N N x (IntKind.i64.wrap (x.2.1 + (1 : Int)))
theorem e107 (N : Nat) (x : (((List (Int × (Int × Unit))) × (Int × (Int × Unit))) × (Int × (Int × Unit)))) : vfn Tryz.prog (phi specs107) hints107 N Tryz.f107 false false ty21 .bool x = F107 N x := by
 kernel_rfl
noncomputable def f107 (x : (((List (Int × (Int × Unit))) × (Int × (Int × Unit))) × (Int × (Int × Unit)))) : Out Bool := F107 fuel x
noncomputable def sp107 : Spec := ⟨107, .call, ty21, .bool, false, false, f107⟩
theorem c107 : Contract Tryz.prog sp107 := contract_at (l := specs107) (arg := ty21) (res := .bool) (multi := false) (own := false) (F := f107) mixed (all_cons c94 all_nil) Tryz.func107 rfl hints107 fun x _ => ⟨fuel, e107 fuel x⟩
noncomputable def specs108 : List Spec := [sp143, sp144]
def hints108 : List (Nat × List Nat) := [(3, [0, 1, 6, 7, 8])]
noncomputable def L108_0 (N : Nat) (n_L108_0 : Nat) (x : ((List Int) × (Int × Unit))) (i_1 : Int) (j_2 : Int) : Out (Int × (Bool × Unit)) :=
 vloop Tryz.prog (phi specs108) hints108 N Tryz.f108 true false ty17 [.at 1, .at 1, .at 1, .at 0, .at 0] n_L108_0 [.d (.list (.int .i64)) x.1, .d (.int .i64) x.2.1, .und, .und, .und, .und, .d (.int .i64) (lenI x.1), .d (.int .i64) i_1, .d (.int .i64) j_2, .und, .und, .und, .und, .und, .und, .und, .und, .und, .und, .und, .und, .und, .und, .und, .und, .und, .und, .und, .und, .und, .und, .und, .und, .und, .und, .und, .und, .und, .und, .und, .und, .und, .und, .und, .und, .und, .und, .und, .und, .und, .und, .und, .und, .und]
theorem L108_0_succ (N : Nat) (n_L108_0 : Nat) (x : ((List Int) × (Int × Unit))) (i_1 : Int) (j_2 : Int) : L108_0 N  (n_L108_0 + 1) x i_1 j_2 =
  (
  match (decide (i_1 < j_2)) with
  | true =>
   bif (decide (0 ≤ (1 : Int))) then
    bif (inb (IntKind.i64.wrap ((IntKind.u64.wrap (IntKind.i64.wrap (i_1 + j_2))).fdiv (2 ^ (min (1 : Int).toNat IntKind.u64.bits)))) x.1.length) then
     match f143 ((List.getD x.1 (IntKind.i64.wrap ((IntKind.u64.wrap (IntKind.i64.wrap (i_1 + j_2))).fdiv (2 ^ (min (1 : Int).toNat IntKind.u64.bits)))).toNat (0 : Int)), (x.2.1, ())) with
     | .ret r_3 =>
      match r_3 with
      | true =>
       L108_0 N n_L108_0 x (IntKind.i64.wrap ((IntKind.i64.wrap ((IntKind.u64.wrap (IntKind.i64.wrap (i_1 + j_2))).fdiv (2 ^ (min (1 : Int).toNat IntKind.u64.bits)))) + (1 : Int))) j_2
      | false =>
       L108_0 N n_L108_0 x i_1 (IntKind.i64.wrap ((IntKind.u64.wrap (IntKind.i64.wrap (i_1 + j_2))).fdiv (2 ^ (min (1 : Int).toNat IntKind.u64.bits))))
     | .pan p_4 =>
      .pan p_4
     | .fail => .fail
    else .fail
   else .fail
  | false =>
   match (decide (i_1 < (lenI x.1))) with
   | true =>
    bif (inb i_1 x.1.length) then
     match ((List.getD x.1 i_1.toNat (0 : Int)) == x.2.1) with
     | true =>
      .ret (i_1, (true, ()))
     | false =>
      bif (inb i_1 x.1.length) then
       match ((List.getD x.1 i_1.toNat (0 : Int)) != (List.getD x.1 i_1.toNat (0 : Int))) with
       | true =>
        .ret (i_1, ((x.2.1 != x.2.1), ()))
       | false =>
        .ret (i_1, (false, ()))
      else .fail
    else .fail
   | false =>
    .ret (i_1, (false, ())) : Out (Int × (Bool × Unit))) := by
 kernel_rfl
noncomputable def F108 (N : Nat) (x : ((List Int) × (Int × Unit))) : Out (Int × (Bool × Unit)) :=
 L108_0 N N x (0 : Int) (lenI x.1)
theorem e108 (N : Nat) (x : ((List Int) × (Int × Unit))) : vfn Tryz.prog (phi specs108) hints108 N Tryz.f108 true false ty4 ty17 x = F108 N x := by
 kernel_rfl
noncomputable def f108 (x : ((List Int) × (Int × Unit))) : Out (Int × (Bool × Unit)) := F108 fuel x
noncomputable def sp108 : Spec := ⟨108, .call, ty4, ty17, true, false, f108⟩
theorem c108 : Contract Tryz.prog sp108 := contract_at (l := specs108) (arg := ty4) (res := ty17) (multi := true) (own := false) (F := f108) mixed (all_cons c143 (all_cons c144 all_nil)) Tryz.func108 rfl hints108 fun x _ => ⟨fuel, e108 fuel x⟩
noncomputable def specs136 : List Spec := [sp138]
def hints136 : List (Nat × List Nat) := [(3, [1, 3, 8, 9])]
noncomputable def L136_0 (N : Nat) (n_L136_0 : Nat) (x : ((((List (Int × (Int × Unit))) × (Int × (Int × Unit))) × ((List Int) × (Unit × Unit))) × Unit)) (out_1 : (List Int)) (t9_2 : Int) : Out (List Int) :=
 vloop Tryz.prog (phi specs136) hints136 N Tryz.f136 false true (.list (.int .i64)) [.at 1, .at 1, .at 0, .at 1, .at 0] n_L136_0 [.und, .box [.d ty2 x.1.1.1, .d (.int .i64) x.1.1.2.1, .d (.int .i64) x.1.1.2.2.1, .d (.list (.int .i64)) x.1.2.1, .d .opq x.1.2.2.1], .und, .own (.int .i64) out_1 false, .und, .und, .und, .und, .d (.int .i64) (lenI x.1.1.1), .d (.int .i64) t9_2, .und, .und, .und, .und, .und, .und, .und, .und, .und, .und]
theorem L136_0_succ (N : Nat) (n_L136_0 : Nat) (x : ((((List (Int × (Int × Unit))) × (Int × (Int × Unit))) × ((List Int) × (Unit × Unit))) × Unit)) (out_1 : (List Int)) (t9_2 : Int) : L136_0 N  (n_L136_0 + 1) x out_1 t9_2 =
  (
  match (decide (t9_2 < (lenI x.1.1.1))) with
  | true =>
   match f138 (x.1, (t9_2, ((0 : Int), ()))) with
   | .ret r_3 =>
    bif (fits out_1 ([r_3] : List Int)) then
     L136_0 N n_L136_0 x (out_1 ++ ([r_3] : List Int)) (IntKind.i64.wrap (t9_2 + (1 : Int)))
    else .fail
   | .pan p_4 =>
    .pan p_4
   | .fail => .fail
  | false =>
   .ret out_1 : Out (List Int)) := by
 kernel_rfl
noncomputable def F136 (N : Nat) (x : ((((List (Int × (Int × Unit))) × (Int × (Int × Unit))) × ((List Int) × (Unit × Unit))) × Unit)) : Out (List Int) :=
 L136_0 N N x ([] : List Int) (0 : Int)
theorem e136 (N : Nat) (x : ((((List (Int × (Int × Unit))) × (Int × (Int × Unit))) × ((List Int) × (Unit × Unit))) × Unit)) : vfn Tryz.prog (phi specs136) hints136 N Tryz.f136 false true ty13 (.list (.int .i64)) x = F136 N x := by
 kernel_rfl
noncomputable def f136 (x : ((((List (Int × (Int × Unit))) × (Int × (Int × Unit))) × ((List Int) × (Unit × Unit))) × Unit)) : Out (List Int) := F136 fuel x
noncomputable def sp136 : Spec := ⟨136, .call, ty13, (.list (.int .i64)), false, true, f136⟩
theorem c136 : Contract Tryz.prog sp136 := contract_at (l := specs136) (arg := ty13) (res := (.list (.int .i64))) (multi := false) (own := true) (F := f136) mixed (all_cons c138 all_nil) Tryz.func136 rfl hints136 fun x _ => ⟨fuel, e136 fuel x⟩
noncomputable def specs170 : List Spec := [sp178]
def hints170 : List (Nat × List Nat) := []
noncomputable def F170 (N : Nat) (x : ((List UInt8) × ((List UInt8) × Unit))) : Out ((List UInt8) × (Bool × Unit)) :=
 match f178 (x.1, (x.2.1, ())) with
 | .ret r_1 =>
  .ret (r_1.1, (r_1.2.1, ()))
 | .pan p_2 =>
  .pan p_2
 | .fail => .fail
theorem e170 (N : Nat) (x : ((List UInt8) × ((List UInt8) × Unit))) : vfn Tryz.prog (phi specs170) hints170 N Tryz.f170 true false ty15 ty24 x = F170 N x := by
 kernel_rfl
noncomputable def f170 (x : ((List UInt8) × ((List UInt8) × Unit))) : Out ((List UInt8) × (Bool × Unit)) := F170 fuel x
noncomputable def sp170 : Spec := ⟨170, .call, ty15, ty24, true, false, f170⟩
theorem c170 : Contract Tryz.prog sp170 := contract_at (l := specs170) (arg := ty15) (res := ty24) (multi := true) (own := false) (F := f170) mixed (all_cons c178 all_nil) Tryz.func170 rfl hints170 fun x _ => ⟨fuel, e170 fuel x⟩
noncomputable def specs22 : List Spec := [sp33, sp34, sp38]
def hints22 : List (Nat × List Nat) := []
noncomputable def F22 (N : Nat) (x : (((List (Int × (Int × Unit))) × (Int × (Int × Unit))) × ((List Int) × Unit))) : Out Bool :=
 match (decide ((lenI x.1.1) ≤ (16 : Int))) with
 | true =>
  match (decide ((lenI x.2.1) ≤ (16 : Int))) with
  | true =>
   match f34 (x.1, ()) with
   | .ret r_1 =>
    match r_1 with
    | true =>
     match f38 (x.1, (x.2.1, ())) with
     | .ret r_3 =>
      .ret r_3
     | .pan p_4 =>
      .pan p_4
     | .fail => .fail
    | false =>
     .ret false
   | .pan p_2 =>
    .pan p_2
   | .fail => .fail
  | false =>
   .ret false
 | false =>
  .ret false
theorem e22 (N : Nat) (x : (((List (Int × (Int × Unit))) × (Int × (Int × Unit))) × ((List Int) × Unit))) : vfn Tryz.prog (phi specs22) hints22 N Tryz.f22 false false ty0 .bool x = F22 N x := by
 kernel_rfl
noncomputable def f22 (x : (((List (Int × (Int × Unit))) × (Int × (Int × Unit))) × ((List Int) × Unit))) : Out Bool := F22 fuel x
noncomputable def sp22 : Spec := ⟨22, .call, ty0, .bool, false, false, f22⟩
theorem c22 : Contract Tryz.prog sp22 := contract_at (l := specs22) (arg := ty0) (res := .bool) (multi := false) (own := false) (F := f22) mixed (all_cons c33 (all_cons c34 (all_cons c38 all_nil))) Tryz.func22 rfl hints22 fun x _ => ⟨fuel, e22 fuel x⟩
noncomputable def specs40 : List Spec := [sp94]
def hints40 : List (Nat × List Nat) := [(3, [1, 2, 5, 6])]
noncomputable def L40_0 (N : Nat) (n_L40_0 : Nat) (x : (((List (Int × (Int × Unit))) × (Int × (Int × Unit))) × ((List Int) × Unit))) (out_1 : (List Int)) (r_2 : Int) : Out (List Int) :=
 vloop Tryz.prog (phi specs40) hints40 N Tryz.f40 false true (.list (.int .i64)) [.at 1, .at 1, .at 0, .at 1, .at 0] n_L40_0 [.und, .d (.list (.int .i64)) x.2.1, .box [.d ty2 x.1.1, .d (.int .i64) x.1.2.1, .d (.int .i64) x.1.2.2.1], .und, .und, .own (.int .i64) out_1 false, .d (.int .i64) r_2, .und, .und, .und, .und, .und, .und, .und, .und, .und, .und, .und, .und, .und, .und, .und, .und, .und, .und, .und]
theorem L40_0_succ (N : Nat) (n_L40_0 : Nat) (x : (((List (Int × (Int × Unit))) × (Int × (Int × Unit))) × ((List Int) × Unit))) (out_1 : (List Int)) (r_2 : Int) : L40_0 N  (n_L40_0 + 1) x out_1 r_2 =
  (
  match (decide (r_2 < (lenI x.1.1))) with
  | true =>
   match f94 (x.1, (x.2.1, (r_2, ()))) with
   | .ret r_3 =>
    match (decide (r_3 > x.1.2.2.1)) with
    | true =>
     bif (fits out_1 ([r_2] : List Int)) then
      L40_0 N n_L40_0 x (out_1 ++ ([r_2] : List Int)) (IntKind.i64.wrap (r_2 + (1 : Int)))
     else .fail
    | false =>
     L40_0 N n_L40_0 x out_1 (IntKind.i64.wrap (r_2 + (1 : Int)))
   | .pan p_4 =>
    .pan p_4
   | .fail => .fail
  | false =>
   .ret out_1 : Out (List Int)) := by
 kernel_rfl
noncomputable def F40 (N : Nat) (x : (((List (Int × (Int × Unit))) × (Int × (Int × Unit))) × ((List Int) × Unit))) : Out (List Int) :=
 L40_0 N N x ([] : List Int) (0 : Int)
theorem e40 (N : Nat) (x : (((List (Int × (Int × Unit))) × (Int × (Int × Unit))) × ((List Int) × Unit))) : vfn Tryz.prog (phi specs40) hints40 N Tryz.f40 false true ty0 (.list (.int .i64)) x = F40 N x := by
 kernel_rfl
noncomputable def f40 (x : (((List (Int × (Int × Unit))) × (Int × (Int × Unit))) × ((List Int) × Unit))) : Out (List Int) := F40 fuel x
noncomputable def sp40 : Spec := ⟨40, .call, ty0, (.list (.int .i64)), false, true, f40⟩
theorem c40 : Contract Tryz.prog sp40 := contract_at (l := specs40) (arg := ty0) (res := (.list (.int .i64))) (multi := false) (own := true) (F := f40) mixed (all_cons c94 all_nil) Tryz.func40 rfl hints40 fun x _ => ⟨fuel, e40 fuel x⟩
noncomputable def specs44 : List Spec := [sp40, sp62, sp101]
def hints44 : List (Nat × List Nat) := [(4, [1, 2, 6]), (7, [1, 2, 6, 7])]
noncomputable def L44_1 (N : Nat) (n_L44_0 : Nat) (n_L44_1 : Nat) (x : (((List (Int × (Int × Unit))) × (Int × (Int × Unit))) × ((List Int) × Unit))) (t_3 : (List (Int × (Int × Unit)))) (t_4 : Int) (t_5 : Int) (r_6 : Int) (n_7 : Int) : Out ((List Int) × (Bool × Unit)) :=
 vloop Tryz.prog (phi specs44) hints44 N Tryz.f44 true false ty7 [.at 1, .at 1, .at 0, .at 1, .at 0, .at n_L44_0, .at 1, .at 0, .at 0, .at 1, .at 0, .at 0] n_L44_1 [.und, .d (.list (.int .i64)) x.2.1, .box [.d ty2 t_3, .d (.int .i64) t_4, .d (.int .i64) t_5], .und, .und, .und, .d (.int .i64) r_6, .d (.int .i64) n_7, .und, .und, .und, .und, .und, .und, .und, .und, .und, .und, .und, .und, .und, .und, .und, .und, .und, .und, .und, .und, .und, .und, .und, .und, .und, .und, .und, .und, .und, .und, .und, .und, .und, .und]
noncomputable def L44_0 (N : Nat) (n_L44_0 : Nat) (x : (((List (Int × (Int × Unit))) × (Int × (Int × Unit))) × ((List Int) × Unit))) (t_3 : (List (Int × (Int × Unit)))) (t_4 : Int) (t_5 : Int) (r_6 : Int) : Out ((List Int) × (Bool × Unit)) :=
 vloop Tryz.prog (phi specs44) hints44 N Tryz.f44 true false ty7 [.at 1, .at 1, .at 0, .at 1, .at 0] n_L44_0 [.und, .d (.list (.int .i64)) x.2.1, .box [.d ty2 t_3, .d (.int .i64) t_4, .d (.int .i64) t_5], .und, .und, .und, .d (.int .i64) r_6, .und, .und, .und, .und, .und, .und, .und, .und, .und, .und, .und, .und, .und, .und, .und, .und, .und, .und, .und, .und, .und, .und, .und, .und, .und, .und, .und, .und, .und, .und, .und, .und, .und, .und, .und]
theorem L44_1_succ (N : Nat) (n_L44_0 : Nat) (n_L44_1 : Nat) (x : (((List (Int × (Int × Unit))) × (Int × (Int × Unit))) × ((List Int) × Unit))) (t_3 : (List (Int × (Int × Unit)))) (t_4 : Int) (t_5 : Int) (r_6 : Int) (n_7 : Int) : L44_1 N n_L44_0 (n_L44_1 + 1) x t_3 t_4 t_5 r_6 n_7 =
  (
  match f62 ((t_3, (t_4, (t_5, ()))), (r_6, (n_7, ()))) with
  | .ret r_8 =>
   match f40 (r_8, (x.2.1, ())) with
   | .ret r_10 =>
    match ((lenI r_10) == (0 : Int)) with
    | true =>
     L44_1 N n_L44_0 n_L44_1 x t_3 t_4 t_5 r_6 (IntKind.i64.wrap (n_7 + (1 : Int)))
    | false =>
     match f62 ((t_3, (t_4, (t_5, ()))), (r_6, (n_7, ()))) with
     | .ret r_12 =>
      L44_0 N n_L44_0 x r_12.1 r_12.2.1 r_12.2.2.1 (IntKind.i64.wrap (r_6 + (1 : Int)))
     | .pan p_13 =>
      .pan p_13
     | .fail => .fail
   | .pan p_11 =>
    .pan p_11
   | .fail => .fail
  | .pan p_9 =>
   .pan p_9
  | .fail => .fail : Out ((List Int) × (Bool × Unit))) := by
 kernel_rfl
theorem L44_0_succ (N : Nat) (n_L44_0 : Nat) (x : (((List (Int × (Int × Unit))) × (Int × (Int × Unit))) × ((List Int) × Unit))) (t_3 : (List (Int × (Int × Unit)))) (t_4 : Int) (t_5 : Int) (r_6 : Int) : L44_0 N  (n_L44_0 + 1) x t_3 t_4 t_5 r_6 =
  (
  match (decide (r_6 < (lenI t_3))) with
  | true =>
   bif (inb r_6 t_3.length) then
    L44_1 N n_L44_0 N x t_3 t_4 t_5 r_6 ((List.getD t_3 r_6.toNat ((0 : Int), ((0 : Int), ())))).1
   else .fail
  | false =>
   match f101 ((t_3, (t_4, (t_5, ()))), ()) with
   | .ret r_14 =>
    .ret (r_14, (true, ()))
   | .pan p_15 =>
    .pan p_15
   | .fail => .fail : Out ((List Int) × (Bool × Unit))) := by
 kernel_rfl
noncomputable def F44 (N : Nat) (x : (((List (Int × (Int × Unit))) × (Int × (Int × Unit))) × ((List Int) × Unit))) : Out ((List Int) × (Bool × Unit)) :=
 match f40 (x.1, (x.2.1, ())) with
 | .ret r_1 =>
  match ((lenI r_1) == (0 : Int)) with
  | true =>
   .ret (([] : List Int), (false, ()))
  | false =>
   L44_0 N N x x.1.1 x.1.2.1 x.1.2.2.1 (0 : Int)
 | .pan p_2 =>
  .pan p_2
 | .fail => .fail
theorem e44 (N : Nat) (x : (((List (Int × (Int × Unit))) × (Int × (Int × Unit))) × ((List Int) × Unit))) : vfn Tryz.prog (phi specs44) hints44 N Tryz.f44 true false ty0 ty7 x = F44 N x := by
 kernel_rfl
noncomputable def f44 (x : (((List (Int × (Int × Unit))) × (Int × (Int × Unit))) × ((List Int) × Unit))) : Out ((List Int) × (Bool × Unit)) := F44 fuel x
noncomputable def sp44 : Spec := ⟨44, .call, ty0, ty7, true, false, f44⟩
theorem c44 : Contract Tryz.prog sp44 := contract_at (l := specs44) (arg := ty0) (res := ty7) (multi := true) (own := false) (F := f44) mixed (all_cons c40 (all_cons c62 (all_cons c101 all_nil))) Tryz.func44 rfl hints44 fun x _ => ⟨fuel, e44 fuel x⟩
noncomputable def specs45 : List Spec := [sp94]
def hints45 : List (Nat × List Nat) := [(3, [1, 2, 5, 6])]
noncomputable def L45_0 (N : Nat) (n_L45_0 : Nat) (x : (((List (Int × (Int × Unit))) × (Int × (Int × Unit))) × ((List Int) × Unit))) (n_1 : Int) (r_2 : Int) : Out Int :=
 vloop Tryz.prog (phi specs45) hints45 N Tryz.f45 false false (.int .i64) [.at 1, .at 1, .at 0, .at 1, .at 0] n_L45_0 [.und, .d (.list (.int .i64)) x.2.1, .box [.d ty2 x.1.1, .d (.int .i64) x.1.2.1, .d (.int .i64) x.1.2.2.1], .und, .und, .d (.int .i64) n_1, .d (.int .i64) r_2, .und, .und, .und, .und, .und, .und, .und, .und, .und, .und, .und, .und, .und, .und]
theorem L45_0_succ (N : Nat) (n_L45_0 : Nat) (x : (((List (Int × (Int × Unit))) × (Int × (Int × Unit))) × ((List Int) × Unit))) (n_1 : Int) (r_2 : Int) : L45_0 N  (n_L45_0 + 1) x n_1 r_2 =
  (
  match (decide (r_2 < (lenI x.1.1))) with
  | true =>
   match f94 (x.1, (x.2.1, (r_2, ()))) with
   | .ret r_3 =>
    L45_0 N n_L45_0 x (if r_3 > n_1 then r_3 else n_1) (IntKind.i64.wrap (r_2 + (1 : Int)))
   | .pan p_4 =>
    .pan p_4
   | .fail => .fail
  | false =>
   .ret n_1 : Out Int) := by
 kernel_rfl
noncomputable def F45 (N : Nat) (x : (((List (Int × (Int × Unit))) × (Int × (Int × Unit))) × ((List Int) × Unit))) : Out Int :=
 L45_0 N N x (0 : Int) (0 : Int)
theorem e45 (N : Nat) (x : (((List (Int × (Int × Unit))) × (Int × (Int × Unit))) × ((List Int) × Unit))) : vfn Tryz.prog (phi specs45) hints45 N Tryz.f45 false false ty0 (.int .i64) x = F45 N x := by
 kernel_rfl
noncomputable def f45 (x : (((List (Int × (Int × Unit))) × (Int × (Int × Unit))) × ((List Int) × Unit))) : Out Int := F45 fuel x
noncomputable def sp45 : Spec := ⟨45, .call, ty0, (.int .i64), false, false, f45⟩
theorem c45 : Contract Tryz.prog sp45 := contract_at (l := specs45) (arg := ty0) (res := (.int .i64)) (multi := false) (own := false) (F := f45) mixed (all_cons c94 all_nil) Tryz.func45 rfl hints45 fun x _ => ⟨fuel, e45 fuel x⟩
noncomputable def specs48 : List Spec := [sp77, sp86, sp102]
def hints48 : List (Nat × List Nat) := []
noncomputable def F48 (N : Nat) (x : (((List (Int × (Int × Unit))) × (Int × (Int × Unit))) × (Int × Unit))) : Out ((List Int) × (Int × Unit)) :=
 match f77 (x.1, ()) with
 | .ret r_1 =>
  match (!r_1) with
  | true =>
   .ret (([] : List Int), ((2 : Int), ()))
  | false =>
   match f86 (x.2.1, ((1 : Int), ((IntKind.i64.wrap ((lenI x.1.1) - (1 : Int))), ()))) with
   | .ret r_3 =>
    match (!r_3) with
    | true =>
     .ret (([] : List Int), ((2 : Int), ()))
    | false =>
     match f102 (x.1, (x.2.1, ())) with
     | .ret r_5 =>
      .ret (r_5, ((0 : Int), ()))
     | .pan p_6 =>
      .pan p_6
     | .fail => .fail
   | .pan p_4 =>
    .pan p_4
   | .fail => .fail
 | .pan p_2 =>
  .pan p_2
 | .fail => .fail
theorem e48 (N : Nat) (x : (((List (Int × (Int × Unit))) × (Int × (Int × Unit))) × (Int × Unit))) : vfn Tryz.prog (phi specs48) hints48 N Tryz.f48 true false ty6 ty4 x = F48 N x := by
 kernel_rfl
noncomputable def f48 (x : (((List (Int × (Int × Unit))) × (Int × (Int × Unit))) × (Int × Unit))) : Out ((List Int) × (Int × Unit)) := F48 fuel x
noncomputable def sp48 : Spec := ⟨48, .call, ty6, ty4, true, false, f48⟩
theorem c48 : Contract Tryz.prog sp48 := contract_at (l := specs48) (arg := ty6) (res := ty4) (multi := true) (own := false) (F := f48) mixed (all_cons c77 (all_cons c86 (all_cons c102 all_nil))) Tryz.func48 rfl hints48 fun x _ => ⟨fuel, e48 fuel x⟩
noncomputable def specs50 : List Spec := [sp52, sp40]
def hints50 : List (Nat × List Nat) := [(2, [1, 3])]
noncomputable def L50_0 (N : Nat) (n_L50_0 : Nat) (x : (((List (Int × (Int × Unit))) × (Int × (Int × Unit))) × Unit)) (n_1 : Int) : Out Int :=
 vloop Tryz.prog (phi specs50) hints50 N Tryz.f50 false false (.int .i64) [.at 1, .at 1, .at 0, .at 0] n_L50_0 [.und, .box [.d ty2 x.1.1, .d (.int .i64) x.1.2.1, .d (.int .i64) x.1.2.2.1], .und, .d (.int .i64) n_1, .und, .und, .und, .und, .und, .und, .und, .und, .und, .und, .und, .und, .und, .und]
theorem L50_0_succ (N : Nat) (n_L50_0 : Nat) (x : (((List (Int × (Int × Unit))) × (Int × (Int × Unit))) × Unit)) (n_1 : Int) : L50_0 N  (n_L50_0 + 1) x n_1 =
  (
  match f52 (x.1, (n_1, ())) with
  | .ret r_2 =>
   match f40 (x.1, (r_2, ())) with
   | .ret r_4 =>
    match (decide ((lenI r_4) > (0 : Int))) with
    | true =>
     L50_0 N n_L50_0 x (IntKind.i64.wrap (n_1 - (1 : Int)))
    | false =>
     .ret n_1
   | .pan p_5 =>
    .pan p_5
   | .fail => .fail
  | .pan p_3 =>
   .pan p_3
  | .fail => .fail : Out Int) := by
 kernel_rfl
noncomputable def F50 (N : Nat) (x : (((List (Int × (Int × Unit))) × (Int × (Int × Unit))) × Unit)) : Out Int :=
 L50_0 N N x (IntKind.i64.wrap ((lenI x.1.1) - (1 : Int)))
theorem e50 (N : Nat) (x : (((List (Int × (Int × Unit))) × (Int × (Int × Unit))) × Unit)) : vfn Tryz.prog (phi specs50) hints50 N Tryz.f50 false false ty1 (.int .i64) x = F50 N x := by
 kernel_rfl
noncomputable def f50 (x : (((List (Int × (Int × Unit))) × (Int × (Int × Unit))) × Unit)) : Out Int := F50 fuel x
noncomputable def sp50 : Spec := ⟨50, .call, ty1, (.int .i64), false, false, f50⟩
theorem c50 : Contract Tryz.prog sp50 := contract_at (l := specs50) (arg := ty1) (res := (.int .i64)) (multi := false) (own := false) (F := f50) mixed (all_cons c52 (all_cons c40 all_nil)) Tryz.func50 rfl hints50 fun x _ => ⟨fuel, e50 fuel x⟩
noncomputable def specs58 : List Spec := [sp107]
def hints58 : List (Nat × List Nat) := [(3, [1, 3, 4]), (7, [1, 3, 4, 5, 6]), (10, [1, 3, 4, 5, 6, 7])]
noncomputable def L58_2 (N : Nat) (n_L58_0 : Nat) (n_L58_1 : Nat) (n_L58_2 : Nat) (x : (((List (Int × (Int × Unit))) × (Int × (Int × Unit))) × Unit)) (r_2 : Int) (a_5 : Int) (out_6 : (List Int)) (free_7 : Bool) (b_8 : Int) : Out (List Int) :=
 vloop Tryz.prog (phi specs58) hints58 N Tryz.f58 false true (.list (.int .i64)) [.at 1, .at 1, .at 0, .at 1, .at 0, .at n_L58_0, .at 1, .at 0, .at 0, .at 1, .at 0, .at 1, .at 0, .at n_L58_1, .at 1, .at 0, .at 0, .at 1, .at 0] n_L58_2 [.und, .box [.d ty2 x.1.1, .d (.int .i64) x.1.2.1, .d (.int .i64) x.1.2.2.1], .und, .own (.int .i64) out_6 false, .d (.int .i64) r_2, .d .bool free_7, .d (.int .i64) a_5, .d (.int .i64) b_8, .und, .und, .und, .und, .und, .und, .und, .und, .und, .und, .und, .und, .und, .und, .und, .und, .und, .und, .und, .und, .und, .und, .und, .und, .und, .und, .und, .und, .und, .und, .und, .und, .und, .und, .und]
noncomputable def L58_1 (N : Nat) (n_L58_0 : Nat) (n_L58_1 : Nat) (x : (((List (Int × (Int × Unit))) × (Int × (Int × Unit))) × Unit)) (r_2 : Int) (out_3 : (List Int)) (free_4 : Bool) (a_5 : Int) : Out (List Int) :=
 vloop Tryz.prog (phi specs58) hints58 N Tryz.f58 false true (.list (.int .i64)) [.at 1, .at 1, .at 0, .at 1, .at 0, .at n_L58_0, .at 1, .at 0, .at 0, .at 1, .at 0, .at 1, .at 0] n_L58_1 [.und, .box [.d ty2 x.1.1, .d (.int .i64) x.1.2.1, .d (.int .i64) x.1.2.2.1], .und, .own (.int .i64) out_3 false, .d (.int .i64) r_2, .d .bool free_4, .d (.int .i64) a_5, .und, .und, .und, .und, .und, .und, .und, .und, .und, .und, .und, .und, .und, .und, .und, .und, .und, .und, .und, .und, .und, .und, .und, .und, .und, .und, .und, .und, .und, .und, .und, .und, .und, .und, .und, .und]
noncomputable def L58_0 (N : Nat) (n_L58_0 : Nat) (x : (((List (Int × (Int × Unit))) × (Int × (Int × Unit))) × Unit)) (out_1 : (List Int)) (r_2 : Int) : Out (List Int) :=
 vloop Tryz.prog (phi specs58) hints58 N Tryz.f58 false true (.list (.int .i64)) [.at 1, .at 1, .at 0, .at 1, .at 0] n_L58_0 [.und, .box [.d ty2 x.1.1, .d (.int .i64) x.1.2.1, .d (.int .i64) x.1.2.2.1], .und, .own (.int .i64) out_1 false, .d (.int .i64) r_2, .und, .und, .und, .und, .und, .und, .und, .und, .und, .und, .und, .und, .und, .und, .und, .und, .und, .und, .und, .und, .und, .und, .und, .und, .und, .und, .und, .und, .und, .und, .und, .und, .und, .und, .und, .und, .und, .und]
theorem L58_2_succ (N : Nat) (n_L58_0 : Nat) (n_L58_1 : Nat) (n_L58_2 : Nat) (x : (((List (Int × (Int × Unit))) × (Int × (Int × Unit))) × Unit)) (r_2 : Int) (a_5 : Int) (out_6 : (List Int)) (free_7 : Bool) (b_8 : Int) : L58_2 N n_L58_0 n_L58_1 (n_L58_2 + 1) x r_2 a_5 out_6 free_7 b_8 =
  (
  match (decide (b_8 < (lenI x.1.1))) with
  | true =>
   match free_7 with
   | true =>
    L58_2 N n_L58_0 n_L58_1 n_L58_2 x r_2 a_5 out_6 true (IntKind.i64.wrap (b_8 + (1 : Int)))
   | false =>
    match f107 (x.1, (a_5, (b_8, ()))) with
    | .ret r_9 =>
     L58_2 N n_L58_0 n_L58_1 n_L58_2 x r_2 a_5 out_6 r_9 (IntKind.i64.wrap (b_8 + (1 : Int)))
    | .pan p_10 =>
     .pan p_10
    | .fail => .fail
  | false =>
   L58_1 N n_L58_0 n_L58_1 x r_2 out_6 free_7 (IntKind.i64.wrap (a_5 + (1 : Int))) : Out (List Int)) := by
 kernel_rfl
theorem L58_1_succ (N : Nat) (n_L58_0 : Nat) (n_L58_1 : Nat) (x : (((List (Int × (Int × Unit))) × (Int × (Int × Unit))) × Unit)) (r_2 : Int) (out_3 : (List Int)) (free_4 : Bool) (a_5 : Int) : L58_1 N n_L58_0 (n_L58_1 + 1) x r_2 out_3 free_4 a_5 =
  (
  match (decide (a_5 < r_2)) with
  | true =>
   L58_2 N n_L58_0 n_L58_1 N x r_2 a_5 out_3 free_4 (IntKind.i64.wrap (r_2 + (1 : Int)))
  | false =>
   match (!free_4) with
   | true =>
    bif (fits out_3 ([r_2] : List Int)) then
     L58_0 N n_L58_0 x (out_3 ++ ([r_2] : List Int)) (IntKind.i64.wrap (r_2 + (1 : Int)))
    else .fail
   | false =>
    L58_0 N n_L58_0 x out_3 (IntKind.i64.wrap (r_2 + (1 : Int))) : Out (List Int)) := by
 kernel_rfl
theorem L58_0_succ (N : Nat) (n_L58_0 : Nat) (x : (((List (Int × (Int × Unit))) × (Int × (Int × Unit))) × Unit)) (out_1 : (List Int)) (r_2 : Int) : L58_0 N  (n_L58_0 + 1) x out_1 r_2 =
  (
  match (decide (r_2 < (lenI x.1.1))) with
  | true =>
   L58_1 N n_L58_0 N x r_2 out_1 false (0 : Int)
  | false =>
   .ret out_1 : Out (List Int)) := by
 kernel_rfl
noncomputable def F58 (N : Nat) (x : (((List (Int × (Int × Unit))) × (Int × (Int × Unit))) × Unit)) : Out (List Int) :=
 L58_0 N N x ([] : List Int) (0 : Int)
theorem e58 (N : Nat) (x : (((List (Int × (Int × Unit))) × (Int × (Int × Unit))) × Unit)) : vfn Tryz.prog (phi specs58) hints58 N Tryz.f58 false true ty1 (.list (.int .i64)) x = F58 N x := by
 kernel_rfl
noncomputable def f58 (x : (((List (Int × (Int × Unit))) × (Int × (Int × Unit))) × Unit)) : Out (List Int) := F58 fuel x
noncomputable def sp58 : Spec := ⟨58, .call, ty1, (.list (.int .i64)), false, true, f58⟩
theorem c58 : Contract Tryz.prog sp58 := contract_at (l := specs58) (arg := ty1) (res := (.list (.int .i64))) (multi := false) (own := true) (F := f58) mixed (all_cons c107 all_nil) Tryz.func58 rfl hints58 fun x _ => ⟨fuel, e58 fuel x⟩
noncomputable def specs60 : List Spec := [sp41, sp61, sp40]
def hints60 : List (Nat × List Nat) := [(3, [1, 2, 7, 8, 9, 10])]
noncomputable def L60_0 (N : Nat) (n_L60_0 : Nat) (x : (((List (Int × (Int × Unit))) × (Int × (Int × Unit))) × ((List Int) × Unit))) (at_1 : Int) (least_2 : Int) (met_3 : Bool) (r_4 : Int) : Out (Int × (Int × (Bool × Unit))) :=
 vloop Tryz.prog (phi specs60) hints60 N Tryz.f60 true false ty28 [.at 1, .at 1, .at 0, .at 1, .at 0] n_L60_0 [.und, .d (.list (.int .i64)) x.2.1, .box [.d ty2 x.1.1, .d (.int .i64) x.1.2.1, .d (.int .i64) x.1.2.2.1], .und, .und, .und, .und, .d (.int .i64) at_1, .d (.int .i64) least_2, .d .bool met_3, .d (.int .i64) r_4, .und, .und, .und, .und, .und, .und, .und, .und, .und, .und, .und, .und, .und, .und, .und, .und, .und, .und, .und, .und, .und, .und, .und, .und, .und, .und, .und, .und, .und]
theorem L60_0_succ (N : Nat) (n_L60_0 : Nat) (x : (((List (Int × (Int × Unit))) × (Int × (Int × Unit))) × ((List Int) × Unit))) (at_1 : Int) (least_2 : Int) (met_3 : Bool) (r_4 : Int) : L60_0 N  (n_L60_0 + 1) x at_1 least_2 met_3 r_4 =
  (
  match (decide (r_4 < (lenI x.1.1))) with
  | true =>
   match f41 (x.2.1, (r_4, ())) with
   | .ret r_5 =>
    match r_5 with
    | true =>
     L60_0 N n_L60_0 x at_1 least_2 met_3 (IntKind.i64.wrap (r_4 + (1 : Int)))
    | false =>
     match f61 (x.2.1, (r_4, ())) with
     | .ret r_7 =>
      match f40 (x.1, (r_7, ())) with
      | .ret r_9 =>
       match (!met_3) with
       | true =>
        L60_0 N n_L60_0 x r_4 (lenI r_9) true (IntKind.i64.wrap (r_4 + (1 : Int)))
       | false =>
        match (decide ((lenI r_9) < least_2)) with
        | true =>
         L60_0 N n_L60_0 x r_4 (lenI r_9) true (IntKind.i64.wrap (r_4 + (1 : Int)))
        | false =>
         L60_0 N n_L60_0 x at_1 least_2 met_3 (IntKind.i64.wrap (r_4 + (1 : Int)))
      | .pan p_10 =>
       .pan p_10
      | .fail => .fail
     | .pan p_8 =>
      .pan p_8
     | .fail => .fail
   | .pan p_6 =>
    .pan p_6
   | .fail => .fail
  | false =>
   .ret (at_1, (least_2, (met_3, ()))) : Out (Int × (Int × (Bool × Unit)))) := by
 kernel_rfl
noncomputable def F60 (N : Nat) (x : (((List (Int × (Int × Unit))) × (Int × (Int × Unit))) × ((List Int) × Unit))) : Out (Int × (Int × (Bool × Unit))) :=
 L60_0 N N x (0 : Int) (0 : Int) false (0 : Int)
theorem e60 (N : Nat) (x : (((List (Int × (Int × Unit))) × (Int × (Int × Unit))) × ((List Int) × Unit))) : vfn Tryz.prog (phi specs60) hints60 N Tryz.f60 true false ty0 ty28 x = F60 N x := by
 kernel_rfl
noncomputable def f60 (x : (((List (Int × (Int × Unit))) × (Int × (Int × Unit))) × ((List Int) × Unit))) : Out (Int × (Int × (Bool × Unit))) := F60 fuel x
noncomputable def sp60 : Spec := ⟨60, .call, ty0, ty28, true, false, f60⟩
theorem c60 : Contract Tryz.prog sp60 := contract_at (l := specs60) (arg := ty0) (res := ty28) (multi := true) (own := false) (F := f60) mixed (all_cons c41 (all_cons c61 (all_cons c40 all_nil))) Tryz.func60 rfl hints60 fun x _ => ⟨fuel, e60 fuel x⟩
noncomputable def specs64 : List Spec := [sp77]
def hints64 : List (Nat × List Nat) := []
noncomputable def F64 (N : Nat) (x : (((List (Int × (Int × Unit))) × (Int × (Int × Unit))) × Unit)) : Out Int :=
 match f77 (x.1, ()) with
 | .ret r_1 =>
  match (!r_1) with
  | true =>
   .ret (2 : Int)
  | false =>
   .ret (0 : Int)
 | .pan p_2 =>
  .pan p_2
 | .fail => .fail
theorem e64 (N : Nat) (x : (((List (Int × (Int × Unit))) × (Int × (Int × Unit))) × Unit)) : vfn Tryz.prog (phi specs64) hints64 N Tryz.f64 false false ty1 (.int .i64) x = F64 N x := by
 kernel_rfl
noncomputable def f64 (x : (((List (Int × (Int × Unit))) × (Int × (Int × Unit))) × Unit)) : Out Int := F64 fuel x
noncomputable def sp64 : Spec := ⟨64, .call, ty1, (.int .i64), false, false, f64⟩
theorem c64 : Contract Tryz.prog sp64 := contract_at (l := specs64) (arg := ty1) (res := (.int .i64)) (multi := false) (own := false) (F := f64) mixed (all_cons c77 all_nil) Tryz.func64 rfl hints64 fun x _ => ⟨fuel, e64 fuel x⟩
noncomputable def specs97 : List Spec := [sp98]
def hints97 : List (Nat × List Nat) := []
noncomputable def F97 (N : Nat) (x : ((List Int) × ((List Int) × Unit))) : Out Bool :=
 match f98 (x.1, (x.2.1, ())) with
 | .ret r_1 =>
  .ret (decide (r_1 < (0 : Int)))
 | .pan p_2 =>
  .pan p_2
 | .fail => .fail
theorem e97 (N : Nat) (x : ((List Int) × ((List Int) × Unit))) : vfn Tryz.prog (phi specs97) hints97 N Tryz.f97 false false ty9 .bool x = F97 N x := by
 kernel_rfl
noncomputable def f97 (x : ((List Int) × ((List Int) × Unit))) : Out Bool := F97 fuel x
noncomputable def sp97 : Spec := ⟨97, .call, ty9, .bool, false, false, f97⟩
theorem c97 : Contract Tryz.prog sp97 := contract_at (l := specs97) (arg := ty9) (res := .bool) (multi := false) (own := false) (F := f97) mixed (all_cons c98 all_nil) Tryz.func97 rfl hints97 fun x _ => ⟨fuel, e97 fuel x⟩
noncomputable def specs99 : List Spec := [sp108]
def hints99 : List (Nat × List Nat) := []
noncomputable def F99 (N : Nat) (x : ((((List (Int × (Int × Unit))) × (Int × (Int × Unit))) × ((List Int) × (Unit × Unit))) × (Int × Unit))) : Out (Int × (Int × Unit)) :=
 match f108 (x.1.2.1, (x.2.1, ())) with
 | .ret r_1 =>
  match r_1.2.1 with
  | true =>
   .ret (x.2.1, x.2)
  | false =>
   bif (inb (IntKind.i64.wrap (r_1.1 - (1 : Int))) x.1.2.1.length) then
    bif (inb r_1.1 x.1.2.1.length) then
     .ret ((List.getD x.1.2.1 (IntKind.i64.wrap (r_1.1 - (1 : Int))).toNat (0 : Int)), ((List.getD x.1.2.1 r_1.1.toNat (0 : Int)), ()))
    else .fail
   else .fail
 | .pan p_2 =>
  .pan p_2
 | .fail => .fail
theorem e99 (N : Nat) (x : ((((List (Int × (Int × Unit))) × (Int × (Int × Unit))) × ((List Int) × (Unit × Unit))) × (Int × Unit))) : vfn Tryz.prog (phi specs99) hints99 N Tryz.f99 false false ty25 ty3 x = F99 N x := by
 kernel_rfl
noncomputable def f99 (x : ((((List (Int × (Int × Unit))) × (Int × (Int × Unit))) × ((List Int) × (Unit × Unit))) × (Int × Unit))) : Out (Int × (Int × Unit)) := F99 fuel x
noncomputable def sp99 : Spec := ⟨99, .call, ty25, ty3, false, false, f99⟩
theorem c99 : Contract Tryz.prog sp99 := contract_at (l := specs99) (arg := ty25) (res := ty3) (multi := false) (own := false) (F := f99) mixed (all_cons c108 all_nil) Tryz.func99 rfl hints99 fun x _ => ⟨fuel, e99 fuel x⟩
noncomputable def specs106 (g : (((List (Int × (Int × Unit))) × (Int × (Int × Unit))) × ((List Int) × (Int × Unit))) → Out (List (List Int))) : List Spec := [sp107, ⟨106, .call, ty18, (.list (.list (.int .i64))), false, true, g⟩]
def hints106 : List (Nat × List Nat) := [(6, [1, 2, 3, 7, 8, 9])]
noncomputable def L106_0 (g : (((List (Int × (Int × Unit))) × (Int × (Int × Unit))) × ((List Int) × (Int × Unit))) → Out (List (List Int))) (N : Nat) (n_L106_0 : Nat) (x : (((List (Int × (Int × Unit))) × (Int × (Int × Unit))) × ((List Int) × (Int × Unit)))) (out_1 : (List (List Int))) (r_2 : Int) : Out (List (List Int)) :=
 vloop Tryz.prog (phi (specs106 g)) hints106 N Tryz.f106 false true (.list (.list (.int .i64))) [.at 1, .at 1, .at 1, .at 1, .at 0, .at 1, .at 0] n_L106_0 [.und, .d (.list (.int .i64)) x.2.1, .d (.int .i64) x.2.2.1, .box [.d ty2 x.1.1, .d (.int .i64) x.1.2.1, .d (.int .i64) x.1.2.2.1], .und, .und, .und, .d (.int .i64) (List.getD x.2.1 (IntKind.i64.wrap ((lenI x.2.1) - (1 : Int))).toNat (0 : Int)), .own (.list (.int .i64)) out_1 false, .d (.int .i64) r_2, .und, .und, .und, .und, .und, .und, .und, .und, .und, .und, .und, .und, .und, .und, .und, .und, .und, .und, .und, .und, .und, .und, .und, .und, .und, .und, .und, .und, .und, .und, .und, .und, .und, .und, .und, .und, .und, .und, .und, .und, .und, .und, .und, .und]
theorem L106_0_succ (g : (((List (Int × (Int × Unit))) × (Int × (Int × Unit))) × ((List Int) × (Int × Unit))) → Out (List (List Int))) (N : Nat) (n_L106_0 : Nat) (x : (((List (Int × (Int × Unit))) × (Int × (Int × Unit))) × ((List Int) × (Int × Unit)))) (out_1 : (List (List Int))) (r_2 : Int) : L106_0 g N  (n_L106_0 + 1) x out_1 r_2 =
  (
  match (decide (r_2 < (lenI x.1.1))) with
  | true =>
   match (decide ((lenI x.2.1) < x.2.2.1)) with
   | true =>
    match f107 (x.1, ((List.getD x.2.1 (IntKind.i64.wrap ((lenI x.2.1) - (1 : Int))).toNat (0 : Int)), (r_2, ()))) with
    | .ret r_3 =>
     match r_3 with
     | true =>
      bif (fits ([] : List Int) x.2.1) then
       bif (fits x.2.1 ([r_2] : List Int)) then
        match g (x.1, ((x.2.1 ++ ([r_2] : List Int)), (x.2.2.1, ()))) with
        | .ret r_5 =>
         bif (fits out_1 r_5) then
          L106_0 g N n_L106_0 x (out_1 ++ r_5) (IntKind.i64.wrap (r_2 + (1 : Int)))
         else .fail
        | .pan p_6 =>
         .pan p_6
        | .fail => .fail
       else .fail
      else .fail
     | false =>
      L106_0 g N n_L106_0 x out_1 (IntKind.i64.wrap (r_2 + (1 : Int)))
    | .pan p_4 =>
     .pan p_4
    | .fail => .fail
   | false =>
    .ret out_1
  | false =>
   .ret out_1 : Out (List (List Int))) := by
 kernel_rfl
noncomputable def F106 (g : (((List (Int × (Int × Unit))) × (Int × (Int × Unit))) × ((List Int) × (Int × Unit))) → Out (List (List Int))) (N : Nat) (x : (((List (Int × (Int × Unit))) × (Int × (Int × Unit))) × ((List Int) × (Int × Unit)))) : Out (List (List Int)) :=
 bif (inb (IntKind.i64.wrap ((lenI x.2.1) - (1 : Int))) x.2.1.length) then
  match ((List.getD x.2.1 (IntKind.i64.wrap ((lenI x.2.1) - (1 : Int))).toNat (0 : Int)) == (IntKind.i64.wrap ((lenI x.1.1) - (1 : Int)))) with
  | true =>
   .ret ([x.2.1] : List (List Int))
  | false =>
   L106_0 g N N x ([] : List (List Int)) (IntKind.i64.wrap ((List.getD x.2.1 (IntKind.i64.wrap ((lenI x.2.1) - (1 : Int))).toNat (0 : Int)) + (1 : Int)))
 else .fail
theorem e106 (g : (((List (Int × (Int × Unit))) × (Int × (Int × Unit))) × ((List Int) × (Int × Unit))) → Out (List (List Int))) (N : Nat) (x : (((List (Int × (Int × Unit))) × (Int × (Int × Unit))) × ((List Int) × (Int × Unit)))) : vfn Tryz.prog (phi (specs106 g)) hints106 N Tryz.f106 false true ty18 (.list (.list (.int .i64))) x = F106 g N x := by
 kernel_rfl
noncomputable def f106r : Nat → (((List (Int × (Int × Unit))) × (Int × (Int × Unit))) × ((List Int) × (Int × Unit))) → Out (List (List Int))
 | 0, _ => .fail
 | m + 1, x => F106 (f106r m) fuel x
theorem c106r : ∀ m, Contract Tryz.prog ⟨106, .call, ty18, (.list (.list (.int .i64))), false, true, f106r m⟩
 | 0 => fun _ _ _ _ _ _ _ => trivial
 | m + 1 => contract_at (l := specs106 (f106r m)) (arg := ty18) (res := (.list (.list (.int .i64)))) (multi := false) (own := true) (F := f106r (m + 1)) mixed (all_cons c107 (all_cons (c106r m) all_nil)) Tryz.func106 rfl hints106 fun x _ => ⟨fuel, e106 (f106r m) fuel x⟩
noncomputable def f106 (x : (((List (Int × (Int × Unit))) × (Int × (Int × Unit))) × ((List Int) × (Int × Unit)))) : Out (List (List Int)) := f106r fuel x
noncomputable def sp106 : Spec := ⟨106, .call, ty18, (.list (.list (.int .i64))), false, true, f106⟩
theorem c106 : Contract Tryz.prog sp106 := c106r fuel
noncomputable def specs39 : List Spec := [sp40, sp93]
def hints39 : List (Nat × List Nat) := [(5, [1, 2, 5, 6]), (9, [1, 2, 5, 7])]
noncomputable def L39_1 (N : Nat) (n_L39_1 : Nat) (x : (((List (Int × (Int × Unit))) × (Int × (Int × Unit))) × ((List Int) × Unit))) (l_5 : (List Int)) (i_6 : Int) : Out Int :=
 vloop Tryz.prog (phi specs39) hints39 N Tryz.f39 false false (.int .i64) [.at 1, .at 1, .at 1, .at 1, .at 0, .at 1, .at 0] n_L39_1 [.und, .d (.list (.int .i64)) x.2.1, .box [.d ty2 x.1.1, .d (.int .i64) x.1.2.1, .d (.int .i64) x.1.2.2.1], .und, .und, .own (.int .i64) l_5 false, .und, .d (.int .i64) i_6, .und, .und, .und, .und, .und, .und, .und, .und, .und, .und, .und, .und, .und, .und, .und, .und, .und, .und, .und, .und, .und, .und, .und, .und, .und, .und, .und, .und, .und, .und, .und, .und, .und, .und, .und, .und, .und, .und, .und, .und, .und, .und, .und, .und]
noncomputable def L39_0 (N : Nat) (n_L39_0 : Nat) (x : (((List (Int × (Int × Unit))) × (Int × (Int × Unit))) × ((List Int) × Unit))) (l_3 : (List Int)) (n_4 : Int) : Out Int :=
 vloop Tryz.prog (phi specs39) hints39 N Tryz.f39 false false (.int .i64) [.at 1, .at 1, .at 1, .at 0, .at 1, .at 0] n_L39_0 [.und, .d (.list (.int .i64)) x.2.1, .box [.d ty2 x.1.1, .d (.int .i64) x.1.2.1, .d (.int .i64) x.1.2.2.1], .und, .und, .own (.int .i64) l_3 false, .d (.int .i64) n_4, .und, .und, .und, .und, .und, .und, .und, .und, .und, .und, .und, .und, .und, .und, .und, .und, .und, .und, .und, .und, .und, .und, .und, .und, .und, .und, .und, .und, .und, .und, .und, .und, .und, .und, .und, .und, .und, .und, .und, .und, .und, .und, .und, .und, .und]
theorem L39_1_succ (N : Nat) (n_L39_1 : Nat) (x : (((List (Int × (Int × Unit))) × (Int × (Int × Unit))) × ((List Int) × Unit))) (l_5 : (List Int)) (i_6 : Int) : L39_1 N  (n_L39_1 + 1) x l_5 i_6 =
  (
  match (decide (i_6 < (lenI x.2.1))) with
  | true =>
   bif (inb (IntKind.i64.wrap (i_6 - (1 : Int))) x.2.1.length) then
    bif (inb i_6 x.2.1.length) then
     match f93 (x.1, ((List.getD x.2.1 (IntKind.i64.wrap (i_6 - (1 : Int))).toNat (0 : Int)), ((List.getD x.2.1 i_6.toNat (0 : Int)), (l_5, ())))) with
     | .ret r_7 =>
      L39_1 N n_L39_1 x r_7 (IntKind.i64.wrap (i_6 + (1 : Int)))
     | .pan p_8 =>
      .pan p_8
     | .fail => .fail
    else .fail
   else .fail
  | false =>
   match ((lenI l_5) == (0 : Int)) with
   | true =>
    .ret (1 : Int)
   | false =>
    .ret (2 : Int) : Out Int) := by
 kernel_rfl
theorem L39_0_succ (N : Nat) (n_L39_0 : Nat) (x : (((List (Int × (Int × Unit))) × (Int × (Int × Unit))) × ((List Int) × Unit))) (l_3 : (List Int)) (n_4 : Int) : L39_0 N  (n_L39_0 + 1) x l_3 n_4 =
  (
  bif (inb (0 : Int) x.1.1.length) then
   match (decide (n_4 ≤ ((List.getD x.1.1 (0 : Int).toNat ((0 : Int), ((0 : Int), ())))).2.1)) with
   | true =>
    bif (fits l_3 ([n_4] : List Int)) then
     L39_0 N n_L39_0 x (l_3 ++ ([n_4] : List Int)) (IntKind.i64.wrap (n_4 + (1 : Int)))
    else .fail
   | false =>
    L39_1 N N x l_3 (1 : Int)
  else .fail : Out Int) := by
 kernel_rfl
noncomputable def F39 (N : Nat) (x : (((List (Int × (Int × Unit))) × (Int × (Int × Unit))) × ((List Int) × Unit))) : Out Int :=
 match f40 (x.1, (x.2.1, ())) with
 | .ret r_1 =>
  match ((lenI r_1) == (0 : Int)) with
  | true =>
   .ret (3 : Int)
  | false =>
   bif (inb (0 : Int) x.1.1.length) then
    L39_0 N N x ([] : List Int) ((List.getD x.1.1 (0 : Int).toNat ((0 : Int), ((0 : Int), ())))).1
   else .fail
 | .pan p_2 =>
  .pan p_2
 | .fail => .fail
theorem e39 (N : Nat) (x : (((List (Int × (Int × Unit))) × (Int × (Int × Unit))) × ((List Int) × Unit))) : vfn Tryz.prog (phi specs39) hints39 N Tryz.f39 false false ty0 (.int .i64) x = F39 N x := by
 kernel_rfl
noncomputable def f39 (x : (((List (Int × (Int × Unit))) × (Int × (Int × Unit))) × ((List Int) × Unit))) : Out Int := F39 fuel x
noncomputable def sp39 : Spec := ⟨39, .call, ty0, (.int .i64), false, false, f39⟩
theorem c39 : Contract Tryz.prog sp39 := contract_at (l := specs39) (arg := ty0) (res := (.int .i64)) (multi := false) (own := false) (F := f39) mixed (all_cons c40 (all_cons c93 all_nil)) Tryz.func39 rfl hints39 fun x _ => ⟨fuel, e39 fuel x⟩
noncomputable def specs43 : List Spec := [sp77, sp78, sp80, sp99, sp100]
def hints43 : List (Nat × List Nat) := [(6, [6, 7, 24, 25])]
noncomputable def L43_0 (N : Nat) (n_L43_0 : Nat) (x : (((List (Int × (Int × Unit))) × (Int × (Int × Unit))) × ((List Int) × Unit))) (x_5 : (List (Int × (Int × Unit)))) (x_6 : Int) (x_7 : Int) (x_8 : (List Int)) (x_9 : Unit) (n_10 : Int) (t25_11 : Int) : Out (Int × (Int × Unit)) :=
 vloop Tryz.prog (phi specs43) hints43 N Tryz.f43 true false ty3 [.at 1, .at 1, .at 1, .at 1, .at 0, .at 1, .at 0] n_L43_0 [.und, .und, .und, .und, .und, .und, .box [.d ty2 x_5, .d (.int .i64) x_6, .d (.int .i64) x_7, .d (.list (.int .i64)) x_8, .d .opq x_9], .d (.int .i64) n_10, .und, .und, .und, .und, .und, .und, .und, .und, .und, .und, .und, .und, .und, .und, .und, .und, .d (.int .i64) (lenI x.1.1), .d (.int .i64) t25_11, .und, .und, .und, .und, .und, .und, .und, .und, .und, .und, .und, .und, .und, .und, .und, .und, .und, .und]
theorem L43_0_succ (N : Nat) (n_L43_0 : Nat) (x : (((List (Int × (Int × Unit))) × (Int × (Int × Unit))) × ((List Int) × Unit))) (x_5 : (List (Int × (Int × Unit)))) (x_6 : Int) (x_7 : Int) (x_8 : (List Int)) (x_9 : Unit) (n_10 : Int) (t25_11 : Int) : L43_0 N  (n_L43_0 + 1) x x_5 x_6 x_7 x_8 x_9 n_10 t25_11 =
  (
  match (decide (t25_11 < (lenI x.1.1))) with
  | true =>
   match f99 (((x_5, (x_6, (x_7, ()))), (x_8, (x_9, ()))), (t25_11, ())) with
   | .ret r_12 =>
    match (decide (r_12.1 < r_12.2.1)) with
    | true =>
     match f100 (((x_5, (x_6, (x_7, ()))), (x_8, (x_9, ()))), (r_12, (t25_11, ()))) with
     | .ret r_14 =>
      L43_0 N n_L43_0 x x_5 x_6 x_7 x_8 x_9 (if r_14 > n_10 then r_14 else n_10) (IntKind.i64.wrap (t25_11 + (1 : Int)))
     | .pan p_15 =>
      .pan p_15
     | .fail => .fail
    | false =>
     L43_0 N n_L43_0 x x_5 x_6 x_7 x_8 x_9 n_10 (IntKind.i64.wrap (t25_11 + (1 : Int)))
   | .pan p_13 =>
    .pan p_13
   | .fail => .fail
  | false =>
   .ret (n_10, ((0 : Int), ())) : Out (Int × (Int × Unit))) := by
 kernel_rfl
noncomputable def F43 (N : Nat) (x : (((List (Int × (Int × Unit))) × (Int × (Int × Unit))) × ((List Int) × Unit))) : Out (Int × (Int × Unit)) :=
 match f77 (x.1, ()) with
 | .ret r_1 =>
  match (!r_1) with
  | true =>
   .ret ((0 : Int), ((2 : Int), ()))
  | false =>
   match f78 (x.1, (x.2.1, ())) with
   | .ret r_3 =>
    match (!r_3) with
    | true =>
     .ret ((0 : Int), ((2 : Int), ()))
    | false =>
     L43_0 N N x x.1.1 x.1.2.1 x.1.2.2.1 x.2.1 () (0 : Int) (0 : Int)
   | .pan p_4 =>
    .pan p_4
   | .fail => .fail
 | .pan p_2 =>
  .pan p_2
 | .fail => .fail
theorem e43 (N : Nat) (x : (((List (Int × (Int × Unit))) × (Int × (Int × Unit))) × ((List Int) × Unit))) : vfn Tryz.prog (phi specs43) hints43 N Tryz.f43 true false ty0 ty3 x = F43 N x := by
 kernel_rfl
noncomputable def f43 (x : (((List (Int × (Int × Unit))) × (Int × (Int × Unit))) × ((List Int) × Unit))) : Out (Int × (Int × Unit)) := F43 fuel x
noncomputable def sp43 : Spec := ⟨43, .call, ty0, ty3, true, false, f43⟩
theorem c43 : Contract Tryz.prog sp43 := contract_at (l := specs43) (arg := ty0) (res := ty3) (multi := true) (own := false) (F := f43) mixed (all_cons c77 (all_cons c78 (all_cons c80 (all_cons c99 (all_cons c100 all_nil))))) Tryz.func43 rfl hints43 fun x _ => ⟨fuel, e43 fuel x⟩
noncomputable def specs57 : List Spec := [sp106, sp52]
def hints57 : List (Nat × List Nat) := [(2, [1, 3])]
noncomputable def L57_0 (N : Nat) (n_L57_0 : Nat) (x : (((List (Int × (Int × Unit))) × (Int × (Int × Unit))) × Unit)) (n_1 : Int) : Out (List (List Int)) :=
 vloop Tryz.prog (phi specs57) hints57 N Tryz.f57 false true (.list (.list (.int .i64))) [.at 1, .at 0, .at 1, .at 0] n_L57_0 [.und, .box [.d ty2 x.1.1, .d (.int .i64) x.1.2.1, .d (.int .i64) x.1.2.2.1], .und, .d (.int .i64) n_1, .und, .und, .und, .und, .und, .und, .und, .und, .und, .und, .und, .und, .und, .und, .und, .und, .und, .und, .und]
theorem L57_0_succ (N : Nat) (n_L57_0 : Nat) (x : (((List (Int × (Int × Unit))) × (Int × (Int × Unit))) × Unit)) (n_1 : Int) : L57_0 N  (n_L57_0 + 1) x n_1 =
  (
  match (decide (n_1 < (lenI x.1.1))) with
  | true =>
   match f106 (x.1, (([(0 : Int)] : List Int), (n_1, ()))) with
   | .ret r_2 =>
    match (decide ((lenI r_2) > (0 : Int))) with
    | true =>
     .ret r_2
    | false =>
     L57_0 N n_L57_0 x (IntKind.i64.wrap (n_1 + (1 : Int)))
   | .pan p_3 =>
    .pan p_3
   | .fail => .fail
  | false =>
   match f52 (x.1, ((1 : Int), ())) with
   | .ret r_4 =>
    .ret ([r_4] : List (List Int))
   | .pan p_5 =>
    .pan p_5
   | .fail => .fail : Out (List (List Int))) := by
 kernel_rfl
noncomputable def F57 (N : Nat) (x : (((List (Int × (Int × Unit))) × (Int × (Int × Unit))) × Unit)) : Out (List (List Int)) :=
 L57_0 N N x (2 : Int)
theorem e57 (N : Nat) (x : (((List (Int × (Int × Unit))) × (Int × (Int × Unit))) × Unit)) : vfn Tryz.prog (phi specs57) hints57 N Tryz.f57 false true ty1 (.list (.list (.int .i64))) x = F57 N x := by
 kernel_rfl
noncomputable def f57 (x : (((List (Int × (Int × Unit))) × (Int × (Int × Unit))) × Unit)) : Out (List (List Int)) := F57 fuel x
noncomputable def sp57 : Spec := ⟨57, .call, ty1, (.list (.list (.int .i64))), false, true, f57⟩
theorem c57 : Contract Tryz.prog sp57 := contract_at (l := specs57) (arg := ty1) (res := (.list (.list (.int .i64)))) (multi := false) (own := true) (F := f57) mixed (all_cons c106 (all_cons c52 all_nil)) Tryz.func57 rfl hints57 fun x _ => ⟨fuel, e57 fuel x⟩
noncomputable def specs92 : List Spec := [sp99, sp100]
def hints92 : List (Nat × List Nat) := [(3, [1, 3, 9, 10])]
noncomputable def L92_0 (N : Nat) (n_L92_0 : Nat) (x : ((((List (Int × (Int × Unit))) × (Int × (Int × Unit))) × ((List Int) × (Unit × Unit))) × Unit)) (t_1 : (List (Int × (Int × Unit)))) (t_2 : Int) (t_3 : Int) (t_4 : (List Int)) (t_5 : Unit) (out_6 : (List Int)) (t10_7 : Int) : Out (List Int) :=
 vloop Tryz.prog (phi specs92) hints92 N Tryz.f92 false true (.list (.int .i64)) [.at 1, .at 1, .at 0, .at 1, .at 0] n_L92_0 [.und, .box [.d ty2 t_1, .d (.int .i64) t_2, .d (.int .i64) t_3, .d (.list (.int .i64)) t_4, .d .opq t_5], .und, .own (.int .i64) out_6 false, .und, .und, .und, .und, .und, .d (.int .i64) (lenI x.1.1.1), .d (.int .i64) t10_7, .und, .und, .und, .und, .und, .und, .und, .und, .und, .und, .und, .und, .und, .und, .und, .und, .und, .und, .und, .und, .und, .und, .und, .und, .und, .und]
theorem L92_0_succ (N : Nat) (n_L92_0 : Nat) (x : ((((List (Int × (Int × Unit))) × (Int × (Int × Unit))) × ((List Int) × (Unit × Unit))) × Unit)) (t_1 : (List (Int × (Int × Unit)))) (t_2 : Int) (t_3 : Int) (t_4 : (List Int)) (t_5 : Unit) (out_6 : (List Int)) (t10_7 : Int) : L92_0 N  (n_L92_0 + 1) x t_1 t_2 t_3 t_4 t_5 out_6 t10_7 =
  (
  match (decide (t10_7 < (lenI x.1.1.1))) with
  | true =>
   match f99 (((t_1, (t_2, (t_3, ()))), (t_4, (t_5, ()))), (t10_7, ())) with
   | .ret r_8 =>
    match (decide (r_8.1 < r_8.2.1)) with
    | true =>
     match f100 (((t_1, (t_2, (t_3, ()))), (t_4, (t_5, ()))), (r_8, (t10_7, ()))) with
     | .ret r_10 =>
      match (decide (r_10 > t_3)) with
      | true =>
       bif (fits out_6 ([t10_7] : List Int)) then
        L92_0 N n_L92_0 x t_1 t_2 t_3 t_4 t_5 (out_6 ++ ([t10_7] : List Int)) (IntKind.i64.wrap (t10_7 + (1 : Int)))
       else .fail
      | false =>
       L92_0 N n_L92_0 x t_1 t_2 t_3 t_4 t_5 out_6 (IntKind.i64.wrap (t10_7 + (1 : Int)))
     | .pan p_11 =>
      .pan p_11
     | .fail => .fail
    | false =>
     L92_0 N n_L92_0 x t_1 t_2 t_3 t_4 t_5 out_6 (IntKind.i64.wrap (t10_7 + (1 : Int)))
   | .pan p_9 =>
    .pan p_9
   | .fail => .fail
  | false =>
   .ret out_6 : Out (List Int)) := by
 kernel_rfl
noncomputable def F92 (N : Nat) (x : ((((List (Int × (Int × Unit))) × (Int × (Int × Unit))) × ((List Int) × (Unit × Unit))) × Unit)) : Out (List Int) :=
 L92_0 N N x x.1.1.1 x.1.1.2.1 x.1.1.2.2.1 x.1.2.1 x.1.2.2.1 ([] : List Int) (0 : Int)
theorem e92 (N : Nat) (x : ((((List (Int × (Int × Unit))) × (Int × (Int × Unit))) × ((List Int) × (Unit × Unit))) × Unit)) : vfn Tryz.prog (phi specs92) hints92 N Tryz.f92 false true ty13 (.list (.int .i64)) x = F92 N x := by
 kernel_rfl
noncomputable def f92 (x : ((((List (Int × (Int × Unit))) × (Int × (Int × Unit))) × ((List Int) × (Unit × Unit))) × Unit)) : Out (List Int) := F92 fuel x
noncomputable def sp92 : Spec := ⟨92, .call, ty13, (.list (.int .i64)), false, true, f92⟩
theorem c92 : Contract Tryz.prog sp92 := contract_at (l := specs92) (arg := ty13) (res := (.list (.int .i64))) (multi := false) (own := true) (F := f92) mixed (all_cons c99 (all_cons c100 all_nil)) Tryz.func92 rfl hints92 fun x _ => ⟨fuel, e92 fuel x⟩
noncomputable def specs96a : List Spec := [sp105]
def hints96a : List (Nat × List Nat) := [(3, [0, 1, 6, 9, 10, 11]), (1000003, [6])]
noncomputable def L96a_0 (N : Nat) (n_L96a_0 : Nat) (x : ((List (List Int)) × (Value × Unit))) (out_1 : (List Int)) (t11_2 : Int) : Out ((List Int) × (Bool × Unit)) :=
 vloop Tryz.prog (phi specs96a) hints96a N Tryz.f96 true false ty7 [.at 1, .at 1, .at 0, .at 1, .at 0] n_L96a_0 [.d (.list (.list (.int .i64))) x.1, .d .raw (Value.func (.func 105) #[] #[]), .und, .und, .und, .und, .d (.list (.int .i64)) out_1, .und, .und, .d (.list (.list (.int .i64))) x.1, .d (.int .i64) (lenI x.1), .d (.int .i64) t11_2, .und, .und, .und, .und, .und, .und, .und, .und, .und, .und, .und, .und, .und, .und, .und, .und, .und, .und]
theorem L96a_0_succ (N : Nat) (n_L96a_0 : Nat) (x : ((List (List Int)) × (Value × Unit))) (out_1 : (List Int)) (t11_2 : Int) : L96a_0 N  (n_L96a_0 + 1) x out_1 t11_2 =
  (
  match (decide (t11_2 < (lenI x.1))) with
  | true =>
   bif (inb t11_2 x.1.length) then
    match (t11_2 == (0 : Int)) with
    | true =>
     L96a_0 N n_L96a_0 x (List.getD x.1 t11_2.toNat ([] : List Int)) (IntKind.i64.wrap (t11_2 + (1 : Int)))
    | false =>
     match (decide ((lenI (List.getD x.1 t11_2.toNat ([] : List Int))) < (lenI out_1))) with
     | true =>
      L96a_0 N n_L96a_0 x (List.getD x.1 t11_2.toNat ([] : List Int)) (IntKind.i64.wrap (t11_2 + (1 : Int)))
     | false =>
      L96a_0 N n_L96a_0 x out_1 (IntKind.i64.wrap (t11_2 + (1 : Int)))
   else .fail
  | false =>
   .ret (out_1, ((decide ((lenI x.1) > (0 : Int))), ())) : Out ((List Int) × (Bool × Unit))) := by
 kernel_rfl
noncomputable def F96a (N : Nat) (x : ((List (List Int)) × (Value × Unit))) : Out ((List Int) × (Bool × Unit)) :=
 L96a_0 N N x ([] : List Int) (0 : Int)
theorem e96a (N : Nat) (x : ((List (List Int)) × (Value × Unit))) : vfn Tryz.prog (phi specs96a) hints96a N Tryz.f96 true false ty16 ty7 (x.1, (Value.func (.func 105) #[] #[]), ()) = F96a N x := by
 kernel_rfl
@[irreducible] noncomputable def f96a (x : ((List (List Int)) × (Value × Unit))) : Out ((List Int) × (Bool × Unit)) := vfn Tryz.prog (phi specs96a) hints96a fuel Tryz.f96 true false ty16 ty7 x
noncomputable def sp96a : Spec := ⟨96, .call, ty16, ty7, true, false, f96a⟩
theorem q96a (x : ((List (List Int)) × (Value × Unit))) : vfn Tryz.prog (phi specs96a) hints96a fuel Tryz.f96 true false ty16 ty7 x = f96a x := by kernel_rfl
theorem c96a : Contract Tryz.prog sp96a := contract_at (l := specs96a) (arg := ty16) (res := ty7) (multi := true) (own := false) (F := f96a) mixed (all_cons c105 all_nil) Tryz.func96 rfl hints96a fun x _ => ⟨fuel, q96a x⟩
noncomputable def specs96b : List Spec := [sp97]
def hints96b : List (Nat × List Nat) := [(3, [0, 1, 6, 9, 10, 11]), (1000003, [6])]
noncomputable def L96b_0 (N : Nat) (n_L96b_0 : Nat) (x : ((List (List Int)) × (Value × Unit))) (out_1 : (List Int)) (t11_2 : Int) : Out ((List Int) × (Bool × Unit)) :=
 vloop Tryz.prog (phi specs96b) hints96b N Tryz.f96 true false ty7 [.at 1, .at 1, .at 0, .at 1, .at 0] n_L96b_0 [.d (.list (.list (.int .i64))) x.1, .d .raw (Value.func (.func 97) #[] #[]), .und, .und, .und, .und, .d (.list (.int .i64)) out_1, .und, .und, .d (.list (.list (.int .i64))) x.1, .d (.int .i64) (lenI x.1), .d (.int .i64) t11_2, .und, .und, .und, .und, .und, .und, .und, .und, .und, .und, .und, .und, .und, .und, .und, .und, .und, .und]
theorem L96b_0_succ (N : Nat) (n_L96b_0 : Nat) (x : ((List (List Int)) × (Value × Unit))) (out_1 : (List Int)) (t11_2 : Int) : L96b_0 N  (n_L96b_0 + 1) x out_1 t11_2 =
  (
  match (decide (t11_2 < (lenI x.1))) with
  | true =>
   bif (inb t11_2 x.1.length) then
    match (t11_2 == (0 : Int)) with
    | true =>
     L96b_0 N n_L96b_0 x (List.getD x.1 t11_2.toNat ([] : List Int)) (IntKind.i64.wrap (t11_2 + (1 : Int)))
    | false =>
     match f97 ((List.getD x.1 t11_2.toNat ([] : List Int)), (out_1, ())) with
     | .ret r_3 =>
      match r_3 with
      | true =>
       L96b_0 N n_L96b_0 x (List.getD x.1 t11_2.toNat ([] : List Int)) (IntKind.i64.wrap (t11_2 + (1 : Int)))
      | false =>
       L96b_0 N n_L96b_0 x out_1 (IntKind.i64.wrap (t11_2 + (1 : Int)))
     | .pan p_4 =>
      .pan p_4
     | .fail => .fail
   else .fail
  | false =>
   .ret (out_1, ((decide ((lenI x.1) > (0 : Int))), ())) : Out ((List Int) × (Bool × Unit))) := by
 kernel_rfl
noncomputable def F96b (N : Nat) (x : ((List (List Int)) × (Value × Unit))) : Out ((List Int) × (Bool × Unit)) :=
 L96b_0 N N x ([] : List Int) (0 : Int)
theorem e96b (N : Nat) (x : ((List (List Int)) × (Value × Unit))) : vfn Tryz.prog (phi specs96b) hints96b N Tryz.f96 true false ty16 ty7 (x.1, (Value.func (.func 97) #[] #[]), ()) = F96b N x := by
 kernel_rfl
@[irreducible] noncomputable def f96b (x : ((List (List Int)) × (Value × Unit))) : Out ((List Int) × (Bool × Unit)) := vfn Tryz.prog (phi specs96b) hints96b fuel Tryz.f96 true false ty16 ty7 x
noncomputable def sp96b : Spec := ⟨96, .call, ty16, ty7, true, false, f96b⟩
theorem q96b (x : ((List (List Int)) × (Value × Unit))) : vfn Tryz.prog (phi specs96b) hints96b fuel Tryz.f96 true false ty16 ty7 x = f96b x := by kernel_rfl
theorem c96b : Contract Tryz.prog sp96b := contract_at (l := specs96b) (arg := ty16) (res := ty7) (multi := true) (own := false) (F := f96b) mixed (all_cons c97 all_nil) Tryz.func96 rfl hints96b fun x _ => ⟨fuel, q96b x⟩
noncomputable def specs131 : List Spec := [sp92]
def hints131 : List (Nat × List Nat) := []
noncomputable def F131 (N : Nat) (x : ((((List (Int × (Int × Unit))) × (Int × (Int × Unit))) × ((List Int) × (Unit × Unit))) × Unit)) : Out Unit :=
 match f92 (x.1, ()) with
 | .ret r_1 =>
  match (decide ((lenI r_1) > (0 : Int))) with
  | true =>
   bif (inb (0 : Int) r_1.length) then
    .pan (.iface 161 (toVal (.prod (.int .i64) .unit) ((valOf (.prod (.int .i64) .unit) ((List.getD r_1 (0 : Int).toNat (0 : Int)), ())).getD [])))
   else .fail
  | false =>
   .ret ()
 | .pan p_2 =>
  .pan p_2
 | .fail => .fail
theorem e131 (N : Nat) (x : ((((List (Int × (Int × Unit))) × (Int × (Int × Unit))) × ((List Int) × (Unit × Unit))) × Unit)) : vfn Tryz.prog (phi specs131) hints131 N Tryz.f131 true false ty13 .unit x = F131 N x := by
 kernel_rfl
noncomputable def f131 (x : ((((List (Int × (Int × Unit))) × (Int × (Int × Unit))) × ((List Int) × (Unit × Unit))) × Unit)) : Out Unit := F131 fuel x
noncomputable def sp131 : Spec := ⟨131, .call, ty13, .unit, true, false, f131⟩
theorem c131 : Contract Tryz.prog sp131 := contract_at (l := specs131) (arg := ty13) (res := .unit) (multi := true) (own := false) (F := f131) mixed (all_cons c92 all_nil) Tryz.func131 rfl hints131 fun x _ => ⟨fuel, e131 fuel x⟩
noncomputable def specs37 : List Spec := [sp77, sp78, sp80, sp92]
def hints37 : List (Nat × List Nat) := []
noncomputable def F37 (N : Nat) (x : (((List (Int × (Int × Unit))) × (Int × (Int × Unit))) × ((List Int) × Unit))) : Out ((List Int) × (Int × Unit)) :=
 match f77 (x.1, ()) with
 | .ret r_1 =>
  match (!r_1) with
  | true =>
   .ret (([] : List Int), ((2 : Int), ()))
  | false =>
   match f78 (x.1, (x.2.1, ())) with
   | .ret r_3 =>
    match (!r_3) with
    | true =>
     .ret (([] : List Int), ((2 : Int), ()))
    | false =>
     match f92 ((x.1, (x.2.1, ((), ()))), ()) with
     | .ret r_5 =>
      .ret (r_5, ((0 : Int), ()))
     | .pan p_6 =>
      .pan p_6
     | .fail => .fail
   | .pan p_4 =>
    .pan p_4
   | .fail => .fail
 | .pan p_2 =>
  .pan p_2
 | .fail => .fail
theorem e37 (N : Nat) (x : (((List (Int × (Int × Unit))) × (Int × (Int × Unit))) × ((List Int) × Unit))) : vfn Tryz.prog (phi specs37) hints37 N Tryz.f37 true false ty0 ty4 x = F37 N x := by
 kernel_rfl
noncomputable def f37 (x : (((List (Int × (Int × Unit))) × (Int × (Int × Unit))) × ((List Int) × Unit))) : Out ((List Int) × (Int × Unit)) := F37 fuel x
noncomputable def sp37 : Spec := ⟨37, .call, ty0, ty4, true, false, f37⟩
theorem c37 : Contract Tryz.prog sp37 := contract_at (l := specs37) (arg := ty0) (res := ty4) (multi := true) (own := false) (F := f37) mixed (all_cons c77 (all_cons c78 (all_cons c80 (all_cons c92 all_nil)))) Tryz.func37 rfl hints37 fun x _ => ⟨fuel, e37 fuel x⟩
end Go.V
