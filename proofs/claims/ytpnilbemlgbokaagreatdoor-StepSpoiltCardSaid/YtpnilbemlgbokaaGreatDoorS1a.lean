/- The functions read, first part. -/
import Derived.Test.YtpnilbemlgbokaaGreatDoorSI
set_option linter.all false
namespace Go.V
open Go.Proofs
abbrev lenTab : List UInt8 := [0, 1, 2, 2, 3, 3, 3, 3, 4, 4, 4, 4, 4, 4, 4, 4, 5, 5, 5, 5, 5, 5, 5, 5, 5, 5, 5, 5, 5, 5, 5, 5, 6, 6, 6, 6, 6, 6, 6, 6, 6, 6, 6, 6, 6, 6, 6, 6, 6, 6, 6, 6, 6, 6, 6, 6, 6, 6, 6, 6, 6, 6, 6, 6, 7, 7, 7, 7, 7, 7, 7, 7, 7, 7, 7, 7, 7, 7, 7, 7, 7, 7, 7, 7, 7, 7, 7, 7, 7, 7, 7, 7, 7, 7, 7, 7, 7, 7, 7, 7, 7, 7, 7, 7, 7, 7, 7, 7, 7, 7, 7, 7, 7, 7, 7, 7, 7, 7, 7, 7, 7, 7, 7, 7, 7, 7, 7, 7, 8, 8, 8, 8, 8, 8, 8, 8, 8, 8, 8, 8, 8, 8, 8, 8, 8, 8, 8, 8, 8, 8, 8, 8, 8, 8, 8, 8, 8, 8, 8, 8, 8, 8, 8, 8, 8, 8, 8, 8, 8, 8, 8, 8, 8, 8, 8, 8, 8, 8, 8, 8, 8, 8, 8, 8, 8, 8, 8, 8, 8, 8, 8, 8, 8, 8, 8, 8, 8, 8, 8, 8, 8, 8, 8, 8, 8, 8, 8, 8, 8, 8, 8, 8, 8, 8, 8, 8, 8, 8, 8, 8, 8, 8, 8, 8, 8, 8, 8, 8, 8, 8, 8, 8, 8, 8, 8, 8, 8, 8, 8, 8, 8, 8, 8, 8, 8, 8, 8, 8, 8, 8, 8, 8, 8, 8, 8, 8]
abbrev ty0 : Ty := .prod (.prod (.list (.prod (.int .i64) (.prod (.int .i64) .unit))) (.prod (.int .i64) (.prod (.int .i64) .unit))) (.prod (.list (.int .i64)) .unit)
abbrev ty1 : Ty := .prod (.prod (.list (.prod (.int .i64) (.prod (.int .i64) .unit))) (.prod (.int .i64) (.prod (.int .i64) .unit))) .unit
abbrev ty2 : Ty := .list (.prod (.int .i64) (.prod (.int .i64) .unit))
abbrev ty3 : Ty := .prod (.int .i64) (.prod (.int .i64) .unit)
abbrev ty4 : Ty := .prod (.list (.int .i64)) (.prod (.int .i64) .unit)
abbrev ty5 : Ty := .prod (.int .i64) (.prod (.int .i64) (.prod (.int .i64) .unit))
abbrev ty6 : Ty := .prod (.prod (.list (.prod (.int .i64) (.prod (.int .i64) .unit))) (.prod (.int .i64) (.prod (.int .i64) .unit))) (.prod (.int .i64) .unit)
abbrev ty7 : Ty := .prod (.list (.int .i64)) (.prod .bool .unit)
abbrev ty8 : Ty := .prod (.list (.prod (.int .i64) (.prod (.int .i64) .unit))) (.prod (.int .i64) (.prod (.int .i64) .unit))
abbrev ty9 : Ty := .prod (.list (.int .i64)) (.prod (.list (.int .i64)) .unit)
abbrev ty10 : Ty := .prod (.prod (.list (.prod (.int .i64) (.prod (.int .i64) .unit))) (.prod (.int .i64) (.prod (.int .i64) .unit))) (.prod (.list (.int .i64)) (.prod (.list (.int .i64)) .unit))
abbrev ty11 : Ty := .prod (.prod (.int .i64) (.prod (.int .i64) .unit)) .unit
abbrev ty12 : Ty := .prod (.list (.prod (.int .i64) (.prod (.int .i64) .unit))) (.prod .raw .unit)
abbrev ty13 : Ty := .prod (.prod (.prod (.list (.prod (.int .i64) (.prod (.int .i64) .unit))) (.prod (.int .i64) (.prod (.int .i64) .unit))) (.prod (.list (.int .i64)) (.prod .opq .unit))) .unit
abbrev ty14 : Ty := .prod (.prod (.int .i64) .unit) (.prod (.int .i64) .unit)
abbrev ty15 : Ty := .prod .str (.prod .str .unit)
abbrev ty16 : Ty := .prod (.list (.list (.int .i64))) (.prod .raw .unit)
abbrev ty17 : Ty := .prod (.int .i64) (.prod .bool .unit)
abbrev ty18 : Ty := .prod (.prod (.list (.prod (.int .i64) (.prod (.int .i64) .unit))) (.prod (.int .i64) (.prod (.int .i64) .unit))) (.prod (.list (.int .i64)) (.prod (.int .i64) .unit))
abbrev ty19 : Ty := .prod (.ptr (.prod (.list (.prod (.int .i64) (.prod (.int .i64) .unit))) (.prod (.int .i64) (.prod (.int .i64) .unit)))) .unit
abbrev ty20 : Ty := .prod .str (.prod (.int .i64) .unit)
abbrev ty21 : Ty := .prod (.prod (.list (.prod (.int .i64) (.prod (.int .i64) .unit))) (.prod (.int .i64) (.prod (.int .i64) .unit))) (.prod (.int .i64) (.prod (.int .i64) .unit))
abbrev ty22 : Ty := .prod (.prod (.int .i64) (.prod (.int .i64) .unit)) (.prod .bool .unit)
abbrev ty23 : Ty := .prod (.list .str) (.prod (.int .i64) .unit)
abbrev ty24 : Ty := .prod .str (.prod .bool .unit)
abbrev ty25 : Ty := .prod (.prod (.prod (.list (.prod (.int .i64) (.prod (.int .i64) .unit))) (.prod (.int .i64) (.prod (.int .i64) .unit))) (.prod (.list (.int .i64)) (.prod .opq .unit))) (.prod (.int .i64) .unit)
abbrev ty26 : Ty := .prod (.prod (.prod (.list (.prod (.int .i64) (.prod (.int .i64) .unit))) (.prod (.int .i64) (.prod (.int .i64) .unit))) (.prod (.list (.int .i64)) (.prod .opq .unit))) (.prod (.list (.int .i64)) .unit)
abbrev ty27 : Ty := .prod (.prod (.list (.prod (.int .i64) (.prod (.int .i64) .unit))) (.prod (.int .i64) (.prod (.int .i64) .unit))) (.prod .bool .unit)
abbrev ty28 : Ty := .prod (.int .i64) (.prod (.int .i64) (.prod .bool .unit))
abbrev ty29 : Ty := .prod (.prod (.list (.prod (.int .i64) (.prod (.int .i64) .unit))) (.prod (.int .i64) (.prod (.int .i64) .unit))) (.prod (.prod (.list (.prod (.int .i64) (.prod (.int .i64) .unit))) (.prod (.int .i64) (.prod (.int .i64) .unit))) .unit)
abbrev ty32 : Ty := .prod (.prod (.list (.prod (.int .i64) (.prod (.int .i64) .unit))) (.prod (.int .i64) (.prod (.int .i64) .unit))) (.prod (.list (.int .i64)) (.prod .opq .unit))
abbrev ty35 : Ty := .prod (.prod (.int .i64) (.prod (.int .i64) .unit)) (.prod (.prod (.int .i64) (.prod (.int .i64) .unit)) .unit)
abbrev ty36 : Ty := .prod (.list (.prod (.int .i64) (.prod (.int .i64) .unit))) (.prod (.list (.prod (.int .i64) (.prod (.int .i64) .unit))) .unit)
abbrev ty38 : Ty := .prod (.int .i64) (.prod (.int .i64) (.prod (.int .i64) (.prod (.int .i64) (.prod (.int .i64) (.prod (.int .i64) .unit)))))
abbrev ty41 : Ty := .prod (.prod (.prod (.list (.prod (.int .i64) (.prod (.int .i64) .unit))) (.prod (.int .i64) (.prod (.int .i64) .unit))) .unit) .unit
abbrev ty42 : Ty := .prod (.prod (.list (.prod (.int .i64) (.prod (.int .i64) .unit))) (.prod (.int .i64) (.prod (.int .i64) .unit))) (.prod (.list (.int .i64)) (.prod (.int .i64) (.prod (.list (.int .i64)) .unit)))
abbrev ty44 : Ty := .prod (.prod (.prod (.list (.prod (.int .i64) (.prod (.int .i64) .unit))) (.prod (.int .i64) (.prod (.int .i64) .unit))) (.prod (.list (.int .i64)) (.prod .opq .unit))) (.prod (.prod (.int .i64) (.prod (.int .i64) .unit)) (.prod (.int .i64) (.prod (.int .i64) (.prod (.int .i64) .unit))))
abbrev ty45 : Ty := .prod (.prod (.prod (.list (.prod (.int .i64) (.prod (.int .i64) .unit))) (.prod (.int .i64) (.prod (.int .i64) .unit))) (.prod (.list (.int .i64)) (.prod .opq .unit))) (.prod (.prod (.int .i64) (.prod (.int .i64) .unit)) (.prod (.list (.int .i64)) .unit))
abbrev ty46 : Ty := .prod (.prod (.list (.prod (.int .i64) (.prod (.int .i64) .unit))) (.prod (.int .i64) (.prod (.int .i64) .unit))) (.prod (.int .i64) (.prod (.int .i64) (.prod (.int .i64) (.prod (.int .i64) .unit))))
abbrev ty47 : Ty := .prod (.prod (.prod (.list (.prod (.int .i64) (.prod (.int .i64) .unit))) (.prod (.int .i64) (.prod (.int .i64) .unit))) (.prod (.list (.int .i64)) (.prod .opq .unit))) (.prod (.int .i64) (.prod (.int .i64) .unit))
abbrev ty48 : Ty := .prod (.prod (.list (.prod (.int .i64) (.prod (.int .i64) .unit))) (.prod (.int .i64) (.prod (.int .i64) .unit))) (.prod (.int .i64) (.prod (.int .i64) (.prod (.list (.int .i64)) .unit)))
abbrev ty49 : Ty := .prod (.prod (.prod (.list (.prod (.int .i64) (.prod (.int .i64) .unit))) (.prod (.int .i64) (.prod (.int .i64) .unit))) (.prod (.list (.int .i64)) (.prod .opq .unit))) (.prod (.prod (.int .i64) (.prod (.int .i64) .unit)) (.prod (.int .i64) .unit))
abbrev ty50 : Ty := .prod (.dyn 156 (.prod (.prod (.list (.prod (.int .i64) (.prod (.int .i64) .unit))) (.prod (.int .i64) (.prod (.int .i64) .unit))) .unit)) .unit
noncomputable def specs30 : List Spec := []
def hints30 : List (Nat × List Nat) := []
noncomputable def F30 (N : Nat) (x : (Int × Unit)) : Out Bool :=
 match (decide (x.1 ≥ (1 : Int))) with
 | true =>
  .ret (decide (x.1 ≤ (4 : Int)))
 | false =>
  .ret false
theorem e30 (N : Nat) (x : (Int × Unit)) : vfn Tryz.prog (phi specs30) hints30 N Tryz.f30 false false (.prod (.int .i64) .unit) .bool x = F30 N x := by
 kernel_rfl
noncomputable def f30 (x : (Int × Unit)) : Out Bool := F30 fuel x
noncomputable def sp30 : Spec := ⟨30, .call, (.prod (.int .i64) .unit), .bool, false, false, f30⟩
theorem c30 : Contract Tryz.prog sp30 := contract_at (l := specs30) (arg := (.prod (.int .i64) .unit)) (res := .bool) (multi := false) (own := false) (F := f30) mixed all_nil Tryz.func30 rfl hints30 fun x _ => ⟨fuel, e30 fuel x⟩
noncomputable def specs31 : List Spec := []
def hints31 : List (Nat × List Nat) := [(4, [0, 1, 5])]
noncomputable def L31_0 (N : Nat) (n_L31_0 : Nat) (x : ((List Int) × ((List Int) × Unit))) (i_1 : Int) : Out Bool :=
 vloop Tryz.prog (phi specs31) hints31 N Tryz.f31 false false .bool [.at 1, .at 1, .at 0, .at 1, .at 0] n_L31_0 [.d (.list (.int .i64)) x.1, .d (.list (.int .i64)) x.2.1, .und, .und, .und, .d (.int .i64) i_1, .und, .und, .und, .und, .und, .und, .und, .und, .und, .und, .und, .und, .und, .und, .und, .und, .und, .und, .und, .und]
theorem L31_0_succ (N : Nat) (n_L31_0 : Nat) (x : ((List Int) × ((List Int) × Unit))) (i_1 : Int) : L31_0 N  (n_L31_0 + 1) x i_1 =
  (
  match (decide (i_1 < (lenI x.1))) with
  | true =>
   bif (inb i_1 x.1.length) then
    bif (inb i_1 x.2.1.length) then
     match ((List.getD x.1 i_1.toNat (0 : Int)) != (List.getD x.2.1 i_1.toNat (0 : Int))) with
     | true =>
      .ret false
     | false =>
      L31_0 N n_L31_0 x (IntKind.i64.wrap (i_1 + (1 : Int)))
    else .fail
   else .fail
  | false =>
   .ret true : Out Bool) := by
 kernel_rfl
noncomputable def F31 (N : Nat) (x : ((List Int) × ((List Int) × Unit))) : Out Bool :=
 match ((lenI x.1) != (lenI x.2.1)) with
 | true =>
  .ret false
 | false =>
  L31_0 N N x (0 : Int)
theorem e31 (N : Nat) (x : ((List Int) × ((List Int) × Unit))) : vfn Tryz.prog (phi specs31) hints31 N Tryz.f31 false false ty9 .bool x = F31 N x := by
 kernel_rfl
noncomputable def f31 (x : ((List Int) × ((List Int) × Unit))) : Out Bool := F31 fuel x
noncomputable def sp31 : Spec := ⟨31, .call, ty9, .bool, false, false, f31⟩
theorem c31 : Contract Tryz.prog sp31 := contract_at (l := specs31) (arg := ty9) (res := .bool) (multi := false) (own := false) (F := f31) mixed all_nil Tryz.func31 rfl hints31 fun x _ => ⟨fuel, e31 fuel x⟩
noncomputable def specs33 : List Spec := []
def hints33 : List (Nat × List Nat) := []
noncomputable def F33 (N : Nat) (x : (((List (Int × (Int × Unit))) × (Int × (Int × Unit))) × Unit)) : Out Bool :=
 .ret (decide ((lenI x.1.1) ≤ (16 : Int)))
theorem e33 (N : Nat) (x : (((List (Int × (Int × Unit))) × (Int × (Int × Unit))) × Unit)) : vfn Tryz.prog (phi specs33) hints33 N Tryz.f33 false false ty1 .bool x = F33 N x := by
 kernel_rfl
noncomputable def f33 (x : (((List (Int × (Int × Unit))) × (Int × (Int × Unit))) × Unit)) : Out Bool := F33 fuel x
noncomputable def sp33 : Spec := ⟨33, .call, ty1, .bool, false, false, f33⟩
theorem c33 : Contract Tryz.prog sp33 := contract_at (l := specs33) (arg := ty1) (res := .bool) (multi := false) (own := false) (F := f33) mixed all_nil Tryz.func33 rfl hints33 fun x _ => ⟨fuel, e33 fuel x⟩
noncomputable def specs38 : List Spec := []
def hints38 : List (Nat × List Nat) := [(4, [1, 5])]
noncomputable def L38_0 (N : Nat) (n_L38_0 : Nat) (x : (((List (Int × (Int × Unit))) × (Int × (Int × Unit))) × ((List Int) × Unit))) (i_1 : Int) : Out Bool :=
 vloop Tryz.prog (phi specs38) hints38 N Tryz.f38 false false .bool [.at 1, .at 1, .at 0, .at 1, .at 0] n_L38_0 [.und, .d (.list (.int .i64)) x.2.1, .und, .und, .und, .d (.int .i64) i_1, .und, .und, .und, .und, .und, .und, .und, .und, .und, .und, .und, .und, .und, .und, .und, .und, .und, .und, .und, .und, .und, .und, .und, .und, .und, .und, .und, .und, .und, .und, .und, .und, .und, .und, .und, .und, .und, .und]
theorem L38_0_succ (N : Nat) (n_L38_0 : Nat) (x : (((List (Int × (Int × Unit))) × (Int × (Int × Unit))) × ((List Int) × Unit))) (i_1 : Int) : L38_0 N  (n_L38_0 + 1) x i_1 =
  (
  match (decide (i_1 < (lenI x.2.1))) with
  | true =>
   bif (inb i_1 x.2.1.length) then
    bif (inb (IntKind.i64.wrap (i_1 - (1 : Int))) x.2.1.length) then
     match (decide ((List.getD x.2.1 i_1.toNat (0 : Int)) ≤ (List.getD x.2.1 (IntKind.i64.wrap (i_1 - (1 : Int))).toNat (0 : Int)))) with
     | true =>
      .ret false
     | false =>
      L38_0 N n_L38_0 x (IntKind.i64.wrap (i_1 + (1 : Int)))
    else .fail
   else .fail
  | false =>
   .ret true : Out Bool) := by
 kernel_rfl
noncomputable def F38 (N : Nat) (x : (((List (Int × (Int × Unit))) × (Int × (Int × Unit))) × ((List Int) × Unit))) : Out Bool :=
 match (decide ((lenI x.2.1) < (2 : Int))) with
 | true =>
  .ret false
 | false =>
  bif (inb (0 : Int) x.2.1.length) then
   match ((List.getD x.2.1 (0 : Int).toNat (0 : Int)) != (0 : Int)) with
   | true =>
    .ret false
   | false =>
    bif (inb (IntKind.i64.wrap ((lenI x.2.1) - (1 : Int))) x.2.1.length) then
     match ((List.getD x.2.1 (IntKind.i64.wrap ((lenI x.2.1) - (1 : Int))).toNat (0 : Int)) != (IntKind.i64.wrap ((lenI x.1.1) - (1 : Int)))) with
     | true =>
      .ret false
     | false =>
      L38_0 N N x (1 : Int)
    else .fail
  else .fail
theorem e38 (N : Nat) (x : (((List (Int × (Int × Unit))) × (Int × (Int × Unit))) × ((List Int) × Unit))) : vfn Tryz.prog (phi specs38) hints38 N Tryz.f38 false false ty0 .bool x = F38 N x := by
 kernel_rfl
noncomputable def f38 (x : (((List (Int × (Int × Unit))) × (Int × (Int × Unit))) × ((List Int) × Unit))) : Out Bool := F38 fuel x
noncomputable def sp38 : Spec := ⟨38, .call, ty0, .bool, false, false, f38⟩
theorem c38 : Contract Tryz.prog sp38 := contract_at (l := specs38) (arg := ty0) (res := .bool) (multi := false) (own := false) (F := f38) mixed all_nil Tryz.func38 rfl hints38 fun x _ => ⟨fuel, e38 fuel x⟩
noncomputable def specs41 : List Spec := []
def hints41 : List (Nat × List Nat) := [(2, [0, 1, 5])]
noncomputable def L41_0 (N : Nat) (n_L41_0 : Nat) (x : ((List Int) × (Int × Unit))) (i_1 : Int) : Out Bool :=
 vloop Tryz.prog (phi specs41) hints41 N Tryz.f41 false false .bool [.at 1, .at 0, .at 1, .at 0] n_L41_0 [.d (.list (.int .i64)) x.1, .d (.int .i64) x.2.1, .und, .und, .und, .d (.int .i64) i_1, .und, .und, .und, .und, .und, .und, .und, .und, .und, .und, .und, .und]
theorem L41_0_succ (N : Nat) (n_L41_0 : Nat) (x : ((List Int) × (Int × Unit))) (i_1 : Int) : L41_0 N  (n_L41_0 + 1) x i_1 =
  (
  match (decide (i_1 < (lenI x.1))) with
  | true =>
   bif (inb i_1 x.1.length) then
    match ((List.getD x.1 i_1.toNat (0 : Int)) == x.2.1) with
    | true =>
     .ret true
    | false =>
     L41_0 N n_L41_0 x (IntKind.i64.wrap (i_1 + (1 : Int)))
   else .fail
  | false =>
   .ret false : Out Bool) := by
 kernel_rfl
noncomputable def F41 (N : Nat) (x : ((List Int) × (Int × Unit))) : Out Bool :=
 L41_0 N N x (0 : Int)
theorem e41 (N : Nat) (x : ((List Int) × (Int × Unit))) : vfn Tryz.prog (phi specs41) hints41 N Tryz.f41 false false ty4 .bool x = F41 N x := by
 kernel_rfl
noncomputable def f41 (x : ((List Int) × (Int × Unit))) : Out Bool := F41 fuel x
noncomputable def sp41 : Spec := ⟨41, .call, ty4, .bool, false, false, f41⟩
theorem c41 : Contract Tryz.prog sp41 := contract_at (l := specs41) (arg := ty4) (res := .bool) (multi := false) (own := false) (F := f41) mixed all_nil Tryz.func41 rfl hints41 fun x _ => ⟨fuel, e41 fuel x⟩
noncomputable def specs47 : List Spec := []
def hints47 : List (Nat × List Nat) := [(2, [0, 1, 5])]
noncomputable def L47_0 (N : Nat) (n_L47_0 : Nat) (x : ((List Int) × ((List Int) × Unit))) (i_1 : Int) : Out Bool :=
 vloop Tryz.prog (phi specs47) hints47 N Tryz.f47 false false .bool [.at 1, .at 0, .at 1, .at 0] n_L47_0 [.d (.list (.int .i64)) x.1, .d (.list (.int .i64)) x.2.1, .und, .und, .und, .d (.int .i64) i_1, .und, .und, .und, .und, .und, .und, .und, .und, .und, .und, .und, .und, .und, .und, .und, .und, .und, .und, .und, .und, .und, .und, .und, .und, .und, .und, .und, .und, .und, .und, .und, .und, .und, .und, .und]
theorem L47_0_succ (N : Nat) (n_L47_0 : Nat) (x : ((List Int) × ((List Int) × Unit))) (i_1 : Int) : L47_0 N  (n_L47_0 + 1) x i_1 =
  (
  match (decide (i_1 < (lenI x.1))) with
  | true =>
   match (decide (i_1 < (lenI x.2.1))) with
   | true =>
    bif (inb i_1 x.1.length) then
     bif (inb i_1 x.2.1.length) then
      match ((List.getD x.1 i_1.toNat (0 : Int)) != (List.getD x.2.1 i_1.toNat (0 : Int))) with
      | true =>
       bif (inb i_1 x.1.length) then
        bif (inb i_1 x.2.1.length) then
         .ret (decide ((List.getD x.1 i_1.toNat (0 : Int)) < (List.getD x.2.1 i_1.toNat (0 : Int))))
        else .fail
       else .fail
      | false =>
       L47_0 N n_L47_0 x (IntKind.i64.wrap (i_1 + (1 : Int)))
     else .fail
    else .fail
   | false =>
    .ret (decide ((lenI x.1) < (lenI x.2.1)))
  | false =>
   .ret (decide ((lenI x.1) < (lenI x.2.1))) : Out Bool) := by
 kernel_rfl
noncomputable def F47 (N : Nat) (x : ((List Int) × ((List Int) × Unit))) : Out Bool :=
 L47_0 N N x (0 : Int)
theorem e47 (N : Nat) (x : ((List Int) × ((List Int) × Unit))) : vfn Tryz.prog (phi specs47) hints47 N Tryz.f47 false false ty9 .bool x = F47 N x := by
 kernel_rfl
noncomputable def f47 (x : ((List Int) × ((List Int) × Unit))) : Out Bool := F47 fuel x
noncomputable def sp47 : Spec := ⟨47, .call, ty9, .bool, false, false, f47⟩
theorem c47 : Contract Tryz.prog sp47 := contract_at (l := specs47) (arg := ty9) (res := .bool) (multi := false) (own := false) (F := f47) mixed all_nil Tryz.func47 rfl hints47 fun x _ => ⟨fuel, e47 fuel x⟩
noncomputable def specs52 : List Spec := []
def hints52 : List (Nat × List Nat) := [(3, [1, 2, 5, 6])]
noncomputable def L52_0 (N : Nat) (n_L52_0 : Nat) (x : (((List (Int × (Int × Unit))) × (Int × (Int × Unit))) × (Int × Unit))) (out_1 : (List Int)) (r_2 : Int) : Out (List Int) :=
 vloop Tryz.prog (phi specs52) hints52 N Tryz.f52 false true (.list (.int .i64)) [.at 1, .at 1, .at 0, .at 1, .at 0] n_L52_0 [.und, .d (.int .i64) x.2.1, .box [.d ty2 x.1.1, .d (.int .i64) x.1.2.1, .d (.int .i64) x.1.2.2.1], .und, .und, .own (.int .i64) out_1 false, .d (.int .i64) r_2, .und, .und, .und, .und, .und, .und, .und, .und, .und, .und, .und, .und, .und, .und, .und, .und, .und, .und, .und, .und]
theorem L52_0_succ (N : Nat) (n_L52_0 : Nat) (x : (((List (Int × (Int × Unit))) × (Int × (Int × Unit))) × (Int × Unit))) (out_1 : (List Int)) (r_2 : Int) : L52_0 N  (n_L52_0 + 1) x out_1 r_2 =
  (
  match (decide (r_2 < (IntKind.i64.wrap ((lenI x.1.1) - (1 : Int))))) with
  | true =>
   bif (fits out_1 ([r_2] : List Int)) then
    L52_0 N n_L52_0 x (out_1 ++ ([r_2] : List Int)) (IntKind.i64.wrap (r_2 + x.2.1))
   else .fail
  | false =>
   bif (fits out_1 ([(IntKind.i64.wrap ((lenI x.1.1) - (1 : Int)))] : List Int)) then
    .ret (out_1 ++ ([(IntKind.i64.wrap ((lenI x.1.1) - (1 : Int)))] : List Int))
   else .fail : Out (List Int)) := by
 kernel_rfl
noncomputable def F52 (N : Nat) (x : (((List (Int × (Int × Unit))) × (Int × (Int × Unit))) × (Int × Unit))) : Out (List Int) :=
 L52_0 N N x ([] : List Int) (0 : Int)
theorem e52 (N : Nat) (x : (((List (Int × (Int × Unit))) × (Int × (Int × Unit))) × (Int × Unit))) : vfn Tryz.prog (phi specs52) hints52 N Tryz.f52 false true ty6 (.list (.int .i64)) x = F52 N x := by
 kernel_rfl
noncomputable def f52 (x : (((List (Int × (Int × Unit))) × (Int × (Int × Unit))) × (Int × Unit))) : Out (List Int) := F52 fuel x
noncomputable def sp52 : Spec := ⟨52, .call, ty6, (.list (.int .i64)), false, true, f52⟩
theorem c52 : Contract Tryz.prog sp52 := contract_at (l := specs52) (arg := ty6) (res := (.list (.int .i64))) (multi := false) (own := true) (F := f52) mixed all_nil Tryz.func52 rfl hints52 fun x _ => ⟨fuel, e52 fuel x⟩
noncomputable def specs61 : List Spec := []
def hints61 : List (Nat × List Nat) := [(3, [0, 1, 5, 6])]
noncomputable def L61_0 (N : Nat) (n_L61_0 : Nat) (x : ((List Int) × (Int × Unit))) (out_1 : (List Int)) (i_2 : Int) : Out (List Int) :=
 vloop Tryz.prog (phi specs61) hints61 N Tryz.f61 false true (.list (.int .i64)) [.at 1, .at 1, .at 0, .at 1, .at 0] n_L61_0 [.d (.list (.int .i64)) x.1, .d (.int .i64) x.2.1, .und, .und, .und, .own (.int .i64) out_1 false, .d (.int .i64) i_2, .und, .und, .und, .und, .und, .und, .und, .und, .und, .und, .und, .und, .und, .und, .und, .und, .und, .und, .und, .und, .und, .und, .und, .und, .und, .und, .und, .und, .und, .und, .und, .und, .und, .und, .und, .und, .und]
theorem L61_0_succ (N : Nat) (n_L61_0 : Nat) (x : ((List Int) × (Int × Unit))) (out_1 : (List Int)) (i_2 : Int) : L61_0 N  (n_L61_0 + 1) x out_1 i_2 =
  (
  match (decide (i_2 < (lenI x.1))) with
  | true =>
   bif (inb i_2 x.1.length) then
    match (decide ((List.getD x.1 i_2.toNat (0 : Int)) > x.2.1)) with
    | true =>
     match (i_2 == (0 : Int)) with
     | true =>
      bif (fits out_1 ([x.2.1] : List Int)) then
       bif (inb i_2 x.1.length) then
        bif (fits (out_1 ++ ([x.2.1] : List Int)) ([(List.getD x.1 i_2.toNat (0 : Int))] : List Int)) then
         L61_0 N n_L61_0 x ((out_1 ++ ([x.2.1] : List Int)) ++ ([(List.getD x.1 i_2.toNat (0 : Int))] : List Int)) (IntKind.i64.wrap (i_2 + (1 : Int)))
        else .fail
       else .fail
      else .fail
     | false =>
      bif (inb (IntKind.i64.wrap (i_2 - (1 : Int))) x.1.length) then
       match (decide ((List.getD x.1 (IntKind.i64.wrap (i_2 - (1 : Int))).toNat (0 : Int)) < x.2.1)) with
       | true =>
        bif (fits out_1 ([x.2.1] : List Int)) then
         bif (inb i_2 x.1.length) then
          bif (fits (out_1 ++ ([x.2.1] : List Int)) ([(List.getD x.1 i_2.toNat (0 : Int))] : List Int)) then
           L61_0 N n_L61_0 x ((out_1 ++ ([x.2.1] : List Int)) ++ ([(List.getD x.1 i_2.toNat (0 : Int))] : List Int)) (IntKind.i64.wrap (i_2 + (1 : Int)))
          else .fail
         else .fail
        else .fail
       | false =>
        bif (inb i_2 x.1.length) then
         bif (fits out_1 ([(List.getD x.1 i_2.toNat (0 : Int))] : List Int)) then
          L61_0 N n_L61_0 x (out_1 ++ ([(List.getD x.1 i_2.toNat (0 : Int))] : List Int)) (IntKind.i64.wrap (i_2 + (1 : Int)))
         else .fail
        else .fail
      else .fail
    | false =>
     bif (inb i_2 x.1.length) then
      bif (fits out_1 ([(List.getD x.1 i_2.toNat (0 : Int))] : List Int)) then
       L61_0 N n_L61_0 x (out_1 ++ ([(List.getD x.1 i_2.toNat (0 : Int))] : List Int)) (IntKind.i64.wrap (i_2 + (1 : Int)))
      else .fail
     else .fail
   else .fail
  | false =>
   .ret out_1 : Out (List Int)) := by
 kernel_rfl
noncomputable def F61 (N : Nat) (x : ((List Int) × (Int × Unit))) : Out (List Int) :=
 L61_0 N N x ([] : List Int) (0 : Int)
theorem e61 (N : Nat) (x : ((List Int) × (Int × Unit))) : vfn Tryz.prog (phi specs61) hints61 N Tryz.f61 false true ty4 (.list (.int .i64)) x = F61 N x := by
 kernel_rfl
noncomputable def f61 (x : ((List Int) × (Int × Unit))) : Out (List Int) := F61 fuel x
noncomputable def sp61 : Spec := ⟨61, .call, ty4, (.list (.int .i64)), false, true, f61⟩
theorem c61 : Contract Tryz.prog sp61 := contract_at (l := specs61) (arg := ty4) (res := (.list (.int .i64))) (multi := false) (own := true) (F := f61) mixed all_nil Tryz.func61 rfl hints61 fun x _ => ⟨fuel, e61 fuel x⟩
noncomputable def specs62 : List Spec := [(markOf 1000009)]
def hints62 : List (Nat × List Nat) := [(3000003, [3])]
noncomputable def F62 (N : Nat) (x : (((List (Int × (Int × Unit))) × (Int × (Int × Unit))) × (Int × (Int × Unit)))) : Out ((List (Int × (Int × Unit))) × (Int × (Int × Unit))) :=
 bif (fits ([] : List (Int × (Int × Unit))) x.1.1) then
  bif (inb x.2.1 x.1.1.length) then
   bif (decide ((x.2.1.toNat) < x.1.1.length)) then
    .ret ((List.set x.1.1 (x.2.1.toNat) (x.2.2.1, x.2.2)), x.1.2)
   else .fail
  else .fail
 else .fail
theorem e62 (N : Nat) (x : (((List (Int × (Int × Unit))) × (Int × (Int × Unit))) × (Int × (Int × Unit)))) : vfn Tryz.prog (phi specs62) hints62 N Tryz.f62 false false ty21 ty8 x = F62 N x := by
 kernel_rfl
noncomputable def f62 (x : (((List (Int × (Int × Unit))) × (Int × (Int × Unit))) × (Int × (Int × Unit)))) : Out ((List (Int × (Int × Unit))) × (Int × (Int × Unit))) := F62 fuel x
noncomputable def sp62 : Spec := ⟨62, .call, ty21, ty8, false, false, f62⟩
theorem c62 : Contract Tryz.prog sp62 := contract_at (l := specs62) (arg := ty21) (res := ty8) (multi := false) (own := false) (F := f62) mixed (all_cons (mark_ok _) all_nil) Tryz.func62 rfl hints62 fun x _ => ⟨fuel, e62 fuel x⟩
noncomputable def specs63 : List Spec := []
def hints63 : List (Nat × List Nat) := []
noncomputable def F63 (N : Nat) (x : (Int × Unit)) : Out (Int × (Int × Unit)) :=
 .ret (x.1, x)
theorem e63 (N : Nat) (x : (Int × Unit)) : vfn Tryz.prog (phi specs63) hints63 N Tryz.f63 false false (.prod (.int .i64) .unit) ty3 x = F63 N x := by
 kernel_rfl
noncomputable def f63 (x : (Int × Unit)) : Out (Int × (Int × Unit)) := F63 fuel x
noncomputable def sp63 : Spec := ⟨63, .call, (.prod (.int .i64) .unit), ty3, false, false, f63⟩
theorem c63 : Contract Tryz.prog sp63 := contract_at (l := specs63) (arg := (.prod (.int .i64) .unit)) (res := ty3) (multi := false) (own := false) (F := f63) mixed all_nil Tryz.func63 rfl hints63 fun x _ => ⟨fuel, e63 fuel x⟩
noncomputable def specs72 : List Spec := []
def hints72 : List (Nat × List Nat) := []
noncomputable def F72 (N : Nat) (x : (Int × (Int × (Int × Unit)))) : Out Bool :=
 match (decide (x.1 ≥ x.2.1)) with
 | true =>
  .ret (decide (x.1 ≤ x.2.2.1))
 | false =>
  .ret false
theorem e72 (N : Nat) (x : (Int × (Int × (Int × Unit)))) : vfn Tryz.prog (phi specs72) hints72 N Tryz.f72 false false ty5 .bool x = F72 N x := by
 kernel_rfl
noncomputable def f72 (x : (Int × (Int × (Int × Unit)))) : Out Bool := F72 fuel x
noncomputable def sp72 : Spec := ⟨72, .call, ty5, .bool, false, false, f72⟩
theorem c72 : Contract Tryz.prog sp72 := contract_at (l := specs72) (arg := ty5) (res := .bool) (multi := false) (own := false) (F := f72) mixed all_nil Tryz.func72 rfl hints72 fun x _ => ⟨fuel, e72 fuel x⟩
noncomputable def specs73 : List Spec := [sp63]
def hints73 : List (Nat × List Nat) := []
noncomputable def F73 (N : Nat) (x : Unit) : Out ((List (Int × (Int × Unit))) × (Int × (Int × Unit))) :=
 .ret (([((0 : Int), ((0 : Int), ())), ((10 : Int), ((10 : Int), ())), ((40 : Int), ((40 : Int), ())), ((90 : Int), ((91 : Int), ())), ((160 : Int), ((160 : Int), ())), ((250 : Int), ((250 : Int), ())), ((360 : Int), ((360 : Int), ()))] : List (Int × (Int × Unit))), ((3 : Int), ((10 : Int), ())))
theorem e73 (N : Nat) (x : Unit) : vfn Tryz.prog (phi specs73) hints73 N Tryz.f73 false false .unit ty8 x = F73 N x := by
 kernel_rfl
noncomputable def f73 (x : Unit) : Out ((List (Int × (Int × Unit))) × (Int × (Int × Unit))) := F73 fuel x
noncomputable def sp73 : Spec := ⟨73, .call, .unit, ty8, false, false, f73⟩
theorem c73 : Contract Tryz.prog sp73 := contract_at (l := specs73) (arg := .unit) (res := ty8) (multi := false) (own := false) (F := f73) mixed (all_cons c63 all_nil) Tryz.func73 rfl hints73 fun x _ => ⟨fuel, e73 fuel x⟩
noncomputable def specs74 : List Spec := []
def hints74 : List (Nat × List Nat) := []
noncomputable def F74 (N : Nat) (x : Unit) : Out (List Int) :=
 .ret ([(0 : Int), (2 : Int), (4 : Int), (6 : Int)] : List Int)
theorem e74 (N : Nat) (x : Unit) : vfn Tryz.prog (phi specs74) hints74 N Tryz.f74 false true .unit (.list (.int .i64)) x = F74 N x := by
 kernel_rfl
noncomputable def f74 (x : Unit) : Out (List Int) := F74 fuel x
noncomputable def sp74 : Spec := ⟨74, .call, .unit, (.list (.int .i64)), false, true, f74⟩
theorem c74 : Contract Tryz.prog sp74 := contract_at (l := specs74) (arg := .unit) (res := (.list (.int .i64))) (multi := false) (own := true) (F := f74) mixed all_nil Tryz.func74 rfl hints74 fun x _ => ⟨fuel, e74 fuel x⟩
noncomputable def specs75 : List Spec := []
def hints75 : List (Nat × List Nat) := []
noncomputable def F75 (N : Nat) (x : Unit) : Out (List Int) :=
 .ret ([(0 : Int), (10 : Int), (40 : Int), (90 : Int), (160 : Int), (250 : Int), (360 : Int)] : List Int)
theorem e75 (N : Nat) (x : Unit) : vfn Tryz.prog (phi specs75) hints75 N Tryz.f75 false true .unit (.list (.int .i64)) x = F75 N x := by
 kernel_rfl
noncomputable def f75 (x : Unit) : Out (List Int) := F75 fuel x
noncomputable def sp75 : Spec := ⟨75, .call, .unit, (.list (.int .i64)), false, true, f75⟩
theorem c75 : Contract Tryz.prog sp75 := contract_at (l := specs75) (arg := .unit) (res := (.list (.int .i64))) (multi := false) (own := true) (F := f75) mixed all_nil Tryz.func75 rfl hints75 fun x _ => ⟨fuel, e75 fuel x⟩
noncomputable def specs80 : List Spec := []
def hints80 : List (Nat × List Nat) := []
noncomputable def F80 (N : Nat) (x : (((List (Int × (Int × Unit))) × (Int × (Int × Unit))) × ((List Int) × Unit))) : Out (((List (Int × (Int × Unit))) × (Int × (Int × Unit))) × ((List Int) × (Unit × Unit))) :=
 .ret (x.1, (x.2.1, ((), ())))
theorem e80 (N : Nat) (x : (((List (Int × (Int × Unit))) × (Int × (Int × Unit))) × ((List Int) × Unit))) : vfn Tryz.prog (phi specs80) hints80 N Tryz.f80 false false ty0 ty32 x = F80 N x := by
 kernel_rfl
noncomputable def f80 (x : (((List (Int × (Int × Unit))) × (Int × (Int × Unit))) × ((List Int) × Unit))) : Out (((List (Int × (Int × Unit))) × (Int × (Int × Unit))) × ((List Int) × (Unit × Unit))) := F80 fuel x
noncomputable def sp80 : Spec := ⟨80, .call, ty0, ty32, false, false, f80⟩
theorem c80 : Contract Tryz.prog sp80 := contract_at (l := specs80) (arg := ty0) (res := ty32) (multi := false) (own := false) (F := f80) mixed all_nil Tryz.func80 rfl hints80 fun x _ => ⟨fuel, e80 fuel x⟩
noncomputable def specs83 : List Spec := []
def hints83 : List (Nat × List Nat) := []
noncomputable def F83 (N : Nat) (x : (Int × (Int × (Int × Unit)))) : Out Bool :=
 match (decide (x.1 ≥ x.2.1)) with
 | true =>
  .ret (decide (x.1 ≤ x.2.2.1))
 | false =>
  .ret false
theorem e83 (N : Nat) (x : (Int × (Int × (Int × Unit)))) : vfn Tryz.prog (phi specs83) hints83 N Tryz.f83 false false ty5 .bool x = F83 N x := by
 kernel_rfl
noncomputable def f83 (x : (Int × (Int × (Int × Unit)))) : Out Bool := F83 fuel x
noncomputable def sp83 : Spec := ⟨83, .call, ty5, .bool, false, false, f83⟩
theorem c83 : Contract Tryz.prog sp83 := contract_at (l := specs83) (arg := ty5) (res := .bool) (multi := false) (own := false) (F := f83) mixed all_nil Tryz.func83 rfl hints83 fun x _ => ⟨fuel, e83 fuel x⟩
noncomputable def specs84 : List Spec := []
def hints84 : List (Nat × List Nat) := []
noncomputable def F84 (N : Nat) (x : (Int × Unit)) : Out Bool :=
 match (decide (x.1 ≥ (1 : Int))) with
 | true =>
  .ret (decide (x.1 ≤ (4 : Int)))
 | false =>
  .ret false
theorem e84 (N : Nat) (x : (Int × Unit)) : vfn Tryz.prog (phi specs84) hints84 N Tryz.f84 false false (.prod (.int .i64) .unit) .bool x = F84 N x := by
 kernel_rfl
noncomputable def f84 (x : (Int × Unit)) : Out Bool := F84 fuel x
noncomputable def sp84 : Spec := ⟨84, .call, (.prod (.int .i64) .unit), .bool, false, false, f84⟩
theorem c84 : Contract Tryz.prog sp84 := contract_at (l := specs84) (arg := (.prod (.int .i64) .unit)) (res := .bool) (multi := false) (own := false) (F := f84) mixed all_nil Tryz.func84 rfl hints84 fun x _ => ⟨fuel, e84 fuel x⟩
noncomputable def specs85 : List Spec := []
def hints85 : List (Nat × List Nat) := []
noncomputable def F85 (N : Nat) (x : ((Int × Unit) × Unit)) : Out (Value × (Value × (Value × (Value × (Value × Unit))))) :=
 .ret (Value.nilFunc, ((Value.func (.func 127) #[.agg #[.int .i64 x.1.1]] #[]), ((Value.func (.func 128) #[.agg #[.int .i64 x.1.1]] #[]), ((Value.func (.func 129) #[.agg #[.int .i64 x.1.1]] #[]), ((Value.func (.func 130) #[.agg #[.int .i64 x.1.1]] #[]), ())))))
theorem e85 (N : Nat) (x : ((Int × Unit) × Unit)) : vfn Tryz.prog (phi specs85) hints85 N Tryz.f85 false false (.prod (.prod (.int .i64) .unit) .unit) (.prod .raw (.prod .raw (.prod .raw (.prod .raw (.prod .raw .unit))))) x = F85 N x := by
 kernel_rfl
noncomputable def f85 (x : ((Int × Unit) × Unit)) : Out (Value × (Value × (Value × (Value × (Value × Unit))))) := F85 fuel x
noncomputable def sp85 : Spec := ⟨85, .call, (.prod (.prod (.int .i64) .unit) .unit), (.prod .raw (.prod .raw (.prod .raw (.prod .raw (.prod .raw .unit))))), false, false, f85⟩
theorem c85 : Contract Tryz.prog sp85 := contract_at (l := specs85) (arg := (.prod (.prod (.int .i64) .unit) .unit)) (res := (.prod .raw (.prod .raw (.prod .raw (.prod .raw (.prod .raw .unit)))))) (multi := false) (own := false) (F := f85) mixed all_nil Tryz.func85 rfl hints85 fun x _ => ⟨fuel, e85 fuel x⟩
noncomputable def specs86 : List Spec := []
def hints86 : List (Nat × List Nat) := []
noncomputable def F86 (N : Nat) (x : (Int × (Int × (Int × Unit)))) : Out Bool :=
 match (decide (x.1 ≥ x.2.1)) with
 | true =>
  .ret (decide (x.1 ≤ x.2.2.1))
 | false =>
  .ret false
theorem e86 (N : Nat) (x : (Int × (Int × (Int × Unit)))) : vfn Tryz.prog (phi specs86) hints86 N Tryz.f86 false false ty5 .bool x = F86 N x := by
 kernel_rfl
noncomputable def f86 (x : (Int × (Int × (Int × Unit)))) : Out Bool := F86 fuel x
noncomputable def sp86 : Spec := ⟨86, .call, ty5, .bool, false, false, f86⟩
theorem c86 : Contract Tryz.prog sp86 := contract_at (l := specs86) (arg := ty5) (res := .bool) (multi := false) (own := false) (F := f86) mixed all_nil Tryz.func86 rfl hints86 fun x _ => ⟨fuel, e86 fuel x⟩
noncomputable def specs87 : List Spec := []
def hints87 : List (Nat × List Nat) := []
noncomputable def F87 (N : Nat) (x : (Int × Unit)) : Out Bool :=
 match (decide (x.1 ≥ (1 : Int))) with
 | true =>
  .ret (decide (x.1 ≤ (4 : Int)))
 | false =>
  .ret false
theorem e87 (N : Nat) (x : (Int × Unit)) : vfn Tryz.prog (phi specs87) hints87 N Tryz.f87 false false (.prod (.int .i64) .unit) .bool x = F87 N x := by
 kernel_rfl
noncomputable def f87 (x : (Int × Unit)) : Out Bool := F87 fuel x
noncomputable def sp87 : Spec := ⟨87, .call, (.prod (.int .i64) .unit), .bool, false, false, f87⟩
theorem c87 : Contract Tryz.prog sp87 := contract_at (l := specs87) (arg := (.prod (.int .i64) .unit)) (res := .bool) (multi := false) (own := false) (F := f87) mixed all_nil Tryz.func87 rfl hints87 fun x _ => ⟨fuel, e87 fuel x⟩
noncomputable def specs88 : List Spec := []
def hints88 : List (Nat × List Nat) := []
noncomputable def F88 (N : Nat) (x : (Int × (Int × (Int × Unit)))) : Out Int :=
 bif (x.2.1 != (0 : Int)) then
  match (decide (x.1 < (IntKind.i64.wrap ((IntKind.i64.wrap (x.1.tdiv x.2.1)) * x.2.1)))) with
  | true =>
   match (x.2.2.1 == (2 : Int)) with
   | true =>
    match (decide ((IntKind.i64.wrap (x.1 - (IntKind.i64.wrap ((IntKind.i64.wrap ((IntKind.i64.wrap (x.1.tdiv x.2.1)) - (1 : Int))) * x.2.1)))) > (0 : Int))) with
    | true =>
     .ret (IntKind.i64.wrap ((IntKind.i64.wrap ((IntKind.i64.wrap (x.1.tdiv x.2.1)) - (1 : Int))) + (1 : Int)))
    | false =>
     .ret (IntKind.i64.wrap ((IntKind.i64.wrap (x.1.tdiv x.2.1)) - (1 : Int)))
   | false =>
    match (x.2.2.1 == (3 : Int)) with
    | true =>
     match (decide ((IntKind.i64.wrap ((2 : Int) * (IntKind.i64.wrap (x.1 - (IntKind.i64.wrap ((IntKind.i64.wrap ((IntKind.i64.wrap (x.1.tdiv x.2.1)) - (1 : Int))) * x.2.1)))))) ≥ x.2.1)) with
     | true =>
      .ret (IntKind.i64.wrap ((IntKind.i64.wrap ((IntKind.i64.wrap (x.1.tdiv x.2.1)) - (1 : Int))) + (1 : Int)))
     | false =>
      .ret (IntKind.i64.wrap ((IntKind.i64.wrap (x.1.tdiv x.2.1)) - (1 : Int)))
    | false =>
     match (x.2.2.1 == (4 : Int)) with
     | true =>
      match (decide ((IntKind.i64.wrap ((2 : Int) * (IntKind.i64.wrap (x.1 - (IntKind.i64.wrap ((IntKind.i64.wrap ((IntKind.i64.wrap (x.1.tdiv x.2.1)) - (1 : Int))) * x.2.1)))))) > x.2.1)) with
      | true =>
       .ret (IntKind.i64.wrap ((IntKind.i64.wrap ((IntKind.i64.wrap (x.1.tdiv x.2.1)) - (1 : Int))) + (1 : Int)))
      | false =>
       match ((IntKind.i64.wrap ((2 : Int) * (IntKind.i64.wrap (x.1 - (IntKind.i64.wrap ((IntKind.i64.wrap ((IntKind.i64.wrap (x.1.tdiv x.2.1)) - (1 : Int))) * x.2.1)))))) == x.2.1) with
       | true =>
        match (((IntKind.i64.wrap ((IntKind.i64.wrap (x.1.tdiv x.2.1)) - (1 : Int))).tmod (2 : Int)) != (0 : Int)) with
        | true =>
         .ret (IntKind.i64.wrap ((IntKind.i64.wrap ((IntKind.i64.wrap (x.1.tdiv x.2.1)) - (1 : Int))) + (1 : Int)))
        | false =>
         .ret (IntKind.i64.wrap ((IntKind.i64.wrap (x.1.tdiv x.2.1)) - (1 : Int)))
       | false =>
        .ret (IntKind.i64.wrap ((IntKind.i64.wrap (x.1.tdiv x.2.1)) - (1 : Int)))
     | false =>
      .ret (IntKind.i64.wrap ((IntKind.i64.wrap (x.1.tdiv x.2.1)) - (1 : Int)))
  | false =>
   match (x.2.2.1 == (2 : Int)) with
   | true =>
    match (decide ((IntKind.i64.wrap (x.1 - (IntKind.i64.wrap ((IntKind.i64.wrap (x.1.tdiv x.2.1)) * x.2.1)))) > (0 : Int))) with
    | true =>
     .ret (IntKind.i64.wrap ((IntKind.i64.wrap (x.1.tdiv x.2.1)) + (1 : Int)))
    | false =>
     .ret (IntKind.i64.wrap (x.1.tdiv x.2.1))
   | false =>
    match (x.2.2.1 == (3 : Int)) with
    | true =>
     match (decide ((IntKind.i64.wrap ((2 : Int) * (IntKind.i64.wrap (x.1 - (IntKind.i64.wrap ((IntKind.i64.wrap (x.1.tdiv x.2.1)) * x.2.1)))))) ≥ x.2.1)) with
     | true =>
      .ret (IntKind.i64.wrap ((IntKind.i64.wrap (x.1.tdiv x.2.1)) + (1 : Int)))
     | false =>
      .ret (IntKind.i64.wrap (x.1.tdiv x.2.1))
    | false =>
     match (x.2.2.1 == (4 : Int)) with
     | true =>
      match (decide ((IntKind.i64.wrap ((2 : Int) * (IntKind.i64.wrap (x.1 - (IntKind.i64.wrap ((IntKind.i64.wrap (x.1.tdiv x.2.1)) * x.2.1)))))) > x.2.1)) with
      | true =>
       .ret (IntKind.i64.wrap ((IntKind.i64.wrap (x.1.tdiv x.2.1)) + (1 : Int)))
      | false =>
       match ((IntKind.i64.wrap ((2 : Int) * (IntKind.i64.wrap (x.1 - (IntKind.i64.wrap ((IntKind.i64.wrap (x.1.tdiv x.2.1)) * x.2.1)))))) == x.2.1) with
       | true =>
        match (((IntKind.i64.wrap (x.1.tdiv x.2.1)).tmod (2 : Int)) != (0 : Int)) with
        | true =>
         .ret (IntKind.i64.wrap ((IntKind.i64.wrap (x.1.tdiv x.2.1)) + (1 : Int)))
        | false =>
         .ret (IntKind.i64.wrap (x.1.tdiv x.2.1))
       | false =>
        .ret (IntKind.i64.wrap (x.1.tdiv x.2.1))
     | false =>
      .ret (IntKind.i64.wrap (x.1.tdiv x.2.1))
 else .fail
theorem e88 (N : Nat) (x : (Int × (Int × (Int × Unit)))) : vfn Tryz.prog (phi specs88) hints88 N Tryz.f88 false false ty5 (.int .i64) x = F88 N x := by
 kernel_rfl
noncomputable def f88 (x : (Int × (Int × (Int × Unit)))) : Out Int := F88 fuel x
noncomputable def sp88 : Spec := ⟨88, .call, ty5, (.int .i64), false, false, f88⟩
theorem c88 : Contract Tryz.prog sp88 := contract_at (l := specs88) (arg := ty5) (res := (.int .i64)) (multi := false) (own := false) (F := f88) mixed all_nil Tryz.func88 rfl hints88 fun x _ => ⟨fuel, e88 fuel x⟩
noncomputable def specs89 : List Spec := [sp72]
def hints89 : List (Nat × List Nat) := []
noncomputable def F89 (N : Nat) (x : ((Int × (Int × Unit)) × Unit)) : Out Bool :=
 match f72 (x.1.1, ((-9999 : Int), ((9999 : Int), ()))) with
 | .ret r_1 =>
  match r_1 with
  | true =>
   match f72 (x.1.2.1, (x.1.1, ((if (IntKind.i64.wrap (x.1.1 + (4 : Int))) < (9999 : Int) then (IntKind.i64.wrap (x.1.1 + (4 : Int))) else (9999 : Int)), ()))) with
   | .ret r_3 =>
    .ret r_3
   | .pan p_4 =>
    .pan p_4
   | .fail => .fail
  | false =>
   .ret false
 | .pan p_2 =>
  .pan p_2
 | .fail => .fail
theorem e89 (N : Nat) (x : ((Int × (Int × Unit)) × Unit)) : vfn Tryz.prog (phi specs89) hints89 N Tryz.f89 false false ty11 .bool x = F89 N x := by
 kernel_rfl
noncomputable def f89 (x : ((Int × (Int × Unit)) × Unit)) : Out Bool := F89 fuel x
noncomputable def sp89 : Spec := ⟨89, .call, ty11, .bool, false, false, f89⟩
theorem c89 : Contract Tryz.prog sp89 := contract_at (l := specs89) (arg := ty11) (res := .bool) (multi := false) (own := false) (F := f89) mixed (all_cons c72 all_nil) Tryz.func89 rfl hints89 fun x _ => ⟨fuel, e89 fuel x⟩
noncomputable def specs101 : List Spec := []
def hints101 : List (Nat × List Nat) := [(3, [1, 3, 4])]
noncomputable def L101_0 (N : Nat) (n_L101_0 : Nat) (x : (((List (Int × (Int × Unit))) × (Int × (Int × Unit))) × Unit)) (out_1 : (List Int)) (i_2 : Int) : Out (List Int) :=
 vloop Tryz.prog (phi specs101) hints101 N Tryz.f101 false true (.list (.int .i64)) [.at 1, .at 1, .at 0, .at 1, .at 0] n_L101_0 [.und, .box [.d ty2 x.1.1, .d (.int .i64) x.1.2.1, .d (.int .i64) x.1.2.2.1], .und, .own (.int .i64) out_1 false, .d (.int .i64) i_2, .und, .und, .und, .und, .und, .und, .und, .und, .und, .und, .und, .und, .und, .und, .und, .und, .und]
theorem L101_0_succ (N : Nat) (n_L101_0 : Nat) (x : (((List (Int × (Int × Unit))) × (Int × (Int × Unit))) × Unit)) (out_1 : (List Int)) (i_2 : Int) : L101_0 N  (n_L101_0 + 1) x out_1 i_2 =
  (
  match (decide (i_2 < (lenI x.1.1))) with
  | true =>
   bif (inb i_2 x.1.1.length) then
    bif (fits out_1 ([((List.getD x.1.1 i_2.toNat ((0 : Int), ((0 : Int), ())))).1] : List Int)) then
     L101_0 N n_L101_0 x (out_1 ++ ([((List.getD x.1.1 i_2.toNat ((0 : Int), ((0 : Int), ())))).1] : List Int)) (IntKind.i64.wrap (i_2 + (1 : Int)))
    else .fail
   else .fail
  | false =>
   .ret out_1 : Out (List Int)) := by
 kernel_rfl
noncomputable def F101 (N : Nat) (x : (((List (Int × (Int × Unit))) × (Int × (Int × Unit))) × Unit)) : Out (List Int) :=
 L101_0 N N x ([] : List Int) (0 : Int)
theorem e101 (N : Nat) (x : (((List (Int × (Int × Unit))) × (Int × (Int × Unit))) × Unit)) : vfn Tryz.prog (phi specs101) hints101 N Tryz.f101 false true ty1 (.list (.int .i64)) x = F101 N x := by
 kernel_rfl
noncomputable def f101 (x : (((List (Int × (Int × Unit))) × (Int × (Int × Unit))) × Unit)) : Out (List Int) := F101 fuel x
noncomputable def sp101 : Spec := ⟨101, .call, ty1, (.list (.int .i64)), false, true, f101⟩
theorem c101 : Contract Tryz.prog sp101 := contract_at (l := specs101) (arg := ty1) (res := (.list (.int .i64))) (multi := false) (own := true) (F := f101) mixed all_nil Tryz.func101 rfl hints101 fun x _ => ⟨fuel, e101 fuel x⟩
noncomputable def specs102 : List Spec := []
def hints102 : List (Nat × List Nat) := [(4, [1, 5, 6, 7])]
noncomputable def L102_0 (N : Nat) (n_L102_0 : Nat) (x : (((List (Int × (Int × Unit))) × (Int × (Int × Unit))) × (Int × Unit))) (out_1 : (List Int)) (row_2 : Int) : Out (List Int) :=
 vloop Tryz.prog (phi specs102) hints102 N Tryz.f102 false true (.list (.int .i64)) [.at 1, .at 1, .at 1, .at 0, .at 1, .at 0] n_L102_0 [.und, .d (.int .i64) x.2.1, .und, .und, .und, .own (.int .i64) out_1 false, .d (.int .i64) (IntKind.i64.wrap ((lenI x.1.1) - (1 : Int))), .d (.int .i64) row_2, .und, .und, .und, .und, .und, .und, .und, .und, .und, .und, .und, .und, .und, .und, .und, .und, .und, .und]
theorem L102_0_succ (N : Nat) (n_L102_0 : Nat) (x : (((List (Int × (Int × Unit))) × (Int × (Int × Unit))) × (Int × Unit))) (out_1 : (List Int)) (row_2 : Int) : L102_0 N  (n_L102_0 + 1) x out_1 row_2 =
  (
  match (decide (row_2 < (IntKind.i64.wrap ((lenI x.1.1) - (1 : Int))))) with
  | true =>
   bif (fits out_1 ([row_2] : List Int)) then
    L102_0 N n_L102_0 x (out_1 ++ ([row_2] : List Int)) (IntKind.i64.wrap (row_2 + x.2.1))
   else .fail
  | false =>
   bif (fits out_1 ([(IntKind.i64.wrap ((lenI x.1.1) - (1 : Int)))] : List Int)) then
    .ret (out_1 ++ ([(IntKind.i64.wrap ((lenI x.1.1) - (1 : Int)))] : List Int))
   else .fail : Out (List Int)) := by
 kernel_rfl
noncomputable def F102 (N : Nat) (x : (((List (Int × (Int × Unit))) × (Int × (Int × Unit))) × (Int × Unit))) : Out (List Int) :=
 L102_0 N N x ([] : List Int) (0 : Int)
theorem e102 (N : Nat) (x : (((List (Int × (Int × Unit))) × (Int × (Int × Unit))) × (Int × Unit))) : vfn Tryz.prog (phi specs102) hints102 N Tryz.f102 false true ty6 (.list (.int .i64)) x = F102 N x := by
 kernel_rfl
noncomputable def f102 (x : (((List (Int × (Int × Unit))) × (Int × (Int × Unit))) × (Int × Unit))) : Out (List Int) := F102 fuel x
noncomputable def sp102 : Spec := ⟨102, .call, ty6, (.list (.int .i64)), false, true, f102⟩
theorem c102 : Contract Tryz.prog sp102 := contract_at (l := specs102) (arg := ty6) (res := (.list (.int .i64))) (multi := false) (own := true) (F := f102) mixed all_nil Tryz.func102 rfl hints102 fun x _ => ⟨fuel, e102 fuel x⟩
noncomputable def specs104a : List Spec := []
def hints104a : List (Nat × List Nat) := [(4000001, [1, 25])]
noncomputable def F104a (N : Nat) (x : (((List (Int × (Int × Unit))) × (Int × (Int × Unit))) × Unit)) : Out (Unit × (((List (Int × (Int × Unit))) × (Int × (Int × Unit))) × Unit)) :=
 .ret ((), (x.1, ()))
theorem e104a (N : Nat) (x : (((List (Int × (Int × Unit))) × (Int × (Int × Unit))) × Unit)) : vfn Tryz.prog (phi specs104a) hints104a N Tryz.f104 false false ty1 (.clo 140 .unit ty19) x = F104a N x := by
 kernel_rfl
noncomputable def f104a (x : (((List (Int × (Int × Unit))) × (Int × (Int × Unit))) × Unit)) : Out (Unit × (((List (Int × (Int × Unit))) × (Int × (Int × Unit))) × Unit)) := F104a fuel x
noncomputable def sp104a : Spec := ⟨104, .call, ty1, (.clo 140 .unit ty19), false, false, f104a⟩
theorem c104a : Contract Tryz.prog sp104a := contract_at (l := specs104a) (arg := ty1) (res := (.clo 140 .unit ty19)) (multi := false) (own := false) (F := f104a) mixed all_nil Tryz.func104 rfl hints104a fun x _ => ⟨fuel, e104a fuel x⟩
noncomputable def specs105 : List Spec := []
def hints105 : List (Nat × List Nat) := []
noncomputable def F105 (N : Nat) (x : ((List Int) × ((List Int) × Unit))) : Out Bool :=
 .ret (decide ((lenI x.1) < (lenI x.2.1)))
theorem e105 (N : Nat) (x : ((List Int) × ((List Int) × Unit))) : vfn Tryz.prog (phi specs105) hints105 N Tryz.f105 false false ty9 .bool x = F105 N x := by
 kernel_rfl
noncomputable def f105 (x : ((List Int) × ((List Int) × Unit))) : Out Bool := F105 fuel x
noncomputable def sp105 : Spec := ⟨105, .call, ty9, .bool, false, false, f105⟩
theorem c105 : Contract Tryz.prog sp105 := contract_at (l := specs105) (arg := ty9) (res := .bool) (multi := false) (own := false) (F := f105) mixed all_nil Tryz.func105 rfl hints105 fun x _ => ⟨fuel, e105 fuel x⟩
noncomputable def specs112 : List Spec := []
def hints112 : List (Nat × List Nat) := []
noncomputable def F112 (N : Nat) (x : ((Int × (Int × Unit)) × ((Int × (Int × Unit)) × Unit))) : Out Bool :=
 .ret (decide (x.1.2.1 < x.2.1.2.1))
theorem e112 (N : Nat) (x : ((Int × (Int × Unit)) × ((Int × (Int × Unit)) × Unit))) : vfn Tryz.prog (phi specs112) hints112 N Tryz.f112 false false ty35 .bool x = F112 N x := by
 kernel_rfl
noncomputable def f112 (x : ((Int × (Int × Unit)) × ((Int × (Int × Unit)) × Unit))) : Out Bool := F112 fuel x
noncomputable def sp112 : Spec := ⟨112, .call, ty35, .bool, false, false, f112⟩
theorem c112 : Contract Tryz.prog sp112 := contract_at (l := specs112) (arg := ty35) (res := .bool) (multi := false) (own := false) (F := f112) mixed all_nil Tryz.func112 rfl hints112 fun x _ => ⟨fuel, e112 fuel x⟩
noncomputable def specs120 : List Spec := []
def hints120 : List (Nat × List Nat) := [(4, [0, 1, 5])]
noncomputable def L120_0 (N : Nat) (n_L120_0 : Nat) (x : ((List (Int × (Int × Unit))) × ((List (Int × (Int × Unit))) × Unit))) (i_1 : Int) : Out Bool :=
 vloop Tryz.prog (phi specs120) hints120 N Tryz.f120 false false .bool [.at 1, .at 1, .at 0, .at 1, .at 0] n_L120_0 [.d ty2 x.1, .d ty2 x.2.1, .und, .und, .und, .d (.int .i64) i_1, .und, .und, .und, .und, .und, .und, .und, .und, .und, .und, .und, .und, .und, .und, .und, .und, .und, .und, .und, .und]
theorem L120_0_succ (N : Nat) (n_L120_0 : Nat) (x : ((List (Int × (Int × Unit))) × ((List (Int × (Int × Unit))) × Unit))) (i_1 : Int) : L120_0 N  (n_L120_0 + 1) x i_1 =
  (
  match (decide (i_1 < (lenI x.1))) with
  | true =>
   bif (inb i_1 x.1.length) then
    bif (inb i_1 x.2.1.length) then
     match (neB (eqI ((List.getD x.1 i_1.toNat ((0 : Int), ((0 : Int), ())))).1 ((List.getD x.2.1 i_1.toNat ((0 : Int), ((0 : Int), ())))).1 && (eqI ((List.getD x.1 i_1.toNat ((0 : Int), ((0 : Int), ())))).2.1 ((List.getD x.2.1 i_1.toNat ((0 : Int), ((0 : Int), ())))).2.1 && true))) with
     | true =>
      .ret false
     | false =>
      L120_0 N n_L120_0 x (IntKind.i64.wrap (i_1 + (1 : Int)))
    else .fail
   else .fail
  | false =>
   .ret true : Out Bool) := by
 kernel_rfl
noncomputable def F120 (N : Nat) (x : ((List (Int × (Int × Unit))) × ((List (Int × (Int × Unit))) × Unit))) : Out Bool :=
 match ((lenI x.1) != (lenI x.2.1)) with
 | true =>
  .ret false
 | false =>
  L120_0 N N x (0 : Int)
theorem e120 (N : Nat) (x : ((List (Int × (Int × Unit))) × ((List (Int × (Int × Unit))) × Unit))) : vfn Tryz.prog (phi specs120) hints120 N Tryz.f120 false false ty36 .bool x = F120 N x := by
 kernel_rfl
noncomputable def f120 (x : ((List (Int × (Int × Unit))) × ((List (Int × (Int × Unit))) × Unit))) : Out Bool := F120 fuel x
noncomputable def sp120 : Spec := ⟨120, .call, ty36, .bool, false, false, f120⟩
theorem c120 : Contract Tryz.prog sp120 := contract_at (l := specs120) (arg := ty36) (res := .bool) (multi := false) (own := false) (F := f120) mixed all_nil Tryz.func120 rfl hints120 fun x _ => ⟨fuel, e120 fuel x⟩
noncomputable def specs121 : List Spec := []
def hints121 : List (Nat × List Nat) := [(4, [0, 1, 5, 6, 7])]
noncomputable def L121_0 (N : Nat) (n_L121_0 : Nat) (x : ((List UInt8) × (Int × Unit))) (out_1 : (List (List UInt8))) (from_2 : Int) (i_3 : Int) : Out (List (List UInt8)) :=
 vloop Tryz.prog (phi specs121) hints121 N Tryz.f121 false true (.list .str) [.at 1, .at 1, .at 1, .at 0, .at 1, .at 0] n_L121_0 [.d .str x.1, .d (.int .u8) x.2.1, .und, .und, .und, .own .str out_1 false, .d (.int .i64) from_2, .d (.int .i64) i_3, .und, .und, .und, .und, .und, .und, .und, .und, .und, .und, .und, .und, .und, .und, .und, .und, .und, .und, .und, .und, .und, .und, .und, .und, .und, .und]
theorem L121_0_succ (N : Nat) (n_L121_0 : Nat) (x : ((List UInt8) × (Int × Unit))) (out_1 : (List (List UInt8))) (from_2 : Int) (i_3 : Int) : L121_0 N  (n_L121_0 + 1) x out_1 from_2 i_3 =
  (
  match (decide (i_3 < (lenI x.1))) with
  | true =>
   bif (inb i_3 x.1.length) then
    match ((byteAt x.1 i_3) == x.2.1) with
    | true =>
     bif (cutOk from_2 i_3 (lenI x.1)) then
      bif (fits out_1 ([(cut x.1 from_2 i_3)] : List (List UInt8))) then
       L121_0 N n_L121_0 x (out_1 ++ ([(cut x.1 from_2 i_3)] : List (List UInt8))) (IntKind.i64.wrap (i_3 + (1 : Int))) (IntKind.i64.wrap (i_3 + (1 : Int)))
      else .fail
     else .fail
    | false =>
     L121_0 N n_L121_0 x out_1 from_2 (IntKind.i64.wrap (i_3 + (1 : Int)))
   else .fail
  | false =>
   bif (cutOk from_2 (lenI x.1) (lenI x.1)) then
    bif (fits out_1 ([(cut x.1 from_2 (lenI x.1))] : List (List UInt8))) then
     .ret (out_1 ++ ([(cut x.1 from_2 (lenI x.1))] : List (List UInt8)))
    else .fail
   else .fail : Out (List (List UInt8))) := by
 kernel_rfl
noncomputable def F121 (N : Nat) (x : ((List UInt8) × (Int × Unit))) : Out (List (List UInt8)) :=
 L121_0 N N x ([] : List (List UInt8)) (0 : Int) (0 : Int)
theorem e121 (N : Nat) (x : ((List UInt8) × (Int × Unit))) : vfn Tryz.prog (phi specs121) hints121 N Tryz.f121 false true (.prod .str (.prod (.int .u8) .unit)) (.list .str) x = F121 N x := by
 kernel_rfl
noncomputable def f121 (x : ((List UInt8) × (Int × Unit))) : Out (List (List UInt8)) := F121 fuel x
noncomputable def sp121 : Spec := ⟨121, .call, (.prod .str (.prod (.int .u8) .unit)), (.list .str), false, true, f121⟩
theorem c121 : Contract Tryz.prog sp121 := contract_at (l := specs121) (arg := (.prod .str (.prod (.int .u8) .unit))) (res := (.list .str)) (multi := false) (own := true) (F := f121) mixed all_nil Tryz.func121 rfl hints121 fun x _ => ⟨fuel, e121 fuel x⟩
noncomputable def specs124 : List Spec := [sp86]
def hints124 : List (Nat × List Nat) := []
noncomputable def F124 (N : Nat) (x : ((Int × (Int × Unit)) × Unit)) : Out Bool :=
 match f86 (x.1.1, ((-9999 : Int), ((9999 : Int), ()))) with
 | .ret r_1 =>
  match (!r_1) with
  | true =>
   .ret true
  | false =>
   match f86 (x.1.2.1, (x.1.1, ((9999 : Int), ()))) with
   | .ret r_3 =>
    match (!r_3) with
    | true =>
     .ret true
    | false =>
     .ret (decide ((IntKind.i64.wrap (x.1.2.1 - x.1.1)) > (4 : Int)))
   | .pan p_4 =>
    .pan p_4
   | .fail => .fail
 | .pan p_2 =>
  .pan p_2
 | .fail => .fail
theorem e124 (N : Nat) (x : ((Int × (Int × Unit)) × Unit)) : vfn Tryz.prog (phi specs124) hints124 N Tryz.f124 false false ty11 .bool x = F124 N x := by
 kernel_rfl
noncomputable def f124 (x : ((Int × (Int × Unit)) × Unit)) : Out Bool := F124 fuel x
noncomputable def sp124 : Spec := ⟨124, .call, ty11, .bool, false, false, f124⟩
theorem c124 : Contract Tryz.prog sp124 := contract_at (l := specs124) (arg := ty11) (res := .bool) (multi := false) (own := false) (F := f124) mixed (all_cons c86 all_nil) Tryz.func124 rfl hints124 fun x _ => ⟨fuel, e124 fuel x⟩
noncomputable def specs126 : List Spec := []
def hints126 : List (Nat × List Nat) := []
noncomputable def F126 (N : Nat) (x : (Int × (Int × Unit))) : Out Int :=
 .ret (if (IntKind.i64.wrap (x.2.1 - x.1)) > (IntKind.i64.wrap (x.1 - x.2.1)) then (IntKind.i64.wrap (x.2.1 - x.1)) else (IntKind.i64.wrap (x.1 - x.2.1)))
theorem e126 (N : Nat) (x : (Int × (Int × Unit))) : vfn Tryz.prog (phi specs126) hints126 N Tryz.f126 false false ty3 (.int .i64) x = F126 N x := by
 kernel_rfl
noncomputable def f126 (x : (Int × (Int × Unit))) : Out Int := F126 fuel x
noncomputable def sp126 : Spec := ⟨126, .call, ty3, (.int .i64), false, false, f126⟩
theorem c126 : Contract Tryz.prog sp126 := contract_at (l := specs126) (arg := ty3) (res := (.int .i64)) (multi := false) (own := false) (F := f126) mixed all_nil Tryz.func126 rfl hints126 fun x _ => ⟨fuel, e126 fuel x⟩
noncomputable def specs127 : List Spec := []
def hints127 : List (Nat × List Nat) := []
noncomputable def F127 (N : Nat) (x : ((Int × Unit) × (Int × Unit))) : Out Int :=
 bif (x.1.1 != (0 : Int)) then
  match (decide ((IntKind.i64.wrap ((IntKind.i64.wrap (x.2.1.tdiv x.1.1)) * x.1.1)) > x.2.1)) with
  | true =>
   .ret (IntKind.i64.wrap ((IntKind.i64.wrap (x.2.1.tdiv x.1.1)) - (1 : Int)))
  | false =>
   .ret (IntKind.i64.wrap (x.2.1.tdiv x.1.1))
 else .fail
theorem e127 (N : Nat) (x : ((Int × Unit) × (Int × Unit))) : vfn Tryz.prog (phi specs127) hints127 N Tryz.f127 false false ty14 (.int .i64) x = F127 N x := by
 kernel_rfl
noncomputable def f127 (x : ((Int × Unit) × (Int × Unit))) : Out Int := F127 fuel x
noncomputable def sp127 : Spec := ⟨127, .call, ty14, (.int .i64), false, false, f127⟩
theorem c127 : Contract Tryz.prog sp127 := contract_at (l := specs127) (arg := ty14) (res := (.int .i64)) (multi := false) (own := false) (F := f127) mixed all_nil Tryz.func127 rfl hints127 fun x _ => ⟨fuel, e127 fuel x⟩
noncomputable def specs128 : List Spec := [sp127]
def hints128 : List (Nat × List Nat) := []
noncomputable def F128 (N : Nat) (x : ((Int × Unit) × (Int × Unit))) : Out Int :=
 match f127 (x.1, ((IntKind.i64.wrap (0 - x.2.1)), ())) with
 | .ret r_1 =>
  .ret (IntKind.i64.wrap (0 - r_1))
 | .pan p_2 =>
  .pan p_2
 | .fail => .fail
theorem e128 (N : Nat) (x : ((Int × Unit) × (Int × Unit))) : vfn Tryz.prog (phi specs128) hints128 N Tryz.f128 false false ty14 (.int .i64) x = F128 N x := by
 kernel_rfl
noncomputable def f128 (x : ((Int × Unit) × (Int × Unit))) : Out Int := F128 fuel x
noncomputable def sp128 : Spec := ⟨128, .call, ty14, (.int .i64), false, false, f128⟩
theorem c128 : Contract Tryz.prog sp128 := contract_at (l := specs128) (arg := ty14) (res := (.int .i64)) (multi := false) (own := false) (F := f128) mixed (all_cons c127 all_nil) Tryz.func128 rfl hints128 fun x _ => ⟨fuel, e128 fuel x⟩
noncomputable def specs129 : List Spec := [sp127]
def hints129 : List (Nat × List Nat) := []
noncomputable def F129 (N : Nat) (x : ((Int × Unit) × (Int × Unit))) : Out Int :=
 match f127 (((IntKind.i64.wrap ((2 : Int) * x.1.1)), ()), ((IntKind.i64.wrap ((IntKind.i64.wrap ((2 : Int) * x.2.1)) + x.1.1)), ())) with
 | .ret r_1 =>
  .ret r_1
 | .pan p_2 =>
  .pan p_2
 | .fail => .fail
theorem e129 (N : Nat) (x : ((Int × Unit) × (Int × Unit))) : vfn Tryz.prog (phi specs129) hints129 N Tryz.f129 false false ty14 (.int .i64) x = F129 N x := by
 kernel_rfl
noncomputable def f129 (x : ((Int × Unit) × (Int × Unit))) : Out Int := F129 fuel x
noncomputable def sp129 : Spec := ⟨129, .call, ty14, (.int .i64), false, false, f129⟩
theorem c129 : Contract Tryz.prog sp129 := contract_at (l := specs129) (arg := ty14) (res := (.int .i64)) (multi := false) (own := false) (F := f129) mixed (all_cons c127 all_nil) Tryz.func129 rfl hints129 fun x _ => ⟨fuel, e129 fuel x⟩
noncomputable def specs130 : List Spec := [sp129]
def hints130 : List (Nat × List Nat) := []
noncomputable def F130 (N : Nat) (x : ((Int × Unit) × (Int × Unit))) : Out Int :=
 match f129 (x.1, (x.2.1, ())) with
 | .ret r_1 =>
  match ((IntKind.i64.wrap ((IntKind.i64.wrap ((2 : Int) * x.2.1)) + x.1.1)) == (IntKind.i64.wrap ((IntKind.i64.wrap ((2 : Int) * x.1.1)) * r_1))) with
  | true =>
   match ((r_1.tmod (2 : Int)) != (0 : Int)) with
   | true =>
    .ret (IntKind.i64.wrap (r_1 - (1 : Int)))
   | false =>
    .ret r_1
  | false =>
   .ret r_1
 | .pan p_2 =>
  .pan p_2
 | .fail => .fail
theorem e130 (N : Nat) (x : ((Int × Unit) × (Int × Unit))) : vfn Tryz.prog (phi specs130) hints130 N Tryz.f130 false false ty14 (.int .i64) x = F130 N x := by
 kernel_rfl
noncomputable def f130 (x : ((Int × Unit) × (Int × Unit))) : Out Int := F130 fuel x
noncomputable def sp130 : Spec := ⟨130, .call, ty14, (.int .i64), false, false, f130⟩
theorem c130 : Contract Tryz.prog sp130 := contract_at (l := specs130) (arg := ty14) (res := (.int .i64)) (multi := false) (own := false) (F := f130) mixed (all_cons c129 all_nil) Tryz.func130 rfl hints130 fun x _ => ⟨fuel, e130 fuel x⟩
noncomputable def specs134 : List Spec := []
def hints134 : List (Nat × List Nat) := [(3, [0, 1, 6, 7, 8])]
noncomputable def L134_0 (N : Nat) (n_L134_0 : Nat) (x : ((List Int) × (Int × Unit))) (before_1 : Int) (after_2 : Int) (i_3 : Int) : Out (Int × (Int × Unit)) :=
 vloop Tryz.prog (phi specs134) hints134 N Tryz.f134 true false ty3 [.at 1, .at 1, .at 0, .at 1, .at 0] n_L134_0 [.d (.list (.int .i64)) x.1, .d (.int .i64) x.2.1, .und, .und, .und, .und, .d (.int .i64) before_1, .d (.int .i64) after_2, .d (.int .i64) i_3, .und, .und, .und, .und, .und, .und, .und, .und, .und, .und, .und, .und, .und, .und, .und, .und, .und, .und, .und, .und, .und, .und, .und, .und, .und, .und, .und, .und, .und, .und, .und, .und, .und, .und, .und, .und, .und, .und, .und, .und, .und]
theorem L134_0_succ (N : Nat) (n_L134_0 : Nat) (x : ((List Int) × (Int × Unit))) (before_1 : Int) (after_2 : Int) (i_3 : Int) : L134_0 N  (n_L134_0 + 1) x before_1 after_2 i_3 =
  (
  match (decide (i_3 < (lenI x.1))) with
  | true =>
   bif (inb i_3 x.1.length) then
    match (decide ((List.getD x.1 i_3.toNat (0 : Int)) ≤ x.2.1)) with
    | true =>
     bif (inb i_3 x.1.length) then
      bif (inb i_3 x.1.length) then
       match (decide ((List.getD x.1 i_3.toNat (0 : Int)) ≥ x.2.1)) with
       | true =>
        bif (inb i_3 x.1.length) then
         L134_0 N n_L134_0 x (if (List.getD x.1 i_3.toNat (0 : Int)) > before_1 then (List.getD x.1 i_3.toNat (0 : Int)) else before_1) (if (List.getD x.1 i_3.toNat (0 : Int)) < after_2 then (List.getD x.1 i_3.toNat (0 : Int)) else after_2) (IntKind.i64.wrap (i_3 + (1 : Int)))
        else .fail
       | false =>
        L134_0 N n_L134_0 x (if (List.getD x.1 i_3.toNat (0 : Int)) > before_1 then (List.getD x.1 i_3.toNat (0 : Int)) else before_1) after_2 (IntKind.i64.wrap (i_3 + (1 : Int)))
      else .fail
     else .fail
    | false =>
     bif (inb i_3 x.1.length) then
      match (decide ((List.getD x.1 i_3.toNat (0 : Int)) ≥ x.2.1)) with
      | true =>
       bif (inb i_3 x.1.length) then
        L134_0 N n_L134_0 x before_1 (if (List.getD x.1 i_3.toNat (0 : Int)) < after_2 then (List.getD x.1 i_3.toNat (0 : Int)) else after_2) (IntKind.i64.wrap (i_3 + (1 : Int)))
       else .fail
      | false =>
       L134_0 N n_L134_0 x before_1 after_2 (IntKind.i64.wrap (i_3 + (1 : Int)))
     else .fail
   else .fail
  | false =>
   .ret (before_1, (after_2, ())) : Out (Int × (Int × Unit))) := by
 kernel_rfl
noncomputable def F134 (N : Nat) (x : ((List Int) × (Int × Unit))) : Out (Int × (Int × Unit)) :=
 bif (inb (0 : Int) x.1.length) then
  bif (inb (IntKind.i64.wrap ((lenI x.1) - (1 : Int))) x.1.length) then
   L134_0 N N x (List.getD x.1 (0 : Int).toNat (0 : Int)) (List.getD x.1 (IntKind.i64.wrap ((lenI x.1) - (1 : Int))).toNat (0 : Int)) (0 : Int)
  else .fail
 else .fail
theorem e134 (N : Nat) (x : ((List Int) × (Int × Unit))) : vfn Tryz.prog (phi specs134) hints134 N Tryz.f134 true false ty4 ty3 x = F134 N x := by
 kernel_rfl
noncomputable def f134 (x : ((List Int) × (Int × Unit))) : Out (Int × (Int × Unit)) := F134 fuel x
noncomputable def sp134 : Spec := ⟨134, .call, ty4, ty3, true, false, f134⟩
theorem c134 : Contract Tryz.prog sp134 := contract_at (l := specs134) (arg := ty4) (res := ty3) (multi := true) (own := false) (F := f134) mixed all_nil Tryz.func134 rfl hints134 fun x _ => ⟨fuel, e134 fuel x⟩
noncomputable def specs135 : List Spec := []
def hints135 : List (Nat × List Nat) := [(3, [1, 3, 4])]
noncomputable def L135_0 (N : Nat) (n_L135_0 : Nat) (x : (((List (Int × (Int × Unit))) × (Int × (Int × Unit))) × Unit)) (out_1 : (List Int)) (i_2 : Int) : Out (List Int) :=
 vloop Tryz.prog (phi specs135) hints135 N Tryz.f135 false true (.list (.int .i64)) [.at 1, .at 1, .at 0, .at 1, .at 0] n_L135_0 [.und, .box [.d ty2 x.1.1, .d (.int .i64) x.1.2.1, .d (.int .i64) x.1.2.2.1], .und, .own (.int .i64) out_1 false, .d (.int .i64) i_2, .und, .und, .und, .und, .und, .und, .und, .und, .und, .und, .und, .und, .und, .und, .und, .und, .und]
theorem L135_0_succ (N : Nat) (n_L135_0 : Nat) (x : (((List (Int × (Int × Unit))) × (Int × (Int × Unit))) × Unit)) (out_1 : (List Int)) (i_2 : Int) : L135_0 N  (n_L135_0 + 1) x out_1 i_2 =
  (
  match (decide (i_2 < (lenI x.1.1))) with
  | true =>
   bif (inb i_2 x.1.1.length) then
    bif (fits out_1 ([((List.getD x.1.1 i_2.toNat ((0 : Int), ((0 : Int), ())))).2.1] : List Int)) then
     L135_0 N n_L135_0 x (out_1 ++ ([((List.getD x.1.1 i_2.toNat ((0 : Int), ((0 : Int), ())))).2.1] : List Int)) (IntKind.i64.wrap (i_2 + (1 : Int)))
    else .fail
   else .fail
  | false =>
   .ret out_1 : Out (List Int)) := by
 kernel_rfl
noncomputable def F135 (N : Nat) (x : (((List (Int × (Int × Unit))) × (Int × (Int × Unit))) × Unit)) : Out (List Int) :=
 L135_0 N N x ([] : List Int) (0 : Int)
theorem e135 (N : Nat) (x : (((List (Int × (Int × Unit))) × (Int × (Int × Unit))) × Unit)) : vfn Tryz.prog (phi specs135) hints135 N Tryz.f135 false true ty1 (.list (.int .i64)) x = F135 N x := by
 kernel_rfl
noncomputable def f135 (x : (((List (Int × (Int × Unit))) × (Int × (Int × Unit))) × Unit)) : Out (List Int) := F135 fuel x
noncomputable def sp135 : Spec := ⟨135, .call, ty1, (.list (.int .i64)), false, true, f135⟩
theorem c135 : Contract Tryz.prog sp135 := contract_at (l := specs135) (arg := ty1) (res := (.list (.int .i64))) (multi := false) (own := true) (F := f135) mixed all_nil Tryz.func135 rfl hints135 fun x _ => ⟨fuel, e135 fuel x⟩
noncomputable def specs144 : List Spec := []
def hints144 : List (Nat × List Nat) := []
noncomputable def F144 (N : Nat) (x : (Int × Unit)) : Out Bool :=
 .ret (x.1 != x.1)
theorem e144 (N : Nat) (x : (Int × Unit)) : vfn Tryz.prog (phi specs144) hints144 N Tryz.f144 false false (.prod (.int .i64) .unit) .bool x = F144 N x := by
 kernel_rfl
noncomputable def f144 (x : (Int × Unit)) : Out Bool := F144 fuel x
noncomputable def sp144 : Spec := ⟨144, .call, (.prod (.int .i64) .unit), .bool, false, false, f144⟩
theorem c144 : Contract Tryz.prog sp144 := contract_at (l := specs144) (arg := (.prod (.int .i64) .unit)) (res := .bool) (multi := false) (own := false) (F := f144) mixed all_nil Tryz.func144 rfl hints144 fun x _ => ⟨fuel, e144 fuel x⟩
noncomputable def specs147 : List Spec := [sp88]
def hints147 : List (Nat × List Nat) := []
noncomputable def F147 (N : Nat) (x : (Int × (Int × (Int × (Int × (Int × (Int × Unit))))))) : Out Int :=
 match (x.2.1 == x.2.2.1) with
 | true =>
  .ret x.2.2.2.2.1
 | false =>
  match f88 ((IntKind.i64.wrap ((IntKind.i64.wrap (x.2.2.2.2.1 * (IntKind.i64.wrap (x.2.2.1 - x.2.2.2.1)))) + (IntKind.i64.wrap (x.2.2.2.2.2.1 * (IntKind.i64.wrap (x.2.2.2.1 - x.2.1)))))), ((IntKind.i64.wrap (x.2.2.1 - x.2.1)), (x.1, ()))) with
  | .ret r_1 =>
   .ret r_1
  | .pan p_2 =>
   .pan p_2
  | .fail => .fail
theorem e147 (N : Nat) (x : (Int × (Int × (Int × (Int × (Int × (Int × Unit))))))) : vfn Tryz.prog (phi specs147) hints147 N Tryz.f147 false false ty38 (.int .i64) x = F147 N x := by
 kernel_rfl
noncomputable def f147 (x : (Int × (Int × (Int × (Int × (Int × (Int × Unit))))))) : Out Int := F147 fuel x
noncomputable def sp147 : Spec := ⟨147, .call, ty38, (.int .i64), false, false, f147⟩
theorem c147 : Contract Tryz.prog sp147 := contract_at (l := specs147) (arg := ty38) (res := (.int .i64)) (multi := false) (own := false) (F := f147) mixed (all_cons c88 all_nil) Tryz.func147 rfl hints147 fun x _ => ⟨fuel, e147 fuel x⟩
noncomputable def specs153 : List Spec := []
def hints153 : List (Nat × List Nat) := []
noncomputable def F153 (N : Nat) (x : (Bool × ((List UInt8) × Unit))) : Out Unit :=
 match (!x.1) with
 | true =>
  .pan (.iface 163 (toVal (.prod .str .unit) ((valOf (.prod .str .unit) x.2).getD [])))
 | false =>
  .ret ()
theorem e153 (N : Nat) (x : (Bool × ((List UInt8) × Unit))) : vfn Tryz.prog (phi specs153) hints153 N Tryz.f153 true false (.prod .bool (.prod .str .unit)) .unit x = F153 N x := by
 kernel_rfl
noncomputable def f153 (x : (Bool × ((List UInt8) × Unit))) : Out Unit := F153 fuel x
noncomputable def sp153 : Spec := ⟨153, .call, (.prod .bool (.prod .str .unit)), .unit, true, false, f153⟩
theorem c153 : Contract Tryz.prog sp153 := contract_at (l := specs153) (arg := (.prod .bool (.prod .str .unit))) (res := .unit) (multi := true) (own := false) (F := f153) mixed all_nil Tryz.func153 rfl hints153 fun x _ => ⟨fuel, e153 fuel x⟩
noncomputable def specs156 (g : (Int × Unit) → Out (List UInt8)) : List Spec := [⟨156, .call, (.prod (.int .i64) .unit), .str, false, false, g⟩]
def hints156 : List (Nat × List Nat) := []
noncomputable def F156 (g : (Int × Unit) → Out (List UInt8)) (N : Nat) (x : (Int × Unit)) : Out (List UInt8) :=
 match (decide (x.1 > (-10 : Int))) with
 | true =>
  match (decide (x.1 < (0 : Int))) with
  | true =>
   bif (decide (([45] : List UInt8).length + (toBytes ([(IntKind.u8.wrap (IntKind.i64.wrap ((48 : Int) - x.1)))] : List Int)).length < 1000000)) then
    .ret (([45] : List UInt8) ++ (toBytes ([(IntKind.u8.wrap (IntKind.i64.wrap ((48 : Int) - x.1)))] : List Int)))
   else .fail
  | false =>
   match (decide (x.1 < (0 : Int))) with
   | true =>
    match g ((IntKind.i64.wrap (x.1.tdiv (10 : Int))), ()) with
    | .ret r_1 =>
     bif (decide (r_1.length + (toBytes ([(IntKind.u8.wrap (IntKind.i64.wrap ((48 : Int) - (x.1.tmod (10 : Int)))))] : List Int)).length < 1000000)) then
      .ret (r_1 ++ (toBytes ([(IntKind.u8.wrap (IntKind.i64.wrap ((48 : Int) - (x.1.tmod (10 : Int)))))] : List Int)))
     else .fail
    | .pan p_2 =>
     .pan p_2
    | .fail => .fail
   | false =>
    match (decide (x.1 < (10 : Int))) with
    | true =>
     .ret (toBytes ([(IntKind.u8.wrap (IntKind.i64.wrap ((48 : Int) + x.1)))] : List Int))
    | false =>
     match g ((IntKind.i64.wrap (x.1.tdiv (10 : Int))), ()) with
     | .ret r_3 =>
      bif (decide (r_3.length + (toBytes ([(IntKind.u8.wrap (IntKind.i64.wrap ((48 : Int) + (x.1.tmod (10 : Int)))))] : List Int)).length < 1000000)) then
       .ret (r_3 ++ (toBytes ([(IntKind.u8.wrap (IntKind.i64.wrap ((48 : Int) + (x.1.tmod (10 : Int)))))] : List Int)))
      else .fail
     | .pan p_4 =>
      .pan p_4
     | .fail => .fail
 | false =>
  match (decide (x.1 < (0 : Int))) with
  | true =>
   match g ((IntKind.i64.wrap (x.1.tdiv (10 : Int))), ()) with
   | .ret r_5 =>
    bif (decide (r_5.length + (toBytes ([(IntKind.u8.wrap (IntKind.i64.wrap ((48 : Int) - (x.1.tmod (10 : Int)))))] : List Int)).length < 1000000)) then
     .ret (r_5 ++ (toBytes ([(IntKind.u8.wrap (IntKind.i64.wrap ((48 : Int) - (x.1.tmod (10 : Int)))))] : List Int)))
    else .fail
   | .pan p_6 =>
    .pan p_6
   | .fail => .fail
  | false =>
   match (decide (x.1 < (10 : Int))) with
   | true =>
    .ret (toBytes ([(IntKind.u8.wrap (IntKind.i64.wrap ((48 : Int) + x.1)))] : List Int))
   | false =>
    match g ((IntKind.i64.wrap (x.1.tdiv (10 : Int))), ()) with
    | .ret r_7 =>
     bif (decide (r_7.length + (toBytes ([(IntKind.u8.wrap (IntKind.i64.wrap ((48 : Int) + (x.1.tmod (10 : Int)))))] : List Int)).length < 1000000)) then
      .ret (r_7 ++ (toBytes ([(IntKind.u8.wrap (IntKind.i64.wrap ((48 : Int) + (x.1.tmod (10 : Int)))))] : List Int)))
     else .fail
    | .pan p_8 =>
     .pan p_8
    | .fail => .fail
theorem e156 (g : (Int × Unit) → Out (List UInt8)) (N : Nat) (x : (Int × Unit)) : vfn Tryz.prog (phi (specs156 g)) hints156 N Tryz.f156 false false (.prod (.int .i64) .unit) .str x = F156 g N x := by
 kernel_rfl
noncomputable def f156r : Nat → (Int × Unit) → Out (List UInt8)
 | 0, _ => .fail
 | m + 1, x => F156 (f156r m) fuel x
theorem c156r : ∀ m, Contract Tryz.prog ⟨156, .call, (.prod (.int .i64) .unit), .str, false, false, f156r m⟩
 | 0 => fun _ _ _ _ _ _ _ => trivial
 | m + 1 => contract_at (l := specs156 (f156r m)) (arg := (.prod (.int .i64) .unit)) (res := .str) (multi := false) (own := false) (F := f156r (m + 1)) mixed (all_cons (c156r m) all_nil) Tryz.func156 rfl hints156 fun x _ => ⟨fuel, e156 (f156r m) fuel x⟩
noncomputable def f156 (x : (Int × Unit)) : Out (List UInt8) := f156r fuel x
noncomputable def sp156 : Spec := ⟨156, .call, (.prod (.int .i64) .unit), .str, false, false, f156⟩
theorem c156 : Contract Tryz.prog sp156 := c156r fuel
noncomputable def specs157 : List Spec := [sp156]
def hints157 : List (Nat × List Nat) := [(8, [0, 6, 7, 8, 9])]
noncomputable def L157_0 (N : Nat) (n_L157_0 : Nat) (x : ((List UInt8) × (Int × Unit))) (n_1 : Int) (i_2 : Int) : Out (Int × (Bool × Unit)) :=
 vloop Tryz.prog (phi specs157) hints157 N Tryz.f157 true false ty17 [.at 1, .at 1, .at 1, .at 1, .at 1, .at 0, .at 1, .at 0] n_L157_0 [.d .str x.1, .und, .und, .und, .und, .und, .d (.int .i64) (-1 : Int), .d .str (cut x.1 (1 : Int) (lenI x.1)), .d (.int .i64) n_1, .d (.int .i64) i_2, .und, .und, .und, .und, .und, .und, .und, .und, .und, .und, .und, .und, .und, .und, .und, .und, .und, .und, .und, .und, .und, .und, .und, .und, .und, .und, .und, .und, .und, .und, .und, .und, .und, .und, .und, .und, .und, .und, .und, .und, .und, .und, .und, .und, .und, .und, .und, .und, .und, .und, .und, .und, .und]
noncomputable def L157_1 (N : Nat) (n_L157_1 : Nat) (x : ((List UInt8) × (Int × Unit))) (n_5 : Int) (i_6 : Int) : Out (Int × (Bool × Unit)) :=
 vloop Tryz.prog (phi specs157) hints157 N Tryz.f157 true false ty17 [.at 1, .at 1, .at 1, .at 1, .at 1, .at 0, .at 1, .at 0] n_L157_1 [.d .str x.1, .und, .und, .und, .und, .und, .d (.int .i64) (1 : Int), .d .str x.1, .d (.int .i64) n_5, .d (.int .i64) i_6, .und, .und, .und, .und, .und, .und, .und, .und, .und, .und, .und, .und, .und, .und, .und, .und, .und, .und, .und, .und, .und, .und, .und, .und, .und, .und, .und, .und, .und, .und, .und, .und, .und, .und, .und, .und, .und, .und, .und, .und, .und, .und, .und, .und, .und, .und, .und, .und, .und, .und, .und, .und, .und]
theorem L157_0_succ (N : Nat) (n_L157_0 : Nat) (x : ((List UInt8) × (Int × Unit))) (n_1 : Int) (i_2 : Int) : L157_0 N  (n_L157_0 + 1) x n_1 i_2 =
  (
  match (decide (i_2 < (lenI (cut x.1 (1 : Int) (lenI x.1))))) with
  | true =>
   bif (inb i_2 (cut x.1 (1 : Int) (lenI x.1)).length) then
    match (decide ((byteAt (cut x.1 (1 : Int) (lenI x.1)) i_2) < (48 : Int))) with
    | true =>
     .ret ((0 : Int), (false, ()))
    | false =>
     bif (inb i_2 (cut x.1 (1 : Int) (lenI x.1)).length) then
      match (decide ((byteAt (cut x.1 (1 : Int) (lenI x.1)) i_2) > (57 : Int))) with
      | true =>
       .ret ((0 : Int), (false, ()))
      | false =>
       bif (inb i_2 (cut x.1 (1 : Int) (lenI x.1)).length) then
        L157_0 N n_L157_0 x (IntKind.i64.wrap ((IntKind.i64.wrap ((10 : Int) * n_1)) + (IntKind.i64.wrap (IntKind.u8.wrap ((byteAt (cut x.1 (1 : Int) (lenI x.1)) i_2) - (48 : Int)))))) (IntKind.i64.wrap (i_2 + (1 : Int)))
       else .fail
     else .fail
   else .fail
  | false =>
   match f156 ((IntKind.i64.wrap ((-1 : Int) * n_1)), ()) with
   | .ret r_3 =>
    .ret ((IntKind.i64.wrap ((-1 : Int) * n_1)), ((r_3 == x.1), ()))
   | .pan p_4 =>
    .pan p_4
   | .fail => .fail : Out (Int × (Bool × Unit))) := by
 kernel_rfl
theorem L157_1_succ (N : Nat) (n_L157_1 : Nat) (x : ((List UInt8) × (Int × Unit))) (n_5 : Int) (i_6 : Int) : L157_1 N  (n_L157_1 + 1) x n_5 i_6 =
  (
  match (decide (i_6 < (lenI x.1))) with
  | true =>
   bif (inb i_6 x.1.length) then
    match (decide ((byteAt x.1 i_6) < (48 : Int))) with
    | true =>
     .ret ((0 : Int), (false, ()))
    | false =>
     bif (inb i_6 x.1.length) then
      match (decide ((byteAt x.1 i_6) > (57 : Int))) with
      | true =>
       .ret ((0 : Int), (false, ()))
      | false =>
       bif (inb i_6 x.1.length) then
        L157_1 N n_L157_1 x (IntKind.i64.wrap ((IntKind.i64.wrap ((10 : Int) * n_5)) + (IntKind.i64.wrap (IntKind.u8.wrap ((byteAt x.1 i_6) - (48 : Int)))))) (IntKind.i64.wrap (i_6 + (1 : Int)))
       else .fail
     else .fail
   else .fail
  | false =>
   match f156 ((IntKind.i64.wrap ((1 : Int) * n_5)), ()) with
   | .ret r_7 =>
    .ret ((IntKind.i64.wrap ((1 : Int) * n_5)), ((r_7 == x.1), ()))
   | .pan p_8 =>
    .pan p_8
   | .fail => .fail : Out (Int × (Bool × Unit))) := by
 kernel_rfl
noncomputable def F157 (N : Nat) (x : ((List UInt8) × (Int × Unit))) : Out (Int × (Bool × Unit)) :=
 match (decide ((lenI x.1) > (0 : Int))) with
 | true =>
  bif (inb (0 : Int) x.1.length) then
   match ((byteAt x.1 (0 : Int)) == (45 : Int)) with
   | true =>
    bif (cutOk (1 : Int) (lenI x.1) (lenI x.1)) then
     match (decide ((lenI (cut x.1 (1 : Int) (lenI x.1))) < (1 : Int))) with
     | true =>
      .ret ((0 : Int), (false, ()))
     | false =>
      match (decide ((lenI (cut x.1 (1 : Int) (lenI x.1))) > x.2.1)) with
      | true =>
       .ret ((0 : Int), (false, ()))
      | false =>
       L157_0 N N x (0 : Int) (0 : Int)
    else .fail
   | false =>
    match (decide ((lenI x.1) < (1 : Int))) with
    | true =>
     .ret ((0 : Int), (false, ()))
    | false =>
     match (decide ((lenI x.1) > x.2.1)) with
     | true =>
      .ret ((0 : Int), (false, ()))
     | false =>
      L157_1 N N x (0 : Int) (0 : Int)
  else .fail
 | false =>
  match (decide ((lenI x.1) < (1 : Int))) with
  | true =>
   .ret ((0 : Int), (false, ()))
  | false =>
   match (decide ((lenI x.1) > x.2.1)) with
   | true =>
    .ret ((0 : Int), (false, ()))
   | false =>
    L157_1 N N x (0 : Int) (0 : Int)
theorem e157 (N : Nat) (x : ((List UInt8) × (Int × Unit))) : vfn Tryz.prog (phi specs157) hints157 N Tryz.f157 true false ty20 ty17 x = F157 N x := by
 kernel_rfl
noncomputable def f157 (x : ((List UInt8) × (Int × Unit))) : Out (Int × (Bool × Unit)) := F157 fuel x
noncomputable def sp157 : Spec := ⟨157, .call, ty20, ty17, true, false, f157⟩
theorem c157 : Contract Tryz.prog sp157 := contract_at (l := specs157) (arg := ty20) (res := ty17) (multi := true) (own := false) (F := f157) mixed (all_cons c156 all_nil) Tryz.func157 rfl hints157 fun x _ => ⟨fuel, e157 fuel x⟩
noncomputable def specs158a : List Spec := [sp124]
def hints158a : List (Nat × List Nat) := [(2, [0, 1, 7, 8])]
noncomputable def L158a_0 (N : Nat) (n_L158a_0 : Nat) (x : ((List (Int × (Int × Unit))) × (Value × Unit))) (t8_1 : Int) : Out Int :=
 vloop Tryz.prog (phi specs158a) hints158a N Tryz.f158 false false (.int .i64) [.at 1, .at 0, .at 1, .at 0] n_L158a_0 [.d ty2 x.1, .d .raw (Value.func (.func 124) #[] #[]), .und, .und, .und, .und, .und, .d (.int .i64) (lenI x.1), .d (.int .i64) t8_1, .und, .und, .und, .und, .und, .und, .und, .und, .und, .und]
theorem L158a_0_succ (N : Nat) (n_L158a_0 : Nat) (x : ((List (Int × (Int × Unit))) × (Value × Unit))) (t8_1 : Int) : L158a_0 N  (n_L158a_0 + 1) x t8_1 =
  (
  match (decide (t8_1 < (lenI x.1))) with
  | true =>
   bif (inb t8_1 x.1.length) then
    match f124 ((List.getD x.1 t8_1.toNat ((0 : Int), ((0 : Int), ()))), ()) with
    | .ret r_2 =>
     match r_2 with
     | true =>
      .ret t8_1
     | false =>
      L158a_0 N n_L158a_0 x (IntKind.i64.wrap (t8_1 + (1 : Int)))
    | .pan p_3 =>
     .pan p_3
    | .fail => .fail
   else .fail
  | false =>
   .ret (-1 : Int) : Out Int) := by
 kernel_rfl
noncomputable def F158a (N : Nat) (x : ((List (Int × (Int × Unit))) × (Value × Unit))) : Out Int :=
 L158a_0 N N x (0 : Int)
theorem e158a (N : Nat) (x : ((List (Int × (Int × Unit))) × (Value × Unit))) : vfn Tryz.prog (phi specs158a) hints158a N Tryz.f158 false false ty12 (.int .i64) (x.1, (Value.func (.func 124) #[] #[]), ()) = F158a N x := by
 kernel_rfl
@[irreducible] noncomputable def f158a (x : ((List (Int × (Int × Unit))) × (Value × Unit))) : Out Int := vfn Tryz.prog (phi specs158a) hints158a fuel Tryz.f158 false false ty12 (.int .i64) x
noncomputable def sp158a : Spec := ⟨158, .call, ty12, (.int .i64), false, false, f158a⟩
theorem q158a (x : ((List (Int × (Int × Unit))) × (Value × Unit))) : vfn Tryz.prog (phi specs158a) hints158a fuel Tryz.f158 false false ty12 (.int .i64) x = f158a x := by kernel_rfl
theorem c158a : Contract Tryz.prog sp158a := contract_at (l := specs158a) (arg := ty12) (res := (.int .i64)) (multi := false) (own := false) (F := f158a) mixed (all_cons c124 all_nil) Tryz.func158 rfl hints158a fun x _ => ⟨fuel, q158a x⟩
noncomputable def specs159 : List Spec := []
def hints159 : List (Nat × List Nat) := [(3, [3, 6, 7, 8])]
noncomputable def L159_0 (N : Nat) (n_L159_0 : Nat) (x : ((List Int) × Unit)) (n_1 : Int) (t8_2 : Int) : Out Int :=
 vloop Tryz.prog (phi specs159) hints159 N Tryz.f159 false false (.int .i64) [.at 1, .at 1, .at 0, .at 1, .at 0] n_L159_0 [.und, .und, .und, .d (.int .i64) n_1, .und, .und, .d (.list (.int .i64)) x.1, .d (.int .i64) (lenI x.1), .d (.int .i64) t8_2, .und, .und, .und, .und, .und, .und, .und, .und]
theorem L159_0_succ (N : Nat) (n_L159_0 : Nat) (x : ((List Int) × Unit)) (n_1 : Int) (t8_2 : Int) : L159_0 N  (n_L159_0 + 1) x n_1 t8_2 =
  (
  match (decide (t8_2 < (lenI x.1))) with
  | true =>
   bif (inb t8_2 x.1.length) then
    L159_0 N n_L159_0 x (IntKind.i64.wrap (n_1 + (List.getD x.1 t8_2.toNat (0 : Int)))) (IntKind.i64.wrap (t8_2 + (1 : Int)))
   else .fail
  | false =>
   .ret n_1 : Out Int) := by
 kernel_rfl
noncomputable def F159 (N : Nat) (x : ((List Int) × Unit)) : Out Int :=
 L159_0 N N x (0 : Int) (0 : Int)
theorem e159 (N : Nat) (x : ((List Int) × Unit)) : vfn Tryz.prog (phi specs159) hints159 N Tryz.f159 false false (.prod (.list (.int .i64)) .unit) (.int .i64) x = F159 N x := by
 kernel_rfl
noncomputable def f159 (x : ((List Int) × Unit)) : Out Int := F159 fuel x
noncomputable def sp159 : Spec := ⟨159, .call, (.prod (.list (.int .i64)) .unit), (.int .i64), false, false, f159⟩
theorem c159 : Contract Tryz.prog sp159 := contract_at (l := specs159) (arg := (.prod (.list (.int .i64)) .unit)) (res := (.int .i64)) (multi := false) (own := false) (F := f159) mixed all_nil Tryz.func159 rfl hints159 fun x _ => ⟨fuel, e159 fuel x⟩
noncomputable def specs160 : List Spec := []
def hints160 : List (Nat × List Nat) := []
noncomputable def F160 (N : Nat) (x : (Int × Unit)) : Out Bool :=
 .ret (x.1 != x.1)
theorem e160 (N : Nat) (x : (Int × Unit)) : vfn Tryz.prog (phi specs160) hints160 N Tryz.f160 false false (.prod (.int .i64) .unit) .bool x = F160 N x := by
 kernel_rfl
noncomputable def f160 (x : (Int × Unit)) : Out Bool := F160 fuel x
noncomputable def sp160 : Spec := ⟨160, .call, (.prod (.int .i64) .unit), .bool, false, false, f160⟩
theorem c160 : Contract Tryz.prog sp160 := contract_at (l := specs160) (arg := (.prod (.int .i64) .unit)) (res := .bool) (multi := false) (own := false) (F := f160) mixed all_nil Tryz.func160 rfl hints160 fun x _ => ⟨fuel, e160 fuel x⟩
noncomputable def specs161 : List Spec := []
def hints161 : List (Nat × List Nat) := []
noncomputable def F161 (N : Nat) (x : ((Int × (Int × Unit)) × Unit)) : Out Int :=
 .ret x.1.1
theorem e161 (N : Nat) (x : ((Int × (Int × Unit)) × Unit)) : vfn Tryz.prog (phi specs161) hints161 N Tryz.f161 false false ty11 (.int .i64) x = F161 N x := by
 kernel_rfl
noncomputable def f161 (x : ((Int × (Int × Unit)) × Unit)) : Out Int := F161 fuel x
noncomputable def sp161 : Spec := ⟨161, .call, ty11, (.int .i64), false, false, f161⟩
theorem c161 : Contract Tryz.prog sp161 := contract_at (l := specs161) (arg := ty11) (res := (.int .i64)) (multi := false) (own := false) (F := f161) mixed all_nil Tryz.func161 rfl hints161 fun x _ => ⟨fuel, e161 fuel x⟩
noncomputable def specs162 : List Spec := []
def hints162 : List (Nat × List Nat) := []
noncomputable def F162 (N : Nat) (x : ((Int × (Int × Unit)) × Unit)) : Out Int :=
 .ret x.1.2.1
theorem e162 (N : Nat) (x : ((Int × (Int × Unit)) × Unit)) : vfn Tryz.prog (phi specs162) hints162 N Tryz.f162 false false ty11 (.int .i64) x = F162 N x := by
 kernel_rfl
noncomputable def f162 (x : ((Int × (Int × Unit)) × Unit)) : Out Int := F162 fuel x
noncomputable def sp162 : Spec := ⟨162, .call, ty11, (.int .i64), false, false, f162⟩
theorem c162 : Contract Tryz.prog sp162 := contract_at (l := specs162) (arg := ty11) (res := (.int .i64)) (multi := false) (own := false) (F := f162) mixed all_nil Tryz.func162 rfl hints162 fun x _ => ⟨fuel, e162 fuel x⟩
noncomputable def specs164 : List Spec := []
def hints164 : List (Nat × List Nat) := []
noncomputable def F164 (N : Nat) (x : Unit) : Out ((List UInt8) × ((List UInt8) × Unit)) :=
 .ret (([116, 97, 98, 108, 101] : List UInt8), (([118, 97, 108, 117, 101] : List UInt8), ()))
theorem e164 (N : Nat) (x : Unit) : vfn Tryz.prog (phi specs164) hints164 N Tryz.f164 false false .unit ty15 x = F164 N x := by
 kernel_rfl
noncomputable def f164 (x : Unit) : Out ((List UInt8) × ((List UInt8) × Unit)) := F164 fuel x
noncomputable def sp164 : Spec := ⟨164, .call, .unit, ty15, false, false, f164⟩
theorem c164 : Contract Tryz.prog sp164 := contract_at (l := specs164) (arg := .unit) (res := ty15) (multi := false) (own := false) (F := f164) mixed all_nil Tryz.func164 rfl hints164 fun x _ => ⟨fuel, e164 fuel x⟩
noncomputable def specs179 : List Spec := []
def hints179 : List (Nat × List Nat) := []
noncomputable def F179 (N : Nat) (x : (Int × Unit)) : Out (List UInt8) :=
 match (decide (x.1 < (10 : Int))) with
 | true =>
  bif (cutOk x.1 (IntKind.i64.wrap (x.1 + (1 : Int))) (lenI ([48, 49, 50, 51, 52, 53, 54, 55, 56, 57, 97, 98, 99, 100, 101, 102, 103, 104, 105, 106, 107, 108, 109, 110, 111, 112, 113, 114, 115, 116, 117, 118, 119, 120, 121, 122] : List UInt8))) then
   .ret (cut ([48, 49, 50, 51, 52, 53, 54, 55, 56, 57, 97, 98, 99, 100, 101, 102, 103, 104, 105, 106, 107, 108, 109, 110, 111, 112, 113, 114, 115, 116, 117, 118, 119, 120, 121, 122] : List UInt8) x.1 (IntKind.i64.wrap (x.1 + (1 : Int))))
  else .fail
 | false =>
  bif (cutOk (IntKind.i64.wrap (x.1 * (2 : Int))) (IntKind.i64.wrap ((IntKind.i64.wrap (x.1 * (2 : Int))) + (2 : Int))) (lenI ([48, 48, 48, 49, 48, 50, 48, 51, 48, 52, 48, 53, 48, 54, 48, 55, 48, 56, 48, 57, 49, 48, 49, 49, 49, 50, 49, 51, 49, 52, 49, 53, 49, 54, 49, 55, 49, 56, 49, 57, 50, 48, 50, 49, 50, 50, 50, 51, 50, 52, 50, 53, 50, 54, 50, 55, 50, 56, 50, 57, 51, 48, 51, 49, 51, 50, 51, 51, 51, 52, 51, 53, 51, 54, 51, 55, 51, 56, 51, 57, 52, 48, 52, 49, 52, 50, 52, 51, 52, 52, 52, 53, 52, 54, 52, 55, 52, 56, 52, 57, 53, 48, 53, 49, 53, 50, 53, 51, 53, 52, 53, 53, 53, 54, 53, 55, 53, 56, 53, 57, 54, 48, 54, 49, 54, 50, 54, 51, 54, 52, 54, 53, 54, 54, 54, 55, 54, 56, 54, 57, 55, 48, 55, 49, 55, 50, 55, 51, 55, 52, 55, 53, 55, 54, 55, 55, 55, 56, 55, 57, 56, 48, 56, 49, 56, 50, 56, 51, 56, 52, 56, 53, 56, 54, 56, 55, 56, 56, 56, 57, 57, 48, 57, 49, 57, 50, 57, 51, 57, 52, 57, 53, 57, 54, 57, 55, 57, 56, 57, 57] : List UInt8))) then
   .ret (cut ([48, 48, 48, 49, 48, 50, 48, 51, 48, 52, 48, 53, 48, 54, 48, 55, 48, 56, 48, 57, 49, 48, 49, 49, 49, 50, 49, 51, 49, 52, 49, 53, 49, 54, 49, 55, 49, 56, 49, 57, 50, 48, 50, 49, 50, 50, 50, 51, 50, 52, 50, 53, 50, 54, 50, 55, 50, 56, 50, 57, 51, 48, 51, 49, 51, 50, 51, 51, 51, 52, 51, 53, 51, 54, 51, 55, 51, 56, 51, 57, 52, 48, 52, 49, 52, 50, 52, 51, 52, 52, 52, 53, 52, 54, 52, 55, 52, 56, 52, 57, 53, 48, 53, 49, 53, 50, 53, 51, 53, 52, 53, 53, 53, 54, 53, 55, 53, 56, 53, 57, 54, 48, 54, 49, 54, 50, 54, 51, 54, 52, 54, 53, 54, 54, 54, 55, 54, 56, 54, 57, 55, 48, 55, 49, 55, 50, 55, 51, 55, 52, 55, 53, 55, 54, 55, 55, 55, 56, 55, 57, 56, 48, 56, 49, 56, 50, 56, 51, 56, 52, 56, 53, 56, 54, 56, 55, 56, 56, 56, 57, 57, 48, 57, 49, 57, 50, 57, 51, 57, 52, 57, 53, 57, 54, 57, 55, 57, 56, 57, 57] : List UInt8) (IntKind.i64.wrap (x.1 * (2 : Int))) (IntKind.i64.wrap ((IntKind.i64.wrap (x.1 * (2 : Int))) + (2 : Int))))
  else .fail
theorem e179 (N : Nat) (x : (Int × Unit)) : vfn Tryz.prog (phi specs179) hints179 N Tryz.f179 false false (.prod (.int .i64) .unit) .str x = F179 N x := by
 kernel_rfl
noncomputable def f179 (x : (Int × Unit)) : Out (List UInt8) := F179 fuel x
noncomputable def sp179 : Spec := ⟨179, .call, (.prod (.int .i64) .unit), .str, false, false, f179⟩
theorem c179 : Contract Tryz.prog sp179 := contract_at (l := specs179) (arg := (.prod (.int .i64) .unit)) (res := .str) (multi := false) (own := false) (F := f179) mixed all_nil Tryz.func179 rfl hints179 fun x _ => ⟨fuel, e179 fuel x⟩
noncomputable def specs185 : List Spec := []
def hints185 : List (Nat × List Nat) := [(2, [2, 4])]
noncomputable def L185_0 (N : Nat) (n_L185_0 : Nat) (x : ((List UInt8) × Unit)) (n_1 : Int) (t4_2 : Nat) : Out Int :=
 vloop Tryz.prog (phi specs185) hints185 N Tryz.f185 false false (.int .i64) [.at 1, .at 0, .at 1, .at 0] n_L185_0 [.und, .und, .d (.int .i64) n_1, .und, .sit x.1 t4_2, .und, .und, .und, .und, .und]
theorem L185_0_succ (N : Nat) (n_L185_0 : Nat) (x : ((List UInt8) × Unit)) (n_1 : Int) (t4_2 : Nat) : L185_0 N  (n_L185_0 + 1) x n_1 t4_2 =
  (
  match (decide (t4_2 < x.1.length)) with
  | true =>
   L185_0 N n_L185_0 x (IntKind.i64.wrap (n_1 + (1 : Int))) (posAt x.1 t4_2)
  | false =>
   .ret n_1 : Out Int) := by
 kernel_rfl
noncomputable def F185 (N : Nat) (x : ((List UInt8) × Unit)) : Out Int :=
 L185_0 N N x (0 : Int) 0
theorem e185 (N : Nat) (x : ((List UInt8) × Unit)) : vfn Tryz.prog (phi specs185) hints185 N Tryz.f185 false false (.prod .str .unit) (.int .i64) x = F185 N x := by
 kernel_rfl
noncomputable def f185 (x : ((List UInt8) × Unit)) : Out Int := F185 fuel x
noncomputable def sp185 : Spec := ⟨185, .call, (.prod .str .unit), (.int .i64), false, false, f185⟩
theorem c185 : Contract Tryz.prog sp185 := contract_at (l := specs185) (arg := (.prod .str .unit)) (res := (.int .i64)) (multi := false) (own := false) (F := f185) mixed all_nil Tryz.func185 rfl hints185 fun x _ => ⟨fuel, e185 fuel x⟩
noncomputable def specs189 : List Spec := []
def hints189 : List (Nat × List Nat) := []
noncomputable def F189 (N : Nat) (x : ((List UInt8) × ((List UInt8) × Unit))) : Out Bool :=
 match (decide ((lenI x.1) ≥ (lenI x.2.1))) with
 | true =>
  bif (cutOk (0 : Int) (lenI x.2.1) (lenI x.1)) then
   .ret ((cut x.1 (0 : Int) (lenI x.2.1)) == x.2.1)
  else .fail
 | false =>
  .ret false
theorem e189 (N : Nat) (x : ((List UInt8) × ((List UInt8) × Unit))) : vfn Tryz.prog (phi specs189) hints189 N Tryz.f189 false false ty15 .bool x = F189 N x := by
 kernel_rfl
noncomputable def f189 (x : ((List UInt8) × ((List UInt8) × Unit))) : Out Bool := F189 fuel x
noncomputable def sp189 : Spec := ⟨189, .call, ty15, .bool, false, false, f189⟩
theorem c189 : Contract Tryz.prog sp189 := contract_at (l := specs189) (arg := ty15) (res := .bool) (multi := false) (own := false) (F := f189) mixed all_nil Tryz.func189 rfl hints189 fun x _ => ⟨fuel, e189 fuel x⟩
noncomputable def specs190 : List Spec := []
def hints190 : List (Nat × List Nat) := []
noncomputable def F190 (N : Nat) (x : (Int × Unit)) : Out Int :=
 bif (decide (0 ≤ (18 : Int))) then
  .ret ((IntKind.i64.wrap (x.1 * (78913 : Int))).fdiv (2 ^ (min (18 : Int).toNat IntKind.i64.bits)))
 else .fail
theorem e190 (N : Nat) (x : (Int × Unit)) : vfn Tryz.prog (phi specs190) hints190 N Tryz.f190 false false (.prod (.int .i64) .unit) (.int .i64) x = F190 N x := by
 kernel_rfl
noncomputable def f190 (x : (Int × Unit)) : Out Int := F190 fuel x
noncomputable def sp190 : Spec := ⟨190, .call, (.prod (.int .i64) .unit), (.int .i64), false, false, f190⟩
theorem c190 : Contract Tryz.prog sp190 := contract_at (l := specs190) (arg := (.prod (.int .i64) .unit)) (res := (.int .i64)) (multi := false) (own := false) (F := f190) mixed all_nil Tryz.func190 rfl hints190 fun x _ => ⟨fuel, e190 fuel x⟩
noncomputable def specs191 : List Spec := []
def hints191 : List (Nat × List Nat) := []
noncomputable def F191 (N : Nat) (x : (Int × Unit)) : Out Int :=
 match (decide (x.1 ≥ (4294967296 : Int))) with
 | true =>
  bif (decide (0 ≤ (32 : Int))) then
   match (decide ((x.1.fdiv (2 ^ (min (32 : Int).toNat IntKind.u64.bits))) ≥ (65536 : Int))) with
   | true =>
    bif (decide (0 ≤ (16 : Int))) then
     match (decide (((x.1.fdiv (2 ^ (min (32 : Int).toNat IntKind.u64.bits))).fdiv (2 ^ (min (16 : Int).toNat IntKind.u64.bits))) ≥ (256 : Int))) with
     | true =>
      bif (decide (0 ≤ (8 : Int))) then
       bif (inb (IntKind.u8.wrap (((x.1.fdiv (2 ^ (min (32 : Int).toNat IntKind.u64.bits))).fdiv (2 ^ (min (16 : Int).toNat IntKind.u64.bits))).fdiv (2 ^ (min (8 : Int).toNat IntKind.u64.bits)))) lenTab.length) then
        .ret (IntKind.i64.wrap ((56 : Int) + (IntKind.i64.wrap (byteAt lenTab (IntKind.u8.wrap (((x.1.fdiv (2 ^ (min (32 : Int).toNat IntKind.u64.bits))).fdiv (2 ^ (min (16 : Int).toNat IntKind.u64.bits))).fdiv (2 ^ (min (8 : Int).toNat IntKind.u64.bits))))))))
       else .fail
      else .fail
     | false =>
      bif (inb (IntKind.u8.wrap ((x.1.fdiv (2 ^ (min (32 : Int).toNat IntKind.u64.bits))).fdiv (2 ^ (min (16 : Int).toNat IntKind.u64.bits)))) lenTab.length) then
       .ret (IntKind.i64.wrap ((48 : Int) + (IntKind.i64.wrap (byteAt lenTab (IntKind.u8.wrap ((x.1.fdiv (2 ^ (min (32 : Int).toNat IntKind.u64.bits))).fdiv (2 ^ (min (16 : Int).toNat IntKind.u64.bits))))))))
      else .fail
    else .fail
   | false =>
    match (decide ((x.1.fdiv (2 ^ (min (32 : Int).toNat IntKind.u64.bits))) ≥ (256 : Int))) with
    | true =>
     bif (decide (0 ≤ (8 : Int))) then
      bif (inb (IntKind.u8.wrap ((x.1.fdiv (2 ^ (min (32 : Int).toNat IntKind.u64.bits))).fdiv (2 ^ (min (8 : Int).toNat IntKind.u64.bits)))) lenTab.length) then
       .ret (IntKind.i64.wrap ((40 : Int) + (IntKind.i64.wrap (byteAt lenTab (IntKind.u8.wrap ((x.1.fdiv (2 ^ (min (32 : Int).toNat IntKind.u64.bits))).fdiv (2 ^ (min (8 : Int).toNat IntKind.u64.bits))))))))
      else .fail
     else .fail
    | false =>
     bif (inb (IntKind.u8.wrap (x.1.fdiv (2 ^ (min (32 : Int).toNat IntKind.u64.bits)))) lenTab.length) then
      .ret (IntKind.i64.wrap ((32 : Int) + (IntKind.i64.wrap (byteAt lenTab (IntKind.u8.wrap (x.1.fdiv (2 ^ (min (32 : Int).toNat IntKind.u64.bits))))))))
     else .fail
  else .fail
 | false =>
  match (decide (x.1 ≥ (65536 : Int))) with
  | true =>
   bif (decide (0 ≤ (16 : Int))) then
    match (decide ((x.1.fdiv (2 ^ (min (16 : Int).toNat IntKind.u64.bits))) ≥ (256 : Int))) with
    | true =>
     bif (decide (0 ≤ (8 : Int))) then
      bif (inb (IntKind.u8.wrap ((x.1.fdiv (2 ^ (min (16 : Int).toNat IntKind.u64.bits))).fdiv (2 ^ (min (8 : Int).toNat IntKind.u64.bits)))) lenTab.length) then
       .ret (IntKind.i64.wrap ((24 : Int) + (IntKind.i64.wrap (byteAt lenTab (IntKind.u8.wrap ((x.1.fdiv (2 ^ (min (16 : Int).toNat IntKind.u64.bits))).fdiv (2 ^ (min (8 : Int).toNat IntKind.u64.bits))))))))
      else .fail
     else .fail
    | false =>
     bif (inb (IntKind.u8.wrap (x.1.fdiv (2 ^ (min (16 : Int).toNat IntKind.u64.bits)))) lenTab.length) then
      .ret (IntKind.i64.wrap ((16 : Int) + (IntKind.i64.wrap (byteAt lenTab (IntKind.u8.wrap (x.1.fdiv (2 ^ (min (16 : Int).toNat IntKind.u64.bits))))))))
     else .fail
   else .fail
  | false =>
   match (decide (x.1 ≥ (256 : Int))) with
   | true =>
    bif (decide (0 ≤ (8 : Int))) then
     bif (inb (IntKind.u8.wrap (x.1.fdiv (2 ^ (min (8 : Int).toNat IntKind.u64.bits)))) lenTab.length) then
      .ret (IntKind.i64.wrap ((8 : Int) + (IntKind.i64.wrap (byteAt lenTab (IntKind.u8.wrap (x.1.fdiv (2 ^ (min (8 : Int).toNat IntKind.u64.bits))))))))
     else .fail
    else .fail
   | false =>
    bif (inb (IntKind.u8.wrap x.1) lenTab.length) then
     .ret (IntKind.i64.wrap ((0 : Int) + (IntKind.i64.wrap (byteAt lenTab (IntKind.u8.wrap x.1)))))
    else .fail
theorem e191 (N : Nat) (x : (Int × Unit)) : vfn Tryz.prog (phi specs191) hints191 N Tryz.f191 false false (.prod (.int .u64) .unit) (.int .i64) x = F191 N x := by
 kernel_rfl
noncomputable def f191 (x : (Int × Unit)) : Out Int := F191 fuel x
noncomputable def sp191 : Spec := ⟨191, .call, (.prod (.int .u64) .unit), (.int .i64), false, false, f191⟩
theorem c191 : Contract Tryz.prog sp191 := contract_at (l := specs191) (arg := (.prod (.int .u64) .unit)) (res := (.int .i64)) (multi := false) (own := false) (F := f191) mixed all_nil Tryz.func191 rfl hints191 fun x _ => ⟨fuel, e191 fuel x⟩
noncomputable def specs192 : List Spec := []
def hints192 : List (Nat × List Nat) := []
noncomputable def F192 (N : Nat) (x : (Bool × Unit)) : Out Int :=
 match x.1 with
 | true =>
  .ret (1 : Int)
 | false =>
  .ret (0 : Int)
theorem e192 (N : Nat) (x : (Bool × Unit)) : vfn Tryz.prog (phi specs192) hints192 N Tryz.f192 false false (.prod .bool .unit) (.int .i64) x = F192 N x := by
 kernel_rfl
noncomputable def f192 (x : (Bool × Unit)) : Out Int := F192 fuel x
noncomputable def sp192 : Spec := ⟨192, .call, (.prod .bool .unit), (.int .i64), false, false, f192⟩
theorem c192 : Contract Tryz.prog sp192 := contract_at (l := specs192) (arg := (.prod .bool .unit)) (res := (.int .i64)) (multi := false) (own := false) (F := f192) mixed all_nil Tryz.func192 rfl hints192 fun x _ => ⟨fuel, e192 fuel x⟩
noncomputable def specs198 : List Spec := []
def hints198 : List (Nat × List Nat) := []
noncomputable def F198 (N : Nat) (x : (Int × Unit)) : Out Int :=
 .ret (IntKind.i64.wrap ((IntKind.i64.wrap (x.1 + (16 : Int))).tdiv (8 : Int)))
theorem e198 (N : Nat) (x : (Int × Unit)) : vfn Tryz.prog (phi specs198) hints198 N Tryz.f198 false false (.prod (.int .i64) .unit) (.int .i64) x = F198 N x := by
 kernel_rfl
noncomputable def f198 (x : (Int × Unit)) : Out Int := F198 fuel x
noncomputable def sp198 : Spec := ⟨198, .call, (.prod (.int .i64) .unit), (.int .i64), false, false, f198⟩
theorem c198 : Contract Tryz.prog sp198 := contract_at (l := specs198) (arg := (.prod (.int .i64) .unit)) (res := (.int .i64)) (multi := false) (own := false) (F := f198) mixed all_nil Tryz.func198 rfl hints198 fun x _ => ⟨fuel, e198 fuel x⟩
noncomputable def specs219 : List Spec := []
def hints219 : List (Nat × List Nat) := []
noncomputable def F219 (N : Nat) (x : ((((List (Int × (Int × Unit))) × (Int × (Int × Unit))) × Unit) × Unit)) : Out (List Int) :=
 .ret ([x.1.1.2.2.1, x.1.1.2.1] : List Int)
theorem e219 (N : Nat) (x : ((((List (Int × (Int × Unit))) × (Int × (Int × Unit))) × Unit) × Unit)) : vfn Tryz.prog (phi specs219) hints219 N Tryz.f219 false true ty41 (.list (.int .i64)) x = F219 N x := by
 kernel_rfl
noncomputable def f219 (x : ((((List (Int × (Int × Unit))) × (Int × (Int × Unit))) × Unit) × Unit)) : Out (List Int) := F219 fuel x
noncomputable def sp219 : Spec := ⟨219, .call, ty41, (.list (.int .i64)), false, true, f219⟩
theorem c219 : Contract Tryz.prog sp219 := contract_at (l := specs219) (arg := ty41) (res := (.list (.int .i64))) (multi := false) (own := true) (F := f219) mixed all_nil Tryz.func219 rfl hints219 fun x _ => ⟨fuel, e219 fuel x⟩
noncomputable def specs220 : List Spec := []
def hints220 : List (Nat × List Nat) := []
noncomputable def F220 (N : Nat) (x : ((Int × (Int × Unit)) × Unit)) : Out (List Int) :=
 .ret ([x.1.1, x.1.2.1] : List Int)
theorem e220 (N : Nat) (x : ((Int × (Int × Unit)) × Unit)) : vfn Tryz.prog (phi specs220) hints220 N Tryz.f220 false true ty11 (.list (.int .i64)) x = F220 N x := by
 kernel_rfl
noncomputable def f220 (x : ((Int × (Int × Unit)) × Unit)) : Out (List Int) := F220 fuel x
noncomputable def sp220 : Spec := ⟨220, .call, ty11, (.list (.int .i64)), false, true, f220⟩
theorem c220 : Contract Tryz.prog sp220 := contract_at (l := specs220) (arg := ty11) (res := (.list (.int .i64))) (multi := false) (own := true) (F := f220) mixed all_nil Tryz.func220 rfl hints220 fun x _ => ⟨fuel, e220 fuel x⟩
noncomputable def specs23 : List Spec := [sp72]
def hints23 : List (Nat × List Nat) := [(4, [1, 2, 5])]
noncomputable def L23_0 (N : Nat) (n_L23_0 : Nat) (x : (((List (Int × (Int × Unit))) × (Int × (Int × Unit))) × ((List Int) × Unit))) (i_1 : Int) : Out Bool :=
 vloop Tryz.prog (phi specs23) hints23 N Tryz.f23 false false .bool [.at 1, .at 1, .at 0, .at 1, .at 0] n_L23_0 [.und, .d (.list (.int .i64)) x.2.1, .box [.d ty2 x.1.1, .d (.int .i64) x.1.2.1, .d (.int .i64) x.1.2.2.1], .und, .und, .d (.int .i64) i_1, .und, .und, .und, .und, .und, .und, .und, .und, .und, .und, .und, .und, .und, .und, .und, .und, .und, .und, .und, .und, .und, .und, .und, .und, .und, .und, .und, .und, .und, .und]
theorem L23_0_succ (N : Nat) (n_L23_0 : Nat) (x : (((List (Int × (Int × Unit))) × (Int × (Int × Unit))) × ((List Int) × Unit))) (i_1 : Int) : L23_0 N  (n_L23_0 + 1) x i_1 =
  (
  match (decide (i_1 < (lenI x.2.1))) with
  | true =>
   bif (inb i_1 x.2.1.length) then
    bif (inb i_1 x.1.1.length) then
     bif (inb i_1 x.1.1.length) then
      match f72 ((List.getD x.2.1 i_1.toNat (0 : Int)), (((List.getD x.1.1 i_1.toNat ((0 : Int), ((0 : Int), ())))).1, (((List.getD x.1.1 i_1.toNat ((0 : Int), ((0 : Int), ())))).2.1, ()))) with
      | .ret r_2 =>
       match (!r_2) with
       | true =>
        .ret false
       | false =>
        L23_0 N n_L23_0 x (IntKind.i64.wrap (i_1 + (1 : Int)))
      | .pan p_3 =>
       .pan p_3
      | .fail => .fail
     else .fail
    else .fail
   else .fail
  | false =>
   .ret true : Out Bool) := by
 kernel_rfl
noncomputable def F23 (N : Nat) (x : (((List (Int × (Int × Unit))) × (Int × (Int × Unit))) × ((List Int) × Unit))) : Out Bool :=
 match ((lenI x.2.1) != (lenI x.1.1)) with
 | true =>
  .ret false
 | false =>
  L23_0 N N x (0 : Int)
theorem e23 (N : Nat) (x : (((List (Int × (Int × Unit))) × (Int × (Int × Unit))) × ((List Int) × Unit))) : vfn Tryz.prog (phi specs23) hints23 N Tryz.f23 false false ty0 .bool x = F23 N x := by
 kernel_rfl
noncomputable def f23 (x : (((List (Int × (Int × Unit))) × (Int × (Int × Unit))) × ((List Int) × Unit))) : Out Bool := F23 fuel x
noncomputable def sp23 : Spec := ⟨23, .call, ty0, .bool, false, false, f23⟩
theorem c23 : Contract Tryz.prog sp23 := contract_at (l := specs23) (arg := ty0) (res := .bool) (multi := false) (own := false) (F := f23) mixed (all_cons c72 all_nil) Tryz.func23 rfl hints23 fun x _ => ⟨fuel, e23 fuel x⟩
noncomputable def specs27 : List Spec := [sp83, sp84, sp85, sp127, sp128, sp129, sp130]
def hints27 : List (Nat × List Nat) := []
noncomputable def F27 (N : Nat) (x : (Int × (Int × (Int × Unit)))) : Out (Int × (Int × Unit)) :=
 match f83 (x.1, ((-1099511627776 : Int), ((1099511627776 : Int), ()))) with
 | .ret r_1 =>
  match (!r_1) with
  | true =>
   .ret ((0 : Int), ((2 : Int), ()))
  | false =>
   match f83 (x.2.1, ((1 : Int), ((1048576 : Int), ()))) with
   | .ret r_3 =>
    match (!r_3) with
    | true =>
     .ret ((0 : Int), ((2 : Int), ()))
    | false =>
     match f84 (x.2.2.1, ()) with
     | .ret r_5 =>
      match (!r_5) with
      | true =>
       .ret ((0 : Int), ((2 : Int), ()))
      | false =>
       bif x.2.2.1 == (0 : Int) then
        .fail
       else
       bif x.2.2.1 == (1 : Int) then
        match f127 ((x.2.1, ()), (x.1, ())) with
        | .ret r_7 =>
         .ret (r_7, ((0 : Int), ()))
        | .pan p_8 =>
         .pan p_8
        | .fail => .fail
       else
       bif x.2.2.1 == (2 : Int) then
        match f128 ((x.2.1, ()), (x.1, ())) with
        | .ret r_9 =>
         .ret (r_9, ((0 : Int), ()))
        | .pan p_10 =>
         .pan p_10
        | .fail => .fail
       else
       bif x.2.2.1 == (3 : Int) then
        match f129 ((x.2.1, ()), (x.1, ())) with
        | .ret r_11 =>
         .ret (r_11, ((0 : Int), ()))
        | .pan p_12 =>
         .pan p_12
        | .fail => .fail
       else
       bif x.2.2.1 == (4 : Int) then
        match f130 ((x.2.1, ()), (x.1, ())) with
        | .ret r_13 =>
         .ret (r_13, ((0 : Int), ()))
        | .pan p_14 =>
         .pan p_14
        | .fail => .fail
       else
       .fail
     | .pan p_6 =>
      .pan p_6
     | .fail => .fail
   | .pan p_4 =>
    .pan p_4
   | .fail => .fail
 | .pan p_2 =>
  .pan p_2
 | .fail => .fail
theorem e27 (N : Nat) (x : (Int × (Int × (Int × Unit)))) : vfn Tryz.prog (phi specs27) hints27 N Tryz.f27 true false ty5 ty3 x = F27 N x := by
 kernel_rfl
noncomputable def f27 (x : (Int × (Int × (Int × Unit)))) : Out (Int × (Int × Unit)) := F27 fuel x
noncomputable def sp27 : Spec := ⟨27, .call, ty5, ty3, true, false, f27⟩
theorem c27 : Contract Tryz.prog sp27 := contract_at (l := specs27) (arg := ty5) (res := ty3) (multi := true) (own := false) (F := f27) mixed (all_cons c83 (all_cons c84 (all_cons c85 (all_cons c127 (all_cons c128 (all_cons c129 (all_cons c130 all_nil))))))) Tryz.func27 rfl hints27 fun x _ => ⟨fuel, e27 fuel x⟩
noncomputable def specs28 : List Spec := [sp86, sp87, sp27]
def hints28 : List (Nat × List Nat) := [(5, [0, 1, 2, 8, 26, 27])]
noncomputable def L28_0 (N : Nat) (n_L28_0 : Nat) (x : (Int × (Int × (Int × Unit)))) (out_7 : (List Int)) (t27_8 : Int) : Out ((List Int) × (Int × Unit)) :=
 vloop Tryz.prog (phi specs28) hints28 N Tryz.f28 true false ty4 [.at 1, .at 1, .at 1, .at 0, .at 1, .at 0] n_L28_0 [.d (.int .i64) x.1, .d (.int .i64) x.2.1, .d (.int .i64) x.2.2.1, .und, .und, .und, .und, .und, .own (.int .i64) out_7 false, .und, .und, .und, .und, .und, .und, .und, .und, .und, .und, .und, .und, .und, .und, .und, .und, .und, .d (.int .i64) (IntKind.i64.wrap (x.2.1 + (1 : Int))), .d (.int .i64) t27_8, .und, .und, .und, .und, .und, .und, .und, .und, .und, .und, .und, .und, .und, .und, .und, .und, .und, .und, .und, .und]
theorem L28_0_succ (N : Nat) (n_L28_0 : Nat) (x : (Int × (Int × (Int × Unit)))) (out_7 : (List Int)) (t27_8 : Int) : L28_0 N  (n_L28_0 + 1) x out_7 t27_8 =
  (
  match (decide (t27_8 < (IntKind.i64.wrap (x.2.1 + (1 : Int))))) with
  | true =>
   match f27 ((IntKind.i64.wrap (x.1 * t27_8)), (x.2.1, (x.2.2.1, ()))) with
   | .ret r_9 =>
    match (r_9.2.1 != (0 : Int)) with
    | true =>
     .ret (([] : List Int), (r_9.2.1, ()))
    | false =>
     bif (fits out_7 ([r_9.1] : List Int)) then
      L28_0 N n_L28_0 x (out_7 ++ ([r_9.1] : List Int)) (IntKind.i64.wrap (t27_8 + (1 : Int)))
     else .fail
   | .pan p_10 =>
    .pan p_10
   | .fail => .fail
  | false =>
   .ret (out_7, ((0 : Int), ())) : Out ((List Int) × (Int × Unit))) := by
 kernel_rfl
noncomputable def F28 (N : Nat) (x : (Int × (Int × (Int × Unit)))) : Out ((List Int) × (Int × Unit)) :=
 match f86 (x.1, ((-19998 : Int), ((19998 : Int), ()))) with
 | .ret r_1 =>
  match (!r_1) with
  | true =>
   .ret (([] : List Int), ((2 : Int), ()))
  | false =>
   match f86 (x.2.1, ((1 : Int), ((13 : Int), ()))) with
   | .ret r_3 =>
    match (!r_3) with
    | true =>
     .ret (([] : List Int), ((2 : Int), ()))
    | false =>
     match f87 (x.2.2.1, ()) with
     | .ret r_5 =>
      match (!r_5) with
      | true =>
       .ret (([] : List Int), ((2 : Int), ()))
      | false =>
       L28_0 N N x ([] : List Int) (0 : Int)
     | .pan p_6 =>
      .pan p_6
     | .fail => .fail
   | .pan p_4 =>
    .pan p_4
   | .fail => .fail
 | .pan p_2 =>
  .pan p_2
 | .fail => .fail
theorem e28 (N : Nat) (x : (Int × (Int × (Int × Unit)))) : vfn Tryz.prog (phi specs28) hints28 N Tryz.f28 true false ty5 ty4 x = F28 N x := by
 kernel_rfl
noncomputable def f28 (x : (Int × (Int × (Int × Unit)))) : Out ((List Int) × (Int × Unit)) := F28 fuel x
noncomputable def sp28 : Spec := ⟨28, .call, ty5, ty4, true, false, f28⟩
theorem c28 : Contract Tryz.prog sp28 := contract_at (l := specs28) (arg := ty5) (res := ty4) (multi := true) (own := false) (F := f28) mixed (all_cons c86 (all_cons c87 (all_cons c27 all_nil))) Tryz.func28 rfl hints28 fun x _ => ⟨fuel, e28 fuel x⟩
noncomputable def specs29 : List Spec := [sp72]
def hints29 : List (Nat × List Nat) := []
noncomputable def F29 (N : Nat) (x : (Int × (Int × Unit))) : Out Bool :=
 match f72 (x.1, ((-19998 : Int), ((19998 : Int), ()))) with
 | .ret r_1 =>
  match r_1 with
  | true =>
   match f72 (x.2.1, ((1 : Int), ((13 : Int), ()))) with
   | .ret r_3 =>
    .ret r_3
   | .pan p_4 =>
    .pan p_4
   | .fail => .fail
  | false =>
   .ret false
 | .pan p_2 =>
  .pan p_2
 | .fail => .fail
theorem e29 (N : Nat) (x : (Int × (Int × Unit))) : vfn Tryz.prog (phi specs29) hints29 N Tryz.f29 false false ty3 .bool x = F29 N x := by
 kernel_rfl
noncomputable def f29 (x : (Int × (Int × Unit))) : Out Bool := F29 fuel x
noncomputable def sp29 : Spec := ⟨29, .call, ty3, .bool, false, false, f29⟩
theorem c29 : Contract Tryz.prog sp29 := contract_at (l := specs29) (arg := ty3) (res := .bool) (multi := false) (own := false) (F := f29) mixed (all_cons c72 all_nil) Tryz.func29 rfl hints29 fun x _ => ⟨fuel, e29 fuel x⟩
noncomputable def specs32 : List Spec := [sp88]
def hints32 : List (Nat × List Nat) := [(3, [0, 1, 2, 7, 8])]
noncomputable def L32_0 (N : Nat) (n_L32_0 : Nat) (x : (Int × (Int × (Int × Unit)))) (out_1 : (List Int)) (i_2 : Int) : Out (List Int) :=
 vloop Tryz.prog (phi specs32) hints32 N Tryz.f32 false true (.list (.int .i64)) [.at 1, .at 1, .at 0, .at 1, .at 0] n_L32_0 [.d (.int .i64) x.1, .d (.int .i64) x.2.1, .d (.int .i64) x.2.2.1, .und, .und, .und, .und, .own (.int .i64) out_1 false, .d (.int .i64) i_2, .und, .und, .und, .und, .und, .und, .und, .und, .und, .und, .und, .und, .und, .und, .und]
theorem L32_0_succ (N : Nat) (n_L32_0 : Nat) (x : (Int × (Int × (Int × Unit)))) (out_1 : (List Int)) (i_2 : Int) : L32_0 N  (n_L32_0 + 1) x out_1 i_2 =
  (
  match (decide (i_2 ≤ x.2.1)) with
  | true =>
   match f88 ((IntKind.i64.wrap (x.1 * i_2)), (x.2.1, (x.2.2.1, ()))) with
   | .ret r_3 =>
    bif (fits out_1 ([r_3] : List Int)) then
     L32_0 N n_L32_0 x (out_1 ++ ([r_3] : List Int)) (IntKind.i64.wrap (i_2 + (1 : Int)))
    else .fail
   | .pan p_4 =>
    .pan p_4
   | .fail => .fail
  | false =>
   .ret out_1 : Out (List Int)) := by
 kernel_rfl
noncomputable def F32 (N : Nat) (x : (Int × (Int × (Int × Unit)))) : Out (List Int) :=
 L32_0 N N x ([] : List Int) (0 : Int)
theorem e32 (N : Nat) (x : (Int × (Int × (Int × Unit)))) : vfn Tryz.prog (phi specs32) hints32 N Tryz.f32 false true ty5 (.list (.int .i64)) x = F32 N x := by
 kernel_rfl
noncomputable def f32 (x : (Int × (Int × (Int × Unit)))) : Out (List Int) := F32 fuel x
noncomputable def sp32 : Spec := ⟨32, .call, ty5, (.list (.int .i64)), false, true, f32⟩
theorem c32 : Contract Tryz.prog sp32 := contract_at (l := specs32) (arg := ty5) (res := (.list (.int .i64))) (multi := false) (own := true) (F := f32) mixed (all_cons c88 all_nil) Tryz.func32 rfl hints32 fun x _ => ⟨fuel, e32 fuel x⟩
noncomputable def specs35 : List Spec := [sp72]
def hints35 : List (Nat × List Nat) := []
noncomputable def F35 (N : Nat) (x : (((List (Int × (Int × Unit))) × (Int × (Int × Unit))) × (Int × Unit))) : Out Bool :=
 match f72 (x.2.1, ((0 : Int), ((IntKind.i64.wrap ((lenI x.1.1) - (1 : Int))), ()))) with
 | .ret r_1 =>
  .ret r_1
 | .pan p_2 =>
  .pan p_2
 | .fail => .fail
theorem e35 (N : Nat) (x : (((List (Int × (Int × Unit))) × (Int × (Int × Unit))) × (Int × Unit))) : vfn Tryz.prog (phi specs35) hints35 N Tryz.f35 false false ty6 .bool x = F35 N x := by
 kernel_rfl
noncomputable def f35 (x : (((List (Int × (Int × Unit))) × (Int × (Int × Unit))) × (Int × Unit))) : Out Bool := F35 fuel x
noncomputable def sp35 : Spec := ⟨35, .call, ty6, .bool, false, false, f35⟩
theorem c35 : Contract Tryz.prog sp35 := contract_at (l := specs35) (arg := ty6) (res := .bool) (multi := false) (own := false) (F := f35) mixed (all_cons c72 all_nil) Tryz.func35 rfl hints35 fun x _ => ⟨fuel, e35 fuel x⟩
noncomputable def specs46 : List Spec := [sp72]
def hints46 : List (Nat × List Nat) := []
noncomputable def F46 (N : Nat) (x : (Int × Unit)) : Out Bool :=
 match f72 (x.1, ((0 : Int), ((100 : Int), ()))) with
 | .ret r_1 =>
  .ret r_1
 | .pan p_2 =>
  .pan p_2
 | .fail => .fail
theorem e46 (N : Nat) (x : (Int × Unit)) : vfn Tryz.prog (phi specs46) hints46 N Tryz.f46 false false (.prod (.int .i64) .unit) .bool x = F46 N x := by
 kernel_rfl
noncomputable def f46 (x : (Int × Unit)) : Out Bool := F46 fuel x
noncomputable def sp46 : Spec := ⟨46, .call, (.prod (.int .i64) .unit), .bool, false, false, f46⟩
theorem c46 : Contract Tryz.prog sp46 := contract_at (l := specs46) (arg := (.prod (.int .i64) .unit)) (res := .bool) (multi := false) (own := false) (F := f46) mixed (all_cons c72 all_nil) Tryz.func46 rfl hints46 fun x _ => ⟨fuel, e46 fuel x⟩
noncomputable def specs51 : List Spec := [sp72]
def hints51 : List (Nat × List Nat) := []
noncomputable def F51 (N : Nat) (x : (((List (Int × (Int × Unit))) × (Int × (Int × Unit))) × (Int × Unit))) : Out Bool :=
 match f72 (x.2.1, ((1 : Int), ((IntKind.i64.wrap ((lenI x.1.1) - (1 : Int))), ()))) with
 | .ret r_1 =>
  .ret r_1
 | .pan p_2 =>
  .pan p_2
 | .fail => .fail
theorem e51 (N : Nat) (x : (((List (Int × (Int × Unit))) × (Int × (Int × Unit))) × (Int × Unit))) : vfn Tryz.prog (phi specs51) hints51 N Tryz.f51 false false ty6 .bool x = F51 N x := by
 kernel_rfl
noncomputable def f51 (x : (((List (Int × (Int × Unit))) × (Int × (Int × Unit))) × (Int × Unit))) : Out Bool := F51 fuel x
noncomputable def sp51 : Spec := ⟨51, .call, ty6, .bool, false, false, f51⟩
theorem c51 : Contract Tryz.prog sp51 := contract_at (l := specs51) (arg := ty6) (res := .bool) (multi := false) (own := false) (F := f51) mixed (all_cons c72 all_nil) Tryz.func51 rfl hints51 fun x _ => ⟨fuel, e51 fuel x⟩
noncomputable def specs70 : List Spec := [sp120]
def hints70 : List (Nat × List Nat) := []
noncomputable def F70 (N : Nat) (x : (((List (Int × (Int × Unit))) × (Int × (Int × Unit))) × (((List (Int × (Int × Unit))) × (Int × (Int × Unit))) × Unit))) : Out Bool :=
 match (x.1.2.1 == x.2.1.2.1) with
 | true =>
  match (x.1.2.2.1 == x.2.1.2.2.1) with
  | true =>
   match f120 (x.1.1, (x.2.1.1, ())) with
   | .ret r_1 =>
    .ret r_1
   | .pan p_2 =>
    .pan p_2
   | .fail => .fail
  | false =>
   .ret false
 | false =>
  .ret false
theorem e70 (N : Nat) (x : (((List (Int × (Int × Unit))) × (Int × (Int × Unit))) × (((List (Int × (Int × Unit))) × (Int × (Int × Unit))) × Unit))) : vfn Tryz.prog (phi specs70) hints70 N Tryz.f70 false false ty29 .bool x = F70 N x := by
 kernel_rfl
noncomputable def f70 (x : (((List (Int × (Int × Unit))) × (Int × (Int × Unit))) × (((List (Int × (Int × Unit))) × (Int × (Int × Unit))) × Unit))) : Out Bool := F70 fuel x
noncomputable def sp70 : Spec := ⟨70, .call, ty29, .bool, false, false, f70⟩
theorem c70 : Contract Tryz.prog sp70 := contract_at (l := specs70) (arg := ty29) (res := .bool) (multi := false) (own := false) (F := f70) mixed (all_cons c120 all_nil) Tryz.func70 rfl hints70 fun x _ => ⟨fuel, e70 fuel x⟩
noncomputable def specs78 : List Spec := [sp86]
def hints78 : List (Nat × List Nat) := [(2, [1, 2, 7, 8, 9])]
noncomputable def L78_0 (N : Nat) (n_L78_0 : Nat) (x : (((List (Int × (Int × Unit))) × (Int × (Int × Unit))) × ((List Int) × Unit))) (t9_1 : Int) : Out Bool :=
 vloop Tryz.prog (phi specs78) hints78 N Tryz.f78 false false .bool [.at 1, .at 0, .at 1, .at 0] n_L78_0 [.und, .d (.list (.int .i64)) x.2.1, .box [.d ty2 x.1.1, .d (.int .i64) x.1.2.1, .d (.int .i64) x.1.2.2.1], .und, .und, .und, .und, .d (.list (.int .i64)) x.2.1, .d (.int .i64) (lenI x.2.1), .d (.int .i64) t9_1, .und, .und, .und, .und, .und, .und, .und, .und, .und, .und, .und, .und, .und, .und, .und, .und, .und, .und, .und, .und, .und, .und, .und, .und, .und, .und, .und, .und, .und, .und, .und, .und, .und, .und, .und, .und, .und, .und, .und, .und, .und, .und, .und, .und, .und, .und, .und]
theorem L78_0_succ (N : Nat) (n_L78_0 : Nat) (x : (((List (Int × (Int × Unit))) × (Int × (Int × Unit))) × ((List Int) × Unit))) (t9_1 : Int) : L78_0 N  (n_L78_0 + 1) x t9_1 =
  (
  match (decide (t9_1 < (lenI x.2.1))) with
  | true =>
   bif (inb t9_1 x.2.1.length) then
    match f86 ((List.getD x.2.1 t9_1.toNat (0 : Int)), ((0 : Int), ((IntKind.i64.wrap ((lenI x.1.1) - (1 : Int))), ()))) with
    | .ret r_2 =>
     match (!r_2) with
     | true =>
      .ret false
     | false =>
      match (decide (t9_1 > (0 : Int))) with
      | true =>
       bif (inb (IntKind.i64.wrap (t9_1 - (1 : Int))) x.2.1.length) then
        match (decide ((List.getD x.2.1 t9_1.toNat (0 : Int)) ≤ (List.getD x.2.1 (IntKind.i64.wrap (t9_1 - (1 : Int))).toNat (0 : Int)))) with
        | true =>
         .ret false
        | false =>
         L78_0 N n_L78_0 x (IntKind.i64.wrap (t9_1 + (1 : Int)))
       else .fail
      | false =>
       L78_0 N n_L78_0 x (IntKind.i64.wrap (t9_1 + (1 : Int)))
    | .pan p_3 =>
     .pan p_3
    | .fail => .fail
   else .fail
  | false =>
   match (decide ((lenI x.2.1) ≥ (2 : Int))) with
   | true =>
    bif (inb (0 : Int) x.2.1.length) then
     match ((List.getD x.2.1 (0 : Int).toNat (0 : Int)) == (0 : Int)) with
     | true =>
      bif (inb (IntKind.i64.wrap ((lenI x.2.1) - (1 : Int))) x.2.1.length) then
       .ret ((List.getD x.2.1 (IntKind.i64.wrap ((lenI x.2.1) - (1 : Int))).toNat (0 : Int)) == (IntKind.i64.wrap ((lenI x.1.1) - (1 : Int))))
      else .fail
     | false =>
      .ret false
    else .fail
   | false =>
    .ret false : Out Bool) := by
 kernel_rfl
noncomputable def F78 (N : Nat) (x : (((List (Int × (Int × Unit))) × (Int × (Int × Unit))) × ((List Int) × Unit))) : Out Bool :=
 L78_0 N N x (0 : Int)
theorem e78 (N : Nat) (x : (((List (Int × (Int × Unit))) × (Int × (Int × Unit))) × ((List Int) × Unit))) : vfn Tryz.prog (phi specs78) hints78 N Tryz.f78 false false ty0 .bool x = F78 N x := by
 kernel_rfl
noncomputable def f78 (x : (((List (Int × (Int × Unit))) × (Int × (Int × Unit))) × ((List Int) × Unit))) : Out Bool := F78 fuel x
noncomputable def sp78 : Spec := ⟨78, .call, ty0, .bool, false, false, f78⟩
theorem c78 : Contract Tryz.prog sp78 := contract_at (l := specs78) (arg := ty0) (res := .bool) (multi := false) (own := false) (F := f78) mixed (all_cons c86 all_nil) Tryz.func78 rfl hints78 fun x _ => ⟨fuel, e78 fuel x⟩
noncomputable def specs79 : List Spec := [sp86]
def hints79 : List (Nat × List Nat) := [(4, [2, 13, 14, 15])]
noncomputable def L79_0 (N : Nat) (n_L79_0 : Nat) (x : (((List (Int × (Int × Unit))) × (Int × (Int × Unit))) × ((List Int) × Unit))) (t15_1 : Int) : Out Bool :=
 vloop Tryz.prog (phi specs79) hints79 N Tryz.f79 false false .bool [.at 1, .at 1, .at 0, .at 1, .at 0] n_L79_0 [.und, .und, .box [.d ty2 x.1.1, .d (.int .i64) x.1.2.1, .d (.int .i64) x.1.2.2.1], .und, .und, .und, .und, .und, .und, .und, .und, .und, .und, .d (.list (.int .i64)) x.2.1, .d (.int .i64) (lenI x.2.1), .d (.int .i64) t15_1, .und, .und, .und, .und, .und, .und, .und, .und, .und, .und, .und, .und, .und, .und, .und, .und, .und, .und, .und, .und]
theorem L79_0_succ (N : Nat) (n_L79_0 : Nat) (x : (((List (Int × (Int × Unit))) × (Int × (Int × Unit))) × ((List Int) × Unit))) (t15_1 : Int) : L79_0 N  (n_L79_0 + 1) x t15_1 =
  (
  match (decide (t15_1 < (lenI x.2.1))) with
  | true =>
   bif (inb t15_1 x.2.1.length) then
    bif (inb t15_1 x.1.1.length) then
     bif (inb t15_1 x.1.1.length) then
      match f86 ((List.getD x.2.1 t15_1.toNat (0 : Int)), (((List.getD x.1.1 t15_1.toNat ((0 : Int), ((0 : Int), ())))).1, (((List.getD x.1.1 t15_1.toNat ((0 : Int), ((0 : Int), ())))).2.1, ()))) with
      | .ret r_2 =>
       match (!r_2) with
       | true =>
        .ret false
       | false =>
        L79_0 N n_L79_0 x (IntKind.i64.wrap (t15_1 + (1 : Int)))
      | .pan p_3 =>
       .pan p_3
      | .fail => .fail
     else .fail
    else .fail
   else .fail
  | false =>
   .ret true : Out Bool) := by
 kernel_rfl
noncomputable def F79 (N : Nat) (x : (((List (Int × (Int × Unit))) × (Int × (Int × Unit))) × ((List Int) × Unit))) : Out Bool :=
 match ((lenI x.2.1) != (lenI x.1.1)) with
 | true =>
  .ret false
 | false =>
  L79_0 N N x (0 : Int)
theorem e79 (N : Nat) (x : (((List (Int × (Int × Unit))) × (Int × (Int × Unit))) × ((List Int) × Unit))) : vfn Tryz.prog (phi specs79) hints79 N Tryz.f79 false false ty0 .bool x = F79 N x := by
 kernel_rfl
noncomputable def f79 (x : (((List (Int × (Int × Unit))) × (Int × (Int × Unit))) × ((List Int) × Unit))) : Out Bool := F79 fuel x
noncomputable def sp79 : Spec := ⟨79, .call, ty0, .bool, false, false, f79⟩
theorem c79 : Contract Tryz.prog sp79 := contract_at (l := specs79) (arg := ty0) (res := .bool) (multi := false) (own := false) (F := f79) mixed (all_cons c86 all_nil) Tryz.func79 rfl hints79 fun x _ => ⟨fuel, e79 fuel x⟩
noncomputable def specs111a : List Spec := [sp112]
def hints111a : List (Nat × List Nat) := [(3, [0, 1, 4, 6, 9, 10, 11])]
noncomputable def L111a_0 (N : Nat) (n_L111a_0 : Nat) (x : ((List (Int × (Int × Unit))) × (Value × Unit))) (t4_1 : Int) (t4_2 : Int) (out_3 : Int) (out_4 : Int) (t11_5 : Int) : Out ((Int × (Int × Unit)) × (Bool × Unit)) :=
 vloop Tryz.prog (phi specs111a) hints111a N Tryz.f111 true false ty22 [.at 1, .at 1, .at 0, .at 1, .at 0] n_L111a_0 [.d ty2 x.1, .d .raw (Value.func (.func 112) #[] #[]), .und, .und, .box [.d (.int .i64) t4_1, .d (.int .i64) t4_2], .und, .box [.d (.int .i64) out_3, .d (.int .i64) out_4], .und, .und, .d ty2 x.1, .d (.int .i64) (lenI x.1), .d (.int .i64) t11_5, .und, .und, .und, .und, .und, .und, .und, .und, .und, .und, .und, .und, .und, .und, .und, .und, .und, .und]
theorem L111a_0_succ (N : Nat) (n_L111a_0 : Nat) (x : ((List (Int × (Int × Unit))) × (Value × Unit))) (t4_1 : Int) (t4_2 : Int) (out_3 : Int) (out_4 : Int) (t11_5 : Int) : L111a_0 N  (n_L111a_0 + 1) x t4_1 t4_2 out_3 out_4 t11_5 =
  (
  match (decide (t11_5 < (lenI x.1))) with
  | true =>
   bif (inb t11_5 x.1.length) then
    match (t11_5 == (0 : Int)) with
    | true =>
     L111a_0 N n_L111a_0 x t4_1 t4_2 ((List.getD x.1 t11_5.toNat ((0 : Int), ((0 : Int), ())))).1 ((List.getD x.1 t11_5.toNat ((0 : Int), ((0 : Int), ())))).2.1 (IntKind.i64.wrap (t11_5 + (1 : Int)))
    | false =>
     match (decide (((List.getD x.1 t11_5.toNat ((0 : Int), ((0 : Int), ())))).2.1 < out_4)) with
     | true =>
      L111a_0 N n_L111a_0 x t4_1 t4_2 ((List.getD x.1 t11_5.toNat ((0 : Int), ((0 : Int), ())))).1 ((List.getD x.1 t11_5.toNat ((0 : Int), ((0 : Int), ())))).2.1 (IntKind.i64.wrap (t11_5 + (1 : Int)))
     | false =>
      L111a_0 N n_L111a_0 x t4_1 t4_2 out_3 out_4 (IntKind.i64.wrap (t11_5 + (1 : Int)))
   else .fail
  | false =>
   .ret ((out_3, (out_4, ())), ((decide ((lenI x.1) > (0 : Int))), ())) : Out ((Int × (Int × Unit)) × (Bool × Unit))) := by
 kernel_rfl
noncomputable def F111a (N : Nat) (x : ((List (Int × (Int × Unit))) × (Value × Unit))) : Out ((Int × (Int × Unit)) × (Bool × Unit)) :=
 L111a_0 N N x (0 : Int) (0 : Int) (0 : Int) (0 : Int) (0 : Int)
theorem e111a (N : Nat) (x : ((List (Int × (Int × Unit))) × (Value × Unit))) : vfn Tryz.prog (phi specs111a) hints111a N Tryz.f111 true false ty12 ty22 (x.1, (Value.func (.func 112) #[] #[]), ()) = F111a N x := by
 kernel_rfl
@[irreducible] noncomputable def f111a (x : ((List (Int × (Int × Unit))) × (Value × Unit))) : Out ((Int × (Int × Unit)) × (Bool × Unit)) := vfn Tryz.prog (phi specs111a) hints111a fuel Tryz.f111 true false ty12 ty22 x
noncomputable def sp111a : Spec := ⟨111, .call, ty12, ty22, true, false, f111a⟩
theorem q111a (x : ((List (Int × (Int × Unit))) × (Value × Unit))) : vfn Tryz.prog (phi specs111a) hints111a fuel Tryz.f111 true false ty12 ty22 x = f111a x := by kernel_rfl
theorem c111a : Contract Tryz.prog sp111a := contract_at (l := specs111a) (arg := ty12) (res := ty22) (multi := true) (own := false) (F := f111a) mixed (all_cons c112 all_nil) Tryz.func111 rfl hints111a fun x _ => ⟨fuel, q111a x⟩
noncomputable def specs113 : List Spec := [sp134, sp147]
def hints113 : List (Nat × List Nat) := []
noncomputable def F113 (N : Nat) (x : (((List (Int × (Int × Unit))) × (Int × (Int × Unit))) × ((List Int) × (Int × ((List Int) × Unit))))) : Out Int :=
 match f134 (x.2.1, (x.2.2.1, ())) with
 | .ret r_1 =>
  bif (inb r_1.1 x.2.2.2.1.length) then
   bif (inb r_1.2.1 x.2.2.2.1.length) then
    match f147 (x.1.2.1, (r_1.1, (r_1.2.1, (x.2.2.1, ((List.getD x.2.2.2.1 r_1.1.toNat (0 : Int)), ((List.getD x.2.2.2.1 r_1.2.1.toNat (0 : Int)), ())))))) with
    | .ret r_3 =>
     .ret r_3
    | .pan p_4 =>
     .pan p_4
    | .fail => .fail
   else .fail
  else .fail
 | .pan p_2 =>
  .pan p_2
 | .fail => .fail
theorem e113 (N : Nat) (x : (((List (Int × (Int × Unit))) × (Int × (Int × Unit))) × ((List Int) × (Int × ((List Int) × Unit))))) : vfn Tryz.prog (phi specs113) hints113 N Tryz.f113 false false ty42 (.int .i64) x = F113 N x := by
 kernel_rfl
noncomputable def f113 (x : (((List (Int × (Int × Unit))) × (Int × (Int × Unit))) × ((List Int) × (Int × ((List Int) × Unit))))) : Out Int := F113 fuel x
noncomputable def sp113 : Spec := ⟨113, .call, ty42, (.int .i64), false, false, f113⟩
theorem c113 : Contract Tryz.prog sp113 := contract_at (l := specs113) (arg := ty42) (res := (.int .i64)) (multi := false) (own := false) (F := f113) mixed (all_cons c134 (all_cons c147 all_nil)) Tryz.func113 rfl hints113 fun x _ => ⟨fuel, e113 fuel x⟩
end Go.V
