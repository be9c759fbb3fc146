/- A part of the proof of a law of the copies. -/
import Derived.Test.YtmkbnifehdhbbabGreatDoorDBd
set_option linter.all false
noncomputable section
namespace Go.V
open Go.Proofs
def specs87:List Spec:=[sp60]
def hints87:List (Nat×List Nat):=[]
def F87 (N:Nat) (x:(Int×(((Int×((List (Int×((List Int)×Unit)))×Unit))×((List (List Int))×Unit))×(Int×Unit)))):Out Bool :=
 match f60 (x.2.1,(x.2.2.1,(x.1,()))) with
 | .ret r_1 =>
  .ret (decide (r_1 > (0:Int)))
 | .pan p_2 =>
  .pan p_2
 | .fail=>.fail
theorem e87 (N:Nat) (x:(Int×(((Int×((List (Int×((List Int)×Unit)))×Unit))×((List (List Int))×Unit))×(Int×Unit)))):vfn Tryz.prog (phi specs87) hints87 N Tryz.f58 false false (.prod (.int .i64) (.prod (.ptr (.prod (.prod (.int .i64) (.prod (.list (.prod (.int .i64) (.prod (.list (.int .i64)) .unit))) .unit)) (.prod (.list (.list (.int .i64))) .unit))) (.prod (.ptr (.int .i64)) .unit))) .bool x=F87 N x:=by
 kernel_rfl
def f87 (x:(Int×(((Int×((List (Int×((List Int)×Unit)))×Unit))×((List (List Int))×Unit))×(Int×Unit)))):Out Bool:=F87 fuel x
def sp87:Spec:=⟨58,.call,(.prod (.int .i64) (.prod (.ptr (.prod (.prod (.int .i64) (.prod (.list (.prod (.int .i64) (.prod (.list (.int .i64)) .unit))) .unit)) (.prod (.list (.list (.int .i64))) .unit))) (.prod (.ptr (.int .i64)) .unit))),.bool,false,false,f87⟩
theorem c87:Contract Tryz.prog sp87:=contract_at (l:=specs87) (arg:=(.prod (.int .i64) (.prod (.ptr (.prod (.prod (.int .i64) (.prod (.list (.prod (.int .i64) (.prod (.list (.int .i64)) .unit))) .unit)) (.prod (.list (.list (.int .i64))) .unit))) (.prod (.ptr (.int .i64)) .unit)))) (res:=.bool) (multi:=false) (own:=false) (F:=f87) mixed (all_cons c60 all_nil) Tryz.func58 rfl hints87 fun x _=>⟨fuel,e87 fuel x⟩
def specs111b:List Spec:=[sp87]
def hints111b:List (Nat×List Nat):=[(2,[0,1,7,8])]
def L111b_0 (N:Nat) (n_L111b_0:Nat) (x:((List Int)×((Unit×(((Int×((List (Int×((List Int)×Unit)))×Unit))×((List (List Int))×Unit))×(Int×Unit)))×Unit))) (t8_1:Int):Out Int :=
 vloop Tryz.prog (phi specs111b) hints111b N Tryz.f97 false false (.int .i64) [.at 1,.at 0,.at 1,.at 0] n_L111b_0 [.d (.list (.int .i64)) x.1,.d (.clo 58 .unit (.prod (.ptr (.prod (.prod (.int .i64) (.prod (.list (.prod (.int .i64) (.prod (.list (.int .i64)) .unit))) .unit)) (.prod (.list (.list (.int .i64))) .unit))) (.prod (.ptr (.int .i64)) .unit))) x.2.1,.und,.und,.und,.und,.und,.d (.int .i64) (lenI x.1),.d (.int .i64) t8_1,.und,.und,.und,.und,.und,.und,.und,.und,.und,.und]
theorem L111b_0_succ (N:Nat) (n_L111b_0:Nat) (x:((List Int)×((Unit×(((Int×((List (Int×((List Int)×Unit)))×Unit))×((List (List Int))×Unit))×(Int×Unit)))×Unit))) (t8_1:Int):L111b_0 N  (n_L111b_0+1) x t8_1 =
 (
 match (decide (t8_1<(lenI x.1))) with
 | true =>
  bif (inb t8_1 x.1.length) then
   match f87 ((List.getD x.1 t8_1.toNat (0:Int)),(x.2.1.2.1,(x.2.1.2.2.1,()))) with
   | .ret r_2 =>
    match r_2 with
    | true =>
     .ret t8_1
    | false =>
     L111b_0 N n_L111b_0 x (IntKind.i64.wrap (t8_1+(1:Int)))
   | .pan p_3 =>
    .pan p_3
   | .fail=>.fail
  else .fail
 | false =>
  .ret (-1:Int):Out Int):=by
 kernel_rfl
def F111b (N:Nat) (x:((List Int)×((Unit×(((Int×((List (Int×((List Int)×Unit)))×Unit))×((List (List Int))×Unit))×(Int×Unit)))×Unit))):Out Int :=
 L111b_0 N N x (0:Int)
theorem e111b (N:Nat) (x:((List Int)×((Unit×(((Int×((List (Int×((List Int)×Unit)))×Unit))×((List (List Int))×Unit))×(Int×Unit)))×Unit))):vfn Tryz.prog (phi specs111b) hints111b N Tryz.f97 false false (.prod (.list (.int .i64)) (.prod (.clo 58 .unit (.prod (.ptr (.prod (.prod (.int .i64) (.prod (.list (.prod (.int .i64) (.prod (.list (.int .i64)) .unit))) .unit)) (.prod (.list (.list (.int .i64))) .unit))) (.prod (.ptr (.int .i64)) .unit))) .unit)) (.int .i64) x=F111b N x:=by
 kernel_rfl
def f111b (x:((List Int)×((Unit×(((Int×((List (Int×((List Int)×Unit)))×Unit))×((List (List Int))×Unit))×(Int×Unit)))×Unit))):Out Int:=F111b fuel x
def sp111b:Spec:=⟨97,.call,(.prod (.list (.int .i64)) (.prod (.clo 58 .unit (.prod (.ptr (.prod (.prod (.int .i64) (.prod (.list (.prod (.int .i64) (.prod (.list (.int .i64)) .unit))) .unit)) (.prod (.list (.list (.int .i64))) .unit))) (.prod (.ptr (.int .i64)) .unit))) .unit)),(.int .i64),false,false,f111b⟩
theorem c111b:Contract Tryz.prog sp111b:=contract_at (l:=specs111b) (arg:=(.prod (.list (.int .i64)) (.prod (.clo 58 .unit (.prod (.ptr (.prod (.prod (.int .i64) (.prod (.list (.prod (.int .i64) (.prod (.list (.int .i64)) .unit))) .unit)) (.prod (.list (.list (.int .i64))) .unit))) (.prod (.ptr (.int .i64)) .unit))) .unit))) (res:=(.int .i64)) (multi:=false) (own:=false) (F:=f111b) mixed (all_cons c87 all_nil) Tryz.func97 rfl hints111b fun x _=>⟨fuel,e111b fuel x⟩
def specs86b:List Spec:=[sp111b]
def hints86b:List (Nat×List Nat):=[]
def F86b (N:Nat) (x:((List Int)×((Unit×(((Int×((List (Int×((List Int)×Unit)))×Unit))×((List (List Int))×Unit))×(Int×Unit)))×Unit))):Out Bool :=
 match f111b (x.1,(x.2.1,())) with
 | .ret r_1 =>
  .ret (decide (r_1 >= (0:Int)))
 | .pan p_2 =>
  .pan p_2
 | .fail=>.fail
theorem e86b (N:Nat) (x:((List Int)×((Unit×(((Int×((List (Int×((List Int)×Unit)))×Unit))×((List (List Int))×Unit))×(Int×Unit)))×Unit))):vfn Tryz.prog (phi specs86b) hints86b N Tryz.f57 false false (.prod (.list (.int .i64)) (.prod (.clo 58 .unit (.prod (.ptr (.prod (.prod (.int .i64) (.prod (.list (.prod (.int .i64) (.prod (.list (.int .i64)) .unit))) .unit)) (.prod (.list (.list (.int .i64))) .unit))) (.prod (.ptr (.int .i64)) .unit))) .unit)) .bool x=F86b N x:=by
 kernel_rfl
def f86b (x:((List Int)×((Unit×(((Int×((List (Int×((List Int)×Unit)))×Unit))×((List (List Int))×Unit))×(Int×Unit)))×Unit))):Out Bool:=F86b fuel x
def sp86b:Spec:=⟨57,.call,(.prod (.list (.int .i64)) (.prod (.clo 58 .unit (.prod (.ptr (.prod (.prod (.int .i64) (.prod (.list (.prod (.int .i64) (.prod (.list (.int .i64)) .unit))) .unit)) (.prod (.list (.list (.int .i64))) .unit))) (.prod (.ptr (.int .i64)) .unit))) .unit)),.bool,false,false,f86b⟩
theorem c86b:Contract Tryz.prog sp86b:=contract_at (l:=specs86b) (arg:=(.prod (.list (.int .i64)) (.prod (.clo 58 .unit (.prod (.ptr (.prod (.prod (.int .i64) (.prod (.list (.prod (.int .i64) (.prod (.list (.int .i64)) .unit))) .unit)) (.prod (.list (.list (.int .i64))) .unit))) (.prod (.ptr (.int .i64)) .unit))) .unit))) (res:=.bool) (multi:=false) (own:=false) (F:=f86b) mixed (all_cons c111b all_nil) Tryz.func57 rfl hints86b fun x _=>⟨fuel,e86b fuel x⟩
def specs50:List Spec:=[sp55,sp85,sp58,sp86b]
def hints50:List (Nat×List Nat):=[(6,[6,7,21,22,23]),(4000005,[6,87]),(4000008,[9,3])]
def L50_0 (N:Nat) (n_L50_0:Nat) (r_5:lt3) (x:lt15) (out_7:(List Int)) (t23_8:Int):Out lt2 :=
 vloop Tryz.prog (phi specs50) hints50 N Tryz.f14 true false ty3 [.at 1,.at 1,.at 1,.at 1,.at 0,.at 1,.at 0] n_L50_0 [.und,.und,.und,.und,.und,.und,.ref ty4 r_5,.own (.int .i64) out_7 false,.und,.und,.und,.und,.und,.und,.und,.und,.und,.und,.und,.und,.und,.d (.list (.int .i64)) x.2.1,.d (.int .i64) (lenI x.2.1),.d (.int .i64) t23_8,.und,.und,.und,.und,.und,.und,.und,.und,.und,.und,.und,.und,.und]
theorem L50_0_succ (N:Nat) (n_L50_0:Nat) (r_5:lt3) (x:lt15) (out_7:(List Int)) (t23_8:Int):L50_0 N  (n_L50_0+1) r_5 x out_7 t23_8 =
 (
 match (decide (t23_8<(lenI x.2.1))) with
 | true =>
  bif (inb t23_8 x.2.1.length) then
   match f86b (out_7,(((),(r_5,((List.getD x.2.1 t23_8.toNat (0:Int)),()))),())) with
   | .ret r_9 =>
    match (!r_9) with
    | true =>
     bif (fits out_7 ([(List.getD x.2.1 t23_8.toNat (0:Int))]:List Int)) then
      L50_0 N n_L50_0 r_5 x (out_7++([(List.getD x.2.1 t23_8.toNat (0:Int))]:List Int)) (IntKind.i64.wrap (t23_8+(1:Int)))
     else .fail
    | false =>
     L50_0 N n_L50_0 r_5 x out_7 (IntKind.i64.wrap (t23_8+(1:Int)))
   | .pan p_10 =>
    .pan p_10
   | .fail=>.fail
  else .fail
 | false =>
  .ret (out_7,((0:Int),())):Out lt2):=by
 kernel_rfl
def F50 (N:Nat) (x:lt15):Out lt2 :=
 match f55 (x.1,()) with
 | .ret r_1 =>
  match (!r_1) with
  | true =>
   .ret (([]:List Int),((2:Int),()))
  | false =>
   match f85 (x.1,(x.2.1,())) with
   | .ret r_3 =>
    match (!r_3) with
    | true =>
     .ret (([]:List Int),((2:Int),()))
    | false =>
     match f58 (x.1,()) with
     | .ret r_5 =>
      L50_0 N N r_5 x ([]:List Int) (0:Int)
     | .pan p_6 =>
      .pan p_6
     | .fail=>.fail
   | .pan p_4 =>
    .pan p_4
   | .fail=>.fail
 | .pan p_2 =>
  .pan p_2
 | .fail=>.fail
theorem e50 (N:Nat) (x:lt15):vfn Tryz.prog (phi specs50) hints50 N Tryz.f14 true false ty23 ty3 x=F50 N x:=by
 kernel_rfl
def f50 (x:lt15):Out lt2:=F50 fuel x
def sp50:Spec:=⟨14,.call,ty23,ty3,true,false,f50⟩
theorem c50:Contract Tryz.prog sp50:=contract_at (l:=specs50) (arg:=ty23) (res:=ty3) (multi:=true) (own:=false) (F:=f50) mixed (all_cons c55 (all_cons c85 (all_cons c58 (all_cons c86b all_nil)))) Tryz.func14 rfl hints50 fun x _=>⟨fuel,e50 fuel x⟩
end Go.V
end
