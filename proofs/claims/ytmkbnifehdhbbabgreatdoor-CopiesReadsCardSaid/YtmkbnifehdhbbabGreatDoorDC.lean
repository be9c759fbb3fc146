/- Part. -/
import Derived.Test.YtmkbnifehdhbbabGreatDoorDBd
set_option linter.all false
noncomputable section
namespace Go.V
open Go.Proofs
def I8:List Spec:=[uJ]
def Gg:List (Nat×List Nat):=[]
def w_ (N:Nat) (x:(Int×(((Int×((List (Int×((List Int)×Unit)))×Unit))×((List (List Int))×Unit))×(Int×Unit)))):Out Bool :=
 match f60 (x.2.1,(x.2.2.1,(x.1,()))) with
 | .ret r_1 =>
  .ret (decide (r_1 > (0:Int)))
 | .pan p_2 =>
  .pan p_2
 | .fail=>.fail
theorem OF (N:Nat) (x:(Int×(((Int×((List (Int×((List Int)×Unit)))×Unit))×((List (List Int))×Unit))×(Int×Unit)))):aW Tryz.prog (ah I8) Gg N Tryz.f58 false false (.prod (.int .i64) (.prod (.ptr (.prod (.prod (.int .i64) (.prod (.list (.prod (.int .i64) (.prod (.list (.int .i64)) .unit))) .unit)) (.prod (.list (.list (.int .i64))) .unit))) (.prod (.ptr (.int .i64)) .unit))) .bool x=w_ N x:=by
 kernel_rfl
def f87 (x:(Int×(((Int×((List (Int×((List Int)×Unit)))×Unit))×((List (List Int))×Unit))×(Int×Unit)))):Out Bool:=w_ fuel x
def IJ:Spec:=⟨58,.call,(.prod (.int .i64) (.prod (.ptr (.prod (.prod (.int .i64) (.prod (.list (.prod (.int .i64) (.prod (.list (.int .i64)) .unit))) .unit)) (.prod (.list (.list (.int .i64))) .unit))) (.prod (.ptr (.int .i64)) .unit))),.bool,false,false,f87⟩
theorem MJ:am Tryz.prog IJ:=bi (l:=I8) (arg:=(.prod (.int .i64) (.prod (.ptr (.prod (.prod (.int .i64) (.prod (.list (.prod (.int .i64) (.prod (.list (.int .i64)) .unit))) .unit)) (.prod (.list (.list (.int .i64))) .unit))) (.prod (.ptr (.int .i64)) .unit)))) (res:=.bool) (multi:=false) (own:=false) (F:=f87) mixed (all_cons xV aO) Tryz.func58 rfl Gg fun x _=>⟨fuel,OF fuel x⟩
def Bp:List Spec:=[IJ]
def yT:List (Nat×List Nat):=[(2,[0,1,7,8])]
def L111b_0 (N:Nat) (n_L111b_0:Nat) (x:((List Int)×((Unit×(((Int×((List (Int×((List Int)×Unit)))×Unit))×((List (List Int))×Unit))×(Int×Unit)))×Unit))) (t8_1:Int):Out Int :=
 bS Tryz.prog (ah Bp) yT N Tryz.f97 false false (.int .i64) [.at 1,.at 0,.at 1,.at 0] n_L111b_0 [.d (.list (.int .i64)) x.1,.d (.clo 58 .unit (.prod (.ptr (.prod (.prod (.int .i64) (.prod (.list (.prod (.int .i64) (.prod (.list (.int .i64)) .unit))) .unit)) (.prod (.list (.list (.int .i64))) .unit))) (.prod (.ptr (.int .i64)) .unit))) x.2.1,.und,.und,.und,.und,.und,.d (.int .i64) (ae x.1),.d (.int .i64) t8_1,.und,.und,.und,.und,.und,.und,.und,.und,.und,.und]
theorem L111b_0_succ (N:Nat) (n_L111b_0:Nat) (x:((List Int)×((Unit×(((Int×((List (Int×((List Int)×Unit)))×Unit))×((List (List Int))×Unit))×(Int×Unit)))×Unit))) (t8_1:Int):L111b_0 N  (n_L111b_0+1) x t8_1 =
 (
 match (decide (t8_1<(ae x.1))) with
 | true =>
  bif (ax t8_1 x.1.length) then
   match f87 ((List.getD x.1 t8_1.toNat (0:Int)),(x.2.1.2.1,(x.2.1.2.2.1,()))) with
   | .ret r_2 =>
    match r_2 with
    | true =>
     .ret t8_1
    | false =>
     L111b_0 N n_L111b_0 x (IntKind.i64.wrap (t8_1+(1:Int)))
   | .pan p_3 =>
    .pan p_3
   | .fail=>.fail
  else .fail
 | false =>
  .ret (-1:Int):Out Int):=by
 kernel_rfl
def wg (N:Nat) (x:((List Int)×((Unit×(((Int×((List (Int×((List Int)×Unit)))×Unit))×((List (List Int))×Unit))×(Int×Unit)))×Unit))):Out Int :=
 L111b_0 N N x (0:Int)
theorem NL (N:Nat) (x:((List Int)×((Unit×(((Int×((List (Int×((List Int)×Unit)))×Unit))×((List (List Int))×Unit))×(Int×Unit)))×Unit))):aW Tryz.prog (ah Bp) yT N Tryz.f97 false false (.prod (.list (.int .i64)) (.prod (.clo 58 .unit (.prod (.ptr (.prod (.prod (.int .i64) (.prod (.list (.prod (.int .i64) (.prod (.list (.int .i64)) .unit))) .unit)) (.prod (.list (.list (.int .i64))) .unit))) (.prod (.ptr (.int .i64)) .unit))) .unit)) (.int .i64) x=wg N x:=by
 kernel_rfl
def tt (x:((List Int)×((Unit×(((Int×((List (Int×((List Int)×Unit)))×Unit))×((List (List Int))×Unit))×(Int×Unit)))×Unit))):Out Int:=wg fuel x
def Io:Spec:=⟨97,.call,(.prod (.list (.int .i64)) (.prod (.clo 58 .unit (.prod (.ptr (.prod (.prod (.int .i64) (.prod (.list (.prod (.int .i64) (.prod (.list (.int .i64)) .unit))) .unit)) (.prod (.list (.list (.int .i64))) .unit))) (.prod (.ptr (.int .i64)) .unit))) .unit)),(.int .i64),false,false,tt⟩
theorem LP:am Tryz.prog Io:=bi (l:=Bp) (arg:=(.prod (.list (.int .i64)) (.prod (.clo 58 .unit (.prod (.ptr (.prod (.prod (.int .i64) (.prod (.list (.prod (.int .i64) (.prod (.list (.int .i64)) .unit))) .unit)) (.prod (.list (.list (.int .i64))) .unit))) (.prod (.ptr (.int .i64)) .unit))) .unit))) (res:=(.int .i64)) (multi:=false) (own:=false) (F:=tt) mixed (all_cons MJ aO) Tryz.func97 rfl yT fun x _=>⟨fuel,NL fuel x⟩
def I7:List Spec:=[Io]
def Gf:List (Nat×List Nat):=[]
def w9 (N:Nat) (x:((List Int)×((Unit×(((Int×((List (Int×((List Int)×Unit)))×Unit))×((List (List Int))×Unit))×(Int×Unit)))×Unit))):Out Bool :=
 match tt (x.1,(x.2.1,())) with
 | .ret r_1 =>
  .ret (decide (r_1 >= (0:Int)))
 | .pan p_2 =>
  .pan p_2
 | .fail=>.fail
theorem OE (N:Nat) (x:((List Int)×((Unit×(((Int×((List (Int×((List Int)×Unit)))×Unit))×((List (List Int))×Unit))×(Int×Unit)))×Unit))):aW Tryz.prog (ah I7) Gf N Tryz.f57 false false (.prod (.list (.int .i64)) (.prod (.clo 58 .unit (.prod (.ptr (.prod (.prod (.int .i64) (.prod (.list (.prod (.int .i64) (.prod (.list (.int .i64)) .unit))) .unit)) (.prod (.list (.list (.int .i64))) .unit))) (.prod (.ptr (.int .i64)) .unit))) .unit)) .bool x=w9 N x:=by
 kernel_rfl
def pP (x:((List Int)×((Unit×(((Int×((List (Int×((List Int)×Unit)))×Unit))×((List (List Int))×Unit))×(Int×Unit)))×Unit))):Out Bool:=w9 fuel x
def II:Spec:=⟨57,.call,(.prod (.list (.int .i64)) (.prod (.clo 58 .unit (.prod (.ptr (.prod (.prod (.int .i64) (.prod (.list (.prod (.int .i64) (.prod (.list (.int .i64)) .unit))) .unit)) (.prod (.list (.list (.int .i64))) .unit))) (.prod (.ptr (.int .i64)) .unit))) .unit)),.bool,false,false,pP⟩
theorem MI:am Tryz.prog II:=bi (l:=I7) (arg:=(.prod (.list (.int .i64)) (.prod (.clo 58 .unit (.prod (.ptr (.prod (.prod (.int .i64) (.prod (.list (.prod (.int .i64) (.prod (.list (.int .i64)) .unit))) .unit)) (.prod (.list (.list (.int .i64))) .unit))) (.prod (.ptr (.int .i64)) .unit))) .unit))) (res:=.bool) (multi:=false) (own:=false) (F:=pP) mixed (all_cons LP aO) Tryz.func57 rfl Gf fun x _=>⟨fuel,OE fuel x⟩
def BA:List Spec:=[dr,uM,fw,II]
def zd:List (Nat×List Nat):=[(6,[6,7,21,22,23]),(4000005,[6,87]),(4000008,[9,3])]
def L50_0 (N:Nat) (n_L50_0:Nat) (r_5:cG) (x:gS) (out_7:(List Int)) (t23_8:Int):Out bB :=
 bS Tryz.prog (ah BA) zd N Tryz.f14 true false ch [.at 1,.at 1,.at 1,.at 1,.at 0,.at 1,.at 0] n_L50_0 [.und,.und,.und,.und,.und,.und,.ref ef r_5,.own (.int .i64) out_7 false,.und,.und,.und,.und,.und,.und,.und,.und,.und,.und,.und,.und,.und,.d (.list (.int .i64)) x.2.1,.d (.int .i64) (ae x.2.1),.d (.int .i64) t23_8,.und,.und,.und,.und,.und,.und,.und,.und,.und,.und,.und,.und,.und]
theorem L50_0_succ (N:Nat) (n_L50_0:Nat) (r_5:cG) (x:gS) (out_7:(List Int)) (t23_8:Int):L50_0 N  (n_L50_0+1) r_5 x out_7 t23_8 =
 (
 match (decide (t23_8<(ae x.2.1))) with
 | true =>
  bif (ax t23_8 x.2.1.length) then
   match pP (out_7,(((),(r_5,((List.getD x.2.1 t23_8.toNat (0:Int)),()))),())) with
   | .ret r_9 =>
    match (!r_9) with
    | true =>
     bif (bQ out_7 ([(List.getD x.2.1 t23_8.toNat (0:Int))]:List Int)) then
      L50_0 N n_L50_0 r_5 x (out_7++([(List.getD x.2.1 t23_8.toNat (0:Int))]:List Int)) (IntKind.i64.wrap (t23_8+(1:Int)))
     else .fail
    | false =>
     L50_0 N n_L50_0 r_5 x out_7 (IntKind.i64.wrap (t23_8+(1:Int)))
   | .pan p_10 =>
    .pan p_10
   | .fail=>.fail
  else .fail
 | false =>
  .ret (out_7,((0:Int),())):Out bB):=by
 kernel_rfl
def wI (N:Nat) (x:gS):Out bB :=
 match f55 (x.1,()) with
 | .ret r_1 =>
  match (!r_1) with
  | true =>
   .ret (([]:List Int),((2:Int),()))
  | false =>
   match f85 (x.1,(x.2.1,())) with
   | .ret r_3 =>
    match (!r_3) with
    | true =>
     .ret (([]:List Int),((2:Int),()))
    | false =>
     match f58 (x.1,()) with
     | .ret r_5 =>
      L50_0 N N r_5 x ([]:List Int) (0:Int)
     | .pan p_6 =>
      .pan p_6
     | .fail=>.fail
   | .pan p_4 =>
    .pan p_4
   | .fail=>.fail
 | .pan p_2 =>
  .pan p_2
 | .fail=>.fail
theorem Oc (N:Nat) (x:gS):aW Tryz.prog (ah BA) zd N Tryz.f14 true false mg ch x=wI N x:=by
 kernel_rfl
def f50 (x:gS):Out bB:=wI fuel x
def Vw:Spec:=⟨14,.call,mg,ch,true,false,f50⟩
theorem Mt:am Tryz.prog Vw:=bi (l:=BA) (arg:=mg) (res:=ch) (multi:=true) (own:=false) (F:=f50) mixed (all_cons dh (all_cons sV (all_cons fO (all_cons MI aO)))) Tryz.func14 rfl zd fun x _=>⟨fuel,Oc fuel x⟩
end Go.V
end
