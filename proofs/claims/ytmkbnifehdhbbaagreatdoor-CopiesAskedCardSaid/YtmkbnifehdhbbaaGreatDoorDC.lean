/- Part. -/
import Derived.Test.YtmkbnifehdhbbaaGreatDoorDBd
set_option linter.all false
noncomputable section
namespace Go.V
open Go.Proofs
def IS:List Spec:=[uu]
def FT:List (Nat×List Nat):=[]
def wM (N:Nat) (x:(Int×(((Int×((List (Int×((List Int)×Unit)))×Unit))×((List (List Int))×Unit))×(Int×Unit)))):Out Bool :=
 match f60 (x.2.1,(x.2.2.1,(x.1,()))) with
 | .ret r_1 =>
  .ret (decide (r_1 > (0:Int)))
 | .pan p_2 =>
  .pan p_2
 | .fail=>.fail
theorem Om (N:Nat) (x:(Int×(((Int×((List (Int×((List Int)×Unit)))×Unit))×((List (List Int))×Unit))×(Int×Unit)))):aW Tryz.prog (ah IS) FT N Tryz.f87 false false (.prod (.int .i64) (.prod (.ptr (.prod (.prod (.int .i64) (.prod (.list (.prod (.int .i64) (.prod (.list (.int .i64)) .unit))) .unit)) (.prod (.list (.list (.int .i64))) .unit))) (.prod (.ptr (.int .i64)) .unit))) .bool x=wM N x:=by
 kernel_rfl
def f87 (x:(Int×(((Int×((List (Int×((List Int)×Unit)))×Unit))×((List (List Int))×Unit))×(Int×Unit)))):Out Bool:=wM fuel x
def It:Spec:=⟨87,.call,(.prod (.int .i64) (.prod (.ptr (.prod (.prod (.int .i64) (.prod (.list (.prod (.int .i64) (.prod (.list (.int .i64)) .unit))) .unit)) (.prod (.list (.list (.int .i64))) .unit))) (.prod (.ptr (.int .i64)) .unit))),.bool,false,false,f87⟩
theorem Mt:am Tryz.prog It:=bi (l:=IS) (arg:=(.prod (.int .i64) (.prod (.ptr (.prod (.prod (.int .i64) (.prod (.list (.prod (.int .i64) (.prod (.list (.int .i64)) .unit))) .unit)) (.prod (.list (.list (.int .i64))) .unit))) (.prod (.ptr (.int .i64)) .unit)))) (res:=.bool) (multi:=false) (own:=false) (F:=f87) mixed (all_cons xF aO) Tryz.func87 rfl FT fun x _=>⟨fuel,Om fuel x⟩
def Bb:List Spec:=[It]
def yF:List (Nat×List Nat):=[(2,[0,1,7,8])]
def L111b_0 (N:Nat) (n_L111b_0:Nat) (x:((List Int)×((Unit×(((Int×((List (Int×((List Int)×Unit)))×Unit))×((List (List Int))×Unit))×(Int×Unit)))×Unit))) (t8_1:Int):Out Int :=
 bS Tryz.prog (ah Bb) yF N Tryz.f111 false false (.int .i64) [.at 1,.at 0,.at 1,.at 0] n_L111b_0 [.d (.list (.int .i64)) x.1,.d (.clo 87 .unit (.prod (.ptr (.prod (.prod (.int .i64) (.prod (.list (.prod (.int .i64) (.prod (.list (.int .i64)) .unit))) .unit)) (.prod (.list (.list (.int .i64))) .unit))) (.prod (.ptr (.int .i64)) .unit))) x.2.1,.und,.und,.und,.und,.und,.d (.int .i64) (ae x.1),.d (.int .i64) t8_1,.und,.und,.und,.und,.und,.und,.und,.und,.und,.und]
theorem L111b_0_succ (N:Nat) (n_L111b_0:Nat) (x:((List Int)×((Unit×(((Int×((List (Int×((List Int)×Unit)))×Unit))×((List (List Int))×Unit))×(Int×Unit)))×Unit))) (t8_1:Int):L111b_0 N  (n_L111b_0+1) x t8_1 =
 (
 match (decide (t8_1<(ae x.1))) with
 | true =>
  bif (ax t8_1 x.1.length) then
   match f87 ((List.getD x.1 t8_1.toNat (0:Int)),(x.2.1.2.1,(x.2.1.2.2.1,()))) with
   | .ret r_2 =>
    match r_2 with
    | true =>
     .ret t8_1
    | false =>
     L111b_0 N n_L111b_0 x (IntKind.i64.wrap (t8_1+(1:Int)))
   | .pan p_3 =>
    .pan p_3
   | .fail=>.fail
  else .fail
 | false =>
  .ret (-1:Int):Out Int):=by
 kernel_rfl
def vO (N:Nat) (x:((List Int)×((Unit×(((Int×((List (Int×((List Int)×Unit)))×Unit))×((List (List Int))×Unit))×(Int×Unit)))×Unit))):Out Int :=
 L111b_0 N N x (0:Int)
theorem Nu (N:Nat) (x:((List Int)×((Unit×(((Int×((List (Int×((List Int)×Unit)))×Unit))×((List (List Int))×Unit))×(Int×Unit)))×Unit))):aW Tryz.prog (ah Bb) yF N Tryz.f111 false false (.prod (.list (.int .i64)) (.prod (.clo 87 .unit (.prod (.ptr (.prod (.prod (.int .i64) (.prod (.list (.prod (.int .i64) (.prod (.list (.int .i64)) .unit))) .unit)) (.prod (.list (.list (.int .i64))) .unit))) (.prod (.ptr (.int .i64)) .unit))) .unit)) (.int .i64) x=vO N x:=by
 kernel_rfl
def sU (x:((List Int)×((Unit×(((Int×((List (Int×((List Int)×Unit)))×Unit))×((List (List Int))×Unit))×(Int×Unit)))×Unit))):Out Int:=vO fuel x
def H9:Spec:=⟨111,.call,(.prod (.list (.int .i64)) (.prod (.clo 87 .unit (.prod (.ptr (.prod (.prod (.int .i64) (.prod (.list (.prod (.int .i64) (.prod (.list (.int .i64)) .unit))) .unit)) (.prod (.list (.list (.int .i64))) .unit))) (.prod (.ptr (.int .i64)) .unit))) .unit)),(.int .i64),false,false,sU⟩
theorem Lx:am Tryz.prog H9:=bi (l:=Bb) (arg:=(.prod (.list (.int .i64)) (.prod (.clo 87 .unit (.prod (.ptr (.prod (.prod (.int .i64) (.prod (.list (.prod (.int .i64) (.prod (.list (.int .i64)) .unit))) .unit)) (.prod (.list (.list (.int .i64))) .unit))) (.prod (.ptr (.int .i64)) .unit))) .unit))) (res:=(.int .i64)) (multi:=false) (own:=false) (F:=sU) mixed (all_cons Mt aO) Tryz.func111 rfl yF fun x _=>⟨fuel,Nu fuel x⟩
def IR:List Spec:=[H9]
def FS:List (Nat×List Nat):=[]
def wL (N:Nat) (x:((List Int)×((Unit×(((Int×((List (Int×((List Int)×Unit)))×Unit))×((List (List Int))×Unit))×(Int×Unit)))×Unit))):Out Bool :=
 match sU (x.1,(x.2.1,())) with
 | .ret r_1 =>
  .ret (decide (r_1 >= (0:Int)))
 | .pan p_2 =>
  .pan p_2
 | .fail=>.fail
theorem Ol (N:Nat) (x:((List Int)×((Unit×(((Int×((List (Int×((List Int)×Unit)))×Unit))×((List (List Int))×Unit))×(Int×Unit)))×Unit))):aW Tryz.prog (ah IR) FS N Tryz.f86 false false (.prod (.list (.int .i64)) (.prod (.clo 87 .unit (.prod (.ptr (.prod (.prod (.int .i64) (.prod (.list (.prod (.int .i64) (.prod (.list (.int .i64)) .unit))) .unit)) (.prod (.list (.list (.int .i64))) .unit))) (.prod (.ptr (.int .i64)) .unit))) .unit)) .bool x=wL N x:=by
 kernel_rfl
def pA (x:((List Int)×((Unit×(((Int×((List (Int×((List Int)×Unit)))×Unit))×((List (List Int))×Unit))×(Int×Unit)))×Unit))):Out Bool:=wL fuel x
def Is:Spec:=⟨86,.call,(.prod (.list (.int .i64)) (.prod (.clo 87 .unit (.prod (.ptr (.prod (.prod (.int .i64) (.prod (.list (.prod (.int .i64) (.prod (.list (.int .i64)) .unit))) .unit)) (.prod (.list (.list (.int .i64))) .unit))) (.prod (.ptr (.int .i64)) .unit))) .unit)),.bool,false,false,pA⟩
theorem Ms:am Tryz.prog Is:=bi (l:=IR) (arg:=(.prod (.list (.int .i64)) (.prod (.clo 87 .unit (.prod (.ptr (.prod (.prod (.int .i64) (.prod (.list (.prod (.int .i64) (.prod (.list (.int .i64)) .unit))) .unit)) (.prod (.list (.list (.int .i64))) .unit))) (.prod (.ptr (.int .i64)) .unit))) .unit))) (res:=.bool) (multi:=false) (own:=false) (F:=pA) mixed (all_cons Lx aO) Tryz.func86 rfl FS fun x _=>⟨fuel,Ol fuel x⟩
def Bm:List Spec:=[dr,ux,fw,Is]
def yP:List (Nat×List Nat):=[(6,[6,7,21,22,23]),(4000005,[6,84]),(4000008,[9,3])]
def L50_0 (N:Nat) (n_L50_0:Nat) (r_5:cG) (x:gR) (out_7:(List Int)) (t23_8:Int):Out bB :=
 bS Tryz.prog (ah Bm) yP N Tryz.f50 true false ch [.at 1,.at 1,.at 1,.at 1,.at 0,.at 1,.at 0] n_L50_0 [.und,.und,.und,.und,.und,.und,.ref ef r_5,.own (.int .i64) out_7 false,.und,.und,.und,.und,.und,.und,.und,.und,.und,.und,.und,.und,.und,.d (.list (.int .i64)) x.2.1,.d (.int .i64) (ae x.2.1),.d (.int .i64) t23_8,.und,.und,.und,.und,.und,.und,.und,.und,.und,.und,.und,.und,.und]
theorem L50_0_succ (N:Nat) (n_L50_0:Nat) (r_5:cG) (x:gR) (out_7:(List Int)) (t23_8:Int):L50_0 N  (n_L50_0+1) r_5 x out_7 t23_8 =
 (
 match (decide (t23_8<(ae x.2.1))) with
 | true =>
  bif (ax t23_8 x.2.1.length) then
   match pA (out_7,(((),(r_5,((List.getD x.2.1 t23_8.toNat (0:Int)),()))),())) with
   | .ret r_9 =>
    match (!r_9) with
    | true =>
     bif (bQ out_7 ([(List.getD x.2.1 t23_8.toNat (0:Int))]:List Int)) then
      L50_0 N n_L50_0 r_5 x (out_7++([(List.getD x.2.1 t23_8.toNat (0:Int))]:List Int)) (IntKind.i64.wrap (t23_8+(1:Int)))
     else .fail
    | false =>
     L50_0 N n_L50_0 r_5 x out_7 (IntKind.i64.wrap (t23_8+(1:Int)))
   | .pan p_10 =>
    .pan p_10
   | .fail=>.fail
  else .fail
 | false =>
  .ret (out_7,((0:Int),())):Out bB):=by
 kernel_rfl
def wg (N:Nat) (x:gR):Out bB :=
 match f55 (x.1,()) with
 | .ret r_1 =>
  match (!r_1) with
  | true =>
   .ret (([]:List Int),((2:Int),()))
  | false =>
   match f85 (x.1,(x.2.1,())) with
   | .ret r_3 =>
    match (!r_3) with
    | true =>
     .ret (([]:List Int),((2:Int),()))
    | false =>
     match f58 (x.1,()) with
     | .ret r_5 =>
      L50_0 N N r_5 x ([]:List Int) (0:Int)
     | .pan p_6 =>
      .pan p_6
     | .fail=>.fail
   | .pan p_4 =>
    .pan p_4
   | .fail=>.fail
 | .pan p_2 =>
  .pan p_2
 | .fail=>.fail
theorem NV (N:Nat) (x:gR):aW Tryz.prog (ah Bm) yP N Tryz.f50 true false lQ ch x=wg N x:=by
 kernel_rfl
def f50 (x:gR):Out bB:=wg fuel x
def Vh:Spec:=⟨50,.call,lQ,ch,true,false,f50⟩
theorem Md:am Tryz.prog Vh:=bi (l:=Bm) (arg:=lQ) (res:=ch) (multi:=true) (own:=false) (F:=f50) mixed (all_cons dh (all_cons sC (all_cons fO (all_cons Ms aO)))) Tryz.func50 rfl yP fun x _=>⟨fuel,NV fuel x⟩
end Go.V
end
