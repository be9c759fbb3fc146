/- Part. -/
import Derived.Test.YtmkbnifehdhbbaaGreatDoorQL
import Derived.Test.YtmkbnifehdhbbaaGreatDoorCR2
import Derived.Test.YtmkbnifehdhbbaaGreatDoorCRA
set_option linter.all false
noncomputable section
namespace Go.V
section
variable {ρ : Type} (P : Program) (Φ : Nat → List Spec) (hints : List (Nat × List Nat)) (N : Nat)
end
def XI (fn:Nat):Spec:=⟨fn,.call,.unit,.unit,false,false,fun _=>.fail⟩
theorem YG {P:Program} [Inv P] (fn:Nat):am P (XI fn):=fun _ _ _ _ _ _ _=>trivial
open Go.Proofs
def Wv:=@aj
def XW:List Spec:=[]
def XC:List (Nat×List Nat):=[(2,[1,3])]
def L13_0 (N n0:Nat) (x:aS) (i_1:Int):Out Bool :=
 bS Tryz.prog (ah XW) XC N Tryz.f13 false false .bool [.at 1,.at 0,.at 1,.at 0] n0 [U,.box [.d (.int .i64) x.1.1,.d ba x.1.2.1],U,.d (.int .i64) i_1,U,U,U,U,U,U,U,U,U,U,U,U,U,U,U,U,U,U,U,U,U,U,U]
theorem L13_0_succ (N n0:Nat) (x:aS) (i_1:Int):L13_0 N  (n0+1) x i_1 =
 (match (decide (i_1<(ae x.1.2.1))) with|true=>(match (decide (i_1<10)) with|true=>bif (ax i_1 x.1.2.1.length) then match (decide ((ae ((List.getD x.1.2.1 i_1.toNat (0,([],())))).2.1) > 5)) with|true=>.ret false|false=>L13_0 N n0 x (IntKind.i64.wrap (i_1+1)) else .fail|false=>.ret (decide ((ae x.1.2.1)<=10)))|false=>.ret (decide ((ae x.1.2.1)<=10)):Out Bool):=by kernel_rfl
def Xo (N:Nat) (x:aS):Out Bool:=L13_0 N N x 0
theorem Zq (N:Nat) (x:aS):aW Tryz.prog (ah XW) XC N Tryz.f13 false false cB .bool x=Xo N x:=by kernel_rfl
def f13 (x:aS):Out Bool:=Xo fuel x
def YN:Spec:=⟨13,.call,cB,.bool,false,false,f13⟩
theorem Y9:am Tryz.prog YN:=bi (l:=XW) (arg:=cB) (res:=.bool) (multi:=false) (own:=false) (F:=f13) mixed aO Tryz.func13 rfl XC fun x _=>⟨fuel,Zq fuel x⟩
def XY:List Spec:=[]
def XE:List (Nat×List Nat):=[(2,[0,3])]
def L31_0 (N n0:Nat) (x:((List (List Int))×Unit)) (i_1:Int):Out Bool :=
 bS Tryz.prog (ah XY) XE N Tryz.f31 false false .bool [.at 1,.at 0,.at 1,.at 0] n0 [.d be x.1,U,U,.d (.int .i64) i_1,U,U,U,U,U,U,U,U,U,U,U,U,U,U,U,U,U,U,U]
theorem L31_0_succ (N n0:Nat) (x:((List (List Int))×Unit)) (i_1:Int):L31_0 N  (n0+1) x i_1 =
 (match (decide (i_1<(ae x.1))) with|true=>(match (decide (i_1<12)) with|true=>bif (ax i_1 x.1.length) then match (decide ((ae (List.getD x.1 i_1.toNat [])) > 5)) with|true=>.ret false|false=>L31_0 N n0 x (IntKind.i64.wrap (i_1+1)) else .fail|false=>.ret (decide ((ae x.1)<=10)))|false=>.ret (decide ((ae x.1)<=10)):Out Bool):=by kernel_rfl
def Xs (N:Nat) (x:((List (List Int))×Unit)):Out Bool:=L31_0 N N x 0
theorem Zv (N:Nat) (x:((List (List Int))×Unit)):aW Tryz.prog (ah XY) XE N Tryz.f31 false false (.prod (.list (.list (.int .i64))) .unit) .bool x=Xs N x:=by kernel_rfl
def f31 (x:((List (List Int))×Unit)):Out Bool:=Xs fuel x
def Z_:Spec:=⟨31,.call,(.prod (.list (.list (.int .i64))) .unit),.bool,false,false,f31⟩
theorem Zc:am Tryz.prog Z_:=bi (l:=XY) (arg:=(.prod (.list (.list (.int .i64))) .unit)) (res:=.bool) (multi:=false) (own:=false) (F:=f31) mixed aO Tryz.func31 rfl XE fun x _=>⟨fuel,Zv fuel x⟩
def YV:List Spec:=[]
def YD:List (Nat×List Nat):=[]
theorem ZB (N:Nat) (x:(Int×(Int×(Int×Unit)))):aW Tryz.prog (ah YV) YD N Tryz.f61 false false kn .bool x=CP N x:=by kernel_rfl
theorem Xb:am Tryz.prog Vm:=bi (l:=YV) (arg:=kn) (res:=.bool) (multi:=false) (own:=false) (F:=f61) mixed aO Tryz.func61 rfl YD fun x _=>⟨fuel,ZB fuel x⟩
def X0:List Spec:=[]
def XF:List (Nat×List Nat):=[(3,[1,2,5,6])]
def L66_0 (N n0:Nat) (x:gR) (n_1:Int) (i_2:Int):Out Int :=
 bS Tryz.prog (ah X0) XF N Tryz.f66 false false (.int .i64) [.at 1,.at 1,.at 0,.at 1,.at 0] n0 [U,.d (.list (.int .i64)) x.2.1,.box [.d (.int .i64) x.1.1,.d ba x.1.2.1],U,U,.d (.int .i64) n_1,.d (.int .i64) i_2,U,U,U,U,U,U,U,U,U,U,U,U,U,U,U,U,U,U,U,U,U,U,U]
theorem L66_0_succ (N n0:Nat) (x:gR) (n_1:Int) (i_2:Int):L66_0 N  (n0+1) x n_1 i_2 =
 (match (decide (i_2<(ae x.2.1))) with|true=>bif (ax i_2 x.2.1.length) then bif (ax i_2 x.1.2.1.length) then bif (ax ((List.getD x.1.2.1 i_2.toNat (0,([],())))).1 x.2.1.length) then match ((List.getD x.2.1 i_2.toNat 0) != (List.getD x.2.1 ((List.getD x.1.2.1 i_2.toNat (0,([],())))).1.toNat 0)) with|true=>L66_0 N n0 x (IntKind.i64.wrap (n_1+1)) (IntKind.i64.wrap (i_2+1))|false=>L66_0 N n0 x n_1 (IntKind.i64.wrap (i_2+1)) else .fail else .fail else .fail|false=>.ret n_1:Out Int):=by kernel_rfl
def X6 (N:Nat) (x:gR):Out Int:=L66_0 N N x 0 1
theorem ZC (N:Nat) (x:gR):aW Tryz.prog (ah X0) XF N Tryz.f66 false false lQ (.int .i64) x=X6 N x:=by kernel_rfl
def f66 (x:gR):Out Int:=X6 fuel x
def YQ:Spec:=⟨66,.call,lQ,(.int .i64),false,false,f66⟩
theorem Zi:am Tryz.prog YQ:=bi (l:=X0) (arg:=lQ) (res:=(.int .i64)) (multi:=false) (own:=false) (F:=f66) mixed aO Tryz.func66 rfl XF fun x _=>⟨fuel,ZC fuel x⟩
def XV (g:((Int×((List (Int×((List Int)×Unit)))×Unit))×(Int×((List Int)×((List Int)×(Int×Unit)))))->Out (List (List Int))):List Spec:=[YQ,⟨104,.call,(.prod (.prod (.int .i64) (.prod (.list (.prod (.int .i64) (.prod (.list (.int .i64)) .unit))) .unit)) (.prod (.int .i64) (.prod (.list (.int .i64)) (.prod (.list (.int .i64)) (.prod (.int .i64) .unit))))),be,false,true,g⟩]
def XB:List (Nat×List Nat):=[(8,[1,2,3,4,5,11,12,13])]
def L104_0 (g:((Int×((List (Int×((List Int)×Unit)))×Unit))×(Int×((List Int)×((List Int)×(Int×Unit)))))->Out (List (List Int))) (N n0:Nat) (x:((Int×((List (Int×((List Int)×Unit)))×Unit))×(Int×((List Int)×((List Int)×(Int×Unit)))))) (out_3:(List (List Int))) (i_4:Int):Out (List (List Int)) :=
 bS Tryz.prog (ah (XV g)) XB N Tryz.f104 false true be [.at 1,.at 1,.at 1,.at 1,.at 1,.at 0,.at 1,.at 0] n0 [U,.d (.int .i64) x.2.1,.d (.list (.int .i64)) x.2.2.1,.d (.list (.int .i64)) x.2.2.2.1,.d (.int .i64) x.2.2.2.2.1,.box [.d (.int .i64) x.1.1,.d ba x.1.2.1],U,U,U,U,U,.d (.int .i64) (List.getD ((List.getD x.1.2.1 (ae x.2.2.1).toNat ((0:Int),(([]:List Int),())))).2.1 x.2.1.toNat (0:Int)),.own (.list (.int .i64)) out_3 false,.d (.int .i64) i_4,U,U,U,U,U,U,U,U,U,U,U,U,U,U,U,U,U,U,U,U,U,U,U,U,U,U,U,U,U,U,U,U,U,U,U,U,U,U,U,U,U,U,U,U,U,U,U,U,U,U,U,U,U,U,U]
theorem L104_0_succ (g:((Int×((List (Int×((List Int)×Unit)))×Unit))×(Int×((List Int)×((List Int)×(Int×Unit)))))->Out (List (List Int))) (N n0:Nat) (x:((Int×((List (Int×((List Int)×Unit)))×Unit))×(Int×((List Int)×((List Int)×(Int×Unit)))))) (out_3:(List (List Int))) (i_4:Int):L104_0 g N  (n0+1) x out_3 i_4 =
 (match (decide (i_4<(ae x.2.2.2.1))) with|true=>(match (decide ((List.getD ((List.getD x.1.2.1 (ae x.2.2.1).toNat (0,([],())))).2.1 x.2.1.toNat 0)<0)) with|true=>bif (bQ [] x.2.2.1) then bif (ax i_4 x.2.2.2.1.length) then bif (bQ x.2.2.1 ([(List.getD x.2.2.2.1 i_4.toNat 0)]:List Int)) then match g (x.1,(x.2.1,((x.2.2.1++([(List.getD x.2.2.2.1 i_4.toNat 0)]:List Int)),(x.2.2.2.1,(x.2.2.2.2.1,()))))) with | .ret r_5=>bif (bQ out_3 r_5) then L104_0 g N n0 x (out_3++r_5) (IntKind.i64.wrap (i_4+1)) else .fail | .pan p=>.pan p | .fail=>.fail else .fail else .fail else .fail|false=>bif (ax i_4 x.2.2.2.1.length) then match ((List.getD x.2.2.2.1 i_4.toNat 0)==(List.getD ((List.getD x.1.2.1 (ae x.2.2.1).toNat (0,([],())))).2.1 x.2.1.toNat 0)) with|true=>bif (bQ [] x.2.2.1) then bif (ax i_4 x.2.2.2.1.length) then bif (bQ x.2.2.1 ([(List.getD x.2.2.2.1 i_4.toNat 0)]:List Int)) then match g (x.1,(x.2.1,((x.2.2.1++([(List.getD x.2.2.2.1 i_4.toNat 0)]:List Int)),(x.2.2.2.1,(x.2.2.2.2.1,()))))) with | .ret r_7=>bif (bQ out_3 r_7) then L104_0 g N n0 x (out_3++r_7) (IntKind.i64.wrap (i_4+1)) else .fail | .pan p=>.pan p | .fail=>.fail else .fail else .fail else .fail|false=>L104_0 g N n0 x out_3 (IntKind.i64.wrap (i_4+1)) else .fail)|false=>.ret out_3:Out (List (List Int))):=by kernel_rfl
def WS (g:((Int×((List (Int×((List Int)×Unit)))×Unit))×(Int×((List Int)×((List Int)×(Int×Unit)))))->Out (List (List Int))) (N:Nat) (x:((Int×((List (Int×((List Int)×Unit)))×Unit))×(Int×((List Int)×((List Int)×(Int×Unit)))))):Out (List (List Int)):=match f66 (x.1,(x.2.2.1,())) with | .ret r_1=>(match (decide (r_1 > x.2.2.2.2.1)) with|true=>.ret []|false=>match ((ae x.2.2.1)==(ae x.1.2.1)) with|true=>.ret ([x.2.2.1]:List (List Int))|false=>bif (ax (ae x.2.2.1) x.1.2.1.length) then bif (ax x.2.1 ((List.getD x.1.2.1 (ae x.2.2.1).toNat (0,([],())))).2.1.length) then L104_0 g N N x [] 0 else .fail else .fail) | .pan p=>.pan p | .fail=>.fail
theorem Zo (g:((Int×((List (Int×((List Int)×Unit)))×Unit))×(Int×((List Int)×((List Int)×(Int×Unit)))))->Out (List (List Int))) (N:Nat) (x:((Int×((List (Int×((List Int)×Unit)))×Unit))×(Int×((List Int)×((List Int)×(Int×Unit)))))):aW Tryz.prog (ah (XV g)) XB N Tryz.f104 false true (.prod (.prod (.int .i64) (.prod (.list (.prod (.int .i64) (.prod (.list (.int .i64)) .unit))) .unit)) (.prod (.int .i64) (.prod (.list (.int .i64)) (.prod (.list (.int .i64)) (.prod (.int .i64) .unit))))) be x=WS g N x:=by kernel_rfl
def WC:Nat->((Int×((List (Int×((List Int)×Unit)))×Unit))×(Int×((List Int)×((List Int)×(Int×Unit)))))->Out (List (List Int))
 | 0,_=>.fail
 | m+1,x=>WS (WC m) fuel x
theorem X_:∀ m,am Tryz.prog ⟨104,.call,(.prod (.prod (.int .i64) (.prod (.list (.prod (.int .i64) (.prod (.list (.int .i64)) .unit))) .unit)) (.prod (.int .i64) (.prod (.list (.int .i64)) (.prod (.list (.int .i64)) (.prod (.int .i64) .unit))))),be,false,true,WC m⟩
 | 0=>fun _ _ _ _ _ _ _=>trivial
 | m+1=>bi (l:=XV (WC m)) (arg:=(.prod (.prod (.int .i64) (.prod (.list (.prod (.int .i64) (.prod (.list (.int .i64)) .unit))) .unit)) (.prod (.int .i64) (.prod (.list (.int .i64)) (.prod (.list (.int .i64)) (.prod (.int .i64) .unit)))))) (res:=be) (multi:=false) (own:=true) (F:=WC (m+1)) mixed (all_cons Zi (all_cons (X_ m) aO)) Tryz.func104 rfl XB fun x _=>⟨fuel,Zo (WC m) fuel x⟩
def f104 (x:((Int×((List (Int×((List Int)×Unit)))×Unit))×(Int×((List Int)×((List Int)×(Int×Unit)))))):Out (List (List Int)):=WC fuel x
def YL:Spec:=⟨104,.call,(.prod (.prod (.int .i64) (.prod (.list (.prod (.int .i64) (.prod (.list (.int .i64)) .unit))) .unit)) (.prod (.int .i64) (.prod (.list (.int .i64)) (.prod (.list (.int .i64)) (.prod (.int .i64) .unit))))),be,false,true,f104⟩
theorem Y7:am Tryz.prog YL:=X_ fuel
def Xj:List Spec:=[]
def Xh:List (Nat×List Nat):=[(3,[1,2,5,6,7]),(7,[1,2,5,6,7,8,9])]
def L105_1 (N n0 n1:Nat) (x:dZ) (f_3:Int) (met_4:(List Int)) (all_5:(List Int)) (is_6:Bool) (i_7:Int):Out (List Int) :=
 bS Tryz.prog (ah Xj) Xh N Tryz.f105 false true (.list (.int .i64)) [.at 1,.at 1,.at 0,.at 1,.at 0,.at n0,.at 1,.at 0,.at 0,.at 1,.at 0,.at 1,.at 0] n1 [U,.d (.int .i64) x.2.1,.box [.d (.int .i64) x.1.1,.d ba x.1.2.1],U,U,.own (.int .i64) met_4 false,.own (.int .i64) all_5 false,.d (.int .i64) f_3,.d .bool is_6,.d (.int .i64) i_7,U,U,U,U,U,U,U,U,U,U,U,U,U,U,U,U,U,U,U,U,U,U,U,U,U,U,U,U,U,U,U,U,U,U,U,U,U,U,U]
def L105_0 (N n0:Nat) (x:dZ) (met_1:(List Int)) (all_2:(List Int)) (f_3:Int):Out (List Int) :=
 bS Tryz.prog (ah Xj) Xh N Tryz.f105 false true (.list (.int .i64)) [.at 1,.at 1,.at 0,.at 1,.at 0] n0 [U,.d (.int .i64) x.2.1,.box [.d (.int .i64) x.1.1,.d ba x.1.2.1],U,U,.own (.int .i64) met_1 false,.own (.int .i64) all_2 false,.d (.int .i64) f_3,U,U,U,U,U,U,U,U,U,U,U,U,U,U,U,U,U,U,U,U,U,U,U,U,U,U,U,U,U,U,U,U,U,U,U,U,U,U,U,U,U]
theorem L105_1_succ (N n0 n1:Nat) (x:dZ) (f_3:Int) (met_4:(List Int)) (all_5:(List Int)) (is_6:Bool) (i_7:Int):L105_1 N n0 (n1+1) x f_3 met_4 all_5 is_6 i_7 =
 (match (decide (i_7<(ae x.1.2.1))) with|true=>(match is_6 with|true=>L105_1 N n0 n1 x f_3 met_4 all_5 true (IntKind.i64.wrap (i_7+1))|false=>bif (ax i_7 x.1.2.1.length) then bif (ax x.2.1 ((List.getD x.1.2.1 i_7.toNat (0,([],())))).2.1.length) then L105_1 N n0 n1 x f_3 met_4 all_5 ((List.getD ((List.getD x.1.2.1 i_7.toNat (0,([],())))).2.1 x.2.1.toNat 0)==f_3) (IntKind.i64.wrap (i_7+1)) else .fail else .fail)|false=>match is_6 with|true=>bif (bQ met_4 ([f_3]:List Int)) then bif (bQ all_5 ([f_3]:List Int)) then L105_0 N n0 x (met_4++([f_3]:List Int)) (all_5++([f_3]:List Int)) (IntKind.i64.wrap (f_3+1)) else .fail else .fail|false=>bif (bQ all_5 ([f_3]:List Int)) then L105_0 N n0 x met_4 (all_5++([f_3]:List Int)) (IntKind.i64.wrap (f_3+1)) else .fail:Out (List Int)):=by kernel_rfl
theorem L105_0_succ (N n0:Nat) (x:dZ) (met_1:(List Int)) (all_2:(List Int)) (f_3:Int):L105_0 N  (n0+1) x met_1 all_2 f_3 =
 (match (decide (f_3<=9)) with|true=>L105_1 N n0 N x f_3 met_1 all_2 false 0|false=>match ((ae met_1)==0) with|true=>.ret all_2|false=>.ret met_1:Out (List Int)):=by kernel_rfl
def X5 (N:Nat) (x:dZ):Out (List Int):=L105_0 N N x [] [] 0
theorem Zp (N:Nat) (x:dZ):aW Tryz.prog (ah Xj) Xh N Tryz.f105 false true fy (.list (.int .i64)) x=X5 N x:=by kernel_rfl
def f105 (x:dZ):Out (List Int):=X5 fuel x
def YM:Spec:=⟨105,.call,fy,(.list (.int .i64)),false,true,f105⟩
theorem Y8:am Tryz.prog YM:=bi (l:=Xj) (arg:=fy) (res:=(.list (.int .i64))) (multi:=false) (own:=true) (F:=f105) mixed aO Tryz.func105 rfl Xh fun x _=>⟨fuel,Zp fuel x⟩
def YR:List Spec:=[Vm]
def Yy:List (Nat×List Nat):=[]
def Xp (N:Nat) (x:dZ):Out Bool:=match f61 (x.2.1,(0,((IntKind.i64.wrap ((ae x.1.2.1) - 1)),()))) with | .ret r=>.ret r | .pan p=>.pan p | .fail=>.fail
theorem Zs (N:Nat) (x:dZ):aW Tryz.prog (ah YR) Yy N Tryz.f18 false false fy .bool x=Xp N x:=by kernel_rfl
def f18 (x:dZ):Out Bool:=Xp fuel x
def Z9:Spec:=⟨18,.call,fy,.bool,false,false,f18⟩
theorem Y_:am Tryz.prog Z9:=bi (l:=YR) (arg:=fy) (res:=.bool) (multi:=false) (own:=false) (F:=f18) mixed (all_cons Xb aO) Tryz.func18 rfl Yy fun x _=>⟨fuel,Zs fuel x⟩
def YT:List Spec:=[Vm]
def YA:List (Nat×List Nat):=[]
def Xt (N:Nat) (x:dZ):Out Bool:=match f61 (x.2.1,(0,((IntKind.i64.wrap (x.1.1 - 1)),()))) with | .ret r=>.ret r | .pan p=>.pan p | .fail=>.fail
theorem Zx (N:Nat) (x:dZ):aW Tryz.prog (ah YT) YA N Tryz.f39 false false fy .bool x=Xt N x:=by kernel_rfl
def f39 (x:dZ):Out Bool:=Xt fuel x
def aab:Spec:=⟨39,.call,fy,.bool,false,false,f39⟩
theorem Ze:am Tryz.prog aab:=bi (l:=YT) (arg:=fy) (res:=.bool) (multi:=false) (own:=false) (F:=f39) mixed (all_cons Xb aO) Tryz.func39 rfl YA fun x _=>⟨fuel,Zx fuel x⟩
def YU:List Spec:=[Vm]
def YC:List (Nat×List Nat):=[]
theorem ZA (N:Nat) (x:(Int×Unit)):aW Tryz.prog (ah YU) YC N Tryz.f46 false false (.prod (.int .i64) .unit) .bool x=CF N x:=by kernel_rfl
theorem Yh:am Tryz.prog Ij:=bi (l:=YU) (arg:=(.prod (.int .i64) .unit)) (res:=.bool) (multi:=false) (own:=false) (F:=f46) mixed (all_cons Xb aO) Tryz.func46 rfl YC fun x _=>⟨fuel,ZA fuel x⟩
def X4:List Spec:=[YM,YL]
def XG:List (Nat×List Nat):=[(3,[1,2,5])]
def L67_0 (N n0:Nat) (x:dZ) (n_1:Int):Out (List (List Int)) :=
 bS Tryz.prog (ah X4) XG N Tryz.f67 false true be [.at 1,.at 1,.at 0] n0 [U,.d (.int .i64) x.2.1,.box [.d (.int .i64) x.1.1,.d ba x.1.2.1],U,U,.d (.int .i64) n_1,U,U,U,U,U,U,U,U,U,U,U,U,U,U]
theorem L67_0_succ (N n0:Nat) (x:dZ) (n_1:Int):L67_0 N  (n0+1) x n_1 =
 (match f105 (x.1,(x.2.1,())) with | .ret r_2=>(match f104 (x.1,(x.2.1,([],(r_2,(n_1,()))))) with | .ret r_4=>(match (decide ((ae r_4) > 0)) with|true=>.ret r_4|false=>L67_0 N n0 x (IntKind.i64.wrap (n_1+1))) | .pan p=>.pan p | .fail=>.fail) | .pan p=>.pan p | .fail=>.fail:Out (List (List Int))):=by kernel_rfl
def X7 (N:Nat) (x:dZ):Out (List (List Int)):=L67_0 N N x 0
theorem ZD (N:Nat) (x:dZ):aW Tryz.prog (ah X4) XG N Tryz.f67 false true fy be x=X7 N x:=by kernel_rfl
def f67 (x:dZ):Out (List (List Int)):=X7 fuel x
def XU:Spec:=⟨67,.call,fy,be,false,true,f67⟩
theorem Yi:am Tryz.prog XU:=bi (l:=X4) (arg:=fy) (res:=be) (multi:=false) (own:=true) (F:=f67) mixed (all_cons Y8 (all_cons Y7 aO)) Tryz.func67 rfl XG fun x _=>⟨fuel,ZD fuel x⟩
theorem Zr (N:Nat) (x:aS):aW Tryz.prog (ah IE) FG N Tryz.f17 false false cB .bool x=CB N x:=by kernel_rfl
def YO:Spec:=⟨17,.call,cB,.bool,false,false,f17⟩
theorem Y':am Tryz.prog YO:=bi (l:=IE) (arg:=cB) (res:=.bool) (multi:=false) (own:=false) (F:=f17) mixed (all_cons Xb (all_cons Yh aO)) Tryz.func17 rfl FG fun x _=>⟨fuel,Zr fuel x⟩
def YS:List Spec:=[YN,YO]
def Yz:List (Nat×List Nat):=[]
def Xq (N:Nat) (x:aS):Out Bool:=match f13 (x.1,()) with | .ret r_1=>(match r_1 with|true=>(match f17 (x.1,()) with | .ret r=>.ret r | .pan p=>.pan p | .fail=>.fail)|false=>.ret false) | .pan p=>.pan p | .fail=>.fail
theorem Zt (N:Nat) (x:aS):aW Tryz.prog (ah YS) Yz N Tryz.f22 false false cB .bool x=Xq N x:=by kernel_rfl
def f22 (x:aS):Out Bool:=Xq fuel x
def Z':Spec:=⟨22,.call,cB,.bool,false,false,f22⟩
theorem Za:am Tryz.prog Z':=bi (l:=YS) (arg:=cB) (res:=.bool) (multi:=false) (own:=false) (F:=f22) mixed (all_cons Y9 (all_cons Y' aO)) Tryz.func22 rfl Yz fun x _=>⟨fuel,Zt fuel x⟩
def XX:List Spec:=[XU]
def XD:List (Nat×List Nat):=[(3,[1,3,4])]
def L30_0 (N n0:Nat) (x:aS) (n_1:Int) (p_2:Int):Out Int :=
 bS Tryz.prog (ah XX) XD N Tryz.f30 false false (.int .i64) [.at 1,.at 1,.at 0,.at 1,.at 0] n0 [U,.box [.d (.int .i64) x.1.1,.d ba x.1.2.1],U,.d (.int .i64) n_1,.d (.int .i64) p_2,U,U,U,U,U,U,U,U,U,U,U,U,U]
theorem L30_0_succ (N n0:Nat) (x:aS) (n_1:Int) (p_2:Int):L30_0 N  (n0+1) x n_1 p_2 =
 (match (decide (p_2<x.1.1)) with|true=>(match f67 (x.1,(p_2,())) with | .ret r_3=>L30_0 N n0 x (IntKind.i64.wrap (n_1 * (ae r_3))) (IntKind.i64.wrap (p_2+1)) | .pan p=>.pan p | .fail=>.fail)|false=>.ret n_1:Out Int):=by kernel_rfl
def Xr (N:Nat) (x:aS):Out Int:=L30_0 N N x 1 0
theorem Zu (N:Nat) (x:aS):aW Tryz.prog (ah XX) XD N Tryz.f30 false false cB (.int .i64) x=Xr N x:=by kernel_rfl
def f30 (x:aS):Out Int:=Xr fuel x
def YP:Spec:=⟨30,.call,cB,(.int .i64),false,false,f30⟩
theorem Zb:am Tryz.prog YP:=bi (l:=XX) (arg:=cB) (res:=(.int .i64)) (multi:=false) (own:=false) (F:=f30) mixed (all_cons Yi aO) Tryz.func30 rfl XD fun x _=>⟨fuel,Zu fuel x⟩
theorem Zw (N:Nat) (x:cG):aW Tryz.prog (ah II) FK N Tryz.f32 false false ef .bool x=CE N x:=by kernel_rfl
def aaa:Spec:=⟨32,.call,ef,.bool,false,false,f32⟩
theorem Zd:am Tryz.prog aaa:=bi (l:=II) (arg:=ef) (res:=.bool) (multi:=false) (own:=false) (F:=f32) mixed (all_cons Yh aO) Tryz.func32 rfl FK fun x _=>⟨fuel,Zw fuel x⟩
def Xk:List Spec:=[XU,YP]
def Xi:List (Nat×List Nat):=[(4,[1,3,7,8,9]),(8,[1,3,7,8,9,10,11])]
def L43_1 (N n0 n1:Nat) (x:eV) (most_4:Int) (f_5:Int) (l_6:(List (List Int))) (n_7:Int) (i_8:Int):Out Int :=
 bS Tryz.prog (ah Xk) Xi N Tryz.f43 false false (.int .i64) [.at 1,.at 1,.at 1,.at 0,.at 1,.at 0,.at n0,.at 1,.at 0,.at 0,.at 1,.at 0,.at 1,.at 0] n1 [U,.d (.int .i64) x.2.1,U,.box [.d (.int .i64) x.1.1,.d ba x.1.2.1],U,U,U,.own (.list (.int .i64)) l_6 false,.d (.int .i64) most_4,.d (.int .i64) f_5,.d (.int .i64) n_7,.d (.int .i64) i_8,U,U,U,U,U,U,U,U,U,U,U,U,U,U,U,U,U,U,U,U,U,U,U,U,U,U,U,U,U,U,U,U,U,U]
def L43_0 (N n0:Nat) (x:eV) (l_3:(List (List Int))) (most_4:Int) (f_5:Int):Out Int :=
 bS Tryz.prog (ah Xk) Xi N Tryz.f43 false false (.int .i64) [.at 1,.at 1,.at 1,.at 0,.at 1,.at 0] n0 [U,.d (.int .i64) x.2.1,U,.box [.d (.int .i64) x.1.1,.d ba x.1.2.1],U,U,U,.own (.list (.int .i64)) l_3 false,.d (.int .i64) most_4,.d (.int .i64) f_5,U,U,U,U,U,U,U,U,U,U,U,U,U,U,U,U,U,U,U,U,U,U,U,U,U,U,U,U,U,U,U,U,U,U,U,U]
theorem L43_1_succ (N n0 n1:Nat) (x:eV) (most_4:Int) (f_5:Int) (l_6:(List (List Int))) (n_7:Int) (i_8:Int):L43_1 N n0 (n1+1) x most_4 f_5 l_6 n_7 i_8 =
 (match (decide (i_8<(ae l_6))) with|true=>bif (ax i_8 l_6.length) then bif (ax x.2.1 (List.getD l_6 i_8.toNat []).length) then match ((List.getD (List.getD l_6 i_8.toNat []) x.2.1.toNat 0)==f_5) with|true=>L43_1 N n0 n1 x most_4 f_5 l_6 (IntKind.i64.wrap (n_7+1)) (IntKind.i64.wrap (i_8+1))|false=>L43_1 N n0 n1 x most_4 f_5 l_6 n_7 (IntKind.i64.wrap (i_8+1)) else .fail else .fail|false=>L43_0 N n0 x l_6 (if n_7 > most_4 then n_7 else most_4) (IntKind.i64.wrap (f_5+1)):Out Int):=by kernel_rfl
theorem L43_0_succ (N n0:Nat) (x:eV) (l_3:(List (List Int))) (most_4:Int) (f_5:Int):L43_0 N  (n0+1) x l_3 most_4 f_5 =
 (match (decide (f_5<=9)) with|true=>L43_1 N n0 N x most_4 f_5 l_3 0 0|false=>match f30 (x.1,()) with | .ret r_9=>bif ((ae l_3) != 0) then .ret (IntKind.i64.wrap (most_4 * (IntKind.i64.wrap (r_9.tdiv (ae l_3))))) else .fail | .pan p=>.pan p | .fail=>.fail:Out Int):=by kernel_rfl
def Xu (N:Nat) (x:eV):Out Int:=match f67 (x.1,(x.2.2.1,())) with | .ret r_1=>L43_0 N N x r_1 0 0 | .pan p=>.pan p | .fail=>.fail
theorem Zy (N:Nat) (x:eV):aW Tryz.prog (ah Xk) Xi N Tryz.f43 false false iM (.int .i64) x=Xu N x:=by kernel_rfl
def f43 (x:eV):Out Int:=Xu fuel x
def aac:Spec:=⟨43,.call,iM,(.int .i64),false,false,f43⟩
theorem Zg:am Tryz.prog aac:=bi (l:=Xk) (arg:=iM) (res:=(.int .i64)) (multi:=false) (own:=false) (F:=f43) mixed (all_cons Yi (all_cons Zb aO)) Tryz.func43 rfl Xi fun x _=>⟨fuel,Zy fuel x⟩
theorem WY {t:ac} {place:Int} (h:Ground (aJ t) place) {l:List Int} (hl:Best t place l):gM t place=fF t l:=by
 obtain ⟨l',h1,h2⟩:=sQ h;have:=h1.few l hl.vc;have:=hl.few l' h1.vc;omega
theorem Zm {t:ac} {k:Nat} (l:List Int):eQ t k l<=k:=Jb fun i _=>by split<;>(try split)<;>omega
theorem Yv {t:ac} {place:Int} (ht:TreeP t place) {l:List Int} (hl:l.length<=t.2.1.length):f66 (t,(l,())) = .ret (eQ t l.length l):=by
 have hlen:=ht.len;have loop:∀ (d n i:Nat),d<n->i+d=l.length->1<=i->L66_0 fuel n (t,(l,())) (eQ t i l) i = .ret (eQ t l.length l):=by
  intro d
  induction d with
  | zero =>
   intro n i hn hi h1;obtain ⟨n,rfl⟩:=km hn;rw [L66_0_succ]
   try delta ae
   simp only [dF (show ¬ (i:Int)<l.length by omega)];rw [show i=l.length by omega]
  | succ d ih =>
   intro n i hn hi h1;obtain ⟨n,rfl⟩:=km hn;rw [L66_0_succ]
   try delta ae
   have hp:=ht.par i h1 (by omega);have hpi:(List.getD t.2.1 i ((0:Int),(([]:List Int),()))).1=bC t i:=rfl;simp only [dT (show (i:Int)<l.length by omega),aY (show (0:Int)<=i by omega) (show (i:Int)<l.length by omega),aY (show (0:Int)<=i by omega) (show (i:Int)<t.2.1.length by omega),hpi,
    aY hp.1 (show bC t i<l.length by omega),cond_true,Int.toNat_natCast,wn (show i<1000000000 by omega)]
   have e:eQ t (i+1) l=eQ t i l+(if l.getD i 0=l.getD (aZ t i) 0 then 0 else 1):=by
    show eQ t i l+(if i=0 then 0 else if l.getD i 0=l.getD (aZ t i) 0 then 0 else 1)=_;rw [if_neg (by omega)]
   have hc:=Nf (t:=t) (k:=i) l;have hc2:=Zm (t:=t) (k:=i) l
   by_cases hq:l.getD i 0=l.getD (aZ t i) 0
   . have hq':l.getD i 0=l.getD (bC t i).toNat 0:=hq;rw [if_pos hq,Int.add_zero] at e;simp only [nF hq'];rw [<- e];exact ih n (i+1) (by omega) (by omega) (by omega)
   . have hq':l.getD i 0≠l.getD (bC t i).toNat 0:=hq;rw [if_neg hq] at e;simp only [nT hq'];rw [wr (by omega) (by omega),<- e];exact ih n (i+1) (by omega) (by omega) (by omega)
 show L66_0 fuel fuel (t,(l,())) 0 1=_;have hfb:=bK
 by_cases h0:l.length=0
 . obtain ⟨n,hn⟩:=km (show 0<fuel by omega)
   conv=>lhs;rw [hn]
   rw [<- hn];have:L66_0 fuel (n+1) (t,(l,())) 0 1 = .ret (0:Int):=by
    rw [L66_0_succ]
    try delta ae
    simp only [h0,dF (show ¬ (1:Int)<((0:Nat):Int) by omega)]
   rw [<- hn] at this;rw [this,h0];rfl
 . have:=loop (l.length - 1) fuel 1 (by omega) (by omega) (Nat.le_refl _);exact this
theorem ZY (t:ac) (place:Int) (k:Nat):fV t place (k+1)=fV t place k++(if tj t place k then [(k:Int)] else []):=by
 unfold fV;rw [List.range_succ,List.map_append,List.filter_append]
 congr 1
 simp only [List.map_cons,List.map_nil,List.filter_cons,List.filter_nil]
theorem ZX (t:ac) (place:Int) (k:Nat):(fV t place k).length<=k:=by
 unfold fV;refine Nat.le_trans (List.length_filter_le _ _) ?_;simp
theorem Yo {t:ac} {place:Int} (ht:TreeP t place):f105 (t,(place,())) = .ret (eX t place):=by
 have hlen:=ht.len;have hfb:=bK;have inner:∀ (n0 f:Nat),f<=9->∀ (d n i:Nat),d<n->i+d=t.2.1.length ->
  L105_1 fuel n0 n (t,(place,())) f (fV t place f) (dV f) ((List.range i).any fun j=>aH t j place==(f:Int)) i=L105_0 fuel n0 (t,(place,())) (fV t place (f+1)) (dV (f+1)) ((f+1:Nat):Int):=by
  intro n0 f hf d
  induction d with
  | zero =>
   intro n i hn hi;obtain ⟨n,rfl⟩:=km hn;rw [L105_1_succ]
   try delta ae
   obtain rfl:i=t.2.1.length:=by omega
   have hm:=ZX t place f;have ha:=Lc f;simp only [dF (show ¬ ((t.2.1.length:Nat):Int)<t.2.1.length by omega),kL (show (fV t place f).length+[(f:Int)].length<1000000 by simp;omega),kL (show (dV f).length+[(f:Int)].length<1000000 by simp;omega),cond_true,wn (show f<1000000000 by omega)];rw [ZY,Le];unfold tj;cases (List.range t.2.1.length).any fun j=>aH t j place==(f:Int) with
   | true=>rfl
   | false=>simp
  | succ d ih =>
   intro n i hn hi;obtain ⟨n,rfl⟩:=km hn;rw [L105_1_succ]
   try delta ae
   have hs:=ht.seen i (by omega);have hstep:((List.range (i+1)).any fun j=>aH t j place==(f:Int))=(((List.range i).any fun j=>aH t j place==(f:Int)) || (aH t i place==(f:Int))):=by
    rw [List.range_succ,List.any_append];simp
   have hih:=ih n (i+1) (by omega) (by omega);rw [hstep] at hih;have e:((List.getD t.2.1 i ((0:Int),(([]:List Int),()))).2.1).getD place.toNat 0=aH t i place:=by unfold aH;rw [Int.toNat_natCast]
   simp only [dT (show (i:Int)<t.2.1.length by omega),aY (show (0:Int)<=i by omega) (show (i:Int)<t.2.1.length by omega),Int.toNat_natCast,aY ht.pos hs,cond_true,wn (show i<1000000000 by omega),e];cases hc:(List.range i).any fun j=>aH t j place==(f:Int) with
   | true =>
    rw [hc,Bool.true_or] at hih;exact hih
   | false =>
    rw [hc,Bool.false_or] at hih;exact hih
 have outer:∀ (d n f:Nat),d<n->f+d=10->L105_0 fuel n (t,(place,())) (fV t place f) (dV f) f = .ret (eX t place):=by
  intro d
  induction d with
  | zero =>
   intro n f hn hf;obtain ⟨n,rfl⟩:=km hn;obtain rfl:f=10:=by omega
   rw [L105_0_succ]
   try delta ae
   simp only [dF (show ¬ ((10:Nat):Int)<=9 by omega)];unfold eX
   by_cases hm:fV t place 10=[]
   . rw [if_pos hm];simp only [hm,List.length_nil];rfl
   . have:((fV t place 10).length:Int)≠0:=fun h=>hm (List.eq_nil_of_length_eq_zero (by omega))
     rw [if_neg hm];simp only [eF this]
  | succ d ih =>
   intro n f hn hf;obtain ⟨n,rfl⟩:=km hn;rw [L105_0_succ]
   try delta ae
   simp only [dT (show (f:Int)<=9 by omega)];rw [show (false:Bool)=((List.range 0).any fun j=>aH t j place==(f:Int)) from rfl];exact (inner n f (by omega) t.2.1.length fuel 0 (by omega) (by omega)).trans (ih n (f+1) (by omega) (by omega))
 exact outer 10 fuel 0 (by omega) rfl
theorem Yx {α:Type} {F:Int->List α} {S:List Int} {i:Nat} (h:i<S.length):(S.take (i+1)).flatMap F=(S.take i).flatMap F++F (S.getD i 0):=by
 have e:S.take (i+1)=S.take i++[S.getD i 0]:=by
  rw [List.take_succ,List.getElem?_eq_getElem h,List.getD_eq_getElem?_getD,List.getElem?_eq_getElem h];rfl
 rw [e,List.flatMap_append];simp
theorem ZR {α:Type} {F:Int->List α} {S:List Int} (i:Nat):((S.take i).flatMap F).length<=(S.flatMap F).length:=by
 conv=>rhs;rw [<- List.take_append_drop i S]
 rw [List.flatMap_append,List.length_append];omega
theorem ZI {t:ac} {place most:Int} (ht:TreeP t place) {S:List Int} (hS:S.length<=100) (hB:∀ k now,now.length+k=t.2.1.length->(dO (gt t place most) S k now).length<=1000) :
 ∀ (k m:Nat) (now:List Int),k<m->now.length+k=t.2.1.length->WC m (t,(place,(now,(S,(most,()))))) = .ret (if eQ t now.length now > most then [] else dO (gt t place most) S k now):=by
 intro k;have hlen:=ht.len;have hfb:=bK
 induction k with
 | zero =>
  intro m now hm hk;obtain ⟨m,rfl⟩:=km hm;show WS (WC m) fuel _=_;unfold WS
  try delta ae
  simp only [Yv ht (l:=now) (by omega),eT (show (now.length:Int)=t.2.1.length by omega)]
  by_cases hc:eQ t now.length now > most
  . simp only [dT hc,if_pos hc]
  . simp only [dF hc,if_neg hc,dO]
 | succ k ih =>
  intro m now hm hk;obtain ⟨m,rfl⟩:=km hm;have hs:=ht.seen now.length (by omega);have hin:ax (now.length:Int) t.2.1.length=true:=aY (by omega) (by omega);show WS (WC m) fuel _=_;unfold WS
  try delta ae
  simp only [Yv ht (l:=now) (by omega),eF (show (now.length:Int)≠t.2.1.length by omega),hin,Int.toNat_natCast,aY ht.pos hs,cond_true]
  by_cases hc:eQ t now.length now > most
  . simp only [dT hc,if_pos hc]
  . simp only [dF hc,if_neg hc];obtain ⟨F,hF⟩:∃ F:Int->List (List Int),F=fun g=>if gt t place most now g then dO (gt t place most) S k (now++[g]) else []:=⟨_,rfl⟩
    have hall:dO (gt t place most) S (k+1) now=S.flatMap F:=by rw [hF];rfl
    have hb:=hB (k+1) now hk;rw [hall] at hb ⊢;have hown:((List.getD t.2.1 now.length ((0:Int),(([]:List Int),()))).2.1).getD place.toNat 0=aH t now.length place:=by unfold aH;rw [Int.toNat_natCast]
    have loop:∀ (d n i:Nat),d<n->i+d=S.length->L104_0 (WC m) fuel n (t,(place,(now,(S,(most,()))))) ((S.take i).flatMap F) i = .ret (S.flatMap F):=by
     intro d
     induction d with
     | zero =>
      intro n i hn hi;obtain ⟨n,rfl⟩:=km hn;rw [L104_0_succ]
      try delta ae
      simp only [dF (show ¬ (i:Int)<S.length by omega)];rw [List.take_of_length_le (by omega)]
     | succ d ihd =>
      intro n i hn hi;obtain ⟨n,rfl⟩:=km hn;rw [L104_0_succ]
      try delta ae
      have hnext:=ihd n (i+1) (by omega) (by omega);rw [Yx (by omega)] at hnext;have hle:=ZR (F:=F) (S:=S) (i+1);rw [Yx (by omega),List.length_append] at hle;have hcall:WC m (t,(place,(now++[S.getD i 0],(S,(most,()))))) = .ret (if eQ t (now.length+1) (now++[S.getD i 0]) > most then [] else dO (gt t place most) S k (now++[S.getD i 0])):=by
       have:=ih m (now++[S.getD i 0]) (by omega) (by simp;omega);rw [this,List.length_append];rfl
      have hiS:ax (i:Int) S.length=true:=aY (by omega) (by omega);have hf1:bQ ([]:List Int) now=true:=kL (by simp;omega);have hf2:bQ now [S.getD i 0]=true:=kL (by simp;omega);have hfo:∀ g:List (List Int),g=F (S.getD i 0)->bQ ((S.take i).flatMap F) g=true:=fun g hg=>kL (by rw [hg];omega)
      simp only [dT (show (i:Int)<S.length by omega),Int.toNat_natCast,hown,hf1,hiS,cond_true,hf2,hcall,wn (show i<1000000000 by omega)]
      by_cases ho:aH t now.length place<0
      . have hFg:(if eQ t (now.length+1) (now++[S.getD i 0]) > most then [] else dO (gt t place most) S k (now++[S.getD i 0]))=F (S.getD i 0):=by
         rw [hF];dsimp only
         by_cases hq:eQ t (now.length+1) (now++[S.getD i 0]) > most
         . rw [if_pos hq,if_neg fun h=>by have:=(zE.1 h).2;omega]
         . rw [if_neg hq,if_pos (zE.2 ⟨.inl ho,by omega⟩)]
        simp only [dT ho,hFg,hfo _ rfl,cond_true];exact hnext
      . simp only [dF ho]
        by_cases hg:S.getD i 0=aH t now.length place
        . have hFg:(if eQ t (now.length+1) (now++[S.getD i 0]) > most then [] else dO (gt t place most) S k (now++[S.getD i 0]))=F (S.getD i 0):=by
           rw [hF];dsimp only
           by_cases hq:eQ t (now.length+1) (now++[S.getD i 0]) > most
           . rw [if_pos hq,if_neg fun h=>by have:=(zE.1 h).2;omega]
           . rw [if_neg hq,if_pos (zE.2 ⟨.inr hg,by omega⟩)]
          simp only [eT hg,hFg,hfo _ rfl,cond_true];exact hnext
        . have hFg:F (S.getD i 0)=[]:=by
           rw [hF];dsimp only;rw [if_neg fun h=>(zE.1 h).1.elim (fun h=>ho h) fun h=>hg h]
          rw [hFg,List.append_nil] at hnext;simp only [eF hg];exact hnext
    exact loop S.length fuel 0 (by omega) (by omega)
open Classical in
theorem Zn {t:ac} {place most:Int} (ht:TreeP t place) (h:most<gM t place):dO (gt t place most) (eX t place) t.2.1.length []=[]:=by
 rw [Nn ht];refine List.filter_eq_nil_iff.2 fun l _=>?_
 rw [decide_eq_true_eq];rintro ⟨h1,h2,_⟩;obtain ⟨l',h3,h4⟩:=sQ ht.ground;have:=h3.few l h1;omega
theorem Yw {t:ac} {place:Int} (ht:TreeP t place):f67 (t,(place,())) = .ret (aq t place):=by
 have hfb:=bK;have hb:=yb ht;have hlen:=ht.len;have hgo:∀ most:Int,0<=most->(fV t place 10≠[]\/most=0)->f104 (t,(place,(([]:List Int),(eX t place,(most,()))))) = .ret (dO (gt t place most) (eX t place) t.2.1.length []):=fun most h0 hm=>by
  have:=ZI (most:=most) ht (S:=eX t place) (by have:=UB t place;omega) (fun k now hk=>by have:=Um ht hm k now hk;omega) t.2.1.length fuel [] (by omega) (by simp);refine Eq.trans this ?_;have e:eQ t ([]:List Int).length []=0:=rfl;rw [e,if_neg (by omega)]
 have loop:∀ (d n i:Nat),d<n->(i:Int)+d=gM t place->L67_0 fuel n (t,(place,())) i = .ret (aq t place):=by
  intro d
  induction d with
  | zero =>
   intro n i hn hi;obtain ⟨n,rfl⟩:=km hn;rw [L67_0_succ]
   try delta ae
   have hi':(i:Int)=gM t place:=by omega
   have hg:=hgo i (by omega) (by
    by_cases h:fV t place 10=[]
    . exact .inr (by rw [hi'];exact OO ht h)
    . exact .inl h)
   rw [hi',Nl ht] at hg;have hpos:0<(aq t place).length:=List.length_pos_iff.2 (rh ht);simp only [Yo ht,hi',hg,dT (show ((aq t place).length:Int) > 0 by omega)]
  | succ d ih =>
   intro n i hn hi;obtain ⟨n,rfl⟩:=km hn;rw [L67_0_succ]
   try delta ae
   have hg:=hgo i (by omega) (by
    by_cases h:fV t place 10=[]
    . have:=OO ht h;omega
    . exact .inl h)
   rw [Zn ht (by omega)] at hg;simp only [Yo ht,hg,List.length_nil,wn (show i<1000000000 by omega)];exact ih n (i+1) (by omega) (by omega)
 exact loop (gM t place).toNat fuel 0 (by omega) (by omega)
theorem ZJ (t:ac):∃ b,f13 (t,()) = .ret b:=by
 have hfb:=bK;unfold f13 Xo;have done:∀ n i:Nat,¬ (i:Int)<t.2.1.length\/¬ i<10->∃ b,L13_0 fuel (n+1) (t,()) i = .ret b:=fun n i h=>by
  rw [L13_0_succ]
  try delta ae
  by_cases h1:(i:Int)<t.2.1.length
  . have h2:¬ (i:Int)<10:=by rcases h with h|h<;>omega
    simp only [dT h1,dF h2];exact ⟨_,rfl⟩
  . simp only [dF h1];exact ⟨_,rfl⟩
 have loop:∀ (d n i:Nat),d<n->i+d=10->∃ b,L13_0 fuel n (t,()) i = .ret b:=by
  intro d
  induction d with
  | zero =>
   intro n i hn hi;obtain ⟨n,rfl⟩:=km hn;exact done n i (.inr (by omega))
  | succ d ih =>
   intro n i hn hi;obtain ⟨n,rfl⟩:=km hn
   by_cases h1:(i:Int)<t.2.1.length
   . rw [L13_0_succ]
     try delta ae
     simp only [dT h1,dT (show (i:Int)<10 by omega),aY (show (0:Int)<=i by omega) h1,cond_true,wn (show i<1000000000 by omega)];split
     . exact ⟨_,rfl⟩
     . exact ih n (i+1) (by omega) (by omega)
   . exact done n i (.inl h1)
 exact loop 10 fuel 0 (by omega) (by omega)
theorem ZK {t:ac} (n:Int) (h:t.2.1.length<1000000):f18 (t,(n,())) = .ret (decide (0<=n/\n<t.2.1.length)):=by
 unfold f18 Xp
 try delta ae
 simp only [zc];rw [wr (by omega) (by omega)]
 by_cases h1:0<=n/\n<t.2.1.length
 . rw [dT h1,dT (by omega)]
 . rw [dF h1,dF (by omega)]
theorem ZL (t:ac):f22 (t,()) = .ret false\/(f22 (t,()) = .ret true/\TreeOK t):=by
 obtain ⟨b,h⟩:=ZJ t;unfold f22 Xq;cases b with
 | false=>simp only [h];exact .inl trivial
 | true =>
  simp only [h];rcases V3 (t:=t) with ⟨h1,h2,_⟩|⟨h1,h2,_⟩
  . simp only [h2];exact .inr ⟨trivial,h1⟩
  . simp only [h2];exact .inl trivial
theorem ZN (s:List (List Int)):∃ b,f31 (s,()) = .ret b:=by
 have hfb:=bK;unfold f31 Xs;have done:∀ n i:Nat,¬ (i:Int)<s.length\/¬ i<12->∃ b,L31_0 fuel (n+1) (s,()) i = .ret b:=fun n i h=>by
  rw [L31_0_succ]
  try delta ae
  by_cases h1:(i:Int)<s.length
  . have h2:¬ (i:Int)<12:=by rcases h with h|h<;>omega
    simp only [dT h1,dF h2];exact ⟨_,rfl⟩
  . simp only [dF h1];exact ⟨_,rfl⟩
 have loop:∀ (d n i:Nat),d<n->i+d=12->∃ b,L31_0 fuel n (s,()) i = .ret b:=by
  intro d
  induction d with
  | zero =>
   intro n i hn hi;obtain ⟨n,rfl⟩:=km hn;exact done n i (.inr (by omega))
  | succ d ih =>
   intro n i hn hi;obtain ⟨n,rfl⟩:=km hn
   by_cases h1:(i:Int)<s.length
   . rw [L31_0_succ]
     try delta ae
     simp only [dT h1,dT (show (i:Int)<12 by omega),aY (show (0:Int)<=i by omega) h1,cond_true,wn (show i<1000000000 by omega)];split
     . exact ⟨_,rfl⟩
     . exact ih n (i+1) (by omega) (by omega)
   . exact done n i (.inl h1)
 exact loop 12 fuel 0 (by omega) (by omega)
theorem ZM {t:ac} (ht:TreeOK t):f30 (t,()) = .ret (iZ t (-1)):=by
 have hfb:=bK;obtain ⟨P,hP,hP1,hP3⟩:=ht.pl;unfold f30 Xr;have key:=dQ (L:=fun n p=>L30_0 fuel n (t,()) (di t (-1) p) p) (len:=P) (K:=.ret (iZ t (-1))) (fun n p hp=>?_) (fun n=>?_) P fuel 0 (by omega) (by omega)
 . exact key
 . try dsimp only
   rw [L30_0_succ]
   try delta ae
   have hT:=ht.treeP (place:=p) (by omega) (by omega);have hs:=MS ht (-1) (k:=p) (by omega);simp only [dT (show (p:Int)<t.1 by omega),Yw hT,wn (show p<1000000000 by omega)];rw [show di t (-1) (p+1)=di t (-1) p * (aq t p).length by rw [di,if_neg (by omega)],wr (by omega) (by omega)]
 . try dsimp only
   rw [L30_0_succ];simp only [dF (show ¬ ((P:Nat):Int)<t.1 by omega)];rw [show iZ t (-1)=di t (-1) P by unfold iZ;rw [show t.1.toNat=P by omega]]
theorem ZO {t:ac} (ht:TreeOK t) (p:Int):f39 (t,(p,())) = .ret (decide (0<=p/\p<t.1)):=by
 have:=ht.places;unfold f39 Xt;simp only [zc];rw [wr (by omega) (by omega)]
 by_cases h1:0<=p/\p<t.1
 . rw [dT h1,dT (by omega)]
 . rw [dF h1,dF (by omega)]
theorem Yl (t:ac) (p:Nat):∀ k:Nat,di t (-1) k=if p<k then di t p k * (aq t p).length else di t p k
 | 0=>by rw [if_neg (by omega)];rfl
 | k+1=>by
  have ih:=Yl t p k;have e1:di t (-1) (k+1)=di t (-1) k * (aq t k).length:=by rw [di,if_neg (by omega)]
  rw [e1,ih]
  by_cases e:k=p
  . subst e;rw [if_neg (by omega),if_pos (by omega),di,if_pos rfl]
  . have e2:di t p (k+1)=di t p k * (aq t k).length:=by rw [di,if_neg (by omega)]
    rw [e2]
    by_cases h:p<k
    . rw [if_pos h,if_pos (by omega),Int.mul_assoc,Int.mul_assoc,Int.mul_comm ((aq t p).length:Int)]
    . rw [if_neg h,if_neg (by omega)]
theorem Yk {t:ac} {p:Nat} (hp:(p:Int)<t.1):iZ t (-1)=iZ t p * (aq t p).length:=by
 unfold iZ;rw [Yl t p,if_pos (by omega)]
theorem ZP {t:ac} (ht:TreeOK t) {i p:Nat} (hi:i<t.2.1.length) (hp:(p:Int)<t.1):f43 (t,((i:Int),((p:Int),()))) = .ret (jT t i p):=by
 have hfb:=bK;have hc:=ht.copies;have hT:=ht.treeP (place:=p) (by omega) hp;have hsl:=nS hT;have hn:0<(aq t p).length:=List.length_pos_iff.2 (rh hT);unfold f43 Xu;simp only [Yw hT];have key:=dQ (L:=fun n f=>L43_0 fuel n (t,((i:Int),((p:Int),()))) (aq t p) (gr t i p f) f) (len:=10) (K:=.ret (jT t i p)) (fun n f hf=>?_) (fun n=>?_) 10 fuel 0 (by omega) (by omega)
 . exact key
 . try dsimp only
   rw [L43_0_succ];simp only [dT (show (f:Int)<=9 by omega)];have inner:=dQ (L:=fun n1 j=>L43_1 fuel n n1 (t,((i:Int),((p:Int),()))) (gr t i p f) f (aq t p) (dw t i p j f) j) (len:=(aq t p).length) (K:=L43_0 fuel n (t,((i:Int),((p:Int),()))) (aq t p) (gr t i p (f+1)) ((f+1:Nat):Int)) (fun n1 j hj=>?_) (fun n1=>?_) (aq t p).length fuel 0 (by omega) (by omega)
   . exact inner
   . try dsimp only
     rw [L43_1_succ]
     try delta ae
     have hw:=BP hT hj;have hk:((aq t p).take j).countP (fun l=>decide (l.getD i 0=(f:Int)))<=1000:=Nat.le_trans List.countP_le_length (by rw [List.length_take];omega);have e:dw t i p (j+1) f=dw t i p j f+if ((aq t p).getD j []).getD i 0=(f:Int) then 1 else 0:=by
      unfold dw;rw [Jl (z:=[]) hj]
      by_cases g:((aq t p).getD j []).getD i 0=(f:Int)
      . rw [dT g,if_pos g];rfl
      . rw [dF g,if_neg g];rfl
     rw [e];have hk2:0<=dw t i p j f/\dw t i p j f<=1000:=by unfold dw;omega
     simp only [Int.toNat_natCast,dT (show (j:Int)<(aq t p).length by omega),aY (show (0:Int)<=j by omega) (show (j:Int)<(aq t p).length by omega),aY (show (0:Int)<=i by omega) (show (i:Int)<((aq t p).getD j []).length by omega),cond_true,wn (show j<1000000000 by omega)]
     by_cases g:((aq t p).getD j []).getD i 0=(f:Int)
     . simp only [eT g,if_pos g];rw [wr (by omega) (by omega)]
     . simp only [eF g,if_neg g,Int.add_zero]
   . try dsimp only
     rw [L43_1_succ]
     try delta ae
     have e:dw t i p (aq t p).length f=cU t i p f:=by unfold dw cU;rw [List.take_length]
     simp only [dF (show ¬ (((aq t p).length:Nat):Int)<(aq t p).length by omega),e,wn (show f<1000000000 by omega)];rfl
 . try dsimp only
   rw [L43_0_succ]
   try delta ae
   have hb:=MR ht p;have hb2:=RU ht (i:=i) hp;simp only [dF (show ¬ (((10:Nat):Int)<=9) by omega),ZM ht,nT (show ((aq t p).length:Int)≠0 by omega),cond_true];rw [Yk hp,Int.mul_tdiv_cancel _ (show ((aq t p).length:Int)≠0 by omega),wr (x:=iZ t p) (by omega) (by omega)];show Out.ret (IntKind.i64.wrap (jT t i p))=_;rw [wr (by omega) (by omega)]
theorem Z6 {t:ac} (ht:TreeOK t) {i p:Nat} (hi:i<t.2.1.length) (hp:(p:Int)<t.1) : -1<=aH t i p/\aH t i p<=9:=(ht.treeP (place:=p) (by omega) hp).figs i hi
open Go.RowKit (Below)
theorem Yj {w:World} {b o:Nat} {v:Value} (h:w.cell? ⟨b,o,none⟩=some v):b<w.heap.size:=by
 rcases Nat.lt_or_ge b w.heap.size with h'|h'
 . exact h'
 . simp [World.cell?,Array.getElem?_eq_none h'] at h
open Go.RowKit (Below)
abbrev Wx:Ty:=.prod (.int .i64) jy
def WR:Array Oper:=bp 2 (av Tryz.f44)
def W7:Array Oper:=bp 3 (av Tryz.f44)
def WW:Array Oper:=bp 4 (av Tryz.f44)
theorem Wz:WR.toList.map a_=[(some 13,.fieldAddr 24 (.tmp 4) 1,none),(some 14,.load 22 (.tmp 13),none),(some 15,.move (.tmp 1),none),(some 16,.fieldAddr 24 (.tmp 4) 1,none),(some 17,.load 22 (.tmp 16),none),(some 18,.move (.tmp 1),none),(some 19,.indexAddr 22 (.tmp 17) (.tmp 18),none),
 (some 20,.fieldAddr 40 (.tmp 19) 1,none),(some 21,.load 27 (.tmp 20),none),(some 22,.call { callee:=.builtin .append,args := #[.const (.slice none 0 0),.tmp 21],argTypes := #[27,27] },none),(some 23,.indexAddr 22 (.tmp 14) (.tmp 15),none),(some 24,.fieldAddr 40 (.tmp 23) 1,none),(none,.store 27 (.tmp 24) (.tmp 22),none)]:=by kernel_rfl
theorem WH:W7.toList.map a_=[(some 25,.fieldAddr 24 (.tmp 4) 1,none),(some 26,.load 22 (.tmp 25),none),(some 27,.move (.tmp 1),none),(some 28,.indexAddr 22 (.tmp 26) (.tmp 27),none),(some 29,.fieldAddr 40 (.tmp 28) 1,none),(some 30,.load 27 (.tmp 29),none),(some 31,.move (.tmp 2),none),
 (some 32,.move (.tmp 3),none),(some 33,.indexAddr 27 (.tmp 30) (.tmp 31),none),(none,.store 3 (.tmp 33) (.tmp 32),none)]:=by kernel_rfl
theorem YE:WW.toList.map a_=[(some 34,.load 24 (.tmp 4),none),(none,.store 24 (.tmp 8) (.tmp 34),none)]:=by kernel_rfl
def YY:Code:=.seq (.region 2 WR true) (.seq (.region 3 W7 false) (.seq (.region 4 WW false) .ret))
def WQ (xs:List gf) (ix pl fg:Int):List gf:=xs.set ix.toNat ((xs.getD ix.toNat (0,([],()))).1,(((xs.getD ix.toNat (0,([],()))).2.1).set pl.toNat fg,()))
def WO (p:Int) (xs:List gf):St:=(List.replicate 35 S.und).set 8 (.box [.d (.int .i64) p,.d (.list Wx) xs])
def WV (xs:List gf) (ix pl:Int):Bool:=ax ix xs.length && (ax pl ((xs.getD ix.toNat (0,([],()))).2.1).length && decide (((xs.getD ix.toNat (0,([],()))).2.1).length<1000000000))
def W8 {ρ:Type} (k:X->H0.σ->St->Out ρ) (s:H0.σ) (st:St):Out ρ :=
 match get st 4 with
 | .box [.d (.int .i64) p,.arr (.prod (.int .i64) (.prod (.list (.int .i64)) .unit)) xs _]=>(match get st 8 with
  | .box [.d (.int .i64) _,.own (.prod (.int .i64) (.prod (.list (.int .i64)) .unit)) _ _]=>(match get st 1 with
   | .d (.int .i64) ix=>(match get st 2 with
    | .d (.int .i64) pl=>(match get st 3 with
     | .d (.int .i64) fg=>bif st.length==35 && WV xs ix pl then k .ret s (WO p (WQ xs ix pl fg)) else .fail
     | _=>.fail)
    | _=>.fail)
   | _=>.fail)
  | _=>.fail)
 | _=>.fail
theorem Z0 {M:ai} {w:World} {cs:List Value} {x:gf} (h:af M w Wx cs x):∃ u,cs=[.int .i64 x.1,u]/\af M w (.list (.int .i64)) [u] x.2.1:=by
 obtain ⟨c1,c2,rfl,h1,c3,c4,rfl,h2,h3⟩:=h;have e1:c1=[.int .i64 x.1]:=h1;have e4:c4=[]:=h3;have hl:c3.length=1:=af.length _ _ _ h2
 match c3,hl with
 | [u],_=>exact ⟨u,by rw [e1,e4];rfl,h2⟩
theorem YJ {M:ai} {w:World} {u:Value} {x:gf} (h:af M w (.list (.int .i64)) [u] x.2.1):af M w Wx [.int .i64 x.1,u] x :=
 ⟨[.int .i64 x.1],[u],rfl,rfl,[u],[],rfl,h,rfl⟩
section
variable {a : Act} {w : World} {o : Oper}
theorem Xy {T E:TypeId} {e:Ty} (hu:Tryz.prog.underlying T=some (.slice E)) (hE:bj Tryz.prog 9 E=some e) (hes:e.size=2) {p q:Nat} (ho:o.op = .indexAddr T (.tmp p) (.tmp q)) {R off n cap i:Nat} (h0:tm a p = .slice (some ⟨R,off,none⟩) n cap) (h1:tm a q = .int .i64 i) (hi:i<n) :
 (execOp a.eval o).run Tryz.prog w = .ok (.value (.pointer (some ⟨R,off+i * 2,none⟩))) w:=by
 have e0:a.eval (.tmp p) = .slice (some ⟨R,off,none⟩) n cap:=h0;have e1:a.eval (.tmp q) = .int .i64 i:=h1;have hi':(i:Int)<n:=by omega
 simp [execOp,ho,e0,e1,Instr.indexAt,asIntOf,run_underlying hu,fq hE,gg,hi',hi,hes]
theorem Xw {p:Nat} (ho:o.op = .fieldAddr 24 (.tmp p) 1) {b j:Nat} (h:tm a p = .pointer (some ⟨b,j,none⟩)):(execOp a.eval o).run Tryz.prog w = .ok (.value (.pointer (some ⟨b,j+1,none⟩))) w:=by
 have e:a.eval (.tmp p) = .pointer (some ⟨b,j,none⟩):=h;simp only [execOp,ho,e];simp [go_sem,gg]
theorem Xx {p:Nat} (ho:o.op = .fieldAddr 40 (.tmp p) 1) {b j:Nat} (h:tm a p = .pointer (some ⟨b,j,none⟩)):(execOp a.eval o).run Tryz.prog w = .ok (.value (.pointer (some ⟨b,j+1,none⟩))) w:=by
 have e:a.eval (.tmp p) = .pointer (some ⟨b,j,none⟩):=h;simp only [execOp,ho,e];simp [go_sem,gg]
theorem ZG {p:Nat} (ho:o.op = .load 24 (.tmp p)) {b T:Nat} {c0 c1:Value} (ht:tm a p = .pointer (some ⟨b,0,none⟩)) (hh:w.heap[b]? = some (.cells #[c0,c1] T (0,0))) :
 (execOp a.eval o).run Tryz.prog w = .ok (.value (.agg #[c0,c1])) w:=by
 have:=gq (P:=Tryz.prog) (n:=9) (T:=24) (t:=gH) (w:=w) (b:=b) (off:=0) (us':=[]) (c1:=[c0,c1]) (by kernel_rfl) hh rfl rfl;have e1:a.eval (.tmp p) = .pointer (some ⟨b,0,none⟩):=ht;simp [execOp,ho,e1,Instr.loadAt,Instr.sureAddr,this,aP,Ty.agg]
theorem ZH {i j:Nat} (ho:o.op = .store 24 (.tmp i) (.tmp j)) {b T:Nat} {c0 c1 v0 v1:Value} (h1:tm a i = .pointer (some ⟨b,0,none⟩)) (h3:tm a j = .agg #[v0,v1]) (hh:w.heap[b]? = some (.cells #[c0,c1] T (0,0)))
 (ho1:∀ v∈[v0,v1],v.oneCell'=true):(execOp a.eval o).run Tryz.prog w = .ok .skip (w.setRow b #[v0,v1]):=by
 have e1:a.eval (.tmp i) = .pointer (some ⟨b,0,none⟩):=h1;have e3:a.eval (.tmp j) = .agg #[v0,v1]:=h3;have hrun:=kc (P:=Tryz.prog) (n:=9) (T:=24) (t:=gH) (by kernel_rfl) (o:=0) (v:=.agg #[v0,v1]) rfl hh (by show 0+2<=2;omega) ho1;simp only [execOp,ho,e1,e3,Instr.storeAt,Instr.sureAddr,Sem.run_bind,Sem.run_pure,Result.andThen_ok];rw [hrun];rfl
theorem ZF {q:Nat} {l:List Int} {b off cap:Nat} (hl0:0<l.length) (hlen:l.length<1000000000) (ho:o.op = .call { callee:=.builtin .append,args := #[.const (.slice none 0 0),.tmp q],argTypes := #[27,27] }) (h1:tm a q = .slice (some ⟨b,off,none⟩) l.length cap)
 (hc:∀ j (h:j<l.length),w.cell? ⟨b,off+j,none⟩=some (.int .i64 l[j])) :
 ∃ cap' cur w1,(execOp a.eval o).run Tryz.prog w = .ok (.value (.slice (some ⟨w.heap.size,0,none⟩) l.length cap')) w1/\w1.heap[w.heap.size]? = some (.cells cur 3 (0,0))/\l.length<=cap'/\cur.size=cap'/\cur.toList.take l.length=gp l/\w.grownBy w1 none:=by
 have e0:a.eval (.const (.slice none 0 0)) = .slice none 0 0:=rfl;have e1:a.eval (.tmp q) = .slice (some ⟨b,off,none⟩) l.length cap:=h1;have hil:(gp l).length=l.length:=by simp [gp]
 have hnews:∀ (j:Nat) u,(gp l)[j]? = some u->w.cell? ((⟨b,off,none⟩:Addr).add j)=some u:=fun j u hj=>by
  have hjl:j<l.length:=by rw [<- hil];exact (List.getElem?_eq_some_iff.1 hj).1
  rw [gg,hc j hjl];rw [<- hj];simp [gp,hjl]
 have hb8:((Tryz.prog.info? 3).getD default).bytes=8:=by kernel_rfl
 have hs1:((Tryz.prog.info? 3).getD default).size=1:=by kernel_rfl
 obtain ⟨v',w',g1,g2,g3,_⟩:=run_append_own (P:=Tryz.prog) w 0 27 o.type 3 ((Tryz.prog.info? 3).getD default) (.int .i64 0) 1 8 (by kernel_rfl) (by kernel_rfl) (by kernel_rfl) hs1 hb8 (by kernel_rfl) (by omega) (.slice none 0 0) 0 [] ⟨rfl,.inl ⟨rfl,rfl⟩⟩ ⟨b,off,none⟩ l.length cap (gp l) (by rw [hil,Nat.mul_one]) hnews
  (fun u hu=>by unfold gp at hu;obtain ⟨z,_,rfl⟩:=List.mem_map.1 hu;rfl) (by unfold maxLen;omega) (by omega) (by omega)
 have hr:=run_append_nil (P:=Tryz.prog) w 27 o.type 3 ((Tryz.prog.info? 3).getD default) (.int .i64 0) (by kernel_rfl) (by kernel_rfl) (by kernel_rfl) ⟨b,off,none⟩ l.length cap (gp l) (by rw [hil,hs1,Nat.mul_one]) hnews hl0 (by omega) (by rw [hb8];omega);have g1':=g1;rw [hr] at g1';cases g1';rcases g2.2 with ⟨e,_⟩|⟨g,cp,cur,e,_,hg,hle,hm,hcs,htk⟩
 . cases e
 . rw [Nat.zero_add] at e hle htk;cases e;rw [Nat.mul_one] at hcs htk;refine ⟨_,cur,_,?_,hg,hle,hcs,htk,g3⟩;simp [execOp,ho,resolve,e0,e1,invoke,builtin,hr]
end
theorem WF {Q:Exit->Act->World->Prop}:∀ c a w,¬ jG Q (.panic c) a w:=fun _ _ _ h=>h
theorem WI {ops:Array Oper} {L:List (Option Tmp×Op×Option (Nat×Bool))} (hL:ops.toList.map a_=L) {i d:Nat} {op:Op} (hx:L[i]? = some (some d,op,none)) (hd:∀ c,op ≠ .defer c) {n:Nat} {Q:Exit->Act->World->Prop} {K:Act->World->Prop} {a:Act} {w w2:World} {v:Value}
 (hr:∀ o:Oper,o.op=op->(execOp a.eval o).run Tryz.prog w = .ok (.value v) w2) (hK:K (a.put (some d) v) w2):wpOpIn (aA none) n Tryz.prog ops Q i K a w:=by
 obtain ⟨o0,i0,d0,p0,q0⟩:=aB hL hx;simp only at d0 p0 q0;refine aV i0 (aC q0) (fun c h=>hd c (p0.symm.trans h)) (hr o0 p0) ?_;rw [d0];exact hK
theorem YK {ops:Array Oper} {L:List (Option Tmp×Op×Option (Nat×Bool))} (hL:ops.toList.map a_=L) {i:Nat} {op:Op} (hx:L[i]? = some (none,op,none)) (hd:∀ c,op ≠ .defer c) {n:Nat} {Q:Exit->Act->World->Prop} {K:Act->World->Prop} {a:Act} {w w2:World}
 (hr:∀ o:Oper,o.op=op->(execOp a.eval o).run Tryz.prog w = .ok .skip w2) (hK:K a w2):wpOpIn (aA none) n Tryz.prog ops Q i K a w:=by
 obtain ⟨o0,i0,d0,p0,q0⟩:=aB hL hx;simp only at d0 p0 q0;refine iC i0 (aC q0) (fun c h=>hd c (p0.symm.trans h)) (hr o0 p0) ?_;rw [d0,gV];exact hK
theorem aag {cells:Array Value} {j:Nat} {x y:Value} (h:(cells.toList.drop j).take 2=[x,y]):cells[j]? = some x/\cells[j+1]? = some y:=by
 have h0:((cells.toList.drop j).take 2)[0]? = some x:=by rw [h];rfl
 have h1:((cells.toList.drop j).take 2)[1]? = some y:=by rw [h];rfl
 rw [List.getElem?_take,if_pos (by omega),List.getElem?_drop] at h0 h1;exact ⟨by simpa using h0,by simpa using h1⟩
theorem Z5 {M:ai} {w:World} {v:Value} {xs:List gf} (h:dB M w Wx v xs) (hpos:0<xs.length):∃ R cap cells T,v = .slice (some ⟨R,0,none⟩) xs.length cap/\w.heap[R]? = some (.cells cells T (0,0))/\xs.length<=cap/\cells.size=cap * 2/\(∀ o,M R o) /\
 ∀ j (hj:j<xs.length),∃ u,cells[j * 2]? = some (.int .i64 xs[j].1)/\cells[j * 2+1]? = some u/\af M w (.list (.int .i64)) [u] xs[j].2.1:=by
 rcases h with ⟨_,hx⟩|⟨R,cap,cells,T,rfl,hg,l1,_,l3,l4,l5⟩
 . have:xs.length=0:=congrArg List.length hx;omega
 . refine ⟨R,cap,cells,T,rfl,hg,l1,l3,l4,fun j hj=>?_⟩;obtain ⟨u,e,hu⟩:=Z0 (l5 j hj);obtain ⟨c1,c2⟩:=aag (j:=j * 2) e;exact ⟨u,c1,c2,hu⟩
theorem ZV {M:ai} {w:World} {u:Value} {l:List Int} (h:af M w (.list (.int .i64)) [u] l) (hpos:0<l.length):∃ b o cap,u = .slice (some ⟨b,o,none⟩) l.length cap/\∀ j (hj:j<l.length),w.cell? ⟨b,o+j,none⟩=some (.int .i64 l[j])/\¬ M b (o+j):=by
 obtain ⟨ad,cap,e,hle,hel⟩:=h;obtain ⟨b,o,ec,had,_⟩:=hel 0 hpos;subst had;have e:u = .slice (some ⟨b,o,none⟩) l.length cap:=(List.cons.inj e).1;refine ⟨b,o,cap,e,fun j hj=>?_⟩;obtain ⟨b',o',ec',had',hec',hc',hr'⟩:=hel j hj;simp only [Option.some.injEq,Addr.mk.injEq,and_true] at had';obtain ⟨rfl,rfl⟩:=had';have hr':ec'=[.int .i64 l[j]]:=hr';subst hr';have:=hc' 0 (by simp)
 simpa [Ty.size] using this
set_option maxRecDepth 8000 in
theorem Y2:rJ Tryz.prog H0 YY (fun {ρ} k s st=>W8 k s st):=by
 intro ρ fin hf hr F M0 w0 n hz hI hpl k Q hQ s st act w hc h;have h:W8 k s st=fin:=h;unfold W8 at h;split at h;rotate_left
 . exact absurd h.symm hf
 rename_i pD xsD hot e4;obtain ⟨p,hpD⟩:∃ p:Int,p=pD:=⟨_,rfl⟩
 subst hpD;obtain ⟨xs,hxsD⟩:∃ xs:List gf,xs=xsD:=⟨_,rfl⟩
 subst hxsD;split at h;rotate_left
 . exact absurd h.symm hf
 rename_i q8 ys8 hot8 e8;split at h;rotate_left
 . exact absurd h.symm hf
 rename_i ixD e1;obtain ⟨ix,hixD⟩:∃ ix:Int,ix=ixD:=⟨_,rfl⟩
 subst hixD;split at h;rotate_left
 . exact absurd h.symm hf
 rename_i plD e2;obtain ⟨pl,hplD⟩:∃ pl:Int,pl=plD:=⟨_,rfl⟩
 subst hplD;split at h;rotate_left
 . exact absurd h.symm hf
 rename_i fgD e3;obtain ⟨fg,hfgD⟩:∃ fg:Int,fg=fgD:=⟨_,rfl⟩
 subst hfgD;cases hcd:(st.length==35 && WV xs ix pl) with
 | false=>rw [hcd] at h;exact absurd h.symm hf
 | true =>
 rw [hcd] at h;have h:k .ret s (WO p (WQ xs ix pl fg))=fin:=h;rw [Bool.and_eq_true,beq_iff_eq] at hcd;obtain ⟨hlen,hok⟩:=hcd;unfold WV at hok;rw [Bool.and_eq_true,Bool.and_eq_true,decide_eq_true_eq] at hok;obtain ⟨hi,hpi,hl9⟩:=hok;obtain ⟨hi0,hi1⟩:=fS.1 hi;obtain ⟨hp0,hp1⟩:=fS.1 hpi;obtain ⟨m,rfl⟩:∃ m:Nat,ix=m:=⟨ix.toNat,by omega⟩
 obtain ⟨z,rfl⟩:∃ z:Nat,pl=z:=⟨pl.toNat,by omega⟩
 have hm:m<xs.length:=by omega
 rw [Int.toNat_natCast] at hp1 hl9;have hgd:xs.getD m (0,([],()))=xs[m]:=by rw [List.getD_eq_getElem?_getD,List.getElem?_eq_getElem hm];rfl
 rw [hgd] at hp1 hl9;have hz1:z<xs[m].2.1.length:=by omega
 obtain ⟨hfr,M,hG⟩:=hc;have hg:=hG.2.1;have hsz:act.tmps.size=35:=hg.size.trans hlen;have s1:=hg.slot 1;rw [e1] at s1;have t1:tm act 1 = .int .i64 m:=fL s1;have s2:=hg.slot 2;rw [e2] at s2;have t2:tm act 2 = .int .i64 z:=fL s2;have s3:=hg.slot 3;rw [e3] at s3;have t3:tm act 3 = .int .i64 fg:=fL s3;have s4:=hg.slot 4;rw [e4] at s4;obtain ⟨bX,TX,cX,t4,hbX,hcX,_,hokX⟩:=s4;obtain ⟨x0,x1,rfl⟩:=uR (hcX.trans rfl);have hx0:x0 = .int .i64 p:=kD (hokX 0 _ x0 rfl rfl);subst hx0;obtain ⟨R,cap,cells,TR,hx1,hgR,l1,l3,l4,l5⟩:=Z5 (show dB M w Wx x1 xs from hokX 1 _ x1 rfl rfl) (by omega);have s8:=hg.slot 8;rw [e8] at s8;obtain ⟨bY,TY,cY,t8,hbY,hcY,hmY,_⟩:=s8;obtain ⟨y0,y1,rfl⟩:=uR (hcY.trans rfl);have oX:ap st act w 4 none bX:=⟨by rw [e4];rfl,by rw [t4];rfl⟩
 have oY:ap st act w 8 none bY:=⟨by rw [e8];rfl,by rw [t8];rfl⟩
 have oR:ap st act w 4 (some 1) R:=⟨_,_,bX,_,e4,rfl,rfl,by rw [t4];rfl,cj hbX rfl,by rw [hx1];rfl⟩
 have hRX:R≠bX:=fun e=>by
  have:=(hg.one 4 (some 1) 4 none R oR (e ▸ oX)).2;cases this
 have hRY:R≠bY:=fun e=>by
  have:=(hg.one 4 (some 1) 8 none R oR (e ▸ oY)).1;omega
 have hXY:bX≠bY:=fun e=>by
  have:=(hg.one 4 none 8 none bX oX (e ▸ oY)).1;omega
 have lX:bX<w.heap.size:=(Array.getElem?_eq_some_iff.1 hbX).1;have lY:bY<w.heap.size:=(Array.getElem?_eq_some_iff.1 hbY).1;have lR:R<w.heap.size:=(Array.getElem?_eq_some_iff.1 hgR).1;obtain ⟨u,hu0,hu1,hru⟩:=l5 m hm;obtain ⟨b6,o6,cap6,hu6,hc6⟩:=ZV hru (by omega);obtain ⟨S,hS⟩:∃ S:World->Prop,S=fun w'=>w'.heap[bX]? = some (.cells #[.int .i64 p,x1] TX (0,0))/\w'.heap[R]? = some (.cells cells TR (0,0)):=⟨_,rfl⟩
 have S0:S w.drew:=by rw [hS];exact ⟨hbX,hgR⟩
 have ns:Region.noSelect WR=true:=by kernel_rfl
 refine wpIn_seq (yC mixed S 12 ?_);rw [show WR.size=13 by kernel_rfl];show dI Tryz.prog WR (jG _) S 12 13 ((Array.replicate 13 false)) act w.drew;refine dy (i:=0) (d:=13) (v:=.pointer (some ⟨bX,1,none⟩)) (by rw [Wz];rfl) ns (by kernel_rfl) (by kernel_rfl) (by kernel_rfl) WF (fun o ho w' hw'=>Xw ho t4) S0 ?_;refine dy (i:=1) (d:=14) (v:=x1) (by rw [Wz];rfl) ns (by kernel_rfl) (by kernel_rfl) (by kernel_rfl) WF (fun o ho w' hw'=>?_) S0 ?_
 . rw [hS] at hw';exact ja (T:=22) (t:=.list Wx) (by kernel_rfl) rfl rfl ho (b:=bX) (j:=1) (ay (by omega)) hw'.1 rfl
 refine dy (i:=2) (d:=15) (v:=.int .i64 m) (by rw [Wz];rfl) ns (by kernel_rfl) (by kernel_rfl) (by kernel_rfl) WF (fun o ho w' hw'=>by rw [fQ ho,Wv (by omega),Wv (by omega),t1]) S0 ?_;refine dy (i:=3) (d:=16) (v:=.pointer (some ⟨bX,1,none⟩)) (by rw [Wz];rfl) ns (by kernel_rfl) (by kernel_rfl) (by kernel_rfl) WF (fun o ho w' hw'=>Xw ho (by rw [Wv (by omega),Wv (by omega),Wv (by omega)];exact t4)) S0 ?_;obtain ⟨a3,ha3⟩:∃ a3,a3=(((act.put (some 13) (.pointer (some ⟨bX,1,none⟩))).put (some 14) x1).put (some 15) (.int .i64 m)).put (some 16) (.pointer (some ⟨bX,1,none⟩)):=⟨_,rfl⟩
 rw [<- ha3];have z3:a3.tmps.size=35:=by rw [ha3];simp only [aG];exact hsz
 have k3:∀ j,j<13->tm a3 j=tm act j:=fun j hj=>by rw [ha3,Wv (by omega),Wv (by omega),Wv (by omega),Wv (by omega)]
 have a14:tm a3 14=x1:=by rw [ha3,Wv (by omega),Wv (by omega),ay (by simp only [aG];omega)]
 have a15:tm a3 15 = .int .i64 m:=by rw [ha3,Wv (by omega),ay (by simp only [aG];omega)]
 have a16:tm a3 16 = .pointer (some ⟨bX,1,none⟩):=by rw [ha3,ay (by simp only [aG];omega)]
 refine dy (i:=4) (d:=17) (v:=x1) (by rw [Wz];rfl) ns (by kernel_rfl) (by kernel_rfl) (by kernel_rfl) WF (fun o ho w' hw'=>?_) S0 ?_
 . rw [hS] at hw';exact ja (T:=22) (t:=.list Wx) (by kernel_rfl) rfl rfl ho (b:=bX) (j:=1) a16 hw'.1 rfl
 refine dy (i:=5) (d:=18) (v:=.int .i64 m) (by rw [Wz];rfl) ns (by kernel_rfl) (by kernel_rfl) (by kernel_rfl) WF (fun o ho w' hw'=>by rw [fQ ho,Wv (by omega),k3 1 (by omega),t1]) S0 ?_;refine dy (i:=6) (d:=19) (v:=.pointer (some ⟨R,0+m * 2,none⟩)) (by rw [Wz];rfl) ns (by kernel_rfl) (by kernel_rfl) (by kernel_rfl) WF (fun o ho w' hw'=>?_) S0 ?_
 . exact Xy (T:=22) (E:=40) (e:=Wx) (by kernel_rfl) (by kernel_rfl) rfl ho (R:=R) (off:=0) (n:=xs.length) (cap:=cap) (i:=m) (by rw [Wv (by omega),ay (by omega)];exact hx1) (ay (by simp only [aG];omega)) hm
 refine dy (i:=7) (d:=20) (v:=.pointer (some ⟨R,0+m * 2+1,none⟩)) (by rw [Wz];rfl) ns (by kernel_rfl) (by kernel_rfl) (by kernel_rfl) WF (fun o ho w' hw'=>Xx ho (ay (by simp only [aG];omega))) S0 ?_;have hcu:cells[0+m * 2+1]? = some u:=by rw [Nat.zero_add];exact hu1
 refine dy (i:=8) (d:=21) (v:=u) (by rw [Wz];rfl) ns (by kernel_rfl) (by kernel_rfl) (by kernel_rfl) WF (fun o ho w' hw'=>?_) S0 ?_
 . rw [hS] at hw';exact ja (T:=27) (t:=.list (.int .i64)) (by kernel_rfl) rfl rfl ho (b:=R) (j:=0+m * 2+1) (ay (by simp only [aG];omega)) hw'.2 hcu
 obtain ⟨a8,ha8⟩:∃ a8,a8=((((a3.put (some 17) x1).put (some 18) (.int .i64 m)).put (some 19) (.pointer (some ⟨R,0+m * 2,none⟩))).put (some 20) (.pointer (some ⟨R,0+m * 2+1,none⟩))).put (some 21) u:=⟨_,rfl⟩
 rw [<- ha8];have z8:a8.tmps.size=35:=by rw [ha8];simp only [aG];exact z3
 have k8:∀ j,j<17->tm a8 j=tm a3 j:=fun j hj=>by rw [ha8,Wv (by omega),Wv (by omega),Wv (by omega),Wv (by omega),Wv (by omega)]
 have a21:tm a8 21 = .slice (some ⟨b6,o6,none⟩) xs[m].2.1.length cap6:=by rw [ha8,ay (by simp only [aG];omega)];exact hu6
 obtain ⟨o9,hi9,hd9,ho9,hg9⟩:=aB (ops:=WR) rfl (i:=9) (x:=(some 22,.call { callee:=.builtin .append,args := #[.const (.slice none 0 0),.tmp 21],argTypes := #[27,27] },none)) (by rw [Wz];rfl);obtain ⟨cq,cur,w1,g1,g2,g3,g4,g5,g6⟩:=ZF (w:=w.drew) (by omega) hl9 ho9 a21 fun j hj=>(hc6 j hj).1
 obtain ⟨q,hq⟩:∃ q,q=w.heap.size:=⟨_,rfl⟩
 have hqd:w.drew.heap.size=q:=hq.symm;rw [hqd] at g1 g2;have hb1:∀ j,j<w.heap.size->w1.heap[j]? = w.heap[j]? := fun j hj=>g6.block j hj fun e=>by cases e
 have hs1:w.heap.size<=w1.heap.size:=g6.size;have S1:S w1:=by rw [hS];exact ⟨(hb1 bX lX).trans hbX,(hb1 R lR).trans hgR⟩
 refine Fz (v:=.slice (some ⟨q,0,none⟩) xs[m].2.1.length cq) (w':=w1) hi9 hd9 hg9 (by kernel_rfl) g1 (.inl rfl) (fun _=>S1) ?_;show dI Tryz.prog WR (jG _) S 12 3 _ (a8.put (some 22) (.slice (some ⟨q,0,none⟩) xs[m].2.1.length cq)) w1;refine im (i:=10) (dst:=some 23) (v:=.pointer (some ⟨R,0+m * 2,none⟩)) (w':=w1) (by rw [Wz];rfl) (by kernel_rfl) (fun o ho=>?_) (.inl rfl) (fun _=>S1) ?_
 . exact Xy (T:=22) (E:=40) (e:=Wx) (by kernel_rfl) (by kernel_rfl) rfl ho (R:=R) (off:=0) (n:=xs.length) (cap:=cap) (i:=m) (by rw [Wv (by omega),k8 14 (by omega),a14];exact hx1) (by rw [Wv (by omega),k8 15 (by omega),a15]) hm
 refine dy (i:=11) (d:=24) (v:=.pointer (some ⟨R,0+m * 2+1,none⟩)) (by rw [Wz];rfl) ns (by kernel_rfl) (by kernel_rfl) (by kernel_rfl) WF (fun o ho w' hw'=>Xx ho (ay (by simp only [aG];omega))) S1 ?_;obtain ⟨cR,hcR⟩:∃ cR,cR=cells.setIfInBounds (0+m * 2+1) (.slice (some ⟨q,0,none⟩) xs[m].2.1.length cq):=⟨_,rfl⟩
 have hmc:0+m * 2+1<cells.size:=by rw [l3];omega
 refine im (i:=12) (dst:=none) (v:=undef) (w':=w1.setRow R cR) (by rw [Wz];rfl) (by kernel_rfl) (fun o ho=>?_) (.inr ⟨rfl,rfl⟩) (fun h=>absurd rfl h) ?_
 . rw [hcR];exact sT (T:=27) (t:=.list (.int .i64)) (by kernel_rfl) rfl ho (b:=R) (j:=0+m * 2+1) (u:=.slice (some ⟨q,0,none⟩) xs[m].2.1.length cq) (ay (by simp only [aG];omega)) (by rw [Wv (by omega),Wv (by omega),ay (by omega)]) rfl rfl ((hb1 R lR).trans hgR) hmc
 refine tk (by kernel_rfl) ?_ _;rw [gV];obtain ⟨a12,ha12⟩:∃ a12,a12=((a8.put (some 22) (.slice (some ⟨q,0,none⟩) xs[m].2.1.length cq)).put (some 23) (.pointer (some ⟨R,0+m * 2,none⟩))).put (some 24) (.pointer (some ⟨R,0+m * 2+1,none⟩)):=⟨_,rfl⟩
 rw [<- ha12];have z12:a12.tmps.size=35:=by rw [ha12];simp only [aG];exact z8
 have k12:∀ j,j<13->tm a12 j=tm act j:=fun j hj=>by rw [ha12,Wv (by omega),Wv (by omega),Wv (by omega),k8 j (by omega),k3 j hj]
 obtain ⟨w2,hw2⟩:∃ w2,w2=w1.setRow R cR:=⟨_,rfl⟩
 rw [<- hw2];have r2:w2.heap[R]? = some (.cells cR TR (0,0)):=by rw [hw2];exact lE ((hb1 R lR).trans hgR)
 have n2:∀ j,j≠R->w2.heap[j]? = w1.heap[j]? := fun j hj=>by rw [hw2];exact setRow_other hj
 have sz2:w2.heap.size=w1.heap.size:=by rw [hw2];exact setRow_size
 have hqR:q≠R:=by omega
 have hqX:q≠bX:=by omega
 have hqY:q≠bY:=by omega
 have x2:w2.heap[bX]? = some (.cells #[.int .i64 p,x1] TX (0,0)):=(n2 bX (Ne.symm hRX)).trans ((hb1 bX lX).trans hbX);show (Code.seq (.region 3 W7 false) (.seq (.region 4 WW false) .ret)).wpIn (aA none) n Tryz.prog Q a12 w2;refine wpIn_seq (wpIn_region ?_);rw [show W7.size=10 by kernel_rfl];show wpOpsIn (aA none) n Tryz.prog W7 _ [0,1,2,3,4,5,6,7,8,9] a12 w2;rw [wpOpsIn_cons];refine WI WH (i:=0) rfl (fun c h=>by cases h) (fun o ho=>Xw ho (by rw [k12 4 (by omega)];exact t4)) ?_;rw [wpOpsIn_cons];refine WI WH (i:=1) (v:=x1) rfl (fun c h=>by cases h) (fun o ho=>ja (T:=22) (t:=.list Wx) (by kernel_rfl) rfl rfl ho (b:=bX) (j:=0+1) (ay (by omega)) x2 rfl) ?_;rw [wpOpsIn_cons];refine WI WH (i:=2) (v:=.int .i64 m) (w2:=w2) rfl (fun c h=>by cases h) (fun o ho=>by rw [fQ ho,Wv (by omega),Wv (by omega),k12 1 (by omega),t1]) ?_;rw [wpOpsIn_cons];refine WI WH (i:=3) rfl (fun c h=>by cases h) (fun o ho=>Xy (T:=22) (E:=40) (e:=Wx) (by kernel_rfl) (by kernel_rfl) rfl ho (R:=R) (off:=0) (n:=xs.length) (cap:=cap) (i:=m) (by rw [Wv (by omega),ay (by simp only [aG];omega)];exact hx1) (ay (by simp only [aG];omega)) hm) ?_;rw [wpOpsIn_cons];refine WI WH (i:=4) rfl (fun c h=>by cases h) (fun o ho=>Xx ho (ay (by simp only [aG];omega))) ?_;have hcq:cR[0+m * 2+1]? = some (.slice (some ⟨q,0,none⟩) xs[m].2.1.length cq):=by
  rw [hcR,Array.getElem?_setIfInBounds,if_pos rfl,if_pos hmc]
 rw [wpOpsIn_cons];refine WI WH (i:=5) (v:=.slice (some ⟨q,0,none⟩) xs[m].2.1.length cq) rfl (fun c h=>by cases h) (fun o ho=>ja (T:=27) (t:=.list (.int .i64)) (by kernel_rfl) rfl rfl ho (b:=R) (j:=0+m * 2+1) (ay (by simp only [aG];omega)) r2 hcq) ?_;rw [wpOpsIn_cons];refine WI WH (i:=6) (v:=.int .i64 z) (w2:=w2) rfl (fun c h=>by cases h) (fun o ho=>by rw [fQ ho,Wv (by omega),Wv (by omega),Wv (by omega),Wv (by omega),Wv (by omega),Wv (by omega),k12 2 (by omega),t2]) ?_;rw [wpOpsIn_cons];refine WI WH (i:=7) (v:=.int .i64 fg) (w2:=w2) rfl (fun c h=>by cases h) (fun o ho=>by rw [fQ ho,Wv (by omega),Wv (by omega),Wv (by omega),Wv (by omega),Wv (by omega),Wv (by omega),Wv (by omega),k12 3 (by omega),t3]) ?_;rw [wpOpsIn_cons];refine WI WH (i:=8) (v:=.pointer (some ⟨q,0+z,none⟩)) (w2:=w2) rfl (fun c h=>by cases h) (fun o ho=>?_) ?_
 . exact sS (w:=w2) (T:=27) (E:=3) (e:=.int .i64) (by kernel_rfl) (by kernel_rfl) rfl ho (R:=q) (off:=0) (n:=xs[m].2.1.length) (cap:=cq) (i:=(z:Int)) (by rw [Wv (by omega),Wv (by omega),ay (by simp only [aG];omega)]) (by rw [Wv (by omega),ay (by simp only [aG];omega)]) (by omega) (by omega)
 have q2:w2.heap[q]? = some (.cells cur 3 (0,0)):=(n2 q hqR).trans g2;obtain ⟨cQ,hcQ⟩:∃ cQ,cQ=cur.setIfInBounds (0+z) (.int .i64 fg):=⟨_,rfl⟩
 rw [wpOpsIn_cons];refine YK WH (i:=9) (w2:=w2.setRow q cQ) rfl (fun c h=>by cases h) (fun o ho=>?_) ?_
 . rw [hcQ];exact sT (T:=3) (t:=.int .i64) (by kernel_rfl) rfl ho (b:=q) (j:=0+z) (u:=.int .i64 fg) (ay (by simp only [aG];omega)) (by rw [Wv (by omega),ay (by simp only [aG];omega)]) rfl rfl q2 (by omega)
 obtain ⟨w3,hw3⟩:∃ w3,w3=w2.setRow q cQ:=⟨_,rfl⟩
 rw [<- hw3];have q3:w3.heap[q]? = some (.cells cQ 3 (0,0)):=by rw [hw3];exact lE q2
 have n3:∀ j,j≠q->w3.heap[j]? = w2.heap[j]? := fun j hj=>by rw [hw3];exact setRow_other hj
 have sz3:w3.heap.size=w2.heap.size:=by rw [hw3];exact setRow_size
 obtain ⟨a9,ha9⟩:∃ a9,a9=((((((((a12.put (some 25) (.pointer (some ⟨bX,0+1,none⟩))).put (some 26) x1).put (some 27) (.int .i64 m)).put (some 28) (.pointer (some ⟨R,0+m * 2,none⟩))).put (some 29) (.pointer (some ⟨R,0+m * 2+1,none⟩))).put (some 30) (.slice (some ⟨q,0,none⟩) xs[m].2.1.length cq)).put (some 31) (.int .i64 z)).put (some 32) (.int .i64 fg)).put (some 33) (.pointer (some ⟨q,0+z,none⟩)):=⟨_,rfl⟩
 rw [<- ha9];have z9:a9.tmps.size=35:=by rw [ha9];simp only [aG];exact z12
 have k9:∀ j,j<13->tm a9 j=tm act j:=fun j hj=>by rw [ha9,Wv (by omega),Wv (by omega),Wv (by omega),Wv (by omega),Wv (by omega),Wv (by omega),Wv (by omega),Wv (by omega),Wv (by omega),k12 j hj]
 show (Code.seq (.region 4 WW false) .ret).wpIn (aA none) n Tryz.prog Q a9 w3;refine wpIn_seq (wpIn_region ?_);rw [show WW.size=2 by kernel_rfl];show wpOpsIn (aA none) n Tryz.prog WW _ [0,1] a9 w3;have x3:w3.heap[bX]? = some (.cells #[.int .i64 p,x1] TX (0,0)):=(n3 bX (Ne.symm hqX)).trans x2;have y3:w3.heap[bY]? = some (.cells #[y0,y1] TY (0,0)):=(n3 bY (Ne.symm hqY)).trans ((n2 bY (Ne.symm hRY)).trans ((hb1 bY lY).trans hbY));rw [wpOpsIn_cons];refine WI YE (i:=0) rfl (fun c h=>by cases h) (fun o ho=>ZG ho (by rw [k9 4 (by omega)];exact t4) x3) ?_;rw [wpOpsIn_cons];refine YK YE (i:=1) rfl (fun c h=>by cases h) (fun o ho=>ZH ho (by rw [Wv (by omega),k9 8 (by omega)];exact t8) (ay (by omega)) y3 (fun v hv=>?_)) ?_
 . simp only [List.mem_cons,List.not_mem_nil,or_false] at hv;rcases hv with rfl|rfl
   . rfl
   . rw [hx1];rfl
 obtain ⟨w4,hw4⟩:∃ w4,w4=w3.setRow bY #[.int .i64 p,x1]:=⟨_,rfl⟩
 rw [<- hw4];have y4:w4.heap[bY]? = some (.cells #[.int .i64 p,x1] TY (0,0)):=by rw [hw4];exact lE y3
 have n4:∀ j,j≠bY->w4.heap[j]? = w3.heap[j]? := fun j hj=>by rw [hw4];exact setRow_other hj
 have sz4:w4.heap.size=w3.heap.size:=by rw [hw4];exact setRow_size
 have q4:w4.heap[q]? = some (.cells cQ 3 (0,0)):=(n4 q hqY).trans q3;have r4:w4.heap[R]? = some (.cells cR TR (0,0)):=(n4 R hRY).trans ((n3 R (Ne.symm hqR)).trans r2);have hsame:∀ j,j<w.heap.size->j≠R->j≠bY->w4.heap[j]? = w.heap[j]? := fun j hj h1 h2=>by rw [n4 j h2,n3 j (by omega),n2 j h1,hb1 j hj]
 have hsz4:w.heap.size<=w4.heap.size:=by omega
 refine wpIn_ret (hQ .ret s _ _ w4 ?_ h);obtain ⟨a',ha'⟩:∃ a',a'=a9.put (some 34) (.agg #[.int .i64 p,x1]):=⟨_,rfl⟩
 rw [<- ha'];have za:a'.tmps.size=35:=by rw [ha',aG];exact z9
 have t8':tm a' 8 = .pointer (some ⟨bY,0,none⟩):=by rw [ha',Wv (by omega),k9 8 (by omega)];exact t8
 have hdf:a'.defers=act.defers:=by rw [ha',ha9,ha12,ha8,ha3];simp only [Eh]
 obtain ⟨ns',hns'⟩:∃ ns':List gf,ns'=WQ xs m z fg:=⟨_,rfl⟩
 rw [<- hns'];have hns2:ns'=xs.set m (xs[m].1,(xs[m].2.1.set z fg,())):=by rw [hns'];unfold WQ;rw [Int.toNat_natCast,Int.toNat_natCast,hgd]
 have g8:get (WO p ns') 8 = .box [.d (.int .i64) p,.d (.list Wx) ns']:=by unfold WO;rw [bu _ _ _ _ (by simp),if_pos rfl]
 have gu:∀ i,i≠8->get (WO p ns') i = .und:=fun i hi=>by unfold WO;rw [eU hi,Q8]
 have hown:∀ i k b,ap (WO p ns') a' w4 i k b->i=8/\k=none/\b=bY:=fun i k b ho=>by
  by_cases e:i=8
  . subst e;cases k with
    | none =>
     have:=ho.2;rw [t8'] at this;simp [ag] at this;exact ⟨rfl,rfl,this.symm⟩
    | some k =>
     obtain ⟨cs',c0,c,v,f1,f2,f0,_⟩:=ho;rw [g8] at f1;cases f1
     match k,f2 with
     | 0,f2=>cases f2;cases f0
     | 1,f2=>cases f2;cases f0
     | k+2,f2=>cases f2
  . cases k with
    | none=>have:=ho.1;rw [gu i e] at this;cases this
    | some k=>obtain ⟨cs',_,_,_,f1,_⟩:=ho;rw [gu i e] at f1;cases f1
 have hRF:¬ F R:=hg.new 4 (some 1) R oR;have hYF:¬ F bY:=hg.new 8 none bY oY;have hst:aL M w (fun b o=>M b o/\b≠R) w4:=fun b o v hc hm=>by
  have hb:=Yj hc;have h1:b≠R:=fun e=>hm (e ▸ l4 o)
  have h2:b≠bY:=fun e=>hm (e ▸ hmY o)
  exact ⟨(World.cell?_of_block (a:=⟨b,o,none⟩) (hsame b hb h1 h2)).trans hc,fun hx=>hm hx.1⟩
 have hKD:bF w w4:=fun D c e=>by
  rw [hsame D (Array.getElem?_eq_some_iff.1 e).1 (fun h1=>by rw [h1,hgR] at e;cases e) (fun h1=>by rw [h1,hbY] at e;cases e)];exact e
 have hrow:af (fun b o=>M b o/\b≠R) w4 (.list Wx) [x1] ns':=by
  have hnl:ns'.length=xs.length:=by rw [hns2,List.length_set]
  refine ⟨some ⟨R,0,none⟩,cap,by rw [hx1];show _=[Value.slice _ ns'.length cap];rw [hnl],by show ns'.length<=cap;rw [hnl];exact l1,fun j hj=>?_⟩;have hj:j<xs.length:=by have:j<ns'.length:=hj;omega
  obtain ⟨v,hv0,hv1,hrv⟩:=l5 j hj;have hcr:∀ i,i≠0+m * 2+1->cR[i]? = cells[i]? := fun i hi=>by rw [hcR,Array.getElem?_setIfInBounds,if_neg (Ne.symm hi)]
  have hcell:∀ i y,cR[i]? = some y->w4.cell? ⟨R,i,none⟩=some y:=fun i y hy=>cj r4 hy
  by_cases e:j=m
  . subst e;have hnj:ns'[j]'(by omega)=(xs[j].1,(xs[j].2.1.set z fg,())):=by simp [hns2]
    refine ⟨R,0,[.int .i64 xs[j].1,.slice (some ⟨q,0,none⟩) xs[j].2.1.length cq],rfl,rfl,fun i hi=>⟨?_,fun h=>h.2 rfl⟩,?_⟩
    . match i,hi with
      | 0,_=>exact hcell _ _ (by rw [hcr _ (by show 0+j * 2+0≠_;omega)];show cells[0+j * 2+0]? = _;rw [Nat.zero_add];exact hv0)
      | 1,_=>exact hcell _ _ hcq
    . show af _ w4 Wx _ (ns'[j]'(by omega));rw [hnj];refine YJ (x:=(xs[j].1,(xs[j].2.1.set z fg,()))) ⟨some ⟨q,0,none⟩,cq,by show _=[Value.slice _ (xs[j].2.1.set z fg).length cq];rw [List.length_set],by show (xs[j].2.1.set z fg).length<=cq;rw [List.length_set];exact g3,fun i hi=>?_⟩;have hi:i<xs[j].2.1.length:=by have:i<(xs[j].2.1.set z fg).length:=hi;rw [List.length_set] at this;exact this
      refine ⟨q,0,[.int .i64 ((xs[j].2.1.set z fg)[i]'(by rw [List.length_set];exact hi))],rfl,rfl,fun c hc=>⟨?_,fun h=>?_⟩,rfl⟩
      . have:c=0:=by simpa using hc
        subst this;refine cj q4 ?_;show cQ[0+i * 1+0]? = _;rw [Nat.zero_add,Nat.mul_one,Nat.add_zero,hcQ,Array.getElem?_setIfInBounds,Nat.zero_add];have hcur:cur[i]? = some (.int .i64 xs[j].2.1[i]):=by
         have h2:(cur.toList.take xs[j].2.1.length)[i]? = (gp xs[j].2.1)[i]? := by rw [g5]
         rw [List.getElem?_take,if_pos hi,Array.getElem?_toList] at h2;rw [h2];simp [gp,hi]
        by_cases e:z=i
        . subst e;rw [if_pos rfl,if_pos (by omega)];simp
        . rw [if_neg e,hcur];simp [List.getElem_set,e]
      . have:=hg.lt q _ h.1;omega
  . have hnj:ns'[j]'(by omega)=xs[j]:=by simp [hns2,List.getElem_set,Ne.symm e]
    refine ⟨R,0,[.int .i64 xs[j].1,v],rfl,rfl,fun i hi=>⟨?_,fun h=>h.2 rfl⟩,?_⟩
    . match i,hi with
      | 0,_=>exact hcell _ _ (by rw [hcr _ (by show 0+j * 2+0≠_;omega)];show cells[0+j * 2+0]? = _;rw [Nat.zero_add];exact hv0)
      | 1,_=>exact hcell _ _ (by rw [hcr _ (by show 0+j * 2+1≠_;omega)];show cells[0+j * 2+1]? = _;rw [Nat.zero_add];exact hv1)
    . show af _ w4 Wx _ (ns'[j]'(by omega));rw [hnj];exact YJ (af.mono hst _ _ _ hrv)
 refine ⟨hfr.trans ⟨?_,?_,?_,hsz4,fun b hb=>hsame b (hg.room b hb) (fun e=>hRF (e ▸ hb)) (fun e=>hYF (e ▸ hb))⟩,fun b o=>M b o/\b≠R,trivial,?_,fun b h=>h.elim⟩
 . rw [hw4,hw3,hw2];exact g6.os
 . rw [hw4,hw3,hw2];exact g6.tape
 . rw [hw4,hw3,hw2];exact g6.output
 refine ⟨by rw [hdf];exact hg.defers.keep hKD,by rw [za];unfold WO;simp,fun b h=>Nat.lt_of_lt_of_le (hg.room b h) hsz4,hg.base,fun b o h=>⟨hg.up b o h,fun e=>hRF (e ▸ hg.base b o h)⟩,fun b o h=>Nat.lt_of_lt_of_le (hg.lt b o h.1) hsz4,fun b o hF h=>hg.down b o hF h.1,
  fun i=>?_,fun i k j l b h1 h2=>?_,fun i k b h=>?_,fun b o v h1 h2=>?_,fun j v hj=>(hpl j v hj).elim,hg.dm⟩
 . by_cases e:i=8
   . subst e;rw [g8,t8'];refine ⟨bY,TY,_,rfl,y4,rfl,fun o=>⟨hmY o,fun e=>hRY e.symm⟩,fun k c v h1 h2=>?_⟩
     match k,h1,h2 with
     | 0,h1,h2=>cases h1;cases h2;rfl
     | 1,h1,h2=>cases h1;cases h2;exact hrow
     | k+2,h1,_=>cases h1
   . rw [gu i e];trivial
 . obtain ⟨e1,e2,_⟩:=hown i k b h1;obtain ⟨e3,e4,_⟩:=hown j l b h2;exact ⟨e1.trans e3.symm,e2.trans e4.symm⟩
 . obtain ⟨_,_,rfl⟩:=hown i k b h;exact hYF
 . obtain ⟨c1,c2⟩:=hg.keep b o v h1 h2;have hFb:=hz b (Yj h1);exact ⟨(World.cell?_of_block (a:=⟨b,o,none⟩) (hsame b (hg.room b hFb) (fun e=>hRF (e ▸ hFb)) (fun e=>hYF (e ▸ hFb)))).trans c1,fun h=>c2 h.1⟩
def XZ:List Spec:=[(XI 1000011)]
def YB:List (Nat×List Nat):=[]
def YW (s:Unit):List Spec:=[(XI 1000011)]
def X8:List (List Nat×HdH H0):=[([1,1],⟨fun {ρ} k s st=>W8 k s st⟩)]
theorem Y3 (h:∀ s,∀ sp∈YW s,cT Tryz.prog H0 s sp):du Tryz.prog H0 (av Tryz.f44) (X8):=(xn (c':=YY) (by kernel_rfl) Y2 Dm)
def Xv (N:Nat) (x:zv):Out (Unit×(Int×qk)):=bif (bQ ([]:List (Int×aE)) x.1.2.1) then bif (WV x.1.2.1 x.2.1 x.2.2.1) then .ret ((()),(x.1.1,(((WQ x.1.2.1 x.2.1 x.2.2.1 x.2.2.2.1)),()))) else .fail else .fail
theorem Zz (N:Nat) (x:zv):cD Tryz.prog H0 (ah XZ) YB N (X8) Tryz.f44 false false BZ kq (()) x=Xv N x:=by kernel_rfl
def f44 (x:zv):Out (Int×qk):=dY (Xv fuel x)
def aad:Spec:=⟨44,.call,BZ,kq,false,false,f44⟩
theorem Zh:am Tryz.prog aad:=Ed (H:=H0) () (fun w b h=>h) (fun M w=>trivial) (l:=XZ) (fun sp hs=>(by simp only [XZ,List.mem_cons,List.not_mem_nil,or_false] at hs;subst hs;exact YG _)) Tryz.func44 rfl (Y3 fun s sp hs=>.inl (by simp only [YW,List.mem_cons,List.not_mem_nil,or_false] at hs;subst hs;exact YG _)) YB fuel (Zz fuel)
@[irreducible] def WT:dZ->Out Bool:=dG f18
theorem Yp:WT=f18:=by unfold WT;exact dR f18
def XN:Spec:=⟨18,.call,fy,.bool,false,false,WT⟩
theorem Ya:am Tryz.prog XN:=by
 unfold XN
 rw [Yp]
 exact Y_
@[irreducible] def Xd:aS->Out Bool:=dG f22
theorem Yq:Xd=f22:=by unfold Xd;exact dR f22
def XO:Spec:=⟨22,.call,cB,.bool,false,false,Xd⟩
theorem Yb:am Tryz.prog XO:=by
 unfold XO
 rw [Yq]
 exact Za
@[irreducible] def Xe:((List (List Int))×Unit)->Out Bool:=dG f31
theorem Yr:Xe=f31:=by unfold Xe;exact dR f31
def XP:Spec:=⟨31,.call,(.prod (.list (.list (.int .i64))) .unit),.bool,false,false,Xe⟩
theorem Yc:am Tryz.prog XP:=by
 unfold XP
 rw [Yr]
 exact Zc
@[irreducible] def Xf:cG->Out Bool:=dG f32
theorem Ys:Xf=f32:=by unfold Xf;exact dR f32
def XQ:Spec:=⟨32,.call,ef,.bool,false,false,Xf⟩
theorem Yd:am Tryz.prog XQ:=by
 unfold XQ
 rw [Ys]
 exact Zd
@[irreducible] def WU:dZ->Out Bool:=dG f39
theorem Yt:WU=f39:=by unfold WU;exact dR f39
def XR:Spec:=⟨39,.call,fy,.bool,false,false,WU⟩
theorem Ye:am Tryz.prog XR:=by
 unfold XR
 rw [Yt]
 exact Ze
@[irreducible] def W0:eV->Out Int:=dG f43
theorem Yu:W0=f43:=by unfold W0;exact dR f43
def XS:Spec:=⟨43,.call,iM,(.int .i64),false,false,W0⟩
theorem Yf:am Tryz.prog XS:=by
 unfold XS
 rw [Yu]
 exact Zg
@[irreducible] def Xg:zv->Out (Int×qk):=dG f44
theorem Xz:Xg=f44:=by unfold Xg;exact dR f44
def XT:Spec:=⟨44,.call,BZ,kq,false,false,Xg⟩
theorem Yg:am Tryz.prog XT:=by
 unfold XT
 rw [Xz]
 exact Zh
theorem Y4:((0:Int)==0)=true:=rfl
theorem YI:((0:Int) != 0)=false:=rfl
theorem ZZ:((5:Int) != 0)=true:=rfl
theorem nt:(!true)=false:=rfl
theorem nf:(!false)=true:=rfl
theorem Zl (t:ac) (n:Int):(IsCopy t n/\decide (0<=n/\n<(t.2.1.length:Int))=true)\/(¬ IsCopy t n/\decide (0<=n/\n<(t.2.1.length:Int))=false):=by
 by_cases h:0<=n/\n<(t.2.1.length:Int)
 . exact .inl ⟨⟨h.1,h.2⟩,dT h⟩
 . exact .inr ⟨fun h2=>h ⟨h2.l,h2.h⟩,dF h⟩
theorem Z2 (t:ac) (n:Int):(IsPlace t n/\decide (0<=n/\n<t.1)=true)\/(¬ IsPlace t n/\decide (0<=n/\n<t.1)=false):=by
 by_cases h:0<=n/\n<t.1
 . exact .inl ⟨⟨h.1,h.2⟩,dT h⟩
 . exact .inr ⟨fun h2=>h ⟨h2.l,h2.h⟩,dF h⟩
theorem IsCopy.nat {t:ac} {n:Int} (h:IsCopy t n):∃ i:Nat,n=i/\i<t.2.1.length:=⟨n.toNat,by have:=h.l;omega,by have:=h.l;have:=h.h;omega⟩
theorem IsPlace.nat {t:ac} {n:Int} (h:IsPlace t n):∃ i:Nat,n=i/\(i:Int)<t.1:=⟨n.toNat,by have:=h.l;omega,by have:=h.l;have:=h.h;omega⟩
theorem TreeOK.small {t:ac} (h:TreeOK t):t.2.1.length<1000000:=by have:=h.copies;omega
def WL (t:ac) (s:List (List Int)) (p:Nat):List Int:=(List.range t.2.1.length).map fun i=>dX s i p
theorem Zk (t:ac) (s:List (List Int)) (p:Nat):(WL t s p).length=t.2.1.length:=by unfold WL;simp
theorem Xc {t:ac} {s:List (List Int)} {p i:Nat} (h:i<t.2.1.length):(WL t s p).getD i 0=dX s i p:=nu h
theorem StoryOK.cell {t:ac} {s:List (List Int)} (h:StoryOK t s) {i p:Nat} (hi:i<t.2.1.length) (hp:(p:Int)<t.1):wS t s i p:=by
 have hr:=h.row i (by rw [h.len];exact hi);exact hr.cell p (by have:=hr.len;omega)
theorem Ym {t:ac} {s:List (List Int)} (h:StoryOK t s) {p:Nat} (hp:(p:Int)<t.1):VC t p (WL t s p) where
 len:=Zk t s p
 fig:=fun x hx=>by
  unfold WL at hx;obtain ⟨i,hi,rfl⟩:=List.mem_map.1 hx;exact (h.cell (List.mem_range.1 hi) hp).1
 fit:=fun i hi=>by rw [Xc hi];exact (h.cell hi hp).2
theorem TreeOK.at {t:ac} (h:TreeOK t) {p:Nat} (hp:(p:Int)<t.1):TreeP t (p:Int):=h.treeP (by omega) hp
theorem TreeOK.par_lt {t:ac} (h:TreeOK t) {i:Nat} (h0:0<i) (hi:i<t.2.1.length):aZ t i<i:=by
 have:=h.par i h0 hi;unfold aZ;omega
theorem XA {β:Type} (f:Nat->List β):∀ n:Nat,(((List.range n).flatMap f).length:Int)=bg n fun i=>((f i).length:Int)
 | 0=>rfl
 | n+1=>by
  rw [pC,List.length_append];show _=bg n (fun i=>((f i).length:Int))+((f n).length:Int);rw [<- XA f n];omega
theorem YX (m:Nat) (f:Nat->Nat->Int):∀ n:Nat,(bg n fun i=>bg m fun p=>f i p)=bg m fun p=>bg n fun i=>f i p
 | 0=>(nU fun p _=>rfl).symm
 | n+1=>by
  show (bg n fun i=>bg m fun p=>f i p)+(bg m fun p=>f n p)=bg m fun p=>(bg n fun i=>f i p)+f n p
  rw [YX m f n,uO]
theorem ZE {t:ac} {s:List (List Int)} (ht:TreeOK t):((x_ t s).length:Int)=bg t.1.toNat fun p=>fF t (WL t s p):=by
 unfold x_;rw [XA];have e1:(bg t.2.1.length fun i=>((gj t s t.1.toNat i).length:Int))=bg t.2.1.length fun i=>bg t.1.toNat fun p=>(if tC t s i p then (1:Int) else 0):=by
  refine nV fun i hi=>?_
  unfold gj;rw [XA];refine nV fun p hp=>?_
  unfold i_;split<;>rfl
 rw [e1,YX];refine nV fun p hp=>?_
 unfold fF;refine nV fun i hi=>?_
 unfold tC
 by_cases h0:i=0
 . subst h0;simp
 . have hq:=ht.par_lt (by omega) hi;rw [if_neg h0,Xc hi,Xc (by omega)]
   by_cases h1:dX s i p=dX s (aZ t i) p
   . rw [if_pos h1];simp [h1]
   . rw [if_neg h1];simp [h1];omega
theorem Yn {t:ac} {place:Int} (h:TreeP t place) {l:List Int} (hv:VC t place l):gM t place<=fF t l:=by
 have hb:=Vs h;rw [WY h.ground hb];exact hb.few l hv
theorem Y6 {t:ac} {place:Int} (h:TreeP t place) {l:List Int} (hv:VC t place l) (he:fF t l<=gM t place):Best t place l :=
 ⟨hv,fun l' hv'=>Int.le_trans he (Yn h hv')⟩
theorem Y5 {t:ac} {s:List (List Int)} (ht:TreeOK t) (hs:StoryOK t s) (he:((x_ t s).length:Int)=s_ t) {p:Nat} (hp:(p:Int)<t.1):Best t p (WL t s p):=by
 refine Y6 (ht.at hp) (Ym hs hp) (Int.not_lt.1 fun hlt=>?_);rw [ZE ht] at he;have:=Vw (n:=t.1.toNat) (f:=fun p=>gM t p) (g:=fun p=>fF t (WL t s p)) (fun q hq=>Yn (ht.at (by omega)) (Ym hs (by omega))) (k:=p) (by omega) hlt;have e:s_ t=bg t.1.toNat fun p=>gM t p:=rfl
 omega
def Ww (t:ac) (i p:Nat) (f:Int):ac:=(t.1,(WQ t.2.1 i p f,()))
theorem Wy (t:ac) (i p:Nat) (f:Int):(Ww t i p f).2.1.length=t.2.1.length:=by unfold Ww WQ;simp
theorem WX {t:ac} {i p:Nat} {f:Int} (hi:i<t.2.1.length) (j:Nat):bW (Ww t i p f) j=if j=i then ((bW t i).1,((bW t i).2.1.set p f,())) else bW t j:=by
 unfold bW Ww WQ;simp only [Int.toNat_natCast];rw [yz]
 by_cases e:j=i
 . rw [if_pos ⟨e,hi⟩,if_pos e]
 . rw [if_neg fun h=>e h.1,if_neg e]
theorem aam {t:ac} {i p:Nat} {f:Int} (hi:i<t.2.1.length) (j:Nat):bC (Ww t i p f) j=bC t j:=by
 show (bW (Ww t i p f) j).1=(bW t j).1;rw [WX hi]
 by_cases e:j=i
 . rw [if_pos e,e]
 . rw [if_neg e]
theorem aan {t:ac} {i p:Nat} {f:Int} (hi:i<t.2.1.length) (j:Nat):aZ (Ww t i p f) j=aZ t j:=by
 unfold aZ;rw [aam hi]
theorem aao {t:ac} (ht:TreeOK t) {i p:Nat} {f:Int} (hi:i<t.2.1.length) (hp:(p:Int)<t.1) (j q:Nat):aH (Ww t i p f) j q=if j=i/\q=p then f else aH t j q:=by
 rw [ul,ul,WX hi]
 by_cases e:j=i
 . subst e;rw [if_pos rfl];have hl:=(ht.node j hi).len;show ((bW t j).2.1.set p f).getD q 0=_;rw [yz]
   by_cases g:q=p
   . rw [if_pos ⟨g,by omega⟩,if_pos ⟨rfl,g⟩]
   . rw [if_neg fun h=>g h.1,if_neg fun h=>g h.2]
 . rw [if_neg e,if_neg fun h=>e h.1]
theorem Xl {t:ac} (ht:TreeOK t) {i p:Nat} {f:Int} (hi:i<t.2.1.length) (hp:(p:Int)<t.1) (hf:f = -1\/(0<=f/\f<=9)):TreeOK (Ww t i p f) where
 places:=ht.places
 copies:=by rw [Wy];exact ht.copies
 node:=fun j hj=>by
  rw [Wy] at hj;have hn:=ht.node j hj
  by_cases e:j=i
  . subst e;refine ⟨?_,?_,?_⟩
    . rw [WX hi,if_pos rfl];exact hn.par
    . rw [WX hi,if_pos rfl];show (((bW t j).2.1.set p f).length:Int)=t.1;rw [List.length_set];exact hn.len
    . rw [WX hi,if_pos rfl];show rU ((bW t j).2.1.set p f);intro q hq;rw [List.length_set] at hq;rw [yz]
      by_cases g:q=p/\p<(bW t j).2.1.length
      . rw [if_pos g];exact hf
      . rw [if_neg g];exact hn.fig q hq
  . refine ⟨?_,?_,?_⟩<;>rw [WX hi,if_neg e]
    . exact hn.par
    . exact hn.len
    . exact hn.fig
theorem WK {t:ac} {i p:Nat} {f:Int} (hi:i<t.2.1.length) (l:List Int):fF (Ww t i p f) l=fF t l:=by
 unfold fF;rw [Wy];refine nV fun j _=>?_
 rw [aan hi]
theorem W6 {t:ac} (ht:TreeOK t) {i p:Nat} {f:Int} (hi:i<t.2.1.length) (hp:(p:Int)<t.1) (j q:Nat) (x:Int):cv (Ww t i p f) q j x=true<->if j=i/\q=p then f = -1\/f=x else cv t q j x=true:=by
 rw [ik,aao ht hi hp]
 by_cases e:j=i/\q=p
 . rw [if_pos e,if_pos e]
 . rw [if_neg e,if_neg e,ik]
theorem Xn {t:ac} (ht:TreeOK t) {i p:Nat} {f:Int} (hi:i<t.2.1.length) (hp:(p:Int)<t.1) {q:Nat} (hq:q≠p) {l:List Int}:VC (Ww t i p f) q l<->VC t q l:=by
 constructor
 . intro h;refine ⟨by rw [<- Wy t i p f];exact h.len,h.fig,fun j hj=>?_⟩;have:=h.fit j (by rw [Wy];exact hj);rw [W6 ht hi hp,if_neg fun h=>hq h.2] at this;exact this
 . intro h;refine ⟨by rw [Wy];exact h.len,h.fig,fun j hj=>?_⟩;rw [Wy] at hj;rw [W6 ht hi hp,if_neg fun h=>hq h.2];exact h.fit j hj
theorem Xm {t:ac} (ht:TreeOK t) {i p:Nat} {f:Int} (hi:i<t.2.1.length) (hp:(p:Int)<t.1) (hs:aH t i p = -1) (hf:f ≠ -1) {l:List Int}:VC (Ww t i p f) p l<->VC t p l/\l.getD i 0=f:=by
 constructor
 . intro h;refine ⟨⟨by rw [<- Wy t i p f];exact h.len,h.fig,fun j hj=>?_⟩,?_⟩
   . have:=h.fit j (by rw [Wy];exact hj);rw [W6 ht hi hp] at this
     by_cases e:j=i
     . subst e;rw [ik];exact .inl hs
     . rw [if_neg fun h=>e h.1] at this;exact this
   . have:=h.fit i (by rw [Wy];exact hi);rw [W6 ht hi hp,if_pos ⟨rfl,rfl⟩] at this;rcases this with h|h
     . exact absurd h hf
     . exact h.symm
 . rintro ⟨h,e⟩;refine ⟨by rw [Wy];exact h.len,h.fig,fun j hj=>?_⟩;rw [Wy] at hj;rw [W6 ht hi hp]
   by_cases g:j=i/\p=p
   . rw [if_pos g,g.1,e];exact .inr rfl
   . rw [if_neg g];exact h.fit j hj
theorem Y0 {t:ac} (ht:TreeOK t) {i p:Nat} {f:Int} (hi:i<t.2.1.length) (hp:(p:Int)<t.1) {q:Nat} (hq:q≠p) {l:List Int}:Best (Ww t i p f) q l<->Best t q l:=by
 constructor
 . intro h;refine ⟨(Xn ht hi hp hq).1 h.vc,fun l' hl'=>?_⟩;have:=h.few l' ((Xn ht hi hp hq).2 hl');rw [WK hi,WK hi] at this;exact this
 . intro h;refine ⟨(Xn ht hi hp hq).2 h.vc,fun l' hl'=>?_⟩;rw [WK hi,WK hi];exact h.few l' ((Xn ht hi hp hq).1 hl')
theorem YZ {t:ac} (ht:TreeOK t) {i p:Nat} {f:Int} (hi:i<t.2.1.length) (hp:(p:Int)<t.1) (hs:aH t i p = -1) (hf:f ≠ -1) {l0:List Int} (h0:Best t p l0) (e0:l0.getD i 0=f) {l:List Int}:Best (Ww t i p f) p l<->Best t p l/\l.getD i 0=f:=by
 constructor
 . intro h;have hv:=(Xm ht hi hp hs hf).1 h.vc;refine ⟨⟨hv.1,fun l' hl'=>?_⟩,hv.2⟩;have h1:=h.few l0 ((Xm ht hi hp hs hf).2 ⟨h0.vc,e0⟩);rw [WK hi,WK hi] at h1;exact Int.le_trans h1 (h0.few l' hl')
 . rintro ⟨h,e⟩;refine ⟨(Xm ht hi hp hs hf).2 ⟨h.vc,e⟩,fun l' hl'=>?_⟩;rw [WK hi,WK hi];exact h.few l' ((Xm ht hi hp hs hf).1 hl').1
open Classical in
theorem aaq {t:ac} (ht:TreeOK t) {i p:Nat} {f:Int} (hi:i<t.2.1.length) (hp:(p:Int)<t.1) (hf:f = -1\/(0<=f/\f<=9)) {q:Nat} (hq:q≠p) (hqt:(q:Int)<t.1):aq (Ww t i p f) q=aq t q:=by
 rw [I4 ((Xl ht hi hp hf).at hqt).ground,I4 (ht.at hqt).ground,Wy];refine List.filter_congr fun l _=>?_
 rw [decide_eq_decide];exact Y0 ht hi hp hq
open Classical in
theorem aap {t:ac} (ht:TreeOK t) {i p:Nat} {f:Int} (hi:i<t.2.1.length) (hp:(p:Int)<t.1) (hs:aH t i p = -1) (hf:0<=f/\f<=9) {l0:List Int} (h0:Best t p l0) (e0:l0.getD i 0=f):aq (Ww t i p f) p=(aq t p).filter fun l=>decide (l.getD i 0=f):=by
 rw [I4 ((Xl ht hi hp (.inr hf)).at hp).ground,I4 (ht.at hp).ground,Wy,List.filter_filter];refine List.filter_congr fun l _=>?_
 rw [<- Bool.decide_and,decide_eq_decide,YZ ht hi hp hs (by omega) h0 e0];exact And.comm
theorem aaj {t:ac} (ht:TreeOK t) {i p:Nat} {f:Int} (hi:i<t.2.1.length) (hp:(p:Int)<t.1) (hs:aH t i p = -1) (hf:0<=f/\f<=9) {l0:List Int} (h0:Best t p l0) (e0:l0.getD i 0=f):(aq (Ww t i p f) p).length=cU t i p f:=by
 rw [aap ht hi hp hs hf h0 e0];unfold cU;rw [List.countP_eq_length_filter]
theorem Y1 {t:ac} (ht:TreeOK t) {i p:Nat} {f:Int} (hi:i<t.2.1.length) (hp:(p:Int)<t.1) (hf:f = -1\/(0<=f/\f<=9)):∀ k:Nat,(k:Int)<=t.1->di (Ww t i p f) p k=di t p k
 | 0,_=>rfl
 | k+1,h=>by
  have ih:=Y1 ht hi hp hf k (by omega);unfold di;rw [ih]
  by_cases e:(k:Int)=p
  . rw [if_pos e,if_pos e]
  . rw [if_neg e,if_neg e,aaq ht hi hp hf (q:=k) (by omega) (by omega)]
theorem aak {t:ac} (ht:TreeOK t) {i p:Nat} {f:Int} (hi:i<t.2.1.length) (hp:(p:Int)<t.1) (hs:aH t i p = -1) (hf:0<=f/\f<=9) {l0:List Int} (h0:Best t p l0) (e0:l0.getD i 0=f):iZ (Ww t i p f) (-1)=iZ t p * cU t i p f:=by
 have hP:=ht.places;rw [Yk (t:=Ww t i p f) (p:=p) hp,aaj ht hi hp hs hf h0 e0]
 congr 1
 exact Y1 ht hi hp (.inr hf) t.1.toNat (by omega)
theorem aal {t:ac} (ht:TreeOK t) {i p:Nat} {f:Int} (hi:i<t.2.1.length) (hp:(p:Int)<t.1) (hs:aH t i p = -1) (hf:0<=f/\f<=9) {l0:List Int} (h0:Best t p l0) (e0:l0.getD i 0=f):s_ (Ww t i p f)=s_ t:=by
 show (bg t.1.toNat fun q=>gM (Ww t i p f) q)=bg t.1.toNat fun q=>gM t q
 refine nV fun q hq=>?_
 have hqt:(q:Int)<t.1:=by omega
 have hx:=((Xl ht hi hp (.inr hf)).at hqt).ground
 by_cases e:q=p
 . subst e;rw [WY hx ((YZ ht hi hp hs (by omega) h0 e0).2 ⟨h0,e0⟩),WY (ht.at hqt).ground h0,WK hi]
 . have hb:=Vs (ht.at hqt);rw [WY hx ((Y0 ht hi hp e).2 hb),WY (ht.at hqt).ground hb,WK hi]
theorem ZQ {t:ac} (ht:TreeOK t) {i p:Nat} (hi:i<t.2.1.length) (hp:(p:Int)<t.1) (f:Int):f44 (t,((i:Int),((p:Int),(f,())))) = .ret (Ww t i p f):=by
 have hc:=ht.copies;have hP:=ht.places;have hl:=(ht.node i hi).len;have hok:WV t.2.1 (i:Int) (p:Int)=true:=by
  unfold WV;have e:(t.2.1.getD i (0,([],()))).2.1.length=(bW t i).2.1.length:=rfl;rw [Int.toNat_natCast,e,Bool.and_eq_true,Bool.and_eq_true,decide_eq_true_eq];exact ⟨aY (by omega) (by omega),aY (by omega) (by omega),by omega⟩
 unfold f44 Xv;have hfi:bQ ([]:List (Int×aE)) t.2.1=true:=kL (by simp;omega);simp only [hfi,hok,cond_true];rfl
def WM:List Spec:=[XO,If,XP,XQ,XN,XR,AP,AT,AX,XS,XT,AR]
def WG:List (Nat×List Nat):=[]
def WJ:Code:=match ib [1,1,1,1,1,1,1,1,1] (av Tryz.f10) with|some c=>c|none=>.skip
theorem aai:ib [1,1,1,1,1,1,1,1,1] (av Tryz.f10)=some WJ:=by kernel_rfl
def T10 (N:Nat) (x:((Int×((List (Int×((List Int)×Unit)))×Unit))×((List (List Int))×(Int×(Int×Unit))))) (r_21:(Int×(Int×Unit))) (r_23:kX) (r_25:(Int×(Int×(Int×(Int×Unit))))):Out Bool :=
 match ((ae r_23.1) != r_21.1) with
 | true =>
  match sV () with
  | .ret r_35 =>
   .ret r_35
  | .pan p_36 =>
   .pan p_36
  | .fail=>.fail
 | false =>
  bif (ax r_25.1 x.2.1.length) then
   bif (ax r_25.2.1 (List.getD x.2.1 r_25.1.toNat ([]:List Int)).length) then
    match Xg (x.1,(r_25.1,(r_25.2.1,((List.getD (List.getD x.2.1 r_25.1.toNat ([]:List Int)) r_25.2.1.toNat (0:Int)),())))) with
    | .ret r_37 =>
     match oZ (r_37,()) with
     | .ret r_39 =>
      match oV (r_37,()) with
      | .ret r_41 =>
       match (r_39.2.1==(0:Int)) with
       | true =>
        match (r_41.2.1==(0:Int)) with
        | true =>
         match (decide (r_39.1 >= (1:Int))) with
         | true =>
          match (decide (r_39.1<=r_25.2.2.1)) with
          | true =>
           match (r_41.1==r_21.1) with
           | true =>
            match sV () with
            | .ret r_43 =>
             .ret r_43
            | .pan p_44 =>
             .pan p_44
            | .fail=>.fail
           | false =>
            .ret false
          | false =>
           .ret false
         | false =>
          .ret false
        | false =>
         .ret false
       | false =>
        .ret false
      | .pan p_42 =>
       .pan p_42
      | .fail=>.fail
     | .pan p_40 =>
      .pan p_40
     | .fail=>.fail
    | .pan p_38 =>
     .pan p_38
    | .fail=>.fail
   else .fail
  else .fail
def XH (x:((Int×((List (Int×((List Int)×Unit)))×Unit))×((List (List Int))×(Int×(Int×Unit))))) (r_21:(Int×(Int×Unit))) (r_23:kX) (r_25:(Int×(Int×(Int×(Int×Unit))))):St:=[.und,.d be x.2.1,.und,.und,.box [.d (.int .i64) x.1.1,.d ba x.1.2.1],.und,.und,.und,.und,.d (.int .i64) r_21.1,.und,.d (.list (.prod (.int .i64) (.prod (.int .i64) .unit))) r_23.1,.und,.d (.int .i64) r_25.1,.d (.int .i64) r_25.2.1,.d (.int .i64) r_25.2.2.1,.und,.und,.und,.und,.und,.und,.und,.und,.und,.und,.und,.und,.und,.und,.und,.und,.und,.und,.und,.und,.und,.und,.und,.und,.und,.und,.und,.und,.und,.und,.und,.und,.und,.und,.und,.und,.und,.und,.und,.und,.und,.und,.und,.und,.und,.und,.und,.und,.und,.und,.und,.und,.und,.und,.und,.und,.und,.und,.und,.und,.und,.und,.und,.und,.und,.und,.und,.und,.und,.und,.und,.und,.und,.und,.und,.und,.und,.und,.und,.und,.und,.und,.und,.und,.und,.und,.und,.und,.und,.und,.und,.und,.und,.und,.und,.und,.und,.und,.und,.und,.und,.und,.und,.und,.und,.und,.und,.und,.und,.und,.und,.und,.und,.und,.und,.und,.und,.und,.und,.und,.und,.und,.und,.und,.und,.und,.und,.und,.und,.und,.und,.und,.und,.und,.und,.und,.und,.und,.und,.und,.und,.und,.und,.und,.und,.und,.und,.und,.und,.und,.und,.und,.und,.und,.und,.und,.und,.und,.und,.und,.und,.und,.und,.und,.und,.und,.und,.und,.und,.und,.und,.und,.und,.und,.und,.und,.und,.und,.und,.und,.und,.und,.und,.und,.und,.und,.und,.und,.und,.und,.und,.und,.und]
theorem aae (N:Nat) (x:((Int×((List (Int×((List Int)×Unit)))×Unit))×((List (List Int))×(Int×(Int×Unit))))) (r_21:(Int×(Int×Unit))) (r_23:kX) (r_25:(Int×(Int×(Int×(Int×Unit))))):bz Tryz.prog (ah WM) WG N WJ none (zk Tryz.prog Tryz.f10.results.toList false false .bool) (XH x r_21 r_23 r_25)=T10 N x r_21 r_23 r_25:=by kernel_rfl
def W_ (L:(Int×(Int×Unit))->kX->(Int×(Int×(Int×(Int×Unit))))->Out Bool) (x:((Int×((List (Int×((List Int)×Unit)))×Unit))×((List (List Int))×(Int×(Int×Unit))))):Out Bool :=
 match Xd (x.1,()) with
 | .ret r_1 =>
  match (!r_1) with
  | true =>
   match sV () with
   | .ret r_3 =>
    .ret r_3
   | .pan p_4 =>
    .pan p_4
   | .fail=>.fail
  | false =>
   match Xe (x.2.1,()) with
   | .ret r_5 =>
    match (!r_5) with
    | true =>
     match sV () with
     | .ret r_7 =>
      .ret r_7
     | .pan p_8 =>
      .pan p_8
     | .fail=>.fail
    | false =>
     match Xf (x.1,(x.2.1,())) with
     | .ret r_9 =>
      match (!r_9) with
      | true =>
       match sV () with
       | .ret r_11 =>
        .ret r_11
       | .pan p_12 =>
        .pan p_12
       | .fail=>.fail
      | false =>
       match WT (x.1,(x.2.2.1,())) with
       | .ret r_13 =>
        match (!r_13) with
        | true =>
         match sV () with
         | .ret r_15 =>
          .ret r_15
         | .pan p_16 =>
          .pan p_16
         | .fail=>.fail
        | false =>
         match WU (x.1,(x.2.2.2.1,())) with
         | .ret r_17 =>
          match (!r_17) with
          | true =>
           match sV () with
           | .ret r_19 =>
            .ret r_19
           | .pan p_20 =>
            .pan p_20
           | .fail=>.fail
          | false =>
           match oV (x.1,()) with
           | .ret r_21 =>
            match o_ (x.1,(x.2.1,())) with
            | .ret r_23 =>
             match pi (x.1,()) with
             | .ret r_25 =>
              match (r_21.2.1 != (0:Int)) with
              | true =>
               .ret false
              | false =>
               match (r_23.2.1 != (0:Int)) with
               | true =>
                .ret false
               | false =>
                match (r_25.2.2.2.1 != (0:Int)) with
                | true =>
                 match (r_25.2.2.2.1 != (5:Int)) with
                 | true =>
                  .ret false
                 | false =>
                  match (r_25.2.2.2.1 != (0:Int)) with
                  | true =>
                   bif (ax x.2.2.1 x.1.2.1.length) then
                    bif (ax x.2.2.2.1 ((List.getD x.1.2.1 x.2.2.1.toNat ((0:Int),(([]:List Int),())))).2.1.length) then
                     match (decide ((List.getD ((List.getD x.1.2.1 x.2.2.1.toNat ((0:Int),(([]:List Int),())))).2.1 x.2.2.2.1.toNat (0:Int)) >= (0:Int))) with
                     | true =>
                      match sV () with
                      | .ret r_27 =>
                       .ret r_27
                      | .pan p_28 =>
                       .pan p_28
                      | .fail=>.fail
                     | false =>
                      .ret false
                    else .fail
                   else .fail
                  | false =>
                   match WT (x.1,(r_25.1,())) with
                   | .ret r_29 =>
                    match (!r_29) with
                    | true =>
                     .ret false
                    | false =>
                     match WU (x.1,(r_25.2.1,())) with
                     | .ret r_31 =>
                      match (!r_31) with
                      | true =>
                       .ret false
                      | false =>
                       bif (ax r_25.1 x.1.2.1.length) then
                        bif (ax r_25.2.1 ((List.getD x.1.2.1 r_25.1.toNat ((0:Int),(([]:List Int),())))).2.1.length) then
                         match (decide ((List.getD ((List.getD x.1.2.1 r_25.1.toNat ((0:Int),(([]:List Int),())))).2.1 r_25.2.1.toNat (0:Int)) >= (0:Int))) with
                         | true =>
                          .ret false
                         | false =>
                          match (decide (r_25.2.2.1<(1:Int))) with
                          | true =>
                           .ret false
                          | false =>
                           bif (ax x.2.2.1 x.1.2.1.length) then
                            bif (ax x.2.2.2.1 ((List.getD x.1.2.1 x.2.2.1.toNat ((0:Int),(([]:List Int),())))).2.1.length) then
                             match (decide ((List.getD ((List.getD x.1.2.1 x.2.2.1.toNat ((0:Int),(([]:List Int),())))).2.1 x.2.2.2.1.toNat (0:Int))<(0:Int))) with
                             | true =>
                              match W0 (x.1,(x.2.2.1,(x.2.2.2.1,()))) with
                              | .ret r_33 =>
                               match (decide (r_33<r_25.2.2.1)) with
                               | true =>
                                .ret false
                               | false =>
                                match (r_33==r_25.2.2.1) with
                                | true =>
                                 match (decide (x.2.2.1<r_25.1)) with
                                 | true =>
                                  .ret false
                                 | false =>
                                  match (x.2.2.1==r_25.1) with
                                  | true =>
                                   match (decide (x.2.2.2.1<r_25.2.1)) with
                                   | true =>
                                    .ret false
                                   | false =>
                                    L r_21 r_23 r_25
                                  | false =>
                                   L r_21 r_23 r_25
                                | false =>
                                 L r_21 r_23 r_25
                              | .pan p_34 =>
                               .pan p_34
                              | .fail=>.fail
                             | false =>
                              L r_21 r_23 r_25
                            else .fail
                           else .fail
                        else .fail
                       else .fail
                     | .pan p_32 =>
                      .pan p_32
                     | .fail=>.fail
                   | .pan p_30 =>
                    .pan p_30
                   | .fail=>.fail
                | false =>
                 match (r_25.2.2.2.1 != (0:Int)) with
                 | true =>
                  bif (ax x.2.2.1 x.1.2.1.length) then
                   bif (ax x.2.2.2.1 ((List.getD x.1.2.1 x.2.2.1.toNat ((0:Int),(([]:List Int),())))).2.1.length) then
                    match (decide ((List.getD ((List.getD x.1.2.1 x.2.2.1.toNat ((0:Int),(([]:List Int),())))).2.1 x.2.2.2.1.toNat (0:Int)) >= (0:Int))) with
                    | true =>
                     match sV () with
                     | .ret r_45 =>
                      .ret r_45
                     | .pan p_46 =>
                      .pan p_46
                     | .fail=>.fail
                    | false =>
                     .ret false
                   else .fail
                  else .fail
                 | false =>
                  match WT (x.1,(r_25.1,())) with
                  | .ret r_47 =>
                   match (!r_47) with
                   | true =>
                    .ret false
                   | false =>
                    match WU (x.1,(r_25.2.1,())) with
                    | .ret r_49 =>
                     match (!r_49) with
                     | true =>
                      .ret false
                     | false =>
                      bif (ax r_25.1 x.1.2.1.length) then
                       bif (ax r_25.2.1 ((List.getD x.1.2.1 r_25.1.toNat ((0:Int),(([]:List Int),())))).2.1.length) then
                        match (decide ((List.getD ((List.getD x.1.2.1 r_25.1.toNat ((0:Int),(([]:List Int),())))).2.1 r_25.2.1.toNat (0:Int)) >= (0:Int))) with
                        | true =>
                         .ret false
                        | false =>
                         match (decide (r_25.2.2.1<(1:Int))) with
                         | true =>
                          .ret false
                         | false =>
                          bif (ax x.2.2.1 x.1.2.1.length) then
                           bif (ax x.2.2.2.1 ((List.getD x.1.2.1 x.2.2.1.toNat ((0:Int),(([]:List Int),())))).2.1.length) then
                            match (decide ((List.getD ((List.getD x.1.2.1 x.2.2.1.toNat ((0:Int),(([]:List Int),())))).2.1 x.2.2.2.1.toNat (0:Int))<(0:Int))) with
                            | true =>
                             match W0 (x.1,(x.2.2.1,(x.2.2.2.1,()))) with
                             | .ret r_51 =>
                              match (decide (r_51<r_25.2.2.1)) with
                              | true =>
                               .ret false
                              | false =>
                               match (r_51==r_25.2.2.1) with
                               | true =>
                                match (decide (x.2.2.1<r_25.1)) with
                                | true =>
                                 .ret false
                                | false =>
                                 match (x.2.2.1==r_25.1) with
                                 | true =>
                                  match (decide (x.2.2.2.1<r_25.2.1)) with
                                  | true =>
                                   .ret false
                                  | false =>
                                   L r_21 r_23 r_25
                                 | false =>
                                  L r_21 r_23 r_25
                               | false =>
                                L r_21 r_23 r_25
                             | .pan p_52 =>
                              .pan p_52
                             | .fail=>.fail
                            | false =>
                             L r_21 r_23 r_25
                           else .fail
                          else .fail
                       else .fail
                      else .fail
                    | .pan p_50 =>
                     .pan p_50
                    | .fail=>.fail
                  | .pan p_48 =>
                   .pan p_48
                  | .fail=>.fail
             | .pan p_26 =>
              .pan p_26
             | .fail=>.fail
            | .pan p_24 =>
             .pan p_24
            | .fail=>.fail
           | .pan p_22 =>
            .pan p_22
           | .fail=>.fail
         | .pan p_18 =>
          .pan p_18
         | .fail=>.fail
       | .pan p_14 =>
        .pan p_14
       | .fail=>.fail
     | .pan p_10 =>
      .pan p_10
     | .fail=>.fail
   | .pan p_6 =>
    .pan p_6
   | .fail=>.fail
 | .pan p_2 =>
  .pan p_2
 | .fail=>.fail
def W9 (N:Nat) (x:((Int×((List (Int×((List Int)×Unit)))×Unit))×((List (List Int))×(Int×(Int×Unit))))):Out Bool:=W_ (T10 N x) x
theorem Z4 (E:(X->St->Out (Ty.den .bool))->St->Out (Ty.den .bool)) (N:Nat) (x:((Int×((List (Int×((List Int)×Unit)))×Unit))×((List (List Int))×(Int×(Int×Unit))))):og Tryz.prog (ah WM) WG N (fun k st=>E k (keep [1,4,9,11,13,14,15] [] 0 st)) [1,1,1,1,1,1,1,1,1] (av Tryz.f10) (zk Tryz.prog Tryz.f10.results.toList false false .bool) (eM Tryz.f10.ntmps (.prod (.prod (.int .i64) (.prod (.list (.prod (.int .i64) (.prod (.list (.int .i64)) .unit))) .unit)) (.prod (.list (.list (.int .i64))) (.prod (.int .i64) (.prod (.int .i64) .unit)))) x)=W_ (fun r_21 r_23 r_25=>E (zk Tryz.prog Tryz.f10.results.toList false false .bool) (XH x r_21 r_23 r_25)) x:=by kernel_rfl
theorem e10 (N:Nat) (x:((Int×((List (Int×((List Int)×Unit)))×Unit))×((List (List Int))×(Int×(Int×Unit))))):uX Tryz.prog (ah WM) WG N (fun {ρ} k st=>bz Tryz.prog (ah WM) WG N WJ none k (keep [1,4,9,11,13,14,15] [] 0 st)) [1,1,1,1,1,1,1,1,1] Tryz.f10 false false (.prod (.prod (.int .i64) (.prod (.list (.prod (.int .i64) (.prod (.list (.int .i64)) .unit))) .unit)) (.prod (.list (.list (.int .i64))) (.prod (.int .i64) (.prod (.int .i64) .unit)))) .bool x=W9 N x:=by
 have h:(fun r_21 r_23 r_25=>bz Tryz.prog (ah WM) WG N WJ none (zk Tryz.prog Tryz.f10.results.toList false false .bool) (XH x r_21 r_23 r_25))=T10 N x:=by
  funext r_21 r_23 r_25
  exact aae N x r_21 r_23 r_25
 exact (Z4 (fun k st=>bz Tryz.prog (ah WM) WG N WJ none k st) N x).trans (congrArg (fun L=>W_ L x) h)
theorem aaf:rI Tryz.prog WJ (fun {ρ} k st=>bz Tryz.prog (ah WM) WG fuel WJ none k (keep [1,4,9,11,13,14,15] [] 0 st)):=by
 intro ρ fin hf F M0 w0 n hI hpl k Q hp hQ st a w hc h
 exact ie (eK (all_cons Yb (all_cons Wj (all_cons Yc (all_cons Yd (all_cons Ya (all_cons Ye (all_cons LN (all_cons LY (all_cons L7 (all_cons Yf (all_cons Yg (all_cons LR aO))))))))))))) mixed WG fuel hf WJ F M0 w0 none none n (fun _=>rfl) hI (fun j v hj=>(hpl j v hj).elim) k Q (fun _=>hp) hQ _ a w (hc.mask (Gf _ _ _ _) (Ge _ _ 0 st) fun j v hj=>(hpl j v hj).elim) h
def f10 (x:((Int×((List (Int×((List Int)×Unit)))×Unit))×((List (List Int))×(Int×(Int×Unit))))):Out Bool:=W9 fuel x
def Z8:Spec:=⟨10,.call,(.prod (.prod (.int .i64) (.prod (.list (.prod (.int .i64) (.prod (.list (.int .i64)) .unit))) .unit)) (.prod (.list (.list (.int .i64))) (.prod (.int .i64) (.prod (.int .i64) .unit)))),.bool,false,false,f10⟩
theorem c10:am Tryz.prog Z8:=M4 (l:=WM) (arg:=(.prod (.prod (.int .i64) (.prod (.list (.prod (.int .i64) (.prod (.list (.int .i64)) .unit))) .unit)) (.prod (.list (.list (.int .i64))) (.prod (.int .i64) (.prod (.int .i64) .unit))))) (res:=.bool) (multi:=false) (own:=false) (F:=f10) mixed (all_cons Yb (all_cons Wj (all_cons Yc (all_cons Yd (all_cons Ya (all_cons Ye (all_cons LN (all_cons LY (all_cons L7 (all_cons Yf (all_cons Yg (all_cons LR aO)))))))))))) (c:=av Tryz.f10) (r:=WJ) Tryz.func10 (by kernel_rfl) (E:=(fun {ρ} k st=>bz Tryz.prog (ah WM) WG fuel WJ none k (keep [1,4,9,11,13,14,15] [] 0 st))) (path:=[1,1,1,1,1,1,1,1,1]) aai aaf WG fun x _=>⟨fuel,e10 fuel x⟩
def Xa (a b:eC):Prop:=a.1<b.1\/(a.1=b.1/\a.2.1<b.2.1)
theorem XM {α:Type} {R:α->α->Prop} {f:Nat->List α}:∀ n:Nat,(∀ i,i<n->(f i).Pairwise R)->(∀ i j,i<j->j<n->∀ x∈f i,∀ y∈f j,R x y)->((List.range n).flatMap f).Pairwise R
 | 0,_,_=>by simp
 | n+1,h1,h2=>by
  rw [pC,List.pairwise_append];refine ⟨XM n (fun i hi=>h1 i (by omega)) fun i j hij hj=>h2 i j hij (by omega),h1 n (by omega),fun x hx y hy=>?_⟩;obtain ⟨i,hi,hx⟩:=List.mem_flatMap.1 hx;exact h2 i n (List.mem_range.1 hi) (by omega) x hx y hy
theorem XJ {t:ac} {i p:Nat} {u:eC}:u∈kr t i p<->aH t i p = -1/\u=((i:Int),((p:Int),(jT t i p,()))):=by
 unfold kr
 by_cases h:aH t i p = -1
 . rw [if_pos h];simp [h]
 . rw [if_neg h];simp [h]
theorem XK {t:ac} {P i:Nat} {u:eC}:u∈iN t P i<->∃ p,p<P/\aH t i p = -1/\u=((i:Int),((p:Int),(jT t i p,()))):=by
 unfold iN;rw [List.mem_flatMap];simp only [List.mem_range,XJ]
theorem XL {t:ac} {u:eC}:u∈od t<->∃ i p,i<t.2.1.length/\p<t.1.toNat/\aH t i p = -1/\u=((i:Int),((p:Int),(jT t i p,()))):=by
 unfold od gZ;rw [List.mem_flatMap];simp only [List.mem_range,XK];constructor
 . rintro ⟨i,hi,p,h⟩;exact ⟨i,p,hi,h⟩
 . rintro ⟨i,p,hi,h⟩;exact ⟨i,hi,p,h⟩
theorem aah (t:ac):(od t).Pairwise Xa:=by
 unfold od gZ;refine XM _ (fun i _=>?_) fun i j hij _ x hx y hy=>?_
 . unfold iN;refine XM _ (fun p _=>?_) fun p q hpq _ x hx y hy=>?_
   . unfold kr;split<;>simp
   . obtain ⟨_,rfl⟩:=XJ.1 hx;obtain ⟨_,rfl⟩:=XJ.1 hy;exact .inr ⟨rfl,by show (p:Int)<q;omega⟩
 . obtain ⟨p,_,_,rfl⟩:=XK.1 hx;obtain ⟨q,_,_,rfl⟩:=XK.1 hy;exact .inl (by show (i:Int)<j;omega)
theorem X9:∀ (n:Nat) (l:List eC),l.length=n->0<n->l.Pairwise Xa->(eO l).1∈l/\∀ u∈l,(eO l).1.2.2.1<=u.2.2.1/\((eO l).1.2.2.1=u.2.2.1->(eO l).1=u\/Xa (eO l).1 u)
 | 0,_,_,h,_=>by omega
 | n+1,l,hl,_,hp=>by
  have hne:l≠[]:=fun e=>by rw [e] at hl;simp at hl
  obtain ⟨m,u,rfl⟩:∃ m u,l=m++[u]:=⟨l.dropLast,l.getLast hne,(List.dropLast_concat_getLast hne).symm⟩
  have hm:m.length=n:=by simpa using hl
  rw [List.pairwise_append] at hp;obtain ⟨hp1,_,hp3⟩:=hp;rw [Dz]
  by_cases h0:n=0
  . have e:m=[]:=List.eq_nil_of_length_eq_zero (by omega);subst e;have:mn (eO []) u=(u,true):=by unfold mn eO;rw [if_pos (.inl rfl)]
    rw [this];refine ⟨by simp,fun v hv=>?_⟩;obtain rfl:v=u:=by simpa using hv
    exact ⟨Int.le_refl _,fun _=>.inl rfl⟩
  . obtain ⟨i1,i2⟩:=X9 n m hm (by omega) hp1;have hmet:(eO m).2=true:=by rw [Dy,decide_eq_true_eq];omega
    unfold mn
    by_cases h:u.2.2.1<(eO m).1.2.2.1
    . rw [if_pos (.inr h)];refine ⟨by simp,fun v hv=>?_⟩;rcases List.mem_append.1 hv with hv|hv
      . have:=(i2 v hv).1;exact ⟨by show u.2.2.1<=v.2.2.1;omega,fun e=>by have e:u.2.2.1=v.2.2.1:=e;omega⟩
      . obtain rfl:v=u:=by simpa using hv
        exact ⟨Int.le_refl _,fun _=>.inl rfl⟩
    . have hnot:¬ ((eO m).2=false\/u.2.2.1<(eO m).1.2.2.1):=by
       rintro (h2|h2)
       . rw [hmet] at h2;cases h2
       . exact h h2
      rw [if_neg hnot];refine ⟨List.mem_append.2 (.inl i1),fun v hv=>?_⟩;rcases List.mem_append.1 hv with hv|hv
      . exact i2 v hv
      . obtain rfl:v=u:=by simpa using hv
        exact ⟨by omega,fun _=>.inr (hp3 _ i1 v (by simp))⟩
theorem YH (t:ac) (i p:Nat):∀ (n f:Nat),f<n->(cU t i p f:Int)<=gr t i p n
 | 0,f,h=>by omega
 | n+1,f,h=>by
  unfold gr
  by_cases e:f=n
  . subst e;split<;>omega
  . have:=YH t i p n f (by omega);split<;>omega
theorem YF {t:ac} (ht:TreeOK t) {i p:Nat} (hp:(p:Int)<t.1) {f:Nat} (hf:f<10):iZ t p * cU t i p f<=jT t i p:=by
 have h1:=YH t i p 10 f hf;have h2:=(MR ht (p:Int)).1;unfold jT;rw [Int.mul_comm];exact Int.mul_le_mul_of_nonneg_right h1 (by omega)
theorem ZT {t:ac} (ht:TreeOK t) {i p:Nat} (hi:i<t.2.1.length) (hp:(p:Int)<t.1):1<=jT t i p:=by
 have hb:=Vs (ht.at hp);have hx:=hb.vc.at hi;obtain ⟨f,hf⟩:∃ f:Nat,((aq t p).getD 0 []).getD i 0=f:=⟨(((aq t p).getD 0 []).getD i 0).toNat,by omega⟩
 have h1:=YF ht (i:=i) hp (f:=f) (by omega);have h2:0<cU t i p f:=List.countP_pos_iff.2 ⟨_,(BN (ht.at hp)).2 hb,decide_eq_true hf⟩;have h3:=(MR ht (p:Int)).1;have h4:1 * 1<=iZ t p * (cU t i p f:Int):=Int.mul_le_mul h3 (by omega) (by omega) (by omega);omega
theorem Z7 {t:ac} (ht:TreeOK t) {i p:Nat} (hi:i<t.2.1.length) (hp:(p:Int)<t.1):aH t i p<0<->aH t i p = -1:=by
 have:=Z6 ht hi hp;omega
theorem ZS (t:ac) (s:List (List Int)) (a b:Int):f10 (t,(s,(a,(b,())))) = .ret true:=by
 show W9 fuel (t,(s,(a,(b,()))))=_;unfold W9 W_;simp only [Yq,Yr,Ys,Yp,Yt,EM,EQ,EU,Yu,Xz,EO];rcases ZL t with h22|⟨h22,ht⟩
 . simp only [h22,nf,Wq]
 obtain ⟨c,h31⟩:=ZN s;simp only [h22,nt,h31];cases c with
 | false=>simp only [nf,Wq]
 | true =>
  simp only [nt];rcases I9 ht s with ⟨hs,h32,_⟩|⟨hs,h32,_⟩
  rotate_left
  . simp only [h32,nf,Wq]
  have hsm:=ht.small;simp only [h32,nt,ZK (t:=t) _ hsm];rcases Zl t a with ⟨ha,ea⟩|⟨ha,ea⟩
  rotate_left
  . simp only [ea,nf,Wq]
  simp only [ea,nt,ZO ht];rcases Z2 t b with ⟨hb,eb⟩|⟨hb,eb⟩
  rotate_left
  . simp only [eb,nf,Wq]
  obtain ⟨i,rfl,hi⟩:=ha.nat;obtain ⟨p,rfl,hp⟩:=hb.nat;have hP:=ht.places;have hnode:((t.2.1.getD i bh).2.1.length:Int)=t.1:=(ht.node i hi).len;have es:aH t i p=(t.2.1.getD i bh).2.1.getD p 0:=ul t i p;have hno:=Z7 ht hi hp;simp only [eb,nt,Pr ht,Px ht hs,P1 ht,YI,aY (show (0:Int)<=i by omega) (show (i:Int)<t.2.1.length by omega),Int.toNat_natCast,aY (show (0:Int)<=p by omega) (show (p:Int)<(t.2.1.getD i bh).2.1.length by omega),cond_true];have hup:=aah t
  by_cases hu:od t=[]
  . have e2:(iB t).2=false:=by unfold iB;rw [hu];rfl
    have hr:GL t = .ret (0,(0,(0,(5,())))):=by unfold GL;rw [e2];rfl
    have hse:(t.2.1.getD i bh).2.1.getD p 0 >= 0:=by
     rw [<- es];refine Int.not_lt.1 fun h=>?_
     have:=XL.2 ⟨i,p,hi,by omega,hno.1 h,rfl⟩;rw [hu] at this;cases this
    simp only [hr,ZZ,show ((5:Int) != 5)=false from rfl,dT hse,Wq]
  . have hlen:0<(od t).length:=List.length_pos_iff.2 hu;have e2:(iB t).2=true:=by unfold iB;rw [Dy,decide_eq_true_eq];exact hlen
    obtain ⟨m1,m2⟩:=X9 (od t).length (od t) rfl hlen hup;have hm1:(iB t).1∈od t:=m1;obtain ⟨c,q,hc,hq,hcs,hcq⟩:=XL.1 hm1;have hq:(q:Int)<t.1:=by omega
    have m2':∀ u∈od t,jT t c q<=u.2.2.1/\(jT t c q=u.2.2.1->(((c:Int),((q:Int),(jT t c q,()))):eC)=u\/Xa ((c:Int),((q:Int),(jT t c q,()))) u):=fun u hu=>by
     have:=m2 u hu;rw [show eO (od t)=iB t from rfl,hcq] at this;exact this
    have hr:GL t = .ret ((c:Int),((q:Int),(jT t c q,(0,())))):=by unfold GL;rw [e2,hcq];rfl
    have hnode2:((t.2.1.getD c bh).2.1.length:Int)=t.1:=(ht.node c hc).len;have es2:aH t c q=(t.2.1.getD c bh).2.1.getD q 0:=ul t c q;have hn1:=ZT ht hc hq;have hsl:=hs.len;have hrow:=(hs.row c (by omega)).len;have fin:T10 fuel (t,(s,((i:Int),((p:Int),())))) (s_ t,(0,())) (x_ t s,(0,())) ((c:Int),((q:Int),(jT t c q,(0,())))) = .ret true:=by
     unfold T10;simp only [Xz,EO,EM]
     by_cases he:((x_ t s).length:Int)=s_ t
     rotate_left
     . simp only [nT (show ae (x_ t s)≠s_ t from he),Wq]
     have hfg:=(hs.cell (i:=c) (p:=q) hc hq).1;have hb:=Y5 ht hs he hq;have eb:(WL t s q).getD c 0=dX s c q:=Xc hc;have ec:(s.getD c []).getD q 0=dX s c q:=rfl;have hw:=Xl ht hc hq (f:=dX s c q) (.inr hfg);have hcnt:=aak ht hc hq hcs hfg hb eb;have hfew:=aal ht hc hq hcs hfg hb eb;obtain ⟨f,hf⟩:∃ f:Nat,dX s c q=f:=⟨(dX s c q).toNat,by omega⟩
     have hle:iZ (Ww t c q (dX s c q)) (-1)<=jT t c q:=by
      rw [hcnt,hf];exact YF ht hq (by omega)
     have hge:=(MR hw (-1)).1;simp only [nF (show ae (x_ t s)=s_ t from he),aY (show (0:Int)<=c by omega) (show (c:Int)<s.length by omega),aY (show (0:Int)<=q by omega) (show (q:Int)<(s.getD c []).length by omega),Int.toNat_natCast,cond_true,Wq,ec,ZQ ht hc hq,Pu hw,Pr hw,Y4,dT (show iZ (Ww t c q (dX s c q)) (-1) >= 1 from hge),dT hle,eT hfew]
    simp only [hr,YI,dT (show 0<=(c:Int)/\(c:Int)<t.2.1.length by omega),dT (show 0<=(q:Int)/\(q:Int)<t.1 by omega),nt,aY (show (0:Int)<=c by omega) (show (c:Int)<t.2.1.length by omega),Int.toNat_natCast,aY (show (0:Int)<=q by omega) (show (q:Int)<(t.2.1.getD c bh).2.1.length by omega),cond_true,
     dF (show ¬ (t.2.1.getD c bh).2.1.getD q 0 >= 0 by rw [<- es2];omega),dF (show ¬ jT t c q<1 by omega),aY (show (0:Int)<=c by omega) (show (c:Int)<s.length by omega),aY (show (0:Int)<=q by omega) (show (q:Int)<(s.getD c []).length by omega),Wq]
    by_cases hse:(t.2.1.getD i bh).2.1.getD p 0<0
    rotate_left
    . simp only [dF hse];exact fin
    have hsm1:aH t i p = -1:=hno.1 (by rw [es];exact hse);obtain ⟨k1,k2⟩:=m2' ((i:Int),((p:Int),(jT t i p,()))) (XL.2 ⟨i,p,hi,by omega,hsm1,rfl⟩);have k1:jT t c q<=jT t i p:=k1;simp only [dT hse,ZP ht hi hp,dF (show ¬ jT t i p<jT t c q by omega)]
    by_cases hq2:jT t i p=jT t c q
    rotate_left
    . simp only [eF hq2];exact fin
    have k3:=k2 hq2.symm;have k4:((c:Int)<i)\/((c:Int)=i/\(q:Int)<=p):=by
     rcases k3 with h|h|h
     . have h1:(c:Int)=i:=congrArg (fun z:eC=>z.1) h;have h2:(q:Int)=p:=congrArg (fun z:eC=>z.2.1) h;omega
     . exact .inl h
     . have h1:(c:Int)=i:=h.1;have h2:(q:Int)<p:=h.2;omega
    simp only [eT hq2,dF (show ¬ (i:Int)<c by omega)]
    by_cases hci:(i:Int)=c
    . simp only [eT hci,dF (show ¬ (p:Int)<q by omega)];exact fin
    . simp only [eF hci];exact fin
end Go.V
end
