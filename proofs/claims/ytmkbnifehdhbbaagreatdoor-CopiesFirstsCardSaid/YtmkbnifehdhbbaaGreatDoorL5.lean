/- What law 5 of the copies needs beyond what all laws need: functions read, and the plain law. -/
import Derived.Test.YtmkbnifehdhbbaaGreatDoorQL
import Derived.Test.YtmkbnifehdhbbaaGreatDoorCR2
import Derived.Test.YtmkbnifehdhbbaaGreatDoorCRA
set_option linter.all false
noncomputable section
namespace Go.V
open Go.Proofs
def specs13:List Spec:=[]
def hints13:List (Nat×List Nat):=[(2,[1,3])]
def L13_0 (N:Nat) (n_L13_0:Nat) (x:lt1) (i_1:Int):Out Bool :=
 vloop Tryz.prog (phi specs13) hints13 N Tryz.f13 false false .bool [.at 1,.at 0,.at 1,.at 0] n_L13_0 [U,.box [.d (.int .i64) x.1.1,.d ty0 x.1.2.1],U,.d (.int .i64) i_1,U,U,U,U,U,U,U,U,U,U,U,U,U,U,U,U,U,U,U,U,U,U,U]
theorem L13_0_succ (N:Nat) (n_L13_0:Nat) (x:lt1) (i_1:Int):L13_0 N  (n_L13_0+1) x i_1 =
 (match (decide (i_1<(lenI x.1.2.1))) with|true=>(match (decide (i_1<10)) with|true=>bif (inb i_1 x.1.2.1.length) then match (decide ((lenI ((List.getD x.1.2.1 i_1.toNat (0,([],())))).2.1) > 5)) with|true=>.ret false|false=>L13_0 N n_L13_0 x (IntKind.i64.wrap (i_1+1)) else .fail|false=>.ret (decide ((lenI x.1.2.1)<=10)))|false=>.ret (decide ((lenI x.1.2.1)<=10)):Out Bool):=by kernel_rfl
def F13 (N:Nat) (x:lt1):Out Bool:=L13_0 N N x 0
theorem e13 (N:Nat) (x:lt1):vfn Tryz.prog (phi specs13) hints13 N Tryz.f13 false false ty2 .bool x=F13 N x:=by kernel_rfl
def f13 (x:lt1):Out Bool:=F13 fuel x
def sp13:Spec:=⟨13,.call,ty2,.bool,false,false,f13⟩
theorem c13:Contract Tryz.prog sp13:=contract_at (l:=specs13) (arg:=ty2) (res:=.bool) (multi:=false) (own:=false) (F:=f13) mixed all_nil Tryz.func13 rfl hints13 fun x _=>⟨fuel,e13 fuel x⟩
def specs61:List Spec:=[]
def hints61:List (Nat×List Nat):=[]
theorem e61 (N:Nat) (x:(Int×(Int×(Int×Unit)))):vfn Tryz.prog (phi specs61) hints61 N Tryz.f61 false false ty10 .bool x=F61 N x:=by kernel_rfl
theorem c61:Contract Tryz.prog sp61:=contract_at (l:=specs61) (arg:=ty10) (res:=.bool) (multi:=false) (own:=false) (F:=f61) mixed all_nil Tryz.func61 rfl hints61 fun x _=>⟨fuel,e61 fuel x⟩
def specs66:List Spec:=[]
def hints66:List (Nat×List Nat):=[(3,[1,2,5,6])]
def L66_0 (N:Nat) (n_L66_0:Nat) (x:lt15) (n_1:Int) (i_2:Int):Out Int :=
 vloop Tryz.prog (phi specs66) hints66 N Tryz.f66 false false (.int .i64) [.at 1,.at 1,.at 0,.at 1,.at 0] n_L66_0 [U,.d (.list (.int .i64)) x.2.1,.box [.d (.int .i64) x.1.1,.d ty0 x.1.2.1],U,U,.d (.int .i64) n_1,.d (.int .i64) i_2,U,U,U,U,U,U,U,U,U,U,U,U,U,U,U,U,U,U,U,U,U,U,U]
theorem L66_0_succ (N:Nat) (n_L66_0:Nat) (x:lt15) (n_1:Int) (i_2:Int):L66_0 N  (n_L66_0+1) x n_1 i_2 =
 (match (decide (i_2<(lenI x.2.1))) with|true=>bif (inb i_2 x.2.1.length) then bif (inb i_2 x.1.2.1.length) then bif (inb ((List.getD x.1.2.1 i_2.toNat (0,([],())))).1 x.2.1.length) then match ((List.getD x.2.1 i_2.toNat 0) != (List.getD x.2.1 ((List.getD x.1.2.1 i_2.toNat (0,([],())))).1.toNat 0)) with|true=>L66_0 N n_L66_0 x (IntKind.i64.wrap (n_1+1)) (IntKind.i64.wrap (i_2+1))|false=>L66_0 N n_L66_0 x n_1 (IntKind.i64.wrap (i_2+1)) else .fail else .fail else .fail|false=>.ret n_1:Out Int):=by kernel_rfl
def F66 (N:Nat) (x:lt15):Out Int:=L66_0 N N x 0 1
theorem e66 (N:Nat) (x:lt15):vfn Tryz.prog (phi specs66) hints66 N Tryz.f66 false false ty23 (.int .i64) x=F66 N x:=by kernel_rfl
def f66 (x:lt15):Out Int:=F66 fuel x
def sp66:Spec:=⟨66,.call,ty23,(.int .i64),false,false,f66⟩
theorem c66:Contract Tryz.prog sp66:=contract_at (l:=specs66) (arg:=ty23) (res:=(.int .i64)) (multi:=false) (own:=false) (F:=f66) mixed all_nil Tryz.func66 rfl hints66 fun x _=>⟨fuel,e66 fuel x⟩
def specs104 (g:((Int×((List (Int×((List Int)×Unit)))×Unit))×(Int×((List Int)×((List Int)×(Int×Unit)))))->Out (List (List Int))):List Spec:=[sp66,⟨104,.call,(.prod (.prod (.int .i64) (.prod (.list (.prod (.int .i64) (.prod (.list (.int .i64)) .unit))) .unit)) (.prod (.int .i64) (.prod (.list (.int .i64)) (.prod (.list (.int .i64)) (.prod (.int .i64) .unit))))),ty1,false,true,g⟩]
def hints104:List (Nat×List Nat):=[(8,[1,2,3,4,5,11,12,13])]
def L104_0 (g:((Int×((List (Int×((List Int)×Unit)))×Unit))×(Int×((List Int)×((List Int)×(Int×Unit)))))->Out (List (List Int))) (N:Nat) (n_L104_0:Nat) (x:((Int×((List (Int×((List Int)×Unit)))×Unit))×(Int×((List Int)×((List Int)×(Int×Unit)))))) (out_3:(List (List Int))) (i_4:Int):Out (List (List Int)) :=
 vloop Tryz.prog (phi (specs104 g)) hints104 N Tryz.f104 false true ty1 [.at 1,.at 1,.at 1,.at 1,.at 1,.at 0,.at 1,.at 0] n_L104_0 [U,.d (.int .i64) x.2.1,.d (.list (.int .i64)) x.2.2.1,.d (.list (.int .i64)) x.2.2.2.1,.d (.int .i64) x.2.2.2.2.1,.box [.d (.int .i64) x.1.1,.d ty0 x.1.2.1],U,U,U,U,U,.d (.int .i64) (List.getD ((List.getD x.1.2.1 (lenI x.2.2.1).toNat ((0:Int),(([]:List Int),())))).2.1 x.2.1.toNat (0:Int)),.own (.list (.int .i64)) out_3 false,.d (.int .i64) i_4,U,U,U,U,U,U,U,U,U,U,U,U,U,U,U,U,U,U,U,U,U,U,U,U,U,U,U,U,U,U,U,U,U,U,U,U,U,U,U,U,U,U,U,U,U,U,U,U,U,U,U,U,U,U,U]
theorem L104_0_succ (g:((Int×((List (Int×((List Int)×Unit)))×Unit))×(Int×((List Int)×((List Int)×(Int×Unit)))))->Out (List (List Int))) (N:Nat) (n_L104_0:Nat) (x:((Int×((List (Int×((List Int)×Unit)))×Unit))×(Int×((List Int)×((List Int)×(Int×Unit)))))) (out_3:(List (List Int))) (i_4:Int):L104_0 g N  (n_L104_0+1) x out_3 i_4 =
 (match (decide (i_4<(lenI x.2.2.2.1))) with|true=>(match (decide ((List.getD ((List.getD x.1.2.1 (lenI x.2.2.1).toNat (0,([],())))).2.1 x.2.1.toNat 0)<0)) with|true=>bif (fits [] x.2.2.1) then bif (inb i_4 x.2.2.2.1.length) then bif (fits x.2.2.1 ([(List.getD x.2.2.2.1 i_4.toNat 0)]:List Int)) then match g (x.1,(x.2.1,((x.2.2.1++([(List.getD x.2.2.2.1 i_4.toNat 0)]:List Int)),(x.2.2.2.1,(x.2.2.2.2.1,()))))) with | .ret r_5=>bif (fits out_3 r_5) then L104_0 g N n_L104_0 x (out_3++r_5) (IntKind.i64.wrap (i_4+1)) else .fail | .pan p=>.pan p | .fail=>.fail else .fail else .fail else .fail|false=>bif (inb i_4 x.2.2.2.1.length) then match ((List.getD x.2.2.2.1 i_4.toNat 0)==(List.getD ((List.getD x.1.2.1 (lenI x.2.2.1).toNat (0,([],())))).2.1 x.2.1.toNat 0)) with|true=>bif (fits [] x.2.2.1) then bif (inb i_4 x.2.2.2.1.length) then bif (fits x.2.2.1 ([(List.getD x.2.2.2.1 i_4.toNat 0)]:List Int)) then match g (x.1,(x.2.1,((x.2.2.1++([(List.getD x.2.2.2.1 i_4.toNat 0)]:List Int)),(x.2.2.2.1,(x.2.2.2.2.1,()))))) with | .ret r_7=>bif (fits out_3 r_7) then L104_0 g N n_L104_0 x (out_3++r_7) (IntKind.i64.wrap (i_4+1)) else .fail | .pan p=>.pan p | .fail=>.fail else .fail else .fail else .fail|false=>L104_0 g N n_L104_0 x out_3 (IntKind.i64.wrap (i_4+1)) else .fail)|false=>.ret out_3:Out (List (List Int))):=by kernel_rfl
def F104 (g:((Int×((List (Int×((List Int)×Unit)))×Unit))×(Int×((List Int)×((List Int)×(Int×Unit)))))->Out (List (List Int))) (N:Nat) (x:((Int×((List (Int×((List Int)×Unit)))×Unit))×(Int×((List Int)×((List Int)×(Int×Unit)))))):Out (List (List Int)):=match f66 (x.1,(x.2.2.1,())) with | .ret r_1=>(match (decide (r_1 > x.2.2.2.2.1)) with|true=>.ret []|false=>match ((lenI x.2.2.1)==(lenI x.1.2.1)) with|true=>.ret ([x.2.2.1]:List (List Int))|false=>bif (inb (lenI x.2.2.1) x.1.2.1.length) then bif (inb x.2.1 ((List.getD x.1.2.1 (lenI x.2.2.1).toNat (0,([],())))).2.1.length) then L104_0 g N N x [] 0 else .fail else .fail) | .pan p=>.pan p | .fail=>.fail
theorem e104 (g:((Int×((List (Int×((List Int)×Unit)))×Unit))×(Int×((List Int)×((List Int)×(Int×Unit)))))->Out (List (List Int))) (N:Nat) (x:((Int×((List (Int×((List Int)×Unit)))×Unit))×(Int×((List Int)×((List Int)×(Int×Unit)))))):vfn Tryz.prog (phi (specs104 g)) hints104 N Tryz.f104 false true (.prod (.prod (.int .i64) (.prod (.list (.prod (.int .i64) (.prod (.list (.int .i64)) .unit))) .unit)) (.prod (.int .i64) (.prod (.list (.int .i64)) (.prod (.list (.int .i64)) (.prod (.int .i64) .unit))))) ty1 x=F104 g N x:=by kernel_rfl
def f104r:Nat->((Int×((List (Int×((List Int)×Unit)))×Unit))×(Int×((List Int)×((List Int)×(Int×Unit)))))->Out (List (List Int))
 | 0,_=>.fail
 | m+1,x=>F104 (f104r m) fuel x
theorem c104r:∀ m,Contract Tryz.prog ⟨104,.call,(.prod (.prod (.int .i64) (.prod (.list (.prod (.int .i64) (.prod (.list (.int .i64)) .unit))) .unit)) (.prod (.int .i64) (.prod (.list (.int .i64)) (.prod (.list (.int .i64)) (.prod (.int .i64) .unit))))),ty1,false,true,f104r m⟩
 | 0=>fun _ _ _ _ _ _ _=>trivial
 | m+1=>contract_at (l:=specs104 (f104r m)) (arg:=(.prod (.prod (.int .i64) (.prod (.list (.prod (.int .i64) (.prod (.list (.int .i64)) .unit))) .unit)) (.prod (.int .i64) (.prod (.list (.int .i64)) (.prod (.list (.int .i64)) (.prod (.int .i64) .unit)))))) (res:=ty1) (multi:=false) (own:=true) (F:=f104r (m+1)) mixed (all_cons c66 (all_cons (c104r m) all_nil)) Tryz.func104 rfl hints104 fun x _=>⟨fuel,e104 (f104r m) fuel x⟩
def f104 (x:((Int×((List (Int×((List Int)×Unit)))×Unit))×(Int×((List Int)×((List Int)×(Int×Unit)))))):Out (List (List Int)):=f104r fuel x
def sp104:Spec:=⟨104,.call,(.prod (.prod (.int .i64) (.prod (.list (.prod (.int .i64) (.prod (.list (.int .i64)) .unit))) .unit)) (.prod (.int .i64) (.prod (.list (.int .i64)) (.prod (.list (.int .i64)) (.prod (.int .i64) .unit))))),ty1,false,true,f104⟩
theorem c104:Contract Tryz.prog sp104:=c104r fuel
def specs105:List Spec:=[]
def hints105:List (Nat×List Nat):=[(3,[1,2,5,6,7]),(7,[1,2,5,6,7,8,9])]
def L105_1 (N:Nat) (n_L105_0:Nat) (n_L105_1:Nat) (x:lt4) (f_3:Int) (met_4:(List Int)) (all_5:(List Int)) (is_6:Bool) (i_7:Int):Out (List Int) :=
 vloop Tryz.prog (phi specs105) hints105 N Tryz.f105 false true (.list (.int .i64)) [.at 1,.at 1,.at 0,.at 1,.at 0,.at n_L105_0,.at 1,.at 0,.at 0,.at 1,.at 0,.at 1,.at 0] n_L105_1 [U,.d (.int .i64) x.2.1,.box [.d (.int .i64) x.1.1,.d ty0 x.1.2.1],U,U,.own (.int .i64) met_4 false,.own (.int .i64) all_5 false,.d (.int .i64) f_3,.d .bool is_6,.d (.int .i64) i_7,U,U,U,U,U,U,U,U,U,U,U,U,U,U,U,U,U,U,U,U,U,U,U,U,U,U,U,U,U,U,U,U,U,U,U,U,U,U,U]
def L105_0 (N:Nat) (n_L105_0:Nat) (x:lt4) (met_1:(List Int)) (all_2:(List Int)) (f_3:Int):Out (List Int) :=
 vloop Tryz.prog (phi specs105) hints105 N Tryz.f105 false true (.list (.int .i64)) [.at 1,.at 1,.at 0,.at 1,.at 0] n_L105_0 [U,.d (.int .i64) x.2.1,.box [.d (.int .i64) x.1.1,.d ty0 x.1.2.1],U,U,.own (.int .i64) met_1 false,.own (.int .i64) all_2 false,.d (.int .i64) f_3,U,U,U,U,U,U,U,U,U,U,U,U,U,U,U,U,U,U,U,U,U,U,U,U,U,U,U,U,U,U,U,U,U,U,U,U,U,U,U,U,U]
theorem L105_1_succ (N:Nat) (n_L105_0:Nat) (n_L105_1:Nat) (x:lt4) (f_3:Int) (met_4:(List Int)) (all_5:(List Int)) (is_6:Bool) (i_7:Int):L105_1 N n_L105_0 (n_L105_1+1) x f_3 met_4 all_5 is_6 i_7 =
 (match (decide (i_7<(lenI x.1.2.1))) with|true=>(match is_6 with|true=>L105_1 N n_L105_0 n_L105_1 x f_3 met_4 all_5 true (IntKind.i64.wrap (i_7+1))|false=>bif (inb i_7 x.1.2.1.length) then bif (inb x.2.1 ((List.getD x.1.2.1 i_7.toNat (0,([],())))).2.1.length) then L105_1 N n_L105_0 n_L105_1 x f_3 met_4 all_5 ((List.getD ((List.getD x.1.2.1 i_7.toNat (0,([],())))).2.1 x.2.1.toNat 0)==f_3) (IntKind.i64.wrap (i_7+1)) else .fail else .fail)|false=>match is_6 with|true=>bif (fits met_4 ([f_3]:List Int)) then bif (fits all_5 ([f_3]:List Int)) then L105_0 N n_L105_0 x (met_4++([f_3]:List Int)) (all_5++([f_3]:List Int)) (IntKind.i64.wrap (f_3+1)) else .fail else .fail|false=>bif (fits all_5 ([f_3]:List Int)) then L105_0 N n_L105_0 x met_4 (all_5++([f_3]:List Int)) (IntKind.i64.wrap (f_3+1)) else .fail:Out (List Int)):=by kernel_rfl
theorem L105_0_succ (N:Nat) (n_L105_0:Nat) (x:lt4) (met_1:(List Int)) (all_2:(List Int)) (f_3:Int):L105_0 N  (n_L105_0+1) x met_1 all_2 f_3 =
 (match (decide (f_3<=9)) with|true=>L105_1 N n_L105_0 N x f_3 met_1 all_2 false 0|false=>match ((lenI met_1)==0) with|true=>.ret all_2|false=>.ret met_1:Out (List Int)):=by kernel_rfl
def F105 (N:Nat) (x:lt4):Out (List Int):=L105_0 N N x [] [] 0
theorem e105 (N:Nat) (x:lt4):vfn Tryz.prog (phi specs105) hints105 N Tryz.f105 false true ty6 (.list (.int .i64)) x=F105 N x:=by kernel_rfl
def f105 (x:lt4):Out (List Int):=F105 fuel x
def sp105:Spec:=⟨105,.call,ty6,(.list (.int .i64)),false,true,f105⟩
theorem c105:Contract Tryz.prog sp105:=contract_at (l:=specs105) (arg:=ty6) (res:=(.list (.int .i64))) (multi:=false) (own:=true) (F:=f105) mixed all_nil Tryz.func105 rfl hints105 fun x _=>⟨fuel,e105 fuel x⟩
def specs46:List Spec:=[sp61]
def hints46:List (Nat×List Nat):=[]
theorem e46 (N:Nat) (x:(Int×Unit)):vfn Tryz.prog (phi specs46) hints46 N Tryz.f46 false false (.prod (.int .i64) .unit) .bool x=F46 N x:=by kernel_rfl
theorem c46:Contract Tryz.prog sp46:=contract_at (l:=specs46) (arg:=(.prod (.int .i64) .unit)) (res:=.bool) (multi:=false) (own:=false) (F:=f46) mixed (all_cons c61 all_nil) Tryz.func46 rfl hints46 fun x _=>⟨fuel,e46 fuel x⟩
def specs67:List Spec:=[sp105,sp104]
def hints67:List (Nat×List Nat):=[(3,[1,2,5])]
def L67_0 (N:Nat) (n_L67_0:Nat) (x:lt4) (n_1:Int):Out (List (List Int)) :=
 vloop Tryz.prog (phi specs67) hints67 N Tryz.f67 false true ty1 [.at 1,.at 1,.at 0] n_L67_0 [U,.d (.int .i64) x.2.1,.box [.d (.int .i64) x.1.1,.d ty0 x.1.2.1],U,U,.d (.int .i64) n_1,U,U,U,U,U,U,U,U,U,U,U,U,U,U]
theorem L67_0_succ (N:Nat) (n_L67_0:Nat) (x:lt4) (n_1:Int):L67_0 N  (n_L67_0+1) x n_1 =
 (match f105 (x.1,(x.2.1,())) with | .ret r_2=>(match f104 (x.1,(x.2.1,([],(r_2,(n_1,()))))) with | .ret r_4=>(match (decide ((lenI r_4) > 0)) with|true=>.ret r_4|false=>L67_0 N n_L67_0 x (IntKind.i64.wrap (n_1+1))) | .pan p=>.pan p | .fail=>.fail) | .pan p=>.pan p | .fail=>.fail:Out (List (List Int))):=by kernel_rfl
def F67 (N:Nat) (x:lt4):Out (List (List Int)):=L67_0 N N x 0
theorem e67 (N:Nat) (x:lt4):vfn Tryz.prog (phi specs67) hints67 N Tryz.f67 false true ty6 ty1 x=F67 N x:=by kernel_rfl
def f67 (x:lt4):Out (List (List Int)):=F67 fuel x
def sp67:Spec:=⟨67,.call,ty6,ty1,false,true,f67⟩
theorem c67:Contract Tryz.prog sp67:=contract_at (l:=specs67) (arg:=ty6) (res:=ty1) (multi:=false) (own:=true) (F:=f67) mixed (all_cons c105 (all_cons c104 all_nil)) Tryz.func67 rfl hints67 fun x _=>⟨fuel,e67 fuel x⟩
theorem e17 (N:Nat) (x:lt1):vfn Tryz.prog (phi specs17) hints17 N Tryz.f17 false false ty2 .bool x=F17 N x:=by kernel_rfl
def sp17:Spec:=⟨17,.call,ty2,.bool,false,false,f17⟩
theorem c17:Contract Tryz.prog sp17:=contract_at (l:=specs17) (arg:=ty2) (res:=.bool) (multi:=false) (own:=false) (F:=f17) mixed (all_cons c61 (all_cons c46 all_nil)) Tryz.func17 rfl hints17 fun x _=>⟨fuel,e17 fuel x⟩
def specs27:List Spec:=[sp67,sp66]
def hints27:List (Nat×List Nat):=[(3,[1,3,4])]
def L27_0 (N:Nat) (n_L27_0:Nat) (x:lt1) (n_1:Int) (p_2:Int):Out Int :=
 vloop Tryz.prog (phi specs27) hints27 N Tryz.f27 false false (.int .i64) [.at 1,.at 1,.at 0,.at 1,.at 0] n_L27_0 [U,.box [.d (.int .i64) x.1.1,.d ty0 x.1.2.1],U,.d (.int .i64) n_1,.d (.int .i64) p_2,U,U,U,U,U,U,U,U,U,U,U,U,U,U,U,U]
theorem L27_0_succ (N:Nat) (n_L27_0:Nat) (x:lt1) (n_1:Int) (p_2:Int):L27_0 N  (n_L27_0+1) x n_1 p_2 =
 (match (decide (p_2<x.1.1)) with|true=>(match f67 (x.1,(p_2,())) with | .ret r_3=>bif (inb 0 r_3.length) then match f66 (x.1,((List.getD r_3 (0:Int).toNat []),())) with | .ret r_5=>L27_0 N n_L27_0 x (IntKind.i64.wrap (n_1+r_5)) (IntKind.i64.wrap (p_2+1)) | .pan p=>.pan p | .fail=>.fail else .fail | .pan p=>.pan p | .fail=>.fail)|false=>.ret n_1:Out Int):=by kernel_rfl
def F27 (N:Nat) (x:lt1):Out Int:=L27_0 N N x 0 0
theorem e27 (N:Nat) (x:lt1):vfn Tryz.prog (phi specs27) hints27 N Tryz.f27 false false ty2 (.int .i64) x=F27 N x:=by kernel_rfl
def f27 (x:lt1):Out Int:=F27 fuel x
def sp27:Spec:=⟨27,.call,ty2,(.int .i64),false,false,f27⟩
theorem c27:Contract Tryz.prog sp27:=contract_at (l:=specs27) (arg:=ty2) (res:=(.int .i64)) (multi:=false) (own:=false) (F:=f27) mixed (all_cons c67 (all_cons c66 all_nil)) Tryz.func27 rfl hints27 fun x _=>⟨fuel,e27 fuel x⟩
def specs30:List Spec:=[sp67]
def hints30:List (Nat×List Nat):=[(3,[1,3,4])]
def L30_0 (N:Nat) (n_L30_0:Nat) (x:lt1) (n_1:Int) (p_2:Int):Out Int :=
 vloop Tryz.prog (phi specs30) hints30 N Tryz.f30 false false (.int .i64) [.at 1,.at 1,.at 0,.at 1,.at 0] n_L30_0 [U,.box [.d (.int .i64) x.1.1,.d ty0 x.1.2.1],U,.d (.int .i64) n_1,.d (.int .i64) p_2,U,U,U,U,U,U,U,U,U,U,U,U,U]
theorem L30_0_succ (N:Nat) (n_L30_0:Nat) (x:lt1) (n_1:Int) (p_2:Int):L30_0 N  (n_L30_0+1) x n_1 p_2 =
 (match (decide (p_2<x.1.1)) with|true=>(match f67 (x.1,(p_2,())) with | .ret r_3=>L30_0 N n_L30_0 x (IntKind.i64.wrap (n_1 * (lenI r_3))) (IntKind.i64.wrap (p_2+1)) | .pan p=>.pan p | .fail=>.fail)|false=>.ret n_1:Out Int):=by kernel_rfl
def F30 (N:Nat) (x:lt1):Out Int:=L30_0 N N x 1 0
theorem e30 (N:Nat) (x:lt1):vfn Tryz.prog (phi specs30) hints30 N Tryz.f30 false false ty2 (.int .i64) x=F30 N x:=by kernel_rfl
def f30 (x:lt1):Out Int:=F30 fuel x
def sp30:Spec:=⟨30,.call,ty2,(.int .i64),false,false,f30⟩
theorem c30:Contract Tryz.prog sp30:=contract_at (l:=specs30) (arg:=ty2) (res:=(.int .i64)) (multi:=false) (own:=false) (F:=f30) mixed (all_cons c67 all_nil) Tryz.func30 rfl hints30 fun x _=>⟨fuel,e30 fuel x⟩
end Go.V
namespace Go.V
theorem errs_at {t:TREE} {place:Int} (h:Ground (madeT t) place) {l:List Int} (hl:Best t place l):errsT t place=costV t l:=by
 obtain ⟨l',h1,h2⟩:=errs_eq h;have:=h1.few l hl.vc;have:=hl.few l' h1.vc;omega
end Go.V
namespace Go.V
open Go.Proofs
theorem costV_N (t:TREE) (l:List Int):costV t l=costN t t.2.1.length l:=rfl
theorem costN_le {t:TREE} {k:Nat} (l:List Int):costN t k l<=k:=sumTo_le fun i _=>by split<;>(try split)<;>omega
theorem f66_at {t:TREE} {place:Int} (ht:TreeP t place) {l:List Int} (hl:l.length<=t.2.1.length):f66 (t,(l,())) = .ret (costN t l.length l):=by
 have hlen:=ht.len;have loop:∀ (d n i:Nat),d<n->i+d=l.length->1<=i->L66_0 fuel n (t,(l,())) (costN t i l) i = .ret (costN t l.length l):=by
  intro d
  induction d with
  | zero =>
   intro n i hn hi h1;obtain ⟨n,rfl⟩:=succ_of hn;rw [L66_0_succ]
   try delta lenI
   simp only [dF (show ¬ (i:Int)<l.length by omega)];rw [show i=l.length by omega]
  | succ d ih =>
   intro n i hn hi h1;obtain ⟨n,rfl⟩:=succ_of hn;rw [L66_0_succ]
   try delta lenI
   have hp:=ht.par i h1 (by omega);have hpi:(List.getD t.2.1 i ((0:Int),(([]:List Int),()))).1=parentAt t i:=rfl;simp only [dT (show (i:Int)<l.length by omega),inbT (show (0:Int)<=i by omega) (show (i:Int)<l.length by omega),inbT (show (0:Int)<=i by omega) (show (i:Int)<t.2.1.length by omega),hpi,
    inbT hp.1 (show parentAt t i<l.length by omega),cond_true,Int.toNat_natCast,wn (show i<1000000000 by omega)]
   have e:costN t (i+1) l=costN t i l+(if l.getD i 0=l.getD (parN t i) 0 then 0 else 1):=by
    show costN t i l+(if i=0 then 0 else if l.getD i 0=l.getD (parN t i) 0 then 0 else 1)=_;rw [if_neg (by omega)]
   have hc:=costN_nonneg (t:=t) (k:=i) l;have hc2:=costN_le (t:=t) (k:=i) l
   by_cases hq:l.getD i 0=l.getD (parN t i) 0
   . have hq':l.getD i 0=l.getD (parentAt t i).toNat 0:=hq;rw [if_pos hq,Int.add_zero] at e;simp only [nF hq'];rw [<- e];exact ih n (i+1) (by omega) (by omega) (by omega)
   . have hq':l.getD i 0≠l.getD (parentAt t i).toNat 0:=hq;rw [if_neg hq] at e;simp only [nT hq'];rw [wr (by omega) (by omega),<- e];exact ih n (i+1) (by omega) (by omega) (by omega)
 show L66_0 fuel fuel (t,(l,())) 0 1=_;have hfb:=fuel_big
 by_cases h0:l.length=0
 . obtain ⟨n,hn⟩:=succ_of (show 0<fuel by omega)
   conv=>lhs;rw [hn]
   rw [<- hn];have:L66_0 fuel (n+1) (t,(l,())) 0 1 = .ret (0:Int):=by
    rw [L66_0_succ]
    try delta lenI
    simp only [h0,dF (show ¬ (1:Int)<((0:Nat):Int) by omega)]
   rw [<- hn] at this;rw [this,h0];rfl
 . have:=loop (l.length - 1) fuel 1 (by omega) (by omega) (Nat.le_refl _);exact this
theorem metTo_succ (t:TREE) (place:Int) (k:Nat):metTo t place (k+1)=metTo t place k++(if hasF t place k then [(k:Int)] else []):=by
 unfold metTo;rw [List.range_succ,List.map_append,List.filter_append]
 congr 1
 simp only [List.map_cons,List.map_nil,List.filter_cons,List.filter_nil]
theorem metTo_len (t:TREE) (place:Int) (k:Nat):(metTo t place k).length<=k:=by
 unfold metTo;refine Nat.le_trans (List.length_filter_le _ _) ?_;simp
theorem f105_at {t:TREE} {place:Int} (ht:TreeP t place):f105 (t,(place,())) = .ret (readF t place):=by
 have hlen:=ht.len;have hfb:=fuel_big;have inner:∀ (n0 f:Nat),f<=9->∀ (d n i:Nat),d<n->i+d=t.2.1.length ->
  L105_1 fuel n0 n (t,(place,())) f (metTo t place f) (allTo f) ((List.range i).any fun j=>seenAt t j place==(f:Int)) i=L105_0 fuel n0 (t,(place,())) (metTo t place (f+1)) (allTo (f+1)) ((f+1:Nat):Int):=by
  intro n0 f hf d
  induction d with
  | zero =>
   intro n i hn hi;obtain ⟨n,rfl⟩:=succ_of hn;rw [L105_1_succ]
   try delta lenI
   obtain rfl:i=t.2.1.length:=by omega
   have hm:=metTo_len t place f;have ha:=allTo_len f;simp only [dF (show ¬ ((t.2.1.length:Nat):Int)<t.2.1.length by omega),fitsT (show (metTo t place f).length+[(f:Int)].length<1000000 by simp;omega),fitsT (show (allTo f).length+[(f:Int)].length<1000000 by simp;omega),cond_true,wn (show f<1000000000 by omega)]
   rw [metTo_succ,allTo_succ];unfold hasF;cases (List.range t.2.1.length).any fun j=>seenAt t j place==(f:Int) with
   | true=>rfl
   | false=>simp
  | succ d ih =>
   intro n i hn hi;obtain ⟨n,rfl⟩:=succ_of hn;rw [L105_1_succ]
   try delta lenI
   have hs:=ht.seen i (by omega);have hstep:((List.range (i+1)).any fun j=>seenAt t j place==(f:Int))=(((List.range i).any fun j=>seenAt t j place==(f:Int)) || (seenAt t i place==(f:Int))):=by
    rw [List.range_succ,List.any_append];simp
   have hih:=ih n (i+1) (by omega) (by omega);rw [hstep] at hih;have e:((List.getD t.2.1 i ((0:Int),(([]:List Int),()))).2.1).getD place.toNat 0=seenAt t i place:=by unfold seenAt;rw [Int.toNat_natCast]
   simp only [dT (show (i:Int)<t.2.1.length by omega),inbT (show (0:Int)<=i by omega) (show (i:Int)<t.2.1.length by omega),Int.toNat_natCast,inbT ht.pos hs,cond_true,wn (show i<1000000000 by omega),e];cases hc:(List.range i).any fun j=>seenAt t j place==(f:Int) with
   | true =>
    rw [hc,Bool.true_or] at hih;exact hih
   | false =>
    rw [hc,Bool.false_or] at hih;exact hih
 have outer:∀ (d n f:Nat),d<n->f+d=10->L105_0 fuel n (t,(place,())) (metTo t place f) (allTo f) f = .ret (readF t place):=by
  intro d
  induction d with
  | zero =>
   intro n f hn hf;obtain ⟨n,rfl⟩:=succ_of hn;obtain rfl:f=10:=by omega
   rw [L105_0_succ]
   try delta lenI
   simp only [dF (show ¬ ((10:Nat):Int)<=9 by omega)];unfold readF
   by_cases hm:metTo t place 10=[]
   . rw [if_pos hm];simp only [hm,List.length_nil];rfl
   . have:((metTo t place 10).length:Int)≠0:=fun h=>hm (List.eq_nil_of_length_eq_zero (by omega))
     rw [if_neg hm];simp only [eF this]
  | succ d ih =>
   intro n f hn hf;obtain ⟨n,rfl⟩:=succ_of hn;rw [L105_0_succ]
   try delta lenI
   simp only [dT (show (f:Int)<=9 by omega)];rw [show (false:Bool)=((List.range 0).any fun j=>seenAt t j place==(f:Int)) from rfl];exact (inner n f (by omega) t.2.1.length fuel 0 (by omega) (by omega)).trans (ih n (f+1) (by omega) (by omega))
 exact outer 10 fuel 0 (by omega) rfl
theorem flat_take {α:Type} {F:Int->List α} {S:List Int} {i:Nat} (h:i<S.length):(S.take (i+1)).flatMap F=(S.take i).flatMap F++F (S.getD i 0):=by
 have e:S.take (i+1)=S.take i++[S.getD i 0]:=by
  rw [List.take_succ,List.getElem?_eq_getElem h,List.getD_eq_getElem?_getD,List.getElem?_eq_getElem h];rfl
 rw [e,List.flatMap_append];simp
theorem flat_take_le {α:Type} {F:Int->List α} {S:List Int} (i:Nat):((S.take i).flatMap F).length<=(S.flatMap F).length:=by
 conv=>rhs;rw [<- List.take_append_drop i S]
 rw [List.flatMap_append,List.length_append];omega
theorem f104_at {t:TREE} {place most:Int} (ht:TreeP t place) {S:List Int} (hS:S.length<=100) (hB:∀ k now,now.length+k=t.2.1.length->(prune (okC t place most) S k now).length<=1000) :
 ∀ (k m:Nat) (now:List Int),k<m->now.length+k=t.2.1.length->f104r m (t,(place,(now,(S,(most,()))))) = .ret (if costN t now.length now > most then [] else prune (okC t place most) S k now):=by
 intro k;have hlen:=ht.len;have hfb:=fuel_big
 induction k with
 | zero =>
  intro m now hm hk;obtain ⟨m,rfl⟩:=succ_of hm;show F104 (f104r m) fuel _=_;unfold F104
  try delta lenI
  simp only [f66_at ht (l:=now) (by omega),eT (show (now.length:Int)=t.2.1.length by omega)]
  by_cases hc:costN t now.length now > most
  . simp only [dT hc,if_pos hc]
  . simp only [dF hc,if_neg hc,prune]
 | succ k ih =>
  intro m now hm hk;obtain ⟨m,rfl⟩:=succ_of hm;have hs:=ht.seen now.length (by omega);have hin:inb (now.length:Int) t.2.1.length=true:=inbT (by omega) (by omega);show F104 (f104r m) fuel _=_;unfold F104
  try delta lenI
  simp only [f66_at ht (l:=now) (by omega),eF (show (now.length:Int)≠t.2.1.length by omega),hin,Int.toNat_natCast,inbT ht.pos hs,cond_true]
  by_cases hc:costN t now.length now > most
  . simp only [dT hc,if_pos hc]
  . simp only [dF hc,if_neg hc];obtain ⟨F,hF⟩:∃ F:Int->List (List Int),F=fun g=>if okC t place most now g then prune (okC t place most) S k (now++[g]) else []:=⟨_,rfl⟩
    have hall:prune (okC t place most) S (k+1) now=S.flatMap F:=by rw [hF];rfl
    have hb:=hB (k+1) now hk;rw [hall] at hb ⊢;have hown:((List.getD t.2.1 now.length ((0:Int),(([]:List Int),()))).2.1).getD place.toNat 0=seenAt t now.length place:=by unfold seenAt;rw [Int.toNat_natCast]
    have loop:∀ (d n i:Nat),d<n->i+d=S.length->L104_0 (f104r m) fuel n (t,(place,(now,(S,(most,()))))) ((S.take i).flatMap F) i = .ret (S.flatMap F):=by
     intro d
     induction d with
     | zero =>
      intro n i hn hi;obtain ⟨n,rfl⟩:=succ_of hn;rw [L104_0_succ]
      try delta lenI
      simp only [dF (show ¬ (i:Int)<S.length by omega)];rw [List.take_of_length_le (by omega)]
     | succ d ihd =>
      intro n i hn hi;obtain ⟨n,rfl⟩:=succ_of hn;rw [L104_0_succ]
      try delta lenI
      have hnext:=ihd n (i+1) (by omega) (by omega);rw [flat_take (by omega)] at hnext;have hle:=flat_take_le (F:=F) (S:=S) (i+1);rw [flat_take (by omega),List.length_append] at hle;have hcall:f104r m (t,(place,(now++[S.getD i 0],(S,(most,()))))) = .ret (if costN t (now.length+1) (now++[S.getD i 0]) > most then [] else prune (okC t place most) S k (now++[S.getD i 0])):=by
       have:=ih m (now++[S.getD i 0]) (by omega) (by simp;omega);rw [this,List.length_append];rfl
      have hiS:inb (i:Int) S.length=true:=inbT (by omega) (by omega);have hf1:fits ([]:List Int) now=true:=fitsT (by simp;omega);have hf2:fits now [S.getD i 0]=true:=fitsT (by simp;omega);have hfo:∀ g:List (List Int),g=F (S.getD i 0)->fits ((S.take i).flatMap F) g=true:=fun g hg=>fitsT (by rw [hg];omega)
      simp only [dT (show (i:Int)<S.length by omega),Int.toNat_natCast,hown,hf1,hiS,cond_true,hf2,hcall,wn (show i<1000000000 by omega)]
      by_cases ho:seenAt t now.length place<0
      . have hFg:(if costN t (now.length+1) (now++[S.getD i 0]) > most then [] else prune (okC t place most) S k (now++[S.getD i 0]))=F (S.getD i 0):=by
         rw [hF];dsimp only
         by_cases hq:costN t (now.length+1) (now++[S.getD i 0]) > most
         . rw [if_pos hq,if_neg fun h=>by have:=(okC_iff.1 h).2;omega]
         . rw [if_neg hq,if_pos (okC_iff.2 ⟨.inl ho,by omega⟩)]
        simp only [dT ho,hFg,hfo _ rfl,cond_true];exact hnext
      . simp only [dF ho]
        by_cases hg:S.getD i 0=seenAt t now.length place
        . have hFg:(if costN t (now.length+1) (now++[S.getD i 0]) > most then [] else prune (okC t place most) S k (now++[S.getD i 0]))=F (S.getD i 0):=by
           rw [hF];dsimp only
           by_cases hq:costN t (now.length+1) (now++[S.getD i 0]) > most
           . rw [if_pos hq,if_neg fun h=>by have:=(okC_iff.1 h).2;omega]
           . rw [if_neg hq,if_pos (okC_iff.2 ⟨.inr hg,by omega⟩)]
          simp only [eT hg,hFg,hfo _ rfl,cond_true];exact hnext
        . have hFg:F (S.getD i 0)=[]:=by
           rw [hF];dsimp only;rw [if_neg fun h=>(okC_iff.1 h).1.elim (fun h=>ho h) fun h=>hg h]
          rw [hFg,List.append_nil] at hnext;simp only [eF hg];exact hnext
    exact loop S.length fuel 0 (by omega) (by omega)
end Go.V
namespace Go.V
open Go.Proofs
open Classical in
theorem doc_few {t:TREE} {place most:Int} (ht:TreeP t place) (h:most<errsT t place):prune (okC t place most) (readF t place) t.2.1.length []=[]:=by
 rw [doc_cols ht];refine List.filter_eq_nil_iff.2 fun l _=>?_
 rw [decide_eq_true_eq];rintro ⟨h1,h2,_⟩;obtain ⟨l',h3,h4⟩:=errs_eq ht.ground;have:=h3.few l h1;omega
theorem f67_at {t:TREE} {place:Int} (ht:TreeP t place):f67 (t,(place,())) = .ret (storT t place):=by
 have hfb:=fuel_big;have hb:=errs_bd ht;have hlen:=ht.len;have hgo:∀ most:Int,0<=most->(metTo t place 10≠[]\/most=0)->f104 (t,(place,(([]:List Int),(readF t place,(most,()))))) = .ret (prune (okC t place most) (readF t place) t.2.1.length []):=fun most h0 hm=>by
  have:=f104_at (most:=most) ht (S:=readF t place) (by have:=readF_len t place;omega) (fun k now hk=>by have:=prune_few ht hm k now hk;omega) t.2.1.length fuel [] (by omega) (by simp);refine Eq.trans this ?_;have e:costN t ([]:List Int).length []=0:=rfl
  rw [e,if_neg (by omega)]
 have loop:∀ (d n i:Nat),d<n->(i:Int)+d=errsT t place->L67_0 fuel n (t,(place,())) i = .ret (storT t place):=by
  intro d
  induction d with
  | zero =>
   intro n i hn hi;obtain ⟨n,rfl⟩:=succ_of hn;rw [L67_0_succ]
   try delta lenI
   have hi':(i:Int)=errsT t place:=by omega
   have hg:=hgo i (by omega) (by
    by_cases h:metTo t place 10=[]
    . exact .inr (by rw [hi'];exact errs_none ht h)
    . exact .inl h)
   rw [hi',doc_best ht] at hg;have hpos:0<(storT t place).length:=List.length_pos_iff.2 (stor_ne ht);simp only [f105_at ht,hi',hg,dT (show ((storT t place).length:Int) > 0 by omega)]
  | succ d ih =>
   intro n i hn hi;obtain ⟨n,rfl⟩:=succ_of hn;rw [L67_0_succ]
   try delta lenI
   have hg:=hgo i (by omega) (by
    by_cases h:metTo t place 10=[]
    . have:=errs_none ht h;omega
    . exact .inl h)
   rw [doc_few ht (by omega)] at hg;simp only [f105_at ht,hg,List.length_nil,wn (show i<1000000000 by omega)];exact ih n (i+1) (by omega) (by omega)
 exact loop (errsT t place).toNat fuel 0 (by omega) (by omega)
end Go.V
namespace Go.V
open Go.Proofs
theorem f13_at (t:TREE):∃ b,f13 (t,()) = .ret b:=by
 have hfb:=fuel_big;unfold f13 F13;have done:∀ n i:Nat,¬ (i:Int)<t.2.1.length\/¬ i<10->∃ b,L13_0 fuel (n+1) (t,()) i = .ret b:=fun n i h=>by
  rw [L13_0_succ]
  try delta lenI
  by_cases h1:(i:Int)<t.2.1.length
  . have h2:¬ (i:Int)<10:=by rcases h with h|h<;>omega
    simp only [dT h1,dF h2];exact ⟨_,rfl⟩
  . simp only [dF h1];exact ⟨_,rfl⟩
 have loop:∀ (d n i:Nat),d<n->i+d=10->∃ b,L13_0 fuel n (t,()) i = .ret b:=by
  intro d
  induction d with
  | zero =>
   intro n i hn hi;obtain ⟨n,rfl⟩:=succ_of hn;exact done n i (.inr (by omega))
  | succ d ih =>
   intro n i hn hi;obtain ⟨n,rfl⟩:=succ_of hn
   by_cases h1:(i:Int)<t.2.1.length
   . rw [L13_0_succ]
     try delta lenI
     simp only [dT h1,dT (show (i:Int)<10 by omega),inbT (show (0:Int)<=i by omega) h1,cond_true,wn (show i<1000000000 by omega)];split
     . exact ⟨_,rfl⟩
     . exact ih n (i+1) (by omega) (by omega)
   . exact done n i (.inl h1)
 exact loop 10 fuel 0 (by omega) (by omega)
end Go.V
namespace Go.V
open Go.Proofs
theorem TreeOK.t17 {t:TREE} (h:TreeOK t):f17 (t,()) = .ret true:=by
 rcases tree_ret (t:=t) with ⟨_,h1,_⟩|⟨h1,_⟩
 . exact h1
 . exact absurd h h1
theorem no17 {t:TREE} (h:¬ TreeOK t):f17 (t,()) = .ret false:=by
 rcases tree_ret (t:=t) with ⟨h1,_⟩|⟨_,h1,_⟩
 . exact absurd h1 h
 . exact h1
theorem no55 {t:TREE} (h:¬ TreeOK t):f55 (t,()) = .ret false:=by
 rcases tree_ret (t:=t) with ⟨h1,_⟩|⟨_,_,h1⟩
 . exact absurd h1 h
 . exact h1
theorem f24_no {t:TREE} (h:¬ TreeOK t):f24 (t,()) = .ret (0,(2,())):=by
 unfold f24 F24;simp only [no55 h,Bool.not_false];rfl
theorem f27_at {t:TREE} (ht:TreeOK t):f27 (t,()) = .ret (fewT t):=by
 have hfb:=fuel_big;obtain ⟨P,hP,hP1,hP3⟩:=ht.pl;unfold f27 F27;have key:=runL (L:=fun n p=>L27_0 fuel n (t,()) (fewTo t p) p) (len:=P) (K:=.ret (fewT t)) (fun n p hp=>?_) (fun n=>?_) P fuel 0 (by omega) (by omega)
 . exact key
 . try dsimp only
   rw [L27_0_succ];have hb:=fewTo_bd ht p (by omega);have hT:=ht.treeP (place:=p) (by omega) (by omega);have he:=errs_bd hT;have h0:=stor_best0 hT;have hn:0<(storT t p).length:=by
    have:=stor_ne hT;exact List.length_pos_iff.2 this
   have hlen:=h0.vc.len;simp only [dT (show (p:Int)<t.1 by omega),f67_at hT,inbT (show (0:Int)<=0 by omega) (show (0:Int)<(storT t p).length by omega),cond_true,show (0:Int).toNat=0 from rfl,f66_at hT (l:=(storT t p).getD 0 []) (show ((storT t p).getD 0 []).length<=t.2.1.length by omega),wn (show p<1000000000 by omega)]
   rw [hlen,<- costV_N,<- errs_at hT.ground h0,wr (by omega) (by omega)];rfl
 . try dsimp only
   rw [L27_0_succ];simp only [dF (show ¬ ((P:Nat):Int)<t.1 by omega)];rw [show fewT t=fewTo t P by unfold fewT;rw [show t.1.toNat=P by omega]]
theorem f26_no {t:TREE} (h:¬ TreeOK t):f26 (t,()) = .ret (0,(2,())):=by
 unfold f26 F26;simp only [no55 h,Bool.not_false]
theorem f30_at {t:TREE} (ht:TreeOK t):f30 (t,()) = .ret (cntT t (-1)):=by
 have hfb:=fuel_big;obtain ⟨P,hP,hP1,hP3⟩:=ht.pl;unfold f30 F30;have key:=runL (L:=fun n p=>L30_0 fuel n (t,()) (cntTo t (-1) p) p) (len:=P) (K:=.ret (cntT t (-1))) (fun n p hp=>?_) (fun n=>?_) P fuel 0 (by omega) (by omega)
 . exact key
 . try dsimp only
   rw [L30_0_succ]
   try delta lenI
   have hT:=ht.treeP (place:=p) (by omega) (by omega);have hs:=cnt_step ht (-1) (k:=p) (by omega);simp only [dT (show (p:Int)<t.1 by omega),f67_at hT,wn (show p<1000000000 by omega)];rw [show cntTo t (-1) (p+1)=cntTo t (-1) p * (storT t p).length by rw [cntTo,if_neg (by omega)],wr (by omega) (by omega)]
 . try dsimp only
   rw [L30_0_succ];simp only [dF (show ¬ ((P:Nat):Int)<t.1 by omega)];rw [show cntT t (-1)=cntTo t (-1) P by unfold cntT;rw [show t.1.toNat=P by omega]]
theorem f25_no {t:TREE} (h:¬ TreeOK t):f25 (t,()) = .ret ([],(2,())):=by
 unfold f25 F25;simp only [no55 h,Bool.not_false];rfl
end Go.V
namespace Go.V
open Go.Proofs
open Go.RowKit (Below)
theorem nest_us {w:World} {v:Value} {us:List Value} (hown:w.ownsRow 0 27 1 v us.length us) {i:Nat} {u:Value} (hu:us[i]? = some u):∃ R,ownB v=some R/\w.cell? ⟨R,i,none⟩=some u:=by
 have hi:i<us.length:=(List.getElem?_eq_some_iff.1 hu).1;rcases hown.2 with ⟨rfl,h0⟩|⟨R,cap,cur,rfl,_,hR,hle,hm,hcs,htk⟩
 . omega
 . refine ⟨R,rfl,?_⟩;rw [cell_of_row w R i cur 27 (0,0) hR];have:(cur.toList.take (us.length * 1))[i]? = some u:=by rw [htk];exact hu
   rw [List.getElem?_take,if_pos (by omega)] at this
   simpa using this
theorem nest_push {F:Nat->Prop} {M0:Base} {M:Mut} {st:St} {a:Act} {w w1:World} {v:Value} {xss:List (List Int)} (hG:GoodH HN F M0 (some (v,xss):SN) M st a w) (h1:Below w.heap.size w w1) (hlen:xss.length<1000000000)
 {b:Nat} (hx:w1.cell? ⟨b,0,none⟩=some (.slice none 0 0)) {a1:Act} {o:Oper} {p q:Nat} (ho:o.op = .call { callee:=.builtin .append,args := #[.tmp p,.tmp q],argTypes := #[43,43] }) (h0:tm a1 p=v) (h2:tm a1 q = .slice (some ⟨b,0,none⟩) 1 1) :
 ∃ v2 w2,(execOp a1.eval o).run Tryz.prog w1 = .ok (.value v2) w2/\(v2.oneCell'=true/\v2.cells = #[v2])/\Fr F w w2/\∃ M',GoodH HN F M0 (some (v2,xss++[[]]):SN) M' st a w2:=by
 have hn:=hG.1 v xss rfl;have hlt:∀ b,nestB v xss.length w b->b<w.heap.size:=fun b hb=>HN.lt (some (v,xss)) M w b hG.1 ⟨v,xss,rfl,hb⟩
 have hn1:NestAt w1 v xss:=nest_keep hn fun b hb=>h1.block b (hlt b hb)
 have hB1:∀ b,nestB v xss.length w1 b->nestB v xss.length w b:=nestB_same fun b hb=>h1.block b (hlt b hb)
 obtain ⟨us,hl,hown,hel,hone⟩:=id hn1;obtain ⟨v2,w2,g1,g2,g3,g4⟩:=ex_app43 ho h0 h2 hown hx rfl (by omega);have hel1:∀ (i:Nat) u g,us[i]? = some u->ownB u=some g->nestB v xss.length w1 g/\ownB v≠some g/\g<w1.heap.size:=fun i u g hu hg=>by
  have hi:i<us.length:=(List.getElem?_eq_some_iff.1 hu).1;obtain ⟨R,hR,hc⟩:=nest_us hown hu;have hxs:xss[i]? = some (xss[i]'(by omega)):=List.getElem?_eq_getElem (by omega);obtain ⟨cur,e1⟩:=owns_block (hel i u _ hu hxs) hg
  refine ⟨.inr ⟨R,i,u,hR,by omega,hc,hg⟩,fun e=>?_,(Array.getElem?_eq_some_iff.1 e1).1⟩;obtain ⟨cur2,e2⟩:=owns_block hown e;rw [e2] at e1;cases e1
 have hnest:NestAt w2 v2 (xss++[[]]):=by
  refine ⟨us++[.slice none 0 0],by simp [hl],g2,fun i u xs hu hx'=>?_,fun i j u u' g hu hu' hg hg'=>?_⟩
  . by_cases hi:i<us.length
    . rw [List.getElem?_append_left hi] at hu;rw [List.getElem?_append_left (by omega)] at hx';refine owns_keep (hel i u xs hu hx') fun g hg=>?_
      obtain ⟨_,h4,h5⟩:=hel1 i u g hu hg;exact g3.block g h5 fun e=>h4 e.symm
    . rw [List.getElem?_append_right (by omega)] at hu hx';have hu0:i - us.length=0:=by
       have:=(List.getElem?_eq_some_iff.1 hu).1
       simpa using this
      rw [hu0] at hu;rw [show i - xss.length=0 by omega] at hx';cases hu;cases hx';exact ⟨rfl,.inl ⟨rfl,rfl⟩⟩
  . have hnil:∀ (i:Nat) u,¬ i<us.length->(us++[Value.slice none 0 0])[i]? = some u->ownB u=none:=fun i u hi hu=>by
     rw [List.getElem?_append_right (by omega)] at hu;have hu0:i - us.length=0:=by
      have:=(List.getElem?_eq_some_iff.1 hu).1
      simpa using this
     rw [hu0] at hu;cases hu;rfl
    by_cases hi:i<us.length
    . by_cases hj:j<us.length
      . rw [List.getElem?_append_left hi] at hu;rw [List.getElem?_append_left hj] at hu';exact hone i j u u' g hu hu' hg hg'
      . rw [hnil j u' hj hu'] at hg';cases hg'
    . rw [hnil i u hi hu] at hg;cases hg
 have hbs:∀ b,HN.hb (some (v2,xss++[[]]):SN) w2 b->HN.hb (some (v,xss):SN) w b\/w.heap.size<=b:=by
  rintro b ⟨v',xss',e,hb⟩;cases e;have hs1:=h1.size;rcases hb with hb|⟨R,j,u,hR,hj,hc,hu⟩
  . rcases g4 with e|e
    . exact .inl ⟨v,xss,rfl,hB1 b (.inl (e ▸ hb))⟩
    . rw [e] at hb;cases hb;exact .inr hs1
  . have hj2:j<(us++[Value.slice none 0 0]).length:=by simp at hj ⊢;omega
    obtain ⟨R',hR',hc'⟩:=nest_us g2 (List.getElem?_eq_getElem hj2);rw [hR] at hR';cases hR';rw [hc] at hc';have e:(us++[Value.slice none 0 0])[j]? = some u:=(List.getElem?_eq_getElem hj2).trans hc'.symm
    by_cases hi:j<us.length
    . rw [List.getElem?_append_left hi] at e;exact .inl ⟨v,xss,rfl,hB1 b (hel1 j u b e hu).1⟩
    . rw [List.getElem?_append_right (by omega)] at e;have hu0:j - us.length=0:=by
       have:=(List.getElem?_eq_some_iff.1 e).1
       simpa using this
      rw [hu0] at e;cases e;cases hu
 have hfr:Fr (fun k=>k<w.heap.size/\¬ HN.hb (some (v,xss):SN) w k) w w2 :=
  ⟨g3.os.trans h1.os,g3.tape.trans h1.tape,g3.output.trans h1.output,by have:=g3.size;have:=h1.size;omega,fun k hk=>by
   rw [g3.block k (by have:=h1.size;omega) fun e=>hk.2 ⟨v,xss,rfl,.inl e.symm⟩];exact h1.block k hk.1⟩
 obtain ⟨M',hM'⟩:∃ M':Mut,M'=fun b o=>M b o\/(w.heap.size<=b/\b<w2.heap.size):=⟨_,rfl⟩
 have hI':HN.I (some (v2,xss++[[]]):SN) M' w2:=fun v' xss' e=>by cases e;exact hnest
 obtain ⟨f1,f2⟩:=hG.grow (s':=(some (v2,xss++[[]]):SN)) (M':=M') hfr hI' (fun b o h=>by rw [hM'];exact .inr (.inl h)) (fun b o h=>by rw [hM'] at h;exact h) hbs fun b hb o=>by
  rw [hM'];rcases hbs b hb with h|h
  . exact .inl ((hG.2.2 b h).2.1 o)
  . exact .inr ⟨h,HN.lt _ _ _ b hI' hb⟩
 have hone:v2.oneCell'=true/\v2.cells = #[v2]:=by rcases g2.2 with ⟨rfl,_⟩|⟨g,cap,cur,rfl,_⟩<;>exact ⟨rfl,rfl⟩
 exact ⟨v2,w2,g1,hone,f1,M',f2⟩
def birthG (nt d:Nat) (s:HN.σ) (st:St):Bool×Outs HN :=
 ((st.length==nt && noBoxes [d] st) && Option.isNone (show SN from s),.some [((some (.slice none 0 0,[]):SN),st.set d (.d .raw (.slice none 0 0)))])
theorem birth_ok {ops:Array Oper} {i d nt:Nat} (x0:(ops.toList.map opInfo)[i]? = some (some d,.assign (.const (.slice none 0 0)),none)):HandOp Tryz.prog HN ops i (birthG nt d):=by
 intro F M0 w0 n hI hpl Q K s st act w hc h1 hK;obtain ⟨o0,i0,d0,p0,q0⟩:=infoAt rfl x0;simp only at d0 p0 q0;unfold birthG at h1 hK;simp only [Bool.and_eq_true,beq_iff_eq] at h1;obtain ⟨⟨hlen,hnb⟩,hs⟩:=h1;have hs:s=(none:SN):=Option.isNone_iff_eq_none.1 hs
 subst hs;obtain ⟨hfr,M,hG⟩:=id hc;refine opn_value i0 (wanted_none q0) (fun c h=>by rw [p0] at h;cases h) (ex_assignC p0) ?_;rw [d0];have hnil:NestAt w (.slice none 0 0) []:=⟨[],rfl,⟨rfl,.inl ⟨rfl,rfl⟩⟩,fun i u xs hu _=>(by cases hu),fun i j u u' g hu _ _ _=>(by cases hu)⟩
 have hI':HN.I (some (.slice none 0 0,[]):SN) M w:=fun v xss e=>by cases e;exact hnil
 have hb0:∀ b,¬ HN.hb (some (.slice none 0 0,[]):SN) w b:=by
  rintro b ⟨v,xss,e,hb⟩;cases e;rcases hb with hb|⟨R,j,u,hR,hj,_⟩
  . cases hb
  . cases hR
 have hG1:GoodH HN F M0 (some (.slice none 0 0,[]):SN) M st act w:=⟨hI',hG.2.1,fun b hb=>absurd hb (hb0 b)⟩
 have hnb':isBox (get st d)=false:=by
  have:=List.all_eq_true.1 hnb d (by simp)
  simpa using this
 have hf:=hG1.focus.fin (dst:=some d) (s:=.d .raw (.slice none 0 0)) (v:=.slice none 0 0) (fun d' hd=>by cases hd;exact hnb') rfl ⟨_,rfl,rfl,rfl,rfl⟩;exact hK _ (.head _) _ _ ⟨hfr,M,hG1.unfocus (Fr.refl _ _) hf⟩
def pushB (v v':Value) (xss:List (List Int)):Bool:=isV v' v && decide (xss.length<1000000000)
def push29 (s:HN.σ) (st:St):Bool×Outs HN :=
 match (show SN from s) with
 | some (v,xss)=>(match get st 3 with
  | .d .raw v'=>((st.length==49 && noBoxes [3,15,16,17] st) && pushB v v' xss,.each fun v2=>((some (v2,xss++[[]]):SN),(undAll [15,16,17] st).set 3 (.d .raw v2)))
  | _=>(false,.some []))
 | none=>(false,.some [])
def r29_5:Array Oper:=regAt 5 (bodyOf Tryz.f29)
theorem info29_5:r29_5.toList.map opInfo=[(some 15,.move (.tmp 3),none),(some 16,.buildSlice 43 1 #[(0,.const (.slice none 0 0))],none),(some 17,.call { callee:=.builtin .append,args := #[.tmp 15,.tmp 16],argTypes := #[43,43] },none),(some 3,.assign (.tmp 17),none)]:=by kernel_rfl
theorem ex_build43n {a:Act} {w:World} {o:Oper} (ho:o.op = .buildSlice 43 1 #[(0,.const (.slice none 0 0))]):(execOp a.eval o).run Tryz.prog w = .ok (.value (.slice (some ⟨w.heap.size,0,none⟩) 1 1)) (w.alloc (.cells #[.slice none 0 0] 27)):=by
 have e1:a.eval (.const (.slice none 0 0)) = .slice none 0 0:=rfl;simp only [execOp,ho,List.map_toArray,List.map_cons,List.map_nil,e1];simp [go_sem]
theorem push29_ok:HandQ Tryz.prog HN r29_5 0 3 push29:=by
 intro F M0 w0 n hI hpl Q rest s st act w hc h1 hK;unfold push29 at h1;split at h1;rotate_left
 . cases h1
 rename_i v xss es;have es:s=(some (v,xss):SN):=es;subst es;split at h1;rotate_left
 . cases h1
 rename_i vD e3;obtain ⟨v',hvD⟩:∃ z:Value,z=vD:=⟨_,rfl⟩
 subst hvD;unfold pushB at h1;simp only [Bool.and_eq_true,beq_iff_eq,decide_eq_true_eq] at h1;obtain ⟨⟨hlen,hnb⟩,hv,hll⟩:=h1;have hv:=isV_eq hv;subst hv;obtain ⟨hfr,M,hG⟩:=id hc;have hg:=hG.2.1;have hsz:act.tmps.size=49:=hg.size.trans hlen
 have s3:=hg.slot 3;rw [e3] at s3;have t3:tm act 3=v':=repV_raw (show RepV M w .raw (tm act 3) v' from s3);show wpOpsIn (fen none) n Tryz.prog r29_5 Q ([0,1,2,3]++rest) act w;simp only [List.cons_append,List.nil_append];obtain ⟨o0,i0,d0,p0,q0⟩:=infoAt (ops:=r29_5) rfl (i:=0) (x:=(some 15,.move (.tmp 3),none)) (by rw [info29_5];rfl)
 obtain ⟨o1,i1,d1,p1,q1⟩:=infoAt (ops:=r29_5) rfl (i:=1) (x:=(some 16,.buildSlice 43 1 #[(0,.const (.slice none 0 0))],none)) (by rw [info29_5];rfl);obtain ⟨o2,i2,d2,p2,q2⟩:=infoAt (ops:=r29_5) rfl (i:=2) (x:=(some 17,.call { callee:=.builtin .append,args := #[.tmp 15,.tmp 16],argTypes := #[43,43] },none)) (by rw [info29_5];rfl)
 obtain ⟨o3,i3,d3,p3,q3⟩:=infoAt (ops:=r29_5) rfl (i:=3) (x:=(some 3,.assign (.tmp 17),none)) (by rw [info29_5];rfl);simp only at d0 p0 q0 d1 p1 q1 d2 p2 q2 d3 p3 q3;rw [wpOpsIn_cons];refine opn_value (v:=v') (w':=w) i0 (wanted_none q0) (fun c h=>by rw [p0] at h;cases h) (by rw [ex_move p0,t3]) ?_
 rw [d0,wpOpsIn_cons];refine opn_value i1 (wanted_none q1) (fun c h=>by rw [p1] at h;cases h) (ex_build43n p1) ?_;rw [d1,wpOpsIn_cons];obtain ⟨w1,hw1⟩:∃ w1,w1=w.alloc (.cells #[.slice none 0 0] 27):=⟨_,rfl⟩
 rw [<- hw1];have hbel1:Below w.heap.size w w1:=by rw [hw1];exact (Below.refl _ w).alloc (Nat.le_refl _) _
 have hxc:w1.cell? ⟨w.heap.size,0,none⟩=some (.slice none 0 0):=cell_at (by rw [hw1];exact heap_alloc_new w _) rfl;obtain ⟨v2,w2,g1,hv2,g2,M',g3⟩:=nest_push hG hbel1 hll hxc p2 (a1:=(act.put (some 15) v').put (some 16) (.slice (some ⟨w.heap.size,0,none⟩) 1 1)) (by rw [tm_put_other (by omega),tm_put_same (by omega)]) (tm_put_same (by rw [size_put];omega))
 refine opn_value i2 (wanted_none q2) (fun c h=>by rw [p2] at h;cases h) g1 ?_;rw [d2,wpOpsIn_cons];refine opn_value (v:=v2) (w':=w2) i3 (wanted_none q3) (fun c h=>by rw [p3] at h;cases h) (by rw [ex_assign p3,tm_put_same (by simp only [size_put];omega)]) ?_
 rw [d3];have hnb1:noBoxes ([(15,v'),(16,.slice (some ⟨w.heap.size,0,none⟩) 1 1),(17,v2)].map (·.1)) st=true:=by
  refine List.all_eq_true.2 fun i hi=>List.all_eq_true.1 hnb i ?_
  simp at hi ⊢;omega
 have hG2:=undAll_ok g3 [(15,v'),(16,.slice (some ⟨w.heap.size,0,none⟩) 1 1),(17,v2)] _ act g3 hnb1;have hnb':isBox (get (undAll [15,16,17] st) 3)=false:=by
  rw [undAll_get _ _ (by decide)];have:=List.all_eq_true.1 hnb 3 (by simp)
  simpa using this
 have hf:=hG2.focus.fin (dst:=some 3) (s:=.d .raw v2) (v:=v2) (fun d' hd=>by cases hd;exact hnb') rfl ⟨_,rfl,rfl,hv2.2,hv2.1⟩;have hmem:(push29 (some (v',xss):SN) st).2.mem ((some (v2,xss++[[]]):SN),(undAll [15,16,17] st).set 3 (.d .raw v2)):=by
  unfold push29;dsimp only;rw [e3];exact ⟨_,rfl⟩
 exact hK _ hmem _ _ ⟨hfr.trans g2,M',hG2.unfocus (Fr.refl _ _) hf⟩
def r29_13:Array Oper:=regAt 13 (bodyOf Tryz.f29)
theorem info29_13:r29_13.toList.map opInfo=[(some 35,.move (.tmp 3),none),(some 36,.move (.tmp 7),none),(some 37,.move (.tmp 3),none),(some 38,.move (.tmp 7),none),(some 39,.indexAddr 43 (.tmp 37) (.tmp 38),none),(some 40,.load 27 (.tmp 39),none),(some 41,.move (.tmp 6),none),(some 42,.move (.tmp 7),none),
 (some 43,.indexAddr 27 (.tmp 41) (.tmp 42),none),(some 44,.load 3 (.tmp 43),none),(some 45,.buildSlice 27 1 #[(0,.tmp 44)],none),(some 46,.call { callee:=.builtin .append,args := #[.tmp 40,.tmp 45],argTypes := #[27,27] },none),(some 47,.indexAddr 43 (.tmp 35) (.tmp 36),none),(none,.store 27 (.tmp 47) (.tmp 46),none)]:=by kernel_rfl
def E29_13 {ρ:Type} (k:X->HN.σ->St->Out ρ) (s:HN.σ) (st:St):Out ρ :=
 match (show SN from s) with
 | some (v,xss)=>(match get st 3 with
  | .d .raw v'=>(match get st 7 with
   | .d (.int .i64) par=>(match get st 6 with
    | .d (.list (.int .i64)) l=>bif ((st.length==49 && noBoxes [35,36,37,38,39,40,41,42,43,44,45,46,47] st) && growB v v' xss par) && inb par (show List Int from l).length then
     k .normal (growS v xss par ((show List Int from l).getD par.toNat 0)) (undAll [35,36,37,38,39,40,41,42,43,44,45,46,47] (st.map dropS)) else .fail
    | _=>.fail)
   | _=>.fail)
  | _=>.fail)
 | none=>.fail
theorem cell_in {w:World} {b o:Nat} {v:Value} (h:w.cell? ⟨b,o,none⟩=some v):b<w.heap.size:=by
 rcases Nat.lt_or_ge b w.heap.size with h'|h'
 . exact h'
 . simp [World.cell?,Array.getElem?_eq_none h'] at h
set_option maxRecDepth 8000 in
theorem E29_13_ok:EOKH Tryz.prog HN (.region 13 r29_13 true) (fun {ρ} k s st=>E29_13 k s st):=by
 intro ρ fin hf hr F M0 w0 n hI hpl k Q hQ s st act w hc h;have h':E29_13 k s st=fin:=h;clear h;unfold E29_13 at h';split at h';rotate_left
 . exact absurd h'.symm hf
 rename_i v xss es;have es:s=(some (v,xss):SN):=es;subst es;split at h';rotate_left
 . exact absurd h'.symm hf
 rename_i vD e3;obtain ⟨v',hvD⟩:∃ z:Value,z=vD:=⟨_,rfl⟩
 subst hvD;split at h';rotate_left
 . exact absurd h'.symm hf
 rename_i parD e7;obtain ⟨par,hparD⟩:∃ par:Int,par=parD:=⟨_,rfl⟩
 subst hparD;split at h';rotate_left
 . exact absurd h'.symm hf
 rename_i lD e6;obtain ⟨l,hlD⟩:∃ l:List Int,l=lD:=⟨_,rfl⟩
 subst hlD;cases hcd:(((st.length==49 && noBoxes [35,36,37,38,39,40,41,42,43,44,45,46,47] st) && growB v v' xss par) && inb par l.length) with
 | false=>rw [hcd] at h';exact absurd h'.symm hf
 | true =>
 rw [hcd] at h';unfold growB at hcd;simp only [Bool.and_eq_true,beq_iff_eq,decide_eq_true_eq] at hcd;obtain ⟨⟨⟨hlen,hnb⟩,hv,hin,hll⟩,hil⟩:=hcd;have hv:=isV_eq hv;subst hv;obtain ⟨hi0,hi1⟩:=inb_iff.1 hin;obtain ⟨_,hi2⟩:=inb_iff.1 hil
 obtain ⟨ix,hix⟩:∃ ix:Nat,par=ix:=⟨par.toNat,by omega⟩
 subst hix;have hixl:ix<xss.length:=by omega
 have hixl2:ix<l.length:=by omega
 have hpt:(ix:Int).toNat=ix:=by omega
 rw [hpt] at hll;have h':k .normal (growS v' xss ix (l.getD ix 0)) (undAll [35,36,37,38,39,40,41,42,43,44,45,46,47] (st.map dropS))=fin:=h';obtain ⟨N0,hpn,hcl,hback⟩:=hc.lift;obtain ⟨hfr,M,hG⟩:=hback _ _ _ hcl.drop;have hg:=hG.2.1
 have hsz:act.tmps.size=49:=hg.size.trans (by simp;exact hlen);have s3:=hg.slot 3;rw [get_map,e3] at s3;have t3:tm act 3=v':=repV_raw (show RepV M w .raw (tm act 3) v' from s3);have s7:=hg.slot 7;rw [get_map,e7] at s7;have t7:tm act 7 = .int .i64 ix:=slot_int s7
 have s6:=hg.slot 6;rw [get_map,e6] at s6;obtain ⟨cs6,hcs6,ad6,cap6,hcs6',hle6,hel6⟩:RepV M w (.list (.int .i64)) (tm act 6) l:=s6;obtain ⟨b6,o6,ec6,had6,hec6,hcell6,hrep6⟩:=hel6 ix hixl2;have hec:ec6=[.int .i64 (l[ix]'hixl2)]:=hrep6
 subst hec;subst had6;subst hcs6';have t6:tm act 6 = .slice (some ⟨b6,o6,none⟩) l.length cap6:=hcs6;have hgl:l.getD ix 0=l[ix]'hixl2:=by rw [List.getD_eq_getElem?_getD,List.getElem?_eq_getElem hixl2];rfl
 obtain ⟨x,hx⟩:∃ x:Int,x=l[ix]'hixl2:=⟨_,rfl⟩
 rw [hgl,<- hx] at h';have hc0:=hcell6 0 (by simp);rw [<- hx] at hc0;have hc6:w.cell? ⟨b6,o6+ix,none⟩=some (.int .i64 x):=by
  have:=hc0.1
  simpa [Ty.size] using this
 have hm6:¬ M b6 (o6+ix):=by
  have:=hc0.2
  simpa [Ty.size] using this
 have hn:=hG.1 v' xss rfl;obtain ⟨R,hR⟩:∃ R,ownB v'=some R:=by
  obtain ⟨us,hl,hown,_⟩:=hn;rcases hown.2 with ⟨rfl,h0⟩|⟨g,cap,cur,rfl,_⟩
  . omega
  . exact ⟨g,rfl⟩
 obtain ⟨cap,cur,hvv,hgR,hcs,hle,hmx,hel,_⟩:=nest_row hn hR;obtain ⟨u,hu,_,hou⟩:=hel ix hixl;have h6h:¬ HN.hb (some (v',xss):SN) w b6:=fun hB=>hm6 ((hG.2.2 b6 hB).2.1 _)
 have l6:b6<w.heap.size:=cell_in hc6;have lR:R<w.heap.size:=(Array.getElem?_eq_some_iff.1 hgR).1;obtain ⟨S,hS⟩:∃ S:World->Prop,S=fun w'=>w'.heap[b6]? = w.heap[b6]? /\ w'.heap[R]? = some (.cells cur 27 (0,0)):=⟨_,rfl⟩
 have S0:S w.drew:=by rw [hS];exact ⟨rfl,hgR⟩
 have nQ:∀ c a w,¬ calmQ Q (.panic c) a w:=fun c a w h=>h
 have ns:Region.noSelect r29_13=true:=by kernel_rfl
 refine held_begin mixed S 13 ?_;rw [show r29_13.size=14 by kernel_rfl];show wpAnyT Tryz.prog r29_13 (calmQ Q) S 13 14 ((Array.replicate 14 false)) act w.drew;refine held_read (i:=0) (d:=35) (v:=v') (by rw [info29_13];rfl) ns (by kernel_rfl) (by kernel_rfl) (by kernel_rfl) nQ (fun o ho w' hw'=>by rw [ex_move ho,t3]) S0 ?_
 refine held_read (i:=1) (d:=36) (v:=.int .i64 ix) (by rw [info29_13];rfl) ns (by kernel_rfl) (by kernel_rfl) (by kernel_rfl) nQ (fun o ho w' hw'=>by rw [ex_move ho,tm_put_other (by omega),t7]) S0 ?_;refine held_read (i:=2) (d:=37) (v:=v') (by rw [info29_13];rfl) ns (by kernel_rfl) (by kernel_rfl) (by kernel_rfl) nQ (fun o ho w' hw'=>by rw [ex_move ho,tm_put_other (by omega),tm_put_other (by omega),t3]) S0 ?_
 refine held_read (i:=3) (d:=38) (v:=.int .i64 ix) (by rw [info29_13];rfl) ns (by kernel_rfl) (by kernel_rfl) (by kernel_rfl) nQ (fun o ho w' hw'=>by rw [ex_move ho,tm_put_other (by omega),tm_put_other (by omega),tm_put_other (by omega),t7]) S0 ?_
 obtain ⟨a3,ha3⟩:∃ a3,a3=(((act.put (some 35) v').put (some 36) (.int .i64 ix)).put (some 37) v').put (some 38) (.int .i64 ix):=⟨_,rfl⟩
 rw [<- ha3];have z3:a3.tmps.size=49:=by rw [ha3];simp only [size_put];exact hsz
 have a35:tm a3 35=v':=by rw [ha3,tm_put_other (by omega),tm_put_other (by omega),tm_put_other (by omega),tm_put_same (by omega)]
 have a36:tm a3 36 = .int .i64 ix:=by rw [ha3,tm_put_other (by omega),tm_put_other (by omega),tm_put_same (by simp only [size_put];omega)]
 have a37:tm a3 37=v':=by rw [ha3,tm_put_other (by omega),tm_put_same (by simp only [size_put];omega)]
 have a38:tm a3 38 = .int .i64 ix:=by rw [ha3,tm_put_same (by simp only [size_put];omega)]
 have a6:tm a3 6 = .slice (some ⟨b6,o6,none⟩) l.length cap6:=by rw [ha3,tm_put_other (by omega),tm_put_other (by omega),tm_put_other (by omega),tm_put_other (by omega),t6]
 have a7:tm a3 7 = .int .i64 ix:=by rw [ha3,tm_put_other (by omega),tm_put_other (by omega),tm_put_other (by omega),tm_put_other (by omega),t7]
 refine held_read (i:=4) (d:=39) (v:=.pointer (some ⟨R,ix,none⟩)) (by rw [info29_13];rfl) ns (by kernel_rfl) (by kernel_rfl) (by kernel_rfl) nQ (fun o ho w' hw'=>?_) S0 ?_
 . have:=ex_index (a:=a3) (w:=w') (T:=43) (E:=27) (e:=.list (.int .i64)) (by kernel_rfl) (by kernel_rfl) rfl ho (R:=R) (off:=0) (n:=xss.length) (cap:=cap) (i:=(ix:Int)) (a37.trans hvv) a38 hi0 hi1;rw [hpt,Nat.zero_add] at this
   exact this
 refine held_read (i:=5) (d:=40) (v:=u) (by rw [info29_13];rfl) ns (by kernel_rfl) (by kernel_rfl) (by kernel_rfl) nQ (fun o ho w' hw'=>?_) S0 ?_
 . rw [hS] at hw';exact ex_loadAt (T:=27) (t:=.list (.int .i64)) (by kernel_rfl) rfl rfl ho (b:=R) (j:=ix) (tm_put_same (by omega)) hw'.2 hu
 refine held_read (i:=6) (d:=41) (v:=.slice (some ⟨b6,o6,none⟩) l.length cap6) (by rw [info29_13];rfl) ns (by kernel_rfl) (by kernel_rfl) (by kernel_rfl) nQ (fun o ho w' hw'=>by rw [ex_move ho,tm_put_other (by omega),tm_put_other (by omega),a6]) S0 ?_
 refine held_read (i:=7) (d:=42) (v:=.int .i64 ix) (by rw [info29_13];rfl) ns (by kernel_rfl) (by kernel_rfl) (by kernel_rfl) nQ (fun o ho w' hw'=>by rw [ex_move ho,tm_put_other (by omega),tm_put_other (by omega),tm_put_other (by omega),a7]) S0 ?_
 obtain ⟨a8,ha8⟩:∃ a8,a8=(((a3.put (some 39) (.pointer (some ⟨R,ix,none⟩))).put (some 40) u).put (some 41) (.slice (some ⟨b6,o6,none⟩) l.length cap6)).put (some 42) (.int .i64 ix):=⟨_,rfl⟩
 rw [<- ha8];have z8:a8.tmps.size=49:=by rw [ha8];simp only [size_put];exact z3
 have b40:tm a8 40=u:=by rw [ha8,tm_put_other (by omega),tm_put_other (by omega),tm_put_same (by simp only [size_put];omega)]
 have b41:tm a8 41 = .slice (some ⟨b6,o6,none⟩) l.length cap6:=by rw [ha8,tm_put_other (by omega),tm_put_same (by simp only [size_put];omega)]
 have b42:tm a8 42 = .int .i64 ix:=by rw [ha8,tm_put_same (by simp only [size_put];omega)]
 have b35:tm a8 35=v':=by rw [ha8,tm_put_other (by omega),tm_put_other (by omega),tm_put_other (by omega),tm_put_other (by omega),a35]
 have b36:tm a8 36 = .int .i64 ix:=by rw [ha8,tm_put_other (by omega),tm_put_other (by omega),tm_put_other (by omega),tm_put_other (by omega),a36]
 refine held_read (i:=8) (d:=43) (v:=.pointer (some ⟨b6,o6+ix,none⟩)) (by rw [info29_13];rfl) ns (by kernel_rfl) (by kernel_rfl) (by kernel_rfl) nQ (fun o ho w' hw'=>?_) S0 ?_
 . have:=ex_index (a:=a8) (w:=w') (T:=27) (E:=3) (e:=.int .i64) (by kernel_rfl) (by kernel_rfl) rfl ho (R:=b6) (off:=o6) (n:=l.length) (cap:=cap6) (i:=(ix:Int)) b41 b42 hi0 hi2;rw [hpt] at this;exact this
 refine held_read (i:=9) (d:=44) (v:=.int .i64 x) (by rw [info29_13];rfl) ns (by kernel_rfl) (by kernel_rfl) (by kernel_rfl) nQ (fun o ho w' hw'=>?_) S0 ?_
 . rw [hS] at hw';exact ex_loadC (T:=3) (t:=.int .i64) (by kernel_rfl) rfl rfl ho (b:=b6) (j:=o6+ix) (tm_put_same (by omega)) ((World.cell?_of_block (a:=⟨b6,o6+ix,none⟩) hw'.1).trans hc6)
 refine held_step (i:=10) (dst:=some 45) (v:=.slice (some ⟨w.drew.heap.size,0,none⟩) 1 1) (by rw [info29_13];rfl) (by kernel_rfl) (fun o ho=>ex_build27 ho (x:=x) (tm_put_same (by simp only [size_put];omega))) (.inl rfl) (fun _=>by rw [hS];exact ⟨heap_alloc_old _ _ l6,(heap_alloc_old _ _ lR).trans hgR⟩) ?_
 obtain ⟨w1,hw1⟩:∃ w1,w1=w.drew.alloc (.cells #[.int .i64 x] 3):=⟨_,rfl⟩
 rw [<- hw1];have hbel1:Below w.heap.size w w1:=by rw [hw1];exact ((Below.refl _ _).drew).alloc (Nat.le_refl _) _
 have hxc:w1.cell? ⟨w.heap.size,0,none⟩=some (.int .i64 x):=cell_at (by rw [hw1];exact heap_alloc_new w.drew _) rfl;obtain ⟨o11,hi11,hd11,ho11,hg11⟩:=infoAt (ops:=r29_13) rfl (i:=11) (x:=(some 46,.call { callee:=.builtin .append,args := #[.tmp 40,.tmp 45],argTypes := #[27,27] },none)) (by rw [info29_13];rfl)
 obtain ⟨u',w2,g1,g2,g3,g4,g5,g6,M',g7⟩:=nest_grow hG hbel1 hR hixl hll hgR hu hxc o11.type;have S2:S w2:=by rw [hS];exact ⟨g5 b6 l6 h6h,g2⟩
 refine held_stepO (v:=u') (w':=w2) hi11 hd11 hg11 (by kernel_rfl) (ex_app27 ho11 (v:=u) (b:=w.heap.size) (by rw [tm_put_other (by omega),tm_put_other (by omega),tm_put_other (by omega),b40]) (tm_put_same (by simp only [size_put];omega)) g1) (.inl rfl) (fun _=>S2) ?_
 obtain ⟨a12,ha12⟩:∃ a12,a12=(((a8.put (some 43) (.pointer (some ⟨b6,o6+ix,none⟩))).put (some 44) (.int .i64 x)).put (some 45) (.slice (some ⟨w.drew.heap.size,0,none⟩) 1 1)).put (some 46) u':=⟨_,rfl⟩
 rw [<- ha12];show wpAnyT Tryz.prog r29_13 (calmQ Q) S 13 2 _ a12 w2;have z12:a12.tmps.size=49:=by rw [ha12];simp only [size_put];exact z8
 refine held_read (i:=12) (d:=47) (v:=.pointer (some ⟨R,ix,none⟩)) (by rw [info29_13];rfl) ns (by kernel_rfl) (by kernel_rfl) (by kernel_rfl) nQ (fun o ho w' hw'=>?_) S2 ?_
 . have:=ex_index (a:=a12) (w:=w') (T:=43) (E:=27) (e:=.list (.int .i64)) (by kernel_rfl) (by kernel_rfl) rfl ho (R:=R) (off:=0) (n:=xss.length) (cap:=cap) (i:=(ix:Int))
    (by rw [ha12,tm_put_other (by omega),tm_put_other (by omega),tm_put_other (by omega),tm_put_other (by omega),b35];exact hvv)
    (by rw [ha12,tm_put_other (by omega),tm_put_other (by omega),tm_put_other (by omega),tm_put_other (by omega),b36]) hi0 hi1
   rw [hpt,Nat.zero_add] at this;exact this
 refine held_step (i:=13) (dst:=none) (v:=undef) (by rw [info29_13];rfl) (by kernel_rfl) (fun o ho=>ex_storeAt (T:=27) (t:=.list (.int .i64)) (by kernel_rfl) rfl ho (b:=R) (j:=ix) (u:=u') (tm_put_same (by omega)) (by rw [tm_put_other (by omega),ha12,tm_put_same (by simp only [size_put];omega)]) g3 g4 g2 (by omega)) (.inr ⟨rfl,rfl⟩) (fun h=>absurd rfl h) ?_
 refine held_done (by kernel_rfl) ?_ _;rw [put_none,ha12,ha8,ha3];have hnb':noBoxes ([(35,v'),(36,Value.int .i64 ix),(37,v'),(38,.int .i64 ix),(39,.pointer (some ⟨R,ix,none⟩)),(40,u),(41,.slice (some ⟨b6,o6,none⟩) l.length cap6),(42,.int .i64 ix),(43,.pointer (some ⟨b6,o6+ix,none⟩)),(44,.int .i64 x),(45,.slice (some ⟨w.drew.heap.size,0,none⟩) 1 1),(46,u'),(47,.pointer (some ⟨R,ix,none⟩))].map (·.1)) (st.map dropS)=true:=noBoxes_drop hnb
 have hG2:=undAll_ok g7 [(35,v'),(36,Value.int .i64 ix),(37,v'),(38,.int .i64 ix),(39,.pointer (some ⟨R,ix,none⟩)),(40,u),(41,.slice (some ⟨b6,o6,none⟩) l.length cap6),(42,.int .i64 ix),(43,.pointer (some ⟨b6,o6+ix,none⟩)),(44,.int .i64 x),(45,.slice (some ⟨w.drew.heap.size,0,none⟩) 1 1),(46,u'),(47,.pointer (some ⟨R,ix,none⟩))] _ act g7 hnb'
 refine hQ .normal _ _ _ _ ⟨hfr.trans g6,M',hG2⟩ ?_;unfold growS at h';rw [hpt] at h';exact h'
end Go.V
namespace Go.V
open Go.Proofs
def specs29:List Spec:=[sp67]
def hints29:List (Nat×List Nat):=[(3,[1,3,4]),(7,[1,3,5]),(11,[1,3,5,6,7])]
def specsQ29 (s:SN):List Spec:=[sp67]
def r29_1:Array Oper:=regAt 1 (bodyOf Tryz.f29)
def D29_1:Nat->Option (Nat×(SN->St->Bool×Outs HN)):=fun i=>match i with|0=>some (0,birthG 49 3)|_=>none
theorem D29_1_ok:∀ i y,D29_1 i=some y->HandQ Tryz.prog HN r29_1 i y.1 y.2:=by
 intro i y h
 unfold D29_1 at h
 split at h
 . cases h;exact (birth_ok (i:=0) (by kernel_rfl)).one
 . cases h
def D29_5:Nat->Option (Nat×(SN->St->Bool×Outs HN)):=fun i=>match i with|0=>some (3,push29)|_=>none
theorem D29_5_ok:∀ i y,D29_5 i=some y->HandQ Tryz.prog HN r29_5 i y.1 y.2:=by
 intro i y h
 unfold D29_5 at h
 split at h
 . cases h;exact push29_ok
 . cases h
def r29_14:Array Oper:=regAt 14 (bodyOf Tryz.f29)
def D29_14:Nat->Option (Nat×(SN->St->Bool×Outs HN)):=fun i=>match i with|0=>some (0,relG 49 3 48)|_=>none
theorem D29_14_ok:∀ i y,D29_14 i=some y->HandQ Tryz.prog HN r29_14 i y.1 y.2:=by
 intro i y h
 unfold D29_14 at h
 split at h
 . cases h;exact (rel_ok (i:=0) (by kernel_rfl)).one
 . cases h
def T29:List (List Nat×HdH HN):=[([1,0],⟨fun {ρ} k s st=>regQ Tryz.prog HN (fun s=>phi (specsQ29 s)) hints29 D29_1 1 r29_1 k s st⟩),
 ([1,1,0,1,0,0,1,0,0],⟨fun {ρ} k s st=>regQ Tryz.prog HN (fun s=>phi (specsQ29 s)) hints29 D29_5 5 r29_5 k s st⟩),
 ([1,1,1,0,1,0,0,1,0,0,1,1,0,0,1,0,0],⟨fun {ρ} k s st=>E29_13 k s st⟩),
 ([1,1,1,1,0],⟨fun {ρ} k s st=>regQ Tryz.prog HN (fun s=>phi (specsQ29 s)) hints29 D29_14 14 r29_14 k s st⟩)]
theorem allQ29 (h:∀ s,∀ sp∈specsQ29 s,CallH Tryz.prog HN s sp):AllQ Tryz.prog HN (bodyOf Tryz.f29) (T29):=(allQ_cons (c' := .region 1 r29_1 false) (by kernel_rfl) (regQ_ok (fun s g sp hs=>h s sp (List.mem_filter.1 hs).1) hints29 D29_1_ok) (allQ_cons (c' := .region 5 r29_5 false) (by kernel_rfl) (regQ_ok (fun s g sp hs=>h s sp (List.mem_filter.1 hs).1) hints29 D29_5_ok) (allQ_cons (c' := .region 13 r29_13 true) (by kernel_rfl) E29_13_ok (allQ_cons (c' := .region 14 r29_14 false) (by kernel_rfl) (regQ_ok (fun s g sp hs=>h s sp (List.mem_filter.1 hs).1) hints29 D29_14_ok) allQ_nil))))
def L29_2 (N:Nat) (n_L29_1:Nat) (n_L29_2:Nat) (v_2:Value) (p_7:Int) (r_9:(List (List Int))) (t_11:Int) (t_12:(List (Int×lt0))) (i_13:Int) (xss_14:(List (List Int))):Out (SN×(List (List Int))) :=
 vloopQ Tryz.prog HN (phi specs29) hints29 N (T29) Tryz.f29 false false ty1 [1,1,1,0,1,0,n_L29_1,1,0,0,1,1,0] n_L29_2 ((some (v_2,xss_14):SN)) [U,.box [.d (.int .i64) t_11,.d ty0 t_12],U,.d .raw v_2,U,.d (.int .i64) p_7,.d (.list (.int .i64)) (List.getD r_9 (0:Int).toNat ([]:List Int)),.d (.int .i64) i_13,U,U,U,U,U,U,U,U,U,U,U,U,U,U,U,U,U,U,U,U,U,U,U,U,U,U,U,U,U,U,U,U,U,U,U,U,U,U,U,U,U]
def L29_1 (N:Nat) (n_L29_1:Nat) (v_2:Value) (t_5:Int) (t_6:(List (Int×lt0))) (p_7:Int) (xss_8:(List (List Int))):Out (SN×(List (List Int))) :=
 vloopQ Tryz.prog HN (phi specs29) hints29 N (T29) Tryz.f29 false false ty1 [1,1,1,0,1,0] n_L29_1 ((some (v_2,xss_8):SN)) [U,.box [.d (.int .i64) t_5,.d ty0 t_6],U,.d .raw v_2,U,.d (.int .i64) p_7,U,U,U,U,U,U,U,U,U,U,U,U,U,U,U,U,U,U,U,U,U,U,U,U,U,U,U,U,U,U,U,U,U,U,U,U,U,U,U,U,U,U,U]
def L29_0 (N:Nat) (n_L29_0:Nat) (x:lt1) (i_1:Int) (v_2:Value) (xss_3:(List (List Int))):Out (SN×(List (List Int))) :=
 vloopQ Tryz.prog HN (phi specs29) hints29 N (T29) Tryz.f29 false false ty1 [1,1,0,1,0] n_L29_0 ((some (v_2,xss_3):SN)) [U,.box [.d (.int .i64) x.1.1,.d ty0 x.1.2.1],U,.d .raw v_2,.d (.int .i64) i_1,U,U,U,U,U,U,U,U,U,U,U,U,U,U,U,U,U,U,U,U,U,U,U,U,U,U,U,U,U,U,U,U,U,U,U,U,U,U,U,U,U,U,U,U]
theorem L29_2_succ (N:Nat) (n_L29_1:Nat) (n_L29_2:Nat) (v_2:Value) (p_7:Int) (r_9:(List (List Int))) (t_11:Int) (t_12:(List (Int×lt0))) (i_13:Int) (xss_14:(List (List Int))):L29_2 N n_L29_1 (n_L29_2+1) v_2 p_7 r_9 t_11 t_12 i_13 xss_14 =
 (match (decide (i_13<(lenI (List.getD r_9 (0:Int).toNat [])))) with|true=>bif (growB v_2 v_2 xss_14 i_13 && inb i_13 (List.getD r_9 (0:Int).toNat []).length) then L29_2 N n_L29_1 n_L29_2 v_2 p_7 r_9 t_11 t_12 (IntKind.i64.wrap (i_13+1)) ((xss_14.set (i_13).toNat (xss_14.getD (i_13).toNat []++[((List.getD r_9 (0:Int).toNat []).getD (i_13).toNat 0)]))) else .fail|false=>L29_1 N n_L29_1 v_2 t_11 t_12 (IntKind.i64.wrap (p_7+1)) xss_14:Out (SN×(List (List Int)))):=by kernel_rfl
theorem L29_1_succ (N:Nat) (n_L29_1:Nat) (v_2:Value) (t_5:Int) (t_6:(List (Int×lt0))) (p_7:Int) (xss_8:(List (List Int))):L29_1 N  (n_L29_1+1) v_2 t_5 t_6 p_7 xss_8 =
 (match (decide (p_7<t_5)) with|true=>(match f67 ((t_5,(t_6,())),(p_7,())) with | .ret r_9=>bif (inb 0 r_9.length) then L29_2 N n_L29_1 N v_2 p_7 r_9 t_5 t_6 0 xss_8 else .fail | .pan p=>.pan p | .fail=>.fail)|false=>bif (isV v_2 v_2) then .ret (((none:SN)),xss_8) else .fail:Out (SN×(List (List Int)))):=by kernel_rfl
theorem L29_0_succ (N:Nat) (n_L29_0:Nat) (x:lt1) (i_1:Int) (v_2:Value) (xss_3:(List (List Int))):L29_0 N  (n_L29_0+1) x i_1 v_2 xss_3 =
 (match (decide (i_1<(lenI x.1.2.1))) with|true=>bif (pushB v_2 v_2 xss_3) then allOf fun (v_4:Value)=>L29_0 N n_L29_0 x (IntKind.i64.wrap (i_1+1)) v_4 ((xss_3++[[]])) else .fail|false=>L29_1 N N v_2 x.1.1 x.1.2.1 0 xss_3:Out (SN×(List (List Int)))):=by kernel_rfl
def F29 (N:Nat) (x:lt1):Out (SN×(List (List Int))):=L29_0 N N x 0 ((.slice none 0 0:Value)) ([])
theorem e29 (N:Nat) (x:lt1):vfnQ Tryz.prog HN (phi specs29) hints29 N (T29) Tryz.f29 false false ty2 ty1 ((none:SN)) x=F29 N x:=by kernel_rfl
def f29 (x:lt1):Out (List (List Int)):=dropG (F29 fuel x)
def sp29:Spec:=⟨29,.call,ty2,ty1,false,false,f29⟩
theorem c29:Contract Tryz.prog sp29:=contract_drop (H:=HN) (none:SN) HN_none (fun M w=>HN_I_none M w) (l:=specs29) (fun sp hs=>(by simp only [specs29,List.mem_cons,List.not_mem_nil,or_false] at hs;rcases hs with rfl<;>first|exact c67)) Tryz.func29 rfl (allQ29 fun s sp hs=>.inl (by simp only [specsQ29,List.mem_cons,List.not_mem_nil,or_false] at hs;rcases hs with rfl<;>first|exact c67)) hints29 fuel (e29 fuel)
end Go.V
namespace Go.V
open Go.Proofs
@[irreducible] def f13v:lt1->Out Bool:=veil f13
theorem f13v_eq:f13v=f13:=by unfold f13v;exact veil_eq f13
def sp13v:Spec:=⟨13,.call,ty2,.bool,false,false,f13v⟩
theorem c13v:Contract Tryz.prog sp13v:=by
 unfold sp13v
 rw [f13v_eq]
 exact c13
@[irreducible] def f17v:lt1->Out Bool:=veil f17
theorem f17v_eq:f17v=f17:=by unfold f17v;exact veil_eq f17
def sp17v:Spec:=⟨17,.call,ty2,.bool,false,false,f17v⟩
theorem c17v:Contract Tryz.prog sp17v:=by
 unfold sp17v
 rw [f17v_eq]
 exact c17
@[irreducible] def f27v:lt1->Out Int:=veil f27
theorem f27v_eq:f27v=f27:=by unfold f27v;exact veil_eq f27
def sp27v:Spec:=⟨27,.call,ty2,(.int .i64),false,false,f27v⟩
theorem c27v:Contract Tryz.prog sp27v:=by
 unfold sp27v
 rw [f27v_eq]
 exact c27
@[irreducible] def f29v:lt1->Out (List (List Int)):=veil f29
theorem f29v_eq:f29v=f29:=by unfold f29v;exact veil_eq f29
def sp29v:Spec:=⟨29,.call,ty2,ty1,false,false,f29v⟩
theorem c29v:Contract Tryz.prog sp29v:=by
 unfold sp29v
 rw [f29v_eq]
 exact c29
@[irreducible] def f30v:lt1->Out Int:=veil f30
theorem f30v_eq:f30v=f30:=by unfold f30v;exact veil_eq f30
def sp30v:Spec:=⟨30,.call,ty2,(.int .i64),false,false,f30v⟩
theorem c30v:Contract Tryz.prog sp30v:=by
 unfold sp30v
 rw [f30v_eq]
 exact c30
end Go.V
namespace Go.V
open Go.Proofs
theorem b22:((2:Int)==2)=true:=rfl
theorem b00:((0:Int)==0)=true:=rfl
theorem bl00:(lenI ([]:List (List Int))==(0:Int))=true:=rfl
theorem nt:(!true)=false:=rfl
theorem nf:(!false)=true:=rfl
end Go.V
namespace Go.V
open Go.Proofs
theorem first_len (t:TREE):(firstT t).length=t.2.1.length:=by unfold firstT;simp
end Go.V
namespace Go.V
open Go.Proofs
def specs5:List Spec:=[sp13v,sp14v,sp24v,sp25v,sp26v,sp17v,sp27v,sp29v,sp28v,sp30v]
def hints5:List (Nat×List Nat):=[]
def F5 (N:Nat) (x:lt1):Out Bool:=match f13v (x.1,()) with | .ret r_1=>(match (!r_1) with|true=>(match f14v () with | .ret r=>.ret r | .pan p=>.pan p | .fail=>.fail)|false=>match f24v (x.1,()) with | .ret r_5=>(match f25v (x.1,()) with | .ret r_7=>(match f26v (x.1,()) with | .ret r_9=>(match f17v (x.1,()) with | .ret r_11=>(match (!r_11) with|true=>(match (r_5.2.1==2) with|true=>(match (r_5.1==0) with|true=>(match (r_7.2.1==2) with|true=>(match ((lenI r_7.1)==0) with|true=>(match (r_9.2.1==2) with|true=>(match (r_9.1==0) with|true=>(match f14v () with | .ret r=>.ret r | .pan p=>.pan p | .fail=>.fail)|false=>.ret false)|false=>.ret false)|false=>.ret false)|false=>.ret false)|false=>.ret false)|false=>.ret false)|false=>match (r_5.2.1==0) with|true=>(match f27v (x.1,()) with | .ret r_15=>(match (r_5.1==r_15) with|true=>(match (r_7.2.1==0) with|true=>(match f29v (x.1,()) with | .ret r_17=>(match f28v (r_7.1,(r_17,())) with | .ret r_19=>(match r_19 with|true=>(match (r_9.2.1==0) with|true=>(match f30v (x.1,()) with | .ret r_21=>(match (r_9.1==r_21) with|true=>(match f14v () with | .ret r=>.ret r | .pan p=>.pan p | .fail=>.fail)|false=>.ret false) | .pan p=>.pan p | .fail=>.fail)|false=>.ret false)|false=>.ret false) | .pan p=>.pan p | .fail=>.fail) | .pan p=>.pan p | .fail=>.fail)|false=>.ret false)|false=>.ret false) | .pan p=>.pan p | .fail=>.fail)|false=>.ret false) | .pan p=>.pan p | .fail=>.fail) | .pan p=>.pan p | .fail=>.fail) | .pan p=>.pan p | .fail=>.fail) | .pan p=>.pan p | .fail=>.fail) | .pan p=>.pan p | .fail=>.fail
theorem e5 (N:Nat) (x:lt1):vfn Tryz.prog (phi specs5) hints5 N Tryz.f5 false false ty2 .bool x=F5 N x:=by kernel_rfl
def f5 (x:lt1):Out Bool:=F5 fuel x
def sp5:Spec:=⟨5,.call,ty2,.bool,false,false,f5⟩
theorem c5:Contract Tryz.prog sp5:=contract_at (l:=specs5) (arg:=ty2) (res:=.bool) (multi:=false) (own:=false) (F:=f5) mixed (all_cons c13v (all_cons c14v (all_cons c24v (all_cons c25v (all_cons c26v (all_cons c17v (all_cons c27v (all_cons c29v (all_cons c28v (all_cons c30v all_nil)))))))))) Tryz.func5 rfl hints5 fun x _=>⟨fuel,e5 fuel x⟩
end Go.V
namespace Go.V
open Go.Proofs
theorem pushB_true {v:Value} {xss:List (List Int)} (h:xss.length<1000000000):pushB v v xss=true:=by
 unfold pushB;rw [isV_refl,decide_eq_true h];rfl
theorem f29_at {t:TREE} (ht:TreeOK t):f29 (t,()) = .ret (firstT t):=by
 have hfb:=fuel_big;have hc:=ht.copies;obtain ⟨P,hP,hP1,hP3⟩:=ht.pl;have main:∀ v:Value,L29_1 fuel fuel v t.1 t.2.1 0 (firstR t 0 0) = .ret ((none:SN),firstT t):=by
  intro v;have key:=runL (L:=fun n p=>L29_1 fuel n v t.1 t.2.1 p (firstR t p 0)) (len:=P) (K:=.ret ((none:SN),firstT t)) (fun n p hp=>?_) (fun n=>?_) P fuel 0 (by omega) (by omega)
  . exact key
  . try dsimp only
    rw [L29_1_succ];have hT:=ht.treeP (place:=p) (by omega) (by omega);have h0:=(stor_best0 hT).vc.len;have hn:0<(storT t p).length:=List.length_pos_iff.2 (stor_ne hT);have et:((t.1,(t.2.1,())):TREE)=t:=rfl;simp only [dT (show (p:Int)<t.1 by omega),et,f67_at hT,inbT (show (0:Int)<=0 by omega) (show (0:Int)<(storT t p).length by omega),cond_true]
    have inner:=runL (L:=fun n1 i=>L29_2 fuel n n1 v p (storT t p) t.1 t.2.1 i (firstR t p i)) (len:=t.2.1.length) (K:=L29_1 fuel n v t.1 t.2.1 ((p+1:Nat):Int) (firstR t (p+1) 0)) (fun n1 i hi=>?_) (fun n1=>?_) t.2.1.length fuel 0 (by omega) (by omega)
    . exact inner
    . try dsimp only
      rw [L29_2_succ]
      try delta lenI
      have hl:(firstR t p i).length=t.2.1.length:=by unfold firstR;simp
      have hg:(firstR t p i).getD i []=firstTo t p i:=by unfold firstR;rw [rangeMap_getD hi,if_neg (by omega)]
      have hgl:(firstTo t p i).length=p:=by unfold firstTo;simp
      simp only [show (0:Int).toNat=0 from rfl,dT (show (i:Int)<((storT t p).getD 0 []).length by omega),inbT (show (0:Int)<=i by omega) (show (i:Int)<((storT t p).getD 0 []).length by omega),cond_true,growB_true (v:=v) (xss:=firstR t p i) (i:=i) ⟨by omega,by omega⟩ (by rw [Int.toNat_natCast,hg,hgl];omega),Bool.and_true,Int.toNat_natCast,wn (show i<1000000000 by omega)]
      rw [show ((storT t p).getD 0 []).getD i 0=firstAt t p i from rfl,firstR_succ t hi]
    . try dsimp only
      rw [L29_2_succ]
      try delta lenI
      simp only [show (0:Int).toNat=0 from rfl,dF (show ¬ ((t.2.1.length:Nat):Int)<((storT t p).getD 0 []).length by omega),wn (show p<1000000000 by omega)];rw [firstR_next]
  . try dsimp only
    rw [L29_1_succ];simp only [dF (show ¬ ((P:Nat):Int)<t.1 by omega),isV_refl,cond_true]
    congr 2
    unfold firstR firstT;apply List.map_congr_left;intro r hr;rw [if_neg (by omega),show t.1.toNat=P by omega]
 have first:∀ (d n i:Nat) (v:Value),d<n->i+d=t.2.1.length->L29_0 fuel n (t,()) i v (List.replicate i []) = .ret ((none:SN),firstT t):=by
  intro d
  induction d with
  | zero =>
   intro n i v hn hi;obtain ⟨n,rfl⟩:=succ_of hn;obtain rfl:i=t.2.1.length:=by omega
   rw [L29_0_succ]
   try delta lenI
   simp only [dF (show ¬ ((t.2.1.length:Nat):Int)<t.2.1.length by omega)];have:=main v;rw [firstR_zero] at this;exact this
  | succ d ih =>
   intro n i v hn hi;obtain ⟨n,rfl⟩:=succ_of (show 0<n by omega);rw [L29_0_succ]
   try delta lenI
   simp only [dT (show (i:Int)<t.2.1.length by omega),pushB_true (v:=v) (xss:=List.replicate i []) (by simp;omega),cond_true,wn (show i<1000000000 by omega)];refine allOf_eq fun v2=>?_
   have e:(List.replicate i ([]:List Int))++[[]]=List.replicate (i+1) []:=by rw [List.replicate_succ']
   rw [e];exact ih n (i+1) v2 (by omega) (by omega)
 unfold f29 F29;have:=first t.2.1.length fuel 0 (.slice none 0 0) (by omega) (by omega)
 rw [show L29_0 fuel fuel (t,()) 0 (.slice none 0 0) []=_ from this];rfl
theorem law5 (t:TREE):f5 (t,()) = .ret true:=by
 show F5 fuel (t,())=_;unfold F5;obtain ⟨c,h13⟩:=f13_at t;simp only [f13v_eq,f24v_eq,f25v_eq,f26v_eq,f17v_eq,f27v_eq,f29v_eq,f28v_eq,f30v_eq,h13];cases c with
 | false=>simp only [nf,known_true]
 | true =>
  simp only [nt]
  by_cases ht:TreeOK t
  rotate_left
  . simp only [f24_no ht,f25_no ht,f26_no ht,no17 ht,nf,b22,b00,bl00,known_true]
  have hP:=ht.places;have hc:=ht.copies;simp only [f24_at ht,f25_at ht,f26_at ht,ht.t17,nt,b00,f27_at ht,beq_self_eq_true,f29_at ht,f28_at (firstT t) (firstT t) (by rw [first_len];omega) (fun l hl=>by
   unfold firstT at hl;obtain ⟨i,_,rfl⟩:=List.mem_map.1 hl;unfold firstTo;simp;omega),decide_true,f30_at ht,known_true]
end Go.V
end
