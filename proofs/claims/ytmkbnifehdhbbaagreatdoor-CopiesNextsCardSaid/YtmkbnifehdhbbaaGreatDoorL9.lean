/- What law 9 of the copies needs beyond what all laws need: functions read, and the plain law. -/
import Derived.Test.YtmkbnifehdhbbaaGreatDoorQL
import Derived.Test.YtmkbnifehdhbbaaGreatDoorCR2
import Derived.Test.YtmkbnifehdhbbaaGreatDoorCRA
set_option linter.all false
noncomputable section
namespace Go.V
open Go.Proofs
def specs13:List Spec:=[]
def hints13:List (Nat×List Nat):=[(2,[1,3])]
def L13_0 (N:Nat) (n_L13_0:Nat) (x:lt1) (i_1:Int):Out Bool :=
 vloop Tryz.prog (phi specs13) hints13 N Tryz.f13 false false .bool [.at 1,.at 0,.at 1,.at 0] n_L13_0 [U,.box [.d (.int .i64) x.1.1,.d ty0 x.1.2.1],U,.d (.int .i64) i_1,U,U,U,U,U,U,U,U,U,U,U,U,U,U,U,U,U,U,U,U,U,U,U]
theorem L13_0_succ (N:Nat) (n_L13_0:Nat) (x:lt1) (i_1:Int):L13_0 N  (n_L13_0+1) x i_1 =
 (match (decide (i_1<(lenI x.1.2.1))) with|true=>(match (decide (i_1<10)) with|true=>bif (inb i_1 x.1.2.1.length) then match (decide ((lenI ((List.getD x.1.2.1 i_1.toNat (0,([],())))).2.1) > 5)) with|true=>.ret false|false=>L13_0 N n_L13_0 x (IntKind.i64.wrap (i_1+1)) else .fail|false=>.ret (decide ((lenI x.1.2.1)<=10)))|false=>.ret (decide ((lenI x.1.2.1)<=10)):Out Bool):=by kernel_rfl
def F13 (N:Nat) (x:lt1):Out Bool:=L13_0 N N x 0
theorem e13 (N:Nat) (x:lt1):vfn Tryz.prog (phi specs13) hints13 N Tryz.f13 false false ty2 .bool x=F13 N x:=by kernel_rfl
def f13 (x:lt1):Out Bool:=F13 fuel x
def sp13:Spec:=⟨13,.call,ty2,.bool,false,false,f13⟩
theorem c13:Contract Tryz.prog sp13:=contract_at (l:=specs13) (arg:=ty2) (res:=.bool) (multi:=false) (own:=false) (F:=f13) mixed all_nil Tryz.func13 rfl hints13 fun x _=>⟨fuel,e13 fuel x⟩
def specs61:List Spec:=[]
def hints61:List (Nat×List Nat):=[]
theorem e61 (N:Nat) (x:(Int×(Int×(Int×Unit)))):vfn Tryz.prog (phi specs61) hints61 N Tryz.f61 false false ty10 .bool x=F61 N x:=by kernel_rfl
theorem c61:Contract Tryz.prog sp61:=contract_at (l:=specs61) (arg:=ty10) (res:=.bool) (multi:=false) (own:=false) (F:=f61) mixed all_nil Tryz.func61 rfl hints61 fun x _=>⟨fuel,e61 fuel x⟩
def specs66:List Spec:=[]
def hints66:List (Nat×List Nat):=[(3,[1,2,5,6])]
def L66_0 (N:Nat) (n_L66_0:Nat) (x:lt15) (n_1:Int) (i_2:Int):Out Int :=
 vloop Tryz.prog (phi specs66) hints66 N Tryz.f66 false false (.int .i64) [.at 1,.at 1,.at 0,.at 1,.at 0] n_L66_0 [U,.d (.list (.int .i64)) x.2.1,.box [.d (.int .i64) x.1.1,.d ty0 x.1.2.1],U,U,.d (.int .i64) n_1,.d (.int .i64) i_2,U,U,U,U,U,U,U,U,U,U,U,U,U,U,U,U,U,U,U,U,U,U,U]
theorem L66_0_succ (N:Nat) (n_L66_0:Nat) (x:lt15) (n_1:Int) (i_2:Int):L66_0 N  (n_L66_0+1) x n_1 i_2 =
 (match (decide (i_2<(lenI x.2.1))) with|true=>bif (inb i_2 x.2.1.length) then bif (inb i_2 x.1.2.1.length) then bif (inb ((List.getD x.1.2.1 i_2.toNat (0,([],())))).1 x.2.1.length) then match ((List.getD x.2.1 i_2.toNat 0) != (List.getD x.2.1 ((List.getD x.1.2.1 i_2.toNat (0,([],())))).1.toNat 0)) with|true=>L66_0 N n_L66_0 x (IntKind.i64.wrap (n_1+1)) (IntKind.i64.wrap (i_2+1))|false=>L66_0 N n_L66_0 x n_1 (IntKind.i64.wrap (i_2+1)) else .fail else .fail else .fail|false=>.ret n_1:Out Int):=by kernel_rfl
def F66 (N:Nat) (x:lt15):Out Int:=L66_0 N N x 0 1
theorem e66 (N:Nat) (x:lt15):vfn Tryz.prog (phi specs66) hints66 N Tryz.f66 false false ty23 (.int .i64) x=F66 N x:=by kernel_rfl
def f66 (x:lt15):Out Int:=F66 fuel x
def sp66:Spec:=⟨66,.call,ty23,(.int .i64),false,false,f66⟩
theorem c66:Contract Tryz.prog sp66:=contract_at (l:=specs66) (arg:=ty23) (res:=(.int .i64)) (multi:=false) (own:=false) (F:=f66) mixed all_nil Tryz.func66 rfl hints66 fun x _=>⟨fuel,e66 fuel x⟩
def specs104 (g:((Int×((List (Int×((List Int)×Unit)))×Unit))×(Int×((List Int)×((List Int)×(Int×Unit)))))->Out (List (List Int))):List Spec:=[sp66,⟨104,.call,(.prod (.prod (.int .i64) (.prod (.list (.prod (.int .i64) (.prod (.list (.int .i64)) .unit))) .unit)) (.prod (.int .i64) (.prod (.list (.int .i64)) (.prod (.list (.int .i64)) (.prod (.int .i64) .unit))))),ty1,false,true,g⟩]
def hints104:List (Nat×List Nat):=[(8,[1,2,3,4,5,11,12,13])]
def L104_0 (g:((Int×((List (Int×((List Int)×Unit)))×Unit))×(Int×((List Int)×((List Int)×(Int×Unit)))))->Out (List (List Int))) (N:Nat) (n_L104_0:Nat) (x:((Int×((List (Int×((List Int)×Unit)))×Unit))×(Int×((List Int)×((List Int)×(Int×Unit)))))) (out_3:(List (List Int))) (i_4:Int):Out (List (List Int)) :=
 vloop Tryz.prog (phi (specs104 g)) hints104 N Tryz.f104 false true ty1 [.at 1,.at 1,.at 1,.at 1,.at 1,.at 0,.at 1,.at 0] n_L104_0 [U,.d (.int .i64) x.2.1,.d (.list (.int .i64)) x.2.2.1,.d (.list (.int .i64)) x.2.2.2.1,.d (.int .i64) x.2.2.2.2.1,.box [.d (.int .i64) x.1.1,.d ty0 x.1.2.1],U,U,U,U,U,.d (.int .i64) (List.getD ((List.getD x.1.2.1 (lenI x.2.2.1).toNat ((0:Int),(([]:List Int),())))).2.1 x.2.1.toNat (0:Int)),.own (.list (.int .i64)) out_3 false,.d (.int .i64) i_4,U,U,U,U,U,U,U,U,U,U,U,U,U,U,U,U,U,U,U,U,U,U,U,U,U,U,U,U,U,U,U,U,U,U,U,U,U,U,U,U,U,U,U,U,U,U,U,U,U,U,U,U,U,U,U]
theorem L104_0_succ (g:((Int×((List (Int×((List Int)×Unit)))×Unit))×(Int×((List Int)×((List Int)×(Int×Unit)))))->Out (List (List Int))) (N:Nat) (n_L104_0:Nat) (x:((Int×((List (Int×((List Int)×Unit)))×Unit))×(Int×((List Int)×((List Int)×(Int×Unit)))))) (out_3:(List (List Int))) (i_4:Int):L104_0 g N  (n_L104_0+1) x out_3 i_4 =
 (match (decide (i_4<(lenI x.2.2.2.1))) with|true=>(match (decide ((List.getD ((List.getD x.1.2.1 (lenI x.2.2.1).toNat (0,([],())))).2.1 x.2.1.toNat 0)<0)) with|true=>bif (fits [] x.2.2.1) then bif (inb i_4 x.2.2.2.1.length) then bif (fits x.2.2.1 ([(List.getD x.2.2.2.1 i_4.toNat 0)]:List Int)) then match g (x.1,(x.2.1,((x.2.2.1++([(List.getD x.2.2.2.1 i_4.toNat 0)]:List Int)),(x.2.2.2.1,(x.2.2.2.2.1,()))))) with | .ret r_5=>bif (fits out_3 r_5) then L104_0 g N n_L104_0 x (out_3++r_5) (IntKind.i64.wrap (i_4+1)) else .fail | .pan p=>.pan p | .fail=>.fail else .fail else .fail else .fail|false=>bif (inb i_4 x.2.2.2.1.length) then match ((List.getD x.2.2.2.1 i_4.toNat 0)==(List.getD ((List.getD x.1.2.1 (lenI x.2.2.1).toNat (0,([],())))).2.1 x.2.1.toNat 0)) with|true=>bif (fits [] x.2.2.1) then bif (inb i_4 x.2.2.2.1.length) then bif (fits x.2.2.1 ([(List.getD x.2.2.2.1 i_4.toNat 0)]:List Int)) then match g (x.1,(x.2.1,((x.2.2.1++([(List.getD x.2.2.2.1 i_4.toNat 0)]:List Int)),(x.2.2.2.1,(x.2.2.2.2.1,()))))) with | .ret r_7=>bif (fits out_3 r_7) then L104_0 g N n_L104_0 x (out_3++r_7) (IntKind.i64.wrap (i_4+1)) else .fail | .pan p=>.pan p | .fail=>.fail else .fail else .fail else .fail|false=>L104_0 g N n_L104_0 x out_3 (IntKind.i64.wrap (i_4+1)) else .fail)|false=>.ret out_3:Out (List (List Int))):=by kernel_rfl
def F104 (g:((Int×((List (Int×((List Int)×Unit)))×Unit))×(Int×((List Int)×((List Int)×(Int×Unit)))))->Out (List (List Int))) (N:Nat) (x:((Int×((List (Int×((List Int)×Unit)))×Unit))×(Int×((List Int)×((List Int)×(Int×Unit)))))):Out (List (List Int)):=match f66 (x.1,(x.2.2.1,())) with | .ret r_1=>(match (decide (r_1 > x.2.2.2.2.1)) with|true=>.ret []|false=>match ((lenI x.2.2.1)==(lenI x.1.2.1)) with|true=>.ret ([x.2.2.1]:List (List Int))|false=>bif (inb (lenI x.2.2.1) x.1.2.1.length) then bif (inb x.2.1 ((List.getD x.1.2.1 (lenI x.2.2.1).toNat (0,([],())))).2.1.length) then L104_0 g N N x [] 0 else .fail else .fail) | .pan p=>.pan p | .fail=>.fail
theorem e104 (g:((Int×((List (Int×((List Int)×Unit)))×Unit))×(Int×((List Int)×((List Int)×(Int×Unit)))))->Out (List (List Int))) (N:Nat) (x:((Int×((List (Int×((List Int)×Unit)))×Unit))×(Int×((List Int)×((List Int)×(Int×Unit)))))):vfn Tryz.prog (phi (specs104 g)) hints104 N Tryz.f104 false true (.prod (.prod (.int .i64) (.prod (.list (.prod (.int .i64) (.prod (.list (.int .i64)) .unit))) .unit)) (.prod (.int .i64) (.prod (.list (.int .i64)) (.prod (.list (.int .i64)) (.prod (.int .i64) .unit))))) ty1 x=F104 g N x:=by kernel_rfl
def f104r:Nat->((Int×((List (Int×((List Int)×Unit)))×Unit))×(Int×((List Int)×((List Int)×(Int×Unit)))))->Out (List (List Int))
 | 0,_=>.fail
 | m+1,x=>F104 (f104r m) fuel x
theorem c104r:∀ m,Contract Tryz.prog ⟨104,.call,(.prod (.prod (.int .i64) (.prod (.list (.prod (.int .i64) (.prod (.list (.int .i64)) .unit))) .unit)) (.prod (.int .i64) (.prod (.list (.int .i64)) (.prod (.list (.int .i64)) (.prod (.int .i64) .unit))))),ty1,false,true,f104r m⟩
 | 0=>fun _ _ _ _ _ _ _=>trivial
 | m+1=>contract_at (l:=specs104 (f104r m)) (arg:=(.prod (.prod (.int .i64) (.prod (.list (.prod (.int .i64) (.prod (.list (.int .i64)) .unit))) .unit)) (.prod (.int .i64) (.prod (.list (.int .i64)) (.prod (.list (.int .i64)) (.prod (.int .i64) .unit)))))) (res:=ty1) (multi:=false) (own:=true) (F:=f104r (m+1)) mixed (all_cons c66 (all_cons (c104r m) all_nil)) Tryz.func104 rfl hints104 fun x _=>⟨fuel,e104 (f104r m) fuel x⟩
def f104 (x:((Int×((List (Int×((List Int)×Unit)))×Unit))×(Int×((List Int)×((List Int)×(Int×Unit)))))):Out (List (List Int)):=f104r fuel x
def sp104:Spec:=⟨104,.call,(.prod (.prod (.int .i64) (.prod (.list (.prod (.int .i64) (.prod (.list (.int .i64)) .unit))) .unit)) (.prod (.int .i64) (.prod (.list (.int .i64)) (.prod (.list (.int .i64)) (.prod (.int .i64) .unit))))),ty1,false,true,f104⟩
theorem c104:Contract Tryz.prog sp104:=c104r fuel
def specs105:List Spec:=[]
def hints105:List (Nat×List Nat):=[(3,[1,2,5,6,7]),(7,[1,2,5,6,7,8,9])]
def L105_1 (N:Nat) (n_L105_0:Nat) (n_L105_1:Nat) (x:lt4) (f_3:Int) (met_4:(List Int)) (all_5:(List Int)) (is_6:Bool) (i_7:Int):Out (List Int) :=
 vloop Tryz.prog (phi specs105) hints105 N Tryz.f105 false true (.list (.int .i64)) [.at 1,.at 1,.at 0,.at 1,.at 0,.at n_L105_0,.at 1,.at 0,.at 0,.at 1,.at 0,.at 1,.at 0] n_L105_1 [U,.d (.int .i64) x.2.1,.box [.d (.int .i64) x.1.1,.d ty0 x.1.2.1],U,U,.own (.int .i64) met_4 false,.own (.int .i64) all_5 false,.d (.int .i64) f_3,.d .bool is_6,.d (.int .i64) i_7,U,U,U,U,U,U,U,U,U,U,U,U,U,U,U,U,U,U,U,U,U,U,U,U,U,U,U,U,U,U,U,U,U,U,U,U,U,U,U]
def L105_0 (N:Nat) (n_L105_0:Nat) (x:lt4) (met_1:(List Int)) (all_2:(List Int)) (f_3:Int):Out (List Int) :=
 vloop Tryz.prog (phi specs105) hints105 N Tryz.f105 false true (.list (.int .i64)) [.at 1,.at 1,.at 0,.at 1,.at 0] n_L105_0 [U,.d (.int .i64) x.2.1,.box [.d (.int .i64) x.1.1,.d ty0 x.1.2.1],U,U,.own (.int .i64) met_1 false,.own (.int .i64) all_2 false,.d (.int .i64) f_3,U,U,U,U,U,U,U,U,U,U,U,U,U,U,U,U,U,U,U,U,U,U,U,U,U,U,U,U,U,U,U,U,U,U,U,U,U,U,U,U,U]
theorem L105_1_succ (N:Nat) (n_L105_0:Nat) (n_L105_1:Nat) (x:lt4) (f_3:Int) (met_4:(List Int)) (all_5:(List Int)) (is_6:Bool) (i_7:Int):L105_1 N n_L105_0 (n_L105_1+1) x f_3 met_4 all_5 is_6 i_7 =
 (match (decide (i_7<(lenI x.1.2.1))) with|true=>(match is_6 with|true=>L105_1 N n_L105_0 n_L105_1 x f_3 met_4 all_5 true (IntKind.i64.wrap (i_7+1))|false=>bif (inb i_7 x.1.2.1.length) then bif (inb x.2.1 ((List.getD x.1.2.1 i_7.toNat (0,([],())))).2.1.length) then L105_1 N n_L105_0 n_L105_1 x f_3 met_4 all_5 ((List.getD ((List.getD x.1.2.1 i_7.toNat (0,([],())))).2.1 x.2.1.toNat 0)==f_3) (IntKind.i64.wrap (i_7+1)) else .fail else .fail)|false=>match is_6 with|true=>bif (fits met_4 ([f_3]:List Int)) then bif (fits all_5 ([f_3]:List Int)) then L105_0 N n_L105_0 x (met_4++([f_3]:List Int)) (all_5++([f_3]:List Int)) (IntKind.i64.wrap (f_3+1)) else .fail else .fail|false=>bif (fits all_5 ([f_3]:List Int)) then L105_0 N n_L105_0 x met_4 (all_5++([f_3]:List Int)) (IntKind.i64.wrap (f_3+1)) else .fail:Out (List Int)):=by kernel_rfl
theorem L105_0_succ (N:Nat) (n_L105_0:Nat) (x:lt4) (met_1:(List Int)) (all_2:(List Int)) (f_3:Int):L105_0 N  (n_L105_0+1) x met_1 all_2 f_3 =
 (match (decide (f_3<=9)) with|true=>L105_1 N n_L105_0 N x f_3 met_1 all_2 false 0|false=>match ((lenI met_1)==0) with|true=>.ret all_2|false=>.ret met_1:Out (List Int)):=by kernel_rfl
def F105 (N:Nat) (x:lt4):Out (List Int):=L105_0 N N x [] [] 0
theorem e105 (N:Nat) (x:lt4):vfn Tryz.prog (phi specs105) hints105 N Tryz.f105 false true ty6 (.list (.int .i64)) x=F105 N x:=by kernel_rfl
def f105 (x:lt4):Out (List Int):=F105 fuel x
def sp105:Spec:=⟨105,.call,ty6,(.list (.int .i64)),false,true,f105⟩
theorem c105:Contract Tryz.prog sp105:=contract_at (l:=specs105) (arg:=ty6) (res:=(.list (.int .i64))) (multi:=false) (own:=true) (F:=f105) mixed all_nil Tryz.func105 rfl hints105 fun x _=>⟨fuel,e105 fuel x⟩
def specs46:List Spec:=[sp61]
def hints46:List (Nat×List Nat):=[]
theorem e46 (N:Nat) (x:(Int×Unit)):vfn Tryz.prog (phi specs46) hints46 N Tryz.f46 false false (.prod (.int .i64) .unit) .bool x=F46 N x:=by kernel_rfl
theorem c46:Contract Tryz.prog sp46:=contract_at (l:=specs46) (arg:=(.prod (.int .i64) .unit)) (res:=.bool) (multi:=false) (own:=false) (F:=f46) mixed (all_cons c61 all_nil) Tryz.func46 rfl hints46 fun x _=>⟨fuel,e46 fuel x⟩
def specs67:List Spec:=[sp105,sp104]
def hints67:List (Nat×List Nat):=[(3,[1,2,5])]
def L67_0 (N:Nat) (n_L67_0:Nat) (x:lt4) (n_1:Int):Out (List (List Int)) :=
 vloop Tryz.prog (phi specs67) hints67 N Tryz.f67 false true ty1 [.at 1,.at 1,.at 0] n_L67_0 [U,.d (.int .i64) x.2.1,.box [.d (.int .i64) x.1.1,.d ty0 x.1.2.1],U,U,.d (.int .i64) n_1,U,U,U,U,U,U,U,U,U,U,U,U,U,U]
theorem L67_0_succ (N:Nat) (n_L67_0:Nat) (x:lt4) (n_1:Int):L67_0 N  (n_L67_0+1) x n_1 =
 (match f105 (x.1,(x.2.1,())) with | .ret r_2=>(match f104 (x.1,(x.2.1,([],(r_2,(n_1,()))))) with | .ret r_4=>(match (decide ((lenI r_4) > 0)) with|true=>.ret r_4|false=>L67_0 N n_L67_0 x (IntKind.i64.wrap (n_1+1))) | .pan p=>.pan p | .fail=>.fail) | .pan p=>.pan p | .fail=>.fail:Out (List (List Int))):=by kernel_rfl
def F67 (N:Nat) (x:lt4):Out (List (List Int)):=L67_0 N N x 0
theorem e67 (N:Nat) (x:lt4):vfn Tryz.prog (phi specs67) hints67 N Tryz.f67 false true ty6 ty1 x=F67 N x:=by kernel_rfl
def f67 (x:lt4):Out (List (List Int)):=F67 fuel x
def sp67:Spec:=⟨67,.call,ty6,ty1,false,true,f67⟩
theorem c67:Contract Tryz.prog sp67:=contract_at (l:=specs67) (arg:=ty6) (res:=ty1) (multi:=false) (own:=true) (F:=f67) mixed (all_cons c105 (all_cons c104 all_nil)) Tryz.func67 rfl hints67 fun x _=>⟨fuel,e67 fuel x⟩
theorem e17 (N:Nat) (x:lt1):vfn Tryz.prog (phi specs17) hints17 N Tryz.f17 false false ty2 .bool x=F17 N x:=by kernel_rfl
def sp17:Spec:=⟨17,.call,ty2,.bool,false,false,f17⟩
theorem c17:Contract Tryz.prog sp17:=contract_at (l:=specs17) (arg:=ty2) (res:=.bool) (multi:=false) (own:=false) (F:=f17) mixed (all_cons c61 (all_cons c46 all_nil)) Tryz.func17 rfl hints17 fun x _=>⟨fuel,e17 fuel x⟩
def specs30:List Spec:=[sp67]
def hints30:List (Nat×List Nat):=[(3,[1,3,4])]
def L30_0 (N:Nat) (n_L30_0:Nat) (x:lt1) (n_1:Int) (p_2:Int):Out Int :=
 vloop Tryz.prog (phi specs30) hints30 N Tryz.f30 false false (.int .i64) [.at 1,.at 1,.at 0,.at 1,.at 0] n_L30_0 [U,.box [.d (.int .i64) x.1.1,.d ty0 x.1.2.1],U,.d (.int .i64) n_1,.d (.int .i64) p_2,U,U,U,U,U,U,U,U,U,U,U,U,U]
theorem L30_0_succ (N:Nat) (n_L30_0:Nat) (x:lt1) (n_1:Int) (p_2:Int):L30_0 N  (n_L30_0+1) x n_1 p_2 =
 (match (decide (p_2<x.1.1)) with|true=>(match f67 (x.1,(p_2,())) with | .ret r_3=>L30_0 N n_L30_0 x (IntKind.i64.wrap (n_1 * (lenI r_3))) (IntKind.i64.wrap (p_2+1)) | .pan p=>.pan p | .fail=>.fail)|false=>.ret n_1:Out Int):=by kernel_rfl
def F30 (N:Nat) (x:lt1):Out Int:=L30_0 N N x 1 0
theorem e30 (N:Nat) (x:lt1):vfn Tryz.prog (phi specs30) hints30 N Tryz.f30 false false ty2 (.int .i64) x=F30 N x:=by kernel_rfl
def f30 (x:lt1):Out Int:=F30 fuel x
def sp30:Spec:=⟨30,.call,ty2,(.int .i64),false,false,f30⟩
theorem c30:Contract Tryz.prog sp30:=contract_at (l:=specs30) (arg:=ty2) (res:=(.int .i64)) (multi:=false) (own:=false) (F:=f30) mixed (all_cons c67 all_nil) Tryz.func30 rfl hints30 fun x _=>⟨fuel,e30 fuel x⟩
def specs43:List Spec:=[sp67,sp30]
def hints43:List (Nat×List Nat):=[(4,[1,3,7,8,9]),(8,[1,3,7,8,9,10,11])]
def L43_1 (N:Nat) (n_L43_0:Nat) (n_L43_1:Nat) (x:lt6) (most_4:Int) (f_5:Int) (l_6:(List (List Int))) (n_7:Int) (i_8:Int):Out Int :=
 vloop Tryz.prog (phi specs43) hints43 N Tryz.f43 false false (.int .i64) [.at 1,.at 1,.at 1,.at 0,.at 1,.at 0,.at n_L43_0,.at 1,.at 0,.at 0,.at 1,.at 0,.at 1,.at 0] n_L43_1 [U,.d (.int .i64) x.2.1,U,.box [.d (.int .i64) x.1.1,.d ty0 x.1.2.1],U,U,U,.own (.list (.int .i64)) l_6 false,.d (.int .i64) most_4,.d (.int .i64) f_5,.d (.int .i64) n_7,.d (.int .i64) i_8,U,U,U,U,U,U,U,U,U,U,U,U,U,U,U,U,U,U,U,U,U,U,U,U,U,U,U,U,U,U,U,U,U,U]
def L43_0 (N:Nat) (n_L43_0:Nat) (x:lt6) (l_3:(List (List Int))) (most_4:Int) (f_5:Int):Out Int :=
 vloop Tryz.prog (phi specs43) hints43 N Tryz.f43 false false (.int .i64) [.at 1,.at 1,.at 1,.at 0,.at 1,.at 0] n_L43_0 [U,.d (.int .i64) x.2.1,U,.box [.d (.int .i64) x.1.1,.d ty0 x.1.2.1],U,U,U,.own (.list (.int .i64)) l_3 false,.d (.int .i64) most_4,.d (.int .i64) f_5,U,U,U,U,U,U,U,U,U,U,U,U,U,U,U,U,U,U,U,U,U,U,U,U,U,U,U,U,U,U,U,U,U,U,U,U]
theorem L43_1_succ (N:Nat) (n_L43_0:Nat) (n_L43_1:Nat) (x:lt6) (most_4:Int) (f_5:Int) (l_6:(List (List Int))) (n_7:Int) (i_8:Int):L43_1 N n_L43_0 (n_L43_1+1) x most_4 f_5 l_6 n_7 i_8 =
 (match (decide (i_8<(lenI l_6))) with|true=>bif (inb i_8 l_6.length) then bif (inb x.2.1 (List.getD l_6 i_8.toNat []).length) then match ((List.getD (List.getD l_6 i_8.toNat []) x.2.1.toNat 0)==f_5) with|true=>L43_1 N n_L43_0 n_L43_1 x most_4 f_5 l_6 (IntKind.i64.wrap (n_7+1)) (IntKind.i64.wrap (i_8+1))|false=>L43_1 N n_L43_0 n_L43_1 x most_4 f_5 l_6 n_7 (IntKind.i64.wrap (i_8+1)) else .fail else .fail|false=>L43_0 N n_L43_0 x l_6 (if n_7 > most_4 then n_7 else most_4) (IntKind.i64.wrap (f_5+1)):Out Int):=by kernel_rfl
theorem L43_0_succ (N:Nat) (n_L43_0:Nat) (x:lt6) (l_3:(List (List Int))) (most_4:Int) (f_5:Int):L43_0 N  (n_L43_0+1) x l_3 most_4 f_5 =
 (match (decide (f_5<=9)) with|true=>L43_1 N n_L43_0 N x most_4 f_5 l_3 0 0|false=>match f30 (x.1,()) with | .ret r_9=>bif ((lenI l_3) != 0) then .ret (IntKind.i64.wrap (most_4 * (IntKind.i64.wrap (r_9.tdiv (lenI l_3))))) else .fail | .pan p=>.pan p | .fail=>.fail:Out Int):=by kernel_rfl
def F43 (N:Nat) (x:lt6):Out Int:=match f67 (x.1,(x.2.2.1,())) with | .ret r_1=>L43_0 N N x r_1 0 0 | .pan p=>.pan p | .fail=>.fail
theorem e43 (N:Nat) (x:lt6):vfn Tryz.prog (phi specs43) hints43 N Tryz.f43 false false ty9 (.int .i64) x=F43 N x:=by kernel_rfl
def f43 (x:lt6):Out Int:=F43 fuel x
def sp43:Spec:=⟨43,.call,ty9,(.int .i64),false,false,f43⟩
theorem c43:Contract Tryz.prog sp43:=contract_at (l:=specs43) (arg:=ty9) (res:=(.int .i64)) (multi:=false) (own:=false) (F:=f43) mixed (all_cons c67 (all_cons c30 all_nil)) Tryz.func43 rfl hints43 fun x _=>⟨fuel,e43 fuel x⟩
def specs42:List Spec:=[sp43]
def hints42:List (Nat×List Nat):=[(3,[1,6,7,8,9,10]),(6,[1,6,7,8,9,10,11])]
def L42_1 (N:Nat) (n_L42_0:Nat) (n_L42_1:Nat) (x:lt1) (i_5:Int) (from_6:Int) (place_7:Int) (least_8:Int) (met_9:Bool) (p_10:Int):Out (Int×(Int×(Int×(Bool×Unit)))) :=
 vloop Tryz.prog (phi specs42) hints42 N Tryz.f42 true false (.prod (.int .i64) (.prod (.int .i64) (.prod (.int .i64) (.prod .bool .unit)))) [.at 1,.at 1,.at 0,.at 1,.at 0,.at n_L42_0,.at 1,.at 0,.at 0,.at 1,.at 0] n_L42_1 [U,.box [.d (.int .i64) x.1.1,.d ty0 x.1.2.1],U,U,U,U,.d (.int .i64) from_6,.d (.int .i64) place_7,.d (.int .i64) least_8,.d .bool met_9,.d (.int .i64) i_5,.d (.int .i64) p_10,U,U,U,U,U,U,U,U,U,U,U,U,U,U,U,U,U,U,U,U,U,U,U,U,U,U,U,U,U,U,U,U,U,U,U,U,U,U,U,U,U,U]
def L42_0 (N:Nat) (n_L42_0:Nat) (x:lt1) (from_1:Int) (place_2:Int) (least_3:Int) (met_4:Bool) (i_5:Int):Out (Int×(Int×(Int×(Bool×Unit)))) :=
 vloop Tryz.prog (phi specs42) hints42 N Tryz.f42 true false (.prod (.int .i64) (.prod (.int .i64) (.prod (.int .i64) (.prod .bool .unit)))) [.at 1,.at 1,.at 0,.at 1,.at 0] n_L42_0 [U,.box [.d (.int .i64) x.1.1,.d ty0 x.1.2.1],U,U,U,U,.d (.int .i64) from_1,.d (.int .i64) place_2,.d (.int .i64) least_3,.d .bool met_4,.d (.int .i64) i_5,U,U,U,U,U,U,U,U,U,U,U,U,U,U,U,U,U,U,U,U,U,U,U,U,U,U,U,U,U,U,U,U,U,U,U,U,U,U,U,U,U,U,U]
theorem L42_1_succ (N:Nat) (n_L42_0:Nat) (n_L42_1:Nat) (x:lt1) (i_5:Int) (from_6:Int) (place_7:Int) (least_8:Int) (met_9:Bool) (p_10:Int):L42_1 N n_L42_0 (n_L42_1+1) x i_5 from_6 place_7 least_8 met_9 p_10 =
 (match (decide (p_10<x.1.1)) with|true=>bif (inb i_5 x.1.2.1.length) then bif (inb p_10 ((List.getD x.1.2.1 i_5.toNat (0,([],())))).2.1.length) then match (decide ((List.getD ((List.getD x.1.2.1 i_5.toNat (0,([],())))).2.1 p_10.toNat 0) >= 0)) with|true=>L42_1 N n_L42_0 n_L42_1 x i_5 from_6 place_7 least_8 met_9 (IntKind.i64.wrap (p_10+1))|false=>match f43 (x.1,(i_5,(p_10,()))) with | .ret r_11=>(match (!met_9) with|true=>L42_1 N n_L42_0 n_L42_1 x i_5 i_5 p_10 r_11 true (IntKind.i64.wrap (p_10+1))|false=>match (decide (r_11<least_8)) with|true=>L42_1 N n_L42_0 n_L42_1 x i_5 i_5 p_10 r_11 true (IntKind.i64.wrap (p_10+1))|false=>L42_1 N n_L42_0 n_L42_1 x i_5 from_6 place_7 least_8 met_9 (IntKind.i64.wrap (p_10+1))) | .pan p=>.pan p | .fail=>.fail else .fail else .fail|false=>L42_0 N n_L42_0 x from_6 place_7 least_8 met_9 (IntKind.i64.wrap (i_5+1)):Out (Int×(Int×(Int×(Bool×Unit))))):=by kernel_rfl
theorem L42_0_succ (N:Nat) (n_L42_0:Nat) (x:lt1) (from_1:Int) (place_2:Int) (least_3:Int) (met_4:Bool) (i_5:Int):L42_0 N  (n_L42_0+1) x from_1 place_2 least_3 met_4 i_5 =
 (match (decide (i_5<(lenI x.1.2.1))) with|true=>L42_1 N n_L42_0 N x i_5 from_1 place_2 least_3 met_4 0|false=>.ret (from_1,(place_2,(least_3,(met_4,())))):Out (Int×(Int×(Int×(Bool×Unit))))):=by kernel_rfl
def F42 (N:Nat) (x:lt1):Out (Int×(Int×(Int×(Bool×Unit)))):=L42_0 N N x 0 0 0 false 0
theorem e42 (N:Nat) (x:lt1):vfn Tryz.prog (phi specs42) hints42 N Tryz.f42 true false ty2 (.prod (.int .i64) (.prod (.int .i64) (.prod (.int .i64) (.prod .bool .unit)))) x=F42 N x:=by kernel_rfl
def f42 (x:lt1):Out (Int×(Int×(Int×(Bool×Unit)))):=F42 fuel x
def sp42:Spec:=⟨42,.call,ty2,(.prod (.int .i64) (.prod (.int .i64) (.prod (.int .i64) (.prod .bool .unit)))),true,false,f42⟩
theorem c42:Contract Tryz.prog sp42:=contract_at (l:=specs42) (arg:=ty2) (res:=(.prod (.int .i64) (.prod (.int .i64) (.prod (.int .i64) (.prod .bool .unit))))) (multi:=true) (own:=false) (F:=f42) mixed (all_cons c43 all_nil) Tryz.func42 rfl hints42 fun x _=>⟨fuel,e42 fuel x⟩
end Go.V
namespace Go.V
open Go.Proofs
theorem costN_le {t:TREE} {k:Nat} (l:List Int):costN t k l<=k:=sumTo_le fun i _=>by split<;>(try split)<;>omega
theorem f66_at {t:TREE} {place:Int} (ht:TreeP t place) {l:List Int} (hl:l.length<=t.2.1.length):f66 (t,(l,())) = .ret (costN t l.length l):=by
 have hlen:=ht.len
 have loop:∀ (d n i:Nat),d<n->i+d=l.length->1<=i->L66_0 fuel n (t,(l,())) (costN t i l) i = .ret (costN t l.length l):=by
  intro d
  induction d with
  | zero =>
   intro n i hn hi h1
   obtain ⟨n,rfl⟩:=succ_of hn
   rw [L66_0_succ]
   try delta lenI
   simp only [dF (show ¬ (i:Int)<l.length by omega)]
   rw [show i=l.length by omega]
  | succ d ih =>
   intro n i hn hi h1
   obtain ⟨n,rfl⟩:=succ_of hn
   rw [L66_0_succ]
   try delta lenI
   have hp:=ht.par i h1 (by omega)
   have hpi:(List.getD t.2.1 i ((0:Int),(([]:List Int),()))).1=parentAt t i:=rfl
   simp only [dT (show (i:Int)<l.length by omega),inbT (show (0:Int)<=i by omega) (show (i:Int)<l.length by omega),inbT (show (0:Int)<=i by omega) (show (i:Int)<t.2.1.length by omega),hpi,
    inbT hp.1 (show parentAt t i<l.length by omega),cond_true,Int.toNat_natCast,wn (show i<1000000000 by omega)]
   have e:costN t (i+1) l=costN t i l+(if l.getD i 0=l.getD (parN t i) 0 then 0 else 1):=by
    show costN t i l+(if i=0 then 0 else if l.getD i 0=l.getD (parN t i) 0 then 0 else 1)=_
    rw [if_neg (by omega)]
   have hc:=costN_nonneg (t:=t) (k:=i) l
   have hc2:=costN_le (t:=t) (k:=i) l
   by_cases hq:l.getD i 0=l.getD (parN t i) 0
   . have hq':l.getD i 0=l.getD (parentAt t i).toNat 0:=hq
     rw [if_pos hq,Int.add_zero] at e
     simp only [nF hq']
     rw [<- e]
     exact ih n (i+1) (by omega) (by omega) (by omega)
   . have hq':l.getD i 0≠l.getD (parentAt t i).toNat 0:=hq
     rw [if_neg hq] at e
     simp only [nT hq']
     rw [wr (by omega) (by omega),<- e]
     exact ih n (i+1) (by omega) (by omega) (by omega)
 show L66_0 fuel fuel (t,(l,())) 0 1=_
 have hfb:=fuel_big
 by_cases h0:l.length=0
 . obtain ⟨n,hn⟩:=succ_of (show 0<fuel by omega)
   conv=>lhs;rw [hn]
   rw [<- hn]
   have:L66_0 fuel (n+1) (t,(l,())) 0 1 = .ret (0:Int):=by
    rw [L66_0_succ]
    try delta lenI
    simp only [h0,dF (show ¬ (1:Int)<((0:Nat):Int) by omega)]
   rw [<- hn] at this
   rw [this,h0]
   rfl
 . have:=loop (l.length - 1) fuel 1 (by omega) (by omega) (Nat.le_refl _)
   exact this
theorem metTo_succ (t:TREE) (place:Int) (k:Nat):metTo t place (k+1)=metTo t place k++(if hasF t place k then [(k:Int)] else []):=by
 unfold metTo
 rw [List.range_succ,List.map_append,List.filter_append]
 congr 1
 simp only [List.map_cons,List.map_nil,List.filter_cons,List.filter_nil]
theorem metTo_len (t:TREE) (place:Int) (k:Nat):(metTo t place k).length<=k:=by
 unfold metTo
 refine Nat.le_trans (List.length_filter_le _ _) ?_
 simp
theorem f105_at {t:TREE} {place:Int} (ht:TreeP t place):f105 (t,(place,())) = .ret (readF t place):=by
 have hlen:=ht.len
 have hfb:=fuel_big
 have inner:∀ (n0 f:Nat),f<=9->∀ (d n i:Nat),d<n->i+d=t.2.1.length ->
  L105_1 fuel n0 n (t,(place,())) f (metTo t place f) (allTo f) ((List.range i).any fun j=>seenAt t j place==(f:Int)) i=L105_0 fuel n0 (t,(place,())) (metTo t place (f+1)) (allTo (f+1)) ((f+1:Nat):Int):=by
  intro n0 f hf d
  induction d with
  | zero =>
   intro n i hn hi
   obtain ⟨n,rfl⟩:=succ_of hn
   rw [L105_1_succ]
   try delta lenI
   obtain rfl:i=t.2.1.length:=by omega
   have hm:=metTo_len t place f
   have ha:=allTo_len f
   simp only [dF (show ¬ ((t.2.1.length:Nat):Int)<t.2.1.length by omega),fitsT (show (metTo t place f).length+[(f:Int)].length<1000000 by simp;omega),fitsT (show (allTo f).length+[(f:Int)].length<1000000 by simp;omega),cond_true,wn (show f<1000000000 by omega)]
   rw [metTo_succ,allTo_succ]
   unfold hasF
   cases (List.range t.2.1.length).any fun j=>seenAt t j place==(f:Int) with
   | true=>rfl
   | false=>simp
  | succ d ih =>
   intro n i hn hi
   obtain ⟨n,rfl⟩:=succ_of hn
   rw [L105_1_succ]
   try delta lenI
   have hs:=ht.seen i (by omega)
   have hstep:((List.range (i+1)).any fun j=>seenAt t j place==(f:Int))=(((List.range i).any fun j=>seenAt t j place==(f:Int)) || (seenAt t i place==(f:Int))):=by
    rw [List.range_succ,List.any_append]
    simp
   have hih:=ih n (i+1) (by omega) (by omega)
   rw [hstep] at hih
   have e:((List.getD t.2.1 i ((0:Int),(([]:List Int),()))).2.1).getD place.toNat 0=seenAt t i place:=by unfold seenAt;rw [Int.toNat_natCast]
   simp only [dT (show (i:Int)<t.2.1.length by omega),inbT (show (0:Int)<=i by omega) (show (i:Int)<t.2.1.length by omega),Int.toNat_natCast,inbT ht.pos hs,cond_true,wn (show i<1000000000 by omega),e]
   cases hc:(List.range i).any fun j=>seenAt t j place==(f:Int) with
   | true =>
    rw [hc,Bool.true_or] at hih
    exact hih
   | false =>
    rw [hc,Bool.false_or] at hih
    exact hih
 have outer:∀ (d n f:Nat),d<n->f+d=10->L105_0 fuel n (t,(place,())) (metTo t place f) (allTo f) f = .ret (readF t place):=by
  intro d
  induction d with
  | zero =>
   intro n f hn hf
   obtain ⟨n,rfl⟩:=succ_of hn
   obtain rfl:f=10:=by omega
   rw [L105_0_succ]
   try delta lenI
   simp only [dF (show ¬ ((10:Nat):Int)<=9 by omega)]
   unfold readF
   by_cases hm:metTo t place 10=[]
   . rw [if_pos hm]
     simp only [hm,List.length_nil]
     rfl
   . have:((metTo t place 10).length:Int)≠0:=fun h=>hm (List.eq_nil_of_length_eq_zero (by omega))
     rw [if_neg hm]
     simp only [eF this]
  | succ d ih =>
   intro n f hn hf
   obtain ⟨n,rfl⟩:=succ_of hn
   rw [L105_0_succ]
   try delta lenI
   simp only [dT (show (f:Int)<=9 by omega)]
   rw [show (false:Bool)=((List.range 0).any fun j=>seenAt t j place==(f:Int)) from rfl]
   exact (inner n f (by omega) t.2.1.length fuel 0 (by omega) (by omega)).trans (ih n (f+1) (by omega) (by omega))
 exact outer 10 fuel 0 (by omega) rfl
theorem flat_take {α:Type} {F:Int->List α} {S:List Int} {i:Nat} (h:i<S.length):(S.take (i+1)).flatMap F=(S.take i).flatMap F++F (S.getD i 0):=by
 have e:S.take (i+1)=S.take i++[S.getD i 0]:=by
  rw [List.take_succ,List.getElem?_eq_getElem h,List.getD_eq_getElem?_getD,List.getElem?_eq_getElem h];rfl
 rw [e,List.flatMap_append]
 simp
theorem flat_take_le {α:Type} {F:Int->List α} {S:List Int} (i:Nat):((S.take i).flatMap F).length<=(S.flatMap F).length:=by
 conv=>rhs;rw [<- List.take_append_drop i S]
 rw [List.flatMap_append,List.length_append]
 omega
theorem f104_at {t:TREE} {place most:Int} (ht:TreeP t place) {S:List Int} (hS:S.length<=100) (hB:∀ k now,now.length+k=t.2.1.length->(prune (okC t place most) S k now).length<=1000) :
 ∀ (k m:Nat) (now:List Int),k<m->now.length+k=t.2.1.length->f104r m (t,(place,(now,(S,(most,()))))) = .ret (if costN t now.length now > most then [] else prune (okC t place most) S k now):=by
 intro k
 have hlen:=ht.len
 have hfb:=fuel_big
 induction k with
 | zero =>
  intro m now hm hk
  obtain ⟨m,rfl⟩:=succ_of hm
  show F104 (f104r m) fuel _=_
  unfold F104
  try delta lenI
  simp only [f66_at ht (l:=now) (by omega),eT (show (now.length:Int)=t.2.1.length by omega)]
  by_cases hc:costN t now.length now > most
  . simp only [dT hc,if_pos hc]
  . simp only [dF hc,if_neg hc,prune]
 | succ k ih =>
  intro m now hm hk
  obtain ⟨m,rfl⟩:=succ_of hm
  have hs:=ht.seen now.length (by omega)
  have hin:inb (now.length:Int) t.2.1.length=true:=inbT (by omega) (by omega)
  show F104 (f104r m) fuel _=_
  unfold F104
  try delta lenI
  simp only [f66_at ht (l:=now) (by omega),eF (show (now.length:Int)≠t.2.1.length by omega),hin,Int.toNat_natCast,inbT ht.pos hs,cond_true]
  by_cases hc:costN t now.length now > most
  . simp only [dT hc,if_pos hc]
  . simp only [dF hc,if_neg hc]
    obtain ⟨F,hF⟩:∃ F:Int->List (List Int),F=fun g=>if okC t place most now g then prune (okC t place most) S k (now++[g]) else []:=⟨_,rfl⟩
    have hall:prune (okC t place most) S (k+1) now=S.flatMap F:=by rw [hF];rfl
    have hb:=hB (k+1) now hk
    rw [hall] at hb ⊢
    have hown:((List.getD t.2.1 now.length ((0:Int),(([]:List Int),()))).2.1).getD place.toNat 0=seenAt t now.length place:=by unfold seenAt;rw [Int.toNat_natCast]
    have loop:∀ (d n i:Nat),d<n->i+d=S.length->L104_0 (f104r m) fuel n (t,(place,(now,(S,(most,()))))) ((S.take i).flatMap F) i = .ret (S.flatMap F):=by
     intro d
     induction d with
     | zero =>
      intro n i hn hi
      obtain ⟨n,rfl⟩:=succ_of hn
      rw [L104_0_succ]
      try delta lenI
      simp only [dF (show ¬ (i:Int)<S.length by omega)]
      rw [List.take_of_length_le (by omega)]
     | succ d ihd =>
      intro n i hn hi
      obtain ⟨n,rfl⟩:=succ_of hn
      rw [L104_0_succ]
      try delta lenI
      have hnext:=ihd n (i+1) (by omega) (by omega)
      rw [flat_take (by omega)] at hnext
      have hle:=flat_take_le (F:=F) (S:=S) (i+1)
      rw [flat_take (by omega),List.length_append] at hle
      have hcall:f104r m (t,(place,(now++[S.getD i 0],(S,(most,()))))) = .ret (if costN t (now.length+1) (now++[S.getD i 0]) > most then [] else prune (okC t place most) S k (now++[S.getD i 0])):=by
       have:=ih m (now++[S.getD i 0]) (by omega) (by simp;omega)
       rw [this,List.length_append];rfl
      have hiS:inb (i:Int) S.length=true:=inbT (by omega) (by omega)
      have hf1:fits ([]:List Int) now=true:=fitsT (by simp;omega)
      have hf2:fits now [S.getD i 0]=true:=fitsT (by simp;omega)
      have hfo:∀ g:List (List Int),g=F (S.getD i 0)->fits ((S.take i).flatMap F) g=true:=fun g hg=>fitsT (by rw [hg];omega)
      simp only [dT (show (i:Int)<S.length by omega),Int.toNat_natCast,hown,hf1,hiS,cond_true,hf2,hcall,wn (show i<1000000000 by omega)]
      by_cases ho:seenAt t now.length place<0
      . have hFg:(if costN t (now.length+1) (now++[S.getD i 0]) > most then [] else prune (okC t place most) S k (now++[S.getD i 0]))=F (S.getD i 0):=by
         rw [hF]
         dsimp only
         by_cases hq:costN t (now.length+1) (now++[S.getD i 0]) > most
         . rw [if_pos hq,if_neg fun h=>by have:=(okC_iff.1 h).2;omega]
         . rw [if_neg hq,if_pos (okC_iff.2 ⟨.inl ho,by omega⟩)]
        simp only [dT ho,hFg,hfo _ rfl,cond_true]
        exact hnext
      . simp only [dF ho]
        by_cases hg:S.getD i 0=seenAt t now.length place
        . have hFg:(if costN t (now.length+1) (now++[S.getD i 0]) > most then [] else prune (okC t place most) S k (now++[S.getD i 0]))=F (S.getD i 0):=by
           rw [hF]
           dsimp only
           by_cases hq:costN t (now.length+1) (now++[S.getD i 0]) > most
           . rw [if_pos hq,if_neg fun h=>by have:=(okC_iff.1 h).2;omega]
           . rw [if_neg hq,if_pos (okC_iff.2 ⟨.inr hg,by omega⟩)]
          simp only [eT hg,hFg,hfo _ rfl,cond_true]
          exact hnext
        . have hFg:F (S.getD i 0)=[]:=by
           rw [hF]
           dsimp only
           rw [if_neg fun h=>(okC_iff.1 h).1.elim (fun h=>ho h) fun h=>hg h]
          rw [hFg,List.append_nil] at hnext
          simp only [eF hg]
          exact hnext
    exact loop S.length fuel 0 (by omega) (by omega)
end Go.V
namespace Go.V
open Go.Proofs
open Classical in
theorem doc_few {t:TREE} {place most:Int} (ht:TreeP t place) (h:most<errsT t place):prune (okC t place most) (readF t place) t.2.1.length []=[]:=by
 rw [doc_cols ht]
 refine List.filter_eq_nil_iff.2 fun l _=>?_
 rw [decide_eq_true_eq]
 rintro ⟨h1,h2,_⟩
 obtain ⟨l',h3,h4⟩:=errs_eq ht.ground
 have:=h3.few l h1
 omega
theorem f67_at {t:TREE} {place:Int} (ht:TreeP t place):f67 (t,(place,())) = .ret (storT t place):=by
 have hfb:=fuel_big
 have hb:=errs_bd ht
 have hlen:=ht.len
 have hgo:∀ most:Int,0<=most->(metTo t place 10≠[]\/most=0)->f104 (t,(place,(([]:List Int),(readF t place,(most,()))))) = .ret (prune (okC t place most) (readF t place) t.2.1.length []):=fun most h0 hm=>by
  have:=f104_at (most:=most) ht (S:=readF t place) (by have:=readF_len t place;omega) (fun k now hk=>by have:=prune_few ht hm k now hk;omega) t.2.1.length fuel [] (by omega) (by simp)
  refine Eq.trans this ?_
  have e:costN t ([]:List Int).length []=0:=rfl
  rw [e,if_neg (by omega)]
 have loop:∀ (d n i:Nat),d<n->(i:Int)+d=errsT t place->L67_0 fuel n (t,(place,())) i = .ret (storT t place):=by
  intro d
  induction d with
  | zero =>
   intro n i hn hi
   obtain ⟨n,rfl⟩:=succ_of hn
   rw [L67_0_succ]
   try delta lenI
   have hi':(i:Int)=errsT t place:=by omega
   have hg:=hgo i (by omega) (by
    by_cases h:metTo t place 10=[]
    . exact .inr (by rw [hi'];exact errs_none ht h)
    . exact .inl h)
   rw [hi',doc_best ht] at hg
   have hpos:0<(storT t place).length:=List.length_pos_iff.2 (stor_ne ht)
   simp only [f105_at ht,hi',hg,dT (show ((storT t place).length:Int) > 0 by omega)]
  | succ d ih =>
   intro n i hn hi
   obtain ⟨n,rfl⟩:=succ_of hn
   rw [L67_0_succ]
   try delta lenI
   have hg:=hgo i (by omega) (by
    by_cases h:metTo t place 10=[]
    . have:=errs_none ht h;omega
    . exact .inl h)
   rw [doc_few ht (by omega)] at hg
   simp only [f105_at ht,hg,List.length_nil,wn (show i<1000000000 by omega)]
   exact ih n (i+1) (by omega) (by omega)
 exact loop (errsT t place).toNat fuel 0 (by omega) (by omega)
end Go.V
namespace Go.V
open Go.Proofs
theorem f13_at (t:TREE):∃ b,f13 (t,()) = .ret b:=by
 have hfb:=fuel_big
 unfold f13 F13
 have done:∀ n i:Nat,¬ (i:Int)<t.2.1.length\/¬ i<10->∃ b,L13_0 fuel (n+1) (t,()) i = .ret b:=fun n i h=>by
  rw [L13_0_succ]
  try delta lenI
  by_cases h1:(i:Int)<t.2.1.length
  . have h2:¬ (i:Int)<10:=by rcases h with h|h<;>omega
    simp only [dT h1,dF h2]
    exact ⟨_,rfl⟩
  . simp only [dF h1]
    exact ⟨_,rfl⟩
 have loop:∀ (d n i:Nat),d<n->i+d=10->∃ b,L13_0 fuel n (t,()) i = .ret b:=by
  intro d
  induction d with
  | zero =>
   intro n i hn hi
   obtain ⟨n,rfl⟩:=succ_of hn
   exact done n i (.inr (by omega))
  | succ d ih =>
   intro n i hn hi
   obtain ⟨n,rfl⟩:=succ_of hn
   by_cases h1:(i:Int)<t.2.1.length
   . rw [L13_0_succ]
     try delta lenI
     simp only [dT h1,dT (show (i:Int)<10 by omega),inbT (show (0:Int)<=i by omega) h1,cond_true,wn (show i<1000000000 by omega)]
     split
     . exact ⟨_,rfl⟩
     . exact ih n (i+1) (by omega) (by omega)
   . exact done n i (.inl h1)
 exact loop 10 fuel 0 (by omega) (by omega)
end Go.V
namespace Go.V
open Go.Proofs
theorem TreeOK.t17 {t:TREE} (h:TreeOK t):f17 (t,()) = .ret true:=by
 rcases tree_ret (t:=t) with ⟨_,h1,_⟩|⟨h1,_⟩
 . exact h1
 . exact absurd h h1
theorem no17 {t:TREE} (h:¬ TreeOK t):f17 (t,()) = .ret false:=by
 rcases tree_ret (t:=t) with ⟨h1,_⟩|⟨_,h1,_⟩
 . exact absurd h1 h
 . exact h1
theorem no55 {t:TREE} (h:¬ TreeOK t):f55 (t,()) = .ret false:=by
 rcases tree_ret (t:=t) with ⟨h1,_⟩|⟨_,_,h1⟩
 . exact absurd h1 h
 . exact h1
theorem f30_at {t:TREE} (ht:TreeOK t):f30 (t,()) = .ret (cntT t (-1)):=by
 have hfb:=fuel_big
 obtain ⟨P,hP,hP1,hP3⟩:=ht.pl
 unfold f30 F30
 have key:=runL (L:=fun n p=>L30_0 fuel n (t,()) (cntTo t (-1) p) p) (len:=P) (K:=.ret (cntT t (-1))) (fun n p hp=>?_) (fun n=>?_) P fuel 0 (by omega) (by omega)
 . exact key
 . try dsimp only
   rw [L30_0_succ]
   try delta lenI
   have hT:=ht.treeP (place:=p) (by omega) (by omega)
   have hs:=cnt_step ht (-1) (k:=p) (by omega)
   simp only [dT (show (p:Int)<t.1 by omega),f67_at hT,wn (show p<1000000000 by omega)]
   rw [show cntTo t (-1) (p+1)=cntTo t (-1) p * (storT t p).length by rw [cntTo,if_neg (by omega)],wr (by omega) (by omega)]
 . try dsimp only
   rw [L30_0_succ]
   simp only [dF (show ¬ ((P:Nat):Int)<t.1 by omega)]
   rw [show cntT t (-1)=cntTo t (-1) P by unfold cntT;rw [show t.1.toNat=P by omega]]
end Go.V
namespace Go.V
open Go.Proofs
theorem cnt_but (t:TREE) (p:Nat):∀ k:Nat,cntTo t (-1) k=if p<k then cntTo t p k * (storT t p).length else cntTo t p k
 | 0=>by rw [if_neg (by omega)];rfl
 | k+1=>by
  have ih:=cnt_but t p k
  have e1:cntTo t (-1) (k+1)=cntTo t (-1) k * (storT t k).length:=by rw [cntTo,if_neg (by omega)]
  rw [e1,ih]
  by_cases e:k=p
  . subst e
    rw [if_neg (by omega),if_pos (by omega),cntTo,if_pos rfl]
  . have e2:cntTo t p (k+1)=cntTo t p k * (storT t k).length:=by rw [cntTo,if_neg (by omega)]
    rw [e2]
    by_cases h:p<k
    . rw [if_pos h,if_pos (by omega),Int.mul_assoc,Int.mul_assoc,Int.mul_comm ((storT t p).length:Int)]
    . rw [if_neg h,if_neg (by omega)]
theorem cntT_but {t:TREE} {p:Nat} (hp:(p:Int)<t.1):cntT t (-1)=cntT t p * (storT t p).length:=by
 unfold cntT
 rw [cnt_but t p,if_pos (by omega)]
theorem f43_at {t:TREE} (ht:TreeOK t) {i p:Nat} (hi:i<t.2.1.length) (hp:(p:Int)<t.1):f43 (t,((i:Int),((p:Int),()))) = .ret (leftT t i p):=by
 have hfb:=fuel_big
 have hc:=ht.copies
 have hT:=ht.treeP (place:=p) (by omega) hp
 have hsl:=stor_len hT
 have hn:0<(storT t p).length:=List.length_pos_iff.2 (stor_ne hT)
 unfold f43 F43
 simp only [f67_at hT]
 have key:=runL (L:=fun n f=>L43_0 fuel n (t,((i:Int),((p:Int),()))) (storT t p) (mostTo t i p f) f) (len:=10) (K:=.ret (leftT t i p)) (fun n f hf=>?_) (fun n=>?_) 10 fuel 0 (by omega) (by omega)
 . exact key
 . try dsimp only
   rw [L43_0_succ]
   simp only [dT (show (f:Int)<=9 by omega)]
   have inner:=runL (L:=fun n1 j=>L43_1 fuel n n1 (t,((i:Int),((p:Int),()))) (mostTo t i p f) f (storT t p) (cntJ t i p j f) j) (len:=(storT t p).length) (K:=L43_0 fuel n (t,((i:Int),((p:Int),()))) (storT t p) (mostTo t i p (f+1)) ((f+1:Nat):Int)) (fun n1 j hj=>?_) (fun n1=>?_) (storT t p).length fuel 0 (by omega) (by omega)
   . exact inner
   . try dsimp only
     rw [L43_1_succ]
     try delta lenI
     have hw:=stor_wide hT hj
     have hk:((storT t p).take j).countP (fun l=>decide (l.getD i 0=(f:Int)))<=1000:=Nat.le_trans List.countP_le_length (by rw [List.length_take];omega)
     have e:cntJ t i p (j+1) f=cntJ t i p j f+if ((storT t p).getD j []).getD i 0=(f:Int) then 1 else 0:=by
      unfold cntJ
      rw [take_count (z:=[]) hj]
      by_cases g:((storT t p).getD j []).getD i 0=(f:Int)
      . rw [dT g,if_pos g];rfl
      . rw [dF g,if_neg g];rfl
     rw [e]
     have hk2:0<=cntJ t i p j f/\cntJ t i p j f<=1000:=by unfold cntJ;omega
     simp only [Int.toNat_natCast,dT (show (j:Int)<(storT t p).length by omega),inbT (show (0:Int)<=j by omega) (show (j:Int)<(storT t p).length by omega),inbT (show (0:Int)<=i by omega) (show (i:Int)<((storT t p).getD j []).length by omega),cond_true,wn (show j<1000000000 by omega)]
     by_cases g:((storT t p).getD j []).getD i 0=(f:Int)
     . simp only [eT g,if_pos g]
       rw [wr (by omega) (by omega)]
     . simp only [eF g,if_neg g,Int.add_zero]
   . try dsimp only
     rw [L43_1_succ]
     try delta lenI
     have e:cntJ t i p (storT t p).length f=cntF t i p f:=by unfold cntJ cntF;rw [List.take_length]
     simp only [dF (show ¬ (((storT t p).length:Nat):Int)<(storT t p).length by omega),e,wn (show f<1000000000 by omega)]
     rfl
 . try dsimp only
   rw [L43_0_succ]
   try delta lenI
   have hb:=cntT_bd ht p
   have hb2:=left_bd ht (i:=i) hp
   simp only [dF (show ¬ (((10:Nat):Int)<=9) by omega),f30_at ht,nT (show ((storT t p).length:Int)≠0 by omega),cond_true]
   rw [cntT_but hp,Int.mul_tdiv_cancel _ (show ((storT t p).length:Int)≠0 by omega),wr (x:=cntT t p) (by omega) (by omega)]
   show Out.ret (IntKind.i64.wrap (leftT t i p))=_
   rw [wr (by omega) (by omega)]
theorem seen_lo {t:TREE} (ht:TreeOK t) {i p:Nat} (hi:i<t.2.1.length) (hp:(p:Int)<t.1) : -1<=seenAt t i p/\seenAt t i p<=9:=(ht.treeP (place:=p) (by omega) hp).figs i hi
theorem f42_at {t:TREE} (ht:TreeOK t):f42 (t,()) = .ret ((nextT t).1.1,((nextT t).1.2.1,((nextT t).1.2.2.1,((nextT t).2,())))):=by
 have hfb:=fuel_big
 have hc:=ht.copies
 obtain ⟨P,hP,hP1,hP3⟩:=ht.pl
 have hPt:t.1.toNat=P:=by omega
 let B:Nat->Nat->UNR×Bool:=fun i p=>bestF (unrTo t P i++unrRow t p i)
 have hB0:∀ i,B (i+1) 0=B i P:=fun i=>by
  show bestF (unrTo t P (i+1)++unrRow t 0 (i+1))=bestF (unrTo t P i++unrRow t P i)
  rw [show unrTo t P (i+1)=unrTo t P i++unrRow t P i from flatMap_succ _ _,show unrRow t 0 (i+1)=[] from rfl,List.append_nil]
 unfold f42 F42
 have key:=runL (L:=fun n i=>L42_0 fuel n (t,()) (B i 0).1.1 (B i 0).1.2.1 (B i 0).1.2.2.1 (B i 0).2 i) (len:=t.2.1.length) (K:=.ret ((nextT t).1.1,((nextT t).1.2.1,((nextT t).1.2.2.1,((nextT t).2,()))))) (fun n i hi=>?_) (fun n=>?_) t.2.1.length fuel 0 (by omega) (by omega)
 . exact key
 . try dsimp only
   rw [L42_0_succ]
   try delta lenI
   simp only [dT (show (i:Int)<t.2.1.length by omega)]
   have inner:=runL (L:=fun n1 p=>L42_1 fuel n n1 (t,()) i (B i p).1.1 (B i p).1.2.1 (B i p).1.2.2.1 (B i p).2 p) (len:=P) (K:=L42_0 fuel n (t,()) (B (i+1) 0).1.1 (B (i+1) 0).1.2.1 (B (i+1) 0).1.2.2.1 (B (i+1) 0).2 ((i+1:Nat):Int)) (fun n1 p hp=>?_) (fun n1=>?_) P fuel 0 (by omega) (by omega)
   . exact inner
   . try dsimp only
     rw [L42_1_succ]
     try delta lenI
     have hl:((t.2.1.getD i NODE0).2.1.length:Int)=t.1:=(ht.node i hi).len
     have es:(t.2.1.getD i NODE0).2.1.getD p 0=seenAt t i p:=(seenAt_node t i p).symm
     have hs:=seen_lo ht hi (p:=p) (by omega)
     have eB:B i (p+1)=if seenAt t i p = -1 then bstep (B i p) ((i:Int),((p:Int),(leftT t i p,()))) else B i p:=by
      show bestF (unrTo t P i++unrRow t (p+1) i)=_
      rw [show unrRow t (p+1) i=unrRow t p i++unrCell t i p from flatMap_succ _ _,<- List.append_assoc]
      unfold unrCell
      split
      . rw [bestF_snoc]
      . rw [List.append_nil]
     simp only [dT (show (p:Int)<t.1 by omega),inbT (show (0:Int)<=i by omega) (show (i:Int)<t.2.1.length by omega),Int.toNat_natCast,inbT (show (0:Int)<=p by omega) (show (p:Int)<(t.2.1.getD i NODE0).2.1.length by omega),cond_true,es,wn (show p<1000000000 by omega)]
     rw [eB]
     by_cases g:seenAt t i p = -1
     . simp only [dF (show ¬ seenAt t i p >= 0 by omega),f43_at ht hi (p:=p) (by omega),if_pos g]
       unfold bstep
       cases hm:(B i p).2 with
       | false =>
        simp only [Bool.not_false]
        rw [if_pos (.inl trivial)]
       | true =>
        simp only [Bool.not_true]
        by_cases g2:leftT t i p<(B i p).1.2.2.1
        . simp only [dT g2]
          rw [if_pos (.inr g2)]
        . simp only [dF g2]
          rw [if_neg fun h=>h.elim (fun h=>by cases h) g2,hm]
     . simp only [dT (show seenAt t i p >= 0 by omega),if_neg g]
   . try dsimp only
     rw [L42_1_succ]
     simp only [dF (show ¬ ((P:Nat):Int)<t.1 by omega),wn (show i<1000000000 by omega)]
     rw [hB0]
 . try dsimp only
   rw [L42_0_succ]
   try delta lenI
   simp only [dF (show ¬ ((t.2.1.length:Nat):Int)<t.2.1.length by omega)]
   have e:B t.2.1.length 0=nextT t:=by
    show bestF (unrTo t P t.2.1.length++unrRow t 0 t.2.1.length)=bestF (unrT t)
    rw [show unrRow t 0 t.2.1.length=[] from rfl,List.append_nil]
    unfold unrT
    rw [hPt]
   rw [e]
theorem f41_no {t:TREE} (h:¬ TreeOK t):f41 (t,()) = .ret (0,(0,(0,(2,())))):=by
 unfold f41 F41
 simp only [no55 h,Bool.not_false]
 rfl
end Go.V
namespace Go.V
open Go.Proofs
@[irreducible] def f13v:lt1->Out Bool:=veil f13
theorem f13v_eq:f13v=f13:=by unfold f13v;exact veil_eq f13
def sp13v:Spec:=⟨13,.call,ty2,.bool,false,false,f13v⟩
theorem c13v:Contract Tryz.prog sp13v:=by
 unfold sp13v
 rw [f13v_eq]
 exact c13
@[irreducible] def f17v:lt1->Out Bool:=veil f17
theorem f17v_eq:f17v=f17:=by unfold f17v;exact veil_eq f17
def sp17v:Spec:=⟨17,.call,ty2,.bool,false,false,f17v⟩
theorem c17v:Contract Tryz.prog sp17v:=by
 unfold sp17v
 rw [f17v_eq]
 exact c17
@[irreducible] def f42v:lt1->Out (Int×(Int×(Int×(Bool×Unit)))):=veil f42
theorem f42v_eq:f42v=f42:=by unfold f42v;exact veil_eq f42
def sp42v:Spec:=⟨42,.call,ty2,(.prod (.int .i64) (.prod (.int .i64) (.prod (.int .i64) (.prod .bool .unit)))),true,false,f42v⟩
theorem c42v:Contract Tryz.prog sp42v:=by
 unfold sp42v
 rw [f42v_eq]
 exact c42
end Go.V
namespace Go.V
open Go.Proofs
theorem b22:((2:Int)==2)=true:=rfl
theorem b55:((5:Int)==5)=true:=rfl
theorem b00:((0:Int)==0)=true:=rfl
theorem nt:(!true)=false:=rfl
theorem nf:(!false)=true:=rfl
end Go.V
namespace Go.V
open Go.Proofs
def specs9:List Spec:=[sp13v,sp14v,sp41v,sp17v,sp42v]
def hints9:List (Nat×List Nat):=[]
def F9 (N:Nat) (x:lt1):Out Bool:=match f13v (x.1,()) with | .ret r_1=>(match (!r_1) with|true=>(match f14v () with | .ret r=>.ret r | .pan p=>.pan p | .fail=>.fail)|false=>match f41v (x.1,()) with | .ret r_5=>(match f17v (x.1,()) with | .ret r_7=>(match (!r_7) with|true=>(match (r_5.2.2.2.1==2) with|true=>(match (r_5.1==0) with|true=>(match (r_5.2.1==0) with|true=>(match (r_5.2.2.1==0) with|true=>(match f14v () with | .ret r=>.ret r | .pan p=>.pan p | .fail=>.fail)|false=>.ret false)|false=>.ret false)|false=>.ret false)|false=>.ret false)|false=>match f42v (x.1,()) with | .ret r_11=>(match (!r_11.2.2.2.1) with|true=>(match (r_5.2.2.2.1==5) with|true=>(match (r_5.1==0) with|true=>(match (r_5.2.1==0) with|true=>(match (r_5.2.2.1==0) with|true=>(match f14v () with | .ret r=>.ret r | .pan p=>.pan p | .fail=>.fail)|false=>.ret false)|false=>.ret false)|false=>.ret false)|false=>.ret false)|false=>match (r_5.2.2.2.1==0) with|true=>(match (r_5.1==r_11.1) with|true=>(match (r_5.2.1==r_11.2.1) with|true=>(match (r_5.2.2.1==r_11.2.2.1) with|true=>(match f14v () with | .ret r=>.ret r | .pan p=>.pan p | .fail=>.fail)|false=>.ret false)|false=>.ret false)|false=>.ret false)|false=>.ret false) | .pan p=>.pan p | .fail=>.fail) | .pan p=>.pan p | .fail=>.fail) | .pan p=>.pan p | .fail=>.fail) | .pan p=>.pan p | .fail=>.fail
theorem e9 (N:Nat) (x:lt1):vfn Tryz.prog (phi specs9) hints9 N Tryz.f9 false false ty2 .bool x=F9 N x:=by kernel_rfl
def f9 (x:lt1):Out Bool:=F9 fuel x
def sp9:Spec:=⟨9,.call,ty2,.bool,false,false,f9⟩
theorem c9:Contract Tryz.prog sp9:=contract_at (l:=specs9) (arg:=ty2) (res:=.bool) (multi:=false) (own:=false) (F:=f9) mixed (all_cons c13v (all_cons c14v (all_cons c41v (all_cons c17v (all_cons c42v all_nil))))) Tryz.func9 rfl hints9 fun x _=>⟨fuel,e9 fuel x⟩
end Go.V
namespace Go.V
open Go.Proofs
theorem law9 (t:TREE):f9 (t,()) = .ret true:=by
 show F9 fuel (t,())=_
 unfold F9
 obtain ⟨c,h13⟩:=f13_at t
 simp only [f13v_eq,f41v_eq,f17v_eq,f42v_eq,h13]
 cases c with
 | false=>simp only [nf,known_true]
 | true =>
  simp only [nt]
  by_cases ht:TreeOK t
  rotate_left
  . simp only [f41_no ht,no17 ht,nf,b22,b00,known_true]
  simp only [f41_at ht,ht.t17,nt,f42_at ht]
  unfold nextR
  cases h:(nextT t).2 with
  | false=>simp only [Bool.false_eq_true,if_false,nf,b55,b00,known_true]
  | true=>simp only [if_true,nt,b00,beq_self_eq_true,known_true]
end Go.V
end
