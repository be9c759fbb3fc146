/- What law 7 of the copies needs beyond what all laws need: functions read, and the plain law. -/
import Derived.Test.YtmkbnifehdhbbaaGreatDoorQL
import Derived.Test.YtmkbnifehdhbbaaGreatDoorCR2
import Derived.Test.YtmkbnifehdhbbaaGreatDoorCRA
set_option linter.all false
noncomputable section
namespace Go.V
open Go.Proofs
def specs13:List Spec:=[]
def hints13:List (Nat×List Nat):=[(2,[1,3])]
def L13_0 (N:Nat) (n_L13_0:Nat) (x:lt1) (i_1:Int):Out Bool :=
 vloop Tryz.prog (phi specs13) hints13 N Tryz.f13 false false .bool [.at 1,.at 0,.at 1,.at 0] n_L13_0 [U,.box [.d (.int .i64) x.1.1,.d ty0 x.1.2.1],U,.d (.int .i64) i_1,U,U,U,U,U,U,U,U,U,U,U,U,U,U,U,U,U,U,U,U,U,U,U]
theorem L13_0_succ (N:Nat) (n_L13_0:Nat) (x:lt1) (i_1:Int):L13_0 N  (n_L13_0+1) x i_1 =
 (match (decide (i_1<(lenI x.1.2.1))) with|true=>(match (decide (i_1<10)) with|true=>bif (inb i_1 x.1.2.1.length) then match (decide ((lenI ((List.getD x.1.2.1 i_1.toNat (0,([],())))).2.1) > 5)) with|true=>.ret false|false=>L13_0 N n_L13_0 x (IntKind.i64.wrap (i_1+1)) else .fail|false=>.ret (decide ((lenI x.1.2.1)<=10)))|false=>.ret (decide ((lenI x.1.2.1)<=10)):Out Bool):=by kernel_rfl
def F13 (N:Nat) (x:lt1):Out Bool:=L13_0 N N x 0
theorem e13 (N:Nat) (x:lt1):vfn Tryz.prog (phi specs13) hints13 N Tryz.f13 false false ty2 .bool x=F13 N x:=by kernel_rfl
def f13 (x:lt1):Out Bool:=F13 fuel x
def sp13:Spec:=⟨13,.call,ty2,.bool,false,false,f13⟩
theorem c13:Contract Tryz.prog sp13:=contract_at (l:=specs13) (arg:=ty2) (res:=.bool) (multi:=false) (own:=false) (F:=f13) mixed all_nil Tryz.func13 rfl hints13 fun x _=>⟨fuel,e13 fuel x⟩
def specs61:List Spec:=[]
def hints61:List (Nat×List Nat):=[]
theorem e61 (N:Nat) (x:(Int×(Int×(Int×Unit)))):vfn Tryz.prog (phi specs61) hints61 N Tryz.f61 false false ty10 .bool x=F61 N x:=by kernel_rfl
theorem c61:Contract Tryz.prog sp61:=contract_at (l:=specs61) (arg:=ty10) (res:=.bool) (multi:=false) (own:=false) (F:=f61) mixed all_nil Tryz.func61 rfl hints61 fun x _=>⟨fuel,e61 fuel x⟩
def specs66:List Spec:=[]
def hints66:List (Nat×List Nat):=[(3,[1,2,5,6])]
def L66_0 (N:Nat) (n_L66_0:Nat) (x:lt15) (n_1:Int) (i_2:Int):Out Int :=
 vloop Tryz.prog (phi specs66) hints66 N Tryz.f66 false false (.int .i64) [.at 1,.at 1,.at 0,.at 1,.at 0] n_L66_0 [U,.d (.list (.int .i64)) x.2.1,.box [.d (.int .i64) x.1.1,.d ty0 x.1.2.1],U,U,.d (.int .i64) n_1,.d (.int .i64) i_2,U,U,U,U,U,U,U,U,U,U,U,U,U,U,U,U,U,U,U,U,U,U,U]
theorem L66_0_succ (N:Nat) (n_L66_0:Nat) (x:lt15) (n_1:Int) (i_2:Int):L66_0 N  (n_L66_0+1) x n_1 i_2 =
 (match (decide (i_2<(lenI x.2.1))) with|true=>bif (inb i_2 x.2.1.length) then bif (inb i_2 x.1.2.1.length) then bif (inb ((List.getD x.1.2.1 i_2.toNat (0,([],())))).1 x.2.1.length) then match ((List.getD x.2.1 i_2.toNat 0) != (List.getD x.2.1 ((List.getD x.1.2.1 i_2.toNat (0,([],())))).1.toNat 0)) with|true=>L66_0 N n_L66_0 x (IntKind.i64.wrap (n_1+1)) (IntKind.i64.wrap (i_2+1))|false=>L66_0 N n_L66_0 x n_1 (IntKind.i64.wrap (i_2+1)) else .fail else .fail else .fail|false=>.ret n_1:Out Int):=by kernel_rfl
def F66 (N:Nat) (x:lt15):Out Int:=L66_0 N N x 0 1
theorem e66 (N:Nat) (x:lt15):vfn Tryz.prog (phi specs66) hints66 N Tryz.f66 false false ty23 (.int .i64) x=F66 N x:=by kernel_rfl
def f66 (x:lt15):Out Int:=F66 fuel x
def sp66:Spec:=⟨66,.call,ty23,(.int .i64),false,false,f66⟩
theorem c66:Contract Tryz.prog sp66:=contract_at (l:=specs66) (arg:=ty23) (res:=(.int .i64)) (multi:=false) (own:=false) (F:=f66) mixed all_nil Tryz.func66 rfl hints66 fun x _=>⟨fuel,e66 fuel x⟩
def specs104 (g:((Int×((List (Int×((List Int)×Unit)))×Unit))×(Int×((List Int)×((List Int)×(Int×Unit)))))->Out (List (List Int))):List Spec:=[sp66,⟨104,.call,(.prod (.prod (.int .i64) (.prod (.list (.prod (.int .i64) (.prod (.list (.int .i64)) .unit))) .unit)) (.prod (.int .i64) (.prod (.list (.int .i64)) (.prod (.list (.int .i64)) (.prod (.int .i64) .unit))))),ty1,false,true,g⟩]
def hints104:List (Nat×List Nat):=[(8,[1,2,3,4,5,11,12,13])]
def L104_0 (g:((Int×((List (Int×((List Int)×Unit)))×Unit))×(Int×((List Int)×((List Int)×(Int×Unit)))))->Out (List (List Int))) (N:Nat) (n_L104_0:Nat) (x:((Int×((List (Int×((List Int)×Unit)))×Unit))×(Int×((List Int)×((List Int)×(Int×Unit)))))) (out_3:(List (List Int))) (i_4:Int):Out (List (List Int)) :=
 vloop Tryz.prog (phi (specs104 g)) hints104 N Tryz.f104 false true ty1 [.at 1,.at 1,.at 1,.at 1,.at 1,.at 0,.at 1,.at 0] n_L104_0 [U,.d (.int .i64) x.2.1,.d (.list (.int .i64)) x.2.2.1,.d (.list (.int .i64)) x.2.2.2.1,.d (.int .i64) x.2.2.2.2.1,.box [.d (.int .i64) x.1.1,.d ty0 x.1.2.1],U,U,U,U,U,.d (.int .i64) (List.getD ((List.getD x.1.2.1 (lenI x.2.2.1).toNat ((0:Int),(([]:List Int),())))).2.1 x.2.1.toNat (0:Int)),.own (.list (.int .i64)) out_3 false,.d (.int .i64) i_4,U,U,U,U,U,U,U,U,U,U,U,U,U,U,U,U,U,U,U,U,U,U,U,U,U,U,U,U,U,U,U,U,U,U,U,U,U,U,U,U,U,U,U,U,U,U,U,U,U,U,U,U,U,U,U]
theorem L104_0_succ (g:((Int×((List (Int×((List Int)×Unit)))×Unit))×(Int×((List Int)×((List Int)×(Int×Unit)))))->Out (List (List Int))) (N:Nat) (n_L104_0:Nat) (x:((Int×((List (Int×((List Int)×Unit)))×Unit))×(Int×((List Int)×((List Int)×(Int×Unit)))))) (out_3:(List (List Int))) (i_4:Int):L104_0 g N  (n_L104_0+1) x out_3 i_4 =
 (match (decide (i_4<(lenI x.2.2.2.1))) with|true=>(match (decide ((List.getD ((List.getD x.1.2.1 (lenI x.2.2.1).toNat (0,([],())))).2.1 x.2.1.toNat 0)<0)) with|true=>bif (fits [] x.2.2.1) then bif (inb i_4 x.2.2.2.1.length) then bif (fits x.2.2.1 ([(List.getD x.2.2.2.1 i_4.toNat 0)]:List Int)) then match g (x.1,(x.2.1,((x.2.2.1++([(List.getD x.2.2.2.1 i_4.toNat 0)]:List Int)),(x.2.2.2.1,(x.2.2.2.2.1,()))))) with | .ret r_5=>bif (fits out_3 r_5) then L104_0 g N n_L104_0 x (out_3++r_5) (IntKind.i64.wrap (i_4+1)) else .fail | .pan p=>.pan p | .fail=>.fail else .fail else .fail else .fail|false=>bif (inb i_4 x.2.2.2.1.length) then match ((List.getD x.2.2.2.1 i_4.toNat 0)==(List.getD ((List.getD x.1.2.1 (lenI x.2.2.1).toNat (0,([],())))).2.1 x.2.1.toNat 0)) with|true=>bif (fits [] x.2.2.1) then bif (inb i_4 x.2.2.2.1.length) then bif (fits x.2.2.1 ([(List.getD x.2.2.2.1 i_4.toNat 0)]:List Int)) then match g (x.1,(x.2.1,((x.2.2.1++([(List.getD x.2.2.2.1 i_4.toNat 0)]:List Int)),(x.2.2.2.1,(x.2.2.2.2.1,()))))) with | .ret r_7=>bif (fits out_3 r_7) then L104_0 g N n_L104_0 x (out_3++r_7) (IntKind.i64.wrap (i_4+1)) else .fail | .pan p=>.pan p | .fail=>.fail else .fail else .fail else .fail|false=>L104_0 g N n_L104_0 x out_3 (IntKind.i64.wrap (i_4+1)) else .fail)|false=>.ret out_3:Out (List (List Int))):=by kernel_rfl
def F104 (g:((Int×((List (Int×((List Int)×Unit)))×Unit))×(Int×((List Int)×((List Int)×(Int×Unit)))))->Out (List (List Int))) (N:Nat) (x:((Int×((List (Int×((List Int)×Unit)))×Unit))×(Int×((List Int)×((List Int)×(Int×Unit)))))):Out (List (List Int)):=match f66 (x.1,(x.2.2.1,())) with | .ret r_1=>(match (decide (r_1 > x.2.2.2.2.1)) with|true=>.ret []|false=>match ((lenI x.2.2.1)==(lenI x.1.2.1)) with|true=>.ret ([x.2.2.1]:List (List Int))|false=>bif (inb (lenI x.2.2.1) x.1.2.1.length) then bif (inb x.2.1 ((List.getD x.1.2.1 (lenI x.2.2.1).toNat (0,([],())))).2.1.length) then L104_0 g N N x [] 0 else .fail else .fail) | .pan p=>.pan p | .fail=>.fail
theorem e104 (g:((Int×((List (Int×((List Int)×Unit)))×Unit))×(Int×((List Int)×((List Int)×(Int×Unit)))))->Out (List (List Int))) (N:Nat) (x:((Int×((List (Int×((List Int)×Unit)))×Unit))×(Int×((List Int)×((List Int)×(Int×Unit)))))):vfn Tryz.prog (phi (specs104 g)) hints104 N Tryz.f104 false true (.prod (.prod (.int .i64) (.prod (.list (.prod (.int .i64) (.prod (.list (.int .i64)) .unit))) .unit)) (.prod (.int .i64) (.prod (.list (.int .i64)) (.prod (.list (.int .i64)) (.prod (.int .i64) .unit))))) ty1 x=F104 g N x:=by kernel_rfl
def f104r:Nat->((Int×((List (Int×((List Int)×Unit)))×Unit))×(Int×((List Int)×((List Int)×(Int×Unit)))))->Out (List (List Int))
 | 0,_=>.fail
 | m+1,x=>F104 (f104r m) fuel x
theorem c104r:∀ m,Contract Tryz.prog ⟨104,.call,(.prod (.prod (.int .i64) (.prod (.list (.prod (.int .i64) (.prod (.list (.int .i64)) .unit))) .unit)) (.prod (.int .i64) (.prod (.list (.int .i64)) (.prod (.list (.int .i64)) (.prod (.int .i64) .unit))))),ty1,false,true,f104r m⟩
 | 0=>fun _ _ _ _ _ _ _=>trivial
 | m+1=>contract_at (l:=specs104 (f104r m)) (arg:=(.prod (.prod (.int .i64) (.prod (.list (.prod (.int .i64) (.prod (.list (.int .i64)) .unit))) .unit)) (.prod (.int .i64) (.prod (.list (.int .i64)) (.prod (.list (.int .i64)) (.prod (.int .i64) .unit)))))) (res:=ty1) (multi:=false) (own:=true) (F:=f104r (m+1)) mixed (all_cons c66 (all_cons (c104r m) all_nil)) Tryz.func104 rfl hints104 fun x _=>⟨fuel,e104 (f104r m) fuel x⟩
def f104 (x:((Int×((List (Int×((List Int)×Unit)))×Unit))×(Int×((List Int)×((List Int)×(Int×Unit)))))):Out (List (List Int)):=f104r fuel x
def sp104:Spec:=⟨104,.call,(.prod (.prod (.int .i64) (.prod (.list (.prod (.int .i64) (.prod (.list (.int .i64)) .unit))) .unit)) (.prod (.int .i64) (.prod (.list (.int .i64)) (.prod (.list (.int .i64)) (.prod (.int .i64) .unit))))),ty1,false,true,f104⟩
theorem c104:Contract Tryz.prog sp104:=c104r fuel
def specs105:List Spec:=[]
def hints105:List (Nat×List Nat):=[(3,[1,2,5,6,7]),(7,[1,2,5,6,7,8,9])]
def L105_1 (N:Nat) (n_L105_0:Nat) (n_L105_1:Nat) (x:lt4) (f_3:Int) (met_4:(List Int)) (all_5:(List Int)) (is_6:Bool) (i_7:Int):Out (List Int) :=
 vloop Tryz.prog (phi specs105) hints105 N Tryz.f105 false true (.list (.int .i64)) [.at 1,.at 1,.at 0,.at 1,.at 0,.at n_L105_0,.at 1,.at 0,.at 0,.at 1,.at 0,.at 1,.at 0] n_L105_1 [U,.d (.int .i64) x.2.1,.box [.d (.int .i64) x.1.1,.d ty0 x.1.2.1],U,U,.own (.int .i64) met_4 false,.own (.int .i64) all_5 false,.d (.int .i64) f_3,.d .bool is_6,.d (.int .i64) i_7,U,U,U,U,U,U,U,U,U,U,U,U,U,U,U,U,U,U,U,U,U,U,U,U,U,U,U,U,U,U,U,U,U,U,U,U,U,U,U]
def L105_0 (N:Nat) (n_L105_0:Nat) (x:lt4) (met_1:(List Int)) (all_2:(List Int)) (f_3:Int):Out (List Int) :=
 vloop Tryz.prog (phi specs105) hints105 N Tryz.f105 false true (.list (.int .i64)) [.at 1,.at 1,.at 0,.at 1,.at 0] n_L105_0 [U,.d (.int .i64) x.2.1,.box [.d (.int .i64) x.1.1,.d ty0 x.1.2.1],U,U,.own (.int .i64) met_1 false,.own (.int .i64) all_2 false,.d (.int .i64) f_3,U,U,U,U,U,U,U,U,U,U,U,U,U,U,U,U,U,U,U,U,U,U,U,U,U,U,U,U,U,U,U,U,U,U,U,U,U,U,U,U,U]
theorem L105_1_succ (N:Nat) (n_L105_0:Nat) (n_L105_1:Nat) (x:lt4) (f_3:Int) (met_4:(List Int)) (all_5:(List Int)) (is_6:Bool) (i_7:Int):L105_1 N n_L105_0 (n_L105_1+1) x f_3 met_4 all_5 is_6 i_7 =
 (match (decide (i_7<(lenI x.1.2.1))) with|true=>(match is_6 with|true=>L105_1 N n_L105_0 n_L105_1 x f_3 met_4 all_5 true (IntKind.i64.wrap (i_7+1))|false=>bif (inb i_7 x.1.2.1.length) then bif (inb x.2.1 ((List.getD x.1.2.1 i_7.toNat (0,([],())))).2.1.length) then L105_1 N n_L105_0 n_L105_1 x f_3 met_4 all_5 ((List.getD ((List.getD x.1.2.1 i_7.toNat (0,([],())))).2.1 x.2.1.toNat 0)==f_3) (IntKind.i64.wrap (i_7+1)) else .fail else .fail)|false=>match is_6 with|true=>bif (fits met_4 ([f_3]:List Int)) then bif (fits all_5 ([f_3]:List Int)) then L105_0 N n_L105_0 x (met_4++([f_3]:List Int)) (all_5++([f_3]:List Int)) (IntKind.i64.wrap (f_3+1)) else .fail else .fail|false=>bif (fits all_5 ([f_3]:List Int)) then L105_0 N n_L105_0 x met_4 (all_5++([f_3]:List Int)) (IntKind.i64.wrap (f_3+1)) else .fail:Out (List Int)):=by kernel_rfl
theorem L105_0_succ (N:Nat) (n_L105_0:Nat) (x:lt4) (met_1:(List Int)) (all_2:(List Int)) (f_3:Int):L105_0 N  (n_L105_0+1) x met_1 all_2 f_3 =
 (match (decide (f_3<=9)) with|true=>L105_1 N n_L105_0 N x f_3 met_1 all_2 false 0|false=>match ((lenI met_1)==0) with|true=>.ret all_2|false=>.ret met_1:Out (List Int)):=by kernel_rfl
def F105 (N:Nat) (x:lt4):Out (List Int):=L105_0 N N x [] [] 0
theorem e105 (N:Nat) (x:lt4):vfn Tryz.prog (phi specs105) hints105 N Tryz.f105 false true ty6 (.list (.int .i64)) x=F105 N x:=by kernel_rfl
def f105 (x:lt4):Out (List Int):=F105 fuel x
def sp105:Spec:=⟨105,.call,ty6,(.list (.int .i64)),false,true,f105⟩
theorem c105:Contract Tryz.prog sp105:=contract_at (l:=specs105) (arg:=ty6) (res:=(.list (.int .i64))) (multi:=false) (own:=true) (F:=f105) mixed all_nil Tryz.func105 rfl hints105 fun x _=>⟨fuel,e105 fuel x⟩
def specs18:List Spec:=[sp61]
def hints18:List (Nat×List Nat):=[]
def F18 (N:Nat) (x:lt4):Out Bool:=match f61 (x.2.1,(0,((IntKind.i64.wrap ((lenI x.1.2.1) - 1)),()))) with | .ret r=>.ret r | .pan p=>.pan p | .fail=>.fail
theorem e18 (N:Nat) (x:lt4):vfn Tryz.prog (phi specs18) hints18 N Tryz.f18 false false ty6 .bool x=F18 N x:=by kernel_rfl
def f18 (x:lt4):Out Bool:=F18 fuel x
def sp18:Spec:=⟨18,.call,ty6,.bool,false,false,f18⟩
theorem c18:Contract Tryz.prog sp18:=contract_at (l:=specs18) (arg:=ty6) (res:=.bool) (multi:=false) (own:=false) (F:=f18) mixed (all_cons c61 all_nil) Tryz.func18 rfl hints18 fun x _=>⟨fuel,e18 fuel x⟩
def specs39:List Spec:=[sp61]
def hints39:List (Nat×List Nat):=[]
def F39 (N:Nat) (x:lt4):Out Bool:=match f61 (x.2.1,(0,((IntKind.i64.wrap (x.1.1 - 1)),()))) with | .ret r=>.ret r | .pan p=>.pan p | .fail=>.fail
theorem e39 (N:Nat) (x:lt4):vfn Tryz.prog (phi specs39) hints39 N Tryz.f39 false false ty6 .bool x=F39 N x:=by kernel_rfl
def f39 (x:lt4):Out Bool:=F39 fuel x
def sp39:Spec:=⟨39,.call,ty6,.bool,false,false,f39⟩
theorem c39:Contract Tryz.prog sp39:=contract_at (l:=specs39) (arg:=ty6) (res:=.bool) (multi:=false) (own:=false) (F:=f39) mixed (all_cons c61 all_nil) Tryz.func39 rfl hints39 fun x _=>⟨fuel,e39 fuel x⟩
def specs46:List Spec:=[sp61]
def hints46:List (Nat×List Nat):=[]
theorem e46 (N:Nat) (x:(Int×Unit)):vfn Tryz.prog (phi specs46) hints46 N Tryz.f46 false false (.prod (.int .i64) .unit) .bool x=F46 N x:=by kernel_rfl
theorem c46:Contract Tryz.prog sp46:=contract_at (l:=specs46) (arg:=(.prod (.int .i64) .unit)) (res:=.bool) (multi:=false) (own:=false) (F:=f46) mixed (all_cons c61 all_nil) Tryz.func46 rfl hints46 fun x _=>⟨fuel,e46 fuel x⟩
def specs67:List Spec:=[sp105,sp104]
def hints67:List (Nat×List Nat):=[(3,[1,2,5])]
def L67_0 (N:Nat) (n_L67_0:Nat) (x:lt4) (n_1:Int):Out (List (List Int)) :=
 vloop Tryz.prog (phi specs67) hints67 N Tryz.f67 false true ty1 [.at 1,.at 1,.at 0] n_L67_0 [U,.d (.int .i64) x.2.1,.box [.d (.int .i64) x.1.1,.d ty0 x.1.2.1],U,U,.d (.int .i64) n_1,U,U,U,U,U,U,U,U,U,U,U,U,U,U]
theorem L67_0_succ (N:Nat) (n_L67_0:Nat) (x:lt4) (n_1:Int):L67_0 N  (n_L67_0+1) x n_1 =
 (match f105 (x.1,(x.2.1,())) with | .ret r_2=>(match f104 (x.1,(x.2.1,([],(r_2,(n_1,()))))) with | .ret r_4=>(match (decide ((lenI r_4) > 0)) with|true=>.ret r_4|false=>L67_0 N n_L67_0 x (IntKind.i64.wrap (n_1+1))) | .pan p=>.pan p | .fail=>.fail) | .pan p=>.pan p | .fail=>.fail:Out (List (List Int))):=by kernel_rfl
def F67 (N:Nat) (x:lt4):Out (List (List Int)):=L67_0 N N x 0
theorem e67 (N:Nat) (x:lt4):vfn Tryz.prog (phi specs67) hints67 N Tryz.f67 false true ty6 ty1 x=F67 N x:=by kernel_rfl
def f67 (x:lt4):Out (List (List Int)):=F67 fuel x
def sp67:Spec:=⟨67,.call,ty6,ty1,false,true,f67⟩
theorem c67:Contract Tryz.prog sp67:=contract_at (l:=specs67) (arg:=ty6) (res:=ty1) (multi:=false) (own:=true) (F:=f67) mixed (all_cons c105 (all_cons c104 all_nil)) Tryz.func67 rfl hints67 fun x _=>⟨fuel,e67 fuel x⟩
def specs76:List Spec:=[sp67]
def hints76:List (Nat×List Nat):=[(4,[1,3,7,8,9])]
def L76_0 (N:Nat) (n_L76_0:Nat) (x:lt6) (l_3:(List (List Int))) (n_4:Int) (i_5:Int):Out Int :=
 vloop Tryz.prog (phi specs76) hints76 N Tryz.f76 false false (.int .i64) [.at 1,.at 1,.at 1,.at 0,.at 1,.at 0] n_L76_0 [U,.d (.int .i64) x.2.1,U,.box [.d (.int .i64) x.1.1,.d ty0 x.1.2.1],U,U,U,.own (.list (.int .i64)) l_3 false,.d (.int .i64) n_4,.d (.int .i64) i_5,U,U,U,U,U,U,U,U,U,U,U,U,U,U,U,U,U,U,U,U,U,U,U,U,U,U,U,U,U,U,U,U,U,U,U,U,U]
theorem L76_0_succ (N:Nat) (n_L76_0:Nat) (x:lt6) (l_3:(List (List Int))) (n_4:Int) (i_5:Int):L76_0 N  (n_L76_0+1) x l_3 n_4 i_5 =
 (match (decide (i_5<(lenI l_3))) with|true=>bif (inb i_5 l_3.length) then bif (inb x.2.1 (List.getD l_3 i_5.toNat []).length) then bif (inb i_5 l_3.length) then bif (inb x.2.1 x.1.2.1.length) then bif (inb ((List.getD x.1.2.1 x.2.1.toNat (0,([],())))).1 (List.getD l_3 i_5.toNat []).length) then match ((List.getD (List.getD l_3 i_5.toNat []) x.2.1.toNat 0) != (List.getD (List.getD l_3 i_5.toNat []) ((List.getD x.1.2.1 x.2.1.toNat (0,([],())))).1.toNat 0)) with|true=>L76_0 N n_L76_0 x l_3 (IntKind.i64.wrap (n_4+1)) (IntKind.i64.wrap (i_5+1))|false=>L76_0 N n_L76_0 x l_3 n_4 (IntKind.i64.wrap (i_5+1)) else .fail else .fail else .fail else .fail else .fail|false=>match (n_4==0) with|true=>.ret 1|false=>match (n_4==(lenI l_3)) with|true=>.ret 3|false=>.ret 2:Out Int):=by kernel_rfl
def F76 (N:Nat) (x:lt6):Out Int:=match f67 (x.1,(x.2.2.1,())) with | .ret r_1=>L76_0 N N x r_1 0 0 | .pan p=>.pan p | .fail=>.fail
theorem e76 (N:Nat) (x:lt6):vfn Tryz.prog (phi specs76) hints76 N Tryz.f76 false false ty9 (.int .i64) x=F76 N x:=by kernel_rfl
def f76 (x:lt6):Out Int:=F76 fuel x
def sp76:Spec:=⟨76,.call,ty9,(.int .i64),false,false,f76⟩
theorem c76:Contract Tryz.prog sp76:=contract_at (l:=specs76) (arg:=ty9) (res:=(.int .i64)) (multi:=false) (own:=false) (F:=f76) mixed (all_cons c67 all_nil) Tryz.func76 rfl hints76 fun x _=>⟨fuel,e76 fuel x⟩
theorem e17 (N:Nat) (x:lt1):vfn Tryz.prog (phi specs17) hints17 N Tryz.f17 false false ty2 .bool x=F17 N x:=by kernel_rfl
def sp17:Spec:=⟨17,.call,ty2,.bool,false,false,f17⟩
theorem c17:Contract Tryz.prog sp17:=contract_at (l:=specs17) (arg:=ty2) (res:=.bool) (multi:=false) (own:=false) (F:=f17) mixed (all_cons c61 (all_cons c46 all_nil)) Tryz.func17 rfl hints17 fun x _=>⟨fuel,e17 fuel x⟩
def specs38:List Spec:=[sp76]
def hints38:List (Nat×List Nat):=[(3,[1,3,4]),(7,[1,3,4,5,6])]
def L38_1 (N:Nat) (n_L38_0:Nat) (n_L38_1:Nat) (x:lt1) (i_2:Int) (out_3:(List Int)) (w_4:Int) (p_5:Int):Out (List Int) :=
 vloop Tryz.prog (phi specs38) hints38 N Tryz.f38 false true (.list (.int .i64)) [.at 1,.at 1,.at 0,.at 1,.at 0,.at n_L38_0,.at 1,.at 0,.at 0,.at 1,.at 0,.at 1,.at 0] n_L38_1 [U,.box [.d (.int .i64) x.1.1,.d ty0 x.1.2.1],U,.own (.int .i64) out_3 false,.d (.int .i64) i_2,.d (.int .i64) w_4,.d (.int .i64) p_5,U,U,U,U,U,U,U,U,U,U,U,U,U,U,U,U,U,U,U,U,U,U,U,U,U,U,U,U]
def L38_0 (N:Nat) (n_L38_0:Nat) (x:lt1) (out_1:(List Int)) (i_2:Int):Out (List Int) :=
 vloop Tryz.prog (phi specs38) hints38 N Tryz.f38 false true (.list (.int .i64)) [.at 1,.at 1,.at 0,.at 1,.at 0] n_L38_0 [U,.box [.d (.int .i64) x.1.1,.d ty0 x.1.2.1],U,.own (.int .i64) out_1 false,.d (.int .i64) i_2,U,U,U,U,U,U,U,U,U,U,U,U,U,U,U,U,U,U,U,U,U,U,U,U,U,U,U,U,U,U]
theorem L38_1_succ (N:Nat) (n_L38_0:Nat) (n_L38_1:Nat) (x:lt1) (i_2:Int) (out_3:(List Int)) (w_4:Int) (p_5:Int):L38_1 N n_L38_0 (n_L38_1+1) x i_2 out_3 w_4 p_5 =
 (match (decide (p_5<x.1.1)) with|true=>(match (decide (i_2 > 0)) with|true=>(match f76 (x.1,(i_2,(p_5,()))) with | .ret r_6=>L38_1 N n_L38_0 n_L38_1 x i_2 out_3 (if r_6 > w_4 then r_6 else w_4) (IntKind.i64.wrap (p_5+1)) | .pan p=>.pan p | .fail=>.fail)|false=>bif (fits out_3 ([w_4]:List Int)) then L38_0 N n_L38_0 x (out_3++([w_4]:List Int)) (IntKind.i64.wrap (i_2+1)) else .fail)|false=>bif (fits out_3 ([w_4]:List Int)) then L38_0 N n_L38_0 x (out_3++([w_4]:List Int)) (IntKind.i64.wrap (i_2+1)) else .fail:Out (List Int)):=by kernel_rfl
theorem L38_0_succ (N:Nat) (n_L38_0:Nat) (x:lt1) (out_1:(List Int)) (i_2:Int):L38_0 N  (n_L38_0+1) x out_1 i_2 =
 (match (decide (i_2<(lenI x.1.2.1))) with|true=>L38_1 N n_L38_0 N x i_2 out_1 1 0|false=>.ret out_1:Out (List Int)):=by kernel_rfl
def F38 (N:Nat) (x:lt1):Out (List Int):=L38_0 N N x [] 0
theorem e38 (N:Nat) (x:lt1):vfn Tryz.prog (phi specs38) hints38 N Tryz.f38 false true ty2 (.list (.int .i64)) x=F38 N x:=by kernel_rfl
def f38 (x:lt1):Out (List Int):=F38 fuel x
def sp38:Spec:=⟨38,.call,ty2,(.list (.int .i64)),false,true,f38⟩
theorem c38:Contract Tryz.prog sp38:=contract_at (l:=specs38) (arg:=ty2) (res:=(.list (.int .i64))) (multi:=false) (own:=true) (F:=f38) mixed (all_cons c76 all_nil) Tryz.func38 rfl hints38 fun x _=>⟨fuel,e38 fuel x⟩
def specs40:List Spec:=[sp67]
def hints40:List (Nat×List Nat):=[(4,[1,7,8,9]),(8,[1,7,8,9,10,11])]
def L40_1 (N:Nat) (n_L40_0:Nat) (n_L40_1:Nat) (x:lt6) (f_5:Int) (l_6:(List (List Int))) (out_7:(List Int)) (met_8:Bool) (i_9:Int):Out (List Int) :=
 vloop Tryz.prog (phi specs40) hints40 N Tryz.f40 false true (.list (.int .i64)) [.at 1,.at 1,.at 1,.at 0,.at 1,.at 0,.at n_L40_0,.at 1,.at 0,.at 0,.at 1,.at 0,.at 1,.at 0] n_L40_1 [U,.d (.int .i64) x.2.1,U,U,U,U,U,.own (.list (.int .i64)) l_6 false,.own (.int .i64) out_7 false,.d (.int .i64) f_5,.d .bool met_8,.d (.int .i64) i_9,U,U,U,U,U,U,U,U,U,U,U,U,U,U,U,U,U,U,U,U,U,U,U,U,U,U,U,U,U,U,U]
def L40_0 (N:Nat) (n_L40_0:Nat) (x:lt6) (l_3:(List (List Int))) (out_4:(List Int)) (f_5:Int):Out (List Int) :=
 vloop Tryz.prog (phi specs40) hints40 N Tryz.f40 false true (.list (.int .i64)) [.at 1,.at 1,.at 1,.at 0,.at 1,.at 0] n_L40_0 [U,.d (.int .i64) x.2.1,U,U,U,U,U,.own (.list (.int .i64)) l_3 false,.own (.int .i64) out_4 false,.d (.int .i64) f_5,U,U,U,U,U,U,U,U,U,U,U,U,U,U,U,U,U,U,U,U,U,U,U,U,U,U,U,U,U,U,U,U,U]
theorem L40_1_succ (N:Nat) (n_L40_0:Nat) (n_L40_1:Nat) (x:lt6) (f_5:Int) (l_6:(List (List Int))) (out_7:(List Int)) (met_8:Bool) (i_9:Int):L40_1 N n_L40_0 (n_L40_1+1) x f_5 l_6 out_7 met_8 i_9 =
 (match (decide (i_9<(lenI l_6))) with|true=>(match met_8 with|true=>L40_1 N n_L40_0 n_L40_1 x f_5 l_6 out_7 true (IntKind.i64.wrap (i_9+1))|false=>bif (inb i_9 l_6.length) then bif (inb x.2.1 (List.getD l_6 i_9.toNat []).length) then L40_1 N n_L40_0 n_L40_1 x f_5 l_6 out_7 ((List.getD (List.getD l_6 i_9.toNat []) x.2.1.toNat 0)==f_5) (IntKind.i64.wrap (i_9+1)) else .fail else .fail)|false=>match met_8 with|true=>bif (fits out_7 ([f_5]:List Int)) then L40_0 N n_L40_0 x l_6 (out_7++([f_5]:List Int)) (IntKind.i64.wrap (f_5+1)) else .fail|false=>L40_0 N n_L40_0 x l_6 out_7 (IntKind.i64.wrap (f_5+1)):Out (List Int)):=by kernel_rfl
theorem L40_0_succ (N:Nat) (n_L40_0:Nat) (x:lt6) (l_3:(List (List Int))) (out_4:(List Int)) (f_5:Int):L40_0 N  (n_L40_0+1) x l_3 out_4 f_5 =
 (match (decide (f_5<=9)) with|true=>L40_1 N n_L40_0 N x f_5 l_3 out_4 false 0|false=>.ret out_4:Out (List Int)):=by kernel_rfl
def F40 (N:Nat) (x:lt6):Out (List Int):=match f67 (x.1,(x.2.2.1,())) with | .ret r_1=>L40_0 N N x r_1 [] 0 | .pan p=>.pan p | .fail=>.fail
theorem e40 (N:Nat) (x:lt6):vfn Tryz.prog (phi specs40) hints40 N Tryz.f40 false true ty9 (.list (.int .i64)) x=F40 N x:=by kernel_rfl
def f40 (x:lt6):Out (List Int):=F40 fuel x
def sp40:Spec:=⟨40,.call,ty9,(.list (.int .i64)),false,true,f40⟩
theorem c40:Contract Tryz.prog sp40:=contract_at (l:=specs40) (arg:=ty9) (res:=(.list (.int .i64))) (multi:=false) (own:=true) (F:=f40) mixed (all_cons c67 all_nil) Tryz.func40 rfl hints40 fun x _=>⟨fuel,e40 fuel x⟩
end Go.V
namespace Go.V
open Go.Proofs
theorem costN_le {t:TREE} {k:Nat} (l:List Int):costN t k l<=k:=sumTo_le fun i _=>by split<;>(try split)<;>omega
theorem f66_at {t:TREE} {place:Int} (ht:TreeP t place) {l:List Int} (hl:l.length<=t.2.1.length):f66 (t,(l,())) = .ret (costN t l.length l):=by
 have hlen:=ht.len
 have loop:∀ (d n i:Nat),d<n->i+d=l.length->1<=i->L66_0 fuel n (t,(l,())) (costN t i l) i = .ret (costN t l.length l):=by
  intro d
  induction d with
  | zero =>
   intro n i hn hi h1
   obtain ⟨n,rfl⟩:=succ_of hn
   rw [L66_0_succ]
   try delta lenI
   simp only [dF (show ¬ (i:Int)<l.length by omega)]
   rw [show i=l.length by omega]
  | succ d ih =>
   intro n i hn hi h1
   obtain ⟨n,rfl⟩:=succ_of hn
   rw [L66_0_succ]
   try delta lenI
   have hp:=ht.par i h1 (by omega)
   have hpi:(List.getD t.2.1 i ((0:Int),(([]:List Int),()))).1=parentAt t i:=rfl
   simp only [dT (show (i:Int)<l.length by omega),inbT (show (0:Int)<=i by omega) (show (i:Int)<l.length by omega),inbT (show (0:Int)<=i by omega) (show (i:Int)<t.2.1.length by omega),hpi,
    inbT hp.1 (show parentAt t i<l.length by omega),cond_true,Int.toNat_natCast,wn (show i<1000000000 by omega)]
   have e:costN t (i+1) l=costN t i l+(if l.getD i 0=l.getD (parN t i) 0 then 0 else 1):=by
    show costN t i l+(if i=0 then 0 else if l.getD i 0=l.getD (parN t i) 0 then 0 else 1)=_
    rw [if_neg (by omega)]
   have hc:=costN_nonneg (t:=t) (k:=i) l
   have hc2:=costN_le (t:=t) (k:=i) l
   by_cases hq:l.getD i 0=l.getD (parN t i) 0
   . have hq':l.getD i 0=l.getD (parentAt t i).toNat 0:=hq
     rw [if_pos hq,Int.add_zero] at e
     simp only [nF hq']
     rw [<- e]
     exact ih n (i+1) (by omega) (by omega) (by omega)
   . have hq':l.getD i 0≠l.getD (parentAt t i).toNat 0:=hq
     rw [if_neg hq] at e
     simp only [nT hq']
     rw [wr (by omega) (by omega),<- e]
     exact ih n (i+1) (by omega) (by omega) (by omega)
 show L66_0 fuel fuel (t,(l,())) 0 1=_
 have hfb:=fuel_big
 by_cases h0:l.length=0
 . obtain ⟨n,hn⟩:=succ_of (show 0<fuel by omega)
   conv=>lhs;rw [hn]
   rw [<- hn]
   have:L66_0 fuel (n+1) (t,(l,())) 0 1 = .ret (0:Int):=by
    rw [L66_0_succ]
    try delta lenI
    simp only [h0,dF (show ¬ (1:Int)<((0:Nat):Int) by omega)]
   rw [<- hn] at this
   rw [this,h0]
   rfl
 . have:=loop (l.length - 1) fuel 1 (by omega) (by omega) (Nat.le_refl _)
   exact this
theorem metTo_succ (t:TREE) (place:Int) (k:Nat):metTo t place (k+1)=metTo t place k++(if hasF t place k then [(k:Int)] else []):=by
 unfold metTo
 rw [List.range_succ,List.map_append,List.filter_append]
 congr 1
 simp only [List.map_cons,List.map_nil,List.filter_cons,List.filter_nil]
theorem metTo_len (t:TREE) (place:Int) (k:Nat):(metTo t place k).length<=k:=by
 unfold metTo
 refine Nat.le_trans (List.length_filter_le _ _) ?_
 simp
theorem f105_at {t:TREE} {place:Int} (ht:TreeP t place):f105 (t,(place,())) = .ret (readF t place):=by
 have hlen:=ht.len
 have hfb:=fuel_big
 have inner:∀ (n0 f:Nat),f<=9->∀ (d n i:Nat),d<n->i+d=t.2.1.length ->
  L105_1 fuel n0 n (t,(place,())) f (metTo t place f) (allTo f) ((List.range i).any fun j=>seenAt t j place==(f:Int)) i=L105_0 fuel n0 (t,(place,())) (metTo t place (f+1)) (allTo (f+1)) ((f+1:Nat):Int):=by
  intro n0 f hf d
  induction d with
  | zero =>
   intro n i hn hi
   obtain ⟨n,rfl⟩:=succ_of hn
   rw [L105_1_succ]
   try delta lenI
   obtain rfl:i=t.2.1.length:=by omega
   have hm:=metTo_len t place f
   have ha:=allTo_len f
   simp only [dF (show ¬ ((t.2.1.length:Nat):Int)<t.2.1.length by omega),fitsT (show (metTo t place f).length+[(f:Int)].length<1000000 by simp;omega),fitsT (show (allTo f).length+[(f:Int)].length<1000000 by simp;omega),cond_true,wn (show f<1000000000 by omega)]
   rw [metTo_succ,allTo_succ]
   unfold hasF
   cases (List.range t.2.1.length).any fun j=>seenAt t j place==(f:Int) with
   | true=>rfl
   | false=>simp
  | succ d ih =>
   intro n i hn hi
   obtain ⟨n,rfl⟩:=succ_of hn
   rw [L105_1_succ]
   try delta lenI
   have hs:=ht.seen i (by omega)
   have hstep:((List.range (i+1)).any fun j=>seenAt t j place==(f:Int))=(((List.range i).any fun j=>seenAt t j place==(f:Int)) || (seenAt t i place==(f:Int))):=by
    rw [List.range_succ,List.any_append]
    simp
   have hih:=ih n (i+1) (by omega) (by omega)
   rw [hstep] at hih
   have e:((List.getD t.2.1 i ((0:Int),(([]:List Int),()))).2.1).getD place.toNat 0=seenAt t i place:=by unfold seenAt;rw [Int.toNat_natCast]
   simp only [dT (show (i:Int)<t.2.1.length by omega),inbT (show (0:Int)<=i by omega) (show (i:Int)<t.2.1.length by omega),Int.toNat_natCast,inbT ht.pos hs,cond_true,wn (show i<1000000000 by omega),e]
   cases hc:(List.range i).any fun j=>seenAt t j place==(f:Int) with
   | true =>
    rw [hc,Bool.true_or] at hih
    exact hih
   | false =>
    rw [hc,Bool.false_or] at hih
    exact hih
 have outer:∀ (d n f:Nat),d<n->f+d=10->L105_0 fuel n (t,(place,())) (metTo t place f) (allTo f) f = .ret (readF t place):=by
  intro d
  induction d with
  | zero =>
   intro n f hn hf
   obtain ⟨n,rfl⟩:=succ_of hn
   obtain rfl:f=10:=by omega
   rw [L105_0_succ]
   try delta lenI
   simp only [dF (show ¬ ((10:Nat):Int)<=9 by omega)]
   unfold readF
   by_cases hm:metTo t place 10=[]
   . rw [if_pos hm]
     simp only [hm,List.length_nil]
     rfl
   . have:((metTo t place 10).length:Int)≠0:=fun h=>hm (List.eq_nil_of_length_eq_zero (by omega))
     rw [if_neg hm]
     simp only [eF this]
  | succ d ih =>
   intro n f hn hf
   obtain ⟨n,rfl⟩:=succ_of hn
   rw [L105_0_succ]
   try delta lenI
   simp only [dT (show (f:Int)<=9 by omega)]
   rw [show (false:Bool)=((List.range 0).any fun j=>seenAt t j place==(f:Int)) from rfl]
   exact (inner n f (by omega) t.2.1.length fuel 0 (by omega) (by omega)).trans (ih n (f+1) (by omega) (by omega))
 exact outer 10 fuel 0 (by omega) rfl
theorem flat_take {α:Type} {F:Int->List α} {S:List Int} {i:Nat} (h:i<S.length):(S.take (i+1)).flatMap F=(S.take i).flatMap F++F (S.getD i 0):=by
 have e:S.take (i+1)=S.take i++[S.getD i 0]:=by
  rw [List.take_succ,List.getElem?_eq_getElem h,List.getD_eq_getElem?_getD,List.getElem?_eq_getElem h];rfl
 rw [e,List.flatMap_append]
 simp
theorem flat_take_le {α:Type} {F:Int->List α} {S:List Int} (i:Nat):((S.take i).flatMap F).length<=(S.flatMap F).length:=by
 conv=>rhs;rw [<- List.take_append_drop i S]
 rw [List.flatMap_append,List.length_append]
 omega
theorem f104_at {t:TREE} {place most:Int} (ht:TreeP t place) {S:List Int} (hS:S.length<=100) (hB:∀ k now,now.length+k=t.2.1.length->(prune (okC t place most) S k now).length<=1000) :
 ∀ (k m:Nat) (now:List Int),k<m->now.length+k=t.2.1.length->f104r m (t,(place,(now,(S,(most,()))))) = .ret (if costN t now.length now > most then [] else prune (okC t place most) S k now):=by
 intro k
 have hlen:=ht.len
 have hfb:=fuel_big
 induction k with
 | zero =>
  intro m now hm hk
  obtain ⟨m,rfl⟩:=succ_of hm
  show F104 (f104r m) fuel _=_
  unfold F104
  try delta lenI
  simp only [f66_at ht (l:=now) (by omega),eT (show (now.length:Int)=t.2.1.length by omega)]
  by_cases hc:costN t now.length now > most
  . simp only [dT hc,if_pos hc]
  . simp only [dF hc,if_neg hc,prune]
 | succ k ih =>
  intro m now hm hk
  obtain ⟨m,rfl⟩:=succ_of hm
  have hs:=ht.seen now.length (by omega)
  have hin:inb (now.length:Int) t.2.1.length=true:=inbT (by omega) (by omega)
  show F104 (f104r m) fuel _=_
  unfold F104
  try delta lenI
  simp only [f66_at ht (l:=now) (by omega),eF (show (now.length:Int)≠t.2.1.length by omega),hin,Int.toNat_natCast,inbT ht.pos hs,cond_true]
  by_cases hc:costN t now.length now > most
  . simp only [dT hc,if_pos hc]
  . simp only [dF hc,if_neg hc]
    obtain ⟨F,hF⟩:∃ F:Int->List (List Int),F=fun g=>if okC t place most now g then prune (okC t place most) S k (now++[g]) else []:=⟨_,rfl⟩
    have hall:prune (okC t place most) S (k+1) now=S.flatMap F:=by rw [hF];rfl
    have hb:=hB (k+1) now hk
    rw [hall] at hb ⊢
    have hown:((List.getD t.2.1 now.length ((0:Int),(([]:List Int),()))).2.1).getD place.toNat 0=seenAt t now.length place:=by unfold seenAt;rw [Int.toNat_natCast]
    have loop:∀ (d n i:Nat),d<n->i+d=S.length->L104_0 (f104r m) fuel n (t,(place,(now,(S,(most,()))))) ((S.take i).flatMap F) i = .ret (S.flatMap F):=by
     intro d
     induction d with
     | zero =>
      intro n i hn hi
      obtain ⟨n,rfl⟩:=succ_of hn
      rw [L104_0_succ]
      try delta lenI
      simp only [dF (show ¬ (i:Int)<S.length by omega)]
      rw [List.take_of_length_le (by omega)]
     | succ d ihd =>
      intro n i hn hi
      obtain ⟨n,rfl⟩:=succ_of hn
      rw [L104_0_succ]
      try delta lenI
      have hnext:=ihd n (i+1) (by omega) (by omega)
      rw [flat_take (by omega)] at hnext
      have hle:=flat_take_le (F:=F) (S:=S) (i+1)
      rw [flat_take (by omega),List.length_append] at hle
      have hcall:f104r m (t,(place,(now++[S.getD i 0],(S,(most,()))))) = .ret (if costN t (now.length+1) (now++[S.getD i 0]) > most then [] else prune (okC t place most) S k (now++[S.getD i 0])):=by
       have:=ih m (now++[S.getD i 0]) (by omega) (by simp;omega)
       rw [this,List.length_append];rfl
      have hiS:inb (i:Int) S.length=true:=inbT (by omega) (by omega)
      have hf1:fits ([]:List Int) now=true:=fitsT (by simp;omega)
      have hf2:fits now [S.getD i 0]=true:=fitsT (by simp;omega)
      have hfo:∀ g:List (List Int),g=F (S.getD i 0)->fits ((S.take i).flatMap F) g=true:=fun g hg=>fitsT (by rw [hg];omega)
      simp only [dT (show (i:Int)<S.length by omega),Int.toNat_natCast,hown,hf1,hiS,cond_true,hf2,hcall,wn (show i<1000000000 by omega)]
      by_cases ho:seenAt t now.length place<0
      . have hFg:(if costN t (now.length+1) (now++[S.getD i 0]) > most then [] else prune (okC t place most) S k (now++[S.getD i 0]))=F (S.getD i 0):=by
         rw [hF]
         dsimp only
         by_cases hq:costN t (now.length+1) (now++[S.getD i 0]) > most
         . rw [if_pos hq,if_neg fun h=>by have:=(okC_iff.1 h).2;omega]
         . rw [if_neg hq,if_pos (okC_iff.2 ⟨.inl ho,by omega⟩)]
        simp only [dT ho,hFg,hfo _ rfl,cond_true]
        exact hnext
      . simp only [dF ho]
        by_cases hg:S.getD i 0=seenAt t now.length place
        . have hFg:(if costN t (now.length+1) (now++[S.getD i 0]) > most then [] else prune (okC t place most) S k (now++[S.getD i 0]))=F (S.getD i 0):=by
           rw [hF]
           dsimp only
           by_cases hq:costN t (now.length+1) (now++[S.getD i 0]) > most
           . rw [if_pos hq,if_neg fun h=>by have:=(okC_iff.1 h).2;omega]
           . rw [if_neg hq,if_pos (okC_iff.2 ⟨.inr hg,by omega⟩)]
          simp only [eT hg,hFg,hfo _ rfl,cond_true]
          exact hnext
        . have hFg:F (S.getD i 0)=[]:=by
           rw [hF]
           dsimp only
           rw [if_neg fun h=>(okC_iff.1 h).1.elim (fun h=>ho h) fun h=>hg h]
          rw [hFg,List.append_nil] at hnext
          simp only [eF hg]
          exact hnext
    exact loop S.length fuel 0 (by omega) (by omega)
end Go.V
namespace Go.V
open Go.Proofs
open Classical in
theorem doc_few {t:TREE} {place most:Int} (ht:TreeP t place) (h:most<errsT t place):prune (okC t place most) (readF t place) t.2.1.length []=[]:=by
 rw [doc_cols ht]
 refine List.filter_eq_nil_iff.2 fun l _=>?_
 rw [decide_eq_true_eq]
 rintro ⟨h1,h2,_⟩
 obtain ⟨l',h3,h4⟩:=errs_eq ht.ground
 have:=h3.few l h1
 omega
theorem f67_at {t:TREE} {place:Int} (ht:TreeP t place):f67 (t,(place,())) = .ret (storT t place):=by
 have hfb:=fuel_big
 have hb:=errs_bd ht
 have hlen:=ht.len
 have hgo:∀ most:Int,0<=most->(metTo t place 10≠[]\/most=0)->f104 (t,(place,(([]:List Int),(readF t place,(most,()))))) = .ret (prune (okC t place most) (readF t place) t.2.1.length []):=fun most h0 hm=>by
  have:=f104_at (most:=most) ht (S:=readF t place) (by have:=readF_len t place;omega) (fun k now hk=>by have:=prune_few ht hm k now hk;omega) t.2.1.length fuel [] (by omega) (by simp)
  refine Eq.trans this ?_
  have e:costN t ([]:List Int).length []=0:=rfl
  rw [e,if_neg (by omega)]
 have loop:∀ (d n i:Nat),d<n->(i:Int)+d=errsT t place->L67_0 fuel n (t,(place,())) i = .ret (storT t place):=by
  intro d
  induction d with
  | zero =>
   intro n i hn hi
   obtain ⟨n,rfl⟩:=succ_of hn
   rw [L67_0_succ]
   try delta lenI
   have hi':(i:Int)=errsT t place:=by omega
   have hg:=hgo i (by omega) (by
    by_cases h:metTo t place 10=[]
    . exact .inr (by rw [hi'];exact errs_none ht h)
    . exact .inl h)
   rw [hi',doc_best ht] at hg
   have hpos:0<(storT t place).length:=List.length_pos_iff.2 (stor_ne ht)
   simp only [f105_at ht,hi',hg,dT (show ((storT t place).length:Int) > 0 by omega)]
  | succ d ih =>
   intro n i hn hi
   obtain ⟨n,rfl⟩:=succ_of hn
   rw [L67_0_succ]
   try delta lenI
   have hg:=hgo i (by omega) (by
    by_cases h:metTo t place 10=[]
    . have:=errs_none ht h;omega
    . exact .inl h)
   rw [doc_few ht (by omega)] at hg
   simp only [f105_at ht,hg,List.length_nil,wn (show i<1000000000 by omega)]
   exact ih n (i+1) (by omega) (by omega)
 exact loop (errsT t place).toNat fuel 0 (by omega) (by omega)
end Go.V
namespace Go.V
open Go.Proofs
theorem f13_at (t:TREE):∃ b,f13 (t,()) = .ret b:=by
 have hfb:=fuel_big
 unfold f13 F13
 have done:∀ n i:Nat,¬ (i:Int)<t.2.1.length\/¬ i<10->∃ b,L13_0 fuel (n+1) (t,()) i = .ret b:=fun n i h=>by
  rw [L13_0_succ]
  try delta lenI
  by_cases h1:(i:Int)<t.2.1.length
  . have h2:¬ (i:Int)<10:=by rcases h with h|h<;>omega
    simp only [dT h1,dF h2]
    exact ⟨_,rfl⟩
  . simp only [dF h1]
    exact ⟨_,rfl⟩
 have loop:∀ (d n i:Nat),d<n->i+d=10->∃ b,L13_0 fuel n (t,()) i = .ret b:=by
  intro d
  induction d with
  | zero =>
   intro n i hn hi
   obtain ⟨n,rfl⟩:=succ_of hn
   exact done n i (.inr (by omega))
  | succ d ih =>
   intro n i hn hi
   obtain ⟨n,rfl⟩:=succ_of hn
   by_cases h1:(i:Int)<t.2.1.length
   . rw [L13_0_succ]
     try delta lenI
     simp only [dT h1,dT (show (i:Int)<10 by omega),inbT (show (0:Int)<=i by omega) h1,cond_true,wn (show i<1000000000 by omega)]
     split
     . exact ⟨_,rfl⟩
     . exact ih n (i+1) (by omega) (by omega)
   . exact done n i (.inl h1)
 exact loop 10 fuel 0 (by omega) (by omega)
theorem f18_at {t:TREE} (n:Int) (h:t.2.1.length<1000000):f18 (t,(n,())) = .ret (decide (0<=n/\n<t.2.1.length)):=by
 unfold f18 F18
 try delta lenI
 simp only [i61]
 rw [wr (by omega) (by omega)]
 by_cases h1:0<=n/\n<t.2.1.length
 . rw [dT h1,dT (by omega)]
 . rw [dF h1,dF (by omega)]
end Go.V
namespace Go.V
open Go.Proofs
theorem TreeOK.t17 {t:TREE} (h:TreeOK t):f17 (t,()) = .ret true:=by
 rcases tree_ret (t:=t) with ⟨_,h1,_⟩|⟨h1,_⟩
 . exact h1
 . exact absurd h h1
theorem no17 {t:TREE} (h:¬ TreeOK t):f17 (t,()) = .ret false:=by
 rcases tree_ret (t:=t) with ⟨h1,_⟩|⟨_,h1,_⟩
 . exact absurd h1 h
 . exact h1
theorem no55 {t:TREE} (h:¬ TreeOK t):f55 (t,()) = .ret false:=by
 rcases tree_ret (t:=t) with ⟨h1,_⟩|⟨_,_,h1⟩
 . exact absurd h1 h
 . exact h1
end Go.V
namespace Go.V
open Go.Proofs
theorem f39_at {t:TREE} (ht:TreeOK t) (p:Int):f39 (t,(p,())) = .ret (decide (0<=p/\p<t.1)):=by
 have:=ht.places
 unfold f39 F39
 simp only [i61]
 rw [wr (by omega) (by omega)]
 by_cases h1:0<=p/\p<t.1
 . rw [dT h1,dT (by omega)]
 . rw [dF h1,dF (by omega)]
theorem f36_no {t:TREE} {a b:Int} (h:¬ (TreeOK t/\IsCopy t a/\IsPlace t b)):f36 (t,(a,(b,()))) = .ret ([],(2,())):=by
 unfold f36 F36
 rcases tree_ret (t:=t) with ⟨ht,_,h2⟩|⟨h1,_,h2⟩
 . have hc:=ht.copies
   simp only [h2,Bool.not_true,f56_at (t:=t) a (by omega)]
   by_cases h1:0<=a/\a<(t.2.1.length:Int)
   . simp only [dT h1,Bool.not_true,f73_at ht,dF (show ¬ (0<=b/\b<t.1) from fun h3=>h ⟨ht,⟨h1.1,h1.2⟩,⟨h3.1,h3.2⟩⟩),Bool.not_false]
     rfl
   . simp only [dF h1,Bool.not_false]
     rfl
 . simp only [h2,Bool.not_false]
   rfl
theorem f40_at {t:TREE} (ht:TreeOK t) {i p:Nat} (hi:i<t.2.1.length) (hp:(p:Int)<t.1):f40 (t,((i:Int),((p:Int),()))) = .ret (canT t i p):=by
 have hfb:=fuel_big
 have hc:=ht.copies
 have hT:=ht.treeP (place:=p) (by omega) hp
 have hsl:=stor_len hT
 unfold f40 F40
 simp only [f67_at hT]
 let q:Int->Bool:=fun f=>decide (f∈colOf (storT t p) i)
 have hout:∀ f,((allTo f).filter q).length<=f:=fun f=>Nat.le_trans (List.length_filter_le _ _) (by rw [allTo_len];exact Nat.le_refl _)
 have key:=runL (L:=fun n f=>L40_0 fuel n (t,((i:Int),((p:Int),()))) (storT t p) ((allTo f).filter q) f) (len:=10) (K:=.ret (canT t i p)) (fun n f hf=>?_) (fun n=>?_) 10 fuel 0 (by omega) (by omega)
 . exact key
 . try dsimp only
   rw [L40_0_succ]
   simp only [dT (show (f:Int)<=9 by omega)]
   have inner:=runL (L:=fun n1 j=>L40_1 fuel n n1 (t,((i:Int),((p:Int),()))) f (storT t p) ((allTo f).filter q) (decide ((f:Int)∈colOf ((storT t p).take j) i)) j) (len:=(storT t p).length) (K:=L40_0 fuel n (t,((i:Int),((p:Int),()))) (storT t p) ((allTo (f+1)).filter q) ((f+1:Nat):Int)) (fun n1 j hj=>?_) (fun n1=>?_) (storT t p).length fuel 0 (by omega) (by omega)
   . exact inner
   . try dsimp only
     rw [L40_1_succ]
     try delta lenI
     have hw:=stor_wide hT hj
     have e:colOf ((storT t p).take (j+1)) i=colOf ((storT t p).take j) i++[((storT t p).getD j []).getD i 0]:=col_take hj
     simp only [Int.toNat_natCast,dT (show (j:Int)<(storT t p).length by omega),inbT (show (0:Int)<=j by omega) (show (j:Int)<(storT t p).length by omega),inbT (show (0:Int)<=i by omega) (show (i:Int)<((storT t p).getD j []).length by omega),cond_true,wn (show j<1000000000 by omega)]
     rw [e]
     by_cases g:(f:Int)∈colOf ((storT t p).take j) i
     . simp only [dT g,dT (show (f:Int)∈colOf ((storT t p).take j) i++[((storT t p).getD j []).getD i 0] from List.mem_append_left _ g)]
     . simp only [dF g]
       congr 1
       by_cases g2:((storT t p).getD j []).getD i 0=f
       . rw [eT g2,dT (show (f:Int)∈colOf ((storT t p).take j) i++[((storT t p).getD j []).getD i 0] from List.mem_append_right _ (by rw [g2];simp))]
       . rw [eF g2,dF fun h=>?_]
         rcases List.mem_append.1 h with h|h
         . exact g h
         . rw [List.mem_singleton] at h;exact g2 h.symm
   . try dsimp only
     rw [L40_1_succ]
     try delta lenI
     have ho:=hout f
     have e:(allTo (f+1)).filter q=(allTo f).filter q++(if q f then [(f:Int)] else []):=by
      rw [allTo_succ,List.filter_append]
      congr 1
      simp [List.filter_cons]
     simp only [dF (show ¬ (((storT t p).length:Nat):Int)<(storT t p).length by omega),List.take_length]
     rw [e]
     by_cases g:(f:Int)∈colOf (storT t p) i
     . have g2:q f=true:=decide_eq_true g
       simp only [dT g,g2,if_true,fitsT (xs:=(allTo f).filter q) (ys:=[(f:Int)]) (by simp only [List.length_cons,List.length_nil];omega),cond_true,wn (show f<1000000000 by omega)]
     . have g2:q f=false:=decide_eq_false g
       simp only [dF g,g2,Bool.false_eq_true,if_false,List.append_nil,wn (show f<1000000000 by omega)]
 . try dsimp only
   rw [L40_0_succ]
   simp only [dF (show ¬ (((10:Nat):Int)<=9) by omega)]
   rfl
theorem f35_no {t:TREE} (h:¬ TreeOK t):f35 (t,()) = .ret ([],(2,())):=by
 unfold f35 F35
 simp only [no55 h,Bool.not_false]
 rfl
theorem f76_at {t:TREE} (ht:TreeOK t) {i p:Nat} (h0:0<i) (hi:i<t.2.1.length) (hp:(p:Int)<t.1):f76 (t,((i:Int),((p:Int),()))) = .ret (wordT t i p):=by
 have hfb:=fuel_big
 have hc:=ht.copies
 have hT:=ht.treeP (place:=p) (by omega) hp
 have hsl:=stor_len hT
 have hpi:0<=(t.2.1.getD i NODE0).1/\(t.2.1.getD i NODE0).1<i:=ht.par i h0 hi
 unfold f76 F76
 simp only [f67_at hT]
 have key:=runL (L:=fun n j=>L76_0 fuel n (t,((i:Int),((p:Int),()))) (storT t p) (((storT t p).take j).countP (errAt t i):Nat) j) (len:=(storT t p).length) (K:=.ret (wordT t i p)) (fun n j hj=>?_) (fun n=>?_) (storT t p).length fuel 0 (by omega) (by omega)
 . exact key
 . try dsimp only
   rw [L76_0_succ]
   try delta lenI
   have hw:=stor_wide hT hj
   have hk:((storT t p).take j).countP (errAt t i)<=1000:=Nat.le_trans List.countP_le_length (by rw [List.length_take];omega)
   have ep:((t.2.1.getD i NODE0).1).toNat=parN t i:=rfl
   simp only [Int.toNat_natCast,dT (show (j:Int)<(storT t p).length by omega),inbT (show (0:Int)<=j by omega) (show (j:Int)<(storT t p).length by omega),inbT (show (0:Int)<=i by omega) (show (i:Int)<((storT t p).getD j []).length by omega),inbT (show (0:Int)<=i by omega) (show (i:Int)<t.2.1.length by omega),inbT hpi.1 (show (t.2.1.getD i NODE0).1<((storT t p).getD j []).length by omega),cond_true,wn (show j<1000000000 by omega),ep,wn (show ((storT t p).take j).countP (errAt t i)<1000000000 by omega)]
   rw [take_count (z:=[]) hj]
   by_cases g:((storT t p).getD j []).getD i 0=((storT t p).getD j []).getD (parN t i) 0
   . rw [show errAt t i ((storT t p).getD j [])=false from decide_eq_false fun h=>h g]
     simp only [nF g,Bool.false_eq_true,if_false,Nat.add_zero]
   . rw [show errAt t i ((storT t p).getD j [])=true from decide_eq_true g]
     simp only [nT g,if_true]
 . try dsimp only
   rw [L76_0_succ]
   try delta lenI
   simp only [dF (show ¬ (((storT t p).length:Nat):Int)<(storT t p).length by omega),List.take_length]
   have ew:(storT t p).countP (errAt t i)=wrongT t i p:=rfl
   rw [ew]
   unfold wordT
   by_cases g:wrongT t i p=0
   . simp only [eT (show (wrongT t i p:Int)=0 by omega),if_pos g]
   . by_cases g2:wrongT t i p=(storT t p).length
     . simp only [eF (show (wrongT t i p:Int)≠0 by omega),eT (show (wrongT t i p:Int)=(storT t p).length by omega),if_neg g,if_pos g2]
     . simp only [eF (show (wrongT t i p:Int)≠0 by omega),eF (show (wrongT t i p:Int)≠(storT t p).length by omega),if_neg g,if_neg g2]
theorem blame_zero {t:TREE} (ht:TreeOK t):blameT t 0=1:=by
 have hz:∀ p,wrongT t 0 p=0:=fun p=>by
  unfold wrongT
  rw [List.countP_eq_zero]
  intro l _
  have:parN t 0=0:=by unfold parN;rw [ht.par0];rfl
  unfold errAt
  rw [this]
  simp
 unfold blameT
 have n2:¬ everT t 0:=fun ⟨p,h1,h2⟩=>by rw [hz] at h2;omega
 have n1:¬ alwaysT t 0:=fun ⟨p,h1,h2⟩=>by
  have hT:=ht.treeP (place:=p) (by omega) (by omega)
  have hn:0<(storT t p).length:=List.length_pos_iff.2 (stor_ne hT)
  rw [hz] at h2
  omega
 rw [if_neg n1,if_neg n2]
theorem f38_at {t:TREE} (ht:TreeOK t):f38 (t,()) = .ret (blamesT t):=by
 have hfb:=fuel_big
 have hc:=ht.copies
 obtain ⟨P,hP,hP1,hP3⟩:=ht.pl
 unfold f38 F38
 have key:=runL (L:=fun n i=>L38_0 fuel n (t,()) ((List.range i).map (blameT t)) i) (len:=t.2.1.length) (K:=.ret (blamesT t)) (fun n i hi=>?_) (fun n=>?_) t.2.1.length fuel 0 (by omega) (by omega)
 . exact key
 . try dsimp only
   rw [L38_0_succ]
   try delta lenI
   simp only [dT (show (i:Int)<t.2.1.length by omega)]
   have hf:∀ x:Int,fits ((List.range i).map (blameT t)) [x]=true:=fun x=>fitsT (by simp;omega)
   rw [rangeMap_succ]
   by_cases e:0<i
   . have inner:=runL (L:=fun n1 p=>L38_1 fuel n n1 (t,()) i ((List.range i).map (blameT t)) (wordTo t i p) p) (len:=P) (K:=L38_0 fuel n (t,()) ((List.range i).map (blameT t)++[blameT t i]) ((i+1:Nat):Int)) (fun n1 p hp=>?_) (fun n1=>?_) P fuel 0 (by omega) (by omega)
     . exact inner
     . try dsimp only
       rw [L38_1_succ]
       simp only [dT (show (p:Int)<t.1 by omega),dT (show (i:Int) > 0 by omega),f76_at ht e hi (p:=p) (by omega),wn (show p<1000000000 by omega)]
       rfl
     . try dsimp only
       rw [L38_1_succ]
       simp only [dF (show ¬ ((P:Nat):Int)<t.1 by omega),hf,cond_true,wn (show i<1000000000 by omega)]
       rw [show P=t.1.toNat by omega,wordTo_blame ht]
   . obtain rfl:i=0:=by omega
     obtain ⟨m,hm⟩:∃ m,fuel=m+1:=⟨fuel - 1,by omega⟩
     have e0:L38_1 fuel n fuel (t,()) ((0:Nat):Int) ((List.range 0).map (blameT t)) 1 0=L38_1 fuel n (m+1) (t,()) ((0:Nat):Int) ((List.range 0).map (blameT t)) 1 0:=by rw [hm]
     rw [e0,L38_1_succ]
     simp only [dT (show (0:Int)<t.1 by omega),dF (show ¬ (((0:Nat):Int) > 0) by omega),hf,cond_true,blame_zero ht]
     rfl
 . try dsimp only
   rw [L38_0_succ]
   try delta lenI
   simp only [dF (show ¬ ((t.2.1.length:Nat):Int)<t.2.1.length by omega)]
   rfl
end Go.V
namespace Go.V
open Go.Proofs
@[irreducible] def f13v:lt1->Out Bool:=veil f13
theorem f13v_eq:f13v=f13:=by unfold f13v;exact veil_eq f13
def sp13v:Spec:=⟨13,.call,ty2,.bool,false,false,f13v⟩
theorem c13v:Contract Tryz.prog sp13v:=by
 unfold sp13v
 rw [f13v_eq]
 exact c13
@[irreducible] def f17v:lt1->Out Bool:=veil f17
theorem f17v_eq:f17v=f17:=by unfold f17v;exact veil_eq f17
def sp17v:Spec:=⟨17,.call,ty2,.bool,false,false,f17v⟩
theorem c17v:Contract Tryz.prog sp17v:=by
 unfold sp17v
 rw [f17v_eq]
 exact c17
@[irreducible] def f18v:lt4->Out Bool:=veil f18
theorem f18v_eq:f18v=f18:=by unfold f18v;exact veil_eq f18
def sp18v:Spec:=⟨18,.call,ty6,.bool,false,false,f18v⟩
theorem c18v:Contract Tryz.prog sp18v:=by
 unfold sp18v
 rw [f18v_eq]
 exact c18
@[irreducible] def f38v:lt1->Out (List Int):=veil f38
theorem f38v_eq:f38v=f38:=by unfold f38v;exact veil_eq f38
def sp38v:Spec:=⟨38,.call,ty2,(.list (.int .i64)),false,true,f38v⟩
theorem c38v:Contract Tryz.prog sp38v:=by
 unfold sp38v
 rw [f38v_eq]
 exact c38
@[irreducible] def f39v:lt4->Out Bool:=veil f39
theorem f39v_eq:f39v=f39:=by unfold f39v;exact veil_eq f39
def sp39v:Spec:=⟨39,.call,ty6,.bool,false,false,f39v⟩
theorem c39v:Contract Tryz.prog sp39v:=by
 unfold sp39v
 rw [f39v_eq]
 exact c39
@[irreducible] def f40v:lt6->Out (List Int):=veil f40
theorem f40v_eq:f40v=f40:=by unfold f40v;exact veil_eq f40
def sp40v:Spec:=⟨40,.call,ty9,(.list (.int .i64)),false,true,f40v⟩
theorem c40v:Contract Tryz.prog sp40v:=by
 unfold sp40v
 rw [f40v_eq]
 exact c40
end Go.V
namespace Go.V
open Go.Proofs
theorem b22:((2:Int)==2)=true:=rfl
theorem b00:((0:Int)==0)=true:=rfl
theorem n00:((0:Int) != 0)=false:=rfl
theorem bl0:(lenI ([]:List Int)==(0:Int))=true:=rfl
theorem nt:(!true)=false:=rfl
theorem nf:(!false)=true:=rfl
theorem copy_cases (t:TREE) (n:Int):(IsCopy t n/\decide (0<=n/\n<(t.2.1.length:Int))=true)\/(¬ IsCopy t n/\decide (0<=n/\n<(t.2.1.length:Int))=false):=by
 by_cases h:0<=n/\n<(t.2.1.length:Int)
 . exact .inl ⟨⟨h.1,h.2⟩,dT h⟩
 . exact .inr ⟨fun h2=>h ⟨h2.l,h2.h⟩,dF h⟩
theorem place_cases (t:TREE) (n:Int):(IsPlace t n/\decide (0<=n/\n<t.1)=true)\/(¬ IsPlace t n/\decide (0<=n/\n<t.1)=false):=by
 by_cases h:0<=n/\n<t.1
 . exact .inl ⟨⟨h.1,h.2⟩,dT h⟩
 . exact .inr ⟨fun h2=>h ⟨h2.l,h2.h⟩,dF h⟩
theorem IsCopy.nat {t:TREE} {n:Int} (h:IsCopy t n):∃ i:Nat,n=i/\i<t.2.1.length:=⟨n.toNat,by have:=h.l;omega,by have:=h.l;have:=h.h;omega⟩
theorem IsPlace.nat {t:TREE} {n:Int} (h:IsPlace t n):∃ i:Nat,n=i/\(i:Int)<t.1:=⟨n.toNat,by have:=h.l;omega,by have:=h.l;have:=h.h;omega⟩
theorem TreeOK.small {t:TREE} (h:TreeOK t):t.2.1.length<1000000:=by have:=h.copies;omega
end Go.V
namespace Go.V
open Go.Proofs
def specs7:List Spec:=[sp13v,sp14v,sp35v,sp36v,sp17v,sp38v,sp37v,sp18v,sp39v,sp40v,sp19v]
def hints7:List (Nat×List Nat):=[]
def F7 (N:Nat) (x:lt6):Out Bool:=match f13v (x.1,()) with | .ret r_1=>(match (!r_1) with|true=>(match f14v () with | .ret r=>.ret r | .pan p=>.pan p | .fail=>.fail)|false=>match f35v (x.1,()) with | .ret r_5=>(match f36v (x.1,(x.2.1,(x.2.2.1,()))) with | .ret r_7=>(match f17v (x.1,()) with | .ret r_9=>(match (!r_9) with|true=>(match (r_5.2.1==2) with|true=>(match ((lenI r_5.1)==0) with|true=>(match (r_7.2.1==2) with|true=>(match ((lenI r_7.1)==0) with|true=>(match f14v () with | .ret r=>.ret r | .pan p=>.pan p | .fail=>.fail)|false=>.ret false)|false=>.ret false)|false=>.ret false)|false=>.ret false)|false=>match (r_5.2.1 != 0) with|true=>.ret false|false=>match f38v (x.1,()) with | .ret r_13=>(match f37v (r_5.1,(r_13,())) with | .ret r_15=>(match (!r_15) with|true=>.ret false|false=>match f18v (x.1,(x.2.1,())) with | .ret r_17=>(match (!r_17) with|true=>(match (r_7.2.1==2) with|true=>(match ((lenI r_7.1)==0) with|true=>(match f14v () with | .ret r=>.ret r | .pan p=>.pan p | .fail=>.fail)|false=>.ret false)|false=>.ret false)|false=>match f39v (x.1,(x.2.2.1,())) with | .ret r_21=>(match (!r_21) with|true=>(match (r_7.2.1==2) with|true=>(match ((lenI r_7.1)==0) with|true=>(match f14v () with | .ret r=>.ret r | .pan p=>.pan p | .fail=>.fail)|false=>.ret false)|false=>.ret false)|false=>match (r_7.2.1==0) with|true=>(match f40v (x.1,(x.2.1,(x.2.2.1,()))) with | .ret r_25=>(match f19v (r_7.1,(r_25,())) with | .ret r_27=>(match r_27 with|true=>(match f14v () with | .ret r=>.ret r | .pan p=>.pan p | .fail=>.fail)|false=>.ret false) | .pan p=>.pan p | .fail=>.fail) | .pan p=>.pan p | .fail=>.fail)|false=>.ret false) | .pan p=>.pan p | .fail=>.fail) | .pan p=>.pan p | .fail=>.fail) | .pan p=>.pan p | .fail=>.fail) | .pan p=>.pan p | .fail=>.fail) | .pan p=>.pan p | .fail=>.fail) | .pan p=>.pan p | .fail=>.fail) | .pan p=>.pan p | .fail=>.fail) | .pan p=>.pan p | .fail=>.fail
theorem e7 (N:Nat) (x:lt6):vfn Tryz.prog (phi specs7) hints7 N Tryz.f7 false false ty9 .bool x=F7 N x:=by kernel_rfl
def f7 (x:lt6):Out Bool:=F7 fuel x
def sp7:Spec:=⟨7,.call,ty9,.bool,false,false,f7⟩
theorem c7:Contract Tryz.prog sp7:=contract_at (l:=specs7) (arg:=ty9) (res:=.bool) (multi:=false) (own:=false) (F:=f7) mixed (all_cons c13v (all_cons c14v (all_cons c35v (all_cons c36v (all_cons c17v (all_cons c38v (all_cons c37v (all_cons c18v (all_cons c39v (all_cons c40v (all_cons c19v all_nil))))))))))) Tryz.func7 rfl hints7 fun x _=>⟨fuel,e7 fuel x⟩
end Go.V
namespace Go.V
open Go.Proofs
theorem blames_len (t:TREE):(blamesT t).length=t.2.1.length:=by unfold blamesT;simp
theorem can_len (t:TREE) (i p:Nat):(canT t i p).length<=10:=Nat.le_trans (List.length_filter_le _ _) (by decide)
theorem law7 (t:TREE) (a b:Int):f7 (t,(a,(b,()))) = .ret true:=by
 show F7 fuel (t,(a,(b,())))=_
 unfold F7
 obtain ⟨c,h13⟩:=f13_at t
 simp only [f13v_eq,f35v_eq,f36v_eq,f17v_eq,f18v_eq,f37v_eq,f38v_eq,f39v_eq,f40v_eq,f19v_eq,h13]
 cases c with
 | false=>simp only [nf,known_true]
 | true =>
  simp only [nt]
  by_cases ht:TreeOK t
  rotate_left
  . simp only [f35_no ht,f36_no (t:=t) (a:=a) (b:=b) fun h=>ht h.1,no17 ht,nf,b22,bl0,known_true]
  have hs:=ht.small
  simp only [ht.t17,nt,f18_at (t:=t) _ hs,f35_at ht,n00,f38_at ht,f37_at (blamesT t) (blamesT t) (by rw [blames_len];exact hs),decide_true]
  rcases copy_cases t a with ⟨ha,ea⟩|⟨ha,ea⟩
  rotate_left
  . simp only [ea,nf,f36_no (t:=t) (a:=a) (b:=b) fun h=>ha h.2.1,b22,bl0,known_true]
  simp only [ea,nt,f39_at ht]
  rcases place_cases t b with ⟨hb,eb⟩|⟨hb,eb⟩
  rotate_left
  . simp only [eb,nf,f36_no (t:=t) (a:=a) (b:=b) fun h=>hb h.2.2,b22,bl0,known_true]
  obtain ⟨i,rfl,hi⟩:=ha.nat
  obtain ⟨p,rfl,hp⟩:=hb.nat
  have hl:=can_len t i p
  simp only [eb,nt,f36_at ht hi hp,b00,f40_at ht hi hp,f19_at (canT t i p) (canT t i p) (by omega),decide_true,known_true]
end Go.V
end
