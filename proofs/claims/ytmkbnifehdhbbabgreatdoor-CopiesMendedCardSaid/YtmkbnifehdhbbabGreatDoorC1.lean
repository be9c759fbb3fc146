/- A part of the proof of a law of the copies. -/
import Derived.Test.YtmkbnifehdhbbabGreatDoorCH
set_option linter.all false
noncomputable section
namespace Go.V
open Go.Proofs
def specs19:List Spec:=[]
def hints19:List (Nat×List Nat):=[(4,[0,1,5])]
def L19_0 (N:Nat) (n_L19_0:Nat) (x:lt5) (i_1:Int):Out Bool :=
 vloop Tryz.prog (phi specs19) hints19 N Tryz.f17 false false .bool [.at 1,.at 1,.at 0,.at 1,.at 0] n_L19_0 [.d (.list (.int .i64)) x.1,.d (.list (.int .i64)) x.2.1,U,U,U,.d (.int .i64) i_1,U,U,U,U,U,U,U,U,U,U,U,U,U,U,U,U,U,U,U,U]
theorem L19_0_succ (N:Nat) (n_L19_0:Nat) (x:lt5) (i_1:Int):L19_0 N  (n_L19_0+1) x i_1 =
 (match (decide (i_1<(lenI x.1))) with|true=>bif (inb i_1 x.1.length) then bif (inb i_1 x.2.1.length) then match ((List.getD x.1 i_1.toNat 0) != (List.getD x.2.1 i_1.toNat 0)) with|true=>.ret false|false=>L19_0 N n_L19_0 x (IntKind.i64.wrap (i_1+1)) else .fail else .fail|false=>.ret true:Out Bool):=by kernel_rfl
def F19 (N:Nat) (x:lt5):Out Bool:=match ((lenI x.1) != (lenI x.2.1)) with|true=>.ret false|false=>L19_0 N N x 0
theorem e19 (N:Nat) (x:lt5):vfn Tryz.prog (phi specs19) hints19 N Tryz.f17 false false ty7 .bool x=F19 N x:=by kernel_rfl
def f19 (x:lt5):Out Bool:=F19 fuel x
def sp19:Spec:=⟨17,.call,ty7,.bool,false,false,f19⟩
theorem c19:Contract Tryz.prog sp19:=contract_at (l:=specs19) (arg:=ty7) (res:=.bool) (multi:=false) (own:=false) (F:=f19) mixed all_nil Tryz.func17 rfl hints19 fun x _=>⟨fuel,e19 fuel x⟩
def specs28:List Spec:=[sp19]
def hints28:List (Nat×List Nat):=[(4,[0,1,5])]
def L28_0 (N:Nat) (n_L28_0:Nat) (x:lt18) (i_1:Int):Out Bool :=
 vloop Tryz.prog (phi specs28) hints28 N Tryz.f52 false false .bool [.at 1,.at 1,.at 0,.at 1,.at 0] n_L28_0 [.d ty1 x.1,.d ty1 x.2.1,U,U,U,.d (.int .i64) i_1,U,U,U,U,U,U,U,U,U,U,U,U,U,U,U,U,U,U,U,U,U]
theorem L28_0_succ (N:Nat) (n_L28_0:Nat) (x:lt18) (i_1:Int):L28_0 N  (n_L28_0+1) x i_1 =
 (match (decide (i_1<(lenI x.1))) with|true=>bif (inb i_1 x.1.length) then bif (inb i_1 x.2.1.length) then match f19 ((List.getD x.1 i_1.toNat []),((List.getD x.2.1 i_1.toNat []),())) with | .ret r_2=>(match (!r_2) with|true=>.ret false|false=>L28_0 N n_L28_0 x (IntKind.i64.wrap (i_1+1))) | .pan p=>.pan p | .fail=>.fail else .fail else .fail|false=>.ret true:Out Bool):=by kernel_rfl
def F28 (N:Nat) (x:lt18):Out Bool:=match ((lenI x.1) != (lenI x.2.1)) with|true=>.ret false|false=>L28_0 N N x 0
theorem e28 (N:Nat) (x:lt18):vfn Tryz.prog (phi specs28) hints28 N Tryz.f52 false false ty21 .bool x=F28 N x:=by kernel_rfl
def f28 (x:lt18):Out Bool:=F28 fuel x
def sp28:Spec:=⟨52,.call,ty21,.bool,false,false,f28⟩
theorem c28:Contract Tryz.prog sp28:=contract_at (l:=specs28) (arg:=ty21) (res:=.bool) (multi:=false) (own:=false) (F:=f28) mixed (all_cons c19 all_nil) Tryz.func52 rfl hints28 fun x _=>⟨fuel,e28 fuel x⟩
def specs37:List Spec:=[]
def hints37:List (Nat×List Nat):=[(4,[0,1,5])]
def L37_0 (N:Nat) (n_L37_0:Nat) (x:lt5) (i_1:Int):Out Bool :=
 vloop Tryz.prog (phi specs37) hints37 N Tryz.f53 false false .bool [.at 1,.at 1,.at 0,.at 1,.at 0] n_L37_0 [.d (.list (.int .i64)) x.1,.d (.list (.int .i64)) x.2.1,U,U,U,.d (.int .i64) i_1,U,U,U,U,U,U,U,U,U,U,U,U,U,U,U,U,U,U,U,U]
theorem L37_0_succ (N:Nat) (n_L37_0:Nat) (x:lt5) (i_1:Int):L37_0 N  (n_L37_0+1) x i_1 =
 (match (decide (i_1<(lenI x.1))) with|true=>bif (inb i_1 x.1.length) then bif (inb i_1 x.2.1.length) then match ((List.getD x.1 i_1.toNat 0) != (List.getD x.2.1 i_1.toNat 0)) with|true=>.ret false|false=>L37_0 N n_L37_0 x (IntKind.i64.wrap (i_1+1)) else .fail else .fail|false=>.ret true:Out Bool):=by kernel_rfl
def F37 (N:Nat) (x:lt5):Out Bool:=match ((lenI x.1) != (lenI x.2.1)) with|true=>.ret false|false=>L37_0 N N x 0
theorem e37 (N:Nat) (x:lt5):vfn Tryz.prog (phi specs37) hints37 N Tryz.f53 false false ty7 .bool x=F37 N x:=by kernel_rfl
def f37 (x:lt5):Out Bool:=F37 fuel x
def sp37:Spec:=⟨53,.call,ty7,.bool,false,false,f37⟩
theorem c37:Contract Tryz.prog sp37:=contract_at (l:=specs37) (arg:=ty7) (res:=.bool) (multi:=false) (own:=false) (F:=f37) mixed all_nil Tryz.func53 rfl hints37 fun x _=>⟨fuel,e37 fuel x⟩
def specs48:List Spec:=[]
def hints48:List (Nat×List Nat):=[]
def F48 (N:Nat) (x:Unit):Out (Int×lt22):=.ret (2,(([(0,(([4,7]:List Int),())),(0,(([(-1),(-1)]:List Int),())),(1,(([4,1]:List Int),())),(1,(([4,1]:List Int),())),(0,(([(-1),7]:List Int),())),(4,(([8,7]:List Int),()))]:List (Int×lt0)),()))
theorem e48 (N:Nat) (x:Unit):vfn Tryz.prog (phi specs48) hints48 N Tryz.f44 false false .unit ty12 x=F48 N x:=by kernel_rfl
def f48 (x:Unit):Out (Int×lt22):=F48 fuel x
def sp48:Spec:=⟨44,.call,.unit,ty12,false,false,f48⟩
theorem c48:Contract Tryz.prog sp48:=contract_at (l:=specs48) (arg:=.unit) (res:=ty12) (multi:=false) (own:=false) (F:=f48) mixed all_nil Tryz.func44 rfl hints48 fun x _=>⟨fuel,e48 fuel x⟩
def specs49:List Spec:=[]
def hints49:List (Nat×List Nat):=[]
def F49 (N:Nat) (x:Unit):Out (List (List Int)):=.ret ([([4,7]:List Int),([4,1]:List Int),([4,1]:List Int),([4,1]:List Int),([4,7]:List Int),([8,7]:List Int)]:List (List Int))
theorem e49 (N:Nat) (x:Unit):vfn Tryz.prog (phi specs49) hints49 N Tryz.f45 false true .unit ty1 x=F49 N x:=by kernel_rfl
def f49 (x:Unit):Out (List (List Int)):=F49 fuel x
def sp49:Spec:=⟨45,.call,.unit,ty1,false,true,f49⟩
theorem c49:Contract Tryz.prog sp49:=contract_at (l:=specs49) (arg:=.unit) (res:=ty1) (multi:=false) (own:=true) (F:=f49) mixed all_nil Tryz.func45 rfl hints49 fun x _=>⟨fuel,e49 fuel x⟩
def specs53:List Spec:=[]
def hints53:List (Nat×List Nat):=[(4,[0,1,5])]
def L53_0 (N:Nat) (n_L53_0:Nat) (x:lt17) (i_1:Int):Out Bool :=
 vloop Tryz.prog (phi specs53) hints53 N Tryz.f36 false false .bool [.at 1,.at 1,.at 0,.at 1,.at 0] n_L53_0 [.d (.list (.prod (.int .i64) (.prod (.int .i64) .unit))) x.1,.d (.list (.prod (.int .i64) (.prod (.int .i64) .unit))) x.2.1,U,U,U,.d (.int .i64) i_1,U,U,U,U,U,U,U,U,U,U,U,U,U,U,U,U,U,U,U,U]
theorem L53_0_succ (N:Nat) (n_L53_0:Nat) (x:lt17) (i_1:Int):L53_0 N  (n_L53_0+1) x i_1 =
 (match (decide (i_1<(lenI x.1))) with|true=>bif (inb i_1 x.1.length) then bif (inb i_1 x.2.1.length) then match (neB (eqI ((List.getD x.1 i_1.toNat (0,(0,())))).1 ((List.getD x.2.1 i_1.toNat (0,(0,())))).1 && (eqI ((List.getD x.1 i_1.toNat (0,(0,())))).2.1 ((List.getD x.2.1 i_1.toNat (0,(0,())))).2.1 && true))) with|true=>.ret false|false=>L53_0 N n_L53_0 x (IntKind.i64.wrap (i_1+1)) else .fail else .fail|false=>.ret true:Out Bool):=by kernel_rfl
def F53 (N:Nat) (x:lt17):Out Bool:=match ((lenI x.1) != (lenI x.2.1)) with|true=>.ret false|false=>L53_0 N N x 0
theorem e53 (N:Nat) (x:lt17):vfn Tryz.prog (phi specs53) hints53 N Tryz.f36 false false ty22 .bool x=F53 N x:=by kernel_rfl
def f53 (x:lt17):Out Bool:=F53 fuel x
def sp53:Spec:=⟨36,.call,ty22,.bool,false,false,f53⟩
theorem c53:Contract Tryz.prog sp53:=contract_at (l:=specs53) (arg:=ty22) (res:=.bool) (multi:=false) (own:=false) (F:=f53) mixed all_nil Tryz.func36 rfl hints53 fun x _=>⟨fuel,e53 fuel x⟩
def F61 (N:Nat) (x:(Int×(Int×(Int×Unit)))):Out Bool:=match (decide (x.1 >= x.2.1)) with|true=>.ret (decide (x.1<=x.2.2.1))|false=>.ret false
def f61 (x:(Int×(Int×(Int×Unit)))):Out Bool:=F61 fuel x
def sp61:Spec:=⟨60,.call,ty10,.bool,false,false,f61⟩
def specs77:List Spec:=[]
def hints77:List (Nat×List Nat):=[(5,[0,3,4])]
def L77_0 (N:Nat) (n_L77_0:Nat) (x:lt0) (m_1:Int) (i_2:Int):Out Int :=
 vloop Tryz.prog (phi specs77) hints77 N Tryz.f89 false false (.int .i64) [.at 1,.at 1,.at 1,.at 0,.at 1,.at 0] n_L77_0 [.d (.list (.int .i64)) x.1,U,U,.d (.int .i64) m_1,.d (.int .i64) i_2,U,U,U,U,U,U,U,U,U,U,U,U,U,U,U,U,U,U,U,U]
theorem L77_0_succ (N:Nat) (n_L77_0:Nat) (x:lt0) (m_1:Int) (i_2:Int):L77_0 N  (n_L77_0+1) x m_1 i_2 =
 (match (decide (i_2<(lenI x.1))) with|true=>bif (inb i_2 x.1.length) then L77_0 N n_L77_0 x (if (List.getD x.1 i_2.toNat 0) > m_1 then (List.getD x.1 i_2.toNat 0) else m_1) (IntKind.i64.wrap (i_2+1)) else .fail|false=>.ret m_1:Out Int):=by kernel_rfl
def F77 (N:Nat) (x:lt0):Out Int:=match (decide ((lenI x.1)<1)) with|true=>.pan (.iface 9 (toVal .str ((valOf .str ([115,108,105,99,101,115,46,77,97,120,58,32,101,109,112,116,121,32,108,105,115,116]:List UInt8)).getD [])))|false=>bif (inb 0 x.1.length) then L77_0 N N x (List.getD x.1 (0:Int).toNat 0) 1 else .fail
theorem e77 (N:Nat) (x:lt0):vfn Tryz.prog (phi specs77) hints77 N Tryz.f89 false false ty14 (.int .i64) x=F77 N x:=by kernel_rfl
def f77 (x:lt0):Out Int:=F77 fuel x
def sp77:Spec:=⟨89,.call,ty14,(.int .i64),false,false,f77⟩
theorem c77:Contract Tryz.prog sp77:=contract_at (l:=specs77) (arg:=ty14) (res:=(.int .i64)) (multi:=false) (own:=false) (F:=f77) mixed all_nil Tryz.func89 rfl hints77 fun x _=>⟨fuel,e77 fuel x⟩
def specs79:List Spec:=[]
def hints79:List (Nat×List Nat):=[]
def F79 (N:Nat) (x:lt31):Out Bool:=.ret (decide (x.1.2.2.1<x.2.1.2.2.1))
theorem e79 (N:Nat) (x:lt31):vfn Tryz.prog (phi specs79) hints79 N Tryz.f91 false false ty27 .bool x=F79 N x:=by kernel_rfl
def f79 (x:lt31):Out Bool:=F79 fuel x
def sp79:Spec:=⟨91,.call,ty27,.bool,false,false,f79⟩
theorem c79:Contract Tryz.prog sp79:=contract_at (l:=specs79) (arg:=ty27) (res:=.bool) (multi:=false) (own:=false) (F:=f79) mixed all_nil Tryz.func91 rfl hints79 fun x _=>⟨fuel,e79 fuel x⟩
def specs88:List Spec:=[]
def hints88:List (Nat×List Nat):=[(4,[0,1,12,13])]
def L88_0 (N:Nat) (n_L88_0:Nat) (x:lt5) (t13_1:Int):Out Bool :=
 vloop Tryz.prog (phi specs88) hints88 N Tryz.f67 false false .bool [.at 1,.at 1,.at 0,.at 1,.at 0] n_L88_0 [.d (.list (.int .i64)) x.1,.d (.list (.int .i64)) x.2.1,U,U,U,U,U,U,U,U,U,U,.d (.int .i64) (lenI x.1),.d (.int .i64) t13_1,U,U,U,U,U,U,U,U,U,U,U,U]
theorem L88_0_succ (N:Nat) (n_L88_0:Nat) (x:lt5) (t13_1:Int):L88_0 N  (n_L88_0+1) x t13_1 =
 (match (decide (t13_1<(lenI x.1))) with|true=>bif (inb t13_1 x.1.length) then bif (inb t13_1 x.2.1.length) then match ((List.getD x.1 t13_1.toNat 0) != (List.getD x.2.1 t13_1.toNat 0)) with|true=>.ret false|false=>L88_0 N n_L88_0 x (IntKind.i64.wrap (t13_1+1)) else .fail else .fail|false=>.ret true:Out Bool):=by kernel_rfl
def F88 (N:Nat) (x:lt5):Out Bool:=match ((lenI x.1) != (lenI x.2.1)) with|true=>.ret false|false=>L88_0 N N x 0
theorem e88 (N:Nat) (x:lt5):vfn Tryz.prog (phi specs88) hints88 N Tryz.f67 false false ty7 .bool x=F88 N x:=by kernel_rfl
def f88 (x:lt5):Out Bool:=F88 fuel x
def sp88:Spec:=⟨67,.call,ty7,.bool,false,false,f88⟩
theorem c88:Contract Tryz.prog sp88:=contract_at (l:=specs88) (arg:=ty7) (res:=.bool) (multi:=false) (own:=false) (F:=f88) mixed all_nil Tryz.func67 rfl hints88 fun x _=>⟨fuel,e88 fuel x⟩
def specs92 (g:(Int×Unit)->Out (List UInt8)):List Spec:=[⟨78,.call,(.prod (.int .i64) .unit),.str,false,false,g⟩]
def hints92:List (Nat×List Nat):=[]
def F92 (g:(Int×Unit)->Out (List UInt8)) (N:Nat) (x:(Int×Unit)):Out (List UInt8):=match (decide (x.1 > (-10))) with|true=>(match (decide (x.1<0)) with|true=>bif (decide (([45]:List UInt8).length+(toBytes ([(IntKind.u8.wrap (IntKind.i64.wrap (48 - x.1)))]:List Int)).length<1000000)) then .ret (([45]:List UInt8)++(toBytes ([(IntKind.u8.wrap (IntKind.i64.wrap (48 - x.1)))]:List Int))) else .fail|false=>match (decide (x.1<0)) with|true=>(match g ((IntKind.i64.wrap (x.1.tdiv 10)),()) with | .ret r_1=>bif (decide (r_1.length+(toBytes ([(IntKind.u8.wrap (IntKind.i64.wrap (48 - (x.1.tmod 10))))]:List Int)).length<1000000)) then .ret (r_1++(toBytes ([(IntKind.u8.wrap (IntKind.i64.wrap (48 - (x.1.tmod 10))))]:List Int))) else .fail | .pan p=>.pan p | .fail=>.fail)|false=>match (decide (x.1<10)) with|true=>.ret (toBytes ([(IntKind.u8.wrap (IntKind.i64.wrap (48+x.1)))]:List Int))|false=>match g ((IntKind.i64.wrap (x.1.tdiv 10)),()) with | .ret r_3=>bif (decide (r_3.length+(toBytes ([(IntKind.u8.wrap (IntKind.i64.wrap (48+(x.1.tmod 10))))]:List Int)).length<1000000)) then .ret (r_3++(toBytes ([(IntKind.u8.wrap (IntKind.i64.wrap (48+(x.1.tmod 10))))]:List Int))) else .fail | .pan p=>.pan p | .fail=>.fail)|false=>match (decide (x.1<0)) with|true=>(match g ((IntKind.i64.wrap (x.1.tdiv 10)),()) with | .ret r_5=>bif (decide (r_5.length+(toBytes ([(IntKind.u8.wrap (IntKind.i64.wrap (48 - (x.1.tmod 10))))]:List Int)).length<1000000)) then .ret (r_5++(toBytes ([(IntKind.u8.wrap (IntKind.i64.wrap (48 - (x.1.tmod 10))))]:List Int))) else .fail | .pan p=>.pan p | .fail=>.fail)|false=>match (decide (x.1<10)) with|true=>.ret (toBytes ([(IntKind.u8.wrap (IntKind.i64.wrap (48+x.1)))]:List Int))|false=>match g ((IntKind.i64.wrap (x.1.tdiv 10)),()) with | .ret r_7=>bif (decide (r_7.length+(toBytes ([(IntKind.u8.wrap (IntKind.i64.wrap (48+(x.1.tmod 10))))]:List Int)).length<1000000)) then .ret (r_7++(toBytes ([(IntKind.u8.wrap (IntKind.i64.wrap (48+(x.1.tmod 10))))]:List Int))) else .fail | .pan p=>.pan p | .fail=>.fail
theorem e92 (g:(Int×Unit)->Out (List UInt8)) (N:Nat) (x:(Int×Unit)):vfn Tryz.prog (phi (specs92 g)) hints92 N Tryz.f78 false false (.prod (.int .i64) .unit) .str x=F92 g N x:=by kernel_rfl
def f92r:Nat->(Int×Unit)->Out (List UInt8)
 | 0,_=>.fail
 | m+1,x=>F92 (f92r m) fuel x
theorem c92r:∀ m,Contract Tryz.prog ⟨78,.call,(.prod (.int .i64) .unit),.str,false,false,f92r m⟩
 | 0=>fun _ _ _ _ _ _ _=>trivial
 | m+1=>contract_at (l:=specs92 (f92r m)) (arg:=(.prod (.int .i64) .unit)) (res:=.str) (multi:=false) (own:=false) (F:=f92r (m+1)) mixed (all_cons (c92r m) all_nil) Tryz.func78 rfl hints92 fun x _=>⟨fuel,e92 (f92r m) fuel x⟩
def f92 (x:(Int×Unit)):Out (List UInt8):=f92r fuel x
def sp92:Spec:=⟨78,.call,(.prod (.int .i64) .unit),.str,false,false,f92⟩
theorem c92:Contract Tryz.prog sp92:=c92r fuel
def specs93:List Spec:=[sp92]
def hints93:List (Nat×List Nat):=[(3,[0,1,5,6,7]),(6,[0,1,5,6,7,8])]
def L93_0 (N:Nat) (n_L93_0:Nat) (x:((List (List UInt8))×(Int×Unit))) (out_1:(List UInt8)) (check_2:Int) (i_3:Int):Out (List UInt8) :=
 vloop Tryz.prog (phi specs93) hints93 N Tryz.f79 false false .str [.at 1,.at 1,.at 0,.at 1,.at 0] n_L93_0 [.d (.list .str) x.1,.d (.int .i64) x.2.1,U,U,U,.d .str out_1,.d (.int .i64) check_2,.d (.int .i64) i_3,U,U,U,U,U,U,U,U,U,U,U,U,U,U,U,U,U,U,U,U,U,U,U,U,U,U,U,U,U,U,U,U,U,U,U,U,U,U,U,U,U,U,U,U,U,U,U,U,U,U,U,U,U,U,U,U,U]
def F93 (N:Nat) (x:((List (List UInt8))×(Int×Unit))):Out (List UInt8):=L93_0 N N x ([]:List UInt8) 0 0
theorem e93 (N:Nat) (x:((List (List UInt8))×(Int×Unit))):vfn Tryz.prog (phi specs93) hints93 N Tryz.f79 false false (.prod (.list .str) (.prod (.int .i64) .unit)) .str x=F93 N x:=by kernel_rfl
def f93 (x:((List (List UInt8))×(Int×Unit))):Out (List UInt8):=F93 fuel x
def sp93:Spec:=⟨79,.call,(.prod (.list .str) (.prod (.int .i64) .unit)),.str,false,false,f93⟩
theorem c93:Contract Tryz.prog sp93:=contract_at (l:=specs93) (arg:=(.prod (.list .str) (.prod (.int .i64) .unit))) (res:=.str) (multi:=false) (own:=false) (F:=f93) mixed (all_cons c92 all_nil) Tryz.func79 rfl hints93 fun x _=>⟨fuel,e93 fuel x⟩
def specs94:List Spec:=[]
def hints94:List (Nat×List Nat):=[]
def F94 (N:Nat) (x:(Int×(Int×(Int×Unit)))):Out Bool:=match (decide (x.1 >= x.2.1)) with|true=>.ret (decide (x.1<=x.2.2.1))|false=>.ret false
theorem e94 (N:Nat) (x:(Int×(Int×(Int×Unit)))):vfn Tryz.prog (phi specs94) hints94 N Tryz.f95 false false ty10 .bool x=F94 N x:=by kernel_rfl
def f94 (x:(Int×(Int×(Int×Unit)))):Out Bool:=F94 fuel x
def sp94:Spec:=⟨95,.call,ty10,.bool,false,false,f94⟩
theorem c94:Contract Tryz.prog sp94:=contract_at (l:=specs94) (arg:=ty10) (res:=.bool) (multi:=false) (own:=false) (F:=f94) mixed all_nil Tryz.func95 rfl hints94 fun x _=>⟨fuel,e94 fuel x⟩
def specs106:List Spec:=[]
def hints106:List (Nat×List Nat):=[]
def F106 (N:Nat) (x:lt30):Out Bool:=bif (inb x.2.1 x.1.2.1.length) then bif (inb x.2.2.1 ((List.getD x.1.2.1 x.2.1.toNat (0,([],())))).2.1.length) then match ((List.getD ((List.getD x.1.2.1 x.2.1.toNat (0,([],())))).2.1 x.2.2.1.toNat 0)==(-1)) with|true=>.ret true|false=>.ret ((List.getD ((List.getD x.1.2.1 x.2.1.toNat (0,([],())))).2.1 x.2.2.1.toNat 0)==x.2.2.2.1) else .fail else .fail
theorem e106 (N:Nat) (x:lt30):vfn Tryz.prog (phi specs106) hints106 N Tryz.f100 false false ty28 .bool x=F106 N x:=by kernel_rfl
def f106 (x:lt30):Out Bool:=F106 fuel x
def sp106:Spec:=⟨100,.call,ty28,.bool,false,false,f106⟩
theorem c106:Contract Tryz.prog sp106:=contract_at (l:=specs106) (arg:=ty28) (res:=.bool) (multi:=false) (own:=false) (F:=f106) mixed all_nil Tryz.func100 rfl hints106 fun x _=>⟨fuel,e106 fuel x⟩
def specs107:List Spec:=[]
def hints107:List (Nat×List Nat):=[(3,[1,3,7,14,15,16])]
def L107_0 (N:Nat) (n_L107_0:Nat) (x:lt19) (n_1:Int) (t16_2:Int):Out Int :=
 vloop Tryz.prog (phi specs107) hints107 N Tryz.f118 false false (.int .i64) [.at 1,.at 1,.at 0,.at 1,.at 0] n_L107_0 [U,.d (.int .i64) x.2.1,U,.box [.d (.int .i64) x.1.1.1.1,.d ty0 x.1.1.1.2.1,.d ty1 x.1.1.2.1,.d ty11 x.1.2.1],U,U,U,.d (.int .i64) n_1,U,U,U,U,U,U,.d ty1 (List.getD x.1.2.1 x.2.2.1.toNat ([]:List (List Int))),.d (.int .i64) (lenI (List.getD x.1.2.1 x.2.2.1.toNat ([]:List (List Int)))),.d (.int .i64) t16_2,U,U,U,U,U,U,U,U,U,U,U,U,U,U,U,U,U,U,U,U,U,U,U]
theorem L107_0_succ (N:Nat) (n_L107_0:Nat) (x:lt19) (n_1:Int) (t16_2:Int):L107_0 N  (n_L107_0+1) x n_1 t16_2 =
 (match (decide (t16_2<(lenI (List.getD x.1.2.1 x.2.2.1.toNat [])))) with|true=>bif (inb t16_2 (List.getD x.1.2.1 x.2.2.1.toNat []).length) then bif (inb x.2.1 (List.getD (List.getD x.1.2.1 x.2.2.1.toNat []) t16_2.toNat []).length) then bif (inb x.2.1 x.1.1.1.2.1.length) then bif (inb ((List.getD x.1.1.1.2.1 x.2.1.toNat (0,([],())))).1 (List.getD (List.getD x.1.2.1 x.2.2.1.toNat []) t16_2.toNat []).length) then match ((List.getD (List.getD (List.getD x.1.2.1 x.2.2.1.toNat []) t16_2.toNat []) x.2.1.toNat 0) != (List.getD (List.getD (List.getD x.1.2.1 x.2.2.1.toNat []) t16_2.toNat []) ((List.getD x.1.1.1.2.1 x.2.1.toNat (0,([],())))).1.toNat 0)) with|true=>L107_0 N n_L107_0 x (IntKind.i64.wrap (n_1+1)) (IntKind.i64.wrap (t16_2+1))|false=>L107_0 N n_L107_0 x n_1 (IntKind.i64.wrap (t16_2+1)) else .fail else .fail else .fail else .fail|false=>.ret n_1:Out Int):=by kernel_rfl
def F107 (N:Nat) (x:lt19):Out Int:=bif (inb x.2.2.1 x.1.2.1.length) then L107_0 N N x 0 0 else .fail
theorem e107 (N:Nat) (x:lt19):vfn Tryz.prog (phi specs107) hints107 N Tryz.f118 false false ty33 (.int .i64) x=F107 N x:=by kernel_rfl
def f107 (x:lt19):Out Int:=F107 fuel x
def sp107:Spec:=⟨118,.call,ty33,(.int .i64),false,false,f107⟩
theorem c107:Contract Tryz.prog sp107:=contract_at (l:=specs107) (arg:=ty33) (res:=(.int .i64)) (multi:=false) (own:=false) (F:=f107) mixed all_nil Tryz.func118 rfl hints107 fun x _=>⟨fuel,e107 fuel x⟩
def specs113:List Spec:=[]
def hints113:List (Nat×List Nat):=[]
def F113 (N:Nat) (x:(Bool×lt7)):Out Unit:=match (!x.1) with|true=>.pan (.iface 146 (toVal (.prod .str .unit) ((valOf (.prod .str .unit) x.2).getD [])))|false=>.ret ()
theorem e113 (N:Nat) (x:(Bool×lt7)):vfn Tryz.prog (phi specs113) hints113 N Tryz.f110 true false (.prod .bool (.prod .str .unit)) .unit x=F113 N x:=by kernel_rfl
def f113 (x:(Bool×lt7)):Out Unit:=F113 fuel x
def sp113:Spec:=⟨110,.call,(.prod .bool (.prod .str .unit)),.unit,true,false,f113⟩
theorem c113:Contract Tryz.prog sp113:=contract_at (l:=specs113) (arg:=(.prod .bool (.prod .str .unit))) (res:=.unit) (multi:=true) (own:=false) (F:=f113) mixed all_nil Tryz.func110 rfl hints113 fun x _=>⟨fuel,e113 fuel x⟩
def specs114:List Spec:=[sp113]
def hints114:List (Nat×List Nat):=[(4,[0,1,5,13])]
def L114_0 (N:Nat) (n_L114_0:Nat) (x:((List UInt8)×(Bool×Unit))) (out_3:(List Int)) (t13_4:Nat):Out (List Int) :=
 vloop Tryz.prog (phi specs114) hints114 N Tryz.f111 false true (.list (.int .i64)) [.at 1,.at 1,.at 1,.at 0,.at 1,.at 0] n_L114_0 [.d .str x.1,.d .bool x.2.1,U,U,U,.own (.int .i64) out_3 false,U,U,U,U,U,U,U,.sit x.1 t13_4,U,U,U,U,U,U,U,U,U,U,U,U,U,U,U,U,U,U,U,U,U,U,U,U,U,U]
def F114 (N:Nat) (x:((List UInt8)×(Bool×Unit))):Out (List Int):=match f113 ((x.1 != ([]:List UInt8)),(x.1,())) with | .ret r_1=>L114_0 N N x [] 0 | .pan p=>.pan p | .fail=>.fail
theorem e114 (N:Nat) (x:((List UInt8)×(Bool×Unit))):vfn Tryz.prog (phi specs114) hints114 N Tryz.f111 false true (.prod .str (.prod .bool .unit)) (.list (.int .i64)) x=F114 N x:=by kernel_rfl
def f114 (x:((List UInt8)×(Bool×Unit))):Out (List Int):=F114 fuel x
def sp114:Spec:=⟨111,.call,(.prod .str (.prod .bool .unit)),(.list (.int .i64)),false,true,f114⟩
theorem c114:Contract Tryz.prog sp114:=contract_at (l:=specs114) (arg:=(.prod .str (.prod .bool .unit))) (res:=(.list (.int .i64))) (multi:=false) (own:=true) (F:=f114) mixed (all_cons c113 all_nil) Tryz.func111 rfl hints114 fun x _=>⟨fuel,e114 fuel x⟩
def specs116:List Spec:=[]
def hints116:List (Nat×List Nat):=[(2,[0,1,7,8])]
def L116_0 (N:Nat) (n_L116_0:Nat) (x:lt2) (t8_1:Int):Out Int :=
 vloop Tryz.prog (phi specs116) hints116 N Tryz.f119 false false (.int .i64) [.at 1,.at 0,.at 1,.at 0] n_L116_0 [.d (.list (.int .i64)) x.1,.d (.int .i64) x.2.1,U,U,U,U,U,.d (.int .i64) (lenI x.1),.d (.int .i64) t8_1,U,U,U,U,U,U,U,U,U,U]
theorem L116_0_succ (N:Nat) (n_L116_0:Nat) (x:lt2) (t8_1:Int):L116_0 N  (n_L116_0+1) x t8_1 =
 (match (decide (t8_1<(lenI x.1))) with|true=>bif (inb t8_1 x.1.length) then match (x.2.1==(List.getD x.1 t8_1.toNat 0)) with|true=>.ret t8_1|false=>L116_0 N n_L116_0 x (IntKind.i64.wrap (t8_1+1)) else .fail|false=>.ret (-1):Out Int):=by kernel_rfl
def F116 (N:Nat) (x:lt2):Out Int:=L116_0 N N x 0
theorem e116 (N:Nat) (x:lt2):vfn Tryz.prog (phi specs116) hints116 N Tryz.f119 false false ty3 (.int .i64) x=F116 N x:=by kernel_rfl
def f116 (x:lt2):Out Int:=F116 fuel x
def sp116:Spec:=⟨119,.call,ty3,(.int .i64),false,false,f116⟩
theorem c116:Contract Tryz.prog sp116:=contract_at (l:=specs116) (arg:=ty3) (res:=(.int .i64)) (multi:=false) (own:=false) (F:=f116) mixed all_nil Tryz.func119 rfl hints116 fun x _=>⟨fuel,e116 fuel x⟩
def specs117:List Spec:=[]
def hints117:List (Nat×List Nat):=[(3,[3,6,7,8])]
def L117_0 (N:Nat) (n_L117_0:Nat) (x:lt0) (n_1:Int) (t8_2:Int):Out Int :=
 vloop Tryz.prog (phi specs117) hints117 N Tryz.f132 false false (.int .i64) [.at 1,.at 1,.at 0,.at 1,.at 0] n_L117_0 [U,U,U,.d (.int .i64) n_1,U,U,.d (.list (.int .i64)) x.1,.d (.int .i64) (lenI x.1),.d (.int .i64) t8_2,U,U,U,U,U,U,U,U,U]
theorem L117_0_succ (N:Nat) (n_L117_0:Nat) (x:lt0) (n_1:Int) (t8_2:Int):L117_0 N  (n_L117_0+1) x n_1 t8_2 =
 (match (decide (t8_2<(lenI x.1))) with|true=>bif (inb t8_2 x.1.length) then L117_0 N n_L117_0 x (if (IntKind.i64.wrap (n_1+(List.getD x.1 t8_2.toNat 0)))<1000 then (IntKind.i64.wrap (n_1+(List.getD x.1 t8_2.toNat 0))) else 1000) (IntKind.i64.wrap (t8_2+1)) else .fail|false=>.ret n_1:Out Int):=by kernel_rfl
def F117 (N:Nat) (x:lt0):Out Int:=L117_0 N N x 0 0
theorem e117 (N:Nat) (x:lt0):vfn Tryz.prog (phi specs117) hints117 N Tryz.f132 false false ty14 (.int .i64) x=F117 N x:=by kernel_rfl
def f117 (x:lt0):Out Int:=F117 fuel x
def sp117:Spec:=⟨132,.call,ty14,(.int .i64),false,false,f117⟩
theorem c117:Contract Tryz.prog sp117:=contract_at (l:=specs117) (arg:=ty14) (res:=(.int .i64)) (multi:=false) (own:=false) (F:=f117) mixed all_nil Tryz.func132 rfl hints117 fun x _=>⟨fuel,e117 fuel x⟩
def specs142:List Spec:=[]
def hints142:List (Nat×List Nat):=[]
def F142 (N:Nat) (x:Unit):Out ((List UInt8)×((List UInt8)×Unit)):=.ret (([99,111,112,105,101,115]:List UInt8),(([99,111,112,121]:List UInt8),()))
theorem e142 (N:Nat) (x:Unit):vfn Tryz.prog (phi specs142) hints142 N Tryz.f133 false false .unit (.prod .str (.prod .str .unit)) x=F142 N x:=by kernel_rfl
def f142 (x:Unit):Out ((List UInt8)×((List UInt8)×Unit)):=F142 fuel x
def sp142:Spec:=⟨133,.call,.unit,(.prod .str (.prod .str .unit)),false,false,f142⟩
theorem c142:Contract Tryz.prog sp142:=contract_at (l:=specs142) (arg:=.unit) (res:=(.prod .str (.prod .str .unit))) (multi:=false) (own:=false) (F:=f142) mixed all_nil Tryz.func133 rfl hints142 fun x _=>⟨fuel,e142 fuel x⟩
def specs189:List Spec:=[]
def hints189:List (Nat×List Nat):=[]
def F189 (N:Nat) (x:(Int×Unit)):Out (List Int):=.ret ([x.1]:List Int)
theorem e189 (N:Nat) (x:(Int×Unit)):vfn Tryz.prog (phi specs189) hints189 N Tryz.f190 false true (.prod (.int .i64) .unit) (.list (.int .i64)) x=F189 N x:=by kernel_rfl
def f189 (x:(Int×Unit)):Out (List Int):=F189 fuel x
def sp189:Spec:=⟨190,.call,(.prod (.int .i64) .unit),(.list (.int .i64)),false,true,f189⟩
theorem c189:Contract Tryz.prog sp189:=contract_at (l:=specs189) (arg:=(.prod (.int .i64) .unit)) (res:=(.list (.int .i64))) (multi:=false) (own:=true) (F:=f189) mixed all_nil Tryz.func190 rfl hints189 fun x _=>⟨fuel,e189 fuel x⟩
def specs190:List Spec:=[]
def hints190:List (Nat×List Nat):=[]
def F190 (N:Nat) (x:lt12):Out (List Int):=.ret ([x.1.1.1]:List Int)
theorem e190 (N:Nat) (x:lt12):vfn Tryz.prog (phi specs190) hints190 N Tryz.f191 false true ty30 (.list (.int .i64)) x=F190 N x:=by kernel_rfl
def f190 (x:lt12):Out (List Int):=F190 fuel x
def sp190:Spec:=⟨191,.call,ty30,(.list (.int .i64)),false,true,f190⟩
theorem c190:Contract Tryz.prog sp190:=contract_at (l:=specs190) (arg:=ty30) (res:=(.list (.int .i64))) (multi:=false) (own:=true) (F:=f190) mixed all_nil Tryz.func191 rfl hints190 fun x _=>⟨fuel,e190 fuel x⟩
def F46 (N:Nat) (x:(Int×Unit)):Out Bool:=match f61 (x.1,(0,(9,()))) with | .ret r=>.ret r | .pan p=>.pan p | .fail=>.fail
def f46 (x:(Int×Unit)):Out Bool:=F46 fuel x
def sp46:Spec:=⟨31,.call,(.prod (.int .i64) .unit),.bool,false,false,f46⟩
def specs56:List Spec:=[sp94]
def hints56:List (Nat×List Nat):=[]
def F56 (N:Nat) (x:lt4):Out Bool:=match f94 (x.2.1,(0,((IntKind.i64.wrap ((lenI x.1.2.1) - 1)),()))) with | .ret r=>.ret r | .pan p=>.pan p | .fail=>.fail
theorem e56 (N:Nat) (x:lt4):vfn Tryz.prog (phi specs56) hints56 N Tryz.f64 false false ty6 .bool x=F56 N x:=by kernel_rfl
def f56 (x:lt4):Out Bool:=F56 fuel x
def sp56:Spec:=⟨64,.call,ty6,.bool,false,false,f56⟩
theorem c56:Contract Tryz.prog sp56:=contract_at (l:=specs56) (arg:=ty6) (res:=.bool) (multi:=false) (own:=false) (F:=f56) mixed (all_cons c94 all_nil) Tryz.func64 rfl hints56 fun x _=>⟨fuel,e56 fuel x⟩
def specs71:List Spec:=[sp107]
def hints71:List (Nat×List Nat):=[(2,[1,2,8,9,10])]
def L71_0 (N:Nat) (n_L71_0:Nat) (x:lt8) (t10_1:Int):Out Bool :=
 vloop Tryz.prog (phi specs71) hints71 N Tryz.f86 false false .bool [.at 1,.at 0,.at 1,.at 0] n_L71_0 [U,.d (.int .i64) x.2.1,.box [.d (.int .i64) x.1.1.1.1,.d ty0 x.1.1.1.2.1,.d ty1 x.1.1.2.1,.d ty11 x.1.2.1],U,U,U,U,U,.d ty11 x.1.2.1,.d (.int .i64) (lenI x.1.2.1),.d (.int .i64) t10_1,U,U,U,U,U,U,U,U,U,U,U,U]
theorem L71_0_succ (N:Nat) (n_L71_0:Nat) (x:lt8) (t10_1:Int):L71_0 N  (n_L71_0+1) x t10_1 =
 (match (decide (t10_1<(lenI x.1.2.1))) with|true=>bif (inb t10_1 x.1.2.1.length) then match f107 (x.1,(x.2.1,(t10_1,()))) with | .ret r_2=>(match (r_2==(lenI (List.getD x.1.2.1 t10_1.toNat []))) with|true=>.ret true|false=>L71_0 N n_L71_0 x (IntKind.i64.wrap (t10_1+1))) | .pan p=>.pan p | .fail=>.fail else .fail|false=>.ret false:Out Bool):=by kernel_rfl
def F71 (N:Nat) (x:lt8):Out Bool:=L71_0 N N x 0
theorem e71 (N:Nat) (x:lt8):vfn Tryz.prog (phi specs71) hints71 N Tryz.f86 false false ty17 .bool x=F71 N x:=by kernel_rfl
def f71 (x:lt8):Out Bool:=F71 fuel x
def sp71:Spec:=⟨86,.call,ty17,.bool,false,false,f71⟩
theorem c71:Contract Tryz.prog sp71:=contract_at (l:=specs71) (arg:=ty17) (res:=.bool) (multi:=false) (own:=false) (F:=f71) mixed (all_cons c107 all_nil) Tryz.func86 rfl hints71 fun x _=>⟨fuel,e71 fuel x⟩
def specs72:List Spec:=[sp107]
def hints72:List (Nat×List Nat):=[(2,[1,2,8,9])]
def L72_0 (N:Nat) (n_L72_0:Nat) (x:lt8) (t9_1:Int):Out Bool :=
 vloop Tryz.prog (phi specs72) hints72 N Tryz.f87 false false .bool [.at 1,.at 0,.at 1,.at 0] n_L72_0 [U,.d (.int .i64) x.2.1,.box [.d (.int .i64) x.1.1.1.1,.d ty0 x.1.1.1.2.1,.d ty1 x.1.1.2.1,.d ty11 x.1.2.1],U,U,U,U,U,.d (.int .i64) (lenI x.1.2.1),.d (.int .i64) t9_1,U,U,U,U,U,U,U,U]
theorem L72_0_succ (N:Nat) (n_L72_0:Nat) (x:lt8) (t9_1:Int):L72_0 N  (n_L72_0+1) x t9_1 =
 (match (decide (t9_1<(lenI x.1.2.1))) with|true=>(match f107 (x.1,(x.2.1,(t9_1,()))) with | .ret r_2=>(match (decide (r_2 > 0)) with|true=>.ret true|false=>L72_0 N n_L72_0 x (IntKind.i64.wrap (t9_1+1))) | .pan p=>.pan p | .fail=>.fail)|false=>.ret false:Out Bool):=by kernel_rfl
def F72 (N:Nat) (x:lt8):Out Bool:=L72_0 N N x 0
theorem e72 (N:Nat) (x:lt8):vfn Tryz.prog (phi specs72) hints72 N Tryz.f87 false false ty17 .bool x=F72 N x:=by kernel_rfl
def f72 (x:lt8):Out Bool:=F72 fuel x
def sp72:Spec:=⟨87,.call,ty17,.bool,false,false,f72⟩
theorem c72:Contract Tryz.prog sp72:=contract_at (l:=specs72) (arg:=ty17) (res:=.bool) (multi:=false) (own:=false) (F:=f72) mixed (all_cons c107 all_nil) Tryz.func87 rfl hints72 fun x _=>⟨fuel,e72 fuel x⟩
def specs73:List Spec:=[sp94]
def hints73:List (Nat×List Nat):=[]
def F73 (N:Nat) (x:lt4):Out Bool:=match f94 (x.2.1,(0,((IntKind.i64.wrap (x.1.1 - 1)),()))) with | .ret r=>.ret r | .pan p=>.pan p | .fail=>.fail
theorem e73 (N:Nat) (x:lt4):vfn Tryz.prog (phi specs73) hints73 N Tryz.f88 false false ty6 .bool x=F73 N x:=by kernel_rfl
def f73 (x:lt4):Out Bool:=F73 fuel x
def sp73:Spec:=⟨88,.call,ty6,.bool,false,false,f73⟩
theorem c73:Contract Tryz.prog sp73:=contract_at (l:=specs73) (arg:=ty6) (res:=.bool) (multi:=false) (own:=false) (F:=f73) mixed (all_cons c94 all_nil) Tryz.func88 rfl hints73 fun x _=>⟨fuel,e73 fuel x⟩
def specs78a:List Spec:=[sp79]
def hints78a:List (Nat×List Nat):=[(3,[0,1,4,6,9,10,11])]
def L78a_0 (N:Nat) (n_L78a_0:Nat) (x:lt16) (t4_1:Int) (t4_2:Int) (t4_3:Int) (out_4:Int) (out_5:Int) (out_6:Int) (t11_7:Int):Out lt26 :=
 vloop Tryz.prog (phi specs78a) hints78a N Tryz.f90 true false ty16 [.at 1,.at 1,.at 0,.at 1,.at 0] n_L78a_0 [.d (.list (.prod (.int .i64) (.prod (.int .i64) (.prod (.int .i64) .unit)))) x.1,.d .raw (Value.func (.func 91) #[] #[]),U,U,.box [.d (.int .i64) t4_1,.d (.int .i64) t4_2,.d (.int .i64) t4_3],U,.box [.d (.int .i64) out_4,.d (.int .i64) out_5,.d (.int .i64) out_6],U,U,.d (.list (.prod (.int .i64) (.prod (.int .i64) (.prod (.int .i64) .unit)))) x.1,.d (.int .i64) (lenI x.1),.d (.int .i64) t11_7,U,U,U,U,U,U,U,U,U,U,U,U,U,U,U,U,U,U]
theorem L78a_0_succ (N:Nat) (n_L78a_0:Nat) (x:lt16) (t4_1:Int) (t4_2:Int) (t4_3:Int) (out_4:Int) (out_5:Int) (out_6:Int) (t11_7:Int):L78a_0 N  (n_L78a_0+1) x t4_1 t4_2 t4_3 out_4 out_5 out_6 t11_7 =
 (match (decide (t11_7<(lenI x.1))) with|true=>bif (inb t11_7 x.1.length) then match (t11_7==0) with|true=>L78a_0 N n_L78a_0 x t4_1 t4_2 t4_3 ((List.getD x.1 t11_7.toNat (0,(0,(0,()))))).1 ((List.getD x.1 t11_7.toNat (0,(0,(0,()))))).2.1 ((List.getD x.1 t11_7.toNat (0,(0,(0,()))))).2.2.1 (IntKind.i64.wrap (t11_7+1))|false=>match (decide (((List.getD x.1 t11_7.toNat (0,(0,(0,()))))).2.2.1<out_6)) with|true=>L78a_0 N n_L78a_0 x t4_1 t4_2 t4_3 ((List.getD x.1 t11_7.toNat (0,(0,(0,()))))).1 ((List.getD x.1 t11_7.toNat (0,(0,(0,()))))).2.1 ((List.getD x.1 t11_7.toNat (0,(0,(0,()))))).2.2.1 (IntKind.i64.wrap (t11_7+1))|false=>L78a_0 N n_L78a_0 x t4_1 t4_2 t4_3 out_4 out_5 out_6 (IntKind.i64.wrap (t11_7+1)) else .fail|false=>.ret ((out_4,(out_5,(out_6,()))),((decide ((lenI x.1) > 0)),())):Out lt26):=by kernel_rfl
def F78a (N:Nat) (x:lt16):Out lt26:=L78a_0 N N x 0 0 0 0 0 0 0
theorem e78a (N:Nat) (x:lt16):vfn Tryz.prog (phi specs78a) hints78a N Tryz.f90 true false ty19 ty16 (x.1,(Value.func (.func 91) #[] #[]),())=F78a N x:=by kernel_rfl
@[irreducible] def f78a (x:lt16):Out lt26:=vfn Tryz.prog (phi specs78a) hints78a fuel Tryz.f90 true false ty19 ty16 x
def sp78a:Spec:=⟨90,.call,ty19,ty16,true,false,f78a⟩
theorem q78a (x:lt16):vfn Tryz.prog (phi specs78a) hints78a fuel Tryz.f90 true false ty19 ty16 x=f78a x:=by kernel_rfl
theorem c78a:Contract Tryz.prog sp78a:=contract_at (l:=specs78a) (arg:=ty19) (res:=ty16) (multi:=true) (own:=false) (F:=f78a) mixed (all_cons c79 all_nil) Tryz.func90 rfl hints78a fun x _=>⟨fuel,q78a x⟩
def specs80:List Spec:=[sp94]
def hints80:List (Nat×List Nat):=[]
def F80 (N:Nat) (x:(Int×Unit)):Out Bool:=match f94 (x.1,(0,(9,()))) with | .ret r=>.ret r | .pan p=>.pan p | .fail=>.fail
theorem e80 (N:Nat) (x:(Int×Unit)):vfn Tryz.prog (phi specs80) hints80 N Tryz.f92 false false (.prod (.int .i64) .unit) .bool x=F80 N x:=by kernel_rfl
def f80 (x:(Int×Unit)):Out Bool:=F80 fuel x
def sp80:Spec:=⟨92,.call,(.prod (.int .i64) .unit),.bool,false,false,f80⟩
theorem c80:Contract Tryz.prog sp80:=contract_at (l:=specs80) (arg:=(.prod (.int .i64) .unit)) (res:=.bool) (multi:=false) (own:=false) (F:=f80) mixed (all_cons c94 all_nil) Tryz.func92 rfl hints80 fun x _=>⟨fuel,e80 fuel x⟩
def specs85:List Spec:=[sp56]
def hints85:List (Nat×List Nat):=[(2,[1,2,7,8,9])]
def L85_0 (N:Nat) (n_L85_0:Nat) (x:lt15) (t9_1:Int):Out Bool :=
 vloop Tryz.prog (phi specs85) hints85 N Tryz.f55 false false .bool [.at 1,.at 0,.at 1,.at 0] n_L85_0 [U,.d (.list (.int .i64)) x.2.1,.box [.d (.int .i64) x.1.1,.d ty0 x.1.2.1],U,U,U,U,.d (.list (.int .i64)) x.2.1,.d (.int .i64) (lenI x.2.1),.d (.int .i64) t9_1,U,U,U,U,U,U,U,U,U,U,U,U,U,U,U,U,U,U,U,U,U,U,U,U,U,U]
theorem L85_0_succ (N:Nat) (n_L85_0:Nat) (x:lt15) (t9_1:Int):L85_0 N  (n_L85_0+1) x t9_1 =
 (match (decide (t9_1<(lenI x.2.1))) with|true=>bif (inb t9_1 x.2.1.length) then match f56 (x.1,((List.getD x.2.1 t9_1.toNat 0),())) with | .ret r_2=>(match (!r_2) with|true=>.ret false|false=>match ((List.getD x.2.1 t9_1.toNat 0)==0) with|true=>.ret false|false=>match (decide (t9_1 > 0)) with|true=>bif (inb (IntKind.i64.wrap (t9_1 - 1)) x.2.1.length) then match (decide ((List.getD x.2.1 t9_1.toNat 0)<=(List.getD x.2.1 (IntKind.i64.wrap (t9_1 - 1)).toNat 0))) with|true=>.ret false|false=>L85_0 N n_L85_0 x (IntKind.i64.wrap (t9_1+1)) else .fail|false=>L85_0 N n_L85_0 x (IntKind.i64.wrap (t9_1+1))) | .pan p=>.pan p | .fail=>.fail else .fail|false=>.ret true:Out Bool):=by kernel_rfl
def F85 (N:Nat) (x:lt15):Out Bool:=L85_0 N N x 0
theorem e85 (N:Nat) (x:lt15):vfn Tryz.prog (phi specs85) hints85 N Tryz.f55 false false ty23 .bool x=F85 N x:=by kernel_rfl
def f85 (x:lt15):Out Bool:=F85 fuel x
def sp85:Spec:=⟨55,.call,ty23,.bool,false,false,f85⟩
theorem c85:Contract Tryz.prog sp85:=contract_at (l:=specs85) (arg:=ty23) (res:=.bool) (multi:=false) (own:=false) (F:=f85) mixed (all_cons c56 all_nil) Tryz.func55 rfl hints85 fun x _=>⟨fuel,e85 fuel x⟩
def specs91:List Spec:=[sp92]
def hints91:List (Nat×List Nat):=[(2,[0,1,5])]
def L91_0 (N:Nat) (n_L91_0:Nat) (x:((List UInt8)×((List Int)×Unit))) (word_1:(List UInt8)) (i_2:Int):Out (List UInt8) :=
 vloop Tryz.prog (phi specs91) hints91 N Tryz.f77 false false .str [.at 1,.at 0,.at 1,.at 0] n_L91_0 [.d .str word_1,.d (.list (.int .i64)) x.2.1,U,U,U,.d (.int .i64) i_2,U,U,U,U,U,U,U,U,U,U,U,U,U,U,U]
def F91 (N:Nat) (x:((List UInt8)×((List Int)×Unit))):Out (List UInt8):=L91_0 N N x x.1 0
theorem e91 (N:Nat) (x:((List UInt8)×((List Int)×Unit))):vfn Tryz.prog (phi specs91) hints91 N Tryz.f77 false false (.prod .str (.prod (.list (.int .i64)) .unit)) .str x=F91 N x:=by kernel_rfl
def f91 (x:((List UInt8)×((List Int)×Unit))):Out (List UInt8):=F91 fuel x
def sp91:Spec:=⟨77,.call,(.prod .str (.prod (.list (.int .i64)) .unit)),.str,false,false,f91⟩
theorem c91:Contract Tryz.prog sp91:=contract_at (l:=specs91) (arg:=(.prod .str (.prod (.list (.int .i64)) .unit))) (res:=.str) (multi:=false) (own:=false) (F:=f91) mixed (all_cons c92 all_nil) Tryz.func77 rfl hints91 fun x _=>⟨fuel,e91 fuel x⟩
def specs95:List Spec:=[sp80]
def hints95:List (Nat×List Nat):=[]
def F95 (N:Nat) (x:(Int×Unit)):Out Bool:=match (x.1 != (-1)) with|true=>(match f80 (x.1,()) with | .ret r_1=>.ret (!r_1) | .pan p=>.pan p | .fail=>.fail)|false=>.ret false
theorem e95 (N:Nat) (x:(Int×Unit)):vfn Tryz.prog (phi specs95) hints95 N Tryz.f96 false false (.prod (.int .i64) .unit) .bool x=F95 N x:=by kernel_rfl
def f95 (x:(Int×Unit)):Out Bool:=F95 fuel x
def sp95:Spec:=⟨96,.call,(.prod (.int .i64) .unit),.bool,false,false,f95⟩
theorem c95:Contract Tryz.prog sp95:=contract_at (l:=specs95) (arg:=(.prod (.int .i64) .unit)) (res:=.bool) (multi:=false) (own:=false) (F:=f95) mixed (all_cons c80 all_nil) Tryz.func96 rfl hints95 fun x _=>⟨fuel,e95 fuel x⟩
def specs98:List Spec:=[sp116]
def hints98:List (Nat×List Nat):=[]
def F98 (N:Nat) (x:lt2):Out Bool:=match f116 (x.1,(x.2.1,())) with | .ret r_1=>.ret (decide (r_1 >= 0)) | .pan p=>.pan p | .fail=>.fail
theorem e98 (N:Nat) (x:lt2):vfn Tryz.prog (phi specs98) hints98 N Tryz.f98 false false ty3 .bool x=F98 N x:=by kernel_rfl
def f98 (x:lt2):Out Bool:=F98 fuel x
def sp98:Spec:=⟨98,.call,ty3,.bool,false,false,f98⟩
theorem c98:Contract Tryz.prog sp98:=contract_at (l:=specs98) (arg:=ty3) (res:=.bool) (multi:=false) (own:=false) (F:=f98) mixed (all_cons c116 all_nil) Tryz.func98 rfl hints98 fun x _=>⟨fuel,e98 fuel x⟩
def specs111a:List Spec:=[sp95]
def hints111a:List (Nat×List Nat):=[(2,[0,1,7,8])]
def L111a_0 (N:Nat) (n_L111a_0:Nat) (x:lt9) (t8_1:Int):Out Int :=
 vloop Tryz.prog (phi specs111a) hints111a N Tryz.f97 false false (.int .i64) [.at 1,.at 0,.at 1,.at 0] n_L111a_0 [.d (.list (.int .i64)) x.1,.d .raw (Value.func (.func 96) #[] #[]),U,U,U,U,U,.d (.int .i64) (lenI x.1),.d (.int .i64) t8_1,U,U,U,U,U,U,U,U,U,U]
theorem L111a_0_succ (N:Nat) (n_L111a_0:Nat) (x:lt9) (t8_1:Int):L111a_0 N  (n_L111a_0+1) x t8_1 =
 (match (decide (t8_1<(lenI x.1))) with|true=>bif (inb t8_1 x.1.length) then match f95 ((List.getD x.1 t8_1.toNat 0),()) with | .ret r_2=>(match r_2 with|true=>.ret t8_1|false=>L111a_0 N n_L111a_0 x (IntKind.i64.wrap (t8_1+1))) | .pan p=>.pan p | .fail=>.fail else .fail|false=>.ret (-1):Out Int):=by kernel_rfl
def F111a (N:Nat) (x:lt9):Out Int:=L111a_0 N N x 0
theorem e111a (N:Nat) (x:lt9):vfn Tryz.prog (phi specs111a) hints111a N Tryz.f97 false false ty8 (.int .i64) (x.1,(Value.func (.func 96) #[] #[]),())=F111a N x:=by kernel_rfl
@[irreducible] def f111a (x:lt9):Out Int:=vfn Tryz.prog (phi specs111a) hints111a fuel Tryz.f97 false false ty8 (.int .i64) x
def sp111a:Spec:=⟨97,.call,ty8,(.int .i64),false,false,f111a⟩
theorem q111a (x:lt9):vfn Tryz.prog (phi specs111a) hints111a fuel Tryz.f97 false false ty8 (.int .i64) x=f111a x:=by kernel_rfl
theorem c111a:Contract Tryz.prog sp111a:=contract_at (l:=specs111a) (arg:=ty8) (res:=(.int .i64)) (multi:=false) (own:=false) (F:=f111a) mixed (all_cons c95 all_nil) Tryz.func97 rfl hints111a fun x _=>⟨fuel,q111a x⟩
def specs130a:List Spec:=[sp142,sp189,sp131]
def hints130a:List (Nat×List Nat):=[(7,[0,3,4,17,18,19]),(15,[4,8,36,37,38])]
def L130a_0 (N:Nat) (n_L130a_0:Nat) (x:(Int×Unit)) (out_1:(List UInt8)) (t36_2:(List Int)) (t38_3:Int):Out (List UInt8) :=
 vloop Tryz.prog (phi specs130a) hints130a N Tryz.f105 false false .str [.at 1,.at 1,.at 1,.at 1,.at 0,.at 1,.at 0] n_L130a_0 [U,U,U,U,.d .str ([]:List UInt8),U,U,U,.d .str out_1,U,U,U,U,U,U,U,U,U,U,U,U,U,U,U,U,U,U,U,U,U,U,U,U,U,U,U,.own (.int .i64) t36_2 false,.d (.int .i64) (lenI ([x.1]:List Int)),.d (.int .i64) t38_3,U,U,U,U,U,U,U,U,U,U,U,U]
def F130a (N:Nat) (x:(Int×Unit)):Out (List UInt8):=L130a_0 N N x ([99,111,112,105,101,115]:List UInt8) ([x.1]:List Int) 0
theorem e130a (N:Nat) (x:(Int×Unit)):vfn Tryz.prog (phi specs130a) hints130a N Tryz.f105 false false (.prod (.dyn 139 (.int .i64)) .unit) .str x=F130a N x:=by kernel_rfl
def f130a (x:(Int×Unit)):Out (List UInt8):=F130a fuel x
def sp130a:Spec:=⟨105,.call,(.prod (.dyn 139 (.int .i64)) .unit),.str,false,false,f130a⟩
theorem c130a:Contract Tryz.prog sp130a:=contract_at (l:=specs130a) (arg:=(.prod (.dyn 139 (.int .i64)) .unit)) (res:=.str) (multi:=false) (own:=false) (F:=f130a) mixed (all_cons c142 (all_cons c189 (all_cons c131 all_nil))) Tryz.func105 rfl hints130a fun x _=>⟨fuel,e130a fuel x⟩
def specs130b:List Spec:=[sp131,sp142,sp190]
def hints130b:List (Nat×List Nat):=[(7,[0,3,4,17,18,19]),(15,[4,8,36,37,38])]
def L130b_0 (N:Nat) (n_L130b_0:Nat) (x:lt12) (figures_1:(List UInt8)) (t19_2:Int):Out (List UInt8) :=
 vloop Tryz.prog (phi specs130b) hints130b N Tryz.f105 false false .str [.at 1,.at 1,.at 0,.at 1,.at 0,.at 1,.at 0,.at 1,.at 1,.at 1,.at 0] n_L130b_0 [.d (.dyn 141 (.prod (.prod (.int .i64) (.prod (.list (.int .i64)) .unit)) .unit)) x.1,U,U,.d (.int .i64) (1:Int),.d .str figures_1,U,U,U,U,U,U,U,U,U,U,U,U,.d (.list (.int .i64)) x.1.1.2.1,.d (.int .i64) (lenI x.1.1.2.1),.d (.int .i64) t19_2,U,U,U,U,U,U,U,U,U,U,U,U,U,U,U,U,U,U,U,U,U,U,U,U,U,U,U,U,U,U,U]
def F130b (N:Nat) (x:lt12):Out (List UInt8):=L130b_0 N N x ([32]:List UInt8) 0
theorem e130b (N:Nat) (x:lt12):vfn Tryz.prog (phi specs130b) hints130b N Tryz.f105 false false ty25 .str x=F130b N x:=by kernel_rfl
def f130b (x:lt12):Out (List UInt8):=F130b fuel x
def sp130b:Spec:=⟨105,.call,ty25,.str,false,false,f130b⟩
theorem c130b:Contract Tryz.prog sp130b:=contract_at (l:=specs130b) (arg:=ty25) (res:=.str) (multi:=false) (own:=false) (F:=f130b) mixed (all_cons c131 (all_cons c142 (all_cons c190 all_nil))) Tryz.func105 rfl hints130b fun x _=>⟨fuel,e130b fuel x⟩
def specs17:List Spec:=[sp61,sp46]
def hints17:List (Nat×List Nat):=[(4,[1,3]),(10,[1,3,4,5])]
def L17_1 (N:Nat) (n_L17_0:Nat) (n_L17_1:Nat) (t_5:Int) (t_6:(List (Int×lt0))) (i_7:Int) (p_10:Int):Out Bool :=
 vloop Tryz.prog (phi specs17) hints17 N Tryz.f15 false false .bool [.at 1,.at 1,.at 0,.at 1,.at 0,.at n_L17_0,.at 1,.at 0,.at 0,.at 1,.at 1,.at 1,.at 0] n_L17_1 [U,.box [.d (.int .i64) t_5,.d ty0 t_6],U,.d (.int .i64) i_7,.box [.d (.int .i64) ((List.getD t_6 i_7.toNat ((0:Int),(([]:List Int),())))).1,.d (.list (.int .i64)) ((List.getD t_6 i_7.toNat ((0:Int),(([]:List Int),())))).2.1],.d (.int .i64) p_10,U,U,U,U,U,U,U,U,U,U,U,U,U,U,U,U,U,U,U,U,U,U,U,U,U,U,U,U,U,U,U,U,U,U,U,U,U,U,U,U,U,U,U,U,U,U,U,U,U,U,U,U,U,U,U,U,U,U,U,U]
def L17_0 (N:Nat) (n_L17_0:Nat) (t_5:Int) (t_6:(List (Int×lt0))) (i_7:Int):Out Bool :=
 vloop Tryz.prog (phi specs17) hints17 N Tryz.f15 false false .bool [.at 1,.at 1,.at 0,.at 1,.at 0] n_L17_0 [U,.box [.d (.int .i64) t_5,.d ty0 t_6],U,.d (.int .i64) i_7,U,U,U,U,U,U,U,U,U,U,U,U,U,U,U,U,U,U,U,U,U,U,U,U,U,U,U,U,U,U,U,U,U,U,U,U,U,U,U,U,U,U,U,U,U,U,U,U,U,U,U,U,U,U,U,U,U,U,U,U,U,U]
theorem L17_1_succ (N:Nat) (n_L17_0:Nat) (n_L17_1:Nat) (t_5:Int) (t_6:(List (Int×lt0))) (i_7:Int) (p_10:Int):L17_1 N n_L17_0 (n_L17_1+1) t_5 t_6 i_7 p_10 =
 (match (decide (p_10<(lenI ((List.getD t_6 i_7.toNat (0,([],())))).2.1))) with|true=>bif (inb p_10 ((List.getD t_6 i_7.toNat (0,([],())))).2.1.length) then match ((List.getD ((List.getD t_6 i_7.toNat (0,([],())))).2.1 p_10.toNat 0) != (-1)) with|true=>bif (inb p_10 ((List.getD t_6 i_7.toNat (0,([],())))).2.1.length) then match f46 ((List.getD ((List.getD t_6 i_7.toNat (0,([],())))).2.1 p_10.toNat 0),()) with | .ret r_11=>(match (!r_11) with|true=>.ret false|false=>L17_1 N n_L17_0 n_L17_1 t_5 t_6 i_7 (IntKind.i64.wrap (p_10+1))) | .pan p=>.pan p | .fail=>.fail else .fail|false=>L17_1 N n_L17_0 n_L17_1 t_5 t_6 i_7 (IntKind.i64.wrap (p_10+1)) else .fail|false=>L17_0 N n_L17_0 t_5 t_6 (IntKind.i64.wrap (i_7+1)):Out Bool):=by kernel_rfl
theorem L17_0_succ (N:Nat) (n_L17_0:Nat) (t_5:Int) (t_6:(List (Int×lt0))) (i_7:Int):L17_0 N  (n_L17_0+1) t_5 t_6 i_7 =
 (match (decide (i_7<(lenI t_6))) with|true=>bif (inb i_7 t_6.length) then match f61 (((List.getD t_6 i_7.toNat (0,([],())))).1,(0,((if (IntKind.i64.wrap (i_7 - 1)) > 0 then (IntKind.i64.wrap (i_7 - 1)) else 0),()))) with | .ret r_8=>(match (!r_8) with|true=>.ret false|false=>match ((lenI ((List.getD t_6 i_7.toNat (0,([],())))).2.1) != t_5) with|true=>.ret false|false=>L17_1 N n_L17_0 N t_5 t_6 i_7 0) | .pan p=>.pan p | .fail=>.fail else .fail|false=>.ret true:Out Bool):=by kernel_rfl
def F17 (N:Nat) (x:lt1):Out Bool:=match f61 (x.1.1,(1,(3,()))) with | .ret r_1=>(match (!r_1) with|true=>.ret false|false=>match f61 ((lenI x.1.2.1),(1,(8,()))) with | .ret r_3=>(match (!r_3) with|true=>.ret false|false=>L17_0 N N x.1.1 x.1.2.1 0) | .pan p=>.pan p | .fail=>.fail) | .pan p=>.pan p | .fail=>.fail
def f17 (x:lt1):Out Bool:=F17 fuel x
def specs32:List Spec:=[sp46]
def hints32:List (Nat×List Nat):=[(4,[1,2,5]),(9,[1,2,5,6])]
def L32_1 (N:Nat) (n_L32_0:Nat) (n_L32_1:Nat) (x:lt3) (i_1:Int) (p_2:Int):Out Bool :=
 vloop Tryz.prog (phi specs32) hints32 N Tryz.f25 false false .bool [.at 1,.at 1,.at 0,.at 1,.at 0,.at n_L32_0,.at 1,.at 0,.at 0,.at 1,.at 1,.at 0] n_L32_1 [U,.d ty1 x.2.1,.box [.d (.int .i64) x.1.1,.d ty0 x.1.2.1],U,U,.d (.int .i64) i_1,.d (.int .i64) p_2,U,U,U,U,U,U,U,U,U,U,U,U,U,U,U,U,U,U,U,U,U,U,U,U,U,U,U,U,U,U,U,U,U,U,U,U,U,U,U,U,U,U,U,U,U,U,U,U,U,U,U,U,U,U,U,U,U,U,U,U,U,U,U,U,U,U]
def L32_0 (N:Nat) (n_L32_0:Nat) (x:lt3) (i_1:Int):Out Bool :=
 vloop Tryz.prog (phi specs32) hints32 N Tryz.f25 false false .bool [.at 1,.at 1,.at 0,.at 1,.at 0] n_L32_0 [U,.d ty1 x.2.1,.box [.d (.int .i64) x.1.1,.d ty0 x.1.2.1],U,U,.d (.int .i64) i_1,U,U,U,U,U,U,U,U,U,U,U,U,U,U,U,U,U,U,U,U,U,U,U,U,U,U,U,U,U,U,U,U,U,U,U,U,U,U,U,U,U,U,U,U,U,U,U,U,U,U,U,U,U,U,U,U,U,U,U,U,U,U,U,U,U,U,U]
theorem L32_1_succ (N:Nat) (n_L32_0:Nat) (n_L32_1:Nat) (x:lt3) (i_1:Int) (p_2:Int):L32_1 N n_L32_0 (n_L32_1+1) x i_1 p_2 =
 (match (decide (p_2<x.1.1)) with|true=>bif (inb i_1 x.2.1.length) then bif (inb p_2 (List.getD x.2.1 i_1.toNat []).length) then match f46 ((List.getD (List.getD x.2.1 i_1.toNat []) p_2.toNat 0),()) with | .ret r_3=>(match (!r_3) with|true=>.ret false|false=>bif (inb i_1 x.1.2.1.length) then bif (inb p_2 ((List.getD x.1.2.1 i_1.toNat (0,([],())))).2.1.length) then match (decide ((List.getD ((List.getD x.1.2.1 i_1.toNat (0,([],())))).2.1 p_2.toNat 0) >= 0)) with|true=>bif (inb i_1 x.2.1.length) then bif (inb p_2 (List.getD x.2.1 i_1.toNat []).length) then bif (inb i_1 x.1.2.1.length) then bif (inb p_2 ((List.getD x.1.2.1 i_1.toNat (0,([],())))).2.1.length) then match ((List.getD (List.getD x.2.1 i_1.toNat []) p_2.toNat 0) != (List.getD ((List.getD x.1.2.1 i_1.toNat (0,([],())))).2.1 p_2.toNat 0)) with|true=>.ret false|false=>L32_1 N n_L32_0 n_L32_1 x i_1 (IntKind.i64.wrap (p_2+1)) else .fail else .fail else .fail else .fail|false=>L32_1 N n_L32_0 n_L32_1 x i_1 (IntKind.i64.wrap (p_2+1)) else .fail else .fail) | .pan p=>.pan p | .fail=>.fail else .fail else .fail|false=>L32_0 N n_L32_0 x (IntKind.i64.wrap (i_1+1)):Out Bool):=by kernel_rfl
theorem L32_0_succ (N:Nat) (n_L32_0:Nat) (x:lt3) (i_1:Int):L32_0 N  (n_L32_0+1) x i_1 =
 (match (decide (i_1<(lenI x.2.1))) with|true=>bif (inb i_1 x.2.1.length) then match ((lenI (List.getD x.2.1 i_1.toNat [])) != x.1.1) with|true=>.ret false|false=>L32_1 N n_L32_0 N x i_1 0 else .fail|false=>.ret true:Out Bool):=by kernel_rfl
def F32 (N:Nat) (x:lt3):Out Bool:=match ((lenI x.2.1) != (lenI x.1.2.1)) with|true=>.ret false|false=>L32_0 N N x 0
def f32 (x:lt3):Out Bool:=F32 fuel x
def specs54:List Spec:=[sp91,sp92,sp93]
def hints54:List (Nat×List Nat):=[(3,[1,3,4]),(7,[1,3,4,5,6])]
def L54_0 (N:Nat) (n_L54_0:Nat) (x:lt1) (rows_3:(List (List UInt8))) (i_4:Int):Out (List UInt8) :=
 vloop Tryz.prog (phi specs54) hints54 N Tryz.f40 false false .str [.at 1,.at 1,.at 0,.at 1,.at 0] n_L54_0 [U,.box [.d (.int .i64) x.1.1,.d ty0 x.1.2.1],U,.own .str rows_3 false,.d (.int .i64) i_4,U,U,U,U,U,U,U,U,U,U,U,U,U,U,U,U,U,U,U,U,U,U,U,U,U,U,U,U,U,U,U,U,U,U,U,U,U,U,U,U,U,U,U,U,U,U,U,U,U,U,U,U,U,U,U,U,U,U,U,U,U,U,U,U]
def F54 (N:Nat) (x:lt1):Out (List UInt8):=match f91 (([99,111,112,105,101,115]:List UInt8),(([x.1.1]:List Int),())) with | .ret r_1=>L54_0 N N x ([r_1]:List (List UInt8)) 0 | .pan p=>.pan p | .fail=>.fail
theorem e54 (N:Nat) (x:lt1):vfn Tryz.prog (phi specs54) hints54 N Tryz.f40 false false ty2 .str x=F54 N x:=by kernel_rfl
def f54 (x:lt1):Out (List UInt8):=F54 fuel x
def sp54:Spec:=⟨40,.call,ty2,.str,false,false,f54⟩
theorem c54:Contract Tryz.prog sp54:=contract_at (l:=specs54) (arg:=ty2) (res:=.str) (multi:=false) (own:=false) (F:=f54) mixed (all_cons c91 (all_cons c92 (all_cons c93 all_nil))) Tryz.func40 rfl hints54 fun x _=>⟨fuel,e54 fuel x⟩
def specs68:List Spec:=[sp80,sp106]
def hints68:List (Nat×List Nat):=[(4,[2,15,16,17]),(9,[2,5,15,16,17,27,28,29])]
def L68_1 (N:Nat) (n_L68_0:Nat) (n_L68_1:Nat) (x:lt3) (t17_1:Int) (t29_2:Int):Out Bool :=
 vloop Tryz.prog (phi specs68) hints68 N Tryz.f65 false false .bool [.at 1,.at 1,.at 0,.at 1,.at 0,.at n_L68_0,.at 1,.at 1,.at 0,.at 0,.at 1,.at 1,.at 1,.at 0] n_L68_1 [U,U,.box [.d (.int .i64) x.1.1,.d ty0 x.1.2.1],U,U,.d (.int .i64) t17_1,U,U,U,U,U,U,U,U,U,.d ty1 x.2.1,.d (.int .i64) (lenI x.2.1),.d (.int .i64) t17_1,U,U,U,U,U,U,U,U,U,.d (.list (.int .i64)) (List.getD x.2.1 t17_1.toNat ([]:List Int)),.d (.int .i64) (lenI (List.getD x.2.1 t17_1.toNat ([]:List Int))),.d (.int .i64) t29_2,U,U,U,U,U,U,U,U,U,U,U,U,U,U,U,U,U]
def L68_0 (N:Nat) (n_L68_0:Nat) (x:lt3) (t17_1:Int):Out Bool :=
 vloop Tryz.prog (phi specs68) hints68 N Tryz.f65 false false .bool [.at 1,.at 1,.at 0,.at 1,.at 0] n_L68_0 [U,U,.box [.d (.int .i64) x.1.1,.d ty0 x.1.2.1],U,U,U,U,U,U,U,U,U,U,U,U,.d ty1 x.2.1,.d (.int .i64) (lenI x.2.1),.d (.int .i64) t17_1,U,U,U,U,U,U,U,U,U,U,U,U,U,U,U,U,U,U,U,U,U,U,U,U,U,U,U,U,U]
theorem L68_1_succ (N:Nat) (n_L68_0:Nat) (n_L68_1:Nat) (x:lt3) (t17_1:Int) (t29_2:Int):L68_1 N n_L68_0 (n_L68_1+1) x t17_1 t29_2 =
 (match (decide (t29_2<(lenI (List.getD x.2.1 t17_1.toNat [])))) with|true=>bif (inb t29_2 (List.getD x.2.1 t17_1.toNat []).length) then match f80 ((List.getD (List.getD x.2.1 t17_1.toNat []) t29_2.toNat 0),()) with | .ret r_3=>(match (!r_3) with|true=>.ret false|false=>match f106 (x.1,(t17_1,(t29_2,((List.getD (List.getD x.2.1 t17_1.toNat []) t29_2.toNat 0),())))) with | .ret r_5=>(match (!r_5) with|true=>.ret false|false=>L68_1 N n_L68_0 n_L68_1 x t17_1 (IntKind.i64.wrap (t29_2+1))) | .pan p=>.pan p | .fail=>.fail) | .pan p=>.pan p | .fail=>.fail else .fail|false=>L68_0 N n_L68_0 x (IntKind.i64.wrap (t17_1+1)):Out Bool):=by kernel_rfl
theorem L68_0_succ (N:Nat) (n_L68_0:Nat) (x:lt3) (t17_1:Int):L68_0 N  (n_L68_0+1) x t17_1 =
 (match (decide (t17_1<(lenI x.2.1))) with|true=>bif (inb t17_1 x.2.1.length) then match ((lenI (List.getD x.2.1 t17_1.toNat [])) != x.1.1) with|true=>.ret false|false=>L68_1 N n_L68_0 N x t17_1 0 else .fail|false=>.ret true:Out Bool):=by kernel_rfl
def F68 (N:Nat) (x:lt3):Out Bool:=match ((lenI x.2.1) != (lenI x.1.2.1)) with|true=>.ret false|false=>L68_0 N N x 0
theorem e68 (N:Nat) (x:lt3):vfn Tryz.prog (phi specs68) hints68 N Tryz.f65 false false ty4 .bool x=F68 N x:=by kernel_rfl
def f68 (x:lt3):Out Bool:=F68 fuel x
def sp68:Spec:=⟨65,.call,ty4,.bool,false,false,f68⟩
theorem c68:Contract Tryz.prog sp68:=contract_at (l:=specs68) (arg:=ty4) (res:=.bool) (multi:=false) (own:=false) (F:=f68) mixed (all_cons c80 (all_cons c106 all_nil)) Tryz.func65 rfl hints68 fun x _=>⟨fuel,e68 fuel x⟩
def specs86a:List Spec:=[sp111a]
def hints86a:List (Nat×List Nat):=[]
def F86a (N:Nat) (x:lt9):Out Bool:=match f111a (x.1,((Value.func (.func 96) #[] #[]),())) with | .ret r_1=>.ret (decide (r_1 >= 0)) | .pan p=>.pan p | .fail=>.fail
theorem e86a (N:Nat) (x:lt9):vfn Tryz.prog (phi specs86a) hints86a N Tryz.f57 false false ty8 .bool (x.1,(Value.func (.func 96) #[] #[]),())=F86a N x:=by kernel_rfl
@[irreducible] def f86a (x:lt9):Out Bool:=vfn Tryz.prog (phi specs86a) hints86a fuel Tryz.f57 false false ty8 .bool x
def sp86a:Spec:=⟨57,.call,ty8,.bool,false,false,f86a⟩
theorem q86a (x:lt9):vfn Tryz.prog (phi specs86a) hints86a fuel Tryz.f57 false false ty8 .bool x=f86a x:=by kernel_rfl
theorem c86a:Contract Tryz.prog sp86a:=contract_at (l:=specs86a) (arg:=ty8) (res:=.bool) (multi:=false) (own:=false) (F:=f86a) mixed (all_cons c111a all_nil) Tryz.func57 rfl hints86a fun x _=>⟨fuel,q86a x⟩
def specs115:List Spec:=[sp130a,sp130b,sp131,sp132]
def hints115:List (Nat×List Nat):=[(3,[3,16,17,18]),(9,[3,6,30,31,32]),(12,[3,6,7,8,30,31,32,38,39])]
def L115_0 (N:Nat) (n_L115_0:Nat) (x:lt1) (rows_3:(List (List UInt8))) (t18_4:Int):Out (List UInt8) :=
 vloop Tryz.prog (phi specs115) hints115 N Tryz.f73 false false .str [.at 1,.at 1,.at 0,.at 1,.at 0] n_L115_0 [U,U,U,.own .str rows_3 false,U,U,U,U,U,U,U,U,U,U,U,U,.d ty0 x.1.2.1,.d (.int .i64) (lenI x.1.2.1),.d (.int .i64) t18_4,U,U,U,U,U,U,U,U,U,U,U,U,U,U,U,U,U,U,U,U,U,U,U,U,U,U,U,U,U,U,U,U,U,U,U,U,U,U,U,U,U,U,U,U,U,U,U,U,U,U,U,U,U,U,U,U,U,U]
def F115 (N:Nat) (x:lt1):Out (List UInt8):=match f130a (x.1.1,()) with | .ret r_1=>L115_0 N N x ([r_1]:List (List UInt8)) 0 | .pan p=>.pan p | .fail=>.fail
theorem e115 (N:Nat) (x:lt1):vfn Tryz.prog (phi specs115) hints115 N Tryz.f73 false false ty2 .str x=F115 N x:=by kernel_rfl
def f115 (x:lt1):Out (List UInt8):=F115 fuel x
def sp115:Spec:=⟨73,.call,ty2,.str,false,false,f115⟩
theorem c115:Contract Tryz.prog sp115:=contract_at (l:=specs115) (arg:=ty2) (res:=.str) (multi:=false) (own:=false) (F:=f115) mixed (all_cons c130a (all_cons c130b (all_cons c131 (all_cons c132 all_nil)))) Tryz.func73 rfl hints115 fun x _=>⟨fuel,e115 fuel x⟩
def specs55:List Spec:=[sp94,sp86a]
def hints55:List (Nat×List Nat):=[(4,[1,17,18,19])]
def L55_0 (N:Nat) (n_L55_0:Nat) (x:lt1) (t_5:Int) (t_6:(List (Int×lt0))) (t19_7:Int):Out Bool :=
 vloop Tryz.prog (phi specs55) hints55 N Tryz.f54 false false .bool [.at 1,.at 1,.at 0,.at 1,.at 0] n_L55_0 [U,.box [.d (.int .i64) t_5,.d ty0 t_6],U,U,U,U,U,U,U,U,U,U,U,U,U,U,U,.d ty0 x.1.2.1,.d (.int .i64) (lenI x.1.2.1),.d (.int .i64) t19_7,U,U,U,U,U,U,U,U,U,U,U,U,U,U,U,U,U,U,U,U,U,U,U,U,U]
theorem L55_0_succ (N:Nat) (n_L55_0:Nat) (x:lt1) (t_5:Int) (t_6:(List (Int×lt0))) (t19_7:Int):L55_0 N  (n_L55_0+1) x t_5 t_6 t19_7 =
 (match (decide (t19_7<(lenI x.1.2.1))) with|true=>bif (inb t19_7 x.1.2.1.length) then match f94 (((List.getD x.1.2.1 t19_7.toNat (0,([],())))).1,(0,((if (IntKind.i64.wrap (t19_7 - 1)) > 0 then (IntKind.i64.wrap (t19_7 - 1)) else 0),()))) with | .ret r_8=>(match (!r_8) with|true=>.ret false|false=>match ((lenI ((List.getD x.1.2.1 t19_7.toNat (0,([],())))).2.1) != t_5) with|true=>.ret false|false=>match f86a (((List.getD x.1.2.1 t19_7.toNat (0,([],())))).2.1,((Value.func (.func 96) #[] #[]),())) with | .ret r_10=>(match r_10 with|true=>.ret false|false=>L55_0 N n_L55_0 x t_5 t_6 (IntKind.i64.wrap (t19_7+1))) | .pan p=>.pan p | .fail=>.fail) | .pan p=>.pan p | .fail=>.fail else .fail|false=>.ret true:Out Bool):=by kernel_rfl
def F55 (N:Nat) (x:lt1):Out Bool:=match f94 (x.1.1,(1,(3,()))) with | .ret r_1=>(match (!r_1) with|true=>.ret false|false=>match f94 ((lenI x.1.2.1),(1,(8,()))) with | .ret r_3=>(match (!r_3) with|true=>.ret false|false=>L55_0 N N x x.1.1 x.1.2.1 0) | .pan p=>.pan p | .fail=>.fail) | .pan p=>.pan p | .fail=>.fail
theorem e55 (N:Nat) (x:lt1):vfn Tryz.prog (phi specs55) hints55 N Tryz.f54 false false ty2 .bool x=F55 N x:=by kernel_rfl
def f55 (x:lt1):Out Bool:=F55 fuel x
def sp55:Spec:=⟨54,.call,ty2,.bool,false,false,f55⟩
theorem c55:Contract Tryz.prog sp55:=contract_at (l:=specs55) (arg:=ty2) (res:=.bool) (multi:=false) (own:=false) (F:=f55) mixed (all_cons c94 (all_cons c86a all_nil)) Tryz.func54 rfl hints55 fun x _=>⟨fuel,e55 fuel x⟩
def specs33:List Spec:=[sp55,sp68]
def hints33:List (Nat×List Nat):=[(5,[1,2,6,20,21,22]),(8,[1,2,6,7,20,21,22,27,28,29])]
def L33_1 (N:Nat) (n_L33_0:Nat) (n_L33_1:Nat) (x:lt3) (t22_6:Int) (out_7:(List (Int×(Int×Unit)))) (t29_8:Int):Out lt13 :=
 vloop Tryz.prog (phi specs33) hints33 N Tryz.f35 true false ty15 [.at 1,.at 1,.at 1,.at 0,.at 1,.at 0,.at n_L33_0,.at 1,.at 1,.at 0,.at 0,.at 1,.at 1,.at 0] n_L33_1 [U,.d ty1 x.2.1,.box [.d (.int .i64) x.1.1,.d ty0 x.1.2.1],U,U,U,.own ty5 out_7 false,.d (.int .i64) t22_6,U,U,U,U,U,U,U,U,U,U,U,U,.d ty1 x.2.1,.d (.int .i64) (lenI x.2.1),.d (.int .i64) t22_6,U,U,U,U,.d (.list (.int .i64)) (List.getD x.2.1 t22_6.toNat ([]:List Int)),.d (.int .i64) (lenI (List.getD x.2.1 t22_6.toNat ([]:List Int))),.d (.int .i64) t29_8,U,U,U,U,U,U,U,U,U,U,U,U,U,U,U,U,U,U,U,U,U,U,U,U,U,U,U,U,U,U,U]
def L33_0 (N:Nat) (n_L33_0:Nat) (x:lt3) (out_5:(List (Int×(Int×Unit)))) (t22_6:Int):Out lt13 :=
 vloop Tryz.prog (phi specs33) hints33 N Tryz.f35 true false ty15 [.at 1,.at 1,.at 1,.at 0,.at 1,.at 0] n_L33_0 [U,.d ty1 x.2.1,.box [.d (.int .i64) x.1.1,.d ty0 x.1.2.1],U,U,U,.own ty5 out_5 false,U,U,U,U,U,U,U,U,U,U,U,U,U,.d ty1 x.2.1,.d (.int .i64) (lenI x.2.1),.d (.int .i64) t22_6,U,U,U,U,U,U,U,U,U,U,U,U,U,U,U,U,U,U,U,U,U,U,U,U,U,U,U,U,U,U,U,U,U,U,U,U,U,U]
theorem L33_1_succ (N:Nat) (n_L33_0:Nat) (n_L33_1:Nat) (x:lt3) (t22_6:Int) (out_7:(List (Int×(Int×Unit)))) (t29_8:Int):L33_1 N n_L33_0 (n_L33_1+1) x t22_6 out_7 t29_8 =
 (match (decide (t29_8<(lenI (List.getD x.2.1 t22_6.toNat [])))) with|true=>bif (inb t29_8 (List.getD x.2.1 t22_6.toNat []).length) then match (decide (t22_6 > 0)) with|true=>bif (inb t22_6 x.1.2.1.length) then bif (inb ((List.getD x.1.2.1 t22_6.toNat (0,([],())))).1 x.2.1.length) then bif (inb t29_8 (List.getD x.2.1 ((List.getD x.1.2.1 t22_6.toNat (0,([],())))).1.toNat []).length) then match ((List.getD (List.getD x.2.1 t22_6.toNat []) t29_8.toNat 0) != (List.getD (List.getD x.2.1 ((List.getD x.1.2.1 t22_6.toNat (0,([],())))).1.toNat []) t29_8.toNat 0)) with|true=>bif (fits out_7 ([(t22_6,(t29_8,()))]:List (Int×(Int×Unit)))) then L33_1 N n_L33_0 n_L33_1 x t22_6 (out_7++([(t22_6,(t29_8,()))]:List (Int×(Int×Unit)))) (IntKind.i64.wrap (t29_8+1)) else .fail|false=>L33_1 N n_L33_0 n_L33_1 x t22_6 out_7 (IntKind.i64.wrap (t29_8+1)) else .fail else .fail else .fail|false=>L33_1 N n_L33_0 n_L33_1 x t22_6 out_7 (IntKind.i64.wrap (t29_8+1)) else .fail|false=>L33_0 N n_L33_0 x out_7 (IntKind.i64.wrap (t22_6+1)):Out lt13):=by kernel_rfl
theorem L33_0_succ (N:Nat) (n_L33_0:Nat) (x:lt3) (out_5:(List (Int×(Int×Unit)))) (t22_6:Int):L33_0 N  (n_L33_0+1) x out_5 t22_6 =
 (match (decide (t22_6<(lenI x.2.1))) with|true=>bif (inb t22_6 x.2.1.length) then L33_1 N n_L33_0 N x t22_6 out_5 0 else .fail|false=>.ret (out_5,(0,())):Out lt13):=by kernel_rfl
def F33 (N:Nat) (x:lt3):Out lt13:=match f55 (x.1,()) with | .ret r_1=>(match (!r_1) with|true=>.ret (([]:List (Int×(Int×Unit))),(2,()))|false=>match f68 (x.1,(x.2.1,())) with | .ret r_3=>(match (!r_3) with|true=>.ret (([]:List (Int×(Int×Unit))),(2,()))|false=>L33_0 N N x ([]:List (Int×(Int×Unit))) 0) | .pan p=>.pan p | .fail=>.fail) | .pan p=>.pan p | .fail=>.fail
theorem e33 (N:Nat) (x:lt3):vfn Tryz.prog (phi specs33) hints33 N Tryz.f35 true false ty4 ty15 x=F33 N x:=by kernel_rfl
def f33 (x:lt3):Out lt13:=F33 fuel x
def sp33:Spec:=⟨35,.call,ty4,ty15,true,false,f33⟩
theorem c33:Contract Tryz.prog sp33:=contract_at (l:=specs33) (arg:=ty4) (res:=ty15) (multi:=true) (own:=false) (F:=f33) mixed (all_cons c55 (all_cons c68 all_nil)) Tryz.func35 rfl hints33 fun x _=>⟨fuel,e33 fuel x⟩
end Go.V
end
