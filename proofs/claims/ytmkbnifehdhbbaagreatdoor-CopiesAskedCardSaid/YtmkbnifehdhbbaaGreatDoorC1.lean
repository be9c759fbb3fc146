/- Part. -/
import Derived.Test.YtmkbnifehdhbbaaGreatDoorCH
set_option linter.all false
noncomputable section
namespace Go.V
open Go.Proofs
def Bj:List Spec:=[]
def yM:List (Nat×List Nat):=[(4,[0,1,5])]
def L19_0 (N:Nat) (n_L19_0:Nat) (x:eG) (i_1:Int):Out Bool :=
 bS Tryz.prog (ah Bj) yM N Tryz.f19 false false .bool [.at 1,.at 1,.at 0,.at 1,.at 0] n_L19_0 [.d (.list (.int .i64)) x.1,.d (.list (.int .i64)) x.2.1,U,U,U,.d (.int .i64) i_1,U,U,U,U,U,U,U,U,U,U,U,U,U,U,U,U,U,U,U,U]
theorem L19_0_succ (N:Nat) (n_L19_0:Nat) (x:eG) (i_1:Int):L19_0 N  (n_L19_0+1) x i_1 =
 (match (decide (i_1<(ae x.1))) with|true=>bif (ax i_1 x.1.length) then bif (ax i_1 x.2.1.length) then match ((List.getD x.1 i_1.toNat 0) != (List.getD x.2.1 i_1.toNat 0)) with|true=>.ret false|false=>L19_0 N n_L19_0 x (IntKind.i64.wrap (i_1+1)) else .fail else .fail|false=>.ret true:Out Bool):=by kernel_rfl
def vS (N:Nat) (x:eG):Out Bool:=match ((ae x.1) != (ae x.2.1)) with|true=>.ret false|false=>L19_0 N N x 0
theorem NI (N:Nat) (x:eG):aW Tryz.prog (ah Bj) yM N Tryz.f19 false false gY .bool x=vS N x:=by kernel_rfl
def f19 (x:eG):Out Bool:=vS fuel x
def Ih:Spec:=⟨19,.call,gY,.bool,false,false,f19⟩
theorem DV:am Tryz.prog Ih:=bi (l:=Bj) (arg:=gY) (res:=.bool) (multi:=false) (own:=false) (F:=f19) mixed aO Tryz.func19 rfl yM fun x _=>⟨fuel,NI fuel x⟩
def Bk:List Spec:=[Ih]
def yN:List (Nat×List Nat):=[(4,[0,1,5])]
def L28_0 (N:Nat) (n_L28_0:Nat) (x:mQ) (i_1:Int):Out Bool :=
 bS Tryz.prog (ah Bk) yN N Tryz.f28 false false .bool [.at 1,.at 1,.at 0,.at 1,.at 0] n_L28_0 [.d be x.1,.d be x.2.1,U,U,U,.d (.int .i64) i_1,U,U,U,U,U,U,U,U,U,U,U,U,U,U,U,U,U,U,U,U,U]
theorem L28_0_succ (N:Nat) (n_L28_0:Nat) (x:mQ) (i_1:Int):L28_0 N  (n_L28_0+1) x i_1 =
 (match (decide (i_1<(ae x.1))) with|true=>bif (ax i_1 x.1.length) then bif (ax i_1 x.2.1.length) then match f19 ((List.getD x.1 i_1.toNat []),((List.getD x.2.1 i_1.toNat []),())) with | .ret r_2=>(match (!r_2) with|true=>.ret false|false=>L28_0 N n_L28_0 x (IntKind.i64.wrap (i_1+1))) | .pan p=>.pan p | .fail=>.fail else .fail else .fail|false=>.ret true:Out Bool):=by kernel_rfl
def vX (N:Nat) (x:mQ):Out Bool:=match ((ae x.1) != (ae x.2.1)) with|true=>.ret false|false=>L28_0 N N x 0
theorem NN (N:Nat) (x:mQ):aW Tryz.prog (ah Bk) yN N Tryz.f28 false false uS .bool x=vX N x:=by kernel_rfl
def f28 (x:mQ):Out Bool:=vX fuel x
def Va:Spec:=⟨28,.call,uS,.bool,false,false,f28⟩
theorem LS:am Tryz.prog Va:=bi (l:=Bk) (arg:=uS) (res:=.bool) (multi:=false) (own:=false) (F:=f28) mixed (all_cons DV aO) Tryz.func28 rfl yN fun x _=>⟨fuel,NN fuel x⟩
def Bl:List Spec:=[]
def yO:List (Nat×List Nat):=[(4,[0,1,5])]
def L37_0 (N:Nat) (n_L37_0:Nat) (x:eG) (i_1:Int):Out Bool :=
 bS Tryz.prog (ah Bl) yO N Tryz.f37 false false .bool [.at 1,.at 1,.at 0,.at 1,.at 0] n_L37_0 [.d (.list (.int .i64)) x.1,.d (.list (.int .i64)) x.2.1,U,U,U,.d (.int .i64) i_1,U,U,U,U,U,U,U,U,U,U,U,U,U,U,U,U,U,U,U,U]
theorem L37_0_succ (N:Nat) (n_L37_0:Nat) (x:eG) (i_1:Int):L37_0 N  (n_L37_0+1) x i_1 =
 (match (decide (i_1<(ae x.1))) with|true=>bif (ax i_1 x.1.length) then bif (ax i_1 x.2.1.length) then match ((List.getD x.1 i_1.toNat 0) != (List.getD x.2.1 i_1.toNat 0)) with|true=>.ret false|false=>L37_0 N n_L37_0 x (IntKind.i64.wrap (i_1+1)) else .fail else .fail|false=>.ret true:Out Bool):=by kernel_rfl
def v7 (N:Nat) (x:eG):Out Bool:=match ((ae x.1) != (ae x.2.1)) with|true=>.ret false|false=>L37_0 N N x 0
theorem NQ (N:Nat) (x:eG):aW Tryz.prog (ah Bl) yO N Tryz.f37 false false gY .bool x=v7 N x:=by kernel_rfl
def f37 (x:eG):Out Bool:=v7 fuel x
def Ve:Spec:=⟨37,.call,gY,.bool,false,false,f37⟩
theorem L4:am Tryz.prog Ve:=bi (l:=Bl) (arg:=gY) (res:=.bool) (multi:=false) (own:=false) (F:=f37) mixed aO Tryz.func37 rfl yO fun x _=>⟨fuel,NQ fuel x⟩
def IJ:List Spec:=[]
def FL:List (Nat×List Nat):=[]
def CJ (N:Nat) (x:Unit):Out (Int×qk):=.ret (2,(([(0,(([4,7]:List Int),())),(0,(([(-1),(-1)]:List Int),())),(1,(([4,1]:List Int),())),(1,(([4,1]:List Int),())),(0,(([(-1),7]:List Int),())),(4,(([8,7]:List Int),()))]:List (Int×aE)),()))
theorem NT (N:Nat) (x:Unit):aW Tryz.prog (ah IJ) FL N Tryz.f48 false false .unit kq x=CJ N x:=by kernel_rfl
def f48 (x:Unit):Out (Int×qk):=CJ fuel x
def Ik:Spec:=⟨48,.call,.unit,kq,false,false,f48⟩
theorem L_:am Tryz.prog Ik:=bi (l:=IJ) (arg:=.unit) (res:=kq) (multi:=false) (own:=false) (F:=f48) mixed aO Tryz.func48 rfl FL fun x _=>⟨fuel,NT fuel x⟩
def IK:List Spec:=[]
def FM:List (Nat×List Nat):=[]
def CK (N:Nat) (x:Unit):Out (List (List Int)):=.ret ([([4,7]:List Int),([4,1]:List Int),([4,1]:List Int),([4,1]:List Int),([4,7]:List Int),([8,7]:List Int)]:List (List Int))
theorem NU (N:Nat) (x:Unit):aW Tryz.prog (ah IK) FM N Tryz.f49 false true .unit be x=CK N x:=by kernel_rfl
def f49 (x:Unit):Out (List (List Int)):=CK fuel x
def Il:Spec:=⟨49,.call,.unit,be,false,true,f49⟩
theorem Mc:am Tryz.prog Il:=bi (l:=IK) (arg:=.unit) (res:=be) (multi:=false) (own:=true) (F:=f49) mixed aO Tryz.func49 rfl FM fun x _=>⟨fuel,NU fuel x⟩
def Bn:List Spec:=[]
def yQ:List (Nat×List Nat):=[(4,[0,1,5])]
def L53_0 (N:Nat) (n_L53_0:Nat) (x:mP) (i_1:Int):Out Bool :=
 bS Tryz.prog (ah Bn) yQ N Tryz.f53 false false .bool [.at 1,.at 1,.at 0,.at 1,.at 0] n_L53_0 [.d (.list (.prod (.int .i64) (.prod (.int .i64) .unit))) x.1,.d (.list (.prod (.int .i64) (.prod (.int .i64) .unit))) x.2.1,U,U,U,.d (.int .i64) i_1,U,U,U,U,U,U,U,U,U,U,U,U,U,U,U,U,U,U,U,U]
theorem L53_0_succ (N:Nat) (n_L53_0:Nat) (x:mP) (i_1:Int):L53_0 N  (n_L53_0+1) x i_1 =
 (match (decide (i_1<(ae x.1))) with|true=>bif (ax i_1 x.1.length) then bif (ax i_1 x.2.1.length) then match (qu (gi ((List.getD x.1 i_1.toNat (0,(0,())))).1 ((List.getD x.2.1 i_1.toNat (0,(0,())))).1 && (gi ((List.getD x.1 i_1.toNat (0,(0,())))).2.1 ((List.getD x.2.1 i_1.toNat (0,(0,())))).2.1 && true))) with|true=>.ret false|false=>L53_0 N n_L53_0 x (IntKind.i64.wrap (i_1+1)) else .fail else .fail|false=>.ret true:Out Bool):=by kernel_rfl
def wq (N:Nat) (x:mP):Out Bool:=match ((ae x.1) != (ae x.2.1)) with|true=>.ret false|false=>L53_0 N N x 0
theorem sN (N:Nat) (x:mP):aW Tryz.prog (ah Bn) yQ N Tryz.f53 false false uT .bool x=wq N x:=by kernel_rfl
def f53 (x:mP):Out Bool:=wq fuel x
def Vk:Spec:=⟨53,.call,uT,.bool,false,false,f53⟩
theorem Mj:am Tryz.prog Vk:=bi (l:=Bn) (arg:=uT) (res:=.bool) (multi:=false) (own:=false) (F:=f53) mixed aO Tryz.func53 rfl yQ fun x _=>⟨fuel,sN fuel x⟩
def CP (N:Nat) (x:(Int×(Int×(Int×Unit)))):Out Bool:=match (decide (x.1 >= x.2.1)) with|true=>.ret (decide (x.1<=x.2.2.1))|false=>.ret false
def f61 (x:(Int×(Int×(Int×Unit)))):Out Bool:=CP fuel x
def Vm:Spec:=⟨61,.call,kn,.bool,false,false,f61⟩
def Bv:List Spec:=[]
def yV:List (Nat×List Nat):=[(5,[0,3,4])]
def L77_0 (N:Nat) (n_L77_0:Nat) (x:aE) (m_1:Int) (i_2:Int):Out Int :=
 bS Tryz.prog (ah Bv) yV N Tryz.f77 false false (.int .i64) [.at 1,.at 1,.at 1,.at 0,.at 1,.at 0] n_L77_0 [.d (.list (.int .i64)) x.1,U,U,.d (.int .i64) m_1,.d (.int .i64) i_2,U,U,U,U,U,U,U,U,U,U,U,U,U,U,U,U,U,U,U,U]
theorem L77_0_succ (N:Nat) (n_L77_0:Nat) (x:aE) (m_1:Int) (i_2:Int):L77_0 N  (n_L77_0+1) x m_1 i_2 =
 (match (decide (i_2<(ae x.1))) with|true=>bif (ax i_2 x.1.length) then L77_0 N n_L77_0 x (if (List.getD x.1 i_2.toNat 0) > m_1 then (List.getD x.1 i_2.toNat 0) else m_1) (IntKind.i64.wrap (i_2+1)) else .fail|false=>.ret m_1:Out Int):=by kernel_rfl
def wH (N:Nat) (x:aE):Out Int:=match (decide ((ae x.1)<1)) with|true=>.pan (.iface 9 (aP .str ((cC .str ([115,108,105,99,101,115,46,77,97,120,58,32,101,109,112,116,121,32,108,105,115,116]:List UInt8)).getD [])))|false=>bif (ax 0 x.1.length) then L77_0 N N x (List.getD x.1 (0:Int).toNat 0) 1 else .fail
theorem Oc (N:Nat) (x:aE):aW Tryz.prog (ah Bv) yV N Tryz.f77 false false jy (.int .i64) x=wH N x:=by kernel_rfl
def f77 (x:aE):Out Int:=wH fuel x
def A4:Spec:=⟨77,.call,jy,(.int .i64),false,false,f77⟩
theorem DY:am Tryz.prog A4:=bi (l:=Bv) (arg:=jy) (res:=(.int .i64)) (multi:=false) (own:=false) (F:=f77) mixed aO Tryz.func77 rfl yV fun x _=>⟨fuel,Oc fuel x⟩
def IP:List Spec:=[]
def FQ:List (Nat×List Nat):=[]
def C0 (N:Nat) (x:zw):Out Bool:=.ret (decide (x.1.2.2.1<x.2.1.2.2.1))
theorem Oe (N:Nat) (x:zw):aW Tryz.prog (ah IP) FQ N Tryz.f79 false false BX .bool x=C0 N x:=by kernel_rfl
def f79 (x:zw):Out Bool:=C0 fuel x
def Iq:Spec:=⟨79,.call,BX,.bool,false,false,f79⟩
theorem Mp:am Tryz.prog Iq:=bi (l:=IP) (arg:=BX) (res:=.bool) (multi:=false) (own:=false) (F:=f79) mixed aO Tryz.func79 rfl FQ fun x _=>⟨fuel,Oe fuel x⟩
def By:List Spec:=[]
def yY:List (Nat×List Nat):=[(4,[0,1,12,13])]
def L88_0 (N:Nat) (n_L88_0:Nat) (x:eG) (t13_1:Int):Out Bool :=
 bS Tryz.prog (ah By) yY N Tryz.f88 false false .bool [.at 1,.at 1,.at 0,.at 1,.at 0] n_L88_0 [.d (.list (.int .i64)) x.1,.d (.list (.int .i64)) x.2.1,U,U,U,U,U,U,U,U,U,U,.d (.int .i64) (ae x.1),.d (.int .i64) t13_1,U,U,U,U,U,U,U,U,U,U,U,U]
theorem L88_0_succ (N:Nat) (n_L88_0:Nat) (x:eG) (t13_1:Int):L88_0 N  (n_L88_0+1) x t13_1 =
 (match (decide (t13_1<(ae x.1))) with|true=>bif (ax t13_1 x.1.length) then bif (ax t13_1 x.2.1.length) then match ((List.getD x.1 t13_1.toNat 0) != (List.getD x.2.1 t13_1.toNat 0)) with|true=>.ret false|false=>L88_0 N n_L88_0 x (IntKind.i64.wrap (t13_1+1)) else .fail else .fail|false=>.ret true:Out Bool):=by kernel_rfl
def wN (N:Nat) (x:eG):Out Bool:=match ((ae x.1) != (ae x.2.1)) with|true=>.ret false|false=>L88_0 N N x 0
theorem On (N:Nat) (x:eG):aW Tryz.prog (ah By) yY N Tryz.f88 false false gY .bool x=wN N x:=by kernel_rfl
def f88 (x:eG):Out Bool:=wN fuel x
def A7:Spec:=⟨88,.call,gY,.bool,false,false,f88⟩
theorem xH:am Tryz.prog A7:=bi (l:=By) (arg:=gY) (res:=.bool) (multi:=false) (own:=false) (F:=f88) mixed aO Tryz.func88 rfl yY fun x _=>⟨fuel,On fuel x⟩
def IT (g:(Int×Unit)->Out (List UInt8)):List Spec:=[⟨92,.call,(.prod (.int .i64) .unit),.str,false,false,g⟩]
def FU:List (Nat×List Nat):=[]
def C5 (g:(Int×Unit)->Out (List UInt8)) (N:Nat) (x:(Int×Unit)):Out (List UInt8):=match (decide (x.1 > (-10))) with|true=>(match (decide (x.1<0)) with|true=>bif (decide (([45]:List UInt8).length+(dE ([(IntKind.u8.wrap (IntKind.i64.wrap (48 - x.1)))]:List Int)).length<1000000)) then .ret (([45]:List UInt8)++(dE ([(IntKind.u8.wrap (IntKind.i64.wrap (48 - x.1)))]:List Int))) else .fail|false=>match (decide (x.1<0)) with|true=>(match g ((IntKind.i64.wrap (x.1.tdiv 10)),()) with | .ret r_1=>bif (decide (r_1.length+(dE ([(IntKind.u8.wrap (IntKind.i64.wrap (48 - (x.1.tmod 10))))]:List Int)).length<1000000)) then .ret (r_1++(dE ([(IntKind.u8.wrap (IntKind.i64.wrap (48 - (x.1.tmod 10))))]:List Int))) else .fail | .pan p=>.pan p | .fail=>.fail)|false=>match (decide (x.1<10)) with|true=>.ret (dE ([(IntKind.u8.wrap (IntKind.i64.wrap (48+x.1)))]:List Int))|false=>match g ((IntKind.i64.wrap (x.1.tdiv 10)),()) with | .ret r_3=>bif (decide (r_3.length+(dE ([(IntKind.u8.wrap (IntKind.i64.wrap (48+(x.1.tmod 10))))]:List Int)).length<1000000)) then .ret (r_3++(dE ([(IntKind.u8.wrap (IntKind.i64.wrap (48+(x.1.tmod 10))))]:List Int))) else .fail | .pan p=>.pan p | .fail=>.fail)|false=>match (decide (x.1<0)) with|true=>(match g ((IntKind.i64.wrap (x.1.tdiv 10)),()) with | .ret r_5=>bif (decide (r_5.length+(dE ([(IntKind.u8.wrap (IntKind.i64.wrap (48 - (x.1.tmod 10))))]:List Int)).length<1000000)) then .ret (r_5++(dE ([(IntKind.u8.wrap (IntKind.i64.wrap (48 - (x.1.tmod 10))))]:List Int))) else .fail | .pan p=>.pan p | .fail=>.fail)|false=>match (decide (x.1<10)) with|true=>.ret (dE ([(IntKind.u8.wrap (IntKind.i64.wrap (48+x.1)))]:List Int))|false=>match g ((IntKind.i64.wrap (x.1.tdiv 10)),()) with | .ret r_7=>bif (decide (r_7.length+(dE ([(IntKind.u8.wrap (IntKind.i64.wrap (48+(x.1.tmod 10))))]:List Int)).length<1000000)) then .ret (r_7++(dE ([(IntKind.u8.wrap (IntKind.i64.wrap (48+(x.1.tmod 10))))]:List Int))) else .fail | .pan p=>.pan p | .fail=>.fail
theorem Ou (g:(Int×Unit)->Out (List UInt8)) (N:Nat) (x:(Int×Unit)):aW Tryz.prog (ah (IT g)) FU N Tryz.f92 false false (.prod (.int .i64) .unit) .str x=C5 g N x:=by kernel_rfl
def mD:Nat->(Int×Unit)->Out (List UInt8)
 | 0,_=>.fail
 | m+1,x=>C5 (mD m) fuel x
theorem D0:∀ m,am Tryz.prog ⟨92,.call,(.prod (.int .i64) .unit),.str,false,false,mD m⟩
 | 0=>fun _ _ _ _ _ _ _=>trivial
 | m+1=>bi (l:=IT (mD m)) (arg:=(.prod (.int .i64) .unit)) (res:=.str) (multi:=false) (own:=false) (F:=mD (m+1)) mixed (all_cons (D0 m) aO) Tryz.func92 rfl FU fun x _=>⟨fuel,Ou (mD m) fuel x⟩
def f92 (x:(Int×Unit)):Out (List UInt8):=mD fuel x
def uy:Spec:=⟨92,.call,(.prod (.int .i64) .unit),.str,false,false,f92⟩
theorem xI:am Tryz.prog uy:=D0 fuel
def BA:List Spec:=[uy]
def y_:List (Nat×List Nat):=[(3,[0,1,5,6,7]),(6,[0,1,5,6,7,8])]
def L93_0 (N:Nat) (n_L93_0:Nat) (x:((List (List UInt8))×(Int×Unit))) (out_1:(List UInt8)) (check_2:Int) (i_3:Int):Out (List UInt8) :=
 bS Tryz.prog (ah BA) y_ N Tryz.f93 false false .str [.at 1,.at 1,.at 0,.at 1,.at 0] n_L93_0 [.d (.list .str) x.1,.d (.int .i64) x.2.1,U,U,U,.d .str out_1,.d (.int .i64) check_2,.d (.int .i64) i_3,U,U,U,U,U,U,U,U,U,U,U,U,U,U,U,U,U,U,U,U,U,U,U,U,U,U,U,U,U,U,U,U,U,U,U,U,U,U,U,U,U,U,U,U,U,U,U,U,U,U,U,U,U,U,U,U,U]
def C6 (N:Nat) (x:((List (List UInt8))×(Int×Unit))):Out (List UInt8):=L93_0 N N x ([]:List UInt8) 0 0
theorem Ov (N:Nat) (x:((List (List UInt8))×(Int×Unit))):aW Tryz.prog (ah BA) y_ N Tryz.f93 false false (.prod (.list .str) (.prod (.int .i64) .unit)) .str x=C6 N x:=by kernel_rfl
def f93 (x:((List (List UInt8))×(Int×Unit))):Out (List UInt8):=C6 fuel x
def Iw:Spec:=⟨93,.call,(.prod (.list .str) (.prod (.int .i64) .unit)),.str,false,false,f93⟩
theorem Mw:am Tryz.prog Iw:=bi (l:=BA) (arg:=(.prod (.list .str) (.prod (.int .i64) .unit))) (res:=.str) (multi:=false) (own:=false) (F:=f93) mixed (all_cons xI aO) Tryz.func93 rfl y_ fun x _=>⟨fuel,Ov fuel x⟩
def IU:List Spec:=[]
def FV:List (Nat×List Nat):=[]
def wO (N:Nat) (x:(Int×(Int×(Int×Unit)))):Out Bool:=match (decide (x.1 >= x.2.1)) with|true=>.ret (decide (x.1<=x.2.2.1))|false=>.ret false
theorem Ow (N:Nat) (x:(Int×(Int×(Int×Unit)))):aW Tryz.prog (ah IU) FV N Tryz.f94 false false kn .bool x=wO N x:=by kernel_rfl
def f94 (x:(Int×(Int×(Int×Unit)))):Out Bool:=wO fuel x
def qW:Spec:=⟨94,.call,kn,.bool,false,false,f94⟩
theorem sD:am Tryz.prog qW:=bi (l:=IU) (arg:=kn) (res:=.bool) (multi:=false) (own:=false) (F:=f94) mixed aO Tryz.func94 rfl FV fun x _=>⟨fuel,Ow fuel x⟩
def Iz:List Spec:=[]
def FB:List (Nat×List Nat):=[]
def ox (N:Nat) (x:zv):Out Bool:=bif (ax x.2.1 x.1.2.1.length) then bif (ax x.2.2.1 ((List.getD x.1.2.1 x.2.1.toNat (0,([],())))).2.1.length) then match ((List.getD ((List.getD x.1.2.1 x.2.1.toNat (0,([],())))).2.1 x.2.2.1.toNat 0)==(-1)) with|true=>.ret true|false=>.ret ((List.getD ((List.getD x.1.2.1 x.2.1.toNat (0,([],())))).2.1 x.2.2.1.toNat 0)==x.2.2.2.1) else .fail else .fail
theorem Nr (N:Nat) (x:zv):aW Tryz.prog (ah Iz) FB N Tryz.f106 false false BZ .bool x=ox N x:=by kernel_rfl
def f106 (x:zv):Out Bool:=ox fuel x
def qR:Spec:=⟨106,.call,BZ,.bool,false,false,f106⟩
theorem sg:am Tryz.prog qR:=bi (l:=Iz) (arg:=BZ) (res:=.bool) (multi:=false) (own:=false) (F:=f106) mixed aO Tryz.func106 rfl FB fun x _=>⟨fuel,Nr fuel x⟩
def Ba:List Spec:=[]
def yE:List (Nat×List Nat):=[(3,[1,3,7,14,15,16])]
def L107_0 (N:Nat) (n_L107_0:Nat) (x:qh) (n_1:Int) (t16_2:Int):Out Int :=
 bS Tryz.prog (ah Ba) yE N Tryz.f107 false false (.int .i64) [.at 1,.at 1,.at 0,.at 1,.at 0] n_L107_0 [U,.d (.int .i64) x.2.1,U,.box [.d (.int .i64) x.1.1.1.1,.d ba x.1.1.1.2.1,.d be x.1.1.2.1,.d ko x.1.2.1],U,U,U,.d (.int .i64) n_1,U,U,U,U,U,U,.d be (List.getD x.1.2.1 x.2.2.1.toNat ([]:List (List Int))),.d (.int .i64) (ae (List.getD x.1.2.1 x.2.2.1.toNat ([]:List (List Int)))),.d (.int .i64) t16_2,U,U,U,U,U,U,U,U,U,U,U,U,U,U,U,U,U,U,U,U,U,U,U]
theorem L107_0_succ (N:Nat) (n_L107_0:Nat) (x:qh) (n_1:Int) (t16_2:Int):L107_0 N  (n_L107_0+1) x n_1 t16_2 =
 (match (decide (t16_2<(ae (List.getD x.1.2.1 x.2.2.1.toNat [])))) with|true=>bif (ax t16_2 (List.getD x.1.2.1 x.2.2.1.toNat []).length) then bif (ax x.2.1 (List.getD (List.getD x.1.2.1 x.2.2.1.toNat []) t16_2.toNat []).length) then bif (ax x.2.1 x.1.1.1.2.1.length) then bif (ax ((List.getD x.1.1.1.2.1 x.2.1.toNat (0,([],())))).1 (List.getD (List.getD x.1.2.1 x.2.2.1.toNat []) t16_2.toNat []).length) then match ((List.getD (List.getD (List.getD x.1.2.1 x.2.2.1.toNat []) t16_2.toNat []) x.2.1.toNat 0) != (List.getD (List.getD (List.getD x.1.2.1 x.2.2.1.toNat []) t16_2.toNat []) ((List.getD x.1.1.1.2.1 x.2.1.toNat (0,([],())))).1.toNat 0)) with|true=>L107_0 N n_L107_0 x (IntKind.i64.wrap (n_1+1)) (IntKind.i64.wrap (t16_2+1))|false=>L107_0 N n_L107_0 x n_1 (IntKind.i64.wrap (t16_2+1)) else .fail else .fail else .fail else .fail|false=>.ret n_1:Out Int):=by kernel_rfl
def vN (N:Nat) (x:qh):Out Int:=bif (ax x.2.2.1 x.1.2.1.length) then L107_0 N N x 0 0 else .fail
theorem Ns (N:Nat) (x:qh):aW Tryz.prog (ah Ba) yE N Tryz.f107 false false B4 (.int .i64) x=vN N x:=by kernel_rfl
def f107 (x:qh):Out Int:=vN fuel x
def AG:Spec:=⟨107,.call,B4,(.int .i64),false,false,f107⟩
theorem DQ:am Tryz.prog AG:=bi (l:=Ba) (arg:=B4) (res:=(.int .i64)) (multi:=false) (own:=false) (F:=f107) mixed aO Tryz.func107 rfl yE fun x _=>⟨fuel,Ns fuel x⟩
def IA:List Spec:=[]
def FC:List (Nat×List Nat):=[]
def Ct (N:Nat) (x:(Bool×gS)):Out Unit:=match (!x.1) with|true=>.pan (.iface 135 (aP (.prod .str .unit) ((cC (.prod .str .unit) x.2).getD [])))|false=>.ret ()
theorem Nv (N:Nat) (x:(Bool×gS)):aW Tryz.prog (ah IA) FC N Tryz.f113 true false (.prod .bool (.prod .str .unit)) .unit x=Ct N x:=by kernel_rfl
def f113 (x:(Bool×gS)):Out Unit:=Ct fuel x
def AH:Spec:=⟨113,.call,(.prod .bool (.prod .str .unit)),.unit,true,false,f113⟩
theorem xC:am Tryz.prog AH:=bi (l:=IA) (arg:=(.prod .bool (.prod .str .unit))) (res:=.unit) (multi:=true) (own:=false) (F:=f113) mixed aO Tryz.func113 rfl FC fun x _=>⟨fuel,Nv fuel x⟩
def Bc:List Spec:=[AH]
def yG:List (Nat×List Nat):=[(4,[0,1,5,13])]
def L114_0 (N:Nat) (n_L114_0:Nat) (x:((List UInt8)×(Bool×Unit))) (out_3:(List Int)) (t13_4:Nat):Out (List Int) :=
 bS Tryz.prog (ah Bc) yG N Tryz.f114 false true (.list (.int .i64)) [.at 1,.at 1,.at 1,.at 0,.at 1,.at 0] n_L114_0 [.d .str x.1,.d .bool x.2.1,U,U,U,.own (.int .i64) out_3 false,U,U,U,U,U,U,U,.sit x.1 t13_4,U,U,U,U,U,U,U,U,U,U,U,U,U,U,U,U,U,U,U,U,U,U,U,U,U,U]
def Cu (N:Nat) (x:((List UInt8)×(Bool×Unit))):Out (List Int):=match f113 ((x.1 != ([]:List UInt8)),(x.1,())) with | .ret r_1=>L114_0 N N x [] 0 | .pan p=>.pan p | .fail=>.fail
theorem Nx (N:Nat) (x:((List UInt8)×(Bool×Unit))):aW Tryz.prog (ah Bc) yG N Tryz.f114 false true (.prod .str (.prod .bool .unit)) (.list (.int .i64)) x=Cu N x:=by kernel_rfl
def f114 (x:((List UInt8)×(Bool×Unit))):Out (List Int):=Cu fuel x
def H_:Spec:=⟨114,.call,(.prod .str (.prod .bool .unit)),(.list (.int .i64)),false,true,f114⟩
theorem DS:am Tryz.prog H_:=bi (l:=Bc) (arg:=(.prod .str (.prod .bool .unit))) (res:=(.list (.int .i64))) (multi:=false) (own:=true) (F:=f114) mixed (all_cons xC aO) Tryz.func114 rfl yG fun x _=>⟨fuel,Nx fuel x⟩
def Be:List Spec:=[]
def yI:List (Nat×List Nat):=[(2,[0,1,7,8])]
def L116_0 (N:Nat) (n_L116_0:Nat) (x:bB) (t8_1:Int):Out Int :=
 bS Tryz.prog (ah Be) yI N Tryz.f116 false false (.int .i64) [.at 1,.at 0,.at 1,.at 0] n_L116_0 [.d (.list (.int .i64)) x.1,.d (.int .i64) x.2.1,U,U,U,U,U,.d (.int .i64) (ae x.1),.d (.int .i64) t8_1,U,U,U,U,U,U,U,U,U,U]
theorem L116_0_succ (N:Nat) (n_L116_0:Nat) (x:bB) (t8_1:Int):L116_0 N  (n_L116_0+1) x t8_1 =
 (match (decide (t8_1<(ae x.1))) with|true=>bif (ax t8_1 x.1.length) then match (x.2.1==(List.getD x.1 t8_1.toNat 0)) with|true=>.ret t8_1|false=>L116_0 N n_L116_0 x (IntKind.i64.wrap (t8_1+1)) else .fail|false=>.ret (-1):Out Int):=by kernel_rfl
def vP (N:Nat) (x:bB):Out Int:=L116_0 N N x 0
theorem Nz (N:Nat) (x:bB):aW Tryz.prog (ah Be) yI N Tryz.f116 false false ch (.int .i64) x=vP N x:=by kernel_rfl
def f116 (x:bB):Out Int:=vP fuel x
def Ib:Spec:=⟨116,.call,ch,(.int .i64),false,false,f116⟩
theorem Ly:am Tryz.prog Ib:=bi (l:=Be) (arg:=ch) (res:=(.int .i64)) (multi:=false) (own:=false) (F:=f116) mixed aO Tryz.func116 rfl yI fun x _=>⟨fuel,Nz fuel x⟩
def Bf:List Spec:=[]
def yJ:List (Nat×List Nat):=[(3,[3,6,7,8])]
def L117_0 (N:Nat) (n_L117_0:Nat) (x:aE) (n_1:Int) (t8_2:Int):Out Int :=
 bS Tryz.prog (ah Bf) yJ N Tryz.f117 false false (.int .i64) [.at 1,.at 1,.at 0,.at 1,.at 0] n_L117_0 [U,U,U,.d (.int .i64) n_1,U,U,.d (.list (.int .i64)) x.1,.d (.int .i64) (ae x.1),.d (.int .i64) t8_2,U,U,U,U,U,U,U,U,U]
theorem L117_0_succ (N:Nat) (n_L117_0:Nat) (x:aE) (n_1:Int) (t8_2:Int):L117_0 N  (n_L117_0+1) x n_1 t8_2 =
 (match (decide (t8_2<(ae x.1))) with|true=>bif (ax t8_2 x.1.length) then L117_0 N n_L117_0 x (if (IntKind.i64.wrap (n_1+(List.getD x.1 t8_2.toNat 0)))<1000 then (IntKind.i64.wrap (n_1+(List.getD x.1 t8_2.toNat 0))) else 1000) (IntKind.i64.wrap (t8_2+1)) else .fail|false=>.ret n_1:Out Int):=by kernel_rfl
def Cw (N:Nat) (x:aE):Out Int:=L117_0 N N x 0 0
theorem NA (N:Nat) (x:aE):aW Tryz.prog (ah Bf) yJ N Tryz.f117 false false jy (.int .i64) x=Cw N x:=by kernel_rfl
def f117 (x:aE):Out Int:=Cw fuel x
def qS:Spec:=⟨117,.call,jy,(.int .i64),false,false,f117⟩
theorem sh:am Tryz.prog qS:=bi (l:=Bf) (arg:=jy) (res:=(.int .i64)) (multi:=false) (own:=false) (F:=f117) mixed aO Tryz.func117 rfl yJ fun x _=>⟨fuel,NA fuel x⟩
def IC:List Spec:=[]
def FE:List (Nat×List Nat):=[]
def Cz (N:Nat) (x:Unit):Out ((List UInt8)×((List UInt8)×Unit)):=.ret (([99,111,112,105,101,115]:List UInt8),(([99,111,112,121]:List UInt8),()))
theorem NE (N:Nat) (x:Unit):aW Tryz.prog (ah IC) FE N Tryz.f142 false false .unit (.prod .str (.prod .str .unit)) x=Cz N x:=by kernel_rfl
def f142 (x:Unit):Out ((List UInt8)×((List UInt8)×Unit)):=Cz fuel x
def AJ:Spec:=⟨142,.call,.unit,(.prod .str (.prod .str .unit)),false,false,f142⟩
theorem DU:am Tryz.prog AJ:=bi (l:=IC) (arg:=.unit) (res:=(.prod .str (.prod .str .unit))) (multi:=false) (own:=false) (F:=f142) mixed aO Tryz.func142 rfl FE fun x _=>⟨fuel,NE fuel x⟩
def IF:List Spec:=[]
def FH:List (Nat×List Nat):=[]
def CC (N:Nat) (x:(Int×Unit)):Out (List Int):=.ret ([x.1]:List Int)
theorem NH (N:Nat) (x:(Int×Unit)):aW Tryz.prog (ah IF) FH N Tryz.f189 false true (.prod (.int .i64) .unit) (.list (.int .i64)) x=CC N x:=by kernel_rfl
def f189 (x:(Int×Unit)):Out (List Int):=CC fuel x
def Ig:Spec:=⟨189,.call,(.prod (.int .i64) .unit),(.list (.int .i64)),false,true,f189⟩
theorem LH:am Tryz.prog Ig:=bi (l:=IF) (arg:=(.prod (.int .i64) .unit)) (res:=(.list (.int .i64))) (multi:=false) (own:=true) (F:=f189) mixed aO Tryz.func189 rfl FH fun x _=>⟨fuel,NH fuel x⟩
def IG:List Spec:=[]
def FI:List (Nat×List Nat):=[]
def CD (N:Nat) (x:kW):Out (List Int):=.ret ([x.1.1.1]:List Int)
theorem NJ (N:Nat) (x:kW):aW Tryz.prog (ah IG) FI N Tryz.f190 false true B1 (.list (.int .i64)) x=CD N x:=by kernel_rfl
def f190 (x:kW):Out (List Int):=CD fuel x
def Ii:Spec:=⟨190,.call,B1,(.list (.int .i64)),false,true,f190⟩
theorem LJ:am Tryz.prog Ii:=bi (l:=IG) (arg:=B1) (res:=(.list (.int .i64))) (multi:=false) (own:=true) (F:=f190) mixed aO Tryz.func190 rfl FI fun x _=>⟨fuel,NJ fuel x⟩
def CF (N:Nat) (x:(Int×Unit)):Out Bool:=match f61 (x.1,(0,(9,()))) with | .ret r=>.ret r | .pan p=>.pan p | .fail=>.fail
def f46 (x:(Int×Unit)):Out Bool:=CF fuel x
def Ij:Spec:=⟨46,.call,(.prod (.int .i64) .unit),.bool,false,false,f46⟩
def IM:List Spec:=[qW]
def FO:List (Nat×List Nat):=[]
def wv (N:Nat) (x:dZ):Out Bool:=match f94 (x.2.1,(0,((IntKind.i64.wrap ((ae x.1.2.1) - 1)),()))) with | .ret r=>.ret r | .pan p=>.pan p | .fail=>.fail
theorem N3 (N:Nat) (x:dZ):aW Tryz.prog (ah IM) FO N Tryz.f56 false false fy .bool x=wv N x:=by kernel_rfl
def f56 (x:dZ):Out Bool:=wv fuel x
def lG:Spec:=⟨56,.call,fy,.bool,false,false,f56⟩
theorem mp:am Tryz.prog lG:=bi (l:=IM) (arg:=fy) (res:=.bool) (multi:=false) (own:=false) (F:=f56) mixed (all_cons sD aO) Tryz.func56 rfl FO fun x _=>⟨fuel,N3 fuel x⟩
def Bt:List Spec:=[AG]
def yT:List (Nat×List Nat):=[(2,[1,2,8,9,10])]
def L71_0 (N:Nat) (n_L71_0:Nat) (x:iz) (t10_1:Int):Out Bool :=
 bS Tryz.prog (ah Bt) yT N Tryz.f71 false false .bool [.at 1,.at 0,.at 1,.at 0] n_L71_0 [U,.d (.int .i64) x.2.1,.box [.d (.int .i64) x.1.1.1.1,.d ba x.1.1.1.2.1,.d be x.1.1.2.1,.d ko x.1.2.1],U,U,U,U,U,.d ko x.1.2.1,.d (.int .i64) (ae x.1.2.1),.d (.int .i64) t10_1,U,U,U,U,U,U,U,U,U,U,U,U]
theorem L71_0_succ (N:Nat) (n_L71_0:Nat) (x:iz) (t10_1:Int):L71_0 N  (n_L71_0+1) x t10_1 =
 (match (decide (t10_1<(ae x.1.2.1))) with|true=>bif (ax t10_1 x.1.2.1.length) then match f107 (x.1,(x.2.1,(t10_1,()))) with | .ret r_2=>(match (r_2==(ae (List.getD x.1.2.1 t10_1.toNat []))) with|true=>.ret true|false=>L71_0 N n_L71_0 x (IntKind.i64.wrap (t10_1+1))) | .pan p=>.pan p | .fail=>.fail else .fail|false=>.ret false:Out Bool):=by kernel_rfl
def wE (N:Nat) (x:iz):Out Bool:=L71_0 N N x 0
theorem N_ (N:Nat) (x:iz):aW Tryz.prog (ah Bt) yT N Tryz.f71 false false n8 .bool x=wE N x:=by kernel_rfl
def f71 (x:iz):Out Bool:=wE fuel x
def Io:Spec:=⟨71,.call,n8,.bool,false,false,f71⟩
theorem Mn:am Tryz.prog Io:=bi (l:=Bt) (arg:=n8) (res:=.bool) (multi:=false) (own:=false) (F:=f71) mixed (all_cons DQ aO) Tryz.func71 rfl yT fun x _=>⟨fuel,N_ fuel x⟩
def Bu:List Spec:=[AG]
def yU:List (Nat×List Nat):=[(2,[1,2,8,9])]
def L72_0 (N:Nat) (n_L72_0:Nat) (x:iz) (t9_1:Int):Out Bool :=
 bS Tryz.prog (ah Bu) yU N Tryz.f72 false false .bool [.at 1,.at 0,.at 1,.at 0] n_L72_0 [U,.d (.int .i64) x.2.1,.box [.d (.int .i64) x.1.1.1.1,.d ba x.1.1.1.2.1,.d be x.1.1.2.1,.d ko x.1.2.1],U,U,U,U,U,.d (.int .i64) (ae x.1.2.1),.d (.int .i64) t9_1,U,U,U,U,U,U,U,U]
theorem L72_0_succ (N:Nat) (n_L72_0:Nat) (x:iz) (t9_1:Int):L72_0 N  (n_L72_0+1) x t9_1 =
 (match (decide (t9_1<(ae x.1.2.1))) with|true=>(match f107 (x.1,(x.2.1,(t9_1,()))) with | .ret r_2=>(match (decide (r_2 > 0)) with|true=>.ret true|false=>L72_0 N n_L72_0 x (IntKind.i64.wrap (t9_1+1))) | .pan p=>.pan p | .fail=>.fail)|false=>.ret false:Out Bool):=by kernel_rfl
def wF (N:Nat) (x:iz):Out Bool:=L72_0 N N x 0
theorem Oa (N:Nat) (x:iz):aW Tryz.prog (ah Bu) yU N Tryz.f72 false false n8 .bool x=wF N x:=by kernel_rfl
def f72 (x:iz):Out Bool:=wF fuel x
def Ip:Spec:=⟨72,.call,n8,.bool,false,false,f72⟩
theorem Mo:am Tryz.prog Ip:=bi (l:=Bu) (arg:=n8) (res:=.bool) (multi:=false) (own:=false) (F:=f72) mixed (all_cons DQ aO) Tryz.func72 rfl yU fun x _=>⟨fuel,Oa fuel x⟩
def IO:List Spec:=[qW]
def FP:List (Nat×List Nat):=[]
def wG (N:Nat) (x:dZ):Out Bool:=match f94 (x.2.1,(0,((IntKind.i64.wrap (x.1.1 - 1)),()))) with | .ret r=>.ret r | .pan p=>.pan p | .fail=>.fail
theorem Ob (N:Nat) (x:dZ):aW Tryz.prog (ah IO) FP N Tryz.f73 false false fy .bool x=wG N x:=by kernel_rfl
def f73 (x:dZ):Out Bool:=wG fuel x
def qU:Spec:=⟨73,.call,fy,.bool,false,false,f73⟩
theorem sw:am Tryz.prog qU:=bi (l:=IO) (arg:=fy) (res:=.bool) (multi:=false) (own:=false) (F:=f73) mixed (all_cons sD aO) Tryz.func73 rfl FP fun x _=>⟨fuel,Ob fuel x⟩
def nM:List Spec:=[Iq]
def mJ:List (Nat×List Nat):=[(3,[0,1,4,6,9,10,11])]
def L78a_0 (N:Nat) (n_L78a_0:Nat) (x:mO) (t4_1:Int) (t4_2:Int) (t4_3:Int) (out_4:Int) (out_5:Int) (out_6:Int) (t11_7:Int):Out tJ :=
 bS Tryz.prog (ah nM) mJ N Tryz.f78 true false lO [.at 1,.at 1,.at 0,.at 1,.at 0] n_L78a_0 [.d (.list (.prod (.int .i64) (.prod (.int .i64) (.prod (.int .i64) .unit)))) x.1,.d .raw (Value.func (.func 79) #[] #[]),U,U,.box [.d (.int .i64) t4_1,.d (.int .i64) t4_2,.d (.int .i64) t4_3],U,.box [.d (.int .i64) out_4,.d (.int .i64) out_5,.d (.int .i64) out_6],U,U,.d (.list (.prod (.int .i64) (.prod (.int .i64) (.prod (.int .i64) .unit)))) x.1,.d (.int .i64) (ae x.1),.d (.int .i64) t11_7,U,U,U,U,U,U,U,U,U,U,U,U,U,U,U,U,U,U]
theorem L78a_0_succ (N:Nat) (n_L78a_0:Nat) (x:mO) (t4_1:Int) (t4_2:Int) (t4_3:Int) (out_4:Int) (out_5:Int) (out_6:Int) (t11_7:Int):L78a_0 N  (n_L78a_0+1) x t4_1 t4_2 t4_3 out_4 out_5 out_6 t11_7 =
 (match (decide (t11_7<(ae x.1))) with|true=>bif (ax t11_7 x.1.length) then match (t11_7==0) with|true=>L78a_0 N n_L78a_0 x t4_1 t4_2 t4_3 ((List.getD x.1 t11_7.toNat (0,(0,(0,()))))).1 ((List.getD x.1 t11_7.toNat (0,(0,(0,()))))).2.1 ((List.getD x.1 t11_7.toNat (0,(0,(0,()))))).2.2.1 (IntKind.i64.wrap (t11_7+1))|false=>match (decide (((List.getD x.1 t11_7.toNat (0,(0,(0,()))))).2.2.1<out_6)) with|true=>L78a_0 N n_L78a_0 x t4_1 t4_2 t4_3 ((List.getD x.1 t11_7.toNat (0,(0,(0,()))))).1 ((List.getD x.1 t11_7.toNat (0,(0,(0,()))))).2.1 ((List.getD x.1 t11_7.toNat (0,(0,(0,()))))).2.2.1 (IntKind.i64.wrap (t11_7+1))|false=>L78a_0 N n_L78a_0 x t4_1 t4_2 t4_3 out_4 out_5 out_6 (IntKind.i64.wrap (t11_7+1)) else .fail|false=>.ret ((out_4,(out_5,(out_6,()))),((decide ((ae x.1) > 0)),())):Out tJ):=by kernel_rfl
def CR (N:Nat) (x:mO):Out tJ:=L78a_0 N N x 0 0 0 0 0 0 0
theorem Od (N:Nat) (x:mO):aW Tryz.prog (ah nM) mJ N Tryz.f78 true false n_ lO (x.1,(Value.func (.func 79) #[] #[]),())=CR N x:=by kernel_rfl
@[irreducible] def pw (x:mO):Out tJ:=aW Tryz.prog (ah nM) mJ fuel Tryz.f78 true false n_ lO x
def A5:Spec:=⟨78,.call,n_,lO,true,false,pw⟩
theorem Hn (x:mO):aW Tryz.prog (ah nM) mJ fuel Tryz.f78 true false n_ lO x=pw x:=by kernel_rfl
theorem DZ:am Tryz.prog A5:=bi (l:=nM) (arg:=n_) (res:=lO) (multi:=true) (own:=false) (F:=pw) mixed (all_cons Mp aO) Tryz.func78 rfl mJ fun x _=>⟨fuel,Hn x⟩
def IQ:List Spec:=[qW]
def FR:List (Nat×List Nat):=[]
def wI (N:Nat) (x:(Int×Unit)):Out Bool:=match f94 (x.1,(0,(9,()))) with | .ret r=>.ret r | .pan p=>.pan p | .fail=>.fail
theorem Og (N:Nat) (x:(Int×Unit)):aW Tryz.prog (ah IQ) FR N Tryz.f80 false false (.prod (.int .i64) .unit) .bool x=wI N x:=by kernel_rfl
def f80 (x:(Int×Unit)):Out Bool:=wI fuel x
def qV:Spec:=⟨80,.call,(.prod (.int .i64) .unit),.bool,false,false,f80⟩
theorem sB:am Tryz.prog qV:=bi (l:=IQ) (arg:=(.prod (.int .i64) .unit)) (res:=.bool) (multi:=false) (own:=false) (F:=f80) mixed (all_cons sD aO) Tryz.func80 rfl FR fun x _=>⟨fuel,Og fuel x⟩
def Bx:List Spec:=[lG]
def yX:List (Nat×List Nat):=[(2,[1,2,7,8,9])]
def L85_0 (N:Nat) (n_L85_0:Nat) (x:gR) (t9_1:Int):Out Bool :=
 bS Tryz.prog (ah Bx) yX N Tryz.f85 false false .bool [.at 1,.at 0,.at 1,.at 0] n_L85_0 [U,.d (.list (.int .i64)) x.2.1,.box [.d (.int .i64) x.1.1,.d ba x.1.2.1],U,U,U,U,.d (.list (.int .i64)) x.2.1,.d (.int .i64) (ae x.2.1),.d (.int .i64) t9_1,U,U,U,U,U,U,U,U,U,U,U,U,U,U,U,U,U,U,U,U,U,U,U,U,U,U]
theorem L85_0_succ (N:Nat) (n_L85_0:Nat) (x:gR) (t9_1:Int):L85_0 N  (n_L85_0+1) x t9_1 =
 (match (decide (t9_1<(ae x.2.1))) with|true=>bif (ax t9_1 x.2.1.length) then match f56 (x.1,((List.getD x.2.1 t9_1.toNat 0),())) with | .ret r_2=>(match (!r_2) with|true=>.ret false|false=>match ((List.getD x.2.1 t9_1.toNat 0)==0) with|true=>.ret false|false=>match (decide (t9_1 > 0)) with|true=>bif (ax (IntKind.i64.wrap (t9_1 - 1)) x.2.1.length) then match (decide ((List.getD x.2.1 t9_1.toNat 0)<=(List.getD x.2.1 (IntKind.i64.wrap (t9_1 - 1)).toNat 0))) with|true=>.ret false|false=>L85_0 N n_L85_0 x (IntKind.i64.wrap (t9_1+1)) else .fail|false=>L85_0 N n_L85_0 x (IntKind.i64.wrap (t9_1+1))) | .pan p=>.pan p | .fail=>.fail else .fail|false=>.ret true:Out Bool):=by kernel_rfl
def wK (N:Nat) (x:gR):Out Bool:=L85_0 N N x 0
theorem Oi (N:Nat) (x:gR):aW Tryz.prog (ah Bx) yX N Tryz.f85 false false lQ .bool x=wK N x:=by kernel_rfl
def f85 (x:gR):Out Bool:=wK fuel x
def ux:Spec:=⟨85,.call,lQ,.bool,false,false,f85⟩
theorem sC:am Tryz.prog ux:=bi (l:=Bx) (arg:=lQ) (res:=.bool) (multi:=false) (own:=false) (F:=f85) mixed (all_cons mp aO) Tryz.func85 rfl yX fun x _=>⟨fuel,Oi fuel x⟩
def Bz:List Spec:=[uy]
def yZ:List (Nat×List Nat):=[(2,[0,1,5])]
def L91_0 (N:Nat) (n_L91_0:Nat) (x:((List UInt8)×((List Int)×Unit))) (word_1:(List UInt8)) (i_2:Int):Out (List UInt8) :=
 bS Tryz.prog (ah Bz) yZ N Tryz.f91 false false .str [.at 1,.at 0,.at 1,.at 0] n_L91_0 [.d .str word_1,.d (.list (.int .i64)) x.2.1,U,U,U,.d (.int .i64) i_2,U,U,U,U,U,U,U,U,U,U,U,U,U,U,U]
def C4 (N:Nat) (x:((List UInt8)×((List Int)×Unit))):Out (List UInt8):=L91_0 N N x x.1 0
theorem Ot (N:Nat) (x:((List UInt8)×((List Int)×Unit))):aW Tryz.prog (ah Bz) yZ N Tryz.f91 false false (.prod .str (.prod (.list (.int .i64)) .unit)) .str x=C4 N x:=by kernel_rfl
def f91 (x:((List UInt8)×((List Int)×Unit))):Out (List UInt8):=C4 fuel x
def Iv:Spec:=⟨91,.call,(.prod .str (.prod (.list (.int .i64)) .unit)),.str,false,false,f91⟩
theorem Mv:am Tryz.prog Iv:=bi (l:=Bz) (arg:=(.prod .str (.prod (.list (.int .i64)) .unit))) (res:=.str) (multi:=false) (own:=false) (F:=f91) mixed (all_cons xI aO) Tryz.func91 rfl yZ fun x _=>⟨fuel,Ot fuel x⟩
def IV:List Spec:=[qV]
def FW:List (Nat×List Nat):=[]
def wP (N:Nat) (x:(Int×Unit)):Out Bool:=match (x.1 != (-1)) with|true=>(match f80 (x.1,()) with | .ret r_1=>.ret (!r_1) | .pan p=>.pan p | .fail=>.fail)|false=>.ret false
theorem Ox (N:Nat) (x:(Int×Unit)):aW Tryz.prog (ah IV) FW N Tryz.f95 false false (.prod (.int .i64) .unit) .bool x=wP N x:=by kernel_rfl
def f95 (x:(Int×Unit)):Out Bool:=wP fuel x
def Ix:Spec:=⟨95,.call,(.prod (.int .i64) .unit),.bool,false,false,f95⟩
theorem Mx:am Tryz.prog Ix:=bi (l:=IV) (arg:=(.prod (.int .i64) .unit)) (res:=.bool) (multi:=false) (own:=false) (F:=f95) mixed (all_cons sB aO) Tryz.func95 rfl FW fun x _=>⟨fuel,Ox fuel x⟩
def IW:List Spec:=[Ib]
def FX:List (Nat×List Nat):=[]
def wQ (N:Nat) (x:bB):Out Bool:=match f116 (x.1,(x.2.1,())) with | .ret r_1=>.ret (decide (r_1 >= 0)) | .pan p=>.pan p | .fail=>.fail
theorem Oz (N:Nat) (x:bB):aW Tryz.prog (ah IW) FX N Tryz.f98 false false ch .bool x=wQ N x:=by kernel_rfl
def f98 (x:bB):Out Bool:=wQ fuel x
def A8:Spec:=⟨98,.call,ch,.bool,false,false,f98⟩
theorem xJ:am Tryz.prog A8:=bi (l:=IW) (arg:=ch) (res:=.bool) (multi:=false) (own:=false) (F:=f98) mixed (all_cons Ly aO) Tryz.func98 rfl FX fun x _=>⟨fuel,Oz fuel x⟩
def nK:List Spec:=[Ix]
def mH:List (Nat×List Nat):=[(2,[0,1,7,8])]
def L111a_0 (N:Nat) (n_L111a_0:Nat) (x:iA) (t8_1:Int):Out Int :=
 bS Tryz.prog (ah nK) mH N Tryz.f111 false false (.int .i64) [.at 1,.at 0,.at 1,.at 0] n_L111a_0 [.d (.list (.int .i64)) x.1,.d .raw (Value.func (.func 95) #[] #[]),U,U,U,U,U,.d (.int .i64) (ae x.1),.d (.int .i64) t8_1,U,U,U,U,U,U,U,U,U,U]
theorem L111a_0_succ (N:Nat) (n_L111a_0:Nat) (x:iA) (t8_1:Int):L111a_0 N  (n_L111a_0+1) x t8_1 =
 (match (decide (t8_1<(ae x.1))) with|true=>bif (ax t8_1 x.1.length) then match f95 ((List.getD x.1 t8_1.toNat 0),()) with | .ret r_2=>(match r_2 with|true=>.ret t8_1|false=>L111a_0 N n_L111a_0 x (IntKind.i64.wrap (t8_1+1))) | .pan p=>.pan p | .fail=>.fail else .fail|false=>.ret (-1):Out Int):=by kernel_rfl
def Cs (N:Nat) (x:iA):Out Int:=L111a_0 N N x 0
theorem Nt (N:Nat) (x:iA):aW Tryz.prog (ah nK) mH N Tryz.f111 false false eZ (.int .i64) (x.1,(Value.func (.func 95) #[] #[]),())=Cs N x:=by kernel_rfl
@[irreducible] def oQ (x:iA):Out Int:=aW Tryz.prog (ah nK) mH fuel Tryz.f111 false false eZ (.int .i64) x
def H8:Spec:=⟨111,.call,eZ,(.int .i64),false,false,oQ⟩
theorem Hm (x:iA):aW Tryz.prog (ah nK) mH fuel Tryz.f111 false false eZ (.int .i64) x=oQ x:=by kernel_rfl
theorem Lw:am Tryz.prog H8:=bi (l:=nK) (arg:=eZ) (res:=(.int .i64)) (multi:=false) (own:=false) (F:=oQ) mixed (all_cons Mx aO) Tryz.func111 rfl mH fun x _=>⟨fuel,Hm x⟩
def Bg:List Spec:=[AJ,Ig,ut]
def yK:List (Nat×List Nat):=[(7,[0,3,4,17,18,19]),(15,[4,8,36,37,38])]
def L130a_0 (N:Nat) (n_L130a_0:Nat) (x:(Int×Unit)) (out_1:(List UInt8)) (t36_2:(List Int)) (t38_3:Int):Out (List UInt8) :=
 bS Tryz.prog (ah Bg) yK N Tryz.f130 false false .str [.at 1,.at 1,.at 1,.at 1,.at 0,.at 1,.at 0] n_L130a_0 [U,U,U,U,.d .str ([]:List UInt8),U,U,U,.d .str out_1,U,U,U,U,U,U,U,U,U,U,U,U,U,U,U,U,U,U,U,U,U,U,U,U,U,U,U,.own (.int .i64) t36_2 false,.d (.int .i64) (ae ([x.1]:List Int)),.d (.int .i64) t38_3,U,U,U,U,U,U,U,U,U,U,U,U]
def Cx (N:Nat) (x:(Int×Unit)):Out (List UInt8):=L130a_0 N N x ([99,111,112,105,101,115]:List UInt8) ([x.1]:List Int) 0
theorem NB (N:Nat) (x:(Int×Unit)):aW Tryz.prog (ah Bg) yK N Tryz.f130 false false (.prod (.dyn 158 (.int .i64)) .unit) .str x=Cx N x:=by kernel_rfl
def yg (x:(Int×Unit)):Out (List UInt8):=Cx fuel x
def Ic:Spec:=⟨130,.call,(.prod (.dyn 158 (.int .i64)) .unit),.str,false,false,yg⟩
theorem Lz:am Tryz.prog Ic:=bi (l:=Bg) (arg:=(.prod (.dyn 158 (.int .i64)) .unit)) (res:=.str) (multi:=false) (own:=false) (F:=yg) mixed (all_cons DU (all_cons LH (all_cons xE aO))) Tryz.func130 rfl yK fun x _=>⟨fuel,NB fuel x⟩
def Bh:List Spec:=[ut,AJ,Ii]
def yL:List (Nat×List Nat):=[(7,[0,3,4,17,18,19]),(15,[4,8,36,37,38])]
def L130b_0 (N:Nat) (n_L130b_0:Nat) (x:kW) (figures_1:(List UInt8)) (t19_2:Int):Out (List UInt8) :=
 bS Tryz.prog (ah Bh) yL N Tryz.f130 false false .str [.at 1,.at 1,.at 0,.at 1,.at 0,.at 1,.at 0,.at 1,.at 1,.at 1,.at 0] n_L130b_0 [.d (.dyn 160 (.prod (.prod (.int .i64) (.prod (.list (.int .i64)) .unit)) .unit)) x.1,U,U,.d (.int .i64) (1:Int),.d .str figures_1,U,U,U,U,U,U,U,U,U,U,U,U,.d (.list (.int .i64)) x.1.1.2.1,.d (.int .i64) (ae x.1.1.2.1),.d (.int .i64) t19_2,U,U,U,U,U,U,U,U,U,U,U,U,U,U,U,U,U,U,U,U,U,U,U,U,U,U,U,U,U,U,U]
def Cy (N:Nat) (x:kW):Out (List UInt8):=L130b_0 N N x ([32]:List UInt8) 0
theorem NC (N:Nat) (x:kW):aW Tryz.prog (ah Bh) yL N Tryz.f130 false false BW .str x=Cy N x:=by kernel_rfl
def EG (x:kW):Out (List UInt8):=Cy fuel x
def Id:Spec:=⟨130,.call,BW,.str,false,false,EG⟩
theorem LA:am Tryz.prog Id:=bi (l:=Bh) (arg:=BW) (res:=.str) (multi:=false) (own:=false) (F:=EG) mixed (all_cons xE (all_cons DU (all_cons LJ aO))) Tryz.func130 rfl yL fun x _=>⟨fuel,NC fuel x⟩
def IE:List Spec:=[Vm,Ij]
def FG:List (Nat×List Nat):=[(4,[1,3]),(10,[1,3,4,5])]
def L17_1 (N:Nat) (n_L17_0:Nat) (n_L17_1:Nat) (t_5:Int) (t_6:(List (Int×aE))) (i_7:Int) (p_10:Int):Out Bool :=
 bS Tryz.prog (ah IE) FG N Tryz.f17 false false .bool [.at 1,.at 1,.at 0,.at 1,.at 0,.at n_L17_0,.at 1,.at 0,.at 0,.at 1,.at 1,.at 1,.at 0] n_L17_1 [U,.box [.d (.int .i64) t_5,.d ba t_6],U,.d (.int .i64) i_7,.box [.d (.int .i64) ((List.getD t_6 i_7.toNat ((0:Int),(([]:List Int),())))).1,.d (.list (.int .i64)) ((List.getD t_6 i_7.toNat ((0:Int),(([]:List Int),())))).2.1],.d (.int .i64) p_10,U,U,U,U,U,U,U,U,U,U,U,U,U,U,U,U,U,U,U,U,U,U,U,U,U,U,U,U,U,U,U,U,U,U,U,U,U,U,U,U,U,U,U,U,U,U,U,U,U,U,U,U,U,U,U,U,U,U,U,U]
def L17_0 (N:Nat) (n_L17_0:Nat) (t_5:Int) (t_6:(List (Int×aE))) (i_7:Int):Out Bool :=
 bS Tryz.prog (ah IE) FG N Tryz.f17 false false .bool [.at 1,.at 1,.at 0,.at 1,.at 0] n_L17_0 [U,.box [.d (.int .i64) t_5,.d ba t_6],U,.d (.int .i64) i_7,U,U,U,U,U,U,U,U,U,U,U,U,U,U,U,U,U,U,U,U,U,U,U,U,U,U,U,U,U,U,U,U,U,U,U,U,U,U,U,U,U,U,U,U,U,U,U,U,U,U,U,U,U,U,U,U,U,U,U,U,U,U]
theorem L17_1_succ (N:Nat) (n_L17_0:Nat) (n_L17_1:Nat) (t_5:Int) (t_6:(List (Int×aE))) (i_7:Int) (p_10:Int):L17_1 N n_L17_0 (n_L17_1+1) t_5 t_6 i_7 p_10 =
 (match (decide (p_10<(ae ((List.getD t_6 i_7.toNat (0,([],())))).2.1))) with|true=>bif (ax p_10 ((List.getD t_6 i_7.toNat (0,([],())))).2.1.length) then match ((List.getD ((List.getD t_6 i_7.toNat (0,([],())))).2.1 p_10.toNat 0) != (-1)) with|true=>bif (ax p_10 ((List.getD t_6 i_7.toNat (0,([],())))).2.1.length) then match f46 ((List.getD ((List.getD t_6 i_7.toNat (0,([],())))).2.1 p_10.toNat 0),()) with | .ret r_11=>(match (!r_11) with|true=>.ret false|false=>L17_1 N n_L17_0 n_L17_1 t_5 t_6 i_7 (IntKind.i64.wrap (p_10+1))) | .pan p=>.pan p | .fail=>.fail else .fail|false=>L17_1 N n_L17_0 n_L17_1 t_5 t_6 i_7 (IntKind.i64.wrap (p_10+1)) else .fail|false=>L17_0 N n_L17_0 t_5 t_6 (IntKind.i64.wrap (i_7+1)):Out Bool):=by kernel_rfl
theorem L17_0_succ (N:Nat) (n_L17_0:Nat) (t_5:Int) (t_6:(List (Int×aE))) (i_7:Int):L17_0 N  (n_L17_0+1) t_5 t_6 i_7 =
 (match (decide (i_7<(ae t_6))) with|true=>bif (ax i_7 t_6.length) then match f61 (((List.getD t_6 i_7.toNat (0,([],())))).1,(0,((if (IntKind.i64.wrap (i_7 - 1)) > 0 then (IntKind.i64.wrap (i_7 - 1)) else 0),()))) with | .ret r_8=>(match (!r_8) with|true=>.ret false|false=>match ((ae ((List.getD t_6 i_7.toNat (0,([],())))).2.1) != t_5) with|true=>.ret false|false=>L17_1 N n_L17_0 N t_5 t_6 i_7 0) | .pan p=>.pan p | .fail=>.fail else .fail|false=>.ret true:Out Bool):=by kernel_rfl
def CB (N:Nat) (x:aS):Out Bool:=match f61 (x.1.1,(1,(3,()))) with | .ret r_1=>(match (!r_1) with|true=>.ret false|false=>match f61 ((ae x.1.2.1),(1,(8,()))) with | .ret r_3=>(match (!r_3) with|true=>.ret false|false=>L17_0 N N x.1.1 x.1.2.1 0) | .pan p=>.pan p | .fail=>.fail) | .pan p=>.pan p | .fail=>.fail
def f17 (x:aS):Out Bool:=CB fuel x
def II:List Spec:=[Ij]
def FK:List (Nat×List Nat):=[(4,[1,2,5]),(9,[1,2,5,6])]
def L32_1 (N:Nat) (n_L32_0:Nat) (n_L32_1:Nat) (x:cG) (i_1:Int) (p_2:Int):Out Bool :=
 bS Tryz.prog (ah II) FK N Tryz.f32 false false .bool [.at 1,.at 1,.at 0,.at 1,.at 0,.at n_L32_0,.at 1,.at 0,.at 0,.at 1,.at 1,.at 0] n_L32_1 [U,.d be x.2.1,.box [.d (.int .i64) x.1.1,.d ba x.1.2.1],U,U,.d (.int .i64) i_1,.d (.int .i64) p_2,U,U,U,U,U,U,U,U,U,U,U,U,U,U,U,U,U,U,U,U,U,U,U,U,U,U,U,U,U,U,U,U,U,U,U,U,U,U,U,U,U,U,U,U,U,U,U,U,U,U,U,U,U,U,U,U,U,U,U,U,U,U,U,U,U,U]
def L32_0 (N:Nat) (n_L32_0:Nat) (x:cG) (i_1:Int):Out Bool :=
 bS Tryz.prog (ah II) FK N Tryz.f32 false false .bool [.at 1,.at 1,.at 0,.at 1,.at 0] n_L32_0 [U,.d be x.2.1,.box [.d (.int .i64) x.1.1,.d ba x.1.2.1],U,U,.d (.int .i64) i_1,U,U,U,U,U,U,U,U,U,U,U,U,U,U,U,U,U,U,U,U,U,U,U,U,U,U,U,U,U,U,U,U,U,U,U,U,U,U,U,U,U,U,U,U,U,U,U,U,U,U,U,U,U,U,U,U,U,U,U,U,U,U,U,U,U,U,U]
theorem L32_1_succ (N:Nat) (n_L32_0:Nat) (n_L32_1:Nat) (x:cG) (i_1:Int) (p_2:Int):L32_1 N n_L32_0 (n_L32_1+1) x i_1 p_2 =
 (match (decide (p_2<x.1.1)) with|true=>bif (ax i_1 x.2.1.length) then bif (ax p_2 (List.getD x.2.1 i_1.toNat []).length) then match f46 ((List.getD (List.getD x.2.1 i_1.toNat []) p_2.toNat 0),()) with | .ret r_3=>(match (!r_3) with|true=>.ret false|false=>bif (ax i_1 x.1.2.1.length) then bif (ax p_2 ((List.getD x.1.2.1 i_1.toNat (0,([],())))).2.1.length) then match (decide ((List.getD ((List.getD x.1.2.1 i_1.toNat (0,([],())))).2.1 p_2.toNat 0) >= 0)) with|true=>bif (ax i_1 x.2.1.length) then bif (ax p_2 (List.getD x.2.1 i_1.toNat []).length) then bif (ax i_1 x.1.2.1.length) then bif (ax p_2 ((List.getD x.1.2.1 i_1.toNat (0,([],())))).2.1.length) then match ((List.getD (List.getD x.2.1 i_1.toNat []) p_2.toNat 0) != (List.getD ((List.getD x.1.2.1 i_1.toNat (0,([],())))).2.1 p_2.toNat 0)) with|true=>.ret false|false=>L32_1 N n_L32_0 n_L32_1 x i_1 (IntKind.i64.wrap (p_2+1)) else .fail else .fail else .fail else .fail|false=>L32_1 N n_L32_0 n_L32_1 x i_1 (IntKind.i64.wrap (p_2+1)) else .fail else .fail) | .pan p=>.pan p | .fail=>.fail else .fail else .fail|false=>L32_0 N n_L32_0 x (IntKind.i64.wrap (i_1+1)):Out Bool):=by kernel_rfl
theorem L32_0_succ (N:Nat) (n_L32_0:Nat) (x:cG) (i_1:Int):L32_0 N  (n_L32_0+1) x i_1 =
 (match (decide (i_1<(ae x.2.1))) with|true=>bif (ax i_1 x.2.1.length) then match ((ae (List.getD x.2.1 i_1.toNat [])) != x.1.1) with|true=>.ret false|false=>L32_1 N n_L32_0 N x i_1 0 else .fail|false=>.ret true:Out Bool):=by kernel_rfl
def CE (N:Nat) (x:cG):Out Bool:=match ((ae x.2.1) != (ae x.1.2.1)) with|true=>.ret false|false=>L32_0 N N x 0
def f32 (x:cG):Out Bool:=CE fuel x
def Bo:List Spec:=[Iv,uy,Iw]
def yR:List (Nat×List Nat):=[(3,[1,3,4]),(7,[1,3,4,5,6])]
def L54_0 (N:Nat) (n_L54_0:Nat) (x:aS) (rows_3:(List (List UInt8))) (i_4:Int):Out (List UInt8) :=
 bS Tryz.prog (ah Bo) yR N Tryz.f54 false false .str [.at 1,.at 1,.at 0,.at 1,.at 0] n_L54_0 [U,.box [.d (.int .i64) x.1.1,.d ba x.1.2.1],U,.own .str rows_3 false,.d (.int .i64) i_4,U,U,U,U,U,U,U,U,U,U,U,U,U,U,U,U,U,U,U,U,U,U,U,U,U,U,U,U,U,U,U,U,U,U,U,U,U,U,U,U,U,U,U,U,U,U,U,U,U,U,U,U,U,U,U,U,U,U,U,U,U,U,U,U]
def CL (N:Nat) (x:aS):Out (List UInt8):=match f91 (([99,111,112,105,101,115]:List UInt8),(([x.1.1]:List Int),())) with | .ret r_1=>L54_0 N N x ([r_1]:List (List UInt8)) 0 | .pan p=>.pan p | .fail=>.fail
theorem NY (N:Nat) (x:aS):aW Tryz.prog (ah Bo) yR N Tryz.f54 false false cB .str x=CL N x:=by kernel_rfl
def f54 (x:aS):Out (List UInt8):=CL fuel x
def Vl:Spec:=⟨54,.call,cB,.str,false,false,f54⟩
theorem Ml:am Tryz.prog Vl:=bi (l:=Bo) (arg:=cB) (res:=.str) (multi:=false) (own:=false) (F:=f54) mixed (all_cons Mv (all_cons xI (all_cons Mw aO))) Tryz.func54 rfl yR fun x _=>⟨fuel,NY fuel x⟩
def uD:List Spec:=[qV,qR]
def tw:List (Nat×List Nat):=[(4,[2,15,16,17]),(9,[2,5,15,16,17,27,28,29])]
def L68_1 (N:Nat) (n_L68_0:Nat) (n_L68_1:Nat) (x:cG) (t17_1:Int) (t29_2:Int):Out Bool :=
 bS Tryz.prog (ah uD) tw N Tryz.f68 false false .bool [.at 1,.at 1,.at 0,.at 1,.at 0,.at n_L68_0,.at 1,.at 1,.at 0,.at 0,.at 1,.at 1,.at 1,.at 0] n_L68_1 [U,U,.box [.d (.int .i64) x.1.1,.d ba x.1.2.1],U,U,.d (.int .i64) t17_1,U,U,U,U,U,U,U,U,U,.d be x.2.1,.d (.int .i64) (ae x.2.1),.d (.int .i64) t17_1,U,U,U,U,U,U,U,U,U,.d (.list (.int .i64)) (List.getD x.2.1 t17_1.toNat ([]:List Int)),.d (.int .i64) (ae (List.getD x.2.1 t17_1.toNat ([]:List Int))),.d (.int .i64) t29_2,U,U,U,U,U,U,U,U,U,U,U,U,U,U,U,U,U]
def L68_0 (N:Nat) (n_L68_0:Nat) (x:cG) (t17_1:Int):Out Bool :=
 bS Tryz.prog (ah uD) tw N Tryz.f68 false false .bool [.at 1,.at 1,.at 0,.at 1,.at 0] n_L68_0 [U,U,.box [.d (.int .i64) x.1.1,.d ba x.1.2.1],U,U,U,U,U,U,U,U,U,U,U,U,.d be x.2.1,.d (.int .i64) (ae x.2.1),.d (.int .i64) t17_1,U,U,U,U,U,U,U,U,U,U,U,U,U,U,U,U,U,U,U,U,U,U,U,U,U,U,U,U,U]
theorem L68_1_succ (N:Nat) (n_L68_0:Nat) (n_L68_1:Nat) (x:cG) (t17_1:Int) (t29_2:Int):L68_1 N n_L68_0 (n_L68_1+1) x t17_1 t29_2 =
 (match (decide (t29_2<(ae (List.getD x.2.1 t17_1.toNat [])))) with|true=>bif (ax t29_2 (List.getD x.2.1 t17_1.toNat []).length) then match f80 ((List.getD (List.getD x.2.1 t17_1.toNat []) t29_2.toNat 0),()) with | .ret r_3=>(match (!r_3) with|true=>.ret false|false=>match f106 (x.1,(t17_1,(t29_2,((List.getD (List.getD x.2.1 t17_1.toNat []) t29_2.toNat 0),())))) with | .ret r_5=>(match (!r_5) with|true=>.ret false|false=>L68_1 N n_L68_0 n_L68_1 x t17_1 (IntKind.i64.wrap (t29_2+1))) | .pan p=>.pan p | .fail=>.fail) | .pan p=>.pan p | .fail=>.fail else .fail|false=>L68_0 N n_L68_0 x (IntKind.i64.wrap (t17_1+1)):Out Bool):=by kernel_rfl
theorem L68_0_succ (N:Nat) (n_L68_0:Nat) (x:cG) (t17_1:Int):L68_0 N  (n_L68_0+1) x t17_1 =
 (match (decide (t17_1<(ae x.2.1))) with|true=>bif (ax t17_1 x.2.1.length) then match ((ae (List.getD x.2.1 t17_1.toNat [])) != x.1.1) with|true=>.ret false|false=>L68_1 N n_L68_0 N x t17_1 0 else .fail|false=>.ret true:Out Bool):=by kernel_rfl
def wC (N:Nat) (x:cG):Out Bool:=match ((ae x.2.1) != (ae x.1.2.1)) with|true=>.ret false|false=>L68_0 N N x 0
theorem oN (N:Nat) (x:cG):aW Tryz.prog (ah uD) tw N Tryz.f68 false false ef .bool x=wC N x:=by kernel_rfl
def f68 (x:cG):Out Bool:=wC fuel x
def uw:Spec:=⟨68,.call,ef,.bool,false,false,f68⟩
theorem sl:am Tryz.prog uw:=bi (l:=uD) (arg:=ef) (res:=.bool) (multi:=false) (own:=false) (F:=f68) mixed (all_cons sB (all_cons sg aO)) Tryz.func68 rfl tw fun x _=>⟨fuel,oN fuel x⟩
def q_:List Spec:=[H8]
def pQ:List (Nat×List Nat):=[]
def C2 (N:Nat) (x:iA):Out Bool:=match oQ (x.1,((Value.func (.func 95) #[] #[]),())) with | .ret r_1=>.ret (decide (r_1 >= 0)) | .pan p=>.pan p | .fail=>.fail
theorem Oj (N:Nat) (x:iA):aW Tryz.prog (ah q_) pQ N Tryz.f86 false false eZ .bool (x.1,(Value.func (.func 95) #[] #[]),())=C2 N x:=by kernel_rfl
@[irreducible] def mC (x:iA):Out Bool:=aW Tryz.prog (ah q_) pQ fuel Tryz.f86 false false eZ .bool x
def Ir:Spec:=⟨86,.call,eZ,.bool,false,false,mC⟩
theorem Ho (x:iA):aW Tryz.prog (ah q_) pQ fuel Tryz.f86 false false eZ .bool x=mC x:=by kernel_rfl
theorem Mr:am Tryz.prog Ir:=bi (l:=q_) (arg:=eZ) (res:=.bool) (multi:=false) (own:=false) (F:=mC) mixed (all_cons Lw aO) Tryz.func86 rfl pQ fun x _=>⟨fuel,Ho x⟩
def Bd:List Spec:=[Ic,Id,ut,Ie]
def yH:List (Nat×List Nat):=[(3,[3,16,17,18]),(9,[3,6,30,31,32]),(12,[3,6,7,8,30,31,32,38,39])]
def L115_0 (N:Nat) (n_L115_0:Nat) (x:aS) (rows_3:(List (List UInt8))) (t18_4:Int):Out (List UInt8) :=
 bS Tryz.prog (ah Bd) yH N Tryz.f115 false false .str [.at 1,.at 1,.at 0,.at 1,.at 0] n_L115_0 [U,U,U,.own .str rows_3 false,U,U,U,U,U,U,U,U,U,U,U,U,.d ba x.1.2.1,.d (.int .i64) (ae x.1.2.1),.d (.int .i64) t18_4,U,U,U,U,U,U,U,U,U,U,U,U,U,U,U,U,U,U,U,U,U,U,U,U,U,U,U,U,U,U,U,U,U,U,U,U,U,U,U,U,U,U,U,U,U,U,U,U,U,U,U,U,U,U,U,U,U,U]
def Cv (N:Nat) (x:aS):Out (List UInt8):=match yg (x.1.1,()) with | .ret r_1=>L115_0 N N x ([r_1]:List (List UInt8)) 0 | .pan p=>.pan p | .fail=>.fail
theorem Ny (N:Nat) (x:aS):aW Tryz.prog (ah Bd) yH N Tryz.f115 false false cB .str x=Cv N x:=by kernel_rfl
def f115 (x:aS):Out (List UInt8):=Cv fuel x
def Ia:Spec:=⟨115,.call,cB,.str,false,false,f115⟩
theorem DT:am Tryz.prog Ia:=bi (l:=Bd) (arg:=cB) (res:=.str) (multi:=false) (own:=false) (F:=f115) mixed (all_cons Lz (all_cons LA (all_cons xE (all_cons LB aO)))) Tryz.func115 rfl yH fun x _=>⟨fuel,Ny fuel x⟩
def Bp:List Spec:=[qW,Ir]
def yS:List (Nat×List Nat):=[(4,[1,17,18,19])]
def L55_0 (N:Nat) (n_L55_0:Nat) (x:aS) (t_5:Int) (t_6:(List (Int×aE))) (t19_7:Int):Out Bool :=
 bS Tryz.prog (ah Bp) yS N Tryz.f55 false false .bool [.at 1,.at 1,.at 0,.at 1,.at 0] n_L55_0 [U,.box [.d (.int .i64) t_5,.d ba t_6],U,U,U,U,U,U,U,U,U,U,U,U,U,U,U,.d ba x.1.2.1,.d (.int .i64) (ae x.1.2.1),.d (.int .i64) t19_7,U,U,U,U,U,U,U,U,U,U,U,U,U,U,U,U,U,U,U,U,U,U,U,U,U]
theorem L55_0_succ (N:Nat) (n_L55_0:Nat) (x:aS) (t_5:Int) (t_6:(List (Int×aE))) (t19_7:Int):L55_0 N  (n_L55_0+1) x t_5 t_6 t19_7 =
 (match (decide (t19_7<(ae x.1.2.1))) with|true=>bif (ax t19_7 x.1.2.1.length) then match f94 (((List.getD x.1.2.1 t19_7.toNat (0,([],())))).1,(0,((if (IntKind.i64.wrap (t19_7 - 1)) > 0 then (IntKind.i64.wrap (t19_7 - 1)) else 0),()))) with | .ret r_8=>(match (!r_8) with|true=>.ret false|false=>match ((ae ((List.getD x.1.2.1 t19_7.toNat (0,([],())))).2.1) != t_5) with|true=>.ret false|false=>match mC (((List.getD x.1.2.1 t19_7.toNat (0,([],())))).2.1,((Value.func (.func 95) #[] #[]),())) with | .ret r_10=>(match r_10 with|true=>.ret false|false=>L55_0 N n_L55_0 x t_5 t_6 (IntKind.i64.wrap (t19_7+1))) | .pan p=>.pan p | .fail=>.fail) | .pan p=>.pan p | .fail=>.fail else .fail|false=>.ret true:Out Bool):=by kernel_rfl
def wu (N:Nat) (x:aS):Out Bool:=match f94 (x.1.1,(1,(3,()))) with | .ret r_1=>(match (!r_1) with|true=>.ret false|false=>match f94 ((ae x.1.2.1),(1,(8,()))) with | .ret r_3=>(match (!r_3) with|true=>.ret false|false=>L55_0 N N x x.1.1 x.1.2.1 0) | .pan p=>.pan p | .fail=>.fail) | .pan p=>.pan p | .fail=>.fail
theorem NZ (N:Nat) (x:aS):aW Tryz.prog (ah Bp) yS N Tryz.f55 false false cB .bool x=wu N x:=by kernel_rfl
def f55 (x:aS):Out Bool:=wu fuel x
def dr:Spec:=⟨55,.call,cB,.bool,false,false,f55⟩
theorem dh:am Tryz.prog dr:=bi (l:=Bp) (arg:=cB) (res:=.bool) (multi:=false) (own:=false) (F:=f55) mixed (all_cons sD (all_cons Mr aO)) Tryz.func55 rfl yS fun x _=>⟨fuel,NZ fuel x⟩
def uA:List Spec:=[dr,uw]
def tu:List (Nat×List Nat):=[(5,[1,2,6,20,21,22]),(8,[1,2,6,7,20,21,22,27,28,29])]
def L33_1 (N:Nat) (n_L33_0:Nat) (n_L33_1:Nat) (x:cG) (t22_6:Int) (out_7:(List (Int×(Int×Unit)))) (t29_8:Int):Out kX :=
 bS Tryz.prog (ah uA) tu N Tryz.f33 true false nZ [.at 1,.at 1,.at 1,.at 0,.at 1,.at 0,.at n_L33_0,.at 1,.at 1,.at 0,.at 0,.at 1,.at 1,.at 0] n_L33_1 [U,.d be x.2.1,.box [.d (.int .i64) x.1.1,.d ba x.1.2.1],U,U,U,.own eY out_7 false,.d (.int .i64) t22_6,U,U,U,U,U,U,U,U,U,U,U,U,.d be x.2.1,.d (.int .i64) (ae x.2.1),.d (.int .i64) t22_6,U,U,U,U,.d (.list (.int .i64)) (List.getD x.2.1 t22_6.toNat ([]:List Int)),.d (.int .i64) (ae (List.getD x.2.1 t22_6.toNat ([]:List Int))),.d (.int .i64) t29_8,U,U,U,U,U,U,U,U,U,U,U,U,U,U,U,U,U,U,U,U,U,U,U,U,U,U,U,U,U,U,U]
def L33_0 (N:Nat) (n_L33_0:Nat) (x:cG) (out_5:(List (Int×(Int×Unit)))) (t22_6:Int):Out kX :=
 bS Tryz.prog (ah uA) tu N Tryz.f33 true false nZ [.at 1,.at 1,.at 1,.at 0,.at 1,.at 0] n_L33_0 [U,.d be x.2.1,.box [.d (.int .i64) x.1.1,.d ba x.1.2.1],U,U,U,.own eY out_5 false,U,U,U,U,U,U,U,U,U,U,U,U,U,.d be x.2.1,.d (.int .i64) (ae x.2.1),.d (.int .i64) t22_6,U,U,U,U,U,U,U,U,U,U,U,U,U,U,U,U,U,U,U,U,U,U,U,U,U,U,U,U,U,U,U,U,U,U,U,U,U,U]
theorem L33_1_succ (N:Nat) (n_L33_0:Nat) (n_L33_1:Nat) (x:cG) (t22_6:Int) (out_7:(List (Int×(Int×Unit)))) (t29_8:Int):L33_1 N n_L33_0 (n_L33_1+1) x t22_6 out_7 t29_8 =
 (match (decide (t29_8<(ae (List.getD x.2.1 t22_6.toNat [])))) with|true=>bif (ax t29_8 (List.getD x.2.1 t22_6.toNat []).length) then match (decide (t22_6 > 0)) with|true=>bif (ax t22_6 x.1.2.1.length) then bif (ax ((List.getD x.1.2.1 t22_6.toNat (0,([],())))).1 x.2.1.length) then bif (ax t29_8 (List.getD x.2.1 ((List.getD x.1.2.1 t22_6.toNat (0,([],())))).1.toNat []).length) then match ((List.getD (List.getD x.2.1 t22_6.toNat []) t29_8.toNat 0) != (List.getD (List.getD x.2.1 ((List.getD x.1.2.1 t22_6.toNat (0,([],())))).1.toNat []) t29_8.toNat 0)) with|true=>bif (bQ out_7 ([(t22_6,(t29_8,()))]:List (Int×(Int×Unit)))) then L33_1 N n_L33_0 n_L33_1 x t22_6 (out_7++([(t22_6,(t29_8,()))]:List (Int×(Int×Unit)))) (IntKind.i64.wrap (t29_8+1)) else .fail|false=>L33_1 N n_L33_0 n_L33_1 x t22_6 out_7 (IntKind.i64.wrap (t29_8+1)) else .fail else .fail else .fail|false=>L33_1 N n_L33_0 n_L33_1 x t22_6 out_7 (IntKind.i64.wrap (t29_8+1)) else .fail|false=>L33_0 N n_L33_0 x out_7 (IntKind.i64.wrap (t22_6+1)):Out kX):=by kernel_rfl
theorem L33_0_succ (N:Nat) (n_L33_0:Nat) (x:cG) (out_5:(List (Int×(Int×Unit)))) (t22_6:Int):L33_0 N  (n_L33_0+1) x out_5 t22_6 =
 (match (decide (t22_6<(ae x.2.1))) with|true=>bif (ax t22_6 x.2.1.length) then L33_1 N n_L33_0 N x t22_6 out_5 0 else .fail|false=>.ret (out_5,(0,())):Out kX):=by kernel_rfl
def vY (N:Nat) (x:cG):Out kX:=match f55 (x.1,()) with | .ret r_1=>(match (!r_1) with|true=>.ret (([]:List (Int×(Int×Unit))),(2,()))|false=>match f68 (x.1,(x.2.1,())) with | .ret r_3=>(match (!r_3) with|true=>.ret (([]:List (Int×(Int×Unit))),(2,()))|false=>L33_0 N N x ([]:List (Int×(Int×Unit))) 0) | .pan p=>.pan p | .fail=>.fail) | .pan p=>.pan p | .fail=>.fail
theorem NO (N:Nat) (x:cG):aW Tryz.prog (ah uA) tu N Tryz.f33 true false ef nZ x=vY N x:=by kernel_rfl
def f33 (x:cG):Out kX:=vY fuel x
def Vb:Spec:=⟨33,.call,ef,nZ,true,false,f33⟩
theorem LX:am Tryz.prog Vb:=bi (l:=uA) (arg:=ef) (res:=nZ) (multi:=true) (own:=false) (F:=f33) mixed (all_cons dh (all_cons sl aO)) Tryz.func33 rfl tu fun x _=>⟨fuel,NO fuel x⟩
end Go.V
end
