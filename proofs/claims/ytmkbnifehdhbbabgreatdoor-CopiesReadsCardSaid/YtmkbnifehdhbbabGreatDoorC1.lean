/- Part. -/
import Derived.Test.YtmkbnifehdhbbabGreatDoorCH
set_option linter.all false
noncomputable section
namespace Go.V
open Go.Proofs
def Bx:List Spec:=[]
def y_:List (Nat×List Nat):=[(4,[0,1,5])]
def L19_0 (N:Nat) (n_L19_0:Nat) (x:eG) (i_1:Int):Out Bool :=
 bS Tryz.prog (ah Bx) y_ N Tryz.f17 false false .bool [.at 1,.at 1,.at 0,.at 1,.at 0] n_L19_0 [.d (.list (.int .i64)) x.1,.d (.list (.int .i64)) x.2.1,U,U,U,.d (.int .i64) i_1,U,U,U,U,U,U,U,U,U,U,U,U,U,U,U,U,U,U,U,U]
theorem L19_0_succ (N:Nat) (n_L19_0:Nat) (x:eG) (i_1:Int):L19_0 N  (n_L19_0+1) x i_1 =
 (match (decide (i_1<(ae x.1))) with|true=>bif (ax i_1 x.1.length) then bif (ax i_1 x.2.1.length) then match ((List.getD x.1 i_1.toNat 0) != (List.getD x.2.1 i_1.toNat 0)) with|true=>.ret false|false=>L19_0 N n_L19_0 x (IntKind.i64.wrap (i_1+1)) else .fail else .fail|false=>.ret true:Out Bool):=by kernel_rfl
def wv (N:Nat) (x:eG):Out Bool:=match ((ae x.1) != (ae x.2.1)) with|true=>.ret false|false=>L19_0 N N x 0
theorem NY (N:Nat) (x:eG):aW Tryz.prog (ah Bx) y_ N Tryz.f17 false false gZ .bool x=wv N x:=by kernel_rfl
def f19 (x:eG):Out Bool:=wv fuel x
def Iy:Spec:=⟨17,.call,gZ,.bool,false,false,f19⟩
theorem D':am Tryz.prog Iy:=bi (l:=Bx) (arg:=gZ) (res:=.bool) (multi:=false) (own:=false) (F:=f19) mixed aO Tryz.func17 rfl y_ fun x _=>⟨fuel,NY fuel x⟩
def By:List Spec:=[Iy]
def zb:List (Nat×List Nat):=[(4,[0,1,5])]
def L28_0 (N:Nat) (n_L28_0:Nat) (x:m_) (i_1:Int):Out Bool :=
 bS Tryz.prog (ah By) zb N Tryz.f52 false false .bool [.at 1,.at 1,.at 0,.at 1,.at 0] n_L28_0 [.d be x.1,.d be x.2.1,U,U,U,.d (.int .i64) i_1,U,U,U,U,U,U,U,U,U,U,U,U,U,U,U,U,U,U,U,U,U]
theorem L28_0_succ (N:Nat) (n_L28_0:Nat) (x:m_) (i_1:Int):L28_0 N  (n_L28_0+1) x i_1 =
 (match (decide (i_1<(ae x.1))) with|true=>bif (ax i_1 x.1.length) then bif (ax i_1 x.2.1.length) then match f19 ((List.getD x.1 i_1.toNat []),((List.getD x.2.1 i_1.toNat []),())) with | .ret r_2=>(match (!r_2) with|true=>.ret false|false=>L28_0 N n_L28_0 x (IntKind.i64.wrap (i_1+1))) | .pan p=>.pan p | .fail=>.fail else .fail else .fail|false=>.ret true:Out Bool):=by kernel_rfl
def wB (N:Nat) (x:m_):Out Bool:=match ((ae x.1) != (ae x.2.1)) with|true=>.ret false|false=>L28_0 N N x 0
theorem N6 (N:Nat) (x:m_):aW Tryz.prog (ah By) zb N Tryz.f52 false false vh .bool x=wB N x:=by kernel_rfl
def kQ (x:m_):Out Bool:=wB fuel x
def Vp:Spec:=⟨52,.call,vh,.bool,false,false,kQ⟩
theorem Md:am Tryz.prog Vp:=bi (l:=By) (arg:=vh) (res:=.bool) (multi:=false) (own:=false) (F:=kQ) mixed (all_cons D' aO) Tryz.func52 rfl zb fun x _=>⟨fuel,N6 fuel x⟩
def Bz:List Spec:=[]
def zc:List (Nat×List Nat):=[(4,[0,1,5])]
def L37_0 (N:Nat) (n_L37_0:Nat) (x:eG) (i_1:Int):Out Bool :=
 bS Tryz.prog (ah Bz) zc N Tryz.f53 false false .bool [.at 1,.at 1,.at 0,.at 1,.at 0] n_L37_0 [.d (.list (.int .i64)) x.1,.d (.list (.int .i64)) x.2.1,U,U,U,.d (.int .i64) i_1,U,U,U,U,U,U,U,U,U,U,U,U,U,U,U,U,U,U,U,U]
theorem L37_0_succ (N:Nat) (n_L37_0:Nat) (x:eG) (i_1:Int):L37_0 N  (n_L37_0+1) x i_1 =
 (match (decide (i_1<(ae x.1))) with|true=>bif (ax i_1 x.1.length) then bif (ax i_1 x.2.1.length) then match ((List.getD x.1 i_1.toNat 0) != (List.getD x.2.1 i_1.toNat 0)) with|true=>.ret false|false=>L37_0 N n_L37_0 x (IntKind.i64.wrap (i_1+1)) else .fail else .fail|false=>.ret true:Out Bool):=by kernel_rfl
def wF (N:Nat) (x:eG):Out Bool:=match ((ae x.1) != (ae x.2.1)) with|true=>.ret false|false=>L37_0 N N x 0
theorem N9 (N:Nat) (x:eG):aW Tryz.prog (ah Bz) zc N Tryz.f53 false false gZ .bool x=wF N x:=by kernel_rfl
def kS (x:eG):Out Bool:=wF fuel x
def Vt:Spec:=⟨53,.call,gZ,.bool,false,false,kS⟩
theorem Ml:am Tryz.prog Vt:=bi (l:=Bz) (arg:=gZ) (res:=.bool) (multi:=false) (own:=false) (F:=kS) mixed aO Tryz.func53 rfl zc fun x _=>⟨fuel,N9 fuel x⟩
def IZ:List Spec:=[]
def F1:List (Nat×List Nat):=[]
def C9 (N:Nat) (x:Unit):Out (Int×qA):=.ret (2,(([(0,(([4,7]:List Int),())),(0,(([(-1),(-1)]:List Int),())),(1,(([4,1]:List Int),())),(1,(([4,1]:List Int),())),(0,(([(-1),7]:List Int),())),(4,(([8,7]:List Int),()))]:List (Int×aE)),()))
theorem Oa (N:Nat) (x:Unit):aW Tryz.prog (ah IZ) F1 N Tryz.f44 false false .unit kv x=C9 N x:=by kernel_rfl
def f48 (x:Unit):Out (Int×qA):=C9 fuel x
def IB:Spec:=⟨44,.call,.unit,kv,false,false,f48⟩
theorem Mr:am Tryz.prog IB:=bi (l:=IZ) (arg:=.unit) (res:=kv) (multi:=false) (own:=false) (F:=f48) mixed aO Tryz.func44 rfl F1 fun x _=>⟨fuel,Oa fuel x⟩
def I0:List Spec:=[]
def F2:List (Nat×List Nat):=[]
def C' (N:Nat) (x:Unit):Out (List (List Int)):=.ret ([([4,7]:List Int),([4,1]:List Int),([4,1]:List Int),([4,1]:List Int),([4,7]:List Int),([8,7]:List Int)]:List (List Int))
theorem Ob (N:Nat) (x:Unit):aW Tryz.prog (ah I0) F2 N Tryz.f45 false true .unit be x=C' N x:=by kernel_rfl
def f49 (x:Unit):Out (List (List Int)):=C' fuel x
def IC:Spec:=⟨45,.call,.unit,be,false,true,f49⟩
theorem Ms:am Tryz.prog IC:=bi (l:=I0) (arg:=.unit) (res:=be) (multi:=false) (own:=true) (F:=f49) mixed aO Tryz.func45 rfl F2 fun x _=>⟨fuel,Ob fuel x⟩
def BB:List Spec:=[]
def ze:List (Nat×List Nat):=[(4,[0,1,5])]
def L53_0 (N:Nat) (n_L53_0:Nat) (x:m9) (i_1:Int):Out Bool :=
 bS Tryz.prog (ah BB) ze N Tryz.f36 false false .bool [.at 1,.at 1,.at 0,.at 1,.at 0] n_L53_0 [.d (.list (.prod (.int .i64) (.prod (.int .i64) .unit))) x.1,.d (.list (.prod (.int .i64) (.prod (.int .i64) .unit))) x.2.1,U,U,U,.d (.int .i64) i_1,U,U,U,U,U,U,U,U,U,U,U,U,U,U,U,U,U,U,U,U]
theorem L53_0_succ (N:Nat) (n_L53_0:Nat) (x:m9) (i_1:Int):L53_0 N  (n_L53_0+1) x i_1 =
 (match (decide (i_1<(ae x.1))) with|true=>bif (ax i_1 x.1.length) then bif (ax i_1 x.2.1.length) then match (qI (gj ((List.getD x.1 i_1.toNat (0,(0,())))).1 ((List.getD x.2.1 i_1.toNat (0,(0,())))).1 && (gj ((List.getD x.1 i_1.toNat (0,(0,())))).2.1 ((List.getD x.2.1 i_1.toNat (0,(0,())))).2.1 && true))) with|true=>.ret false|false=>L53_0 N n_L53_0 x (IntKind.i64.wrap (i_1+1)) else .fail else .fail|false=>.ret true:Out Bool):=by kernel_rfl
def wK (N:Nat) (x:m9):Out Bool:=match ((ae x.1) != (ae x.2.1)) with|true=>.ret false|false=>L53_0 N N x 0
theorem tg (N:Nat) (x:m9):aW Tryz.prog (ah BB) ze N Tryz.f36 false false vj .bool x=wK N x:=by kernel_rfl
def f53 (x:m9):Out Bool:=wK fuel x
def Vz:Spec:=⟨36,.call,vj,.bool,false,false,f53⟩
theorem Mz:am Tryz.prog Vz:=bi (l:=BB) (arg:=vj) (res:=.bool) (multi:=false) (own:=false) (F:=f53) mixed aO Tryz.func36 rfl ze fun x _=>⟨fuel,tg fuel x⟩
def Da (N:Nat) (x:(Int×(Int×(Int×Unit)))):Out Bool:=match (decide (x.1 >= x.2.1)) with|true=>.ret (decide (x.1<=x.2.2.1))|false=>.ret false
def kT (x:(Int×(Int×(Int×Unit)))):Out Bool:=Da fuel x
def V1:Spec:=⟨60,.call,kt,.bool,false,false,kT⟩
def BJ:List Spec:=[]
def zj:List (Nat×List Nat):=[(5,[0,3,4])]
def L77_0 (N:Nat) (n_L77_0:Nat) (x:aE) (m_1:Int) (i_2:Int):Out Int :=
 bS Tryz.prog (ah BJ) zj N Tryz.f89 false false (.int .i64) [.at 1,.at 1,.at 1,.at 0,.at 1,.at 0] n_L77_0 [.d (.list (.int .i64)) x.1,U,U,.d (.int .i64) m_1,.d (.int .i64) i_2,U,U,U,U,U,U,U,U,U,U,U,U,U,U,U,U,U,U,U,U]
theorem L77_0_succ (N:Nat) (n_L77_0:Nat) (x:aE) (m_1:Int) (i_2:Int):L77_0 N  (n_L77_0+1) x m_1 i_2 =
 (match (decide (i_2<(ae x.1))) with|true=>bif (ax i_2 x.1.length) then L77_0 N n_L77_0 x (if (List.getD x.1 i_2.toNat 0) > m_1 then (List.getD x.1 i_2.toNat 0) else m_1) (IntKind.i64.wrap (i_2+1)) else .fail|false=>.ret m_1:Out Int):=by kernel_rfl
def wW (N:Nat) (x:aE):Out Int:=match (decide ((ae x.1)<1)) with|true=>.pan (.iface 9 (aP .str ((cC .str ([115,108,105,99,101,115,46,77,97,120,58,32,101,109,112,116,121,32,108,105,115,116]:List UInt8)).getD [])))|false=>bif (ax 0 x.1.length) then L77_0 N N x (List.getD x.1 (0:Int).toNat 0) 1 else .fail
theorem Ox (N:Nat) (x:aE):aW Tryz.prog (ah BJ) zj N Tryz.f89 false false jC (.int .i64) x=wW N x:=by kernel_rfl
def f77 (x:aE):Out Int:=wW fuel x
def Bh:Spec:=⟨89,.call,jC,(.int .i64),false,false,f77⟩
theorem Eb:am Tryz.prog Bh:=bi (l:=BJ) (arg:=jC) (res:=(.int .i64)) (multi:=false) (own:=false) (F:=f77) mixed aO Tryz.func89 rfl zj fun x _=>⟨fuel,Ox fuel x⟩
def I5:List Spec:=[]
def Gc:List (Nat×List Nat):=[]
def Dd (N:Nat) (x:zK):Out Bool:=.ret (decide (x.1.2.2.1<x.2.1.2.2.1))
theorem Oz (N:Nat) (x:zK):aW Tryz.prog (ah I5) Gc N Tryz.f91 false false Cb .bool x=Dd N x:=by kernel_rfl
def f79 (x:zK):Out Bool:=Dd fuel x
def IG:Spec:=⟨91,.call,Cb,.bool,false,false,f79⟩
theorem MF:am Tryz.prog IG:=bi (l:=I5) (arg:=Cb) (res:=.bool) (multi:=false) (own:=false) (F:=f79) mixed aO Tryz.func91 rfl Gc fun x _=>⟨fuel,Oz fuel x⟩
def BM:List Spec:=[]
def zn:List (Nat×List Nat):=[(4,[0,1,12,13])]
def L88_0 (N:Nat) (n_L88_0:Nat) (x:eG) (t13_1:Int):Out Bool :=
 bS Tryz.prog (ah BM) zn N Tryz.f67 false false .bool [.at 1,.at 1,.at 0,.at 1,.at 0] n_L88_0 [.d (.list (.int .i64)) x.1,.d (.list (.int .i64)) x.2.1,U,U,U,U,U,U,U,U,U,U,.d (.int .i64) (ae x.1),.d (.int .i64) t13_1,U,U,U,U,U,U,U,U,U,U,U,U]
theorem L88_0_succ (N:Nat) (n_L88_0:Nat) (x:eG) (t13_1:Int):L88_0 N  (n_L88_0+1) x t13_1 =
 (match (decide (t13_1<(ae x.1))) with|true=>bif (ax t13_1 x.1.length) then bif (ax t13_1 x.2.1.length) then match ((List.getD x.1 t13_1.toNat 0) != (List.getD x.2.1 t13_1.toNat 0)) with|true=>.ret false|false=>L88_0 N n_L88_0 x (IntKind.i64.wrap (t13_1+1)) else .fail else .fail|false=>.ret true:Out Bool):=by kernel_rfl
def xc (N:Nat) (x:eG):Out Bool:=match ((ae x.1) != (ae x.2.1)) with|true=>.ret false|false=>L88_0 N N x 0
theorem OG (N:Nat) (x:eG):aW Tryz.prog (ah BM) zn N Tryz.f67 false false gZ .bool x=xc N x:=by kernel_rfl
def f88 (x:eG):Out Bool:=xc fuel x
def Bk:Spec:=⟨67,.call,gZ,.bool,false,false,f88⟩
theorem xX:am Tryz.prog Bk:=bi (l:=BM) (arg:=gZ) (res:=.bool) (multi:=false) (own:=false) (F:=f88) mixed aO Tryz.func67 rfl zn fun x _=>⟨fuel,OG fuel x⟩
def I9 (g:(Int×Unit)->Out (List UInt8)):List Spec:=[⟨78,.call,(.prod (.int .i64) .unit),.str,false,false,g⟩]
def Gh:List (Nat×List Nat):=[]
def Dh (g:(Int×Unit)->Out (List UInt8)) (N:Nat) (x:(Int×Unit)):Out (List UInt8):=match (decide (x.1 > (-10))) with|true=>(match (decide (x.1<0)) with|true=>bif (decide (([45]:List UInt8).length+(dE ([(IntKind.u8.wrap (IntKind.i64.wrap (48 - x.1)))]:List Int)).length<1000000)) then .ret (([45]:List UInt8)++(dE ([(IntKind.u8.wrap (IntKind.i64.wrap (48 - x.1)))]:List Int))) else .fail|false=>match (decide (x.1<0)) with|true=>(match g ((IntKind.i64.wrap (x.1.tdiv 10)),()) with | .ret r_1=>bif (decide (r_1.length+(dE ([(IntKind.u8.wrap (IntKind.i64.wrap (48 - (x.1.tmod 10))))]:List Int)).length<1000000)) then .ret (r_1++(dE ([(IntKind.u8.wrap (IntKind.i64.wrap (48 - (x.1.tmod 10))))]:List Int))) else .fail | .pan p=>.pan p | .fail=>.fail)|false=>match (decide (x.1<10)) with|true=>.ret (dE ([(IntKind.u8.wrap (IntKind.i64.wrap (48+x.1)))]:List Int))|false=>match g ((IntKind.i64.wrap (x.1.tdiv 10)),()) with | .ret r_3=>bif (decide (r_3.length+(dE ([(IntKind.u8.wrap (IntKind.i64.wrap (48+(x.1.tmod 10))))]:List Int)).length<1000000)) then .ret (r_3++(dE ([(IntKind.u8.wrap (IntKind.i64.wrap (48+(x.1.tmod 10))))]:List Int))) else .fail | .pan p=>.pan p | .fail=>.fail)|false=>match (decide (x.1<0)) with|true=>(match g ((IntKind.i64.wrap (x.1.tdiv 10)),()) with | .ret r_5=>bif (decide (r_5.length+(dE ([(IntKind.u8.wrap (IntKind.i64.wrap (48 - (x.1.tmod 10))))]:List Int)).length<1000000)) then .ret (r_5++(dE ([(IntKind.u8.wrap (IntKind.i64.wrap (48 - (x.1.tmod 10))))]:List Int))) else .fail | .pan p=>.pan p | .fail=>.fail)|false=>match (decide (x.1<10)) with|true=>.ret (dE ([(IntKind.u8.wrap (IntKind.i64.wrap (48+x.1)))]:List Int))|false=>match g ((IntKind.i64.wrap (x.1.tdiv 10)),()) with | .ret r_7=>bif (decide (r_7.length+(dE ([(IntKind.u8.wrap (IntKind.i64.wrap (48+(x.1.tmod 10))))]:List Int)).length<1000000)) then .ret (r_7++(dE ([(IntKind.u8.wrap (IntKind.i64.wrap (48+(x.1.tmod 10))))]:List Int))) else .fail | .pan p=>.pan p | .fail=>.fail
theorem OL (g:(Int×Unit)->Out (List UInt8)) (N:Nat) (x:(Int×Unit)):aW Tryz.prog (ah (I9 g)) Gh N Tryz.f78 false false (.prod (.int .i64) .unit) .str x=Dh g N x:=by kernel_rfl
def mQ:Nat->(Int×Unit)->Out (List UInt8)
 | 0,_=>.fail
 | m+1,x=>Dh (mQ m) fuel x
theorem Ed:∀ m,am Tryz.prog ⟨78,.call,(.prod (.int .i64) .unit),.str,false,false,mQ m⟩
 | 0=>fun _ _ _ _ _ _ _=>trivial
 | m+1=>bi (l:=I9 (mQ m)) (arg:=(.prod (.int .i64) .unit)) (res:=.str) (multi:=false) (own:=false) (F:=mQ (m+1)) mixed (all_cons (Ed m) aO) Tryz.func78 rfl Gh fun x _=>⟨fuel,OL (mQ m) fuel x⟩
def f92 (x:(Int×Unit)):Out (List UInt8):=mQ fuel x
def uN:Spec:=⟨78,.call,(.prod (.int .i64) .unit),.str,false,false,f92⟩
theorem xY:am Tryz.prog uN:=Ed fuel
def BO:List Spec:=[uN]
def zp:List (Nat×List Nat):=[(3,[0,1,5,6,7]),(6,[0,1,5,6,7,8])]
def L93_0 (N:Nat) (n_L93_0:Nat) (x:((List (List UInt8))×(Int×Unit))) (out_1:(List UInt8)) (check_2:Int) (i_3:Int):Out (List UInt8) :=
 bS Tryz.prog (ah BO) zp N Tryz.f79 false false .str [.at 1,.at 1,.at 0,.at 1,.at 0] n_L93_0 [.d (.list .str) x.1,.d (.int .i64) x.2.1,U,U,U,.d .str out_1,.d (.int .i64) check_2,.d (.int .i64) i_3,U,U,U,U,U,U,U,U,U,U,U,U,U,U,U,U,U,U,U,U,U,U,U,U,U,U,U,U,U,U,U,U,U,U,U,U,U,U,U,U,U,U,U,U,U,U,U,U,U,U,U,U,U,U,U,U,U]
def Di (N:Nat) (x:((List (List UInt8))×(Int×Unit))):Out (List UInt8):=L93_0 N N x ([]:List UInt8) 0 0
theorem OM (N:Nat) (x:((List (List UInt8))×(Int×Unit))):aW Tryz.prog (ah BO) zp N Tryz.f79 false false (.prod (.list .str) (.prod (.int .i64) .unit)) .str x=Di N x:=by kernel_rfl
def Fl (x:((List (List UInt8))×(Int×Unit))):Out (List UInt8):=Di fuel x
def IM:Spec:=⟨79,.call,(.prod (.list .str) (.prod (.int .i64) .unit)),.str,false,false,Fl⟩
theorem MM:am Tryz.prog IM:=bi (l:=BO) (arg:=(.prod (.list .str) (.prod (.int .i64) .unit))) (res:=.str) (multi:=false) (own:=false) (F:=Fl) mixed (all_cons xY aO) Tryz.func79 rfl zp fun x _=>⟨fuel,OM fuel x⟩
def I':List Spec:=[]
def Gi:List (Nat×List Nat):=[]
def xd (N:Nat) (x:(Int×(Int×(Int×Unit)))):Out Bool:=match (decide (x.1 >= x.2.1)) with|true=>.ret (decide (x.1<=x.2.2.1))|false=>.ret false
theorem ON (N:Nat) (x:(Int×(Int×(Int×Unit)))):aW Tryz.prog (ah I') Gi N Tryz.f95 false false kt .bool x=xd N x:=by kernel_rfl
def f94 (x:(Int×(Int×(Int×Unit)))):Out Bool:=xd fuel x
def rr:Spec:=⟨95,.call,kt,.bool,false,false,f94⟩
theorem sW:am Tryz.prog rr:=bi (l:=I') (arg:=kt) (res:=.bool) (multi:=false) (own:=false) (F:=f94) mixed aO Tryz.func95 rfl Gi fun x _=>⟨fuel,ON fuel x⟩
def IP:List Spec:=[]
def FR:List (Nat×List Nat):=[]
def oK (N:Nat) (x:zJ):Out Bool:=bif (ax x.2.1 x.1.2.1.length) then bif (ax x.2.2.1 ((List.getD x.1.2.1 x.2.1.toNat (0,([],())))).2.1.length) then match ((List.getD ((List.getD x.1.2.1 x.2.1.toNat (0,([],())))).2.1 x.2.2.1.toNat 0)==(-1)) with|true=>.ret true|false=>.ret ((List.getD ((List.getD x.1.2.1 x.2.1.toNat (0,([],())))).2.1 x.2.2.1.toNat 0)==x.2.2.2.1) else .fail else .fail
theorem NI (N:Nat) (x:zJ):aW Tryz.prog (ah IP) FR N Tryz.f100 false false Cc .bool x=oK N x:=by kernel_rfl
def je (x:zJ):Out Bool:=oK fuel x
def rk:Spec:=⟨100,.call,Cc,.bool,false,false,je⟩
theorem sM:am Tryz.prog rk:=bi (l:=IP) (arg:=Cc) (res:=.bool) (multi:=false) (own:=false) (F:=je) mixed aO Tryz.func100 rfl FR fun x _=>⟨fuel,NI fuel x⟩
def Bo:List Spec:=[]
def yS:List (Nat×List Nat):=[(3,[1,3,7,14,15,16])]
def L107_0 (N:Nat) (n_L107_0:Nat) (x:qx) (n_1:Int) (t16_2:Int):Out Int :=
 bS Tryz.prog (ah Bo) yS N Tryz.f118 false false (.int .i64) [.at 1,.at 1,.at 0,.at 1,.at 0] n_L107_0 [U,.d (.int .i64) x.2.1,U,.box [.d (.int .i64) x.1.1.1.1,.d ba x.1.1.1.2.1,.d be x.1.1.2.1,.d ku x.1.2.1],U,U,U,.d (.int .i64) n_1,U,U,U,U,U,U,.d be (List.getD x.1.2.1 x.2.2.1.toNat ([]:List (List Int))),.d (.int .i64) (ae (List.getD x.1.2.1 x.2.2.1.toNat ([]:List (List Int)))),.d (.int .i64) t16_2,U,U,U,U,U,U,U,U,U,U,U,U,U,U,U,U,U,U,U,U,U,U,U]
theorem L107_0_succ (N:Nat) (n_L107_0:Nat) (x:qx) (n_1:Int) (t16_2:Int):L107_0 N  (n_L107_0+1) x n_1 t16_2 =
 (match (decide (t16_2<(ae (List.getD x.1.2.1 x.2.2.1.toNat [])))) with|true=>bif (ax t16_2 (List.getD x.1.2.1 x.2.2.1.toNat []).length) then bif (ax x.2.1 (List.getD (List.getD x.1.2.1 x.2.2.1.toNat []) t16_2.toNat []).length) then bif (ax x.2.1 x.1.1.1.2.1.length) then bif (ax ((List.getD x.1.1.1.2.1 x.2.1.toNat (0,([],())))).1 (List.getD (List.getD x.1.2.1 x.2.2.1.toNat []) t16_2.toNat []).length) then match ((List.getD (List.getD (List.getD x.1.2.1 x.2.2.1.toNat []) t16_2.toNat []) x.2.1.toNat 0) != (List.getD (List.getD (List.getD x.1.2.1 x.2.2.1.toNat []) t16_2.toNat []) ((List.getD x.1.1.1.2.1 x.2.1.toNat (0,([],())))).1.toNat 0)) with|true=>L107_0 N n_L107_0 x (IntKind.i64.wrap (n_1+1)) (IntKind.i64.wrap (t16_2+1))|false=>L107_0 N n_L107_0 x n_1 (IntKind.i64.wrap (t16_2+1)) else .fail else .fail else .fail else .fail|false=>.ret n_1:Out Int):=by kernel_rfl
def v_ (N:Nat) (x:qx):Out Int:=bif (ax x.2.2.1 x.1.2.1.length) then L107_0 N N x 0 0 else .fail
theorem NJ (N:Nat) (x:qx):aW Tryz.prog (ah Bo) yS N Tryz.f118 false false Ci (.int .i64) x=v_ N x:=by kernel_rfl
def mO (x:qx):Out Int:=v_ fuel x
def AX:Spec:=⟨118,.call,Ci,(.int .i64),false,false,mO⟩
theorem D5:am Tryz.prog AX:=bi (l:=Bo) (arg:=Ci) (res:=(.int .i64)) (multi:=false) (own:=false) (F:=mO) mixed aO Tryz.func118 rfl yS fun x _=>⟨fuel,NJ fuel x⟩
def IQ:List Spec:=[]
def FS:List (Nat×List Nat):=[]
def CL (N:Nat) (x:(Bool×gU)):Out Unit:=match (!x.1) with|true=>.pan (.iface 146 (aP (.prod .str .unit) ((cC (.prod .str .unit) x.2).getD [])))|false=>.ret ()
theorem NM (N:Nat) (x:(Bool×gU)):aW Tryz.prog (ah IQ) FS N Tryz.f110 true false (.prod .bool (.prod .str .unit)) .unit x=CL N x:=by kernel_rfl
def f113 (x:(Bool×gU)):Out Unit:=CL fuel x
def AY:Spec:=⟨110,.call,(.prod .bool (.prod .str .unit)),.unit,true,false,f113⟩
theorem xS:am Tryz.prog AY:=bi (l:=IQ) (arg:=(.prod .bool (.prod .str .unit))) (res:=.unit) (multi:=true) (own:=false) (F:=f113) mixed aO Tryz.func110 rfl FS fun x _=>⟨fuel,NM fuel x⟩
def Bq:List Spec:=[AY]
def yU:List (Nat×List Nat):=[(4,[0,1,5,13])]
def L114_0 (N:Nat) (n_L114_0:Nat) (x:((List UInt8)×(Bool×Unit))) (out_3:(List Int)) (t13_4:Nat):Out (List Int) :=
 bS Tryz.prog (ah Bq) yU N Tryz.f111 false true (.list (.int .i64)) [.at 1,.at 1,.at 1,.at 0,.at 1,.at 0] n_L114_0 [.d .str x.1,.d .bool x.2.1,U,U,U,.own (.int .i64) out_3 false,U,U,U,U,U,U,U,.sit x.1 t13_4,U,U,U,U,U,U,U,U,U,U,U,U,U,U,U,U,U,U,U,U,U,U,U,U,U,U]
def CP (N:Nat) (x:((List UInt8)×(Bool×Unit))):Out (List Int):=match f113 ((x.1 != ([]:List UInt8)),(x.1,())) with | .ret r_1=>L114_0 N N x [] 0 | .pan p=>.pan p | .fail=>.fail
theorem NN (N:Nat) (x:((List UInt8)×(Bool×Unit))):aW Tryz.prog (ah Bq) yU N Tryz.f111 false true (.prod .str (.prod .bool .unit)) (.list (.int .i64)) x=CP N x:=by kernel_rfl
def f114 (x:((List UInt8)×(Bool×Unit))):Out (List Int):=CP fuel x
def Iq:Spec:=⟨111,.call,(.prod .str (.prod .bool .unit)),(.list (.int .i64)),false,true,f114⟩
theorem D7:am Tryz.prog Iq:=bi (l:=Bq) (arg:=(.prod .str (.prod .bool .unit))) (res:=(.list (.int .i64))) (multi:=false) (own:=true) (F:=f114) mixed (all_cons xS aO) Tryz.func111 rfl yU fun x _=>⟨fuel,NN fuel x⟩
def Bs:List Spec:=[]
def yW:List (Nat×List Nat):=[(2,[0,1,7,8])]
def L116_0 (N:Nat) (n_L116_0:Nat) (x:bB) (t8_1:Int):Out Int :=
 bS Tryz.prog (ah Bs) yW N Tryz.f119 false false (.int .i64) [.at 1,.at 0,.at 1,.at 0] n_L116_0 [.d (.list (.int .i64)) x.1,.d (.int .i64) x.2.1,U,U,U,U,U,.d (.int .i64) (ae x.1),.d (.int .i64) t8_1,U,U,U,U,U,U,U,U,U,U]
theorem L116_0_succ (N:Nat) (n_L116_0:Nat) (x:bB) (t8_1:Int):L116_0 N  (n_L116_0+1) x t8_1 =
 (match (decide (t8_1<(ae x.1))) with|true=>bif (ax t8_1 x.1.length) then match (x.2.1==(List.getD x.1 t8_1.toNat 0)) with|true=>.ret t8_1|false=>L116_0 N n_L116_0 x (IntKind.i64.wrap (t8_1+1)) else .fail|false=>.ret (-1):Out Int):=by kernel_rfl
def wh (N:Nat) (x:bB):Out Int:=L116_0 N N x 0
theorem NP (N:Nat) (x:bB):aW Tryz.prog (ah Bs) yW N Tryz.f119 false false ch (.int .i64) x=wh N x:=by kernel_rfl
def f116 (x:bB):Out Int:=wh fuel x
def Is:Spec:=⟨119,.call,ch,(.int .i64),false,false,f116⟩
theorem LQ:am Tryz.prog Is:=bi (l:=Bs) (arg:=ch) (res:=(.int .i64)) (multi:=false) (own:=false) (F:=f116) mixed aO Tryz.func119 rfl yW fun x _=>⟨fuel,NP fuel x⟩
def Bt:List Spec:=[]
def yX:List (Nat×List Nat):=[(3,[3,6,7,8])]
def L117_0 (N:Nat) (n_L117_0:Nat) (x:aE) (n_1:Int) (t8_2:Int):Out Int :=
 bS Tryz.prog (ah Bt) yX N Tryz.f132 false false (.int .i64) [.at 1,.at 1,.at 0,.at 1,.at 0] n_L117_0 [U,U,U,.d (.int .i64) n_1,U,U,.d (.list (.int .i64)) x.1,.d (.int .i64) (ae x.1),.d (.int .i64) t8_2,U,U,U,U,U,U,U,U,U]
theorem L117_0_succ (N:Nat) (n_L117_0:Nat) (x:aE) (n_1:Int) (t8_2:Int):L117_0 N  (n_L117_0+1) x n_1 t8_2 =
 (match (decide (t8_2<(ae x.1))) with|true=>bif (ax t8_2 x.1.length) then L117_0 N n_L117_0 x (if (IntKind.i64.wrap (n_1+(List.getD x.1 t8_2.toNat 0)))<1000 then (IntKind.i64.wrap (n_1+(List.getD x.1 t8_2.toNat 0))) else 1000) (IntKind.i64.wrap (t8_2+1)) else .fail|false=>.ret n_1:Out Int):=by kernel_rfl
def CR (N:Nat) (x:aE):Out Int:=L117_0 N N x 0 0
theorem NQ (N:Nat) (x:aE):aW Tryz.prog (ah Bt) yX N Tryz.f132 false false jC (.int .i64) x=CR N x:=by kernel_rfl
def kN (x:aE):Out Int:=CR fuel x
def rm:Spec:=⟨132,.call,jC,(.int .i64),false,false,kN⟩
theorem sN:am Tryz.prog rm:=bi (l:=Bt) (arg:=jC) (res:=(.int .i64)) (multi:=false) (own:=false) (F:=kN) mixed aO Tryz.func132 rfl yX fun x _=>⟨fuel,NQ fuel x⟩
def IS:List Spec:=[]
def FU:List (Nat×List Nat):=[]
def C3 (N:Nat) (x:Unit):Out ((List UInt8)×((List UInt8)×Unit)):=.ret (([99,111,112,105,101,115]:List UInt8),(([99,111,112,121]:List UInt8),()))
theorem NU (N:Nat) (x:Unit):aW Tryz.prog (ah IS) FU N Tryz.f133 false false .unit (.prod .str (.prod .str .unit)) x=C3 N x:=by kernel_rfl
def EV (x:Unit):Out ((List UInt8)×((List UInt8)×Unit)):=C3 fuel x
def AZ:Spec:=⟨133,.call,.unit,(.prod .str (.prod .str .unit)),false,false,EV⟩
theorem D9:am Tryz.prog AZ:=bi (l:=IS) (arg:=.unit) (res:=(.prod .str (.prod .str .unit))) (multi:=false) (own:=false) (F:=EV) mixed aO Tryz.func133 rfl FU fun x _=>⟨fuel,NU fuel x⟩
def IV:List Spec:=[]
def FX:List (Nat×List Nat):=[]
def C5 (N:Nat) (x:(Int×Unit)):Out (List Int):=.ret ([x.1]:List Int)
theorem NX (N:Nat) (x:(Int×Unit)):aW Tryz.prog (ah IV) FX N Tryz.f190 false true (.prod (.int .i64) .unit) (.list (.int .i64)) x=C5 N x:=by kernel_rfl
def f189 (x:(Int×Unit)):Out (List Int):=C5 fuel x
def Ix:Spec:=⟨190,.call,(.prod (.int .i64) .unit),(.list (.int .i64)),false,true,f189⟩
theorem L3:am Tryz.prog Ix:=bi (l:=IV) (arg:=(.prod (.int .i64) .unit)) (res:=(.list (.int .i64))) (multi:=false) (own:=true) (F:=f189) mixed aO Tryz.func190 rfl FX fun x _=>⟨fuel,NX fuel x⟩
def IW:List Spec:=[]
def FY:List (Nat×List Nat):=[]
def C6 (N:Nat) (x:lp):Out (List Int):=.ret ([x.1.1.1]:List Int)
theorem NZ (N:Nat) (x:lp):aW Tryz.prog (ah IW) FY N Tryz.f191 false true Ce (.list (.int .i64)) x=C6 N x:=by kernel_rfl
def f190 (x:lp):Out (List Int):=C6 fuel x
def Iz:Spec:=⟨191,.call,Ce,(.list (.int .i64)),false,true,f190⟩
theorem L4:am Tryz.prog Iz:=bi (l:=IW) (arg:=Ce) (res:=(.list (.int .i64))) (multi:=false) (own:=true) (F:=f190) mixed aO Tryz.func191 rfl FY fun x _=>⟨fuel,NZ fuel x⟩
def C8 (N:Nat) (x:(Int×Unit)):Out Bool:=match kT (x.1,(0,(9,()))) with | .ret r=>.ret r | .pan p=>.pan p | .fail=>.fail
def f46 (x:(Int×Unit)):Out Bool:=C8 fuel x
def IA:Spec:=⟨31,.call,(.prod (.int .i64) .unit),.bool,false,false,f46⟩
def I2:List Spec:=[rr]
def Ga:List (Nat×List Nat):=[]
def wM (N:Nat) (x:dZ):Out Bool:=match f94 (x.2.1,(0,((IntKind.i64.wrap ((ae x.1.2.1) - 1)),()))) with | .ret r=>.ret r | .pan p=>.pan p | .fail=>.fail
theorem Oi (N:Nat) (x:dZ):aW Tryz.prog (ah I2) Ga N Tryz.f64 false false fy .bool x=wM N x:=by kernel_rfl
def f56 (x:dZ):Out Bool:=wM fuel x
def lW:Spec:=⟨64,.call,fy,.bool,false,false,f56⟩
theorem mF:am Tryz.prog lW:=bi (l:=I2) (arg:=fy) (res:=.bool) (multi:=false) (own:=false) (F:=f56) mixed (all_cons sW aO) Tryz.func64 rfl Ga fun x _=>⟨fuel,Oi fuel x⟩
def BH:List Spec:=[AX]
def zh:List (Nat×List Nat):=[(2,[1,2,8,9,10])]
def L71_0 (N:Nat) (n_L71_0:Nat) (x:iC) (t10_1:Int):Out Bool :=
 bS Tryz.prog (ah BH) zh N Tryz.f86 false false .bool [.at 1,.at 0,.at 1,.at 0] n_L71_0 [U,.d (.int .i64) x.2.1,.box [.d (.int .i64) x.1.1.1.1,.d ba x.1.1.1.2.1,.d be x.1.1.2.1,.d ku x.1.2.1],U,U,U,U,U,.d ku x.1.2.1,.d (.int .i64) (ae x.1.2.1),.d (.int .i64) t10_1,U,U,U,U,U,U,U,U,U,U,U,U]
theorem L71_0_succ (N:Nat) (n_L71_0:Nat) (x:iC) (t10_1:Int):L71_0 N  (n_L71_0+1) x t10_1 =
 (match (decide (t10_1<(ae x.1.2.1))) with|true=>bif (ax t10_1 x.1.2.1.length) then match mO (x.1,(x.2.1,(t10_1,()))) with | .ret r_2=>(match (r_2==(ae (List.getD x.1.2.1 t10_1.toNat []))) with|true=>.ret true|false=>L71_0 N n_L71_0 x (IntKind.i64.wrap (t10_1+1))) | .pan p=>.pan p | .fail=>.fail else .fail|false=>.ret false:Out Bool):=by kernel_rfl
def wT (N:Nat) (x:iC):Out Bool:=L71_0 N N x 0
theorem Ou (N:Nat) (x:iC):aW Tryz.prog (ah BH) zh N Tryz.f86 false false ox .bool x=wT N x:=by kernel_rfl
def f71 (x:iC):Out Bool:=wT fuel x
def IE:Spec:=⟨86,.call,ox,.bool,false,false,f71⟩
theorem MD:am Tryz.prog IE:=bi (l:=BH) (arg:=ox) (res:=.bool) (multi:=false) (own:=false) (F:=f71) mixed (all_cons D5 aO) Tryz.func86 rfl zh fun x _=>⟨fuel,Ou fuel x⟩
def BI:List Spec:=[AX]
def zi:List (Nat×List Nat):=[(2,[1,2,8,9])]
def L72_0 (N:Nat) (n_L72_0:Nat) (x:iC) (t9_1:Int):Out Bool :=
 bS Tryz.prog (ah BI) zi N Tryz.f87 false false .bool [.at 1,.at 0,.at 1,.at 0] n_L72_0 [U,.d (.int .i64) x.2.1,.box [.d (.int .i64) x.1.1.1.1,.d ba x.1.1.1.2.1,.d be x.1.1.2.1,.d ku x.1.2.1],U,U,U,U,U,.d (.int .i64) (ae x.1.2.1),.d (.int .i64) t9_1,U,U,U,U,U,U,U,U]
theorem L72_0_succ (N:Nat) (n_L72_0:Nat) (x:iC) (t9_1:Int):L72_0 N  (n_L72_0+1) x t9_1 =
 (match (decide (t9_1<(ae x.1.2.1))) with|true=>(match mO (x.1,(x.2.1,(t9_1,()))) with | .ret r_2=>(match (decide (r_2 > 0)) with|true=>.ret true|false=>L72_0 N n_L72_0 x (IntKind.i64.wrap (t9_1+1))) | .pan p=>.pan p | .fail=>.fail)|false=>.ret false:Out Bool):=by kernel_rfl
def wU (N:Nat) (x:iC):Out Bool:=L72_0 N N x 0
theorem Ov (N:Nat) (x:iC):aW Tryz.prog (ah BI) zi N Tryz.f87 false false ox .bool x=wU N x:=by kernel_rfl
def f72 (x:iC):Out Bool:=wU fuel x
def IF:Spec:=⟨87,.call,ox,.bool,false,false,f72⟩
theorem ME:am Tryz.prog IF:=bi (l:=BI) (arg:=ox) (res:=.bool) (multi:=false) (own:=false) (F:=f72) mixed (all_cons D5 aO) Tryz.func87 rfl zi fun x _=>⟨fuel,Ov fuel x⟩
def I4:List Spec:=[rr]
def Gb:List (Nat×List Nat):=[]
def wV (N:Nat) (x:dZ):Out Bool:=match f94 (x.2.1,(0,((IntKind.i64.wrap (x.1.1 - 1)),()))) with | .ret r=>.ret r | .pan p=>.pan p | .fail=>.fail
theorem Ow (N:Nat) (x:dZ):aW Tryz.prog (ah I4) Gb N Tryz.f88 false false fy .bool x=wV N x:=by kernel_rfl
def f73 (x:dZ):Out Bool:=wV fuel x
def rp:Spec:=⟨88,.call,fy,.bool,false,false,f73⟩
theorem sT:am Tryz.prog rp:=bi (l:=I4) (arg:=fy) (res:=.bool) (multi:=false) (own:=false) (F:=f73) mixed (all_cons sW aO) Tryz.func88 rfl Gb fun x _=>⟨fuel,Ow fuel x⟩
def n_:List Spec:=[IG]
def mW:List (Nat×List Nat):=[(3,[0,1,4,6,9,10,11])]
def L78a_0 (N:Nat) (n_L78a_0:Nat) (x:m8) (t4_1:Int) (t4_2:Int) (t4_3:Int) (out_4:Int) (out_5:Int) (out_6:Int) (t11_7:Int):Out tZ :=
 bS Tryz.prog (ah n_) mW N Tryz.f90 true false me [.at 1,.at 1,.at 0,.at 1,.at 0] n_L78a_0 [.d (.list (.prod (.int .i64) (.prod (.int .i64) (.prod (.int .i64) .unit)))) x.1,.d .raw (Value.func (.func 91) #[] #[]),U,U,.box [.d (.int .i64) t4_1,.d (.int .i64) t4_2,.d (.int .i64) t4_3],U,.box [.d (.int .i64) out_4,.d (.int .i64) out_5,.d (.int .i64) out_6],U,U,.d (.list (.prod (.int .i64) (.prod (.int .i64) (.prod (.int .i64) .unit)))) x.1,.d (.int .i64) (ae x.1),.d (.int .i64) t11_7,U,U,U,U,U,U,U,U,U,U,U,U,U,U,U,U,U,U]
theorem L78a_0_succ (N:Nat) (n_L78a_0:Nat) (x:m8) (t4_1:Int) (t4_2:Int) (t4_3:Int) (out_4:Int) (out_5:Int) (out_6:Int) (t11_7:Int):L78a_0 N  (n_L78a_0+1) x t4_1 t4_2 t4_3 out_4 out_5 out_6 t11_7 =
 (match (decide (t11_7<(ae x.1))) with|true=>bif (ax t11_7 x.1.length) then match (t11_7==0) with|true=>L78a_0 N n_L78a_0 x t4_1 t4_2 t4_3 ((List.getD x.1 t11_7.toNat (0,(0,(0,()))))).1 ((List.getD x.1 t11_7.toNat (0,(0,(0,()))))).2.1 ((List.getD x.1 t11_7.toNat (0,(0,(0,()))))).2.2.1 (IntKind.i64.wrap (t11_7+1))|false=>match (decide (((List.getD x.1 t11_7.toNat (0,(0,(0,()))))).2.2.1<out_6)) with|true=>L78a_0 N n_L78a_0 x t4_1 t4_2 t4_3 ((List.getD x.1 t11_7.toNat (0,(0,(0,()))))).1 ((List.getD x.1 t11_7.toNat (0,(0,(0,()))))).2.1 ((List.getD x.1 t11_7.toNat (0,(0,(0,()))))).2.2.1 (IntKind.i64.wrap (t11_7+1))|false=>L78a_0 N n_L78a_0 x t4_1 t4_2 t4_3 out_4 out_5 out_6 (IntKind.i64.wrap (t11_7+1)) else .fail|false=>.ret ((out_4,(out_5,(out_6,()))),((decide ((ae x.1) > 0)),())):Out tZ):=by kernel_rfl
def Dc (N:Nat) (x:m8):Out tZ:=L78a_0 N N x 0 0 0 0 0 0 0
theorem Oy (N:Nat) (x:m8):aW Tryz.prog (ah n_) mW N Tryz.f90 true false oy me (x.1,(Value.func (.func 91) #[] #[]),())=Dc N x:=by kernel_rfl
@[irreducible] def pO (x:m8):Out tZ:=aW Tryz.prog (ah n_) mW fuel Tryz.f90 true false oy me x
def Bi:Spec:=⟨90,.call,oy,me,true,false,pO⟩
theorem HE (x:m8):aW Tryz.prog (ah n_) mW fuel Tryz.f90 true false oy me x=pO x:=by kernel_rfl
theorem Ec:am Tryz.prog Bi:=bi (l:=n_) (arg:=oy) (res:=me) (multi:=true) (own:=false) (F:=pO) mixed (all_cons MF aO) Tryz.func90 rfl mW fun x _=>⟨fuel,HE x⟩
def I6:List Spec:=[rr]
def Ge:List (Nat×List Nat):=[]
def wX (N:Nat) (x:(Int×Unit)):Out Bool:=match f94 (x.1,(0,(9,()))) with | .ret r=>.ret r | .pan p=>.pan p | .fail=>.fail
theorem OA (N:Nat) (x:(Int×Unit)):aW Tryz.prog (ah I6) Ge N Tryz.f92 false false (.prod (.int .i64) .unit) .bool x=wX N x:=by kernel_rfl
def f80 (x:(Int×Unit)):Out Bool:=wX fuel x
def rq:Spec:=⟨92,.call,(.prod (.int .i64) .unit),.bool,false,false,f80⟩
theorem sU:am Tryz.prog rq:=bi (l:=I6) (arg:=(.prod (.int .i64) .unit)) (res:=.bool) (multi:=false) (own:=false) (F:=f80) mixed (all_cons sW aO) Tryz.func92 rfl Ge fun x _=>⟨fuel,OA fuel x⟩
def BL:List Spec:=[lW]
def zm:List (Nat×List Nat):=[(2,[1,2,7,8,9])]
def L85_0 (N:Nat) (n_L85_0:Nat) (x:gS) (t9_1:Int):Out Bool :=
 bS Tryz.prog (ah BL) zm N Tryz.f55 false false .bool [.at 1,.at 0,.at 1,.at 0] n_L85_0 [U,.d (.list (.int .i64)) x.2.1,.box [.d (.int .i64) x.1.1,.d ba x.1.2.1],U,U,U,U,.d (.list (.int .i64)) x.2.1,.d (.int .i64) (ae x.2.1),.d (.int .i64) t9_1,U,U,U,U,U,U,U,U,U,U,U,U,U,U,U,U,U,U,U,U,U,U,U,U,U,U]
theorem L85_0_succ (N:Nat) (n_L85_0:Nat) (x:gS) (t9_1:Int):L85_0 N  (n_L85_0+1) x t9_1 =
 (match (decide (t9_1<(ae x.2.1))) with|true=>bif (ax t9_1 x.2.1.length) then match f56 (x.1,((List.getD x.2.1 t9_1.toNat 0),())) with | .ret r_2=>(match (!r_2) with|true=>.ret false|false=>match ((List.getD x.2.1 t9_1.toNat 0)==0) with|true=>.ret false|false=>match (decide (t9_1 > 0)) with|true=>bif (ax (IntKind.i64.wrap (t9_1 - 1)) x.2.1.length) then match (decide ((List.getD x.2.1 t9_1.toNat 0)<=(List.getD x.2.1 (IntKind.i64.wrap (t9_1 - 1)).toNat 0))) with|true=>.ret false|false=>L85_0 N n_L85_0 x (IntKind.i64.wrap (t9_1+1)) else .fail|false=>L85_0 N n_L85_0 x (IntKind.i64.wrap (t9_1+1))) | .pan p=>.pan p | .fail=>.fail else .fail|false=>.ret true:Out Bool):=by kernel_rfl
def wZ (N:Nat) (x:gS):Out Bool:=L85_0 N N x 0
theorem OC (N:Nat) (x:gS):aW Tryz.prog (ah BL) zm N Tryz.f55 false false mg .bool x=wZ N x:=by kernel_rfl
def f85 (x:gS):Out Bool:=wZ fuel x
def uM:Spec:=⟨55,.call,mg,.bool,false,false,f85⟩
theorem sV:am Tryz.prog uM:=bi (l:=BL) (arg:=mg) (res:=.bool) (multi:=false) (own:=false) (F:=f85) mixed (all_cons mF aO) Tryz.func55 rfl zm fun x _=>⟨fuel,OC fuel x⟩
def BN:List Spec:=[uN]
def zo:List (Nat×List Nat):=[(2,[0,1,5])]
def L91_0 (N:Nat) (n_L91_0:Nat) (x:((List UInt8)×((List Int)×Unit))) (word_1:(List UInt8)) (i_2:Int):Out (List UInt8) :=
 bS Tryz.prog (ah BN) zo N Tryz.f77 false false .str [.at 1,.at 0,.at 1,.at 0] n_L91_0 [.d .str word_1,.d (.list (.int .i64)) x.2.1,U,U,U,.d (.int .i64) i_2,U,U,U,U,U,U,U,U,U,U,U,U,U,U,U]
def Dg (N:Nat) (x:((List UInt8)×((List Int)×Unit))):Out (List UInt8):=L91_0 N N x x.1 0
theorem OJ (N:Nat) (x:((List UInt8)×((List Int)×Unit))):aW Tryz.prog (ah BN) zo N Tryz.f77 false false (.prod .str (.prod (.list (.int .i64)) .unit)) .str x=Dg N x:=by kernel_rfl
def f91 (x:((List UInt8)×((List Int)×Unit))):Out (List UInt8):=Dg fuel x
def IL:Spec:=⟨77,.call,(.prod .str (.prod (.list (.int .i64)) .unit)),.str,false,false,f91⟩
theorem ML:am Tryz.prog IL:=bi (l:=BN) (arg:=(.prod .str (.prod (.list (.int .i64)) .unit))) (res:=.str) (multi:=false) (own:=false) (F:=f91) mixed (all_cons xY aO) Tryz.func77 rfl zo fun x _=>⟨fuel,OJ fuel x⟩
def I_:List Spec:=[rq]
def Gj:List (Nat×List Nat):=[]
def xe (N:Nat) (x:(Int×Unit)):Out Bool:=match (x.1 != (-1)) with|true=>(match f80 (x.1,()) with | .ret r_1=>.ret (!r_1) | .pan p=>.pan p | .fail=>.fail)|false=>.ret false
theorem OO (N:Nat) (x:(Int×Unit)):aW Tryz.prog (ah I_) Gj N Tryz.f96 false false (.prod (.int .i64) .unit) .bool x=xe N x:=by kernel_rfl
def f95 (x:(Int×Unit)):Out Bool:=xe fuel x
def IN:Spec:=⟨96,.call,(.prod (.int .i64) .unit),.bool,false,false,f95⟩
theorem MN:am Tryz.prog IN:=bi (l:=I_) (arg:=(.prod (.int .i64) .unit)) (res:=.bool) (multi:=false) (own:=false) (F:=f95) mixed (all_cons sU aO) Tryz.func96 rfl Gj fun x _=>⟨fuel,OO fuel x⟩
def Ja:List Spec:=[Is]
def Gk:List (Nat×List Nat):=[]
def xf (N:Nat) (x:bB):Out Bool:=match f116 (x.1,(x.2.1,())) with | .ret r_1=>.ret (decide (r_1 >= 0)) | .pan p=>.pan p | .fail=>.fail
theorem OQ (N:Nat) (x:bB):aW Tryz.prog (ah Ja) Gk N Tryz.f98 false false ch .bool x=xf N x:=by kernel_rfl
def f98 (x:bB):Out Bool:=xf fuel x
def Bl:Spec:=⟨98,.call,ch,.bool,false,false,f98⟩
theorem xZ:am Tryz.prog Bl:=bi (l:=Ja) (arg:=ch) (res:=.bool) (multi:=false) (own:=false) (F:=f98) mixed (all_cons LQ aO) Tryz.func98 rfl Gk fun x _=>⟨fuel,OQ fuel x⟩
def nZ:List Spec:=[IN]
def mU:List (Nat×List Nat):=[(2,[0,1,7,8])]
def L111a_0 (N:Nat) (n_L111a_0:Nat) (x:iE) (t8_1:Int):Out Int :=
 bS Tryz.prog (ah nZ) mU N Tryz.f97 false false (.int .i64) [.at 1,.at 0,.at 1,.at 0] n_L111a_0 [.d (.list (.int .i64)) x.1,.d .raw (Value.func (.func 96) #[] #[]),U,U,U,U,U,.d (.int .i64) (ae x.1),.d (.int .i64) t8_1,U,U,U,U,U,U,U,U,U,U]
theorem L111a_0_succ (N:Nat) (n_L111a_0:Nat) (x:iE) (t8_1:Int):L111a_0 N  (n_L111a_0+1) x t8_1 =
 (match (decide (t8_1<(ae x.1))) with|true=>bif (ax t8_1 x.1.length) then match f95 ((List.getD x.1 t8_1.toNat 0),()) with | .ret r_2=>(match r_2 with|true=>.ret t8_1|false=>L111a_0 N n_L111a_0 x (IntKind.i64.wrap (t8_1+1))) | .pan p=>.pan p | .fail=>.fail else .fail|false=>.ret (-1):Out Int):=by kernel_rfl
def CK (N:Nat) (x:iE):Out Int:=L111a_0 N N x 0
theorem NK (N:Nat) (x:iE):aW Tryz.prog (ah nZ) mU N Tryz.f97 false false eZ (.int .i64) (x.1,(Value.func (.func 96) #[] #[]),())=CK N x:=by kernel_rfl
@[irreducible] def pq (x:iE):Out Int:=aW Tryz.prog (ah nZ) mU fuel Tryz.f97 false false eZ (.int .i64) x
def Im:Spec:=⟨97,.call,eZ,(.int .i64),false,false,pq⟩
theorem HD (x:iE):aW Tryz.prog (ah nZ) mU fuel Tryz.f97 false false eZ (.int .i64) x=pq x:=by kernel_rfl
theorem LO:am Tryz.prog Im:=bi (l:=nZ) (arg:=eZ) (res:=(.int .i64)) (multi:=false) (own:=false) (F:=pq) mixed (all_cons MN aO) Tryz.func97 rfl mU fun x _=>⟨fuel,HD x⟩
def Bu:List Spec:=[AZ,Ix,uI]
def yY:List (Nat×List Nat):=[(7,[0,3,4,17,18,19]),(15,[4,8,36,37,38])]
def L130a_0 (N:Nat) (n_L130a_0:Nat) (x:(Int×Unit)) (out_1:(List UInt8)) (t36_2:(List Int)) (t38_3:Int):Out (List UInt8) :=
 bS Tryz.prog (ah Bu) yY N Tryz.f105 false false .str [.at 1,.at 1,.at 1,.at 1,.at 0,.at 1,.at 0] n_L130a_0 [U,U,U,U,.d .str ([]:List UInt8),U,U,U,.d .str out_1,U,U,U,U,U,U,U,U,U,U,U,U,U,U,U,U,U,U,U,U,U,U,U,U,U,U,U,.own (.int .i64) t36_2 false,.d (.int .i64) (ae ([x.1]:List Int)),.d (.int .i64) t38_3,U,U,U,U,U,U,U,U,U,U,U,U]
def C0 (N:Nat) (x:(Int×Unit)):Out (List UInt8):=L130a_0 N N x ([99,111,112,105,101,115]:List UInt8) ([x.1]:List Int) 0
theorem NR (N:Nat) (x:(Int×Unit)):aW Tryz.prog (ah Bu) yY N Tryz.f105 false false (.prod (.dyn 139 (.int .i64)) .unit) .str x=C0 N x:=by kernel_rfl
def yx (x:(Int×Unit)):Out (List UInt8):=C0 fuel x
def It:Spec:=⟨105,.call,(.prod (.dyn 139 (.int .i64)) .unit),.str,false,false,yx⟩
theorem LR:am Tryz.prog It:=bi (l:=Bu) (arg:=(.prod (.dyn 139 (.int .i64)) .unit)) (res:=.str) (multi:=false) (own:=false) (F:=yx) mixed (all_cons D9 (all_cons L3 (all_cons xU aO))) Tryz.func105 rfl yY fun x _=>⟨fuel,NR fuel x⟩
def Bv:List Spec:=[uI,AZ,Iz]
def yZ:List (Nat×List Nat):=[(7,[0,3,4,17,18,19]),(15,[4,8,36,37,38])]
def L130b_0 (N:Nat) (n_L130b_0:Nat) (x:lp) (figures_1:(List UInt8)) (t19_2:Int):Out (List UInt8) :=
 bS Tryz.prog (ah Bv) yZ N Tryz.f105 false false .str [.at 1,.at 1,.at 0,.at 1,.at 0,.at 1,.at 0,.at 1,.at 1,.at 1,.at 0] n_L130b_0 [.d (.dyn 141 (.prod (.prod (.int .i64) (.prod (.list (.int .i64)) .unit)) .unit)) x.1,U,U,.d (.int .i64) (1:Int),.d .str figures_1,U,U,U,U,U,U,U,U,U,U,U,U,.d (.list (.int .i64)) x.1.1.2.1,.d (.int .i64) (ae x.1.1.2.1),.d (.int .i64) t19_2,U,U,U,U,U,U,U,U,U,U,U,U,U,U,U,U,U,U,U,U,U,U,U,U,U,U,U,U,U,U,U]
def C2 (N:Nat) (x:lp):Out (List UInt8):=L130b_0 N N x ([32]:List UInt8) 0
theorem NS (N:Nat) (x:lp):aW Tryz.prog (ah Bv) yZ N Tryz.f105 false false Ca .str x=C2 N x:=by kernel_rfl
def EU (x:lp):Out (List UInt8):=C2 fuel x
def Iu:Spec:=⟨105,.call,Ca,.str,false,false,EU⟩
theorem LS:am Tryz.prog Iu:=bi (l:=Bv) (arg:=Ca) (res:=.str) (multi:=false) (own:=false) (F:=EU) mixed (all_cons xU (all_cons D9 (all_cons L4 aO))) Tryz.func105 rfl yZ fun x _=>⟨fuel,NS fuel x⟩
def IU:List Spec:=[V1,IA]
def FW:List (Nat×List Nat):=[(4,[1,3]),(10,[1,3,4,5])]
def L17_1 (N:Nat) (n_L17_0:Nat) (n_L17_1:Nat) (t_5:Int) (t_6:(List (Int×aE))) (i_7:Int) (p_10:Int):Out Bool :=
 bS Tryz.prog (ah IU) FW N Tryz.f15 false false .bool [.at 1,.at 1,.at 0,.at 1,.at 0,.at n_L17_0,.at 1,.at 0,.at 0,.at 1,.at 1,.at 1,.at 0] n_L17_1 [U,.box [.d (.int .i64) t_5,.d ba t_6],U,.d (.int .i64) i_7,.box [.d (.int .i64) ((List.getD t_6 i_7.toNat ((0:Int),(([]:List Int),())))).1,.d (.list (.int .i64)) ((List.getD t_6 i_7.toNat ((0:Int),(([]:List Int),())))).2.1],.d (.int .i64) p_10,U,U,U,U,U,U,U,U,U,U,U,U,U,U,U,U,U,U,U,U,U,U,U,U,U,U,U,U,U,U,U,U,U,U,U,U,U,U,U,U,U,U,U,U,U,U,U,U,U,U,U,U,U,U,U,U,U,U,U,U]
def L17_0 (N:Nat) (n_L17_0:Nat) (t_5:Int) (t_6:(List (Int×aE))) (i_7:Int):Out Bool :=
 bS Tryz.prog (ah IU) FW N Tryz.f15 false false .bool [.at 1,.at 1,.at 0,.at 1,.at 0] n_L17_0 [U,.box [.d (.int .i64) t_5,.d ba t_6],U,.d (.int .i64) i_7,U,U,U,U,U,U,U,U,U,U,U,U,U,U,U,U,U,U,U,U,U,U,U,U,U,U,U,U,U,U,U,U,U,U,U,U,U,U,U,U,U,U,U,U,U,U,U,U,U,U,U,U,U,U,U,U,U,U,U,U,U,U]
theorem L17_1_succ (N:Nat) (n_L17_0:Nat) (n_L17_1:Nat) (t_5:Int) (t_6:(List (Int×aE))) (i_7:Int) (p_10:Int):L17_1 N n_L17_0 (n_L17_1+1) t_5 t_6 i_7 p_10 =
 (match (decide (p_10<(ae ((List.getD t_6 i_7.toNat (0,([],())))).2.1))) with|true=>bif (ax p_10 ((List.getD t_6 i_7.toNat (0,([],())))).2.1.length) then match ((List.getD ((List.getD t_6 i_7.toNat (0,([],())))).2.1 p_10.toNat 0) != (-1)) with|true=>bif (ax p_10 ((List.getD t_6 i_7.toNat (0,([],())))).2.1.length) then match f46 ((List.getD ((List.getD t_6 i_7.toNat (0,([],())))).2.1 p_10.toNat 0),()) with | .ret r_11=>(match (!r_11) with|true=>.ret false|false=>L17_1 N n_L17_0 n_L17_1 t_5 t_6 i_7 (IntKind.i64.wrap (p_10+1))) | .pan p=>.pan p | .fail=>.fail else .fail|false=>L17_1 N n_L17_0 n_L17_1 t_5 t_6 i_7 (IntKind.i64.wrap (p_10+1)) else .fail|false=>L17_0 N n_L17_0 t_5 t_6 (IntKind.i64.wrap (i_7+1)):Out Bool):=by kernel_rfl
theorem L17_0_succ (N:Nat) (n_L17_0:Nat) (t_5:Int) (t_6:(List (Int×aE))) (i_7:Int):L17_0 N  (n_L17_0+1) t_5 t_6 i_7 =
 (match (decide (i_7<(ae t_6))) with|true=>bif (ax i_7 t_6.length) then match kT (((List.getD t_6 i_7.toNat (0,([],())))).1,(0,((if (IntKind.i64.wrap (i_7 - 1)) > 0 then (IntKind.i64.wrap (i_7 - 1)) else 0),()))) with | .ret r_8=>(match (!r_8) with|true=>.ret false|false=>match ((ae ((List.getD t_6 i_7.toNat (0,([],())))).2.1) != t_5) with|true=>.ret false|false=>L17_1 N n_L17_0 N t_5 t_6 i_7 0) | .pan p=>.pan p | .fail=>.fail else .fail|false=>.ret true:Out Bool):=by kernel_rfl
def C4 (N:Nat) (x:aS):Out Bool:=match kT (x.1.1,(1,(3,()))) with | .ret r_1=>(match (!r_1) with|true=>.ret false|false=>match kT ((ae x.1.2.1),(1,(8,()))) with | .ret r_3=>(match (!r_3) with|true=>.ret false|false=>L17_0 N N x.1.1 x.1.2.1 0) | .pan p=>.pan p | .fail=>.fail) | .pan p=>.pan p | .fail=>.fail
def f17 (x:aS):Out Bool:=C4 fuel x
def IY:List Spec:=[IA]
def F0:List (Nat×List Nat):=[(4,[1,2,5]),(9,[1,2,5,6])]
def L32_1 (N:Nat) (n_L32_0:Nat) (n_L32_1:Nat) (x:cG) (i_1:Int) (p_2:Int):Out Bool :=
 bS Tryz.prog (ah IY) F0 N Tryz.f25 false false .bool [.at 1,.at 1,.at 0,.at 1,.at 0,.at n_L32_0,.at 1,.at 0,.at 0,.at 1,.at 1,.at 0] n_L32_1 [U,.d be x.2.1,.box [.d (.int .i64) x.1.1,.d ba x.1.2.1],U,U,.d (.int .i64) i_1,.d (.int .i64) p_2,U,U,U,U,U,U,U,U,U,U,U,U,U,U,U,U,U,U,U,U,U,U,U,U,U,U,U,U,U,U,U,U,U,U,U,U,U,U,U,U,U,U,U,U,U,U,U,U,U,U,U,U,U,U,U,U,U,U,U,U,U,U,U,U,U,U]
def L32_0 (N:Nat) (n_L32_0:Nat) (x:cG) (i_1:Int):Out Bool :=
 bS Tryz.prog (ah IY) F0 N Tryz.f25 false false .bool [.at 1,.at 1,.at 0,.at 1,.at 0] n_L32_0 [U,.d be x.2.1,.box [.d (.int .i64) x.1.1,.d ba x.1.2.1],U,U,.d (.int .i64) i_1,U,U,U,U,U,U,U,U,U,U,U,U,U,U,U,U,U,U,U,U,U,U,U,U,U,U,U,U,U,U,U,U,U,U,U,U,U,U,U,U,U,U,U,U,U,U,U,U,U,U,U,U,U,U,U,U,U,U,U,U,U,U,U,U,U,U,U]
theorem L32_1_succ (N:Nat) (n_L32_0:Nat) (n_L32_1:Nat) (x:cG) (i_1:Int) (p_2:Int):L32_1 N n_L32_0 (n_L32_1+1) x i_1 p_2 =
 (match (decide (p_2<x.1.1)) with|true=>bif (ax i_1 x.2.1.length) then bif (ax p_2 (List.getD x.2.1 i_1.toNat []).length) then match f46 ((List.getD (List.getD x.2.1 i_1.toNat []) p_2.toNat 0),()) with | .ret r_3=>(match (!r_3) with|true=>.ret false|false=>bif (ax i_1 x.1.2.1.length) then bif (ax p_2 ((List.getD x.1.2.1 i_1.toNat (0,([],())))).2.1.length) then match (decide ((List.getD ((List.getD x.1.2.1 i_1.toNat (0,([],())))).2.1 p_2.toNat 0) >= 0)) with|true=>bif (ax i_1 x.2.1.length) then bif (ax p_2 (List.getD x.2.1 i_1.toNat []).length) then bif (ax i_1 x.1.2.1.length) then bif (ax p_2 ((List.getD x.1.2.1 i_1.toNat (0,([],())))).2.1.length) then match ((List.getD (List.getD x.2.1 i_1.toNat []) p_2.toNat 0) != (List.getD ((List.getD x.1.2.1 i_1.toNat (0,([],())))).2.1 p_2.toNat 0)) with|true=>.ret false|false=>L32_1 N n_L32_0 n_L32_1 x i_1 (IntKind.i64.wrap (p_2+1)) else .fail else .fail else .fail else .fail|false=>L32_1 N n_L32_0 n_L32_1 x i_1 (IntKind.i64.wrap (p_2+1)) else .fail else .fail) | .pan p=>.pan p | .fail=>.fail else .fail else .fail|false=>L32_0 N n_L32_0 x (IntKind.i64.wrap (i_1+1)):Out Bool):=by kernel_rfl
theorem L32_0_succ (N:Nat) (n_L32_0:Nat) (x:cG) (i_1:Int):L32_0 N  (n_L32_0+1) x i_1 =
 (match (decide (i_1<(ae x.2.1))) with|true=>bif (ax i_1 x.2.1.length) then match ((ae (List.getD x.2.1 i_1.toNat [])) != x.1.1) with|true=>.ret false|false=>L32_1 N n_L32_0 N x i_1 0 else .fail|false=>.ret true:Out Bool):=by kernel_rfl
def C7 (N:Nat) (x:cG):Out Bool:=match ((ae x.2.1) != (ae x.1.2.1)) with|true=>.ret false|false=>L32_0 N N x 0
def f32 (x:cG):Out Bool:=C7 fuel x
def BC:List Spec:=[IL,uN,IM]
def zf:List (Nat×List Nat):=[(3,[1,3,4]),(7,[1,3,4,5,6])]
def L54_0 (N:Nat) (n_L54_0:Nat) (x:aS) (rows_3:(List (List UInt8))) (i_4:Int):Out (List UInt8) :=
 bS Tryz.prog (ah BC) zf N Tryz.f40 false false .str [.at 1,.at 1,.at 0,.at 1,.at 0] n_L54_0 [U,.box [.d (.int .i64) x.1.1,.d ba x.1.2.1],U,.own .str rows_3 false,.d (.int .i64) i_4,U,U,U,U,U,U,U,U,U,U,U,U,U,U,U,U,U,U,U,U,U,U,U,U,U,U,U,U,U,U,U,U,U,U,U,U,U,U,U,U,U,U,U,U,U,U,U,U,U,U,U,U,U,U,U,U,U,U,U,U,U,U,U,U]
def C_ (N:Nat) (x:aS):Out (List UInt8):=match f91 (([99,111,112,105,101,115]:List UInt8),(([x.1.1]:List Int),())) with | .ret r_1=>L54_0 N N x ([r_1]:List (List UInt8)) 0 | .pan p=>.pan p | .fail=>.fail
theorem Og (N:Nat) (x:aS):aW Tryz.prog (ah BC) zf N Tryz.f40 false false cB .str x=C_ N x:=by kernel_rfl
def f54 (x:aS):Out (List UInt8):=C_ fuel x
def V0:Spec:=⟨40,.call,cB,.str,false,false,f54⟩
theorem MB:am Tryz.prog V0:=bi (l:=BC) (arg:=cB) (res:=.str) (multi:=false) (own:=false) (F:=f54) mixed (all_cons ML (all_cons xY (all_cons MM aO))) Tryz.func40 rfl zf fun x _=>⟨fuel,Og fuel x⟩
def uS:List Spec:=[rq,rk]
def tO:List (Nat×List Nat):=[(4,[2,15,16,17]),(9,[2,5,15,16,17,27,28,29])]
def L68_1 (N:Nat) (n_L68_0:Nat) (n_L68_1:Nat) (x:cG) (t17_1:Int) (t29_2:Int):Out Bool :=
 bS Tryz.prog (ah uS) tO N Tryz.f65 false false .bool [.at 1,.at 1,.at 0,.at 1,.at 0,.at n_L68_0,.at 1,.at 1,.at 0,.at 0,.at 1,.at 1,.at 1,.at 0] n_L68_1 [U,U,.box [.d (.int .i64) x.1.1,.d ba x.1.2.1],U,U,.d (.int .i64) t17_1,U,U,U,U,U,U,U,U,U,.d be x.2.1,.d (.int .i64) (ae x.2.1),.d (.int .i64) t17_1,U,U,U,U,U,U,U,U,U,.d (.list (.int .i64)) (List.getD x.2.1 t17_1.toNat ([]:List Int)),.d (.int .i64) (ae (List.getD x.2.1 t17_1.toNat ([]:List Int))),.d (.int .i64) t29_2,U,U,U,U,U,U,U,U,U,U,U,U,U,U,U,U,U]
def L68_0 (N:Nat) (n_L68_0:Nat) (x:cG) (t17_1:Int):Out Bool :=
 bS Tryz.prog (ah uS) tO N Tryz.f65 false false .bool [.at 1,.at 1,.at 0,.at 1,.at 0] n_L68_0 [U,U,.box [.d (.int .i64) x.1.1,.d ba x.1.2.1],U,U,U,U,U,U,U,U,U,U,U,U,.d be x.2.1,.d (.int .i64) (ae x.2.1),.d (.int .i64) t17_1,U,U,U,U,U,U,U,U,U,U,U,U,U,U,U,U,U,U,U,U,U,U,U,U,U,U,U,U,U]
theorem L68_1_succ (N:Nat) (n_L68_0:Nat) (n_L68_1:Nat) (x:cG) (t17_1:Int) (t29_2:Int):L68_1 N n_L68_0 (n_L68_1+1) x t17_1 t29_2 =
 (match (decide (t29_2<(ae (List.getD x.2.1 t17_1.toNat [])))) with|true=>bif (ax t29_2 (List.getD x.2.1 t17_1.toNat []).length) then match f80 ((List.getD (List.getD x.2.1 t17_1.toNat []) t29_2.toNat 0),()) with | .ret r_3=>(match (!r_3) with|true=>.ret false|false=>match je (x.1,(t17_1,(t29_2,((List.getD (List.getD x.2.1 t17_1.toNat []) t29_2.toNat 0),())))) with | .ret r_5=>(match (!r_5) with|true=>.ret false|false=>L68_1 N n_L68_0 n_L68_1 x t17_1 (IntKind.i64.wrap (t29_2+1))) | .pan p=>.pan p | .fail=>.fail) | .pan p=>.pan p | .fail=>.fail else .fail|false=>L68_0 N n_L68_0 x (IntKind.i64.wrap (t17_1+1)):Out Bool):=by kernel_rfl
theorem L68_0_succ (N:Nat) (n_L68_0:Nat) (x:cG) (t17_1:Int):L68_0 N  (n_L68_0+1) x t17_1 =
 (match (decide (t17_1<(ae x.2.1))) with|true=>bif (ax t17_1 x.2.1.length) then match ((ae (List.getD x.2.1 t17_1.toNat [])) != x.1.1) with|true=>.ret false|false=>L68_1 N n_L68_0 N x t17_1 0 else .fail|false=>.ret true:Out Bool):=by kernel_rfl
def wR (N:Nat) (x:cG):Out Bool:=match ((ae x.2.1) != (ae x.1.2.1)) with|true=>.ret false|false=>L68_0 N N x 0
theorem pi (N:Nat) (x:cG):aW Tryz.prog (ah uS) tO N Tryz.f65 false false ef .bool x=wR N x:=by kernel_rfl
def im (x:cG):Out Bool:=wR fuel x
def uL:Spec:=⟨65,.call,ef,.bool,false,false,im⟩
theorem sR:am Tryz.prog uL:=bi (l:=uS) (arg:=ef) (res:=.bool) (multi:=false) (own:=false) (F:=im) mixed (all_cons sU (all_cons sM aO)) Tryz.func65 rfl tO fun x _=>⟨fuel,pi fuel x⟩
def rz:List Spec:=[Im]
def qh:List (Nat×List Nat):=[]
def De (N:Nat) (x:iE):Out Bool:=match pq (x.1,((Value.func (.func 96) #[] #[]),())) with | .ret r_1=>.ret (decide (r_1 >= 0)) | .pan p=>.pan p | .fail=>.fail
theorem OD (N:Nat) (x:iE):aW Tryz.prog (ah rz) qh N Tryz.f57 false false eZ .bool (x.1,(Value.func (.func 96) #[] #[]),())=De N x:=by kernel_rfl
@[irreducible] def mP (x:iE):Out Bool:=aW Tryz.prog (ah rz) qh fuel Tryz.f57 false false eZ .bool x
def IH:Spec:=⟨57,.call,eZ,.bool,false,false,mP⟩
theorem HF (x:iE):aW Tryz.prog (ah rz) qh fuel Tryz.f57 false false eZ .bool x=mP x:=by kernel_rfl
theorem MH:am Tryz.prog IH:=bi (l:=rz) (arg:=eZ) (res:=.bool) (multi:=false) (own:=false) (F:=mP) mixed (all_cons LO aO) Tryz.func57 rfl qh fun x _=>⟨fuel,HF x⟩
def Br:List Spec:=[It,Iu,uI,Iv]
def yV:List (Nat×List Nat):=[(3,[3,16,17,18]),(9,[3,6,30,31,32]),(12,[3,6,7,8,30,31,32,38,39])]
def L115_0 (N:Nat) (n_L115_0:Nat) (x:aS) (rows_3:(List (List UInt8))) (t18_4:Int):Out (List UInt8) :=
 bS Tryz.prog (ah Br) yV N Tryz.f73 false false .str [.at 1,.at 1,.at 0,.at 1,.at 0] n_L115_0 [U,U,U,.own .str rows_3 false,U,U,U,U,U,U,U,U,U,U,U,U,.d ba x.1.2.1,.d (.int .i64) (ae x.1.2.1),.d (.int .i64) t18_4,U,U,U,U,U,U,U,U,U,U,U,U,U,U,U,U,U,U,U,U,U,U,U,U,U,U,U,U,U,U,U,U,U,U,U,U,U,U,U,U,U,U,U,U,U,U,U,U,U,U,U,U,U,U,U,U,U,U]
def CQ (N:Nat) (x:aS):Out (List UInt8):=match yx (x.1.1,()) with | .ret r_1=>L115_0 N N x ([r_1]:List (List UInt8)) 0 | .pan p=>.pan p | .fail=>.fail
theorem NO (N:Nat) (x:aS):aW Tryz.prog (ah Br) yV N Tryz.f73 false false cB .str x=CQ N x:=by kernel_rfl
def f115 (x:aS):Out (List UInt8):=CQ fuel x
def Ir:Spec:=⟨73,.call,cB,.str,false,false,f115⟩
theorem D8:am Tryz.prog Ir:=bi (l:=Br) (arg:=cB) (res:=.str) (multi:=false) (own:=false) (F:=f115) mixed (all_cons LR (all_cons LS (all_cons xU (all_cons LW aO)))) Tryz.func73 rfl yV fun x _=>⟨fuel,NO fuel x⟩
def BD:List Spec:=[rr,IH]
def zg:List (Nat×List Nat):=[(4,[1,17,18,19])]
def L55_0 (N:Nat) (n_L55_0:Nat) (x:aS) (t_5:Int) (t_6:(List (Int×aE))) (t19_7:Int):Out Bool :=
 bS Tryz.prog (ah BD) zg N Tryz.f54 false false .bool [.at 1,.at 1,.at 0,.at 1,.at 0] n_L55_0 [U,.box [.d (.int .i64) t_5,.d ba t_6],U,U,U,U,U,U,U,U,U,U,U,U,U,U,U,.d ba x.1.2.1,.d (.int .i64) (ae x.1.2.1),.d (.int .i64) t19_7,U,U,U,U,U,U,U,U,U,U,U,U,U,U,U,U,U,U,U,U,U,U,U,U,U]
theorem L55_0_succ (N:Nat) (n_L55_0:Nat) (x:aS) (t_5:Int) (t_6:(List (Int×aE))) (t19_7:Int):L55_0 N  (n_L55_0+1) x t_5 t_6 t19_7 =
 (match (decide (t19_7<(ae x.1.2.1))) with|true=>bif (ax t19_7 x.1.2.1.length) then match f94 (((List.getD x.1.2.1 t19_7.toNat (0,([],())))).1,(0,((if (IntKind.i64.wrap (t19_7 - 1)) > 0 then (IntKind.i64.wrap (t19_7 - 1)) else 0),()))) with | .ret r_8=>(match (!r_8) with|true=>.ret false|false=>match ((ae ((List.getD x.1.2.1 t19_7.toNat (0,([],())))).2.1) != t_5) with|true=>.ret false|false=>match mP (((List.getD x.1.2.1 t19_7.toNat (0,([],())))).2.1,((Value.func (.func 96) #[] #[]),())) with | .ret r_10=>(match r_10 with|true=>.ret false|false=>L55_0 N n_L55_0 x t_5 t_6 (IntKind.i64.wrap (t19_7+1))) | .pan p=>.pan p | .fail=>.fail) | .pan p=>.pan p | .fail=>.fail else .fail|false=>.ret true:Out Bool):=by kernel_rfl
def wL (N:Nat) (x:aS):Out Bool:=match f94 (x.1.1,(1,(3,()))) with | .ret r_1=>(match (!r_1) with|true=>.ret false|false=>match f94 ((ae x.1.2.1),(1,(8,()))) with | .ret r_3=>(match (!r_3) with|true=>.ret false|false=>L55_0 N N x x.1.1 x.1.2.1 0) | .pan p=>.pan p | .fail=>.fail) | .pan p=>.pan p | .fail=>.fail
theorem Oh (N:Nat) (x:aS):aW Tryz.prog (ah BD) zg N Tryz.f54 false false cB .bool x=wL N x:=by kernel_rfl
def f55 (x:aS):Out Bool:=wL fuel x
def dr:Spec:=⟨54,.call,cB,.bool,false,false,f55⟩
theorem dh:am Tryz.prog dr:=bi (l:=BD) (arg:=cB) (res:=.bool) (multi:=false) (own:=false) (F:=f55) mixed (all_cons sW (all_cons MH aO)) Tryz.func54 rfl zg fun x _=>⟨fuel,Oh fuel x⟩
def uP:List Spec:=[dr,uL]
def tN:List (Nat×List Nat):=[(5,[1,2,6,20,21,22]),(8,[1,2,6,7,20,21,22,27,28,29])]
def L33_1 (N:Nat) (n_L33_0:Nat) (n_L33_1:Nat) (x:cG) (t22_6:Int) (out_7:(List (Int×(Int×Unit)))) (t29_8:Int):Out lq :=
 bS Tryz.prog (ah uP) tN N Tryz.f35 true false ow [.at 1,.at 1,.at 1,.at 0,.at 1,.at 0,.at n_L33_0,.at 1,.at 1,.at 0,.at 0,.at 1,.at 1,.at 0] n_L33_1 [U,.d be x.2.1,.box [.d (.int .i64) x.1.1,.d ba x.1.2.1],U,U,U,.own eY out_7 false,.d (.int .i64) t22_6,U,U,U,U,U,U,U,U,U,U,U,U,.d be x.2.1,.d (.int .i64) (ae x.2.1),.d (.int .i64) t22_6,U,U,U,U,.d (.list (.int .i64)) (List.getD x.2.1 t22_6.toNat ([]:List Int)),.d (.int .i64) (ae (List.getD x.2.1 t22_6.toNat ([]:List Int))),.d (.int .i64) t29_8,U,U,U,U,U,U,U,U,U,U,U,U,U,U,U,U,U,U,U,U,U,U,U,U,U,U,U,U,U,U,U]
def L33_0 (N:Nat) (n_L33_0:Nat) (x:cG) (out_5:(List (Int×(Int×Unit)))) (t22_6:Int):Out lq :=
 bS Tryz.prog (ah uP) tN N Tryz.f35 true false ow [.at 1,.at 1,.at 1,.at 0,.at 1,.at 0] n_L33_0 [U,.d be x.2.1,.box [.d (.int .i64) x.1.1,.d ba x.1.2.1],U,U,U,.own eY out_5 false,U,U,U,U,U,U,U,U,U,U,U,U,U,.d be x.2.1,.d (.int .i64) (ae x.2.1),.d (.int .i64) t22_6,U,U,U,U,U,U,U,U,U,U,U,U,U,U,U,U,U,U,U,U,U,U,U,U,U,U,U,U,U,U,U,U,U,U,U,U,U,U]
theorem L33_1_succ (N:Nat) (n_L33_0:Nat) (n_L33_1:Nat) (x:cG) (t22_6:Int) (out_7:(List (Int×(Int×Unit)))) (t29_8:Int):L33_1 N n_L33_0 (n_L33_1+1) x t22_6 out_7 t29_8 =
 (match (decide (t29_8<(ae (List.getD x.2.1 t22_6.toNat [])))) with|true=>bif (ax t29_8 (List.getD x.2.1 t22_6.toNat []).length) then match (decide (t22_6 > 0)) with|true=>bif (ax t22_6 x.1.2.1.length) then bif (ax ((List.getD x.1.2.1 t22_6.toNat (0,([],())))).1 x.2.1.length) then bif (ax t29_8 (List.getD x.2.1 ((List.getD x.1.2.1 t22_6.toNat (0,([],())))).1.toNat []).length) then match ((List.getD (List.getD x.2.1 t22_6.toNat []) t29_8.toNat 0) != (List.getD (List.getD x.2.1 ((List.getD x.1.2.1 t22_6.toNat (0,([],())))).1.toNat []) t29_8.toNat 0)) with|true=>bif (bQ out_7 ([(t22_6,(t29_8,()))]:List (Int×(Int×Unit)))) then L33_1 N n_L33_0 n_L33_1 x t22_6 (out_7++([(t22_6,(t29_8,()))]:List (Int×(Int×Unit)))) (IntKind.i64.wrap (t29_8+1)) else .fail|false=>L33_1 N n_L33_0 n_L33_1 x t22_6 out_7 (IntKind.i64.wrap (t29_8+1)) else .fail else .fail else .fail|false=>L33_1 N n_L33_0 n_L33_1 x t22_6 out_7 (IntKind.i64.wrap (t29_8+1)) else .fail|false=>L33_0 N n_L33_0 x out_7 (IntKind.i64.wrap (t22_6+1)):Out lq):=by kernel_rfl
theorem L33_0_succ (N:Nat) (n_L33_0:Nat) (x:cG) (out_5:(List (Int×(Int×Unit)))) (t22_6:Int):L33_0 N  (n_L33_0+1) x out_5 t22_6 =
 (match (decide (t22_6<(ae x.2.1))) with|true=>bif (ax t22_6 x.2.1.length) then L33_1 N n_L33_0 N x t22_6 out_5 0 else .fail|false=>.ret (out_5,(0,())):Out lq):=by kernel_rfl
def wC (N:Nat) (x:cG):Out lq:=match f55 (x.1,()) with | .ret r_1=>(match (!r_1) with|true=>.ret (([]:List (Int×(Int×Unit))),(2,()))|false=>match im (x.1,(x.2.1,())) with | .ret r_3=>(match (!r_3) with|true=>.ret (([]:List (Int×(Int×Unit))),(2,()))|false=>L33_0 N N x ([]:List (Int×(Int×Unit))) 0) | .pan p=>.pan p | .fail=>.fail) | .pan p=>.pan p | .fail=>.fail
theorem N7 (N:Nat) (x:cG):aW Tryz.prog (ah uP) tN N Tryz.f35 true false ef ow x=wC N x:=by kernel_rfl
def kR (x:cG):Out lq:=wC fuel x
def Vq:Spec:=⟨35,.call,ef,ow,true,false,kR⟩
theorem Mf:am Tryz.prog Vq:=bi (l:=uP) (arg:=ef) (res:=ow) (multi:=true) (own:=false) (F:=kR) mixed (all_cons dh (all_cons sR aO)) Tryz.func35 rfl tN fun x _=>⟨fuel,N7 fuel x⟩
end Go.V
end
