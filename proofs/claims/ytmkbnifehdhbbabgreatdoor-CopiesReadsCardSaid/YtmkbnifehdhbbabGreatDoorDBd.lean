/- Part. -/
import Derived.Test.YtmkbnifehdhbbabGreatDoorDB
set_option linter.all false
noncomputable section
namespace Go.V
open Go.Proofs
def Bw:List Spec:=[dr,lW,fw]
def tM:List (Nat×List Nat):=[]
def BS (s:Option PS):List Spec:=[dr,lW,fw]
def Ag:Array Oper:=bp 3 (av Tryz.f43)
def vz:Nat->Option (Nat×(Option PS->St->Bool×Outs HP)):=fun i=>match i with|3=>some (0,kz 20 16 17 18)|4=>some (0,kJ 20 18 19)|_=>none
theorem J':∀ i y,vz i=some y->bw Tryz.prog HP Ag i y.1 y.2:=by
 intro i y h
 unfold vz at h
 split at h
 . cases h;exact (vu (i:=3) (by kernel_rfl)).one
 . cases h;exact (Eo (i:=4) (by kernel_rfl)).one
 . cases h
def Dt:List (List Nat×HdH HP):=[([1,1,0],⟨fun {ρ} k s st=>cf Tryz.prog HP (fun s=>ah (BS s)) tM vz 3 Ag k s st⟩)]
theorem Lb (h:∀ s,∀ sp∈BS s,cT Tryz.prog HP s sp):bG Tryz.prog HP (av Tryz.f43) (Dt):=(bJ (c' := .region 3 Ag false) (by kernel_rfl) (cr (fun s g sp hs=>h s sp (List.mem_filter.1 hs).1) tM J') dU)
def wq (N:Nat) (x:dZ):Out (Option PS×bB):=match f55 (x.1,()) with | .ret r_1=>(match (!r_1) with|true=>.ret (((none:Option PS)),([],(2,())))|false=>match f56 (x.1,(x.2.1,())) with | .ret r_3=>(match (!r_3) with|true=>.ret (((none:Option PS)),([],(2,())))|false=>match f58 (x.1,()) with | .ret r_5=>(eD fun (v_7:Value)=>bif (cK v_7 v_7 && (iI (⟨v_7,kE v_7,r_5,x.2.1⟩:PS) && decide ((r_5).1.2.1.length<100000))) then .ret (((none:Option PS)),(((aF r_5.1 x.2.1)),(0,()))) else .fail) | .pan p_6=>.fail | .fail=>.fail) | .pan p=>.pan p | .fail=>.fail) | .pan p=>.pan p | .fail=>.fail
theorem NV (N:Nat) (x:dZ):cD Tryz.prog HP (ah Bw) tM N (Dt) Tryz.f43 true false fy ch ((none:Option PS)) x=wq N x:=by kernel_rfl
def f15 (x:dZ):Out bB:=dY (wq fuel x)
def Vk:Spec:=⟨43,.call,fy,ch,true,false,f15⟩
theorem LY:am Tryz.prog Vk:=jM (H:=HP) (none:Option PS) mr mq (l:=Bw) (fun sp hs=>(by simp only [Bw,List.mem_cons,List.not_mem_nil,or_false] at hs;rcases hs with rfl|rfl|rfl<;>first|exact dh|exact mF|exact fO)) Tryz.func43 rfl (Lb fun s sp hs=>.inl (by simp only [BS,List.mem_cons,List.not_mem_nil,or_false] at hs;rcases hs with rfl|rfl|rfl<;>first|exact dh|exact mF|exact fO)) tM fuel (NV fuel)
def lZ:List Spec:=[Bl]
def jj:List (Nat×List Nat):=[]
def sQ:Code:=match fi [1,1,0,1,0] (av Tryz.f59) with|some c=>c|none=>.skip
theorem K9:∀ sp∈lZ,am Tryz.prog sp:=fun sp hs=>(by simp only [lZ,List.mem_cons,List.not_mem_nil,or_false] at hs;rcases hs with rfl<;>first|exact xZ)
def uV (s:Option PS):List Spec:=[Bl]
def Aq:Array Oper:=bp 1 (av Tryz.f59)
def vO:Nat->Option (Nat×(Option PS->St->Bool×Outs HP)):=fun i=>match i with|2=>some (0,kz 21 9 10 11)|3=>some (0,kJ 21 11 12)|_=>none
theorem Ko:∀ i y,vO i=some y->bw Tryz.prog HP Aq i y.1 y.2:=by
 intro i y h
 unfold vO at h
 split at h
 . cases h;exact (vu (i:=2) (by kernel_rfl)).one
 . cases h;exact (Eo (i:=3) (by kernel_rfl)).one
 . cases h
def Au:Array Oper:=bp 2 (av Tryz.f59)
def vP:Nat->Option (Nat×(Option PS->St->Bool×Outs HP)):=fun i=>match i with|2=>some (0,kz 21 13 14 15)|_=>none
theorem Kq:∀ i y,vP i=some y->bw Tryz.prog HP Au i y.1 y.2:=by
 intro i y h
 unfold vP at h
 split at h
 . cases h;exact (vu (i:=2) (by kernel_rfl)).one
 . cases h
def xu:List (List Nat×HdH HP):=[([1,0],⟨fun {ρ} k s st=>cf Tryz.prog HP (fun s=>ah (uV s)) jj vO 1 Aq k s st⟩),
 ([1,1,0,0],⟨fun {ρ} k s st=>cf Tryz.prog HP (fun s=>ah (uV s)) jj vP 2 Au k s st⟩),
 ([1,1,0,1,0],⟨fun {ρ} k s st=>nU (ah lZ) jj fuel 15 16 (nR sQ) (nS sQ) k s st⟩)]
theorem Lk (h:∀ s,∀ sp∈uV s,cT Tryz.prog HP s sp):bG Tryz.prog HP (av Tryz.f59) (xu):=(bJ (c' := .region 1 Aq false) (by kernel_rfl) (cr (fun s g sp hs=>h s sp (List.mem_filter.1 hs).1) jj Ko) (bJ (c' := .region 2 Au false) (by kernel_rfl) (cr (fun s g sp hs=>h s sp (List.mem_filter.1 hs).1) jj Kq) (bJ (c' := .rangeFunc (.tmp 15) #[16] (nR sQ) (nS sQ)) (by kernel_rfl) (AM (eK K9) jj fuel 15 16 _ _) dU)))
def R60_0 (N:Nat) (ys_9:List Int) (x:qz) (v_1:Value) (v_2:Value) (t_3:Int) (t_4:(List (Int×aE))) (t_5:(List (List Int))) (t6_6:Int) (l_7:(List Int)):Out (Option PS×Int) :=
 Cp (ah lZ) jj N fuel (xu) Tryz.f59 false false (.int .i64) [1,1,0,1,0] ys_9 [.d ef x.1,.d (.int .i64) x.2.1,.d (.int .i64) x.2.2.1,.box [.d (.int .i64) x.1.1.1,.d ba x.1.1.2.1,.d be x.1.2.1],U,U,.box [.d (.int .i64) (0:Int)],.box [.d (.list (.int .i64)) ((aF x.1.1 x.2.1))],U,.d ef x.1,.d (.int .i64) x.2.1,.d .raw v_1,.d (.list (.int .i64)) ((aF x.1.1 x.2.1)),.d ef x.1,.d (.int .i64) x.2.2.1,.d .raw v_2,U,U,U,U,U] [.d ef x.1,.d (.int .i64) x.2.1,.d (.int .i64) x.2.2.1,.box [.d (.int .i64) t_3,.d ba t_4,.d be t_5],U,U,.box [.d (.int .i64) t6_6],.box [.d (.list (.int .i64)) l_7],U,.d ef x.1,.d (.int .i64) x.2.1,.d .raw v_1,.d (.list (.int .i64)) ((aF x.1.1 x.2.1)),.d ef x.1,.d (.int .i64) x.2.2.1,.d .raw v_2,U,U,U,U,U]
theorem R60_0_cons (N:Nat) (y_8:Int) (ys_9:List Int) (x:qz) (v_1:Value) (v_2:Value) (t_3:Int) (t_4:(List (Int×aE))) (t_5:(List (List Int))) (t6_6:Int) (l_7:(List Int)):R60_0 N  (y_8 :: ys_9) x v_1 v_2 t_3 t_4 t_5 t6_6 l_7 =
 (match f98 (l_7,(y_8,())) with | .ret r_10=>(match r_10 with|true=>.ret (((none:Option PS)),y_8)|false=>R60_0 N ys_9 x v_1 v_2 t_3 t_4 t_5 t6_6 l_7) | .pan p_11=>.fail | .fail=>.fail:Out (Option PS×Int)):=by kernel_rfl
def wO (N:Nat) (x:qz):Out (Option PS×Int):=eD fun (v_1:Value)=>bif (cK v_1 v_1 && (iI (⟨v_1,kE v_1,x.1,x.2.1⟩:PS) && decide ((x.1).1.2.1.length<100000))) then eD fun (v_2:Value)=>bif (cK v_2 v_2 && (iI (⟨v_2,kE v_2,x.1,x.2.2.1⟩:PS) && true)) then R60_0 N ((aF x.1.1 x.2.2.1)) x v_1 v_2 x.1.1.1 x.1.1.2.1 x.1.2.1 0 ((aF x.1.1 x.2.1)) else .fail else .fail
theorem Ol (N:Nat) (x:qz):cD Tryz.prog HP (ah lZ) jj N (xu) Tryz.f59 false false JL (.int .i64) ((none:Option PS)) x=wO N x:=by kernel_rfl
def f60 (x:qz):Out Int:=dY (wO fuel x)
def uJ:Spec:=⟨59,.call,JL,(.int .i64),false,false,f60⟩
theorem xV:am Tryz.prog uJ:=jM (H:=HP) (none:Option PS) mr mq (l:=lZ) (fun sp hs=>(by simp only [lZ,List.mem_cons,List.not_mem_nil,or_false] at hs;rcases hs with rfl<;>first|exact xZ)) Tryz.func59 rfl (Lk fun s sp hs=>.inl (by simp only [uV,List.mem_cons,List.not_mem_nil,or_false] at hs;rcases hs with rfl<;>first|exact xZ)) jj fuel (Ol fuel)
def IT:List Spec:=[dr,lW,fw,uJ]
def FV:List (Nat×List Nat):=[]
def wu (N:Nat) (x:eV):Out (Int×(Int×Unit)):=match f55 (x.1,()) with | .ret r_1=>(match (!r_1) with|true=>.ret (0,(2,()))|false=>match f56 (x.1,(x.2.1,())) with | .ret r_3=>(match (!r_3) with|true=>.ret (0,(2,()))|false=>match f56 (x.1,(x.2.2.1,())) with | .ret r_5=>(match (!r_5) with|true=>.ret (0,(2,()))|false=>match f58 (x.1,()) with | .ret r_7=>(match f60 (r_7,(x.2.1,(x.2.2.1,()))) with | .ret r_9=>.ret (r_9,(0,())) | .pan p=>.pan p | .fail=>.fail) | .pan p=>.pan p | .fail=>.fail) | .pan p=>.pan p | .fail=>.fail) | .pan p=>.pan p | .fail=>.fail) | .pan p=>.pan p | .fail=>.fail
theorem NW (N:Nat) (x:eV):aW Tryz.prog (ah IT) FV N Tryz.f21 true false iP eY x=wu N x:=by kernel_rfl
def kO (x:eV):Out (Int×(Int×Unit)):=wu fuel x
def Vl:Spec:=⟨21,.call,iP,eY,true,false,kO⟩
theorem L1:am Tryz.prog Vl:=bi (l:=IT) (arg:=iP) (res:=eY) (multi:=true) (own:=false) (F:=kO) mixed (all_cons dh (all_cons mF (all_cons fO (all_cons xV aO)))) Tryz.func21 rfl FV fun x _=>⟨fuel,NW fuel x⟩
def BK:List Spec:=[uJ,rk]
def zk:List (Nat×List Nat):=[(3,[1,2,3,4,8,14,15])]
def L83_0 (N:Nat) (n_L83_0:Nat) (x:qy) (wrong_1:Int) (t15_2:Int):Out Unit :=
 bS Tryz.prog (ah BK) zk N Tryz.f94 true false .unit [.at 1,.at 1,.at 1,.at 0] n_L83_0 [U,.d (.int .i64) x.2.1,.d (.int .i64) x.2.2.1,.d (.int .i64) x.2.2.2.1,.box [.d (.int .i64) x.1.1.1,.d ba x.1.1.2.1,.d be x.1.2.1],U,U,U,.d (.int .i64) wrong_1,U,U,U,U,U,.d (.int .i64) (ae x.1.1.2.1),.d (.int .i64) t15_2,U,U,U,U,U,U,U,U,U,U,U,U,U,U,U,U,U,U,U,U,U,U,U,U,U,U,U,U,U,U,U,U,U,U,U,U,U,U,U,U,U,U,U,U,U,U,U,U,U,U,U]
theorem L83_0_succ (N:Nat) (n_L83_0:Nat) (x:qy) (wrong_1:Int) (t15_2:Int):L83_0 N  (n_L83_0+1) x wrong_1 t15_2 =
 (match (decide (t15_2<(ae x.1.1.2.1))) with|true=>bif (ax t15_2 x.1.1.2.1.length) then bif (ax x.2.2.1 ((List.getD x.1.1.2.1 t15_2.toNat (0,([],())))).2.1.length) then match f60 (x.1,(t15_2,(x.2.1,()))) with | .ret r_3=>(match (r_3 != x.2.1) with|true=>(match je (x.1.1,(t15_2,(x.2.2.1,(x.2.2.2.1,())))) with | .ret r_5=>(match (!r_5) with|true=>.pan (.iface 144 (aP (.prod (.int .i64) .unit) ((cC (.prod (.int .i64) .unit) (t15_2,())).getD [])))|false=>L83_0 N n_L83_0 x wrong_1 (IntKind.i64.wrap (t15_2+1))) | .pan p=>.pan p | .fail=>.fail)|false=>match ((List.getD ((List.getD x.1.1.2.1 t15_2.toNat (0,([],())))).2.1 x.2.2.1.toNat 0)==x.2.2.2.1) with|true=>.pan (.iface 144 (aP (.prod (.int .i64) .unit) ((cC (.prod (.int .i64) .unit) (t15_2,())).getD [])))|false=>match ((List.getD ((List.getD x.1.1.2.1 t15_2.toNat (0,([],())))).2.1 x.2.2.1.toNat 0) != (-1)) with|true=>(match (wrong_1 != (-1)) with|true=>(match ((List.getD ((List.getD x.1.1.2.1 t15_2.toNat (0,([],())))).2.1 x.2.2.1.toNat 0) != wrong_1) with|true=>.pan (.iface 144 (aP (.prod (.int .i64) .unit) ((cC (.prod (.int .i64) .unit) (t15_2,())).getD [])))|false=>L83_0 N n_L83_0 x (if (List.getD ((List.getD x.1.1.2.1 t15_2.toNat (0,([],())))).2.1 x.2.2.1.toNat 0) > wrong_1 then (List.getD ((List.getD x.1.1.2.1 t15_2.toNat (0,([],())))).2.1 x.2.2.1.toNat 0) else wrong_1) (IntKind.i64.wrap (t15_2+1)))|false=>L83_0 N n_L83_0 x (if (List.getD ((List.getD x.1.1.2.1 t15_2.toNat (0,([],())))).2.1 x.2.2.1.toNat 0) > wrong_1 then (List.getD ((List.getD x.1.1.2.1 t15_2.toNat (0,([],())))).2.1 x.2.2.1.toNat 0) else wrong_1) (IntKind.i64.wrap (t15_2+1)))|false=>L83_0 N n_L83_0 x (if (List.getD ((List.getD x.1.1.2.1 t15_2.toNat (0,([],())))).2.1 x.2.2.1.toNat 0) > wrong_1 then (List.getD ((List.getD x.1.1.2.1 t15_2.toNat (0,([],())))).2.1 x.2.2.1.toNat 0) else wrong_1) (IntKind.i64.wrap (t15_2+1))) | .pan p=>.pan p | .fail=>.fail else .fail else .fail|false=>.ret ():Out Unit):=by kernel_rfl
def wY (N:Nat) (x:qy):Out Unit:=L83_0 N N x (-1) 0
theorem OB (N:Nat) (x:qy):aW Tryz.prog (ah BK) zk N Tryz.f94 true false Cf .unit x=wY N x:=by kernel_rfl
def f83 (x:qy):Out Unit:=wY fuel x
def Bj:Spec:=⟨94,.call,Cf,.unit,true,false,f83⟩
theorem MG:am Tryz.prog Bj:=bi (l:=BK) (arg:=Cf) (res:=.unit) (multi:=true) (own:=false) (F:=f83) mixed (all_cons xV (all_cons sM aO)) Tryz.func94 rfl zk fun x _=>⟨fuel,OB fuel x⟩
end Go.V
end
