/- Part. -/
import Derived.Test.YtmkbnifehdhbbaaGreatDoorDB
set_option linter.all false
noncomputable section
namespace Go.V
open Go.Proofs
def Bi:List Spec:=[dr,lG,fw]
def tt:List (Nat×List Nat):=[]
def BE (s:Option PS):List Spec:=[dr,lG,fw]
def zT:Array Oper:=bp 3 (av Tryz.f15)
def u_:Nat->Option (Nat×(Option PS->St->Bool×Outs HP)):=fun i=>match i with|3=>some (0,ks 20 16 17 18)|4=>some (0,kE 20 18 19)|_=>none
theorem JU:∀ i y,u_ i=some y->bw Tryz.prog HP zT i y.1 y.2:=by
 intro i y h
 unfold u_ at h
 split at h
 . cases h;exact (u4 (i:=3) (by kernel_rfl)).one
 . cases h;exact (Ea (i:=4) (by kernel_rfl)).one
 . cases h
def Df:List (List Nat×HdH HP):=[([1,1,0],⟨fun {ρ} k s st=>cf Tryz.prog HP (fun s=>ah (BE s)) tt u_ 3 zT k s st⟩)]
theorem KX (h:∀ s,∀ sp∈BE s,cT Tryz.prog HP s sp):bG Tryz.prog HP (av Tryz.f15) (Df):=(bJ (c' := .region 3 zT false) (by kernel_rfl) (cr (fun s g sp hs=>h s sp (List.mem_filter.1 hs).1) tt JU) dU)
def vQ (N:Nat) (x:dZ):Out (Option PS×bB):=match f55 (x.1,()) with | .ret r_1=>(match (!r_1) with|true=>.ret (((none:Option PS)),([],(2,())))|false=>match f56 (x.1,(x.2.1,())) with | .ret r_3=>(match (!r_3) with|true=>.ret (((none:Option PS)),([],(2,())))|false=>match f58 (x.1,()) with | .ret r_5=>(eD fun (v_7:Value)=>bif (cK v_7 v_7 && (iF (⟨v_7,kw v_7,r_5,x.2.1⟩:PS) && decide ((r_5).1.2.1.length<100000))) then .ret (((none:Option PS)),(((aF r_5.1 x.2.1)),(0,()))) else .fail) | .pan p_6=>.fail | .fail=>.fail) | .pan p=>.pan p | .fail=>.fail) | .pan p=>.pan p | .fail=>.fail
theorem NF (N:Nat) (x:dZ):cD Tryz.prog HP (ah Bi) tt N (Df) Tryz.f15 true false fy ch ((none:Option PS)) x=vQ N x:=by kernel_rfl
def f15 (x:dZ):Out bB:=dY (vQ fuel x)
def U7:Spec:=⟨15,.call,fy,ch,true,false,f15⟩
theorem LD:am Tryz.prog U7:=jI (H:=HP) (none:Option PS) lZ lW (l:=Bi) (fun sp hs=>(by simp only [Bi,List.mem_cons,List.not_mem_nil,or_false] at hs;rcases hs with rfl|rfl|rfl<;>first|exact dh|exact mp|exact fO)) Tryz.func15 rfl (KX fun s sp hs=>.inl (by simp only [BE,List.mem_cons,List.not_mem_nil,or_false] at hs;rcases hs with rfl|rfl|rfl<;>first|exact dh|exact mp|exact fO)) tt fuel (NF fuel)
def lI:List Spec:=[A8]
def jf:List (Nat×List Nat):=[]
def sk:Code:=match fi [1,1,0,1,0] (av Tryz.f60) with|some c=>c|none=>.skip
theorem KT:∀ sp∈lI,am Tryz.prog sp:=fun sp hs=>(by simp only [lI,List.mem_cons,List.not_mem_nil,or_false] at hs;rcases hs with rfl<;>first|exact xJ)
def uG (s:Option PS):List Spec:=[A8]
def Ab:Array Oper:=bp 1 (av Tryz.f60)
def vy:Nat->Option (Nat×(Option PS->St->Bool×Outs HP)):=fun i=>match i with|2=>some (0,ks 21 9 10 11)|3=>some (0,kE 21 11 12)|_=>none
theorem J9:∀ i y,vy i=some y->bw Tryz.prog HP Ab i y.1 y.2:=by
 intro i y h
 unfold vy at h
 split at h
 . cases h;exact (u4 (i:=2) (by kernel_rfl)).one
 . cases h;exact (Ea (i:=3) (by kernel_rfl)).one
 . cases h
def Ac:Array Oper:=bp 2 (av Tryz.f60)
def vz:Nat->Option (Nat×(Option PS->St->Bool×Outs HP)):=fun i=>match i with|2=>some (0,ks 21 13 14 15)|_=>none
theorem J':∀ i y,vz i=some y->bw Tryz.prog HP Ac i y.1 y.2:=by
 intro i y h
 unfold vz at h
 split at h
 . cases h;exact (u4 (i:=2) (by kernel_rfl)).one
 . cases h
def xe:List (List Nat×HdH HP):=[([1,0],⟨fun {ρ} k s st=>cf Tryz.prog HP (fun s=>ah (uG s)) jf vy 1 Ab k s st⟩),
 ([1,1,0,0],⟨fun {ρ} k s st=>cf Tryz.prog HP (fun s=>ah (uG s)) jf vz 2 Ac k s st⟩),
 ([1,1,0,1,0],⟨fun {ρ} k s st=>nE (ah lI) jf fuel 15 16 (nB sk) (nC sk) k s st⟩)]
theorem K6 (h:∀ s,∀ sp∈uG s,cT Tryz.prog HP s sp):bG Tryz.prog HP (av Tryz.f60) (xe):=(bJ (c' := .region 1 Ab false) (by kernel_rfl) (cr (fun s g sp hs=>h s sp (List.mem_filter.1 hs).1) jf J9) (bJ (c' := .region 2 Ac false) (by kernel_rfl) (cr (fun s g sp hs=>h s sp (List.mem_filter.1 hs).1) jf J') (bJ (c' := .rangeFunc (.tmp 15) #[16] (nB sk) (nC sk)) (by kernel_rfl) (Aw (eK KT) jf fuel 15 16 _ _) dU)))
def R60_0 (N:Nat) (ys_9:List Int) (x:qj) (v_1:Value) (v_2:Value) (t_3:Int) (t_4:(List (Int×aE))) (t_5:(List (List Int))) (t6_6:Int) (l_7:(List Int)):Out (Option PS×Int) :=
 Ca (ah lI) jf N fuel (xe) Tryz.f60 false false (.int .i64) [1,1,0,1,0] ys_9 [.d ef x.1,.d (.int .i64) x.2.1,.d (.int .i64) x.2.2.1,.box [.d (.int .i64) x.1.1.1,.d ba x.1.1.2.1,.d be x.1.2.1],U,U,.box [.d (.int .i64) (0:Int)],.box [.d (.list (.int .i64)) ((aF x.1.1 x.2.1))],U,.d ef x.1,.d (.int .i64) x.2.1,.d .raw v_1,.d (.list (.int .i64)) ((aF x.1.1 x.2.1)),.d ef x.1,.d (.int .i64) x.2.2.1,.d .raw v_2,U,U,U,U,U] [.d ef x.1,.d (.int .i64) x.2.1,.d (.int .i64) x.2.2.1,.box [.d (.int .i64) t_3,.d ba t_4,.d be t_5],U,U,.box [.d (.int .i64) t6_6],.box [.d (.list (.int .i64)) l_7],U,.d ef x.1,.d (.int .i64) x.2.1,.d .raw v_1,.d (.list (.int .i64)) ((aF x.1.1 x.2.1)),.d ef x.1,.d (.int .i64) x.2.2.1,.d .raw v_2,U,U,U,U,U]
theorem R60_0_cons (N:Nat) (y_8:Int) (ys_9:List Int) (x:qj) (v_1:Value) (v_2:Value) (t_3:Int) (t_4:(List (Int×aE))) (t_5:(List (List Int))) (t6_6:Int) (l_7:(List Int)):R60_0 N  (y_8 :: ys_9) x v_1 v_2 t_3 t_4 t_5 t6_6 l_7 =
 (match f98 (l_7,(y_8,())) with | .ret r_10=>(match r_10 with|true=>.ret (((none:Option PS)),y_8)|false=>R60_0 N ys_9 x v_1 v_2 t_3 t_4 t_5 t6_6 l_7) | .pan p_11=>.fail | .fail=>.fail:Out (Option PS×Int)):=by kernel_rfl
def wy (N:Nat) (x:qj):Out (Option PS×Int):=eD fun (v_1:Value)=>bif (cK v_1 v_1 && (iF (⟨v_1,kw v_1,x.1,x.2.1⟩:PS) && decide ((x.1).1.2.1.length<100000))) then eD fun (v_2:Value)=>bif (cK v_2 v_2 && (iF (⟨v_2,kw v_2,x.1,x.2.2.1⟩:PS) && true)) then R60_0 N ((aF x.1.1 x.2.2.1)) x v_1 v_2 x.1.1.1 x.1.1.2.1 x.1.2.1 0 ((aF x.1.1 x.2.1)) else .fail else .fail
theorem N5 (N:Nat) (x:qj):cD Tryz.prog HP (ah lI) jf N (xe) Tryz.f60 false false Ju (.int .i64) ((none:Option PS)) x=wy N x:=by kernel_rfl
def f60 (x:qj):Out Int:=dY (wy fuel x)
def uu:Spec:=⟨60,.call,Ju,(.int .i64),false,false,f60⟩
theorem xF:am Tryz.prog uu:=jI (H:=HP) (none:Option PS) lZ lW (l:=lI) (fun sp hs=>(by simp only [lI,List.mem_cons,List.not_mem_nil,or_false] at hs;rcases hs with rfl<;>first|exact xJ)) Tryz.func60 rfl (K6 fun s sp hs=>.inl (by simp only [uG,List.mem_cons,List.not_mem_nil,or_false] at hs;rcases hs with rfl<;>first|exact xJ)) jf fuel (N5 fuel)
def ID:List Spec:=[dr,lG,fw,uu]
def FF:List (Nat×List Nat):=[]
def vR (N:Nat) (x:eV):Out (Int×(Int×Unit)):=match f55 (x.1,()) with | .ret r_1=>(match (!r_1) with|true=>.ret (0,(2,()))|false=>match f56 (x.1,(x.2.1,())) with | .ret r_3=>(match (!r_3) with|true=>.ret (0,(2,()))|false=>match f56 (x.1,(x.2.2.1,())) with | .ret r_5=>(match (!r_5) with|true=>.ret (0,(2,()))|false=>match f58 (x.1,()) with | .ret r_7=>(match f60 (r_7,(x.2.1,(x.2.2.1,()))) with | .ret r_9=>.ret (r_9,(0,())) | .pan p=>.pan p | .fail=>.fail) | .pan p=>.pan p | .fail=>.fail) | .pan p=>.pan p | .fail=>.fail) | .pan p=>.pan p | .fail=>.fail) | .pan p=>.pan p | .fail=>.fail
theorem NG (N:Nat) (x:eV):aW Tryz.prog (ah ID) FF N Tryz.f16 true false iM eY x=vR N x:=by kernel_rfl
def f16 (x:eV):Out (Int×(Int×Unit)):=vR fuel x
def U8:Spec:=⟨16,.call,iM,eY,true,false,f16⟩
theorem LF:am Tryz.prog U8:=bi (l:=ID) (arg:=iM) (res:=eY) (multi:=true) (own:=false) (F:=f16) mixed (all_cons dh (all_cons mp (all_cons fO (all_cons xF aO)))) Tryz.func16 rfl FF fun x _=>⟨fuel,NG fuel x⟩
def Bw:List Spec:=[uu,qR]
def yW:List (Nat×List Nat):=[(3,[1,2,3,4,8,14,15])]
def L83_0 (N:Nat) (n_L83_0:Nat) (x:qi) (wrong_1:Int) (t15_2:Int):Out Unit :=
 bS Tryz.prog (ah Bw) yW N Tryz.f83 true false .unit [.at 1,.at 1,.at 1,.at 0] n_L83_0 [U,.d (.int .i64) x.2.1,.d (.int .i64) x.2.2.1,.d (.int .i64) x.2.2.2.1,.box [.d (.int .i64) x.1.1.1,.d ba x.1.1.2.1,.d be x.1.2.1],U,U,U,.d (.int .i64) wrong_1,U,U,U,U,U,.d (.int .i64) (ae x.1.1.2.1),.d (.int .i64) t15_2,U,U,U,U,U,U,U,U,U,U,U,U,U,U,U,U,U,U,U,U,U,U,U,U,U,U,U,U,U,U,U,U,U,U,U,U,U,U,U,U,U,U,U,U,U,U,U,U,U,U,U]
theorem L83_0_succ (N:Nat) (n_L83_0:Nat) (x:qi) (wrong_1:Int) (t15_2:Int):L83_0 N  (n_L83_0+1) x wrong_1 t15_2 =
 (match (decide (t15_2<(ae x.1.1.2.1))) with|true=>bif (ax t15_2 x.1.1.2.1.length) then bif (ax x.2.2.1 ((List.getD x.1.1.2.1 t15_2.toNat (0,([],())))).2.1.length) then match f60 (x.1,(t15_2,(x.2.1,()))) with | .ret r_3=>(match (r_3 != x.2.1) with|true=>(match f106 (x.1.1,(t15_2,(x.2.2.1,(x.2.2.2.1,())))) with | .ret r_5=>(match (!r_5) with|true=>.pan (.iface 133 (aP (.prod (.int .i64) .unit) ((cC (.prod (.int .i64) .unit) (t15_2,())).getD [])))|false=>L83_0 N n_L83_0 x wrong_1 (IntKind.i64.wrap (t15_2+1))) | .pan p=>.pan p | .fail=>.fail)|false=>match ((List.getD ((List.getD x.1.1.2.1 t15_2.toNat (0,([],())))).2.1 x.2.2.1.toNat 0)==x.2.2.2.1) with|true=>.pan (.iface 133 (aP (.prod (.int .i64) .unit) ((cC (.prod (.int .i64) .unit) (t15_2,())).getD [])))|false=>match ((List.getD ((List.getD x.1.1.2.1 t15_2.toNat (0,([],())))).2.1 x.2.2.1.toNat 0) != (-1)) with|true=>(match (wrong_1 != (-1)) with|true=>(match ((List.getD ((List.getD x.1.1.2.1 t15_2.toNat (0,([],())))).2.1 x.2.2.1.toNat 0) != wrong_1) with|true=>.pan (.iface 133 (aP (.prod (.int .i64) .unit) ((cC (.prod (.int .i64) .unit) (t15_2,())).getD [])))|false=>L83_0 N n_L83_0 x (if (List.getD ((List.getD x.1.1.2.1 t15_2.toNat (0,([],())))).2.1 x.2.2.1.toNat 0) > wrong_1 then (List.getD ((List.getD x.1.1.2.1 t15_2.toNat (0,([],())))).2.1 x.2.2.1.toNat 0) else wrong_1) (IntKind.i64.wrap (t15_2+1)))|false=>L83_0 N n_L83_0 x (if (List.getD ((List.getD x.1.1.2.1 t15_2.toNat (0,([],())))).2.1 x.2.2.1.toNat 0) > wrong_1 then (List.getD ((List.getD x.1.1.2.1 t15_2.toNat (0,([],())))).2.1 x.2.2.1.toNat 0) else wrong_1) (IntKind.i64.wrap (t15_2+1)))|false=>L83_0 N n_L83_0 x (if (List.getD ((List.getD x.1.1.2.1 t15_2.toNat (0,([],())))).2.1 x.2.2.1.toNat 0) > wrong_1 then (List.getD ((List.getD x.1.1.2.1 t15_2.toNat (0,([],())))).2.1 x.2.2.1.toNat 0) else wrong_1) (IntKind.i64.wrap (t15_2+1))) | .pan p=>.pan p | .fail=>.fail else .fail else .fail|false=>.ret ():Out Unit):=by kernel_rfl
def wJ (N:Nat) (x:qi):Out Unit:=L83_0 N N x (-1) 0
theorem Oh (N:Nat) (x:qi):aW Tryz.prog (ah Bw) yW N Tryz.f83 true false B2 .unit x=wJ N x:=by kernel_rfl
def f83 (x:qi):Out Unit:=wJ fuel x
def A6:Spec:=⟨83,.call,B2,.unit,true,false,f83⟩
theorem Mq:am Tryz.prog A6:=bi (l:=Bw) (arg:=B2) (res:=.unit) (multi:=true) (own:=false) (F:=f83) mixed (all_cons xF (all_cons sg aO)) Tryz.func83 rfl yW fun x _=>⟨fuel,Oh fuel x⟩
end Go.V
end
