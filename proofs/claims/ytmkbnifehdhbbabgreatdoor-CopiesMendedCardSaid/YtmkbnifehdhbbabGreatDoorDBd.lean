/- A part of the proof of a law of the copies. -/
import Derived.Test.YtmkbnifehdhbbabGreatDoorDB
set_option linter.all false
noncomputable section
namespace Go.V
open Go.Proofs
def specs15:List Spec:=[sp55,sp56,sp58]
def hints15:List (Nat×List Nat):=[]
def specsQ15 (s:Option PS):List Spec:=[sp55,sp56,sp58]
def r15_3:Array Oper:=regAt 3 (bodyOf Tryz.f43)
def D15_3:Nat->Option (Nat×(Option PS->St->Bool×Outs HP)):=fun i=>match i with|3=>some (0,wayG 20 16 17 18)|4=>some (0,collG 20 18 19)|_=>none
theorem D15_3_ok:∀ i y,D15_3 i=some y->HandQ Tryz.prog HP r15_3 i y.1 y.2:=by
 intro i y h
 unfold D15_3 at h
 split at h
 . cases h;exact (way_ok (i:=3) (by kernel_rfl)).one
 . cases h;exact (coll_ok (i:=4) (by kernel_rfl)).one
 . cases h
def T15:List (List Nat×HdH HP):=[([1,1,0],⟨fun {ρ} k s st=>regQ Tryz.prog HP (fun s=>phi (specsQ15 s)) hints15 D15_3 3 r15_3 k s st⟩)]
theorem allQ15 (h:∀ s,∀ sp∈specsQ15 s,CallH Tryz.prog HP s sp):AllQ Tryz.prog HP (bodyOf Tryz.f43) (T15):=(allQ_cons (c' := .region 3 r15_3 false) (by kernel_rfl) (regQ_ok (fun s g sp hs=>h s sp (List.mem_filter.1 hs).1) hints15 D15_3_ok) allQ_nil)
def F15 (N:Nat) (x:lt4):Out (Option PS×lt2):=match f55 (x.1,()) with | .ret r_1=>(match (!r_1) with|true=>.ret (((none:Option PS)),([],(2,())))|false=>match f56 (x.1,(x.2.1,())) with | .ret r_3=>(match (!r_3) with|true=>.ret (((none:Option PS)),([],(2,())))|false=>match f58 (x.1,()) with | .ret r_5=>(allOf fun (v_7:Value)=>bif (isV v_7 v_7 && (pathB (⟨v_7,bOf v_7,r_5,x.2.1⟩:PS) && decide ((r_5).1.2.1.length<100000))) then .ret (((none:Option PS)),(((pathV r_5.1 x.2.1)),(0,()))) else .fail) | .pan p_6=>.fail | .fail=>.fail) | .pan p=>.pan p | .fail=>.fail) | .pan p=>.pan p | .fail=>.fail
theorem e15 (N:Nat) (x:lt4):vfnQ Tryz.prog HP (phi specs15) hints15 N (T15) Tryz.f43 true false ty6 ty3 ((none:Option PS)) x=F15 N x:=by kernel_rfl
def f15 (x:lt4):Out lt2:=dropG (F15 fuel x)
def sp15:Spec:=⟨43,.call,ty6,ty3,true,false,f15⟩
theorem c15:Contract Tryz.prog sp15:=contract_drop (H:=HP) (none:Option PS) HP_none HP_I_none (l:=specs15) (fun sp hs=>(by simp only [specs15,List.mem_cons,List.not_mem_nil,or_false] at hs;rcases hs with rfl|rfl|rfl<;>first|exact c55|exact c56|exact c58)) Tryz.func43 rfl (allQ15 fun s sp hs=>.inl (by simp only [specsQ15,List.mem_cons,List.not_mem_nil,or_false] at hs;rcases hs with rfl|rfl|rfl<;>first|exact c55|exact c56|exact c58)) hints15 fuel (e15 fuel)
def specs60:List Spec:=[sp98]
def hints60:List (Nat×List Nat):=[]
def c60r:Code:=match codeAt [1,1,0,1,0] (bodyOf Tryz.f59) with|some c=>c|none=>.skip
theorem all60:∀ sp∈specs60,Contract Tryz.prog sp:=fun sp hs=>(by simp only [specs60,List.mem_cons,List.not_mem_nil,or_false] at hs;rcases hs with rfl<;>first|exact c98)
def specsQ60 (s:Option PS):List Spec:=[sp98]
def r60_1:Array Oper:=regAt 1 (bodyOf Tryz.f59)
def D60_1:Nat->Option (Nat×(Option PS->St->Bool×Outs HP)):=fun i=>match i with|2=>some (0,wayG 21 9 10 11)|3=>some (0,collG 21 11 12)|_=>none
theorem D60_1_ok:∀ i y,D60_1 i=some y->HandQ Tryz.prog HP r60_1 i y.1 y.2:=by
 intro i y h
 unfold D60_1 at h
 split at h
 . cases h;exact (way_ok (i:=2) (by kernel_rfl)).one
 . cases h;exact (coll_ok (i:=3) (by kernel_rfl)).one
 . cases h
def r60_2:Array Oper:=regAt 2 (bodyOf Tryz.f59)
def D60_2:Nat->Option (Nat×(Option PS->St->Bool×Outs HP)):=fun i=>match i with|2=>some (0,wayG 21 13 14 15)|_=>none
theorem D60_2_ok:∀ i y,D60_2 i=some y->HandQ Tryz.prog HP r60_2 i y.1 y.2:=by
 intro i y h
 unfold D60_2 at h
 split at h
 . cases h;exact (way_ok (i:=2) (by kernel_rfl)).one
 . cases h
def T60:List (List Nat×HdH HP):=[([1,0],⟨fun {ρ} k s st=>regQ Tryz.prog HP (fun s=>phi (specsQ60 s)) hints60 D60_1 1 r60_1 k s st⟩),
 ([1,1,0,0],⟨fun {ρ} k s st=>regQ Tryz.prog HP (fun s=>phi (specsQ60 s)) hints60 D60_2 2 r60_2 k s st⟩),
 ([1,1,0,1,0],⟨fun {ρ} k s st=>rngE (phi specs60) hints60 fuel 15 16 (rfA c60r) (rfB c60r) k s st⟩)]
theorem allQ60 (h:∀ s,∀ sp∈specsQ60 s,CallH Tryz.prog HP s sp):AllQ Tryz.prog HP (bodyOf Tryz.f59) (T60):=(allQ_cons (c' := .region 1 r60_1 false) (by kernel_rfl) (regQ_ok (fun s g sp hs=>h s sp (List.mem_filter.1 hs).1) hints60 D60_1_ok) (allQ_cons (c' := .region 2 r60_2 false) (by kernel_rfl) (regQ_ok (fun s g sp hs=>h s sp (List.mem_filter.1 hs).1) hints60 D60_2_ok) (allQ_cons (c' := .rangeFunc (.tmp 15) #[16] (rfA c60r) (rfB c60r)) (by kernel_rfl) (rngE_ok (phi_ok all60) hints60 fuel 15 16 _ _) allQ_nil)))
def R60_0 (N:Nat) (ys_9:List Int) (x:lt21) (v_1:Value) (v_2:Value) (t_3:Int) (t_4:(List (Int×lt0))) (t_5:(List (List Int))) (t6_6:Int) (l_7:(List Int)):Out (Option PS×Int) :=
 vrngQ (phi specs60) hints60 N fuel (T60) Tryz.f59 false false (.int .i64) [1,1,0,1,0] ys_9 [.d ty4 x.1,.d (.int .i64) x.2.1,.d (.int .i64) x.2.2.1,.box [.d (.int .i64) x.1.1.1,.d ty0 x.1.1.2.1,.d ty1 x.1.2.1],U,U,.box [.d (.int .i64) (0:Int)],.box [.d (.list (.int .i64)) ((pathV x.1.1 x.2.1))],U,.d ty4 x.1,.d (.int .i64) x.2.1,.d .raw v_1,.d (.list (.int .i64)) ((pathV x.1.1 x.2.1)),.d ty4 x.1,.d (.int .i64) x.2.2.1,.d .raw v_2,U,U,U,U,U] [.d ty4 x.1,.d (.int .i64) x.2.1,.d (.int .i64) x.2.2.1,.box [.d (.int .i64) t_3,.d ty0 t_4,.d ty1 t_5],U,U,.box [.d (.int .i64) t6_6],.box [.d (.list (.int .i64)) l_7],U,.d ty4 x.1,.d (.int .i64) x.2.1,.d .raw v_1,.d (.list (.int .i64)) ((pathV x.1.1 x.2.1)),.d ty4 x.1,.d (.int .i64) x.2.2.1,.d .raw v_2,U,U,U,U,U]
theorem R60_0_cons (N:Nat) (y_8:Int) (ys_9:List Int) (x:lt21) (v_1:Value) (v_2:Value) (t_3:Int) (t_4:(List (Int×lt0))) (t_5:(List (List Int))) (t6_6:Int) (l_7:(List Int)):R60_0 N  (y_8 :: ys_9) x v_1 v_2 t_3 t_4 t_5 t6_6 l_7 =
 (match f98 (l_7,(y_8,())) with | .ret r_10=>(match r_10 with|true=>.ret (((none:Option PS)),y_8)|false=>R60_0 N ys_9 x v_1 v_2 t_3 t_4 t_5 t6_6 l_7) | .pan p_11=>.fail | .fail=>.fail:Out (Option PS×Int)):=by kernel_rfl
def F60 (N:Nat) (x:lt21):Out (Option PS×Int):=allOf fun (v_1:Value)=>bif (isV v_1 v_1 && (pathB (⟨v_1,bOf v_1,x.1,x.2.1⟩:PS) && decide ((x.1).1.2.1.length<100000))) then allOf fun (v_2:Value)=>bif (isV v_2 v_2 && (pathB (⟨v_2,bOf v_2,x.1,x.2.2.1⟩:PS) && true)) then R60_0 N ((pathV x.1.1 x.2.2.1)) x v_1 v_2 x.1.1.1 x.1.1.2.1 x.1.2.1 0 ((pathV x.1.1 x.2.1)) else .fail else .fail
theorem e60 (N:Nat) (x:lt21):vfnQ Tryz.prog HP (phi specs60) hints60 N (T60) Tryz.f59 false false ty40 (.int .i64) ((none:Option PS)) x=F60 N x:=by kernel_rfl
def f60 (x:lt21):Out Int:=dropG (F60 fuel x)
def sp60:Spec:=⟨59,.call,ty40,(.int .i64),false,false,f60⟩
theorem c60:Contract Tryz.prog sp60:=contract_drop (H:=HP) (none:Option PS) HP_none HP_I_none (l:=specs60) (fun sp hs=>(by simp only [specs60,List.mem_cons,List.not_mem_nil,or_false] at hs;rcases hs with rfl<;>first|exact c98)) Tryz.func59 rfl (allQ60 fun s sp hs=>.inl (by simp only [specsQ60,List.mem_cons,List.not_mem_nil,or_false] at hs;rcases hs with rfl<;>first|exact c98)) hints60 fuel (e60 fuel)
def specs16:List Spec:=[sp55,sp56,sp58,sp60]
def hints16:List (Nat×List Nat):=[]
def F16 (N:Nat) (x:lt6):Out (Int×(Int×Unit)):=match f55 (x.1,()) with | .ret r_1=>(match (!r_1) with|true=>.ret (0,(2,()))|false=>match f56 (x.1,(x.2.1,())) with | .ret r_3=>(match (!r_3) with|true=>.ret (0,(2,()))|false=>match f56 (x.1,(x.2.2.1,())) with | .ret r_5=>(match (!r_5) with|true=>.ret (0,(2,()))|false=>match f58 (x.1,()) with | .ret r_7=>(match f60 (r_7,(x.2.1,(x.2.2.1,()))) with | .ret r_9=>.ret (r_9,(0,())) | .pan p=>.pan p | .fail=>.fail) | .pan p=>.pan p | .fail=>.fail) | .pan p=>.pan p | .fail=>.fail) | .pan p=>.pan p | .fail=>.fail) | .pan p=>.pan p | .fail=>.fail
theorem e16 (N:Nat) (x:lt6):vfn Tryz.prog (phi specs16) hints16 N Tryz.f21 true false ty9 ty5 x=F16 N x:=by kernel_rfl
def f16 (x:lt6):Out (Int×(Int×Unit)):=F16 fuel x
def sp16:Spec:=⟨21,.call,ty9,ty5,true,false,f16⟩
theorem c16:Contract Tryz.prog sp16:=contract_at (l:=specs16) (arg:=ty9) (res:=ty5) (multi:=true) (own:=false) (F:=f16) mixed (all_cons c55 (all_cons c56 (all_cons c58 (all_cons c60 all_nil)))) Tryz.func21 rfl hints16 fun x _=>⟨fuel,e16 fuel x⟩
def specs83:List Spec:=[sp60,sp106]
def hints83:List (Nat×List Nat):=[(3,[1,2,3,4,8,14,15])]
def L83_0 (N:Nat) (n_L83_0:Nat) (x:lt20) (wrong_1:Int) (t15_2:Int):Out Unit :=
 vloop Tryz.prog (phi specs83) hints83 N Tryz.f94 true false .unit [.at 1,.at 1,.at 1,.at 0] n_L83_0 [U,.d (.int .i64) x.2.1,.d (.int .i64) x.2.2.1,.d (.int .i64) x.2.2.2.1,.box [.d (.int .i64) x.1.1.1,.d ty0 x.1.1.2.1,.d ty1 x.1.2.1],U,U,U,.d (.int .i64) wrong_1,U,U,U,U,U,.d (.int .i64) (lenI x.1.1.2.1),.d (.int .i64) t15_2,U,U,U,U,U,U,U,U,U,U,U,U,U,U,U,U,U,U,U,U,U,U,U,U,U,U,U,U,U,U,U,U,U,U,U,U,U,U,U,U,U,U,U,U,U,U,U,U,U,U,U]
theorem L83_0_succ (N:Nat) (n_L83_0:Nat) (x:lt20) (wrong_1:Int) (t15_2:Int):L83_0 N  (n_L83_0+1) x wrong_1 t15_2 =
 (match (decide (t15_2<(lenI x.1.1.2.1))) with|true=>bif (inb t15_2 x.1.1.2.1.length) then bif (inb x.2.2.1 ((List.getD x.1.1.2.1 t15_2.toNat (0,([],())))).2.1.length) then match f60 (x.1,(t15_2,(x.2.1,()))) with | .ret r_3=>(match (r_3 != x.2.1) with|true=>(match f106 (x.1.1,(t15_2,(x.2.2.1,(x.2.2.2.1,())))) with | .ret r_5=>(match (!r_5) with|true=>.pan (.iface 144 (toVal (.prod (.int .i64) .unit) ((valOf (.prod (.int .i64) .unit) (t15_2,())).getD [])))|false=>L83_0 N n_L83_0 x wrong_1 (IntKind.i64.wrap (t15_2+1))) | .pan p=>.pan p | .fail=>.fail)|false=>match ((List.getD ((List.getD x.1.1.2.1 t15_2.toNat (0,([],())))).2.1 x.2.2.1.toNat 0)==x.2.2.2.1) with|true=>.pan (.iface 144 (toVal (.prod (.int .i64) .unit) ((valOf (.prod (.int .i64) .unit) (t15_2,())).getD [])))|false=>match ((List.getD ((List.getD x.1.1.2.1 t15_2.toNat (0,([],())))).2.1 x.2.2.1.toNat 0) != (-1)) with|true=>(match (wrong_1 != (-1)) with|true=>(match ((List.getD ((List.getD x.1.1.2.1 t15_2.toNat (0,([],())))).2.1 x.2.2.1.toNat 0) != wrong_1) with|true=>.pan (.iface 144 (toVal (.prod (.int .i64) .unit) ((valOf (.prod (.int .i64) .unit) (t15_2,())).getD [])))|false=>L83_0 N n_L83_0 x (if (List.getD ((List.getD x.1.1.2.1 t15_2.toNat (0,([],())))).2.1 x.2.2.1.toNat 0) > wrong_1 then (List.getD ((List.getD x.1.1.2.1 t15_2.toNat (0,([],())))).2.1 x.2.2.1.toNat 0) else wrong_1) (IntKind.i64.wrap (t15_2+1)))|false=>L83_0 N n_L83_0 x (if (List.getD ((List.getD x.1.1.2.1 t15_2.toNat (0,([],())))).2.1 x.2.2.1.toNat 0) > wrong_1 then (List.getD ((List.getD x.1.1.2.1 t15_2.toNat (0,([],())))).2.1 x.2.2.1.toNat 0) else wrong_1) (IntKind.i64.wrap (t15_2+1)))|false=>L83_0 N n_L83_0 x (if (List.getD ((List.getD x.1.1.2.1 t15_2.toNat (0,([],())))).2.1 x.2.2.1.toNat 0) > wrong_1 then (List.getD ((List.getD x.1.1.2.1 t15_2.toNat (0,([],())))).2.1 x.2.2.1.toNat 0) else wrong_1) (IntKind.i64.wrap (t15_2+1))) | .pan p=>.pan p | .fail=>.fail else .fail else .fail|false=>.ret ():Out Unit):=by kernel_rfl
def F83 (N:Nat) (x:lt20):Out Unit:=L83_0 N N x (-1) 0
theorem e83 (N:Nat) (x:lt20):vfn Tryz.prog (phi specs83) hints83 N Tryz.f94 true false ty31 .unit x=F83 N x:=by kernel_rfl
def f83 (x:lt20):Out Unit:=F83 fuel x
def sp83:Spec:=⟨94,.call,ty31,.unit,true,false,f83⟩
theorem c83:Contract Tryz.prog sp83:=contract_at (l:=specs83) (arg:=ty31) (res:=.unit) (multi:=true) (own:=false) (F:=f83) mixed (all_cons c60 (all_cons c106 all_nil)) Tryz.func94 rfl hints83 fun x _=>⟨fuel,e83 fuel x⟩
end Go.V
end
