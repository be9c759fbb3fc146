/- A part of the proof of a law of the copies. -/
import Derived.Test.YtmkbnifehdhbbabGreatDoorDH
import Derived.Test.YtmkbnifehdhbbabGreatDoorC52
import Derived.Test.YtmkbnifehdhbbabGreatDoorCX
import Derived.Test.YtmkbnifehdhbbabGreatDoorDE
set_option linter.all false
noncomputable section
namespace Go.V
open Go.Proofs
def veil {α:Type} (x:α):α:=Classical.choose (⟨x,rfl⟩:∃ y,y=x)
theorem veil_eq {α:Type} (x:α):veil x=x:=Classical.choose_spec (⟨x,rfl⟩:∃ y,y=x)
@[irreducible] def f15v:lt4->Out lt2:=veil f15
theorem f15v_eq:f15v=f15:=by unfold f15v;exact veil_eq f15
def sp15v:Spec:=⟨43,.call,ty6,ty3,true,false,f15v⟩
theorem c15v:Contract Tryz.prog sp15v:=by
 unfold sp15v
 rw [f15v_eq]
 exact c15
@[irreducible] def f16v:lt6->Out (Int×(Int×Unit)):=veil f16
theorem f16v_eq:f16v=f16:=by unfold f16v;exact veil_eq f16
def sp16v:Spec:=⟨21,.call,ty9,ty5,true,false,f16v⟩
theorem c16v:Contract Tryz.prog sp16v:=by
 unfold sp16v
 rw [f16v_eq]
 exact c16
@[irreducible] def f19v:lt5->Out Bool:=veil f19
theorem f19v_eq:f19v=f19:=by unfold f19v;exact veil_eq f19
def sp19v:Spec:=⟨17,.call,ty7,.bool,false,false,f19v⟩
theorem c19v:Contract Tryz.prog sp19v:=by
 unfold sp19v
 rw [f19v_eq]
 exact c19
@[irreducible] def f24v:lt1->Out (Int×(Int×Unit)):=veil f24
theorem f24v_eq:f24v=f24:=by unfold f24v;exact veil_eq f24
def sp24v:Spec:=⟨32,.call,ty2,ty5,true,false,f24v⟩
theorem c24v:Contract Tryz.prog sp24v:=by
 unfold sp24v
 rw [f24v_eq]
 exact c24
@[irreducible] def f25v:lt1->Out lt14:=veil f25
theorem f25v_eq:f25v=f25:=by unfold f25v;exact veil_eq f25
def sp25v:Spec:=⟨46,.call,ty2,ty18,true,false,f25v⟩
theorem c25v:Contract Tryz.prog sp25v:=by
 unfold sp25v
 rw [f25v_eq]
 exact c25
@[irreducible] def f26v:lt1->Out (Int×(Int×Unit)):=veil f26
theorem f26v_eq:f26v=f26:=by unfold f26v;exact veil_eq f26
def sp26v:Spec:=⟨47,.call,ty2,ty5,true,false,f26v⟩
theorem c26v:Contract Tryz.prog sp26v:=by
 unfold sp26v
 rw [f26v_eq]
 exact c26
@[irreducible] def f28v:lt18->Out Bool:=veil f28
theorem f28v_eq:f28v=f28:=by unfold f28v;exact veil_eq f28
def sp28v:Spec:=⟨52,.call,ty21,.bool,false,false,f28v⟩
theorem c28v:Contract Tryz.prog sp28v:=by
 unfold sp28v
 rw [f28v_eq]
 exact c28
@[irreducible] def f33v:lt3->Out lt13:=veil f33
theorem f33v_eq:f33v=f33:=by unfold f33v;exact veil_eq f33
def sp33v:Spec:=⟨35,.call,ty4,ty15,true,false,f33v⟩
theorem c33v:Contract Tryz.prog sp33v:=by
 unfold sp33v
 rw [f33v_eq]
 exact c33
@[irreducible] def f35v:lt1->Out lt2:=veil f35
theorem f35v_eq:f35v=f35:=by unfold f35v;exact veil_eq f35
def sp35v:Spec:=⟨48,.call,ty2,ty3,true,false,f35v⟩
theorem c35v:Contract Tryz.prog sp35v:=by
 unfold sp35v
 rw [f35v_eq]
 exact c35
@[irreducible] def f36v:lt6->Out lt2:=veil f36
theorem f36v_eq:f36v=f36:=by unfold f36v;exact veil_eq f36
def sp36v:Spec:=⟨49,.call,ty9,ty3,true,false,f36v⟩
theorem c36v:Contract Tryz.prog sp36v:=by
 unfold sp36v
 rw [f36v_eq]
 exact c36
@[irreducible] def f37v:lt5->Out Bool:=veil f37
theorem f37v_eq:f37v=f37:=by unfold f37v;exact veil_eq f37
def sp37v:Spec:=⟨53,.call,ty7,.bool,false,false,f37v⟩
theorem c37v:Contract Tryz.prog sp37v:=by
 unfold sp37v
 rw [f37v_eq]
 exact c37
@[irreducible] def f41v:lt1->Out (Int×(Int×(Int×(Int×Unit)))):=veil f41
theorem f41v_eq:f41v=f41:=by unfold f41v;exact veil_eq f41
def sp41v:Spec:=⟨50,.call,ty2,ty13,true,false,f41v⟩
theorem c41v:Contract Tryz.prog sp41v:=by
 unfold sp41v
 rw [f41v_eq]
 exact c41
@[irreducible] def f45v:lt6->Out lt2:=veil f45
theorem f45v_eq:f45v=f45:=by unfold f45v;exact veil_eq f45
def sp45v:Spec:=⟨51,.call,ty9,ty3,true,false,f45v⟩
theorem c45v:Contract Tryz.prog sp45v:=by
 unfold sp45v
 rw [f45v_eq]
 exact c45
@[irreducible] def f50v:lt15->Out lt2:=veil f50
theorem f50v_eq:f50v=f50:=by unfold f50v;exact veil_eq f50
def sp50v:Spec:=⟨14,.call,ty23,ty3,true,false,f50v⟩
theorem c50v:Contract Tryz.prog sp50v:=by
 unfold sp50v
 rw [f50v_eq]
 exact c50
@[irreducible] def f51v:lt10->Out lt2:=veil f51
theorem f51v_eq:f51v=f51:=by unfold f51v;exact veil_eq f51
def sp51v:Spec:=⟨24,.call,ty29,ty3,true,false,f51v⟩
theorem c51v:Contract Tryz.prog sp51v:=by
 unfold sp51v
 rw [f51v_eq]
 exact c51
@[irreducible] def f52v:lt7->Out lt4:=veil f52
theorem f52v_eq:f52v=f52:=by unfold f52v;exact veil_eq f52
def sp52v:Spec:=⟨39,.call,(.prod .str .unit),ty6,true,false,f52v⟩
theorem c52v:Contract Tryz.prog sp52v:=by
 unfold sp52v
 rw [f52v_eq]
 exact c52
@[irreducible] def f53v:lt17->Out Bool:=veil f53
theorem f53v_eq:f53v=f53:=by unfold f53v;exact veil_eq f53
def sp53v:Spec:=⟨36,.call,ty22,.bool,false,false,f53v⟩
theorem c53v:Contract Tryz.prog sp53v:=by
 unfold sp53v
 rw [f53v_eq]
 exact c53
@[irreducible] def f54v:lt1->Out (List UInt8):=veil f54
theorem f54v_eq:f54v=f54:=by unfold f54v;exact veil_eq f54
def sp54v:Spec:=⟨40,.call,ty2,.str,false,false,f54v⟩
theorem c54v:Contract Tryz.prog sp54v:=by
 unfold sp54v
 rw [f54v_eq]
 exact c54
end Go.V
namespace Go.V
open Go.Proofs
def specs14:List Spec:=[sp48,sp15v,sp16v,sp49,sp33v,sp24v,sp25v,sp26v,sp35v,sp36v,sp41v,sp45v,sp50v,sp51v,sp52v,sp19v,sp53v,sp28v,sp37v,sp54v]
def hints14:List (Nat×List Nat):=[]
def F14 (N:Nat) (x:Unit):Out Bool:=match f15v ((2,(([(0,(([4,7]:List Int),())),(0,(([(-1),(-1)]:List Int),())),(1,(([4,1]:List Int),())),(1,(([4,1]:List Int),())),(0,(([(-1),7]:List Int),())),(4,(([8,7]:List Int),()))]:List (Int×lt0)),())),(5,())) with | .ret r_1=>(match f16v ((2,(([(0,(([4,7]:List Int),())),(0,(([(-1),(-1)]:List Int),())),(1,(([4,1]:List Int),())),(1,(([4,1]:List Int),())),(0,(([(-1),7]:List Int),())),(4,(([8,7]:List Int),()))]:List (Int×lt0)),())),(2,(3,()))) with | .ret r_3=>(match f33v ((2,(([(0,(([4,7]:List Int),())),(0,(([(-1),(-1)]:List Int),())),(1,(([4,1]:List Int),())),(1,(([4,1]:List Int),())),(0,(([(-1),7]:List Int),())),(4,(([8,7]:List Int),()))]:List (Int×lt0)),())),(([([4,7]:List Int),([4,1]:List Int),([4,1]:List Int),([4,1]:List Int),([4,7]:List Int),([8,7]:List Int)]:List (List Int)),())) with | .ret r_5=>(match f24v ((2,(([(0,(([4,7]:List Int),())),(0,(([(-1),(-1)]:List Int),())),(1,(([4,1]:List Int),())),(1,(([4,1]:List Int),())),(0,(([(-1),7]:List Int),())),(4,(([8,7]:List Int),()))]:List (Int×lt0)),())),()) with | .ret r_7=>(match f25v ((2,(([(0,(([4,7]:List Int),())),(0,(([(-1),(-1)]:List Int),())),(1,(([4,1]:List Int),())),(1,(([4,1]:List Int),())),(0,(([(-1),7]:List Int),())),(4,(([8,7]:List Int),()))]:List (Int×lt0)),())),()) with | .ret r_9=>(match f26v ((2,(([(0,(([4,7]:List Int),())),(0,(([(-1),(-1)]:List Int),())),(1,(([4,1]:List Int),())),(1,(([4,1]:List Int),())),(0,(([(-1),7]:List Int),())),(4,(([8,7]:List Int),()))]:List (Int×lt0)),())),()) with | .ret r_11=>(match f35v ((2,(([(0,(([4,7]:List Int),())),(0,(([(-1),(-1)]:List Int),())),(1,(([4,1]:List Int),())),(1,(([4,1]:List Int),())),(0,(([(-1),7]:List Int),())),(4,(([8,7]:List Int),()))]:List (Int×lt0)),())),()) with | .ret r_13=>(match f36v ((2,(([(0,(([4,7]:List Int),())),(0,(([(-1),(-1)]:List Int),())),(1,(([4,1]:List Int),())),(1,(([4,1]:List Int),())),(0,(([(-1),7]:List Int),())),(4,(([8,7]:List Int),()))]:List (Int×lt0)),())),(4,(0,()))) with | .ret r_15=>(match f41v ((2,(([(0,(([4,7]:List Int),())),(0,(([(-1),(-1)]:List Int),())),(1,(([4,1]:List Int),())),(1,(([4,1]:List Int),())),(0,(([(-1),7]:List Int),())),(4,(([8,7]:List Int),()))]:List (Int×lt0)),())),()) with | .ret r_17=>(match f45v ((2,(([(0,(([4,7]:List Int),())),(0,(([(-1),(-1)]:List Int),())),(1,(([4,1]:List Int),())),(1,(([4,1]:List Int),())),(0,(([(-1),7]:List Int),())),(4,(([8,7]:List Int),()))]:List (Int×lt0)),())),(0,(4,()))) with | .ret r_19=>(match f50v ((2,(([(0,(([4,7]:List Int),())),(0,(([(-1),(-1)]:List Int),())),(1,(([4,1]:List Int),())),(1,(([4,1]:List Int),())),(0,(([(-1),7]:List Int),())),(4,(([8,7]:List Int),()))]:List (Int×lt0)),())),(([2,3,5]:List Int),())) with | .ret r_21=>(match f51v ((2,(([(0,(([4,7]:List Int),())),(0,(([(-1),(-1)]:List Int),())),(1,(([4,1]:List Int),())),(1,(([4,1]:List Int),())),(0,(([(-1),7]:List Int),())),(4,(([8,7]:List Int),()))]:List (Int×lt0)),())),(([([4,7]:List Int),([4,1]:List Int),([4,1]:List Int),([4,1]:List Int),([4,7]:List Int),([8,7]:List Int)]:List (List Int)),(([2,5]:List Int),()))) with | .ret r_23=>(match f52v (([99,111,112,105,101,115,32,50,10,99,111,112,121,32,48,32,52,63,10,99,111,112,121,32,48,32,52,49,10,101,110,100,32,48,53,48,10]:List UInt8),()) with | .ret r_25=>(match (r_1.2.1 != 0) with|true=>.ret false|false=>match (r_3.2.1 != 0) with|true=>.ret false|false=>match (r_5.2.1 != 0) with|true=>.ret false|false=>match (r_7.2.1 != 0) with|true=>.ret false|false=>match (r_9.2.1 != 0) with|true=>.ret false|false=>match (r_11.2.1 != 0) with|true=>.ret false|false=>match (r_13.2.1 != 0) with|true=>.ret false|false=>match (r_15.2.1 != 0) with|true=>.ret false|false=>match (r_17.2.2.2.1 != 0) with|true=>.ret false|false=>match (r_19.2.1 != 0) with|true=>.ret false|false=>match (r_21.2.1 != 0) with|true=>.ret false|false=>match (r_23.2.1 != 0) with|true=>.ret false|false=>match (r_25.2.1 != 0) with|true=>.ret false|false=>match f19v (r_1.1,(([5,4,0]:List Int),())) with | .ret r_27=>(match (!r_27) with|true=>.ret false|false=>match (r_3.1 != 1) with|true=>.ret false|false=>match f53v (r_5.1,(([(1,(1,())),(5,(0,()))]:List (Int×(Int×Unit))),())) with | .ret r_29=>(match (!r_29) with|true=>.ret false|false=>match (r_7.1 != 2) with|true=>.ret false|false=>match f28v (r_9.1,(([([4,7]:List Int),([4,1]:List Int),([4,1]:List Int),([4,1]:List Int),([4,7]:List Int),([8,7]:List Int)]:List (List Int)),())) with | .ret r_31=>(match (!r_31) with|true=>.ret false|false=>match (r_11.1 != 2) with|true=>.ret false|false=>match f37v (r_13.1,(([1,3,1,1,2,2]:List Int),())) with | .ret r_33=>(match (!r_33) with|true=>.ret false|false=>match f19v (r_15.1,(([4,8]:List Int),())) with | .ret r_35=>(match (!r_35) with|true=>.ret false|false=>match (r_17.1==4) with|true=>(match (r_17.2.1==0) with|true=>(match (r_17.2.2.1==1) with|true=>(match f19v (r_19.1,(([4,5]:List Int),())) with | .ret r_37=>(match r_37 with|true=>(match f19v (r_21.1,(([2,5]:List Int),())) with | .ret r_39=>(match r_39 with|true=>(match f19v (r_23.1,(([1,2,5]:List Int),())) with | .ret r_41=>(match r_41 with|true=>(match f54v (r_25.1,()) with | .ret r_43=>.ret (r_43==([99,111,112,105,101,115,32,50,10,99,111,112,121,32,48,32,52,63,10,99,111,112,121,32,48,32,52,49,10,101,110,100,32,48,53,48,10]:List UInt8)) | .pan p=>.pan p | .fail=>.fail)|false=>.ret false) | .pan p=>.pan p | .fail=>.fail)|false=>.ret false) | .pan p=>.pan p | .fail=>.fail)|false=>.ret false) | .pan p=>.pan p | .fail=>.fail)|false=>.ret false)|false=>.ret false)|false=>.ret false) | .pan p=>.pan p | .fail=>.fail) | .pan p=>.pan p | .fail=>.fail) | .pan p=>.pan p | .fail=>.fail) | .pan p=>.pan p | .fail=>.fail) | .pan p=>.pan p | .fail=>.fail) | .pan p=>.pan p | .fail=>.fail) | .pan p=>.pan p | .fail=>.fail) | .pan p=>.pan p | .fail=>.fail) | .pan p=>.pan p | .fail=>.fail) | .pan p=>.pan p | .fail=>.fail) | .pan p=>.pan p | .fail=>.fail) | .pan p=>.pan p | .fail=>.fail) | .pan p=>.pan p | .fail=>.fail) | .pan p=>.pan p | .fail=>.fail) | .pan p=>.pan p | .fail=>.fail) | .pan p=>.pan p | .fail=>.fail) | .pan p=>.pan p | .fail=>.fail) | .pan p=>.pan p | .fail=>.fail
theorem e14 (N:Nat) (x:Unit):vfn Tryz.prog (phi specs14) hints14 N Tryz.f13 false false .unit .bool x=F14 N x:=by kernel_rfl
def f14 (x:Unit):Out Bool:=F14 fuel x
def sp14:Spec:=⟨13,.call,.unit,.bool,false,false,f14⟩
theorem c14:Contract Tryz.prog sp14:=contract_at (l:=specs14) (arg:=.unit) (res:=.bool) (multi:=false) (own:=false) (F:=f14) mixed (all_cons c48 (all_cons c15v (all_cons c16v (all_cons c49 (all_cons c33v (all_cons c24v (all_cons c25v (all_cons c26v (all_cons c35v (all_cons c36v (all_cons c41v (all_cons c45v (all_cons c50v (all_cons c51v (all_cons c52v (all_cons c19v (all_cons c53v (all_cons c28v (all_cons c37v (all_cons c54v all_nil)))))))))))))))))))) Tryz.func13 rfl hints14 fun x _=>⟨fuel,e14 fuel x⟩
@[irreducible] def f14v:Unit->Out Bool:=veil f14
theorem f14v_eq:f14v=f14:=by unfold f14v;exact veil_eq f14
def sp14v:Spec:=⟨13,.call,.unit,.bool,false,false,f14v⟩
theorem c14v:Contract Tryz.prog sp14v:=by
 unfold sp14v
 rw [f14v_eq]
 exact c14
end Go.V
end
