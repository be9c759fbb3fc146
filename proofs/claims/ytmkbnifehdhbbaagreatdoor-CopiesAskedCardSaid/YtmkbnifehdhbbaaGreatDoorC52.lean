/- Part. -/
import Derived.Test.YtmkbnifehdhbbaaGreatDoorCZ
set_option linter.all false
noncomputable section
namespace Go.V
open Go.Proofs
def IL:List Spec:=[dr]
def FN:List (Nat×List Nat):=[]
def rM (N:Nat) (x:gS):Out dZ:=match (decide ((ae x.1) > 115)) with|true=>.ret ((0,(([]:List (Int×aE)),())),(3,()))|false=>match f90 (x.1,()) with | .ret r_1=>(match f55 (r_1,()) with | .ret r_4=>(match (!r_4) with|true=>.ret ((0,(([]:List (Int×aE)),())),(2,()))|false=>.ret (r_1,(0,()))) | .pan p=>.pan p | .fail=>.fail) | .pan p_2=>(match kG p_2 with | .ret e_3=>(match (e_3 != 0) with|true=>.ret ((0,(([]:List (Int×aE)),())),(e_3,()))|false=>match f55 ((0,(([]:List (Int×aE)),())),()) with | .ret r_6=>(match (!r_6) with|true=>.ret ((0,(([]:List (Int×aE)),())),(2,()))|false=>.ret ((0,(([]:List (Int×aE)),())),(0,()))) | .pan p=>.pan p | .fail=>.fail) | .pan _=>.fail | .fail=>.fail) | .fail=>.fail
theorem NX (N:Nat) (x:gS):uW Tryz.prog (ah IL) FN N g4 [1,1,1,0,0] Tryz.f52 true false (.prod .str .unit) fy x=rM N x:=by kernel_rfl
def f52 (x:gS):Out dZ:=rM fuel x
def Vj:Spec:=⟨52,.call,(.prod .str .unit),fy,true,false,f52⟩
theorem Wd:ib [1,1,1,0,0] (av Tryz.f52)=some (.region 4 lB false):=by kernel_rfl
theorem Mh:am Tryz.prog Vj:=MZ (l:=IL) (arg:=(.prod .str .unit)) (res:=fy) (multi:=true) (own:=false) (F:=f52) mixed (all_cons dh aO) (c:=av Tryz.f52) (r:=.region 4 lB false) Tryz.func52 (by kernel_rfl) (g:=g4) (path:=[1,1,1,0,0]) Wd UC FN fun x _=>⟨fuel,NX fuel x⟩
end Go.V
end
