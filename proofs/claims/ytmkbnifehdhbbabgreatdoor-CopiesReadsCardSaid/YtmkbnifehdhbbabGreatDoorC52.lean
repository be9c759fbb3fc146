/- Part. -/
import Derived.Test.YtmkbnifehdhbbabGreatDoorCZ
set_option linter.all false
noncomputable section
namespace Go.V
open Go.Proofs
def I1:List Spec:=[dr]
def F_:List (Nat×List Nat):=[]
def r7 (N:Nat) (x:gU):Out dZ:=match (decide ((ae x.1) > 115)) with|true=>.ret ((0,(([]:List (Int×aE)),())),(3,()))|false=>match f90 (x.1,()) with | .ret r_1=>(match f55 (r_1,()) with | .ret r_4=>(match (!r_4) with|true=>.ret ((0,(([]:List (Int×aE)),())),(2,()))|false=>.ret (r_1,(0,()))) | .pan p=>.pan p | .fail=>.fail) | .pan p_2=>(match kL p_2 with | .ret e_3=>(match (e_3 != 0) with|true=>.ret ((0,(([]:List (Int×aE)),())),(e_3,()))|false=>match f55 ((0,(([]:List (Int×aE)),())),()) with | .ret r_6=>(match (!r_6) with|true=>.ret ((0,(([]:List (Int×aE)),())),(2,()))|false=>.ret ((0,(([]:List (Int×aE)),())),(0,()))) | .pan p=>.pan p | .fail=>.fail) | .pan _=>.fail | .fail=>.fail) | .fail=>.fail
theorem Oe (N:Nat) (x:gU):vn Tryz.prog (ah I1) F_ N g4 [1,1,1,0,0] Tryz.f39 true false (.prod .str .unit) fy x=r7 N x:=by kernel_rfl
def f52 (x:gU):Out dZ:=r7 fuel x
def Vy:Spec:=⟨39,.call,(.prod .str .unit),fy,true,false,f52⟩
theorem Wu:ic [1,1,1,0,0] (av Tryz.f39)=some (.region 4 lQ false):=by kernel_rfl
theorem Mx:am Tryz.prog Vy:=Nk (l:=I1) (arg:=(.prod .str .unit)) (res:=fy) (multi:=true) (own:=false) (F:=f52) mixed (all_cons dh aO) (c:=av Tryz.f39) (r:=.region 4 lQ false) Tryz.func39 (by kernel_rfl) (g:=g4) (path:=[1,1,1,0,0]) Wu UR F_ fun x _=>⟨fuel,Oe fuel x⟩
end Go.V
end
