/- A part of the proof of a law of the copies. -/
import Derived.Test.YtmkbnifehdhbbabGreatDoorCZ
set_option linter.all false
noncomputable section
namespace Go.V
open Go.Proofs
def specs52:List Spec:=[sp55]
def hints52:List (Nat×List Nat):=[]
def F52 (N:Nat) (x:lt7):Out lt4:=match (decide ((lenI x.1) > 115)) with|true=>.ret ((0,(([]:List (Int×lt0)),())),(3,()))|false=>match f90 (x.1,()) with | .ret r_1=>(match f55 (r_1,()) with | .ret r_4=>(match (!r_4) with|true=>.ret ((0,(([]:List (Int×lt0)),())),(2,()))|false=>.ret (r_1,(0,()))) | .pan p=>.pan p | .fail=>.fail) | .pan p_2=>(match errOut p_2 with | .ret e_3=>(match (e_3 != 0) with|true=>.ret ((0,(([]:List (Int×lt0)),())),(e_3,()))|false=>match f55 ((0,(([]:List (Int×lt0)),())),()) with | .ret r_6=>(match (!r_6) with|true=>.ret ((0,(([]:List (Int×lt0)),())),(2,()))|false=>.ret ((0,(([]:List (Int×lt0)),())),(0,()))) | .pan p=>.pan p | .fail=>.fail) | .pan _=>.fail | .fail=>.fail) | .fail=>.fail
theorem e52 (N:Nat) (x:lt7):vfnCut Tryz.prog (phi specs52) hints52 N g4 [1,1,1,0,0] Tryz.f39 true false (.prod .str .unit) ty6 x=F52 N x:=by kernel_rfl
def f52 (x:lt7):Out lt4:=F52 fuel x
def sp52:Spec:=⟨39,.call,(.prod .str .unit),ty6,true,false,f52⟩
theorem way52:atWay [1,1,1,0,0] (bodyOf Tryz.f39)=some (.region 4 reg4 false):=by kernel_rfl
theorem c52:Contract Tryz.prog sp52:=contract_cut (l:=specs52) (arg:=(.prod .str .unit)) (res:=ty6) (multi:=true) (own:=false) (F:=f52) mixed (all_cons c55 all_nil) (c:=bodyOf Tryz.f39) (r:=.region 4 reg4 false) Tryz.func39 (by kernel_rfl) (g:=g4) (path:=[1,1,1,0,0]) way52 reg4_ok hints52 fun x _=>⟨fuel,e52 fuel x⟩
end Go.V
end
