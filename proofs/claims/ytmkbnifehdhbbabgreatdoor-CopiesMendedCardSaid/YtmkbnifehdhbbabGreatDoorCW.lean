/- A part of the proof of a law of the copies. -/
import Derived.Test.YtmkbnifehdhbbabGreatDoorCV
import Derived.Test.YtmkbnifehdhbbabGreatDoorC1
set_option linter.all false
noncomputable section
namespace Go.V
open Go.Proofs
def specs24:List Spec:=[sp55]
def hints24:List (Nat×List Nat):=[(5,[1,4,10,11])]
def specsQ24 (s:Unit):List Spec:=[sp55]
def r24_7:Array Oper:=regAt 7 (bodyOf Tryz.f32)
def D24_7:Nat->Option (Nat×(Unit->St->Bool×Outs H0)):=fun i=>match i with|3=>some (1,pairG H0 (.int .i64) preE errsT 22 15 16 17 18)|_=>none
theorem D24_7_ok:∀ i y,D24_7 i=some y->HandQ Tryz.prog H0 r24_7 i y.1 y.2:=by
 intro i y h
 unfold D24_7 at h
 split at h
 . cases h;exact errs_ok (i:=3) (by decide) (by decide) (by decide) (by kernel_rfl) (by kernel_rfl)
 . cases h
def T24:List (List Nat×HdH H0):=[([1,1,1,0,1,0,0,1,1,0,0,1],⟨fun {ρ} k s st=>regQ Tryz.prog H0 (fun s=>phi (specsQ24 s)) hints24 D24_7 7 r24_7 k s st⟩)]
theorem allQ24 (h:∀ s,∀ sp∈specsQ24 s,CallH Tryz.prog H0 s sp):AllQ Tryz.prog H0 (bodyOf Tryz.f32) (T24):=(allQ_cons (c' := .region 7 r24_7 false) (by kernel_rfl) (regQ_ok (fun s g sp hs=>h s sp (List.mem_filter.1 hs).1) hints24 D24_7_ok) allQ_nil)
def L24_0 (N:Nat) (n_L24_0:Nat) (x:lt1) (n_3:Int) (t11_4:Int):Out (Unit×(Int×(Int×Unit))) :=
 vloopQ Tryz.prog H0 (phi specs24) hints24 N (T24) Tryz.f32 true false ty5 [1,1,1,0,1,0] n_L24_0 (()) [U,.box [.d (.int .i64) x.1.1,.d ty0 x.1.2.1],U,U,.d (.int .i64) n_3,U,U,U,U,U,.d (.int .i64) x.1.1,.d (.int .i64) t11_4,U,U,U,U,U,U,U,U,U,U]
theorem L24_0_succ (N:Nat) (n_L24_0:Nat) (x:lt1) (n_3:Int) (t11_4:Int):L24_0 N  (n_L24_0+1) x n_3 t11_4 =
 (match (decide (t11_4<x.1.1)) with|true=>bif (preE x.1 t11_4) then L24_0 N n_L24_0 x (IntKind.i64.wrap (n_3+((errsT x.1 t11_4)))) (IntKind.i64.wrap (t11_4+1)) else .fail|false=>.ret ((()),(n_3,(0,()))):Out (Unit×(Int×(Int×Unit)))):=by kernel_rfl
def F24 (N:Nat) (x:lt1):Out (Unit×(Int×(Int×Unit))):=match f55 (x.1,()) with | .ret r_1=>(match (!r_1) with|true=>.ret ((()),(0,(2,())))|false=>L24_0 N N x 0 0) | .pan p=>.pan p | .fail=>.fail
theorem e24 (N:Nat) (x:lt1):vfnQ Tryz.prog H0 (phi specs24) hints24 N (T24) Tryz.f32 true false ty2 ty5 (()) x=F24 N x:=by kernel_rfl
def f24 (x:lt1):Out (Int×(Int×Unit)):=dropG (F24 fuel x)
def sp24:Spec:=⟨32,.call,ty2,ty5,true,false,f24⟩
theorem c24:Contract Tryz.prog sp24:=contract_H0 (l:=specs24) (fun sp hs=>(by simp only [specs24,List.mem_cons,List.not_mem_nil,or_false] at hs;rcases hs with rfl<;>first|exact c55)) Tryz.func32 rfl (allQ24 fun s sp hs=>.inl (by simp only [specsQ24,List.mem_cons,List.not_mem_nil,or_false] at hs;rcases hs with rfl<;>first|exact c55)) hints24 fuel (e24 fuel)
def specs65:List Spec:=[]
def hints65:List (Nat×List Nat):=[(3,[1,2,5,8,9])]
def specsQ65 (s:Unit):List Spec:=[]
def r65_6:Array Oper:=regAt 6 (bodyOf Tryz.f84)
def D65_6:Nat->Option (Nat×(Unit->St->Bool×Outs H0)):=fun i=>match i with|3=>some (1,pairG H0 ty1 preS storT 24 16 17 18 19)|_=>none
theorem D65_6_ok:∀ i y,D65_6 i=some y->HandQ Tryz.prog H0 r65_6 i y.1 y.2:=by
 intro i y h
 unfold D65_6 at h
 split at h
 . cases h;exact stor_ok (i:=3) (by decide) (by decide) (by decide) (by kernel_rfl) (by kernel_rfl)
 . cases h
def T65:List (List Nat×HdH H0):=[([1,1,0,1,0,0,1,1,0,0,1,1,0],⟨fun {ρ} k s st=>regQ Tryz.prog H0 (fun s=>phi (specsQ65 s)) hints65 D65_6 6 r65_6 k s st⟩)]
theorem allQ65 (h:∀ s,∀ sp∈specsQ65 s,CallH Tryz.prog H0 s sp):AllQ Tryz.prog H0 (bodyOf Tryz.f84) (T65):=(allQ_cons (c' := .region 6 r65_6 false) (by kernel_rfl) (regQ_ok (fun s g sp hs=>h s sp (List.mem_filter.1 hs).1) hints65 D65_6_ok) allQ_nil)
def L65_0 (N:Nat) (n_L65_0:Nat) (x:lt4) (n_1:Int) (t9_2:Int):Out (Unit×Int) :=
 vloopQ Tryz.prog H0 (phi specs65) hints65 N (T65) Tryz.f84 false false (.int .i64) [1,1,0,1,0] n_L65_0 (()) [U,.d (.int .i64) x.2.1,.box [.d (.int .i64) x.1.1,.d ty0 x.1.2.1],U,U,.d (.int .i64) n_1,U,U,.d (.int .i64) x.1.1,.d (.int .i64) t9_2,U,U,U,U,U,U,U,U,U,U,U,U,U,U]
theorem L65_0_succ (N:Nat) (n_L65_0:Nat) (x:lt4) (n_1:Int) (t9_2:Int):L65_0 N  (n_L65_0+1) x n_1 t9_2 =
 (match (decide (t9_2<x.1.1)) with|true=>(match (t9_2 != x.2.1) with|true=>bif (preS x.1 t9_2) then L65_0 N n_L65_0 x (IntKind.i64.wrap (n_1 * (lenI ((storT x.1 t9_2))))) (IntKind.i64.wrap (t9_2+1)) else .fail|false=>L65_0 N n_L65_0 x n_1 (IntKind.i64.wrap (t9_2+1)))|false=>.ret ((()),n_1):Out (Unit×Int)):=by kernel_rfl
def F65 (N:Nat) (x:lt4):Out (Unit×Int):=L65_0 N N x 1 0
theorem e65 (N:Nat) (x:lt4):vfnQ Tryz.prog H0 (phi specs65) hints65 N (T65) Tryz.f84 false false ty6 (.int .i64) (()) x=F65 N x:=by kernel_rfl
def f65 (x:lt4):Out Int:=dropG (F65 fuel x)
def sp65:Spec:=⟨84,.call,ty6,(.int .i64),false,false,f65⟩
theorem c65:Contract Tryz.prog sp65:=contract_H0 (l:=specs65) all_nil Tryz.func84 rfl (allQ65 fun s sp hs=>.inl (all_nil sp hs)) hints65 fuel (e65 fuel)
def specs26:List Spec:=[sp55,sp65]
def hints26:List (Nat×List Nat):=[]
def F26 (N:Nat) (x:lt1):Out (Int×(Int×Unit)):=match f55 (x.1,()) with | .ret r_1=>(match (!r_1) with|true=>.ret (0,(2,()))|false=>match f65 (x.1,((-1),())) with | .ret r_3=>.ret (r_3,(0,())) | .pan p=>.pan p | .fail=>.fail) | .pan p=>.pan p | .fail=>.fail
theorem e26 (N:Nat) (x:lt1):vfn Tryz.prog (phi specs26) hints26 N Tryz.f47 true false ty2 ty5 x=F26 N x:=by kernel_rfl
def f26 (x:lt1):Out (Int×(Int×Unit)):=F26 fuel x
def sp26:Spec:=⟨47,.call,ty2,ty5,true,false,f26⟩
theorem c26:Contract Tryz.prog sp26:=contract_at (l:=specs26) (arg:=ty2) (res:=ty5) (multi:=true) (own:=false) (F:=f26) mixed (all_cons c55 (all_cons c65 all_nil)) Tryz.func47 rfl hints26 fun x _=>⟨fuel,e26 fuel x⟩
end Go.V
end
