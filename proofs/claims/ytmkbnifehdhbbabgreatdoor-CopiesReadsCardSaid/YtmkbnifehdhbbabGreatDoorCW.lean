/- Part. -/
import Derived.Test.YtmkbnifehdhbbabGreatDoorCV
import Derived.Test.YtmkbnifehdhbbabGreatDoorC1
set_option linter.all false
noncomputable section
namespace Go.V
open Go.Proofs
def uO:List Spec:=[dr]
def pZ:List (Nat×List Nat):=[(5,[1,4,10,11])]
def BT (s:Unit):List Spec:=[dr]
def Ah:Array Oper:=bp 7 (av Tryz.f32)
def vA:Nat->Option (Nat×(Unit->St->Bool×Outs H0)):=fun i=>match i with|3=>some (1,iH H0 (.int .i64) preE gN 22 15 16 17 18)|_=>none
theorem J_:∀ i y,vA i=some y->bw Tryz.prog H0 Ah i y.1 y.2:=by
 intro i y h
 unfold vA at h
 split at h
 . cases h;exact O5 (i:=3) (by decide) (by decide) (by decide) (by kernel_rfl) (by kernel_rfl)
 . cases h
def xp:List (List Nat×HdH H0):=[([1,1,1,0,1,0,0,1,1,0,0,1],⟨fun {ρ} k s st=>cf Tryz.prog H0 (fun s=>ah (BT s)) pZ vA 7 Ah k s st⟩)]
theorem Lc (h:∀ s,∀ sp∈BT s,cT Tryz.prog H0 s sp):bG Tryz.prog H0 (av Tryz.f32) (xp):=(bJ (c' := .region 7 Ah false) (by kernel_rfl) (cr (fun s g sp hs=>h s sp (List.mem_filter.1 hs).1) pZ J_) dU)
def L24_0 (N:Nat) (n_L24_0:Nat) (x:aS) (n_3:Int) (t11_4:Int):Out (Unit×(Int×(Int×Unit))) :=
 ev Tryz.prog H0 (ah uO) pZ N (xp) Tryz.f32 true false eY [1,1,1,0,1,0] n_L24_0 (()) [U,.box [.d (.int .i64) x.1.1,.d ba x.1.2.1],U,U,.d (.int .i64) n_3,U,U,U,U,U,.d (.int .i64) x.1.1,.d (.int .i64) t11_4,U,U,U,U,U,U,U,U,U,U]
theorem L24_0_succ (N:Nat) (n_L24_0:Nat) (x:aS) (n_3:Int) (t11_4:Int):L24_0 N  (n_L24_0+1) x n_3 t11_4 =
 (match (decide (t11_4<x.1.1)) with|true=>bif (preE x.1 t11_4) then L24_0 N n_L24_0 x (IntKind.i64.wrap (n_3+((gN x.1 t11_4)))) (IntKind.i64.wrap (t11_4+1)) else .fail|false=>.ret ((()),(n_3,(0,()))):Out (Unit×(Int×(Int×Unit)))):=by kernel_rfl
def wx (N:Nat) (x:aS):Out (Unit×(Int×(Int×Unit))):=match f55 (x.1,()) with | .ret r_1=>(match (!r_1) with|true=>.ret ((()),(0,(2,())))|false=>L24_0 N N x 0 0) | .pan p=>.pan p | .fail=>.fail
theorem N3 (N:Nat) (x:aS):cD Tryz.prog H0 (ah uO) pZ N (xp) Tryz.f32 true false cB eY (()) x=wx N x:=by kernel_rfl
def f24 (x:aS):Out (Int×(Int×Unit)):=dY (wx fuel x)
def Vm:Spec:=⟨32,.call,cB,eY,true,false,f24⟩
theorem L6:am Tryz.prog Vm:=Er (l:=uO) (fun sp hs=>(by simp only [uO,List.mem_cons,List.not_mem_nil,or_false] at hs;rcases hs with rfl<;>first|exact dh)) Tryz.func32 rfl (Lc fun s sp hs=>.inl (by simp only [BT,List.mem_cons,List.not_mem_nil,or_false] at hs;rcases hs with rfl<;>first|exact dh)) pZ fuel (N3 fuel)
def BG:List Spec:=[]
def qg:List (Nat×List Nat):=[(3,[1,2,5,8,9])]
def Jc (s:Unit):List Spec:=[]
def AA:Array Oper:=bp 6 (av Tryz.f84)
def vU:Nat->Option (Nat×(Unit->St->Bool×Outs H0)):=fun i=>match i with|3=>some (1,iH H0 be preS aq 24 16 17 18 19)|_=>none
theorem Kw:∀ i y,vU i=some y->bw Tryz.prog H0 AA i y.1 y.2:=by
 intro i y h
 unfold vU at h
 split at h
 . cases h;exact B3 (i:=3) (by decide) (by decide) (by decide) (by kernel_rfl) (by kernel_rfl)
 . cases h
def xw:List (List Nat×HdH H0):=[([1,1,0,1,0,0,1,1,0,0,1,1,0],⟨fun {ρ} k s st=>cf Tryz.prog H0 (fun s=>ah (Jc s)) qg vU 6 AA k s st⟩)]
theorem Lp (h:∀ s,∀ sp∈Jc s,cT Tryz.prog H0 s sp):bG Tryz.prog H0 (av Tryz.f84) (xw):=(bJ (c' := .region 6 AA false) (by kernel_rfl) (cr (fun s g sp hs=>h s sp (List.mem_filter.1 hs).1) qg Kw) dU)
def L65_0 (N:Nat) (n_L65_0:Nat) (x:dZ) (n_1:Int) (t9_2:Int):Out (Unit×Int) :=
 ev Tryz.prog H0 (ah BG) qg N (xw) Tryz.f84 false false (.int .i64) [1,1,0,1,0] n_L65_0 (()) [U,.d (.int .i64) x.2.1,.box [.d (.int .i64) x.1.1,.d ba x.1.2.1],U,U,.d (.int .i64) n_1,U,U,.d (.int .i64) x.1.1,.d (.int .i64) t9_2,U,U,U,U,U,U,U,U,U,U,U,U,U,U]
theorem L65_0_succ (N:Nat) (n_L65_0:Nat) (x:dZ) (n_1:Int) (t9_2:Int):L65_0 N  (n_L65_0+1) x n_1 t9_2 =
 (match (decide (t9_2<x.1.1)) with|true=>(match (t9_2 != x.2.1) with|true=>bif (preS x.1 t9_2) then L65_0 N n_L65_0 x (IntKind.i64.wrap (n_1 * (ae ((aq x.1 t9_2))))) (IntKind.i64.wrap (t9_2+1)) else .fail|false=>L65_0 N n_L65_0 x n_1 (IntKind.i64.wrap (t9_2+1)))|false=>.ret ((()),n_1):Out (Unit×Int)):=by kernel_rfl
def wQ (N:Nat) (x:dZ):Out (Unit×Int):=L65_0 N N x 1 0
theorem Oq (N:Nat) (x:dZ):cD Tryz.prog H0 (ah BG) qg N (xw) Tryz.f84 false false fy (.int .i64) (()) x=wQ N x:=by kernel_rfl
def f65 (x:dZ):Out Int:=dY (wQ fuel x)
def uK:Spec:=⟨84,.call,fy,(.int .i64),false,false,f65⟩
theorem xW:am Tryz.prog uK:=Er (l:=BG) aO Tryz.func84 rfl (Lp fun s sp hs=>.inl (aO sp hs)) qg fuel (Oq fuel)
def IX:List Spec:=[dr,uK]
def FZ:List (Nat×List Nat):=[]
def wA (N:Nat) (x:aS):Out (Int×(Int×Unit)):=match f55 (x.1,()) with | .ret r_1=>(match (!r_1) with|true=>.ret (0,(2,()))|false=>match f65 (x.1,((-1),())) with | .ret r_3=>.ret (r_3,(0,())) | .pan p=>.pan p | .fail=>.fail) | .pan p=>.pan p | .fail=>.fail
theorem N5 (N:Nat) (x:aS):aW Tryz.prog (ah IX) FZ N Tryz.f47 true false cB eY x=wA N x:=by kernel_rfl
def kP (x:aS):Out (Int×(Int×Unit)):=wA fuel x
def Vo:Spec:=⟨47,.call,cB,eY,true,false,kP⟩
theorem L_:am Tryz.prog Vo:=bi (l:=IX) (arg:=cB) (res:=eY) (multi:=true) (own:=false) (F:=kP) mixed (all_cons dh (all_cons xW aO)) Tryz.func47 rfl FZ fun x _=>⟨fuel,N5 fuel x⟩
end Go.V
end
