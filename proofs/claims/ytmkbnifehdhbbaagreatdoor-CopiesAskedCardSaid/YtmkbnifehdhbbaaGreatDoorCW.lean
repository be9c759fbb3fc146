/- Part. -/
import Derived.Test.YtmkbnifehdhbbaaGreatDoorCV
import Derived.Test.YtmkbnifehdhbbaaGreatDoorC1
set_option linter.all false
noncomputable section
namespace Go.V
open Go.Proofs
def uz:List Spec:=[dr]
def pL:List (Nat×List Nat):=[(5,[1,4,10,11])]
def BF (s:Unit):List Spec:=[dr]
def zU:Array Oper:=bp 7 (av Tryz.f24)
def vg:Nat->Option (Nat×(Unit->St->Bool×Outs H0)):=fun i=>match i with|3=>some (1,iE H0 (.int .i64) preE gM 22 15 16 17 18)|_=>none
theorem JV:∀ i y,vg i=some y->bw Tryz.prog H0 zU i y.1 y.2:=by
 intro i y h
 unfold vg at h
 split at h
 . cases h;exact OP (i:=3) (by decide) (by decide) (by decide) (by kernel_rfl) (by kernel_rfl)
 . cases h
def w9:List (List Nat×HdH H0):=[([1,1,1,0,1,0,0,1,1,0,0,1],⟨fun {ρ} k s st=>cf Tryz.prog H0 (fun s=>ah (BF s)) pL vg 7 zU k s st⟩)]
theorem KY (h:∀ s,∀ sp∈BF s,cT Tryz.prog H0 s sp):bG Tryz.prog H0 (av Tryz.f24) (w9):=(bJ (c' := .region 7 zU false) (by kernel_rfl) (cr (fun s g sp hs=>h s sp (List.mem_filter.1 hs).1) pL JV) dU)
def L24_0 (N:Nat) (n_L24_0:Nat) (x:aS) (n_3:Int) (t11_4:Int):Out (Unit×(Int×(Int×Unit))) :=
 ev Tryz.prog H0 (ah uz) pL N (w9) Tryz.f24 true false eY [1,1,1,0,1,0] n_L24_0 (()) [U,.box [.d (.int .i64) x.1.1,.d ba x.1.2.1],U,U,.d (.int .i64) n_3,U,U,U,U,U,.d (.int .i64) x.1.1,.d (.int .i64) t11_4,U,U,U,U,U,U,U,U,U,U]
theorem L24_0_succ (N:Nat) (n_L24_0:Nat) (x:aS) (n_3:Int) (t11_4:Int):L24_0 N  (n_L24_0+1) x n_3 t11_4 =
 (match (decide (t11_4<x.1.1)) with|true=>bif (preE x.1 t11_4) then L24_0 N n_L24_0 x (IntKind.i64.wrap (n_3+((gM x.1 t11_4)))) (IntKind.i64.wrap (t11_4+1)) else .fail|false=>.ret ((()),(n_3,(0,()))):Out (Unit×(Int×(Int×Unit)))):=by kernel_rfl
def vU (N:Nat) (x:aS):Out (Unit×(Int×(Int×Unit))):=match f55 (x.1,()) with | .ret r_1=>(match (!r_1) with|true=>.ret ((()),(0,(2,())))|false=>L24_0 N N x 0 0) | .pan p=>.pan p | .fail=>.fail
theorem NK (N:Nat) (x:aS):cD Tryz.prog H0 (ah uz) pL N (w9) Tryz.f24 true false cB eY (()) x=vU N x:=by kernel_rfl
def f24 (x:aS):Out (Int×(Int×Unit)):=dY (vU fuel x)
def U9:Spec:=⟨24,.call,cB,eY,true,false,f24⟩
theorem LM:am Tryz.prog U9:=Ec (l:=uz) (fun sp hs=>(by simp only [uz,List.mem_cons,List.not_mem_nil,or_false] at hs;rcases hs with rfl<;>first|exact dh)) Tryz.func24 rfl (KY fun s sp hs=>.inl (by simp only [BF,List.mem_cons,List.not_mem_nil,or_false] at hs;rcases hs with rfl<;>first|exact dh)) pL fuel (NK fuel)
def Bs:List Spec:=[]
def pP:List (Nat×List Nat):=[(3,[1,2,5,8,9])]
def IY (s:Unit):List Spec:=[]
def Ai:Array Oper:=bp 6 (av Tryz.f65)
def vE:Nat->Option (Nat×(Unit->St->Bool×Outs H0)):=fun i=>match i with|3=>some (1,iE H0 be preS aq 24 16 17 18 19)|_=>none
theorem Ke:∀ i y,vE i=some y->bw Tryz.prog H0 Ai i y.1 y.2:=by
 intro i y h
 unfold vE at h
 split at h
 . cases h;exact BO (i:=3) (by decide) (by decide) (by decide) (by kernel_rfl) (by kernel_rfl)
 . cases h
def xg:List (List Nat×HdH H0):=[([1,1,0,1,0,0,1,1,0,0,1,1,0],⟨fun {ρ} k s st=>cf Tryz.prog H0 (fun s=>ah (IY s)) pP vE 6 Ai k s st⟩)]
theorem K' (h:∀ s,∀ sp∈IY s,cT Tryz.prog H0 s sp):bG Tryz.prog H0 (av Tryz.f65) (xg):=(bJ (c' := .region 6 Ai false) (by kernel_rfl) (cr (fun s g sp hs=>h s sp (List.mem_filter.1 hs).1) pP Ke) dU)
def L65_0 (N:Nat) (n_L65_0:Nat) (x:dZ) (n_1:Int) (t9_2:Int):Out (Unit×Int) :=
 ev Tryz.prog H0 (ah Bs) pP N (xg) Tryz.f65 false false (.int .i64) [1,1,0,1,0] n_L65_0 (()) [U,.d (.int .i64) x.2.1,.box [.d (.int .i64) x.1.1,.d ba x.1.2.1],U,U,.d (.int .i64) n_1,U,U,.d (.int .i64) x.1.1,.d (.int .i64) t9_2,U,U,U,U,U,U,U,U,U,U,U,U,U,U]
theorem L65_0_succ (N:Nat) (n_L65_0:Nat) (x:dZ) (n_1:Int) (t9_2:Int):L65_0 N  (n_L65_0+1) x n_1 t9_2 =
 (match (decide (t9_2<x.1.1)) with|true=>(match (t9_2 != x.2.1) with|true=>bif (preS x.1 t9_2) then L65_0 N n_L65_0 x (IntKind.i64.wrap (n_1 * (ae ((aq x.1 t9_2))))) (IntKind.i64.wrap (t9_2+1)) else .fail|false=>L65_0 N n_L65_0 x n_1 (IntKind.i64.wrap (t9_2+1)))|false=>.ret ((()),n_1):Out (Unit×Int)):=by kernel_rfl
def wB (N:Nat) (x:dZ):Out (Unit×Int):=L65_0 N N x 1 0
theorem N9 (N:Nat) (x:dZ):cD Tryz.prog H0 (ah Bs) pP N (xg) Tryz.f65 false false fy (.int .i64) (()) x=wB N x:=by kernel_rfl
def f65 (x:dZ):Out Int:=dY (wB fuel x)
def uv:Spec:=⟨65,.call,fy,(.int .i64),false,false,f65⟩
theorem xG:am Tryz.prog uv:=Ec (l:=Bs) aO Tryz.func65 rfl (K' fun s sp hs=>.inl (aO sp hs)) pP fuel (N9 fuel)
def IH:List Spec:=[dr,uv]
def FJ:List (Nat×List Nat):=[]
def vW (N:Nat) (x:aS):Out (Int×(Int×Unit)):=match f55 (x.1,()) with | .ret r_1=>(match (!r_1) with|true=>.ret (0,(2,()))|false=>match f65 (x.1,((-1),())) with | .ret r_3=>.ret (r_3,(0,())) | .pan p=>.pan p | .fail=>.fail) | .pan p=>.pan p | .fail=>.fail
theorem NM (N:Nat) (x:aS):aW Tryz.prog (ah IH) FJ N Tryz.f26 true false cB eY x=vW N x:=by kernel_rfl
def f26 (x:aS):Out (Int×(Int×Unit)):=vW fuel x
def U_:Spec:=⟨26,.call,cB,eY,true,false,f26⟩
theorem LQ:am Tryz.prog U_:=bi (l:=IH) (arg:=cB) (res:=eY) (multi:=true) (own:=false) (F:=f26) mixed (all_cons dh (all_cons xG aO)) Tryz.func26 rfl FJ fun x _=>⟨fuel,NM fuel x⟩
end Go.V
end
