/- Part. -/
import Derived.Test.YtmkbnifehdhbbabGreatDoorDH
import Derived.Test.YtmkbnifehdhbbabGreatDoorC52
import Derived.Test.YtmkbnifehdhbbabGreatDoorCX
import Derived.Test.YtmkbnifehdhbbabGreatDoorDE
set_option linter.all false
noncomputable section
namespace Go.V
open Go.Proofs
def dG {α:Type} (x:α):α:=Classical.choose (⟨x,rfl⟩:∃ y,y=x)
theorem dR {α:Type} (x:α):dG x=x:=Classical.choose_spec (⟨x,rfl⟩:∃ y,y=x)
@[irreducible] def pt:dZ->Out bB:=dG f15
theorem EX:pt=f15:=by unfold pt;exact dR f15
def A0:Spec:=⟨43,.call,fy,ch,true,false,pt⟩
theorem LZ:am Tryz.prog A0:=by
 unfold A0
 rw [EX]
 exact LY
@[irreducible] def pu:eV->Out (Int×(Int×Unit)):=dG kO
theorem EY:pu=kO:=by unfold pu;exact dR kO
def A1:Spec:=⟨21,.call,iP,eY,true,false,pu⟩
theorem L2:am Tryz.prog A1:=by
 unfold A1
 rw [EY]
 exact L1
@[irreducible] def jf:eG->Out Bool:=dG f19
theorem E0:jf=f19:=by unfold jf;exact dR f19
def A2:Spec:=⟨17,.call,gZ,.bool,false,false,jf⟩
theorem L5:am Tryz.prog A2:=by
 unfold A2
 rw [E0]
 exact D'
@[irreducible] def pA:aS->Out (Int×(Int×Unit)):=dG f24
theorem E1:pA=f24:=by unfold pA;exact dR f24
def A3:Spec:=⟨32,.call,cB,eY,true,false,pA⟩
theorem L7:am Tryz.prog A3:=by
 unfold A3
 rw [E1]
 exact L6
@[irreducible] def pB:aS->Out lr:=dG f25
theorem E2:pB=f25:=by unfold pB;exact dR f25
def A4:Spec:=⟨46,.call,cB,rM,true,false,pB⟩
theorem L9:am Tryz.prog A4:=by
 unfold A4
 rw [E2]
 exact L8
@[irreducible] def pC:aS->Out (Int×(Int×Unit)):=dG kP
theorem E3:pC=kP:=by unfold pC;exact dR kP
def A5:Spec:=⟨47,.call,cB,eY,true,false,pC⟩
theorem Mc:am Tryz.prog A5:=by
 unfold A5
 rw [E3]
 exact L_
@[irreducible] def tw:m_->Out Bool:=dG kQ
theorem E4:tw=kQ:=by unfold tw;exact dR kQ
def A6:Spec:=⟨52,.call,vh,.bool,false,false,tw⟩
theorem Me:am Tryz.prog A6:=by
 unfold A6
 rw [E4]
 exact Md
@[irreducible] def pE:cG->Out lq:=dG kR
theorem E5:pE=kR:=by unfold pE;exact dR kR
def A7:Spec:=⟨35,.call,ef,ow,true,false,pE⟩
theorem Mg:am Tryz.prog A7:=by
 unfold A7
 rw [E5]
 exact Mf
@[irreducible] def pF:aS->Out bB:=dG f35
theorem E6:pF=f35:=by unfold pF;exact dR f35
def A8:Spec:=⟨48,.call,cB,ch,true,false,pF⟩
theorem Mi:am Tryz.prog A8:=by
 unfold A8
 rw [E6]
 exact Mh
@[irreducible] def pG:eV->Out bB:=dG f36
theorem E7:pG=f36:=by unfold pG;exact dR f36
def A':Spec:=⟨49,.call,iP,ch,true,false,pG⟩
theorem Mk:am Tryz.prog A':=by
 unfold A'
 rw [E7]
 exact Mj
@[irreducible] def tx:eG->Out Bool:=dG kS
theorem E8:tx=kS:=by unfold tx;exact dR kS
def A_:Spec:=⟨53,.call,gZ,.bool,false,false,tx⟩
theorem Mm:am Tryz.prog A_:=by
 unfold A_
 rw [E8]
 exact Ml
@[irreducible] def pH:aS->Out (Int×(Int×(Int×(Int×Unit)))):=dG f41
theorem E9:pH=f41:=by unfold pH;exact dR f41
def Ba:Spec:=⟨50,.call,cB,ov,true,false,pH⟩
theorem Mo:am Tryz.prog Ba:=by
 unfold Ba
 rw [E9]
 exact Mn
@[irreducible] def pI:eV->Out bB:=dG f45
theorem E_:pI=f45:=by unfold pI;exact dR f45
def Bb:Spec:=⟨51,.call,iP,ch,true,false,pI⟩
theorem Mq:am Tryz.prog Bb:=by
 unfold Bb
 rw [E_]
 exact Mp
@[irreducible] def pJ:gS->Out bB:=dG f50
theorem Fb:pJ=f50:=by unfold pJ;exact dR f50
def Bc:Spec:=⟨14,.call,mg,ch,true,false,pJ⟩
theorem Mu:am Tryz.prog Bc:=by
 unfold Bc
 rw [Fb]
 exact Mt
@[irreducible] def pK:jo->Out bB:=dG f51
theorem Fc:pK=f51:=by unfold pK;exact dR f51
def Bd:Spec:=⟨24,.call,Cd,ch,true,false,pK⟩
theorem Mw:am Tryz.prog Bd:=by
 unfold Bd
 rw [Fc]
 exact Mv
@[irreducible] def pL:gU->Out dZ:=dG f52
theorem Fd:pL=f52:=by unfold pL;exact dR f52
def Be:Spec:=⟨39,.call,(.prod .str .unit),fy,true,false,pL⟩
theorem My:am Tryz.prog Be:=by
 unfold Be
 rw [Fd]
 exact Mx
@[irreducible] def tz:m9->Out Bool:=dG f53
theorem Fe:tz=f53:=by unfold tz;exact dR f53
def Bf:Spec:=⟨36,.call,vj,.bool,false,false,tz⟩
theorem MA:am Tryz.prog Bf:=by
 unfold Bf
 rw [Fe]
 exact Mz
@[irreducible] def pM:aS->Out (List UInt8):=dG f54
theorem Ff:pM=f54:=by unfold pM;exact dR f54
def Bg:Spec:=⟨40,.call,cB,.str,false,false,pM⟩
theorem MC:am Tryz.prog Bg:=by
 unfold Bg
 rw [Ff]
 exact MB
def IR:List Spec:=[IB,A0,A1,IC,A7,A3,A4,A5,A8,A',Ba,Bb,Bc,Bd,Be,A2,Bf,A6,A_,Bg]
def FT:List (Nat×List Nat):=[]
def r6 (N:Nat) (x:Unit):Out Bool:=match pt ((2,(([(0,(([4,7]:List Int),())),(0,(([(-1),(-1)]:List Int),())),(1,(([4,1]:List Int),())),(1,(([4,1]:List Int),())),(0,(([(-1),7]:List Int),())),(4,(([8,7]:List Int),()))]:List (Int×aE)),())),(5,())) with | .ret r_1=>(match pu ((2,(([(0,(([4,7]:List Int),())),(0,(([(-1),(-1)]:List Int),())),(1,(([4,1]:List Int),())),(1,(([4,1]:List Int),())),(0,(([(-1),7]:List Int),())),(4,(([8,7]:List Int),()))]:List (Int×aE)),())),(2,(3,()))) with | .ret r_3=>(match pE ((2,(([(0,(([4,7]:List Int),())),(0,(([(-1),(-1)]:List Int),())),(1,(([4,1]:List Int),())),(1,(([4,1]:List Int),())),(0,(([(-1),7]:List Int),())),(4,(([8,7]:List Int),()))]:List (Int×aE)),())),(([([4,7]:List Int),([4,1]:List Int),([4,1]:List Int),([4,1]:List Int),([4,7]:List Int),([8,7]:List Int)]:List (List Int)),())) with | .ret r_5=>(match pA ((2,(([(0,(([4,7]:List Int),())),(0,(([(-1),(-1)]:List Int),())),(1,(([4,1]:List Int),())),(1,(([4,1]:List Int),())),(0,(([(-1),7]:List Int),())),(4,(([8,7]:List Int),()))]:List (Int×aE)),())),()) with | .ret r_7=>(match pB ((2,(([(0,(([4,7]:List Int),())),(0,(([(-1),(-1)]:List Int),())),(1,(([4,1]:List Int),())),(1,(([4,1]:List Int),())),(0,(([(-1),7]:List Int),())),(4,(([8,7]:List Int),()))]:List (Int×aE)),())),()) with | .ret r_9=>(match pC ((2,(([(0,(([4,7]:List Int),())),(0,(([(-1),(-1)]:List Int),())),(1,(([4,1]:List Int),())),(1,(([4,1]:List Int),())),(0,(([(-1),7]:List Int),())),(4,(([8,7]:List Int),()))]:List (Int×aE)),())),()) with | .ret r_11=>(match pF ((2,(([(0,(([4,7]:List Int),())),(0,(([(-1),(-1)]:List Int),())),(1,(([4,1]:List Int),())),(1,(([4,1]:List Int),())),(0,(([(-1),7]:List Int),())),(4,(([8,7]:List Int),()))]:List (Int×aE)),())),()) with | .ret r_13=>(match pG ((2,(([(0,(([4,7]:List Int),())),(0,(([(-1),(-1)]:List Int),())),(1,(([4,1]:List Int),())),(1,(([4,1]:List Int),())),(0,(([(-1),7]:List Int),())),(4,(([8,7]:List Int),()))]:List (Int×aE)),())),(4,(0,()))) with | .ret r_15=>(match pH ((2,(([(0,(([4,7]:List Int),())),(0,(([(-1),(-1)]:List Int),())),(1,(([4,1]:List Int),())),(1,(([4,1]:List Int),())),(0,(([(-1),7]:List Int),())),(4,(([8,7]:List Int),()))]:List (Int×aE)),())),()) with | .ret r_17=>(match pI ((2,(([(0,(([4,7]:List Int),())),(0,(([(-1),(-1)]:List Int),())),(1,(([4,1]:List Int),())),(1,(([4,1]:List Int),())),(0,(([(-1),7]:List Int),())),(4,(([8,7]:List Int),()))]:List (Int×aE)),())),(0,(4,()))) with | .ret r_19=>(match pJ ((2,(([(0,(([4,7]:List Int),())),(0,(([(-1),(-1)]:List Int),())),(1,(([4,1]:List Int),())),(1,(([4,1]:List Int),())),(0,(([(-1),7]:List Int),())),(4,(([8,7]:List Int),()))]:List (Int×aE)),())),(([2,3,5]:List Int),())) with | .ret r_21=>(match pK ((2,(([(0,(([4,7]:List Int),())),(0,(([(-1),(-1)]:List Int),())),(1,(([4,1]:List Int),())),(1,(([4,1]:List Int),())),(0,(([(-1),7]:List Int),())),(4,(([8,7]:List Int),()))]:List (Int×aE)),())),(([([4,7]:List Int),([4,1]:List Int),([4,1]:List Int),([4,1]:List Int),([4,7]:List Int),([8,7]:List Int)]:List (List Int)),(([2,5]:List Int),()))) with | .ret r_23=>(match pL (([99,111,112,105,101,115,32,50,10,99,111,112,121,32,48,32,52,63,10,99,111,112,121,32,48,32,52,49,10,101,110,100,32,48,53,48,10]:List UInt8),()) with | .ret r_25=>(match (r_1.2.1 != 0) with|true=>.ret false|false=>match (r_3.2.1 != 0) with|true=>.ret false|false=>match (r_5.2.1 != 0) with|true=>.ret false|false=>match (r_7.2.1 != 0) with|true=>.ret false|false=>match (r_9.2.1 != 0) with|true=>.ret false|false=>match (r_11.2.1 != 0) with|true=>.ret false|false=>match (r_13.2.1 != 0) with|true=>.ret false|false=>match (r_15.2.1 != 0) with|true=>.ret false|false=>match (r_17.2.2.2.1 != 0) with|true=>.ret false|false=>match (r_19.2.1 != 0) with|true=>.ret false|false=>match (r_21.2.1 != 0) with|true=>.ret false|false=>match (r_23.2.1 != 0) with|true=>.ret false|false=>match (r_25.2.1 != 0) with|true=>.ret false|false=>match jf (r_1.1,(([5,4,0]:List Int),())) with | .ret r_27=>(match (!r_27) with|true=>.ret false|false=>match (r_3.1 != 1) with|true=>.ret false|false=>match tz (r_5.1,(([(1,(1,())),(5,(0,()))]:List (Int×(Int×Unit))),())) with | .ret r_29=>(match (!r_29) with|true=>.ret false|false=>match (r_7.1 != 2) with|true=>.ret false|false=>match tw (r_9.1,(([([4,7]:List Int),([4,1]:List Int),([4,1]:List Int),([4,1]:List Int),([4,7]:List Int),([8,7]:List Int)]:List (List Int)),())) with | .ret r_31=>(match (!r_31) with|true=>.ret false|false=>match (r_11.1 != 2) with|true=>.ret false|false=>match tx (r_13.1,(([1,3,1,1,2,2]:List Int),())) with | .ret r_33=>(match (!r_33) with|true=>.ret false|false=>match jf (r_15.1,(([4,8]:List Int),())) with | .ret r_35=>(match (!r_35) with|true=>.ret false|false=>match (r_17.1==4) with|true=>(match (r_17.2.1==0) with|true=>(match (r_17.2.2.1==1) with|true=>(match jf (r_19.1,(([4,5]:List Int),())) with | .ret r_37=>(match r_37 with|true=>(match jf (r_21.1,(([2,5]:List Int),())) with | .ret r_39=>(match r_39 with|true=>(match jf (r_23.1,(([1,2,5]:List Int),())) with | .ret r_41=>(match r_41 with|true=>(match pM (r_25.1,()) with | .ret r_43=>.ret (r_43==([99,111,112,105,101,115,32,50,10,99,111,112,121,32,48,32,52,63,10,99,111,112,121,32,48,32,52,49,10,101,110,100,32,48,53,48,10]:List UInt8)) | .pan p=>.pan p | .fail=>.fail)|false=>.ret false) | .pan p=>.pan p | .fail=>.fail)|false=>.ret false) | .pan p=>.pan p | .fail=>.fail)|false=>.ret false) | .pan p=>.pan p | .fail=>.fail)|false=>.ret false)|false=>.ret false)|false=>.ret false) | .pan p=>.pan p | .fail=>.fail) | .pan p=>.pan p | .fail=>.fail) | .pan p=>.pan p | .fail=>.fail) | .pan p=>.pan p | .fail=>.fail) | .pan p=>.pan p | .fail=>.fail) | .pan p=>.pan p | .fail=>.fail) | .pan p=>.pan p | .fail=>.fail) | .pan p=>.pan p | .fail=>.fail) | .pan p=>.pan p | .fail=>.fail) | .pan p=>.pan p | .fail=>.fail) | .pan p=>.pan p | .fail=>.fail) | .pan p=>.pan p | .fail=>.fail) | .pan p=>.pan p | .fail=>.fail) | .pan p=>.pan p | .fail=>.fail) | .pan p=>.pan p | .fail=>.fail) | .pan p=>.pan p | .fail=>.fail) | .pan p=>.pan p | .fail=>.fail) | .pan p=>.pan p | .fail=>.fail
theorem NT (N:Nat) (x:Unit):aW Tryz.prog (ah IR) FT N Tryz.f13 false false .unit .bool x=r6 N x:=by kernel_rfl
def f14 (x:Unit):Out Bool:=r6 fuel x
def Vj:Spec:=⟨13,.call,.unit,.bool,false,false,f14⟩
theorem LX:am Tryz.prog Vj:=bi (l:=IR) (arg:=.unit) (res:=.bool) (multi:=false) (own:=false) (F:=f14) mixed (all_cons Mr (all_cons LZ (all_cons L2 (all_cons Ms (all_cons Mg (all_cons L7 (all_cons L9 (all_cons Mc (all_cons Mi (all_cons Mk (all_cons Mo (all_cons Mq (all_cons Mu (all_cons Mw (all_cons My (all_cons L5 (all_cons MA (all_cons Me (all_cons Mm (all_cons MC aO)))))))))))))))))))) Tryz.func13 rfl FT fun x _=>⟨fuel,NT fuel x⟩
@[irreducible] def tu:Unit->Out Bool:=dG f14
theorem EW:tu=f14:=by unfold tu;exact dR f14
def Iw:Spec:=⟨13,.call,.unit,.bool,false,false,tu⟩
theorem WC:am Tryz.prog Iw:=by
 unfold Iw
 rw [EW]
 exact LX
end Go.V
end
