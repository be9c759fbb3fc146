/- Part. -/
import Derived.Test.YtmkbnifehdhbbaaGreatDoorDH
import Derived.Test.YtmkbnifehdhbbaaGreatDoorC52
import Derived.Test.YtmkbnifehdhbbaaGreatDoorCX
import Derived.Test.YtmkbnifehdhbbaaGreatDoorDE
set_option linter.all false
noncomputable section
namespace Go.V
open Go.Proofs
def dG {α:Type} (x:α):α:=Classical.choose (⟨x,rfl⟩:∃ y,y=x)
theorem dR {α:Type} (x:α):dG x=x:=Classical.choose_spec (⟨x,rfl⟩:∃ y,y=x)
@[irreducible] def oS:dZ->Out bB:=dG f15
theorem EI:oS=f15:=by unfold oS;exact dR f15
def AK:Spec:=⟨15,.call,fy,ch,true,false,oS⟩
theorem LE:am Tryz.prog AK:=by
 unfold AK
 rw [EI]
 exact LD
@[irreducible] def oT:eV->Out (Int×(Int×Unit)):=dG f16
theorem EJ:oT=f16:=by unfold oT;exact dR f16
def AM:Spec:=⟨16,.call,iM,eY,true,false,oT⟩
theorem LG:am Tryz.prog AM:=by
 unfold AM
 rw [EJ]
 exact LF
@[irreducible] def jb:eG->Out Bool:=dG f19
theorem EL:jb=f19:=by unfold jb;exact dR f19
def AO:Spec:=⟨19,.call,gY,.bool,false,false,jb⟩
theorem LK:am Tryz.prog AO:=by
 unfold AO
 rw [EL]
 exact DV
@[irreducible] def oV:aS->Out (Int×(Int×Unit)):=dG f24
theorem EM:oV=f24:=by unfold oV;exact dR f24
def AP:Spec:=⟨24,.call,cB,eY,true,false,oV⟩
theorem LN:am Tryz.prog AP:=by
 unfold AP
 rw [EM]
 exact LM
@[irreducible] def oW:aS->Out kY:=dG f25
theorem EN:oW=f25:=by unfold oW;exact dR f25
def AQ:Spec:=⟨25,.call,cB,rr,true,false,oW⟩
theorem LP:am Tryz.prog AQ:=by
 unfold AQ
 rw [EN]
 exact LO
@[irreducible] def oZ:aS->Out (Int×(Int×Unit)):=dG f26
theorem EO:oZ=f26:=by unfold oZ;exact dR f26
def AR:Spec:=⟨26,.call,cB,eY,true,false,oZ⟩
theorem LR:am Tryz.prog AR:=by
 unfold AR
 rw [EO]
 exact LQ
@[irreducible] def sW:mQ->Out Bool:=dG f28
theorem EP:sW=f28:=by unfold sW;exact dR f28
def AS:Spec:=⟨28,.call,uS,.bool,false,false,sW⟩
theorem LW:am Tryz.prog AS:=by
 unfold AS
 rw [EP]
 exact LS
@[irreducible] def o_:cG->Out kX:=dG f33
theorem EQ:o_=f33:=by unfold o_;exact dR f33
def AT:Spec:=⟨33,.call,ef,nZ,true,false,o_⟩
theorem LY:am Tryz.prog AT:=by
 unfold AT
 rw [EQ]
 exact LX
@[irreducible] def pg:aS->Out bB:=dG f35
theorem ER:pg=f35:=by unfold pg;exact dR f35
def AU:Spec:=⟨35,.call,cB,ch,true,false,pg⟩
theorem L1:am Tryz.prog AU:=by
 unfold AU
 rw [ER]
 exact LZ
@[irreducible] def ph:eV->Out bB:=dG f36
theorem ES:ph=f36:=by unfold ph;exact dR f36
def AV:Spec:=⟨36,.call,iM,ch,true,false,ph⟩
theorem L3:am Tryz.prog AV:=by
 unfold AV
 rw [ES]
 exact L2
@[irreducible] def sX:eG->Out Bool:=dG f37
theorem ET:sX=f37:=by unfold sX;exact dR f37
def AW:Spec:=⟨37,.call,gY,.bool,false,false,sX⟩
theorem L5:am Tryz.prog AW:=by
 unfold AW
 rw [ET]
 exact L4
@[irreducible] def pi:aS->Out (Int×(Int×(Int×(Int×Unit)))):=dG f41
theorem EU:pi=f41:=by unfold pi;exact dR f41
def AX:Spec:=⟨41,.call,cB,nY,true,false,pi⟩
theorem L7:am Tryz.prog AX:=by
 unfold AX
 rw [EU]
 exact L6
@[irreducible] def pk:eV->Out bB:=dG f45
theorem EV:pk=f45:=by unfold pk;exact dR f45
def AY:Spec:=⟨45,.call,iM,ch,true,false,pk⟩
theorem L9:am Tryz.prog AY:=by
 unfold AY
 rw [EV]
 exact L8
@[irreducible] def pn:gR->Out bB:=dG f50
theorem EW:pn=f50:=by unfold pn;exact dR f50
def AZ:Spec:=⟨50,.call,lQ,ch,true,false,pn⟩
theorem Me:am Tryz.prog AZ:=by
 unfold AZ
 rw [EW]
 exact Md
@[irreducible] def pq:jk->Out bB:=dG f51
theorem EX:pq=f51:=by unfold pq;exact dR f51
def A0:Spec:=⟨51,.call,B0,ch,true,false,pq⟩
theorem Mg:am Tryz.prog A0:=by
 unfold A0
 rw [EX]
 exact Mf
@[irreducible] def pt:gS->Out dZ:=dG f52
theorem EY:pt=f52:=by unfold pt;exact dR f52
def A1:Spec:=⟨52,.call,(.prod .str .unit),fy,true,false,pt⟩
theorem Mi:am Tryz.prog A1:=by
 unfold A1
 rw [EY]
 exact Mh
@[irreducible] def sY:mP->Out Bool:=dG f53
theorem EZ:sY=f53:=by unfold sY;exact dR f53
def A2:Spec:=⟨53,.call,uT,.bool,false,false,sY⟩
theorem Mk:am Tryz.prog A2:=by
 unfold A2
 rw [EZ]
 exact Mj
@[irreducible] def pu:aS->Out (List UInt8):=dG f54
theorem E0:pu=f54:=by unfold pu;exact dR f54
def A3:Spec:=⟨54,.call,cB,.str,false,false,pu⟩
theorem Mm:am Tryz.prog A3:=by
 unfold A3
 rw [E0]
 exact Ml
def IB:List Spec:=[Ik,AK,AM,Il,AT,AP,AQ,AR,AU,AV,AX,AY,AZ,A0,A1,AO,A2,AS,AW,A3]
def FD:List (Nat×List Nat):=[]
def rL (N:Nat) (x:Unit):Out Bool:=match oS ((2,(([(0,(([4,7]:List Int),())),(0,(([(-1),(-1)]:List Int),())),(1,(([4,1]:List Int),())),(1,(([4,1]:List Int),())),(0,(([(-1),7]:List Int),())),(4,(([8,7]:List Int),()))]:List (Int×aE)),())),(5,())) with | .ret r_1=>(match oT ((2,(([(0,(([4,7]:List Int),())),(0,(([(-1),(-1)]:List Int),())),(1,(([4,1]:List Int),())),(1,(([4,1]:List Int),())),(0,(([(-1),7]:List Int),())),(4,(([8,7]:List Int),()))]:List (Int×aE)),())),(2,(3,()))) with | .ret r_3=>(match o_ ((2,(([(0,(([4,7]:List Int),())),(0,(([(-1),(-1)]:List Int),())),(1,(([4,1]:List Int),())),(1,(([4,1]:List Int),())),(0,(([(-1),7]:List Int),())),(4,(([8,7]:List Int),()))]:List (Int×aE)),())),(([([4,7]:List Int),([4,1]:List Int),([4,1]:List Int),([4,1]:List Int),([4,7]:List Int),([8,7]:List Int)]:List (List Int)),())) with | .ret r_5=>(match oV ((2,(([(0,(([4,7]:List Int),())),(0,(([(-1),(-1)]:List Int),())),(1,(([4,1]:List Int),())),(1,(([4,1]:List Int),())),(0,(([(-1),7]:List Int),())),(4,(([8,7]:List Int),()))]:List (Int×aE)),())),()) with | .ret r_7=>(match oW ((2,(([(0,(([4,7]:List Int),())),(0,(([(-1),(-1)]:List Int),())),(1,(([4,1]:List Int),())),(1,(([4,1]:List Int),())),(0,(([(-1),7]:List Int),())),(4,(([8,7]:List Int),()))]:List (Int×aE)),())),()) with | .ret r_9=>(match oZ ((2,(([(0,(([4,7]:List Int),())),(0,(([(-1),(-1)]:List Int),())),(1,(([4,1]:List Int),())),(1,(([4,1]:List Int),())),(0,(([(-1),7]:List Int),())),(4,(([8,7]:List Int),()))]:List (Int×aE)),())),()) with | .ret r_11=>(match pg ((2,(([(0,(([4,7]:List Int),())),(0,(([(-1),(-1)]:List Int),())),(1,(([4,1]:List Int),())),(1,(([4,1]:List Int),())),(0,(([(-1),7]:List Int),())),(4,(([8,7]:List Int),()))]:List (Int×aE)),())),()) with | .ret r_13=>(match ph ((2,(([(0,(([4,7]:List Int),())),(0,(([(-1),(-1)]:List Int),())),(1,(([4,1]:List Int),())),(1,(([4,1]:List Int),())),(0,(([(-1),7]:List Int),())),(4,(([8,7]:List Int),()))]:List (Int×aE)),())),(4,(0,()))) with | .ret r_15=>(match pi ((2,(([(0,(([4,7]:List Int),())),(0,(([(-1),(-1)]:List Int),())),(1,(([4,1]:List Int),())),(1,(([4,1]:List Int),())),(0,(([(-1),7]:List Int),())),(4,(([8,7]:List Int),()))]:List (Int×aE)),())),()) with | .ret r_17=>(match pk ((2,(([(0,(([4,7]:List Int),())),(0,(([(-1),(-1)]:List Int),())),(1,(([4,1]:List Int),())),(1,(([4,1]:List Int),())),(0,(([(-1),7]:List Int),())),(4,(([8,7]:List Int),()))]:List (Int×aE)),())),(0,(4,()))) with | .ret r_19=>(match pn ((2,(([(0,(([4,7]:List Int),())),(0,(([(-1),(-1)]:List Int),())),(1,(([4,1]:List Int),())),(1,(([4,1]:List Int),())),(0,(([(-1),7]:List Int),())),(4,(([8,7]:List Int),()))]:List (Int×aE)),())),(([2,3,5]:List Int),())) with | .ret r_21=>(match pq ((2,(([(0,(([4,7]:List Int),())),(0,(([(-1),(-1)]:List Int),())),(1,(([4,1]:List Int),())),(1,(([4,1]:List Int),())),(0,(([(-1),7]:List Int),())),(4,(([8,7]:List Int),()))]:List (Int×aE)),())),(([([4,7]:List Int),([4,1]:List Int),([4,1]:List Int),([4,1]:List Int),([4,7]:List Int),([8,7]:List Int)]:List (List Int)),(([2,5]:List Int),()))) with | .ret r_23=>(match pt (([99,111,112,105,101,115,32,50,10,99,111,112,121,32,48,32,52,63,10,99,111,112,121,32,48,32,52,49,10,101,110,100,32,48,53,48,10]:List UInt8),()) with | .ret r_25=>(match (r_1.2.1 != 0) with|true=>.ret false|false=>match (r_3.2.1 != 0) with|true=>.ret false|false=>match (r_5.2.1 != 0) with|true=>.ret false|false=>match (r_7.2.1 != 0) with|true=>.ret false|false=>match (r_9.2.1 != 0) with|true=>.ret false|false=>match (r_11.2.1 != 0) with|true=>.ret false|false=>match (r_13.2.1 != 0) with|true=>.ret false|false=>match (r_15.2.1 != 0) with|true=>.ret false|false=>match (r_17.2.2.2.1 != 0) with|true=>.ret false|false=>match (r_19.2.1 != 0) with|true=>.ret false|false=>match (r_21.2.1 != 0) with|true=>.ret false|false=>match (r_23.2.1 != 0) with|true=>.ret false|false=>match (r_25.2.1 != 0) with|true=>.ret false|false=>match jb (r_1.1,(([5,4,0]:List Int),())) with | .ret r_27=>(match (!r_27) with|true=>.ret false|false=>match (r_3.1 != 1) with|true=>.ret false|false=>match sY (r_5.1,(([(1,(1,())),(5,(0,()))]:List (Int×(Int×Unit))),())) with | .ret r_29=>(match (!r_29) with|true=>.ret false|false=>match (r_7.1 != 2) with|true=>.ret false|false=>match sW (r_9.1,(([([4,7]:List Int),([4,1]:List Int),([4,1]:List Int),([4,1]:List Int),([4,7]:List Int),([8,7]:List Int)]:List (List Int)),())) with | .ret r_31=>(match (!r_31) with|true=>.ret false|false=>match (r_11.1 != 2) with|true=>.ret false|false=>match sX (r_13.1,(([1,3,1,1,2,2]:List Int),())) with | .ret r_33=>(match (!r_33) with|true=>.ret false|false=>match jb (r_15.1,(([4,8]:List Int),())) with | .ret r_35=>(match (!r_35) with|true=>.ret false|false=>match (r_17.1==4) with|true=>(match (r_17.2.1==0) with|true=>(match (r_17.2.2.1==1) with|true=>(match jb (r_19.1,(([4,5]:List Int),())) with | .ret r_37=>(match r_37 with|true=>(match jb (r_21.1,(([2,5]:List Int),())) with | .ret r_39=>(match r_39 with|true=>(match jb (r_23.1,(([1,2,5]:List Int),())) with | .ret r_41=>(match r_41 with|true=>(match pu (r_25.1,()) with | .ret r_43=>.ret (r_43==([99,111,112,105,101,115,32,50,10,99,111,112,121,32,48,32,52,63,10,99,111,112,121,32,48,32,52,49,10,101,110,100,32,48,53,48,10]:List UInt8)) | .pan p=>.pan p | .fail=>.fail)|false=>.ret false) | .pan p=>.pan p | .fail=>.fail)|false=>.ret false) | .pan p=>.pan p | .fail=>.fail)|false=>.ret false) | .pan p=>.pan p | .fail=>.fail)|false=>.ret false)|false=>.ret false)|false=>.ret false) | .pan p=>.pan p | .fail=>.fail) | .pan p=>.pan p | .fail=>.fail) | .pan p=>.pan p | .fail=>.fail) | .pan p=>.pan p | .fail=>.fail) | .pan p=>.pan p | .fail=>.fail) | .pan p=>.pan p | .fail=>.fail) | .pan p=>.pan p | .fail=>.fail) | .pan p=>.pan p | .fail=>.fail) | .pan p=>.pan p | .fail=>.fail) | .pan p=>.pan p | .fail=>.fail) | .pan p=>.pan p | .fail=>.fail) | .pan p=>.pan p | .fail=>.fail) | .pan p=>.pan p | .fail=>.fail) | .pan p=>.pan p | .fail=>.fail) | .pan p=>.pan p | .fail=>.fail) | .pan p=>.pan p | .fail=>.fail) | .pan p=>.pan p | .fail=>.fail) | .pan p=>.pan p | .fail=>.fail
theorem ND (N:Nat) (x:Unit):aW Tryz.prog (ah IB) FD N Tryz.f14 false false .unit .bool x=rL N x:=by kernel_rfl
def f14 (x:Unit):Out Bool:=rL fuel x
def U6:Spec:=⟨14,.call,.unit,.bool,false,false,f14⟩
theorem LC:am Tryz.prog U6:=bi (l:=IB) (arg:=.unit) (res:=.bool) (multi:=false) (own:=false) (F:=f14) mixed (all_cons L_ (all_cons LE (all_cons LG (all_cons Mc (all_cons LY (all_cons LN (all_cons LP (all_cons LR (all_cons L1 (all_cons L3 (all_cons L7 (all_cons L9 (all_cons Me (all_cons Mg (all_cons Mi (all_cons LK (all_cons Mk (all_cons LW (all_cons L5 (all_cons Mm aO)))))))))))))))))))) Tryz.func14 rfl FD fun x _=>⟨fuel,ND fuel x⟩
@[irreducible] def sV:Unit->Out Bool:=dG f14
theorem EH:sV=f14:=by unfold sV;exact dR f14
def If:Spec:=⟨14,.call,.unit,.bool,false,false,sV⟩
theorem Wj:am Tryz.prog If:=by
 unfold If
 rw [EH]
 exact LC
end Go.V
end
