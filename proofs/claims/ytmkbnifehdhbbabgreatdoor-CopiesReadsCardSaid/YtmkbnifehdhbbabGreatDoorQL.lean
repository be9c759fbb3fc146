/- Part. -/
import Derived.Test.YtmkbnifehdhbbabGreatDoorQJ
import Derived.Test.YtmkbnifehdhbbabGreatDoorK7v
set_option linter.all false
noncomputable section
namespace Go.V
open Go.Proofs
abbrev tA:ac:=(((2:Int),(([((0:Int),(([(4:Int),(7:Int)]:List Int),())),((0:Int),(([(-1:Int),(-1:Int)]:List Int),())),((1:Int),(([(4:Int),(1:Int)]:List Int),())),((1:Int),(([(4:Int),(1:Int)]:List Int),())),((0:Int),(([(-1:Int),(7:Int)]:List Int),())),((4:Int),(([(8:Int),(7:Int)]:List Int),()))]:List (Int×aE)),())):ac)
abbrev sA:List (List Int):=([([(4:Int),(7:Int)]:List Int),([(4:Int),(1:Int)]:List Int),([(4:Int),(1:Int)]:List Int),([(4:Int),(1:Int)]:List Int),([(4:Int),(7:Int)]:List Int),([(8:Int),(7:Int)]:List Int)]:List (List Int))
abbrev xA:List UInt8:=([99,111,112,105,101,115,32,50,10,99,111,112,121,32,48,32,52,63,10,99,111,112,121,32,48,32,52,49,10,101,110,100,32,48,53,48,10]:List UInt8)
abbrev tR:ac:=(((2:Int),(([((0:Int),(([(4:Int),(-1:Int)]:List Int),())),((0:Int),(([(4:Int),(1:Int)]:List Int),()))]:List (Int×aE)),())):ac)
def JH (t:ac):Bool:=decide (1<=t.1/\t.1<=3) && (decide (1<=t.2.1.length/\t.2.1.length<=8) && (List.range t.2.1.length).all fun i=>decide (0<=(bW t i).1/\(bW t i).1<=(if (i:Int) - 1 > 0 then (i:Int) - 1 else 0)) && (decide (((bW t i).2.1.length:Int)=t.1) && (List.range (bW t i).2.1.length).all fun p=>decide ((bW t i).2.1.getD p 0 = -1\/(0<=(bW t i).2.1.getD p 0/\(bW t i).2.1.getD p 0<=9))))
theorem JI {t:ac} (h:JH t=true):TreeOK t:=by
 unfold JH at h;rw [Bool.and_eq_true,Bool.and_eq_true,List.all_eq_true,decide_eq_true_eq,decide_eq_true_eq] at h;refine ⟨h.1,h.2.1,fun i hi=>?_⟩;have h2:=h.2.2 i (List.mem_range.2 hi);rw [Bool.and_eq_true,Bool.and_eq_true,List.all_eq_true,decide_eq_true_eq,decide_eq_true_eq] at h2;exact ⟨h2.1,h2.2.1,fun p hp=>of_decide_eq_true (h2.2.2 p (List.mem_range.2 hp))⟩
def Jm (t:ac) (s:List (List Int)):Bool:=decide (s.length=t.2.1.length) && (List.range s.length).all fun i=>decide (((s.getD i []).length:Int)=t.1) && (List.range (s.getD i []).length).all fun p=>decide (0<=dX s i p/\dX s i p<=9) && cv t p i (dX s i p)
theorem V8 {t:ac} {s:List (List Int)} (h:Jm t s=true):StoryOK t s:=by
 unfold Jm at h;rw [Bool.and_eq_true,List.all_eq_true,decide_eq_true_eq] at h;refine ⟨h.1,fun i hi=>?_⟩;have h2:=h.2 i (List.mem_range.2 hi);rw [Bool.and_eq_true,List.all_eq_true,decide_eq_true_eq] at h2;refine ⟨h2.1,fun p hp=>?_⟩;have h3:=h2.2 p (List.mem_range.2 hp);rw [Bool.and_eq_true,decide_eq_true_eq] at h3;exact h3
def FJ (t:ac) (l:List Int):Bool:=(List.range l.length).all fun i=>decide (1<=l.getD i 0) && (decide (l.getD i 0<t.2.1.length) && decide (0<i->l.getD (i - 1) 0<l.getD i 0))
theorem FK {t:ac} {l:List Int} (h:FJ t l=true):iW t l:=by
 unfold FJ at h;rw [List.all_eq_true] at h;intro i hi;have h2:=h i (List.mem_range.2 hi);rw [Bool.and_eq_true,Bool.and_eq_true,decide_eq_true_eq,decide_eq_true_eq,decide_eq_true_eq] at h2;exact ⟨h2.1,h2.2.1,h2.2.2⟩
theorem hA:TreeOK tA:=JI (by kernel_rfl)
theorem hR:TreeOK tR:=JI (by kernel_rfl)
theorem hS:StoryOK tA sA:=V8 (by kernel_rfl)
theorem RP:pt (tA,((5:Int),())) = .ret ([5,4,0],(0,())):=by
 rw [EX,P_ hA (by decide) (by decide)];kernel_rfl
theorem RQ:pu (tA,((2:Int),((3:Int),()))) = .ret (1,(0,())):=by
 rw [EY,Qa hA ⟨by decide,by decide⟩ ⟨by decide,by decide⟩];kernel_rfl
theorem RV:pE (tA,(sA,())) = .ret ([(1,(1,())),(5,(0,()))],(0,())):=by
 rw [E5,Qh hA hS];kernel_rfl
theorem RR:pA (tA,()) = .ret (2,(0,())):=by
 rw [E1,Qc hA];kernel_rfl
theorem RS:pB (tA,()) = .ret (sA,(0,())):=by
 rw [E2,Qd hA];kernel_rfl
theorem RU:pC (tA,()) = .ret (2,(0,())):=by
 rw [E3,Qe hA];kernel_rfl
def JZ (t:ac):List Int:=(List.range t.2.1.length).map fun i=>kA t i t.1.toNat
theorem LE {t:ac} (ht:TreeOK t):oS t=JZ t:=by
 unfold oS JZ;exact List.map_congr_left fun i _=>(Ww ht i).symm
theorem RW:pF (tA,()) = .ret ([1,3,1,1,2,2],(0,())):=by
 rw [E6,Qi hA,LE hA];kernel_rfl
theorem RX:pG (tA,((4:Int),((0:Int),()))) = .ret ([4,8],(0,())):=by
 rw [E7];refine Eq.trans (Qj hA (i:=4) (p:=0) (by decide) (by decide)) ?_
 kernel_rfl
theorem RY:pH (tA,()) = .ret (4,(0,(1,(0,())))):=by
 rw [E9,Ql hA];kernel_rfl
theorem RZ:pI (tA,((0:Int),((4:Int),()))) = .ret ([4,5],(0,())):=by
 rw [E_];refine Eq.trans (Qm hA (p:=0) (by decide) (right:=4) (by decide)) ?_
 kernel_rfl
theorem R_:pJ (tA,(([(2:Int),(3:Int),(5:Int)]:List Int),())) = .ret ([2,5],(0,())):=by
 rw [Fb,Qn hA (FK (by kernel_rfl))];kernel_rfl
theorem Sc:pK (tA,(sA,(([(2:Int),(5:Int)]:List Int),()))) = .ret ([1,2,5],(0,())):=by
 rw [Fc,Qo hA hS (FK (by kernel_rfl))];kernel_rfl
theorem RO:f90 (xA,()) = .ret tR:=by kernel_rfl
theorem Se:pL (xA,()) = .ret (tR,(0,())):=by
 rw [Fd];show r7 fuel (xA,())=_;unfold r7;simp only [RO,hR.t55,Bool.not_true];rfl
theorem Sf:pM (tR,()) = .ret xA:=by rw [Ff];kernel_rfl
theorem pw {a b:List Int} (h:a.length<1000000):jf (a,(b,())) = .ret (decide (a=b)):=by rw [E0];exact EZ a b h
theorem RN:f14 () = .ret true:=by
 show r6 fuel ()=_;unfold r6;rw [RP];simp only;rw [RQ];simp only;rw [RV];simp only;rw [RR];simp only;rw [RS];simp only;rw [RU];simp only;rw [RW];simp only;rw [RX];simp only;rw [RY];simp only;rw [RZ];simp only;rw [R_];simp only;rw [Sc];simp only;rw [Se];simp only;rw [Fe,E4,E8];have n0:((0:Int) != 0)=false:=rfl;simp only [n0];rw [pw (by decide),Qp _ _ (by decide),Qf _ _ (by decide) (by decide),Qk _ _ (by decide)];simp only [pw (a:=[4,8]) (b:=[4,8]) (by decide),pw (a:=[4,5]) (b:=[4,5]) (by decide),pw (a:=[2,5]) (b:=[2,5]) (by decide),pw (a:=[1,2,5]) (b:=[1,2,5]) (by decide),Sf];rfl
theorem WL:tu () = .ret true:=by rw [EW];exact RN
end Go.V
end
