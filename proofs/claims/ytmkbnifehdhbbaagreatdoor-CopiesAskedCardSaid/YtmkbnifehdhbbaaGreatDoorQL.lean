/- Part. -/
import Derived.Test.YtmkbnifehdhbbaaGreatDoorQJ
import Derived.Test.YtmkbnifehdhbbaaGreatDoorK7v
set_option linter.all false
noncomputable section
namespace Go.V
open Go.Proofs
abbrev tA:ac:=(((2:Int),(([((0:Int),(([(4:Int),(7:Int)]:List Int),())),((0:Int),(([(-1:Int),(-1:Int)]:List Int),())),((1:Int),(([(4:Int),(1:Int)]:List Int),())),((1:Int),(([(4:Int),(1:Int)]:List Int),())),((0:Int),(([(-1:Int),(7:Int)]:List Int),())),((4:Int),(([(8:Int),(7:Int)]:List Int),()))]:List (Int×aE)),())):ac)
abbrev sA:List (List Int):=([([(4:Int),(7:Int)]:List Int),([(4:Int),(1:Int)]:List Int),([(4:Int),(1:Int)]:List Int),([(4:Int),(1:Int)]:List Int),([(4:Int),(7:Int)]:List Int),([(8:Int),(7:Int)]:List Int)]:List (List Int))
abbrev xA:List UInt8:=([99,111,112,105,101,115,32,50,10,99,111,112,121,32,48,32,52,63,10,99,111,112,121,32,48,32,52,49,10,101,110,100,32,48,53,48,10]:List UInt8)
abbrev tR:ac:=(((2:Int),(([((0:Int),(([(4:Int),(-1:Int)]:List Int),())),((0:Int),(([(4:Int),(1:Int)]:List Int),()))]:List (Int×aE)),())):ac)
def Jq (t:ac):Bool:=decide (1<=t.1/\t.1<=3) && (decide (1<=t.2.1.length/\t.2.1.length<=8) && (List.range t.2.1.length).all fun i=>decide (0<=(bW t i).1/\(bW t i).1<=(if (i:Int) - 1 > 0 then (i:Int) - 1 else 0)) && (decide (((bW t i).2.1.length:Int)=t.1) && (List.range (bW t i).2.1.length).all fun p=>decide ((bW t i).2.1.getD p 0 = -1\/(0<=(bW t i).2.1.getD p 0/\(bW t i).2.1.getD p 0<=9))))
theorem Jr {t:ac} (h:Jq t=true):TreeOK t:=by
 unfold Jq at h;rw [Bool.and_eq_true,Bool.and_eq_true,List.all_eq_true,decide_eq_true_eq,decide_eq_true_eq] at h;refine ⟨h.1,h.2.1,fun i hi=>?_⟩;have h2:=h.2.2 i (List.mem_range.2 hi);rw [Bool.and_eq_true,Bool.and_eq_true,List.all_eq_true,decide_eq_true_eq,decide_eq_true_eq] at h2;exact ⟨h2.1,h2.2.1,fun p hp=>of_decide_eq_true (h2.2.2 p (List.mem_range.2 hp))⟩
def I8 (t:ac) (s:List (List Int)):Bool:=decide (s.length=t.2.1.length) && (List.range s.length).all fun i=>decide (((s.getD i []).length:Int)=t.1) && (List.range (s.getD i []).length).all fun p=>decide (0<=dX s i p/\dX s i p<=9) && cv t p i (dX s i p)
theorem Vt {t:ac} {s:List (List Int)} (h:I8 t s=true):StoryOK t s:=by
 unfold I8 at h;rw [Bool.and_eq_true,List.all_eq_true,decide_eq_true_eq] at h;refine ⟨h.1,fun i hi=>?_⟩;have h2:=h.2 i (List.mem_range.2 hi);rw [Bool.and_eq_true,List.all_eq_true,decide_eq_true_eq] at h2;refine ⟨h2.1,fun p hp=>?_⟩;have h3:=h2.2 p (List.mem_range.2 hp);rw [Bool.and_eq_true,decide_eq_true_eq] at h3;exact h3
def Ft (t:ac) (l:List Int):Bool:=(List.range l.length).all fun i=>decide (1<=l.getD i 0) && (decide (l.getD i 0<t.2.1.length) && decide (0<i->l.getD (i - 1) 0<l.getD i 0))
theorem Fu {t:ac} {l:List Int} (h:Ft t l=true):iT t l:=by
 unfold Ft at h;rw [List.all_eq_true] at h;intro i hi;have h2:=h i (List.mem_range.2 hi);rw [Bool.and_eq_true,Bool.and_eq_true,decide_eq_true_eq,decide_eq_true_eq,decide_eq_true_eq] at h2;exact ⟨h2.1,h2.2.1,h2.2.2⟩
theorem hA:TreeOK tA:=Jr (by kernel_rfl)
theorem hR:TreeOK tR:=Jr (by kernel_rfl)
theorem hS:StoryOK tA sA:=Vt (by kernel_rfl)
theorem Rw:oS (tA,((5:Int),())) = .ret ([5,4,0],(0,())):=by
 rw [EI,Po hA (by decide) (by decide)];kernel_rfl
theorem Rx:oT (tA,((2:Int),((3:Int),()))) = .ret (1,(0,())):=by
 rw [EJ,Pp hA ⟨by decide,by decide⟩ ⟨by decide,by decide⟩];kernel_rfl
theorem RC:o_ (tA,(sA,())) = .ret ([(1,(1,())),(5,(0,()))],(0,())):=by
 rw [EQ,Px hA hS];kernel_rfl
theorem Ry:oV (tA,()) = .ret (2,(0,())):=by
 rw [EM,Pr hA];kernel_rfl
theorem Rz:oW (tA,()) = .ret (sA,(0,())):=by
 rw [EN,Ps hA];kernel_rfl
theorem RB:oZ (tA,()) = .ret (2,(0,())):=by
 rw [EO,Pu hA];kernel_rfl
def JJ (t:ac):List Int:=(List.range t.2.1.length).map fun i=>kt t i t.1.toNat
theorem Lo {t:ac} (ht:TreeOK t):oE t=JJ t:=by
 unfold oE JJ;exact List.map_congr_left fun i _=>(Wf ht i).symm
theorem RE:pg (tA,()) = .ret ([1,3,1,1,2,2],(0,())):=by
 rw [ER,Py hA,Lo hA];kernel_rfl
theorem RF:ph (tA,((4:Int),((0:Int),()))) = .ret ([4,8],(0,())):=by
 rw [ES];refine Eq.trans (Pz hA (i:=4) (p:=0) (by decide) (by decide)) ?_
 kernel_rfl
theorem RG:pi (tA,()) = .ret (4,(0,(1,(0,())))):=by
 rw [EU,P1 hA];kernel_rfl
theorem RH:pk (tA,((0:Int),((4:Int),()))) = .ret ([4,5],(0,())):=by
 rw [EV];refine Eq.trans (P2 hA (p:=0) (by decide) (right:=4) (by decide)) ?_
 kernel_rfl
theorem RJ:pn (tA,(([(2:Int),(3:Int),(5:Int)]:List Int),())) = .ret ([2,5],(0,())):=by
 rw [EW,P' hA (Fu (by kernel_rfl))];kernel_rfl
theorem RL:pq (tA,(sA,(([(2:Int),(5:Int)]:List Int),()))) = .ret ([1,2,5],(0,())):=by
 rw [EX,P_ hA hS (Fu (by kernel_rfl))];kernel_rfl
theorem Rv:f90 (xA,()) = .ret tR:=by kernel_rfl
theorem RM:pt (xA,()) = .ret (tR,(0,())):=by
 rw [EY];show rM fuel (xA,())=_;unfold rM;simp only [Rv,hR.t55,Bool.not_true];rfl
theorem RN:pu (tR,()) = .ret xA:=by rw [E0];kernel_rfl
theorem oU {a b:List Int} (h:a.length<1000000):jb (a,(b,())) = .ret (decide (a=b)):=by rw [EL];exact EK a b h
theorem Ru:f14 () = .ret true:=by
 show rL fuel ()=_;unfold rL;rw [Rw];simp only;rw [Rx];simp only;rw [RC];simp only;rw [Ry];simp only;rw [Rz];simp only;rw [RB];simp only;rw [RE];simp only;rw [RF];simp only;rw [RG];simp only;rw [RH];simp only;rw [RJ];simp only;rw [RL];simp only;rw [RM];simp only;rw [EZ,EP,ET];have n0:((0:Int) != 0)=false:=rfl;simp only [n0];rw [oU (by decide),Qa _ _ (by decide),Pv _ _ (by decide) (by decide),P0 _ _ (by decide)];simp only [oU (a:=[4,8]) (b:=[4,8]) (by decide),oU (a:=[4,5]) (b:=[4,5]) (by decide),oU (a:=[2,5]) (b:=[2,5]) (by decide),oU (a:=[1,2,5]) (b:=[1,2,5]) (by decide),RN];rfl
theorem Wq:sV () = .ret true:=by rw [EH];exact Ru
end Go.V
end
