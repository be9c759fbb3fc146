/- A part of the proof of a law of the copies. -/
import Derived.Test.YtmkbnifehdhbbabGreatDoorQJ
import Derived.Test.YtmkbnifehdhbbabGreatDoorK7v
set_option linter.all false
noncomputable section
namespace Go.V
open Go.Proofs
abbrev tA:TREE:=(((2:Int),(([((0:Int),(([(4:Int),(7:Int)]:List Int),())),((0:Int),(([(-1:Int),(-1:Int)]:List Int),())),((1:Int),(([(4:Int),(1:Int)]:List Int),())),((1:Int),(([(4:Int),(1:Int)]:List Int),())),((0:Int),(([(-1:Int),(7:Int)]:List Int),())),((4:Int),(([(8:Int),(7:Int)]:List Int),()))]:List (Int×lt0)),())):TREE)
abbrev sA:List (List Int):=([([(4:Int),(7:Int)]:List Int),([(4:Int),(1:Int)]:List Int),([(4:Int),(1:Int)]:List Int),([(4:Int),(1:Int)]:List Int),([(4:Int),(7:Int)]:List Int),([(8:Int),(7:Int)]:List Int)]:List (List Int))
abbrev xA:List UInt8:=([99,111,112,105,101,115,32,50,10,99,111,112,121,32,48,32,52,63,10,99,111,112,121,32,48,32,52,49,10,101,110,100,32,48,53,48,10]:List UInt8)
abbrev tR:TREE:=(((2:Int),(([((0:Int),(([(4:Int),(-1:Int)]:List Int),())),((0:Int),(([(4:Int),(1:Int)]:List Int),()))]:List (Int×lt0)),())):TREE)
def treeB (t:TREE):Bool:=decide (1<=t.1/\t.1<=3) && (decide (1<=t.2.1.length/\t.2.1.length<=8) && (List.range t.2.1.length).all fun i=>decide (0<=(nodeAt t i).1/\(nodeAt t i).1<=(if (i:Int) - 1 > 0 then (i:Int) - 1 else 0)) && (decide (((nodeAt t i).2.1.length:Int)=t.1) && (List.range (nodeAt t i).2.1.length).all fun p=>decide ((nodeAt t i).2.1.getD p 0 = -1\/(0<=(nodeAt t i).2.1.getD p 0/\(nodeAt t i).2.1.getD p 0<=9))))
theorem treeB_ok {t:TREE} (h:treeB t=true):TreeOK t:=by
 unfold treeB at h;rw [Bool.and_eq_true,Bool.and_eq_true,List.all_eq_true,decide_eq_true_eq,decide_eq_true_eq] at h;refine ⟨h.1,h.2.1,fun i hi=>?_⟩;have h2:=h.2.2 i (List.mem_range.2 hi);rw [Bool.and_eq_true,Bool.and_eq_true,List.all_eq_true,decide_eq_true_eq,decide_eq_true_eq] at h2
 exact ⟨h2.1,h2.2.1,fun p hp=>of_decide_eq_true (h2.2.2 p (List.mem_range.2 hp))⟩
def storyB (t:TREE) (s:List (List Int)):Bool:=decide (s.length=t.2.1.length) && (List.range s.length).all fun i=>decide (((s.getD i []).length:Int)=t.1) && (List.range (s.getD i []).length).all fun p=>decide (0<=cellAt s i p/\cellAt s i p<=9) && fitsV t p i (cellAt s i p)
theorem storyB_ok {t:TREE} {s:List (List Int)} (h:storyB t s=true):StoryOK t s:=by
 unfold storyB at h;rw [Bool.and_eq_true,List.all_eq_true,decide_eq_true_eq] at h;refine ⟨h.1,fun i hi=>?_⟩;have h2:=h.2 i (List.mem_range.2 hi);rw [Bool.and_eq_true,List.all_eq_true,decide_eq_true_eq] at h2;refine ⟨h2.1,fun p hp=>?_⟩
 have h3:=h2.2 p (List.mem_range.2 hp);rw [Bool.and_eq_true,decide_eq_true_eq] at h3;exact h3
def handsB (t:TREE) (l:List Int):Bool:=(List.range l.length).all fun i=>decide (1<=l.getD i 0) && (decide (l.getD i 0<t.2.1.length) && decide (0<i->l.getD (i - 1) 0<l.getD i 0))
theorem handsB_ok {t:TREE} {l:List Int} (h:handsB t l=true):HandsOK t l:=by
 unfold handsB at h;rw [List.all_eq_true] at h;intro i hi;have h2:=h i (List.mem_range.2 hi);rw [Bool.and_eq_true,Bool.and_eq_true,decide_eq_true_eq,decide_eq_true_eq,decide_eq_true_eq] at h2;exact ⟨h2.1,h2.2.1,h2.2.2⟩
theorem hA:TreeOK tA:=treeB_ok (by kernel_rfl)
theorem hR:TreeOK tR:=treeB_ok (by kernel_rfl)
theorem hS:StoryOK tA sA:=storyB_ok (by kernel_rfl)
theorem kA15:f15v (tA,((5:Int),())) = .ret ([5,4,0],(0,())):=by
 rw [f15v_eq,f15_at hA (by decide) (by decide)];kernel_rfl
theorem kA16:f16v (tA,((2:Int),((3:Int),()))) = .ret (1,(0,())):=by
 rw [f16v_eq,f16_at hA ⟨by decide,by decide⟩ ⟨by decide,by decide⟩];kernel_rfl
theorem kA33:f33v (tA,(sA,())) = .ret ([(1,(1,())),(5,(0,()))],(0,())):=by
 rw [f33v_eq,f33_at hA hS];kernel_rfl
theorem kA24:f24v (tA,()) = .ret (2,(0,())):=by
 rw [f24v_eq,f24_at hA];kernel_rfl
theorem kA25:f25v (tA,()) = .ret (sA,(0,())):=by
 rw [f25v_eq,f25_at hA];kernel_rfl
theorem kA26:f26v (tA,()) = .ret (2,(0,())):=by
 rw [f26v_eq,f26_at hA];kernel_rfl
def wordsT (t:TREE):List Int:=(List.range t.2.1.length).map fun i=>wordTo t i t.1.toNat
theorem blames_words {t:TREE} (ht:TreeOK t):blamesT t=wordsT t:=by
 unfold blamesT wordsT;exact List.map_congr_left fun i _=>(wordTo_blame ht i).symm
theorem kA35:f35v (tA,()) = .ret ([1,3,1,1,2,2],(0,())):=by
 rw [f35v_eq,f35_at hA,blames_words hA];kernel_rfl
theorem kA36:f36v (tA,((4:Int),((0:Int),()))) = .ret ([4,8],(0,())):=by
 rw [f36v_eq];refine Eq.trans (f36_at hA (i:=4) (p:=0) (by decide) (by decide)) ?_
 kernel_rfl
theorem kA41:f41v (tA,()) = .ret (4,(0,(1,(0,())))):=by
 rw [f41v_eq,f41_at hA];kernel_rfl
theorem kA45:f45v (tA,((0:Int),((4:Int),()))) = .ret ([4,5],(0,())):=by
 rw [f45v_eq];refine Eq.trans (f45_at hA (p:=0) (by decide) (right:=4) (by decide)) ?_
 kernel_rfl
theorem kA50:f50v (tA,(([(2:Int),(3:Int),(5:Int)]:List Int),())) = .ret ([2,5],(0,())):=by
 rw [f50v_eq,f50_at hA (handsB_ok (by kernel_rfl))];kernel_rfl
theorem kA51:f51v (tA,(sA,(([(2:Int),(5:Int)]:List Int),()))) = .ret ([1,2,5],(0,())):=by
 rw [f51v_eq,f51_at hA hS (handsB_ok (by kernel_rfl))];kernel_rfl
theorem k90:f90 (xA,()) = .ret tR:=by kernel_rfl
theorem kA52:f52v (xA,()) = .ret (tR,(0,())):=by
 rw [f52v_eq];show F52 fuel (xA,())=_;unfold F52;simp only [k90,hR.t55,Bool.not_true];rfl
theorem kA54:f54v (tR,()) = .ret xA:=by rw [f54v_eq];kernel_rfl
theorem f19v_at {a b:List Int} (h:a.length<1000000):f19v (a,(b,())) = .ret (decide (a=b)):=by rw [f19v_eq];exact f19_at a b h
theorem k14:f14 () = .ret true:=by
 show F14 fuel ()=_;unfold F14;rw [kA15];simp only;rw [kA16];simp only;rw [kA33];simp only;rw [kA24];simp only;rw [kA25];simp only;rw [kA26];simp only;rw [kA35];simp only;rw [kA36];simp only;rw [kA41];simp only;rw [kA45]
 simp only;rw [kA50];simp only;rw [kA51];simp only;rw [kA52];simp only;rw [f53v_eq,f28v_eq,f37v_eq];have n0:((0:Int) != 0)=false:=rfl;simp only [n0];rw [f19v_at (by decide),f53_at _ _ (by decide),f28_at _ _ (by decide) (by decide),f37_at _ _ (by decide)]
 simp only [f19v_at (a:=[4,8]) (b:=[4,8]) (by decide),f19v_at (a:=[4,5]) (b:=[4,5]) (by decide),f19v_at (a:=[2,5]) (b:=[2,5]) (by decide),f19v_at (a:=[1,2,5]) (b:=[1,2,5]) (by decide),kA54];rfl
theorem known_true:f14v () = .ret true:=by rw [f14v_eq];exact k14
end Go.V
end
