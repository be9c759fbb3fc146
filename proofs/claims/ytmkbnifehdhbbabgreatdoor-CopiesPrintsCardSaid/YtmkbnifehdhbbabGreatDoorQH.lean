/- A part of the proof of a law of the copies. -/
import Derived.Test.YtmkbnifehdhbbabGreatDoorQG
import Derived.Test.YtmkbnifehdhbbabGreatDoorDE
import Derived.Test.YtmkbnifehdhbbabGreatDoorDG
set_option linter.all false
noncomputable section
namespace Go.V
open Go.Proofs
theorem strict_ext:∀ {a b:List Int},a.Pairwise (· < ·)->b.Pairwise (· < ·)->(∀ x,x∈a<->x∈b)->a=b
 | [],[],_,_,_=>rfl
 | [],y :: b,_,_,h=>absurd ((h y).2 (by simp)) (by simp)
 | x :: a,[],_,_,h=>absurd ((h x).1 (by simp)) (by simp)
 | x :: a,y :: b,ha,hb,h=>by
  rw [List.pairwise_cons] at ha hb;have e:x=y:=by
   have h1:=(h x).1 (by simp);have h2:=(h y).2 (by simp);rcases List.mem_cons.1 h1 with e|h1
   . exact e
   rcases List.mem_cons.1 h2 with e|h2
   . exact e.symm
   have:=ha.1 y h2;have:=hb.1 x h1;omega
  subst e;rw [strict_ext ha.2 hb.2 fun z=>?_];constructor
  . intro hz;rcases List.mem_cons.1 ((h z).1 (List.mem_cons_of_mem _ hz)) with e|h1
    . have:=ha.1 z hz;omega
    . exact h1
  . intro hz;rcases List.mem_cons.1 ((h z).2 (List.mem_cons_of_mem _ hz)) with e|h1
    . have:=hb.1 z hz;omega
    . exact h1
theorem compact_up {d:Array Int} (hs:∀ i j,i<=j->j<d.size->d[i]! <= d[j]!):∀ m,m<=d.size->(Lib.compactUpTo d m).Pairwise (· < ·)/\(∀ x,x∈Lib.compactUpTo d m<->∃ j,j<m/\d[j]! = x)
 | 0,_=>by
  have e:Lib.compactUpTo d 0=[]:=by unfold Lib.compactUpTo;simp
  rw [e];exact ⟨List.Pairwise.nil,fun x=>⟨fun h=>(by cases h),fun ⟨j,h,_⟩=>(by omega)⟩⟩
 | m+1,hm=>by
  obtain ⟨h1,h2⟩:=compact_up hs m (by omega);rw [Lib.compactUpTo_succ]
  by_cases e:m=0\/d[m]! ≠ d[m - 1]!
  . have hk:Lib.keeps d m=true:=by unfold Lib.keeps;exact decide_eq_true e
    rw [if_pos hk];refine ⟨List.pairwise_append.2 ⟨h1,List.pairwise_singleton _ _,fun x hx y hy=>?_⟩,fun x=>?_⟩
    . rw [List.mem_singleton] at hy;subst hy;obtain ⟨j,hj,rfl⟩:=(h2 x).1 hx;have:=hs j (m - 1) (by omega) (by omega);have:=hs (m - 1) m (by omega) (by omega);have:d[m]! ≠ d[m - 1]! := by rcases e with e|e<;>first|omega|exact e
      omega
    . rw [List.mem_append,h2,List.mem_singleton];constructor
      . rintro (⟨j,hj,e5⟩|rfl)
        . exact ⟨j,by omega,e5⟩
        . exact ⟨m,by omega,rfl⟩
      . rintro ⟨j,hj,e5⟩
        by_cases ej:j=m
        . subst ej;exact .inr e5.symm
        . exact .inl ⟨j,by omega,e5⟩
  . have hk:Lib.keeps d m=false:=by unfold Lib.keeps;exact decide_eq_false e
    rw [hk];simp only [Bool.false_eq_true,if_false,List.append_nil];refine ⟨h1,fun x=>?_⟩;rw [h2];have e1:m≠0:=fun h=>e (.inl h)
    have e2:d[m]! = d[m - 1]! := Classical.byContradiction fun h=>e (.inr h)
    constructor
    . rintro ⟨j,hj,e5⟩;exact ⟨j,by omega,e5⟩
    . rintro ⟨j,hj,e3⟩
      by_cases ej:j=m
      . subst ej;exact ⟨j - 1,by omega,by rw [<- e2];exact e3⟩
      . exact ⟨j,by omega,e3⟩
theorem sortC_all (xs:List Int):(sortC xs).Pairwise (· < ·)/\∀ x,x∈sortC xs<->x∈xs:=by
 obtain ⟨ys,hys⟩:∃ ys,ys=xs.mergeSort fun x y=>decide (x<=y):=⟨_,rfl⟩
 have hp:ys.Pairwise fun x y=>x<=y:=by
  have:=List.pairwise_mergeSort (le:=fun x y:Int=>decide (x<=y)) (fun a b c h1 h2=>by simp at h1 h2 ⊢;omega) (fun a b=>by simp;omega) xs;rw [<- hys] at this;exact this.imp fun h=>by simpa using h
 have hm:∀ x,x∈ys<->x∈xs:=fun x=>by rw [hys];exact List.mem_mergeSort
 have hs:∀ i j,i<=j->j<ys.toArray.size->ys.toArray[i]! <= ys.toArray[j]! := fun i j h1 h2=>by
  rw [List.size_toArray] at h2;rw [getElem!_pos ys.toArray i (by rw [List.size_toArray];omega),getElem!_pos ys.toArray j (by rw [List.size_toArray];omega)]
  by_cases e:i=j
  . subst e;exact Int.le_refl _
  . have:=List.pairwise_iff_getElem.1 hp i j (by omega) h2 (by omega)
    simpa using this
 have key:=compact_up hs ys.length (by rw [List.size_toArray];exact Nat.le_refl _);have e:sortC xs=Lib.compactUpTo ys.toArray ys.length:=by unfold sortC Lib.compact;rw [<- hys]
 rw [e];refine ⟨key.1,fun x=>?_⟩;rw [key.2,<- hm];constructor
 . rintro ⟨j,hj,rfl⟩;rw [getElem!_pos ys.toArray j (by rw [List.size_toArray];exact hj)];simp
 . intro hx;obtain ⟨j,hj,e⟩:=List.mem_iff_getElem.1 hx;refine ⟨j,hj,?_⟩;rw [getElem!_pos ys.toArray j (by rw [List.size_toArray];exact hj)]
   simpa using e
theorem allTo_strict (n:Nat):(allTo n).Pairwise (· < ·):=by
 unfold allTo;rw [List.pairwise_map];exact (List.pairwise_lt_range (n:=n)).imp fun h=>by omega
theorem mem_allTo {n:Nat} {x:Int}:x∈allTo n<->0<=x/\x<n:=by
 unfold allTo;rw [List.mem_map];constructor
 . rintro ⟨g,hg,rfl⟩;rw [List.mem_range] at hg;omega
 . intro h;exact ⟨x.toNat,by rw [List.mem_range];omega,by omega⟩
theorem sortC_eq {xs:List Int} {n:Nat} {q:Int->Bool} (h:∀ x,x∈xs<->(0<=x/\x<n)/\q x=true):sortC xs=(allTo n).filter q:=by
 obtain ⟨h1,h2⟩:=sortC_all xs;refine strict_ext h1 ((allTo_strict n).filter _) fun x=>?_
 rw [h2,h,List.mem_filter,mem_allTo]
theorem f73_at {t:TREE} (ht:TreeOK t) (p:Int):f73 (t,(p,())) = .ret (decide (0<=p/\p<t.1)):=by
 have:=ht.places;unfold f73 F73;simp only [i94];rw [wr (by omega) (by omega)]
 by_cases h1:0<=p/\p<t.1
 . rw [dT h1,dT (by omega)]
 . rw [dF h1,dF (by omega)]
structure IsPlace (t:TREE) (p:Int):Prop where
 l:0<=p
 h:p<t.1
theorem stor_row {t:TREE} {place:Int} (h:TreeP t place) {j:Nat} (hj:j<(storT t place).length):Best t place ((storT t place).getD j []) :=
 (stor_best h).1 (by rw [List.getD_eq_getElem?_getD,List.getElem?_eq_getElem hj];exact List.getElem_mem hj)
theorem stor_wide {t:TREE} {place:Int} (h:TreeP t place) {j:Nat} (hj:j<(storT t place).length):((storT t place).getD j []).length=t.2.1.length:=(stor_row h hj).vc.len
def colOf (ls:List (List Int)) (i:Nat):List Int:=ls.map fun l=>l.getD i 0
def canT (t:TREE) (i p:Nat):List Int:=figs.filter fun f=>decide (f∈colOf (storT t p) i)
theorem col_take {ls:List (List Int)} {i j:Nat} (hj:j<ls.length):colOf (ls.take (j+1)) i=colOf (ls.take j) i++[(ls.getD j []).getD i 0]:=by
 have e:ls.getD j []=ls[j]:=by rw [List.getD_eq_getElem?_getD,List.getElem?_eq_getElem hj];rfl
 unfold colOf;rw [List.take_add_one,List.map_append,List.getElem?_eq_getElem hj,e];rfl
theorem colOf_len (ls:List (List Int)) (i:Nat):(colOf ls i).length=ls.length:=by unfold colOf;simp
theorem col_fig {t:TREE} {p:Nat} (h:TreeP t p) {i:Nat} (hi:i<t.2.1.length) {x:Int} (hx:x∈colOf (storT t p) i):0<=x/\x<=9:=by
 unfold colOf at hx;obtain ⟨l,hl,rfl⟩:=List.mem_map.1 hx;have:=((stor_best h).1 hl).vc;exact this.at hi
theorem sort_can {t:TREE} {p:Nat} (h:TreeP t p) {i:Nat} (hi:i<t.2.1.length):sortC (colOf (storT t p) i)=canT t i p:=by
 rw [sortC_eq (n:=10) (q:=fun f=>decide (f∈colOf (storT t p) i)) fun x=>?_]
 . rfl
 . rw [decide_eq_true_eq];constructor
   . intro hx;have:=col_fig h hi hx;exact ⟨⟨this.1,by omega⟩,hx⟩
   . exact fun h=>h.2
theorem f36_at {t:TREE} (ht:TreeOK t) {i p:Nat} (hi:i<t.2.1.length) (hp:(p:Int)<t.1):f36 (t,((i:Int),((p:Int),()))) = .ret (canT t i p,(0,())):=by
 have hfb:=fuel_big;have hc:=ht.copies;have hT:=ht.treeP (place:=p) (by omega) hp;have hsl:=stor_len hT;unfold f36 F36;simp only [ht.t55,f56_at (t:=t) (i:Int) (by omega),dT (show 0<=(i:Int)/\(i:Int)<t.2.1.length by omega),f73_at ht,dT (show 0<=(p:Int)/\(p:Int)<t.1 by omega),Bool.not_true,preS_iff.2 hT.preS,cond_true]
 have key:=runL (L:=fun n j=>L36_0 fuel n (t,((i:Int),((p:Int),()))) (colOf ((storT t p).take j) i) j) (len:=(storT t p).length) (K:=.ret ((),(canT t i p,((0:Int),())))) (fun n j hj=>?_) (fun n=>?_) (storT t p).length fuel 0 (by omega) (by omega)
 . rw [show L36_0 fuel fuel (t,((i:Int),((p:Int),()))) [] 0=_ from key];rfl
 . try dsimp only
   rw [L36_0_succ]
   try delta lenI
   have hw:=stor_wide hT hj;have hcl:(colOf ((storT t p).take j) i).length=j:=by rw [colOf_len,List.length_take];omega
   simp only [Int.toNat_natCast,dT (show (j:Int)<(storT t p).length by omega),inbT (show (0:Int)<=j by omega) (show (j:Int)<(storT t p).length by omega),inbT (show (0:Int)<=i by omega) (show (i:Int)<((storT t p).getD j []).length by omega),cond_true,wn (show j<1000000000 by omega),fitsT (xs:=colOf ((storT t p).take j) i) (ys:=[((storT t p).getD j []).getD i 0]) (by rw [hcl];simp;omega)]
   rw [col_take hj]
 . try dsimp only
   rw [L36_0_succ]
   try delta lenI
   have hcl:(colOf ((storT t p).take (storT t p).length) i).length<1000000000:=by rw [colOf_len,List.length_take];omega
   simp only [dF (show ¬ (((storT t p).length:Nat):Int)<(storT t p).length by omega),dT hcl,cond_true];rw [List.take_length,sort_can hT hi]
def errAt (t:TREE) (i:Nat) (l:List Int):Bool:=decide (l.getD i 0≠l.getD (parN t i) 0)
def wrongT (t:TREE) (i p:Nat):Nat:=(storT t p).countP (errAt t i)
def tolT (t:TREE):TOL:=(madeT t,((List.range t.1.toNat).map (fun (p:Nat)=>storT t p),()))
theorem f70_at {t:TREE} (ht:TreeOK t):f70 (t,()) = .ret (tolT t):=by
 have hfb:=fuel_big;obtain ⟨P,hP,hP1,hP3⟩:=ht.pl;unfold f70 F70;simp only [ht.made];rw [allOf_eq (r:=.ret ((none:SL),(tolT t))) fun v=>?_]
 . rfl
 have key:=runL (L:=fun n p=>L70_0 fuel n v (t,()) (madeT t) t.1 t.2.1 (0:Int) ([]:List (Int×lt0)) ([]:List (List Int)) ([]:List (List (List Int))) p ((List.range p).map fun (p:Nat)=>storT t p)) (len:=P) (K:=.ret ((none:SL),(tolT t))) (fun n p hp=>?_) (fun n=>?_) P fuel 0 (by omega) (by omega)
 . exact key
 . try dsimp only
   rw [L70_0_succ];have hT:=ht.treeP (place:=p) (by omega) (by omega);have et:((t.1,(t.2.1,())):TREE)=t:=rfl;have hb:∀ X:Value,tolB ((List.range p).map fun (p:Nat)=>storT t p).length t p X X=true:=fun X=>by
    unfold tolB;rw [isV_refl,preS_iff.2 hT.preS,dT (show ((List.range p).map fun (p:Nat)=>storT t p).length<999999999 by simp;omega)];rfl
   simp only [dT (show (p:Int)<t.1 by omega),et,hb,cond_true,wn (show p<1000000000 by omega)]
   congr 1
   rw [List.range_succ,List.map_append];rfl
 . try dsimp only
   rw [L70_0_succ];simp only [dF (show ¬ ((P:Nat):Int)<t.1 by omega),isV_refl,cond_true];unfold tolT;rw [show t.1.toNat=P by omega]
theorem tol_at {t:TREE} {p:Nat} (hp:p<t.1.toNat):(tolT t).2.1.getD p []=storT t p:=by
 unfold tolT;rw [rangeMap_getD hp]
theorem take_count {α:Type} {q:α->Bool} {z:α} {l:List α} {j:Nat} (h:j<l.length):(l.take (j+1)).countP q=(l.take j).countP q+if q (l.getD j z) then 1 else 0:=by
 rw [List.take_add_one,List.countP_append,List.getElem?_eq_getElem h,List.getD_eq_getElem?_getD,List.getElem?_eq_getElem h];simp [List.countP_cons]
theorem f107_at {t:TREE} (ht:TreeOK t) {i p:Nat} (hi:i<t.2.1.length) (hp:(p:Int)<t.1):f107 (tolT t,((i:Int),((p:Int),()))) = .ret (wrongT t i p:Int):=by
 have hfb:=fuel_big;have hc:=ht.copies;have hT:=ht.treeP (place:=p) (by omega) hp;have hsl:=stor_len hT;have hpi:0<=(t.2.1.getD i NODE0).1/\(t.2.1.getD i NODE0).1<t.2.1.length:=by
  by_cases e:i=0
  . subst e;have:(t.2.1.getD 0 NODE0).1=0:=ht.par0;omega
  . have:0<=(t.2.1.getD i NODE0).1/\(t.2.1.getD i NODE0).1<i:=ht.par i (by omega) hi;omega
 have hpl:(tolT t).2.1.length=t.1.toNat:=by unfold tolT;simp
 unfold f107 F107;simp only [inbT (show (0:Int)<=p by omega) (show (p:Int)<(tolT t).2.1.length by omega),cond_true];have key:=runL (L:=fun n j=>L107_0 fuel n (tolT t,((i:Int),((p:Int),()))) (((storT t p).take j).countP (errAt t i):Nat) j) (len:=(storT t p).length) (K:=.ret (wrongT t i p:Int)) (fun n j hj=>?_) (fun n=>?_) (storT t p).length fuel 0 (by omega) (by omega)
 . exact key
 . try dsimp only
   rw [L107_0_succ]
   try delta lenI
   have hw:=stor_wide hT hj;have ecs:(tolT t).1.1.2.1=t.2.1:=rfl;have hk:((storT t p).take j).countP (errAt t i)<=1000:=Nat.le_trans List.countP_le_length (by rw [List.length_take];omega);have ep:((t.2.1.getD i NODE0).1).toNat=parN t i:=rfl
   simp only [Int.toNat_natCast,tol_at (t:=t) (p:=p) (show p<t.1.toNat by omega),ecs,dT (show (j:Int)<(storT t p).length by omega),inbT (show (0:Int)<=j by omega) (show (j:Int)<(storT t p).length by omega),inbT (show (0:Int)<=i by omega) (show (i:Int)<((storT t p).getD j []).length by omega),inbT (show (0:Int)<=i by omega) (show (i:Int)<t.2.1.length by omega),inbT hpi.1 (show (t.2.1.getD i NODE0).1<((storT t p).getD j []).length by omega),cond_true,wn (show j<1000000000 by omega),ep,wn (show ((storT t p).take j).countP (errAt t i)<1000000000 by omega)]
   rw [take_count (z:=[]) hj]
   by_cases g:((storT t p).getD j []).getD i 0=((storT t p).getD j []).getD (parN t i) 0
   . rw [show errAt t i ((storT t p).getD j [])=false from decide_eq_false fun h=>h g];simp only [nF g,Bool.false_eq_true,if_false,Nat.add_zero]
   . rw [show errAt t i ((storT t p).getD j [])=true from decide_eq_true g];simp only [nT g,if_true]
 . try dsimp only
   rw [L107_0_succ]
   try delta lenI
   simp only [Int.toNat_natCast,tol_at (t:=t) (p:=p) (show p<t.1.toNat by omega),dF (show ¬ (((storT t p).length:Nat):Int)<(storT t p).length by omega),List.take_length];rfl
def alwaysT (t:TREE) (i:Nat):Prop:=∃ p,p<t.1.toNat/\wrongT t i p=(storT t p).length
def everT (t:TREE) (i:Nat):Prop:=∃ p,p<t.1.toNat/\0<wrongT t i p
theorem f71_at {t:TREE} (ht:TreeOK t) {i:Nat} (hi:i<t.2.1.length):∃ b,f71 (tolT t,((i:Int),())) = .ret b/\(b=true<->alwaysT t i):=by
 have hfb:=fuel_big;obtain ⟨P,hP,hP1,hP3⟩:=ht.pl;have hpl:(tolT t).2.1.length=P:=by unfold tolT;simp;omega
 unfold f71 F71;have key:=findL (L:=fun n p=>L71_0 fuel n (tolT t,((i:Int),())) p) (len:=P) (K:=.ret false) (fun p=>wrongT t i p=(storT t p).length) (fun _=>.ret true) (fun n p hp=>?_) (fun n=>?_) P fuel 0 (by omega) (by omega)
 . rcases key with ⟨j,h1,h2,h3,h4,h5⟩|⟨h1,h2⟩
   . exact ⟨true,h5,⟨fun _=>⟨j,by omega,h3⟩,fun _=>rfl⟩⟩
   . exact ⟨false,h2,⟨fun h=>(by cases h),fun ⟨p,hp,e⟩=>absurd e (h1 p (by omega) (by omega))⟩⟩
 . try dsimp only
   rw [L71_0_succ]
   try delta lenI
   simp only [dT (show (p:Int)<(tolT t).2.1.length by omega),inbT (show (0:Int)<=p by omega) (show (p:Int)<(tolT t).2.1.length by omega),cond_true,f107_at ht hi (p:=p) (by omega),Int.toNat_natCast,tol_at (t:=t) (p:=p) (show p<t.1.toNat by omega),wn (show p<1000000000 by omega)]
   by_cases g:wrongT t i p=(storT t p).length
   . simp only [eT (show (wrongT t i p:Int)=(storT t p).length by omega)];exact .inl ⟨g,trivial⟩
   . simp only [eF (show (wrongT t i p:Int)≠(storT t p).length by omega)];exact .inr ⟨g,trivial⟩
 . try dsimp only
   rw [L71_0_succ]
   try delta lenI
   simp only [dF (show ¬ ((P:Nat):Int)<(tolT t).2.1.length by omega)]
theorem f72_at {t:TREE} (ht:TreeOK t) {i:Nat} (hi:i<t.2.1.length):∃ b,f72 (tolT t,((i:Int),())) = .ret b/\(b=true<->everT t i):=by
 have hfb:=fuel_big;obtain ⟨P,hP,hP1,hP3⟩:=ht.pl;have hpl:(tolT t).2.1.length=P:=by unfold tolT;simp;omega
 unfold f72 F72;have key:=findL (L:=fun n p=>L72_0 fuel n (tolT t,((i:Int),())) p) (len:=P) (K:=.ret false) (fun p=>0<wrongT t i p) (fun _=>.ret true) (fun n p hp=>?_) (fun n=>?_) P fuel 0 (by omega) (by omega)
 . rcases key with ⟨j,h1,h2,h3,h4,h5⟩|⟨h1,h2⟩
   . exact ⟨true,h5,⟨fun _=>⟨j,by omega,h3⟩,fun _=>rfl⟩⟩
   . exact ⟨false,h2,⟨fun h=>(by cases h),fun ⟨p,hp,e⟩=>absurd e (h1 p (by omega) (by omega))⟩⟩
 . try dsimp only
   rw [L72_0_succ]
   try delta lenI
   simp only [dT (show (p:Int)<(tolT t).2.1.length by omega),f107_at ht hi (p:=p) (by omega),wn (show p<1000000000 by omega)]
   by_cases g:0<wrongT t i p
   . simp only [dT (show (wrongT t i p:Int) > 0 by omega)];exact .inl ⟨g,trivial⟩
   . simp only [dF (show ¬ (wrongT t i p:Int) > 0 by omega)];exact .inr ⟨g,trivial⟩
 . try dsimp only
   rw [L72_0_succ]
   try delta lenI
   simp only [dF (show ¬ ((P:Nat):Int)<(tolT t).2.1.length by omega)]
open Classical in
noncomputable def blameT (t:TREE) (i:Nat):Int:=if alwaysT t i then 3 else if everT t i then 2 else 1
def blamesT (t:TREE):List Int:=(List.range t.2.1.length).map (blameT t)
theorem rangeMap_succ {α:Type} (f:Nat->α) (n:Nat):(List.range (n+1)).map f=(List.range n).map f++[f n]:=by rw [List.range_succ,List.map_append];rfl
theorem m_ne (v:Value):m72 v≠m71 v:=by unfold m71 m72;simp
theorem f35_at {t:TREE} (ht:TreeOK t):f35 (t,()) = .ret (blamesT t,(0,())):=by
 have hfb:=fuel_big;have hc:=ht.copies;unfold f35 F35;simp only [ht.t55,Bool.not_true,f70_at ht];rw [allOf_eq (r:=.ret ((none:Option (Value×TOL)),(blamesT t,((0:Int),())))) fun v=>?_]
 . rfl
 have key:=runL (L:=fun n i=>L35_0 fuel n v (t,()) (tolT t) ((List.range i).map (blameT t)) i) (len:=t.2.1.length) (K:=.ret ((none:Option (Value×TOL)),(blamesT t,((0:Int),())))) (fun n i hi=>?_) (fun n=>?_) t.2.1.length fuel 0 (by omega) (by omega)
 . exact key
 . try dsimp only
   rw [L35_0_succ]
   try delta lenI
   simp only [dT (show (i:Int)<t.2.1.length by omega)];have er:((((tolT t).1.1.1,((tolT t).1.1.2.1,())),((tolT t).1.2.1,())),((tolT t).2.1,()))=tolT t:=rfl;obtain ⟨b1,a1,a2⟩:=f71_at ht hi;obtain ⟨b2,a3,a4⟩:=f72_at ht hi;have w1:wayR v (tolT t) (m71 v) i = .ret b1:=by unfold wayR;rw [if_pos rfl];exact a1
   have w2:wayR v (tolT t) (m72 v) i = .ret b2:=by unfold wayR;rw [if_neg (m_ne v),if_pos rfl];exact a3
   have hf:∀ x:Int,fits ((List.range i).map (blameT t)) [x]=true:=fun x=>fitsT (by simp;omega)
   obtain ⟨m,hm⟩:∃ m,fuel=m+3:=⟨fuel - 3,by omega⟩
   rw [rangeMap_succ];have e0:L35_1 fuel n fuel v i (t,()) (tolT t) ((List.range i).map (blameT t)) 1 0=L35_1 fuel n (m+3) v i (t,()) (tolT t) ((List.range i).map (blameT t)) 1 0:=by rw [hm]
   rw [e0,L35_1_succ];simp only [dT (show (0:Int)<2 by omega),show ((0:Int)==0)=true from rfl,cond_true,er,w1,okO,valO];cases b1 with
   | true =>
    simp only [hf,cond_true,show IntKind.i64.wrap (3 - 0)=3 from rfl,wn (show i<1000000000 by omega)];rw [show blameT t i=3 by unfold blameT;rw [if_pos (a2.1 rfl)]]
   | false =>
    have na:¬ alwaysT t i:=fun h=>by have:=a2.2 h;cases this
    simp only [show IntKind.i64.wrap (0+1)=1 from rfl];rw [L35_1_succ];simp only [dT (show (1:Int)<2 by omega),show ((1:Int)==0)=false from rfl,show ((1:Int)==1)=true from rfl,cond_true,cond_false,er,w2,okO,valO];cases b2 with
    | true =>
     simp only [hf,cond_true,show IntKind.i64.wrap (3 - 1)=2 from rfl,wn (show i<1000000000 by omega)];rw [show blameT t i=2 by unfold blameT;rw [if_neg na,if_pos (a4.1 rfl)]]
    | false =>
     have ne:¬ everT t i:=fun h=>by have:=a4.2 h;cases this
     simp only [show IntKind.i64.wrap (1+1)=2 from rfl];rw [L35_1_succ];simp only [dF (show ¬ (2:Int)<2 by omega),hf,cond_true,wn (show i<1000000000 by omega)];rw [show blameT t i=1 by unfold blameT;rw [if_neg na,if_neg ne]]
 . try dsimp only
   rw [L35_0_succ]
   try delta lenI
   simp only [dF (show ¬ ((t.2.1.length:Nat):Int)<t.2.1.length by omega)];rfl
def wordT (t:TREE) (i p:Nat):Int:=if wrongT t i p=0 then 1 else if wrongT t i p=(storT t p).length then 3 else 2
def wordTo (t:TREE) (i:Nat):Nat->Int
 | 0=>1
 | p+1=>if wordT t i p > wordTo t i p then wordT t i p else wordTo t i p
theorem wordTo_eq {t:TREE} (ht:TreeOK t) (i:Nat):∀ P:Nat,(P:Int)<=t.1->((wordTo t i P=3/\∃ p,p<P/\wrongT t i p=(storT t p).length)\/(¬ (∃ p,p<P/\wrongT t i p=(storT t p).length)/\((wordTo t i P=2/\∃ p,p<P/\0<wrongT t i p)\/(wordTo t i P=1/\¬ ∃ p,p<P/\0<wrongT t i p))))
 | 0,_=>.inr ⟨fun ⟨p,h,_⟩=>(by omega),.inr ⟨rfl,fun ⟨p,h,_⟩=>(by omega)⟩⟩
 | P+1,h=>by
  have ih:=wordTo_eq ht i P (by omega);have hT:=ht.treeP (place:=P) (by omega) (by omega);have hn:0<(storT t P).length:=List.length_pos_iff.2 (stor_ne hT);have hw:(wordT t i P=1/\wrongT t i P=0)\/(wordT t i P=3/\wrongT t i P=(storT t P).length)\/(wordT t i P=2/\0<wrongT t i P/\wrongT t i P≠(storT t P).length):=by
   unfold wordT
   by_cases g:wrongT t i P=0
   . rw [if_pos g];exact .inl ⟨rfl,g⟩
   . rw [if_neg g]
     by_cases g2:wrongT t i P=(storT t P).length
     . rw [if_pos g2];exact .inr (.inl ⟨rfl,g2⟩)
     . rw [if_neg g2];exact .inr (.inr ⟨rfl,by omega,g2⟩)
  simp only [wordTo];rcases ih with ⟨i1,p,i2,i3⟩|⟨i1,i2⟩
  . refine .inl ⟨?_,p,by omega,i3⟩;rw [i1];rcases hw with ⟨w,_⟩|⟨w,_⟩|⟨w,_⟩<;>rw [w]<;>decide
  . rcases hw with ⟨w,w2⟩|⟨w,w2⟩|⟨w,w2,w3⟩
    . rw [w];have hno:¬ ∃ p,p<P+1/\wrongT t i p=(storT t p).length:=fun ⟨p,h1,h2⟩=>by
       by_cases e:p=P
       . subst e;omega
       . exact i1 ⟨p,by omega,h2⟩
      refine .inr ⟨hno,?_⟩;rcases i2 with ⟨j1,p,j2,j3⟩|⟨j1,j2⟩
      . exact .inl ⟨by rw [j1];decide,p,by omega,j3⟩
      . refine .inr ⟨by rw [j1];decide,fun ⟨p,h1,h2⟩=>?_⟩
        by_cases e:p=P
        . subst e;omega
        . exact j2 ⟨p,by omega,h2⟩
    . refine .inl ⟨?_,P,by omega,w2⟩;rw [w];rcases i2 with ⟨j1,_⟩|⟨j1,_⟩<;>rw [j1]<;>decide
    . have hno:¬ ∃ p,p<P+1/\wrongT t i p=(storT t p).length:=fun ⟨p,h1,h2⟩=>by
       by_cases e:p=P
       . subst e;exact w3 h2
       . exact i1 ⟨p,by omega,h2⟩
      refine .inr ⟨hno,.inl ⟨?_,P,by omega,w2⟩⟩;rw [w];rcases i2 with ⟨j1,_⟩|⟨j1,_⟩<;>rw [j1]<;>decide
theorem wordTo_blame {t:TREE} (ht:TreeOK t) (i:Nat):wordTo t i t.1.toNat=blameT t i:=by
 have:=ht.places;unfold blameT;rcases wordTo_eq ht i t.1.toNat (by omega) with ⟨h1,h2⟩|⟨h1,⟨h2,h3⟩|⟨h2,h3⟩⟩
 . rw [if_pos (show alwaysT t i from h2),h1]
 . rw [if_neg (show ¬ alwaysT t i from h1),if_pos (show everT t i from h3),h2]
 . rw [if_neg (show ¬ alwaysT t i from h1),if_neg (show ¬ everT t i from h3),h2]
end Go.V
end
