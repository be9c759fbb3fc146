/- Part. -/
import Derived.Test.YtmkbnifehdhbbabGreatDoorQG
import Derived.Test.YtmkbnifehdhbbabGreatDoorDG
set_option linter.all false
noncomputable section
namespace Go.V
open Go.Proofs
theorem Jo:∀ {a b:List Int},a.Pairwise (· < ·)->b.Pairwise (· < ·)->(∀ x,x∈a<->x∈b)->a=b
 | [],[],_,_,_=>rfl
 | [],y :: b,_,_,h=>absurd ((h y).2 (by simp)) (by simp)
 | x :: a,[],_,_,h=>absurd ((h x).1 (by simp)) (by simp)
 | x :: a,y :: b,ha,hb,h=>by
  rw [List.pairwise_cons] at ha hb;have e:x=y:=by
   have h1:=(h x).1 (by simp);have h2:=(h y).2 (by simp);rcases List.mem_cons.1 h1 with e|h1
   . exact e
   rcases List.mem_cons.1 h2 with e|h2
   . exact e.symm
   have:=ha.1 y h2;have:=hb.1 x h1;omega
  subst e;rw [Jo ha.2 hb.2 fun z=>?_];constructor
  . intro hz;rcases List.mem_cons.1 ((h z).1 (List.mem_cons_of_mem _ hz)) with e|h1
    . have:=ha.1 z hz;omega
    . exact h1
  . intro hz;rcases List.mem_cons.1 ((h z).2 (List.mem_cons_of_mem _ hz)) with e|h1
    . have:=hb.1 z hz;omega
    . exact h1
theorem Ep {d:Array Int} (hs:∀ i j,i<=j->j<d.size->d[i]! <= d[j]!):∀ m,m<=d.size->(Lib.compactUpTo d m).Pairwise (· < ·)/\(∀ x,x∈Lib.compactUpTo d m<->∃ j,j<m/\d[j]! = x)
 | 0,_=>by
  have e:Lib.compactUpTo d 0=[]:=by unfold Lib.compactUpTo;simp
  rw [e];exact ⟨List.Pairwise.nil,fun x=>⟨fun h=>(by cases h),fun ⟨j,h,_⟩=>(by omega)⟩⟩
 | m+1,hm=>by
  obtain ⟨h1,h2⟩:=Ep hs m (by omega);rw [Lib.compactUpTo_succ]
  by_cases e:m=0\/d[m]! ≠ d[m - 1]!
  . have hk:Lib.keeps d m=true:=by unfold Lib.keeps;exact decide_eq_true e
    rw [if_pos hk];refine ⟨List.pairwise_append.2 ⟨h1,List.pairwise_singleton _ _,fun x hx y hy=>?_⟩,fun x=>?_⟩
    . rw [List.mem_singleton] at hy;subst hy;obtain ⟨j,hj,rfl⟩:=(h2 x).1 hx;have:=hs j (m - 1) (by omega) (by omega);have:=hs (m - 1) m (by omega) (by omega);have:d[m]! ≠ d[m - 1]! := by rcases e with e|e<;>first|omega|exact e
      omega
    . rw [List.mem_append,h2,List.mem_singleton];constructor
      . rintro (⟨j,hj,e5⟩|rfl)
        . exact ⟨j,by omega,e5⟩
        . exact ⟨m,by omega,rfl⟩
      . rintro ⟨j,hj,e5⟩
        by_cases ej:j=m
        . subst ej;exact .inr e5.symm
        . exact .inl ⟨j,by omega,e5⟩
  . have hk:Lib.keeps d m=false:=by unfold Lib.keeps;exact decide_eq_false e
    rw [hk];simp only [Bool.false_eq_true,if_false,List.append_nil];refine ⟨h1,fun x=>?_⟩;rw [h2];have e1:m≠0:=fun h=>e (.inl h)
    have e2:d[m]! = d[m - 1]! := Classical.byContradiction fun h=>e (.inr h)
    constructor
    . rintro ⟨j,hj,e5⟩;exact ⟨j,by omega,e5⟩
    . rintro ⟨j,hj,e3⟩
      by_cases ej:j=m
      . subst ej;exact ⟨j - 1,by omega,by rw [<- e2];exact e3⟩
      . exact ⟨j,by omega,e3⟩
theorem Vf (xs:List Int):(db xs).Pairwise (· < ·)/\∀ x,x∈db xs<->x∈xs:=by
 obtain ⟨ys,hys⟩:∃ ys,ys=xs.mergeSort fun x y=>decide (x<=y):=⟨_,rfl⟩
 have hp:ys.Pairwise fun x y=>x<=y:=by
  have:=List.pairwise_mergeSort (le:=fun x y:Int=>decide (x<=y)) (fun a b c h1 h2=>by simp at h1 h2 ⊢;omega) (fun a b=>by simp;omega) xs;rw [<- hys] at this;exact this.imp fun h=>by simpa using h
 have hm:∀ x,x∈ys<->x∈xs:=fun x=>by rw [hys];exact List.mem_mergeSort
 have hs:∀ i j,i<=j->j<ys.toArray.size->ys.toArray[i]! <= ys.toArray[j]! := fun i j h1 h2=>by
  rw [List.size_toArray] at h2;rw [getElem!_pos ys.toArray i (by rw [List.size_toArray];omega),getElem!_pos ys.toArray j (by rw [List.size_toArray];omega)]
  by_cases e:i=j
  . subst e;exact Int.le_refl _
  . have:=List.pairwise_iff_getElem.1 hp i j (by omega) h2 (by omega)
    simpa using this
 have key:=Ep hs ys.length (by rw [List.size_toArray];exact Nat.le_refl _);have e:db xs=Lib.compactUpTo ys.toArray ys.length:=by unfold db Lib.compact;rw [<- hys]
 rw [e];refine ⟨key.1,fun x=>?_⟩;rw [key.2,<- hm];constructor
 . rintro ⟨j,hj,rfl⟩;rw [getElem!_pos ys.toArray j (by rw [List.size_toArray];exact hj)];simp
 . intro hx;obtain ⟨j,hj,e⟩:=List.mem_iff_getElem.1 hx;refine ⟨j,hj,?_⟩;rw [getElem!_pos ys.toArray j (by rw [List.size_toArray];exact hj)]
   simpa using e
theorem Lu (n:Nat):(dV n).Pairwise (· < ·):=by
 unfold dV;rw [List.pairwise_map];exact (List.pairwise_lt_range (n:=n)).imp fun h=>by omega
theorem SK {n:Nat} {x:Int}:x∈dV n<->0<=x/\x<n:=by
 unfold dV;rw [List.mem_map];constructor
 . rintro ⟨g,hg,rfl⟩;rw [List.mem_range] at hg;omega
 . intro h;exact ⟨x.toNat,by rw [List.mem_range];omega,by omega⟩
theorem Il {xs:List Int} {n:Nat} {q:Int->Bool} (h:∀ x,x∈xs<->(0<=x/\x<n)/\q x=true):db xs=(dV n).filter q:=by
 obtain ⟨h1,h2⟩:=Vf xs;refine Jo h1 ((Lu n).filter _) fun x=>?_
 rw [h2,h,List.mem_filter,SK]
theorem Fj {t:ac} (ht:TreeOK t) (p:Int):f73 (t,(p,())) = .ret (decide (0<=p/\p<t.1)):=by
 have:=ht.places;unfold f73 wV;simp only [qi];rw [wr (by omega) (by omega)]
 by_cases h1:0<=p/\p<t.1
 . rw [dT h1,dT (by omega)]
 . rw [dF h1,dF (by omega)]
structure IsPlace (t:ac) (p:Int):Prop where
 l:0<=p
 h:p<t.1
theorem Jk {t:ac} {place:Int} (h:TreeP t place) {j:Nat} (hj:j<(aq t place).length):Best t place ((aq t place).getD j []) :=
 (B2 h).1 (by rw [List.getD_eq_getElem?_getD,List.getElem?_eq_getElem hj];exact List.getElem_mem hj)
theorem B4 {t:ac} {place:Int} (h:TreeP t place) {j:Nat} (hj:j<(aq t place).length):((aq t place).getD j []).length=t.2.1.length:=(Jk h hj).vc.len
def fE (ls:List (List Int)) (i:Nat):List Int:=ls.map fun l=>l.getD i 0
def yc (t:ac) (i p:Nat):List Int:=figs.filter fun f=>decide (f∈fE (aq t p) i)
theorem Nf {ls:List (List Int)} {i j:Nat} (hj:j<ls.length):fE (ls.take (j+1)) i=fE (ls.take j) i++[(ls.getD j []).getD i 0]:=by
 have e:ls.getD j []=ls[j]:=by rw [List.getD_eq_getElem?_getD,List.getElem?_eq_getElem hj];rfl
 unfold fE;rw [List.take_add_one,List.map_append,List.getElem?_eq_getElem hj,e];rfl
theorem En (ls:List (List Int)) (i:Nat):(fE ls i).length=ls.length:=by unfold fE;simp
theorem Nd {t:ac} {p:Nat} (h:TreeP t p) {i:Nat} (hi:i<t.2.1.length) {x:Int} (hx:x∈fE (aq t p) i):0<=x/\x<=9:=by
 unfold fE at hx;obtain ⟨l,hl,rfl⟩:=List.mem_map.1 hx;have:=((B2 h).1 hl).vc;exact this.at hi
theorem Vi {t:ac} {p:Nat} (h:TreeP t p) {i:Nat} (hi:i<t.2.1.length):db (fE (aq t p) i)=yc t i p:=by
 rw [Il (n:=10) (q:=fun f=>decide (f∈fE (aq t p) i)) fun x=>?_]
 . rfl
 . rw [decide_eq_true_eq];constructor
   . intro hx;have:=Nd h hi hx;exact ⟨⟨this.1,by omega⟩,hx⟩
   . exact fun h=>h.2
theorem Qj {t:ac} (ht:TreeOK t) {i p:Nat} (hi:i<t.2.1.length) (hp:(p:Int)<t.1):f36 (t,((i:Int),((p:Int),()))) = .ret (yc t i p,(0,())):=by
 have hfb:=bK;have hc:=ht.copies;have hT:=ht.treeP (place:=p) (by omega) hp;have hsl:=og hT;unfold f36 wE;simp only [ht.t55,tC (t:=t) (i:Int) (by omega),dT (show 0<=(i:Int)/\(i:Int)<t.2.1.length by omega),Fj ht,dT (show 0<=(p:Int)/\(p:Int)<t.1 by omega),Bool.not_true,nH.2 hT.preS,cond_true];have key:=dQ (L:=fun n j=>L36_0 fuel n (t,((i:Int),((p:Int),()))) (fE ((aq t p).take j) i) j) (len:=(aq t p).length) (K:=.ret ((),(yc t i p,((0:Int),())))) (fun n j hj=>?_) (fun n=>?_) (aq t p).length fuel 0 (by omega) (by omega)
 . rw [show L36_0 fuel fuel (t,((i:Int),((p:Int),()))) [] 0=_ from key];rfl
 . try dsimp only
   rw [L36_0_succ]
   try delta ae
   have hw:=B4 hT hj;have hcl:(fE ((aq t p).take j) i).length=j:=by rw [En,List.length_take];omega
   simp only [Int.toNat_natCast,dT (show (j:Int)<(aq t p).length by omega),aY (show (0:Int)<=j by omega) (show (j:Int)<(aq t p).length by omega),aY (show (0:Int)<=i by omega) (show (i:Int)<((aq t p).getD j []).length by omega),cond_true,wn (show j<1000000000 by omega),kX (xs:=fE ((aq t p).take j) i) (ys:=[((aq t p).getD j []).getD i 0]) (by rw [hcl];simp;omega)];rw [Nf hj]
 . try dsimp only
   rw [L36_0_succ]
   try delta ae
   have hcl:(fE ((aq t p).take (aq t p).length) i).length<1000000000:=by rw [En,List.length_take];omega
   simp only [dF (show ¬ (((aq t p).length:Nat):Int)<(aq t p).length by omega),dT hcl,cond_true];rw [List.take_length,Vi hT hi]
def mK (t:ac) (i:Nat) (l:List Int):Bool:=decide (l.getD i 0≠l.getD (aZ t i) 0)
def cS (t:ac) (i p:Nat):Nat:=(aq t p).countP (mK t i)
def aQ (t:ac):bU:=(aJ t,((List.range t.1.toNat).map (fun (p:Nat)=>aq t p),()))
theorem Fh {t:ac} (ht:TreeOK t):pN (t,()) = .ret (aQ t):=by
 have hfb:=bK;obtain ⟨P,hP,hP1,hP3⟩:=ht.pl;unfold pN wS;simp only [ht.made];rw [iZ (r:=.ret ((none:SL),(aQ t))) fun v=>?_]
 . rfl
 have key:=dQ (L:=fun n p=>L70_0 fuel n v (t,()) (aJ t) t.1 t.2.1 (0:Int) ([]:List (Int×aE)) ([]:List (List Int)) ([]:List (List (List Int))) p ((List.range p).map fun (p:Nat)=>aq t p)) (len:=P) (K:=.ret ((none:SL),(aQ t))) (fun n p hp=>?_) (fun n=>?_) P fuel 0 (by omega) (by omega)
 . exact key
 . try dsimp only
   rw [L70_0_succ];have hT:=ht.treeP (place:=p) (by omega) (by omega);have et:((t.1,(t.2.1,())):ac)=t:=rfl;have hb:∀ X:Value,ou ((List.range p).map fun (p:Nat)=>aq t p).length t p X X=true:=fun X=>by
    unfold ou;rw [fV,nH.2 hT.preS,dT (show ((List.range p).map fun (p:Nat)=>aq t p).length<999999999 by simp;omega)];rfl
   simp only [dT (show (p:Int)<t.1 by omega),et,hb,cond_true,wn (show p<1000000000 by omega)]
   congr 1
   rw [List.range_succ,List.map_append];rfl
 . try dsimp only
   rw [L70_0_succ];simp only [dF (show ¬ ((P:Nat):Int)<t.1 by omega),fV,cond_true];unfold aQ;rw [show t.1.toNat=P by omega]
theorem rL {t:ac} {p:Nat} (hp:p<t.1.toNat):(aQ t).2.1.getD p []=aq t p:=by
 unfold aQ;rw [nM hp]
theorem JC {α:Type} {q:α->Bool} {z:α} {l:List α} {j:Nat} (h:j<l.length):(l.take (j+1)).countP q=(l.take j).countP q+if q (l.getD j z) then 1 else 0:=by
 rw [List.take_add_one,List.countP_append,List.getElem?_eq_getElem h,List.getD_eq_getElem?_getD,List.getElem?_eq_getElem h];simp [List.countP_cons]
theorem ET {t:ac} (ht:TreeOK t) {i p:Nat} (hi:i<t.2.1.length) (hp:(p:Int)<t.1):mO (aQ t,((i:Int),((p:Int),()))) = .ret (cS t i p:Int):=by
 have hfb:=bK;have hc:=ht.copies;have hT:=ht.treeP (place:=p) (by omega) hp;have hsl:=og hT;have hpi:0<=(t.2.1.getD i bh).1/\(t.2.1.getD i bh).1<t.2.1.length:=by
  by_cases e:i=0
  . subst e;have:(t.2.1.getD 0 bh).1=0:=ht.par0;omega
  . have:0<=(t.2.1.getD i bh).1/\(t.2.1.getD i bh).1<i:=ht.par i (by omega) hi;omega
 have hpl:(aQ t).2.1.length=t.1.toNat:=by unfold aQ;simp
 unfold mO v_;simp only [aY (show (0:Int)<=p by omega) (show (p:Int)<(aQ t).2.1.length by omega),cond_true];have key:=dQ (L:=fun n j=>L107_0 fuel n (aQ t,((i:Int),((p:Int),()))) (((aq t p).take j).countP (mK t i):Nat) j) (len:=(aq t p).length) (K:=.ret (cS t i p:Int)) (fun n j hj=>?_) (fun n=>?_) (aq t p).length fuel 0 (by omega) (by omega)
 . exact key
 . try dsimp only
   rw [L107_0_succ]
   try delta ae
   have hw:=B4 hT hj;have ecs:(aQ t).1.1.2.1=t.2.1:=rfl;have hk:((aq t p).take j).countP (mK t i)<=1000:=Nat.le_trans List.countP_le_length (by rw [List.length_take];omega);have ep:((t.2.1.getD i bh).1).toNat=aZ t i:=rfl;simp only [Int.toNat_natCast,rL (t:=t) (p:=p) (show p<t.1.toNat by omega),ecs,dT (show (j:Int)<(aq t p).length by omega),aY (show (0:Int)<=j by omega) (show (j:Int)<(aq t p).length by omega),aY (show (0:Int)<=i by omega) (show (i:Int)<((aq t p).getD j []).length by omega),aY (show (0:Int)<=i by omega) (show (i:Int)<t.2.1.length by omega),aY hpi.1 (show (t.2.1.getD i bh).1<((aq t p).getD j []).length by omega),cond_true,wn (show j<1000000000 by omega),ep,wn (show ((aq t p).take j).countP (mK t i)<1000000000 by omega)];rw [JC (z:=[]) hj]
   by_cases g:((aq t p).getD j []).getD i 0=((aq t p).getD j []).getD (aZ t i) 0
   . rw [show mK t i ((aq t p).getD j [])=false from decide_eq_false fun h=>h g];simp only [nF g,Bool.false_eq_true,if_false,Nat.add_zero]
   . rw [show mK t i ((aq t p).getD j [])=true from decide_eq_true g];simp only [nT g,if_true]
 . try dsimp only
   rw [L107_0_succ]
   try delta ae
   simp only [Int.toNat_natCast,rL (t:=t) (p:=p) (show p<t.1.toNat by omega),dF (show ¬ (((aq t p).length:Nat):Int)<(aq t p).length by omega),List.take_length];rfl
def mA (t:ac) (i:Nat):Prop:=∃ p,p<t.1.toNat/\cS t i p=(aq t p).length
def pn (t:ac) (i:Nat):Prop:=∃ p,p<t.1.toNat/\0<cS t i p
theorem Qu {t:ac} (ht:TreeOK t) {i:Nat} (hi:i<t.2.1.length):∃ b,f71 (aQ t,((i:Int),())) = .ret b/\(b=true<->mA t i):=by
 have hfb:=bK;obtain ⟨P,hP,hP1,hP3⟩:=ht.pl;have hpl:(aQ t).2.1.length=P:=by unfold aQ;simp;omega
 unfold f71 wT;have key:=gm (L:=fun n p=>L71_0 fuel n (aQ t,((i:Int),())) p) (len:=P) (K:=.ret false) (fun p=>cS t i p=(aq t p).length) (fun _=>.ret true) (fun n p hp=>?_) (fun n=>?_) P fuel 0 (by omega) (by omega)
 . rcases key with ⟨j,h1,h2,h3,h4,h5⟩|⟨h1,h2⟩
   . exact ⟨true,h5,⟨fun _=>⟨j,by omega,h3⟩,fun _=>rfl⟩⟩
   . exact ⟨false,h2,⟨fun h=>(by cases h),fun ⟨p,hp,e⟩=>absurd e (h1 p (by omega) (by omega))⟩⟩
 . try dsimp only
   rw [L71_0_succ]
   try delta ae
   simp only [dT (show (p:Int)<(aQ t).2.1.length by omega),aY (show (0:Int)<=p by omega) (show (p:Int)<(aQ t).2.1.length by omega),cond_true,ET ht hi (p:=p) (by omega),Int.toNat_natCast,rL (t:=t) (p:=p) (show p<t.1.toNat by omega),wn (show p<1000000000 by omega)]
   by_cases g:cS t i p=(aq t p).length
   . simp only [eT (show (cS t i p:Int)=(aq t p).length by omega)];exact .inl ⟨g,trivial⟩
   . simp only [eF (show (cS t i p:Int)≠(aq t p).length by omega)];exact .inr ⟨g,trivial⟩
 . try dsimp only
   rw [L71_0_succ]
   try delta ae
   simp only [dF (show ¬ ((P:Nat):Int)<(aQ t).2.1.length by omega)]
theorem Qv {t:ac} (ht:TreeOK t) {i:Nat} (hi:i<t.2.1.length):∃ b,f72 (aQ t,((i:Int),())) = .ret b/\(b=true<->pn t i):=by
 have hfb:=bK;obtain ⟨P,hP,hP1,hP3⟩:=ht.pl;have hpl:(aQ t).2.1.length=P:=by unfold aQ;simp;omega
 unfold f72 wU;have key:=gm (L:=fun n p=>L72_0 fuel n (aQ t,((i:Int),())) p) (len:=P) (K:=.ret false) (fun p=>0<cS t i p) (fun _=>.ret true) (fun n p hp=>?_) (fun n=>?_) P fuel 0 (by omega) (by omega)
 . rcases key with ⟨j,h1,h2,h3,h4,h5⟩|⟨h1,h2⟩
   . exact ⟨true,h5,⟨fun _=>⟨j,by omega,h3⟩,fun _=>rfl⟩⟩
   . exact ⟨false,h2,⟨fun h=>(by cases h),fun ⟨p,hp,e⟩=>absurd e (h1 p (by omega) (by omega))⟩⟩
 . try dsimp only
   rw [L72_0_succ]
   try delta ae
   simp only [dT (show (p:Int)<(aQ t).2.1.length by omega),ET ht hi (p:=p) (by omega),wn (show p<1000000000 by omega)]
   by_cases g:0<cS t i p
   . simp only [dT (show (cS t i p:Int) > 0 by omega)];exact .inl ⟨g,trivial⟩
   . simp only [dF (show ¬ (cS t i p:Int) > 0 by omega)];exact .inr ⟨g,trivial⟩
 . try dsimp only
   rw [L72_0_succ]
   try delta ae
   simp only [dF (show ¬ ((P:Nat):Int)<(aQ t).2.1.length by omega)]
open Classical in
noncomputable def fN (t:ac) (i:Nat):Int:=if mA t i then 3 else if pn t i then 2 else 1
def oS (t:ac):List Int:=(List.range t.2.1.length).map (fN t)
theorem UJ {α:Type} (f:Nat->α) (n:Nat):(List.range (n+1)).map f=(List.range n).map f++[f n]:=by rw [List.range_succ,List.map_append];rfl
theorem SC (v:Value):bV v≠bO v:=by unfold bO bV;simp
theorem Qi {t:ac} (ht:TreeOK t):f35 (t,()) = .ret (oS t,(0,())):=by
 have hfb:=bK;have hc:=ht.copies;unfold f35 wD;simp only [ht.t55,Bool.not_true,Fh ht];rw [iZ (r:=.ret ((none:Option (Value×bU)),(oS t,((0:Int),())))) fun v=>?_]
 . rfl
 have key:=dQ (L:=fun n i=>L35_0 fuel n v (t,()) (aQ t) ((List.range i).map (fN t)) i) (len:=t.2.1.length) (K:=.ret ((none:Option (Value×bU)),(oS t,((0:Int),())))) (fun n i hi=>?_) (fun n=>?_) t.2.1.length fuel 0 (by omega) (by omega)
 . exact key
 . try dsimp only
   rw [L35_0_succ]
   try delta ae
   simp only [dT (show (i:Int)<t.2.1.length by omega)];have er:((((aQ t).1.1.1,((aQ t).1.1.2.1,())),((aQ t).1.2.1,())),((aQ t).2.1,()))=aQ t:=rfl;obtain ⟨b1,a1,a2⟩:=Qu ht hi;obtain ⟨b2,a3,a4⟩:=Qv ht hi;have w1:fB v (aQ t) (bO v) i = .ret b1:=by unfold fB;rw [if_pos rfl];exact a1
   have w2:fB v (aQ t) (bV v) i = .ret b2:=by unfold fB;rw [if_neg (SC v),if_pos rfl];exact a3
   have hf:∀ x:Int,bQ ((List.range i).map (fN t)) [x]=true:=fun x=>kX (by simp;omega)
   obtain ⟨m,hm⟩:∃ m,fuel=m+3:=⟨fuel - 3,by omega⟩
   rw [UJ];have e0:L35_1 fuel n fuel v i (t,()) (aQ t) ((List.range i).map (fN t)) 1 0=L35_1 fuel n (m+3) v i (t,()) (aQ t) ((List.range i).map (fN t)) 1 0:=by rw [hm]
   rw [e0,L35_1_succ];simp only [dT (show (0:Int)<2 by omega),show ((0:Int)==0)=true from rfl,cond_true,er,w1,qJ,mn];cases b1 with
   | true =>
    simp only [hf,cond_true,show IntKind.i64.wrap (3 - 0)=3 from rfl,wn (show i<1000000000 by omega)];rw [show fN t i=3 by unfold fN;rw [if_pos (a2.1 rfl)]]
   | false =>
    have na:¬ mA t i:=fun h=>by have:=a2.2 h;cases this
    simp only [show IntKind.i64.wrap (0+1)=1 from rfl];rw [L35_1_succ];simp only [dT (show (1:Int)<2 by omega),show ((1:Int)==0)=false from rfl,show ((1:Int)==1)=true from rfl,cond_true,cond_false,er,w2,qJ,mn];cases b2 with
    | true =>
     simp only [hf,cond_true,show IntKind.i64.wrap (3 - 1)=2 from rfl,wn (show i<1000000000 by omega)];rw [show fN t i=2 by unfold fN;rw [if_neg na,if_pos (a4.1 rfl)]]
    | false =>
     have ne:¬ pn t i:=fun h=>by have:=a4.2 h;cases this
     simp only [show IntKind.i64.wrap (1+1)=2 from rfl];rw [L35_1_succ];simp only [dF (show ¬ (2:Int)<2 by omega),hf,cond_true,wn (show i<1000000000 by omega)];rw [show fN t i=1 by unfold fN;rw [if_neg na,if_neg ne]]
 . try dsimp only
   rw [L35_0_succ]
   try delta ae
   simp only [dF (show ¬ ((t.2.1.length:Nat):Int)<t.2.1.length by omega)];rfl
def oF (t:ac) (i p:Nat):Int:=if cS t i p=0 then 1 else if cS t i p=(aq t p).length then 3 else 2
def kA (t:ac) (i:Nat):Nat->Int
 | 0=>1
 | p+1=>if oF t i p > kA t i p then oF t i p else kA t i p
theorem JY {t:ac} (ht:TreeOK t) (i:Nat):∀ P:Nat,(P:Int)<=t.1->((kA t i P=3/\∃ p,p<P/\cS t i p=(aq t p).length)\/(¬ (∃ p,p<P/\cS t i p=(aq t p).length)/\((kA t i P=2/\∃ p,p<P/\0<cS t i p)\/(kA t i P=1/\¬ ∃ p,p<P/\0<cS t i p))))
 | 0,_=>.inr ⟨fun ⟨p,h,_⟩=>(by omega),.inr ⟨rfl,fun ⟨p,h,_⟩=>(by omega)⟩⟩
 | P+1,h=>by
  have ih:=JY ht i P (by omega);have hT:=ht.treeP (place:=P) (by omega) (by omega);have hn:0<(aq t P).length:=List.length_pos_iff.2 (rG hT);have hw:(oF t i P=1/\cS t i P=0)\/(oF t i P=3/\cS t i P=(aq t P).length)\/(oF t i P=2/\0<cS t i P/\cS t i P≠(aq t P).length):=by
   unfold oF
   by_cases g:cS t i P=0
   . rw [if_pos g];exact .inl ⟨rfl,g⟩
   . rw [if_neg g]
     by_cases g2:cS t i P=(aq t P).length
     . rw [if_pos g2];exact .inr (.inl ⟨rfl,g2⟩)
     . rw [if_neg g2];exact .inr (.inr ⟨rfl,by omega,g2⟩)
  simp only [kA];rcases ih with ⟨i1,p,i2,i3⟩|⟨i1,i2⟩
  . refine .inl ⟨?_,p,by omega,i3⟩;rw [i1];rcases hw with ⟨w,_⟩|⟨w,_⟩|⟨w,_⟩<;>rw [w]<;>decide
  . rcases hw with ⟨w,w2⟩|⟨w,w2⟩|⟨w,w2,w3⟩
    . rw [w];have hno:¬ ∃ p,p<P+1/\cS t i p=(aq t p).length:=fun ⟨p,h1,h2⟩=>by
       by_cases e:p=P
       . subst e;omega
       . exact i1 ⟨p,by omega,h2⟩
      refine .inr ⟨hno,?_⟩;rcases i2 with ⟨j1,p,j2,j3⟩|⟨j1,j2⟩
      . exact .inl ⟨by rw [j1];decide,p,by omega,j3⟩
      . refine .inr ⟨by rw [j1];decide,fun ⟨p,h1,h2⟩=>?_⟩
        by_cases e:p=P
        . subst e;omega
        . exact j2 ⟨p,by omega,h2⟩
    . refine .inl ⟨?_,P,by omega,w2⟩;rw [w];rcases i2 with ⟨j1,_⟩|⟨j1,_⟩<;>rw [j1]<;>decide
    . have hno:¬ ∃ p,p<P+1/\cS t i p=(aq t p).length:=fun ⟨p,h1,h2⟩=>by
       by_cases e:p=P
       . subst e;exact w3 h2
       . exact i1 ⟨p,by omega,h2⟩
      refine .inr ⟨hno,.inl ⟨?_,P,by omega,w2⟩⟩;rw [w];rcases i2 with ⟨j1,_⟩|⟨j1,_⟩<;>rw [j1]<;>decide
theorem Ww {t:ac} (ht:TreeOK t) (i:Nat):kA t i t.1.toNat=fN t i:=by
 have:=ht.places;unfold fN;rcases JY ht i t.1.toNat (by omega) with ⟨h1,h2⟩|⟨h1,⟨h2,h3⟩|⟨h2,h3⟩⟩
 . rw [if_pos (show mA t i from h2),h1]
 . rw [if_neg (show ¬ mA t i from h1),if_pos (show pn t i from h3),h2]
 . rw [if_neg (show ¬ mA t i from h1),if_neg (show ¬ pn t i from h3),h2]
end Go.V
end
