/- A part of the proof of a law of the copies. -/
import Derived.Test.YtmkbnifehdhbbabGreatDoorQH
import Derived.Test.YtmkbnifehdhbbabGreatDoorDH
set_option linter.all false
noncomputable section
namespace Go.V
open Go.Proofs
def cntF (t:TREE) (i p:Nat) (f:Int):Nat:=(storT t p).countP fun l=>decide (l.getD i 0=f)
def cntJ (t:TREE) (i p j:Nat) (f:Int):Int:=(((storT t p).take j).countP fun l=>decide (l.getD i 0=f):Nat)
def mostTo (t:TREE) (i p:Nat):Nat->Int
 | 0=>0
 | f+1=>if (cntF t i p f:Int) > mostTo t i p f then (cntF t i p f:Int) else mostTo t i p f
def leftT (t:TREE) (i p:Nat):Int:=mostTo t i p 10 * cntT t p
theorem cntF_le (t:TREE) (i p:Nat) (f:Int):cntF t i p f<=(storT t p).length:=List.countP_le_length
theorem mostTo_bd (t:TREE) (i p:Nat):∀ f,0<=mostTo t i p f/\mostTo t i p f<=(storT t p).length
 | 0=>⟨Int.le_refl 0,by simp only [mostTo];omega⟩
 | f+1=>by
  have h1:=mostTo_bd t i p f;have h2:=cntF_le t i p f;simp only [mostTo];split<;>omega
theorem cntT_bd {t:TREE} (ht:TreeOK t) (but:Int):1<=cntT t but/\cntT t but<=16777216:=cnt_small ht but (by have:=ht.places;omega)
theorem left_bd {t:TREE} (ht:TreeOK t) {i p:Nat} (hp:(p:Int)<t.1):0<=leftT t i p/\leftT t i p<=4294967296:=by
 have h1:=mostTo_bd t i p 10;have h2:=stor_len (ht.treeP (place:=p) (by omega) hp);have h3:=cntT_bd ht p;unfold leftT;exact ⟨Int.mul_nonneg h1.1 (by omega),Int.le_trans (Int.mul_le_mul (show mostTo t i p 10<=256 by omega) h3.2 (by omega) (by omega)) (by decide)⟩
theorem f77_at {t:TREE} {i p:Nat} (h:(storT t p).length<=256):f77 ((List.range 10).map (fun (f:Nat)=>(cntF t i p f:Int)),()) = .ret (mostTo t i p 10):=by
 have hfb:=fuel_big;have hl:((List.range 10).map (fun (f:Nat)=>(cntF t i p f:Int))).length=10:=by simp
 have hg:∀ k,k<10->((List.range 10).map (fun (f:Nat)=>(cntF t i p f:Int))).getD k 0=cntF t i p k:=fun k hk=>rangeMap_getD hk
 unfold f77 F77
 try delta lenI
 simp only [hl];rw [dF (show ¬ (((10:Nat):Int)<1) by omega)];simp only [inbT (show (0:Int)<=0 by omega) (show (0:Int)<(10:Nat) by omega),cond_true];have key:=runL (L:=fun n k=>L77_0 fuel n ((List.range 10).map (fun (f:Nat)=>(cntF t i p f:Int)),()) (mostTo t i p k) k) (len:=10) (K:=.ret (mostTo t i p 10)) (fun n k hk=>?_) (fun n=>?_) 9 fuel 1 (by omega) (by omega)
 . refine Eq.trans ?_ key
   congr 1
   rw [show (0:Int).toNat=0 from rfl,hg 0 (by omega)];show (cntF t i p 0:Int)=if (cntF t i p (0:Nat):Int) > 0 then (cntF t i p (0:Nat):Int) else 0
   split
   . rfl
   . show (cntF t i p (0:Nat):Int)=0;omega
 . try dsimp only
   rw [L77_0_succ]
   try delta lenI
   simp only [hl,dT (show (k:Int)<(10:Nat) by omega),inbT (show (0:Int)<=k by omega) (show (k:Int)<(10:Nat) by omega),cond_true,Int.toNat_natCast,hg k hk,wn (show k<1000000000 by omega)];rfl
 . try dsimp only
   rw [L77_0_succ]
   try delta lenI
   simp only [hl,dF (show ¬ (((10:Nat):Int)<(10:Nat)) by omega)]
abbrev UNR:=Int×(Int×(Int×Unit))
def UNR0:UNR:=(0,(0,(0,())))
def bstep (s:UNR×Bool) (u:UNR):UNR×Bool:=if s.2=false\/u.2.2.1<s.1.2.2.1 then (u,true) else s
def bestF (l:List UNR):UNR×Bool:=l.foldl bstep (UNR0,false)
theorem bestF_snoc (l:List UNR) (u:UNR):bestF (l++[u])=bstep (bestF l) u:=by unfold bestF;rw [List.foldl_append];rfl
theorem bstep_met (s:UNR×Bool) (u:UNR):(bstep s u).2=true:=by
 unfold bstep;split
 . rfl
 . rename_i h;cases e:s.2 with
   | true=>rfl
   | false=>exact absurd (.inl e) h
theorem bestF_met (l:List UNR):(bestF l).2=decide (0<l.length):=by
 rcases List.eq_nil_or_concat l with rfl|⟨l',u,rfl⟩
 . rfl
 . rw [List.concat_eq_append,bestF_snoc,bstep_met];exact (dT (by simp)).symm
theorem take_snoc {α:Type} {l:List α} {j:Nat} (z:α) (h:j<l.length):l.take (j+1)=l.take j++[l.getD j z]:=by
 rw [List.take_add_one,List.getElem?_eq_getElem h,List.getD_eq_getElem?_getD,List.getElem?_eq_getElem h];rfl
theorem f78a_at (l:List UNR) (hl:l.length<=1000):f78a (l,((Value.func (.func 91) #[] #[]),())) = .ret ((bestF l).1,((bestF l).2,())):=by
 have hfb:=fuel_big;have hq:=q78a (l,((Value.func (.func 91) #[] #[]),()));have he:=e78a fuel (l,((Value.func (.func 91) #[] #[]),()));rw [<- hq];show vfn Tryz.prog (phi specs78a) hints78a fuel Tryz.f90 true false ty19 ty16 (l,(Value.func (.func 91) #[] #[]),())=_
 rw [he];unfold F78a;have key:=runL (L:=fun n k=>L78a_0 fuel n (l,((Value.func (.func 91) #[] #[]),())) 0 0 0 (bestF (l.take k)).1.1 (bestF (l.take k)).1.2.1 (bestF (l.take k)).1.2.2.1 k) (len:=l.length) (K:=.ret ((bestF l).1,((bestF l).2,()))) (fun n k hk=>?_) (fun n=>?_) l.length fuel 0 (by omega) (by omega)
 . exact key
 . try dsimp only
   rw [L78a_0_succ]
   try delta lenI
   simp only [dT (show (k:Int)<l.length by omega),inbT (show (0:Int)<=k by omega) (show (k:Int)<l.length by omega),cond_true,Int.toNat_natCast,wn (show k<1000000000 by omega)];have em:=bestF_met (l.take k);rw [take_snoc UNR0 hk,bestF_snoc]
   have eu:l.getD k ((0:Int),((0:Int),((0:Int),())))=l.getD k UNR0:=rfl
   by_cases e:k=0
   . subst e;have h0:(bestF (l.take 0)).2=false:=rfl;simp only [eT (show ((0:Nat):Int)=0 from rfl),eu];unfold bstep;rw [if_pos (.inl h0)]
   . have h0:(bestF (l.take k)).2=true:=by rw [em];exact dT (by rw [List.length_take];omega)
     simp only [eF (show (k:Int)≠0 by omega),eu];unfold bstep
     by_cases g:(l.getD k UNR0).2.2.1<(bestF (l.take k)).1.2.2.1
     . simp only [dT g];rw [if_pos (.inr g)]
     . simp only [dF g];rw [if_neg fun h=>h.elim (fun h=>by rw [h0] at h;cases h) g]
 . try dsimp only
   rw [L78a_0_succ]
   try delta lenI
   simp only [dF (show ¬ ((l.length:Nat):Int)<l.length by omega),List.take_length];rw [bestF_met];have e:decide ((l.length:Int) > 0)=decide (0<l.length):=by
    by_cases g:0<l.length
    . rw [dT g,dT (by omega)]
    . rw [dF g,dF (by omega)]
   rw [e]
def unrCell (t:TREE) (i p:Nat):List UNR:=if seenAt t i p = -1 then [((i:Int),((p:Int),(leftT t i p,())))] else []
def unrRow (t:TREE) (P i:Nat):List UNR:=(List.range P).flatMap (unrCell t i)
def unrTo (t:TREE) (P i:Nat):List UNR:=(List.range i).flatMap (unrRow t P)
def unrT (t:TREE):List UNR:=unrTo t t.1.toNat t.2.1.length
theorem unrRow_len (t:TREE) (P i:Nat):(unrRow t P i).length<=P * 1:=flat_len fun p _=>by unfold unrCell;split<;>simp
theorem unrTo_len (t:TREE) (P i:Nat):(unrTo t P i).length<=i * (P * 1):=flat_len fun j _=>unrRow_len t P j
theorem unr_len {t:TREE} (ht:TreeOK t):(unrT t).length<=24:=by
 have:=ht.copies;have:=ht.places;exact Nat.le_trans (unrTo_len t _ _) (Nat.mul_le_mul (show t.2.1.length<=8 by omega) (Nat.mul_le_mul (show t.1.toNat<=3 by omega) (Nat.le_refl 1)))
def nextT (t:TREE):UNR×Bool:=bestF (unrT t)
def nextR (t:TREE):Out (Int×(Int×(Int×(Int×Unit)))):=if (nextT t).2=true then .ret ((nextT t).1.1,((nextT t).1.2.1,((nextT t).1.2.2.1,(0,())))) else .ret (0,(0,(0,(5,()))))
theorem f41_at {t:TREE} (ht:TreeOK t):f41 (t,())=nextR t:=by
 have hfb:=fuel_big;have hc:=ht.copies;obtain ⟨P,hP,hP1,hP3⟩:=ht.pl;have hPt:t.1.toNat=P:=by omega
 have hpl:(tolT t).2.1.length=P:=by unfold tolT;simp;omega
 have et:((t.1,(t.2.1,())):TREE)=t:=rfl;unfold f41 F41;simp only [ht.t55,Bool.not_true,f70_at ht];have key:=runL (L:=fun n i=>L41_0 fuel n (t,()) t.1 t.2.1 (tolT t).1.1.1 (tolT t).1.1.2.1 (tolT t).1.2.1 (tolT t).2.1 (unrTo t P i) i) (len:=t.2.1.length) (K:=if (nextT t).2=true then .ret ((),((nextT t).1.1,((nextT t).1.2.1,((nextT t).1.2.2.1,((0:Int),()))))) else .ret ((),((0:Int),((0:Int),((0:Int),((5:Int),())))))) (fun n i hi=>?_) (fun n=>?_) t.2.1.length fuel 0 (by omega) (by omega)
 . rw [show L41_0 fuel fuel (t,()) t.1 t.2.1 (tolT t).1.1.1 (tolT t).1.1.2.1 (tolT t).1.2.1 (tolT t).2.1 [] 0=_ from key];unfold nextR;split<;>rfl
 . try dsimp only
   rw [L41_0_succ]
   try delta lenI
   simp only [dT (show (i:Int)<t.2.1.length by omega),inbT (show (0:Int)<=i by omega) (show (i:Int)<t.2.1.length by omega),cond_true];have hto:=unrTo_len t P i;have hb:i * (P * 1)<=8 * (3 * 1):=Nat.mul_le_mul (by omega) (Nat.mul_le_mul hP3 (Nat.le_refl 1))
   have hl:((t.2.1.getD i NODE0).2.1.length:Int)=t.1:=(ht.node i hi).len;have inner:=runL (L:=fun n1 p=>L41_1 fuel n n1 i (t,()) t.1 t.2.1 (tolT t).1.1.1 (tolT t).1.1.2.1 (tolT t).1.2.1 (tolT t).2.1 (unrTo t P i++unrRow t p i) p) (len:=P) (K:=L41_0 fuel n (t,()) t.1 t.2.1 (tolT t).1.1.1 (tolT t).1.1.2.1 (tolT t).1.2.1 (tolT t).2.1 (unrTo t P (i+1)) ((i+1:Nat):Int)) (fun n1 p hp=>?_) (fun n1=>?_) P fuel 0 (by omega) (by omega)
   . refine Eq.trans ?_ inner;show L41_1 fuel n fuel i (t,()) t.1 t.2.1 _ _ _ _ _ 0=L41_1 fuel n fuel i (t,()) t.1 t.2.1 _ _ _ _ _ ((0:Nat):Int);rw [show unrRow t 0 i=[] from rfl,List.append_nil];rfl
   . try dsimp only
     rw [L41_1_succ]
     try delta lenI
     have es:(t.2.1.getD i NODE0).2.1.getD p 0=seenAt t i p:=(seenAt_node t i p).symm;have hrl:=unrRow_len t p i;have hT:=ht.treeP (place:=p) (by omega) (by omega);have hsl:=stor_len hT;have hlb:=left_bd ht (i:=i) (p:=p) (by omega)
     have eR:unrRow t (p+1) i=unrRow t p i++unrCell t i p:=flatMap_succ _ _;simp only [Int.toNat_natCast,dT (show (p:Int)<(t.2.1.getD i NODE0).2.1.length by omega),inbT (show (0:Int)<=p by omega) (show (p:Int)<(t.2.1.getD i NODE0).2.1.length by omega),cond_true,es,wn (show p<1000000000 by omega)]
     rw [eR]
     by_cases g:seenAt t i p = -1
     . have ec:unrCell t i p=[((i:Int),((p:Int),(leftT t i p,())))]:=by unfold unrCell;rw [if_pos g]
       simp only [nF g,inbT (show (0:Int)<=p by omega) (show (p:Int)<(tolT t).2.1.length by omega),cond_true];have hcnt:∀ j,j<(storT t p).length->∀ f:Int,(bif ((storT t p).getD j []).getD i 0==f then IntKind.i64.wrap (cntJ t i p j f+1) else cntJ t i p j f)=cntJ t i p (j+1) f:=fun j hj f=>by
        have hk:((storT t p).take j).countP (fun l=>decide (l.getD i 0=f))<=1000:=Nat.le_trans List.countP_le_length (by rw [List.length_take];omega);have hk2:0<=cntJ t i p j f/\cntJ t i p j f<=1000:=by unfold cntJ;omega
        have e:cntJ t i p (j+1) f=cntJ t i p j f+if ((storT t p).getD j []).getD i 0=f then 1 else 0:=by
         unfold cntJ;rw [take_count (z:=[]) hj]
         by_cases g:((storT t p).getD j []).getD i 0=f
         . rw [dT g,if_pos g];rfl
         . rw [dF g,if_neg g];rfl
        rw [e]
        by_cases g:((storT t p).getD j []).getD i 0=f
        . rw [eT g,if_pos g,cond_true,wr (by omega) (by omega)]
        . rw [eF g,if_neg g,cond_false,Int.add_zero]
       have deep:=runL (L:=fun n2 j=>L41_2 fuel n n1 n2 i p (t,()) (tolT t).2.1 t.1 t.2.1 (tolT t).1.1.1 (tolT t).1.1.2.1 (tolT t).1.2.1 (tolT t).2.1 (unrTo t P i++unrRow t p i) (cntJ t i p j 0) (cntJ t i p j 1) (cntJ t i p j 2) (cntJ t i p j 3) (cntJ t i p j 4) (cntJ t i p j 5) (cntJ t i p j 6) (cntJ t i p j 7) (cntJ t i p j 8) (cntJ t i p j 9) j) (len:=(storT t p).length) (K:=L41_1 fuel n n1 i (t,()) t.1 t.2.1 (tolT t).1.1.1 (tolT t).1.1.2.1 (tolT t).1.2.1 (tolT t).2.1 (unrTo t P i++(unrRow t p i++unrCell t i p)) ((p+1:Nat):Int)) (fun n2 j hj=>?_) (fun n2=>?_) (storT t p).length fuel 0 (by omega) (by omega)
       . exact deep
       . try dsimp only
         rw [L41_2_succ]
         try delta lenI
         have hw:=stor_wide hT hj;have hfig:=(stor_row hT hj).vc.at hi;simp only [Int.toNat_natCast,tol_at (t:=t) (p:=p) (show p<t.1.toNat by omega),dT (show (j:Int)<(storT t p).length by omega),inbT (show (0:Int)<=j by omega) (show (j:Int)<(storT t p).length by omega),inbT (show (0:Int)<=i by omega) (show (i:Int)<((storT t p).getD j []).length by omega),inbT (n:=10) hfig.1 (by omega),cond_true,wn (show j<1000000000 by omega)]
         rw [hcnt j hj 0,hcnt j hj 1,hcnt j hj 2,hcnt j hj 3,hcnt j hj 4,hcnt j hj 5,hcnt j hj 6,hcnt j hj 7,hcnt j hj 8,hcnt j hj 9]
       . try dsimp only
         rw [L41_2_succ]
         try delta lenI
         have e:∀ f,cntJ t i p (storT t p).length f=cntF t i p f:=fun f=>by unfold cntJ cntF;rw [List.take_length]
         have e10:[(cntF t i p 0:Int),(cntF t i p 1:Int),(cntF t i p 2:Int),(cntF t i p 3:Int),(cntF t i p 4:Int),(cntF t i p 5:Int),(cntF t i p 6:Int),(cntF t i p 7:Int),(cntF t i p 8:Int),(cntF t i p 9:Int)]=(List.range 10).map (fun (f:Nat)=>(cntF t i p f:Int)):=rfl
         have hw:IntKind.i64.wrap (mostTo t i p 10 * cntT t p)=leftT t i p:=by
          show IntKind.i64.wrap (leftT t i p)=_;rw [wr (by omega) (by omega)]
         simp only [Int.toNat_natCast,tol_at (t:=t) (p:=p) (show p<t.1.toNat by omega),dF (show ¬ (((storT t p).length:Nat):Int)<(storT t p).length by omega),e,e10,f77_at (i:=i) hsl,et,f65_at ht,hw,fitsT (xs:=unrTo t P i++unrRow t p i) (ys:=[((i:Int),((p:Int),(leftT t i p,())))]) (by rw [List.length_append];simp only [List.length_cons,List.length_nil];omega),cond_true,wn (show p<1000000000 by omega)]
         rw [ec,List.append_assoc]
     . have ec:unrCell t i p=[]:=by unfold unrCell;rw [if_neg g]
       simp only [nT g];rw [ec,List.append_nil]
   . try dsimp only
     rw [L41_1_succ]
     try delta lenI
     simp only [Int.toNat_natCast,dF (show ¬ ((P:Nat):Int)<(t.2.1.getD i NODE0).2.1.length by omega),wn (show i<1000000000 by omega)];rw [show unrTo t P (i+1)=unrTo t P i++unrRow t P i from flatMap_succ _ _]
 . try dsimp only
   rw [L41_0_succ]
   try delta lenI
   have e:unrTo t P t.2.1.length=unrT t:=by unfold unrT;rw [hPt]
   simp only [dF (show ¬ ((t.2.1.length:Nat):Int)<t.2.1.length by omega),e,f78a_at (unrT t) (by have:=unr_len ht;omega)];have en:bestF (unrT t)=nextT t:=rfl;rw [en];cases (nextT t).2<;>rfl
end Go.V
end
