/- Part. -/
import Derived.Test.YtmkbnifehdhbbabGreatDoorQH
import Derived.Test.YtmkbnifehdhbbabGreatDoorDH
set_option linter.all false
noncomputable section
namespace Go.V
open Go.Proofs
def cU (t:ac) (i p:Nat) (f:Int):Nat:=(aq t p).countP fun l=>decide (l.getD i 0=f)
def dw (t:ac) (i p j:Nat) (f:Int):Int:=(((aq t p).take j).countP fun l=>decide (l.getD i 0=f):Nat)
def gt (t:ac) (i p:Nat):Nat->Int
 | 0=>0
 | f+1=>if (cU t i p f:Int) > gt t i p f then (cU t i p f:Int) else gt t i p f
def jY (t:ac) (i p:Nat):Int:=gt t i p 10 * jb t p
theorem Na (t:ac) (i p:Nat) (f:Int):cU t i p f<=(aq t p).length:=List.countP_le_length
theorem GS (t:ac) (i p:Nat):∀ f,0<=gt t i p f/\gt t i p f<=(aq t p).length
 | 0=>⟨Int.le_refl 0,by simp only [gt];omega⟩
 | f+1=>by
  have h1:=GS t i p f;have h2:=Na t i p f;simp only [gt];split<;>omega
theorem Nb {t:ac} (ht:TreeOK t) (but:Int):1<=jb t but/\jb t but<=16777216:=Em ht but (by have:=ht.places;omega)
theorem Sn {t:ac} (ht:TreeOK t) {i p:Nat} (hp:(p:Int)<t.1):0<=jY t i p/\jY t i p<=4294967296:=by
 have h1:=GS t i p 10;have h2:=og (ht.treeP (place:=p) (by omega) hp);have h3:=Nb ht p;unfold jY;exact ⟨Int.mul_nonneg h1.1 (by omega),Int.le_trans (Int.mul_le_mul (show gt t i p 10<=256 by omega) h3.2 (by omega) (by omega)) (by decide)⟩
theorem Qw {t:ac} {i p:Nat} (h:(aq t p).length<=256):f77 ((List.range 10).map (fun (f:Nat)=>(cU t i p f:Int)),()) = .ret (gt t i p 10):=by
 have hfb:=bK;have hl:((List.range 10).map (fun (f:Nat)=>(cU t i p f:Int))).length=10:=by simp
 have hg:∀ k,k<10->((List.range 10).map (fun (f:Nat)=>(cU t i p f:Int))).getD k 0=cU t i p k:=fun k hk=>nM hk
 unfold f77 wW
 try delta ae
 simp only [hl];rw [dF (show ¬ (((10:Nat):Int)<1) by omega)];simp only [aY (show (0:Int)<=0 by omega) (show (0:Int)<(10:Nat) by omega),cond_true];have key:=dQ (L:=fun n k=>L77_0 fuel n ((List.range 10).map (fun (f:Nat)=>(cU t i p f:Int)),()) (gt t i p k) k) (len:=10) (K:=.ret (gt t i p 10)) (fun n k hk=>?_) (fun n=>?_) 9 fuel 1 (by omega) (by omega)
 . refine Eq.trans ?_ key
   congr 1
   rw [show (0:Int).toNat=0 from rfl,hg 0 (by omega)];show (cU t i p 0:Int)=if (cU t i p (0:Nat):Int) > 0 then (cU t i p (0:Nat):Int) else 0
   split
   . rfl
   . show (cU t i p (0:Nat):Int)=0;omega
 . try dsimp only
   rw [L77_0_succ]
   try delta ae
   simp only [hl,dT (show (k:Int)<(10:Nat) by omega),aY (show (0:Int)<=k by omega) (show (k:Int)<(10:Nat) by omega),cond_true,Int.toNat_natCast,hg k hk,wn (show k<1000000000 by omega)];rfl
 . try dsimp only
   rw [L77_0_succ]
   try delta ae
   simp only [hl,dF (show ¬ (((10:Nat):Int)<(10:Nat)) by omega)]
abbrev eC:=Int×(Int×(Int×Unit))
def sn:eC:=(0,(0,(0,())))
def mE (s:eC×Bool) (u:eC):eC×Bool:=if s.2=false\/u.2.2.1<s.1.2.2.1 then (u,true) else s
def eO (l:List eC):eC×Bool:=l.foldl mE (sn,false)
theorem DZ (l:List eC) (u:eC):eO (l++[u])=mE (eO l) u:=by unfold eO;rw [List.foldl_append];rfl
theorem LK (s:eC×Bool) (u:eC):(mE s u).2=true:=by
 unfold mE;split
 . rfl
 . rename_i h;cases e:s.2 with
   | true=>rfl
   | false=>exact absurd (.inl e) h
theorem DY (l:List eC):(eO l).2=decide (0<l.length):=by
 rcases List.eq_nil_or_concat l with rfl|⟨l',u,rfl⟩
 . rfl
 . rw [List.concat_eq_append,DZ,LK];exact (dT (by simp)).symm
theorem B7 {α:Type} {l:List α} {j:Nat} (z:α) (h:j<l.length):l.take (j+1)=l.take j++[l.getD j z]:=by
 rw [List.take_add_one,List.getElem?_eq_getElem h,List.getD_eq_getElem?_getD,List.getElem?_eq_getElem h];rfl
theorem Qx (l:List eC) (hl:l.length<=1000):pO (l,((Value.func (.func 91) #[] #[]),())) = .ret ((eO l).1,((eO l).2,())):=by
 have hfb:=bK;have hq:=HE (l,((Value.func (.func 91) #[] #[]),()));have he:=Oy fuel (l,((Value.func (.func 91) #[] #[]),()));rw [<- hq];show aW Tryz.prog (ah n_) mW fuel Tryz.f90 true false oy me (l,(Value.func (.func 91) #[] #[]),())=_;rw [he];unfold Dc;have key:=dQ (L:=fun n k=>L78a_0 fuel n (l,((Value.func (.func 91) #[] #[]),())) 0 0 0 (eO (l.take k)).1.1 (eO (l.take k)).1.2.1 (eO (l.take k)).1.2.2.1 k) (len:=l.length) (K:=.ret ((eO l).1,((eO l).2,()))) (fun n k hk=>?_) (fun n=>?_) l.length fuel 0 (by omega) (by omega)
 . exact key
 . try dsimp only
   rw [L78a_0_succ]
   try delta ae
   simp only [dT (show (k:Int)<l.length by omega),aY (show (0:Int)<=k by omega) (show (k:Int)<l.length by omega),cond_true,Int.toNat_natCast,wn (show k<1000000000 by omega)];have em:=DY (l.take k);rw [B7 sn hk,DZ];have eu:l.getD k ((0:Int),((0:Int),((0:Int),())))=l.getD k sn:=rfl
   by_cases e:k=0
   . subst e;have h0:(eO (l.take 0)).2=false:=rfl;simp only [eT (show ((0:Nat):Int)=0 from rfl),eu];unfold mE;rw [if_pos (.inl h0)]
   . have h0:(eO (l.take k)).2=true:=by rw [em];exact dT (by rw [List.length_take];omega)
     simp only [eF (show (k:Int)≠0 by omega),eu];unfold mE
     by_cases g:(l.getD k sn).2.2.1<(eO (l.take k)).1.2.2.1
     . simp only [dT g];rw [if_pos (.inr g)]
     . simp only [dF g];rw [if_neg fun h=>h.elim (fun h=>by rw [h0] at h;cases h) g]
 . try dsimp only
   rw [L78a_0_succ]
   try delta ae
   simp only [dF (show ¬ ((l.length:Nat):Int)<l.length by omega),List.take_length];rw [DY];have e:decide ((l.length:Int) > 0)=decide (0<l.length):=by
    by_cases g:0<l.length
    . rw [dT g,dT (by omega)]
    . rw [dF g,dF (by omega)]
   rw [e]
def kw (t:ac) (i p:Nat):List eC:=if aH t i p = -1 then [((i:Int),((p:Int),(jY t i p,())))] else []
def iQ (t:ac) (P i:Nat):List eC:=(List.range P).flatMap (kw t i)
def g_ (t:ac) (P i:Nat):List eC:=(List.range i).flatMap (iQ t P)
def oB (t:ac):List eC:=g_ t t.1.toNat t.2.1.length
theorem JS (t:ac) (P i:Nat):(iQ t P i).length<=P * 1:=pS fun p _=>by unfold kw;split<;>simp
theorem JT (t:ac) (P i:Nat):(g_ t P i).length<=i * (P * 1):=pS fun j _=>JS t P j
theorem Wl {t:ac} (ht:TreeOK t):(oB t).length<=24:=by
 have:=ht.copies;have:=ht.places;exact Nat.le_trans (JT t _ _) (Nat.mul_le_mul (show t.2.1.length<=8 by omega) (Nat.mul_le_mul (show t.1.toNat<=3 by omega) (Nat.le_refl 1)))
def iF (t:ac):eC×Bool:=eO (oB t)
def G4 (t:ac):Out (Int×(Int×(Int×(Int×Unit)))):=if (iF t).2=true then .ret ((iF t).1.1,((iF t).1.2.1,((iF t).1.2.2.1,(0,())))) else .ret (0,(0,(0,(5,()))))
theorem Ql {t:ac} (ht:TreeOK t):f41 (t,())=G4 t:=by
 have hfb:=bK;have hc:=ht.copies;obtain ⟨P,hP,hP1,hP3⟩:=ht.pl;have hPt:t.1.toNat=P:=by omega
 have hpl:(aQ t).2.1.length=P:=by unfold aQ;simp;omega
 have et:((t.1,(t.2.1,())):ac)=t:=rfl;unfold f41 wG;simp only [ht.t55,Bool.not_true,Fh ht];have key:=dQ (L:=fun n i=>L41_0 fuel n (t,()) t.1 t.2.1 (aQ t).1.1.1 (aQ t).1.1.2.1 (aQ t).1.2.1 (aQ t).2.1 (g_ t P i) i) (len:=t.2.1.length) (K:=if (iF t).2=true then .ret ((),((iF t).1.1,((iF t).1.2.1,((iF t).1.2.2.1,((0:Int),()))))) else .ret ((),((0:Int),((0:Int),((0:Int),((5:Int),())))))) (fun n i hi=>?_) (fun n=>?_) t.2.1.length fuel 0 (by omega) (by omega)
 . rw [show L41_0 fuel fuel (t,()) t.1 t.2.1 (aQ t).1.1.1 (aQ t).1.1.2.1 (aQ t).1.2.1 (aQ t).2.1 [] 0=_ from key];unfold G4;split<;>rfl
 . try dsimp only
   rw [L41_0_succ]
   try delta ae
   simp only [dT (show (i:Int)<t.2.1.length by omega),aY (show (0:Int)<=i by omega) (show (i:Int)<t.2.1.length by omega),cond_true];have hto:=JT t P i;have hb:i * (P * 1)<=8 * (3 * 1):=Nat.mul_le_mul (by omega) (Nat.mul_le_mul hP3 (Nat.le_refl 1));have hl:((t.2.1.getD i bh).2.1.length:Int)=t.1:=(ht.node i hi).len;have inner:=dQ (L:=fun n1 p=>L41_1 fuel n n1 i (t,()) t.1 t.2.1 (aQ t).1.1.1 (aQ t).1.1.2.1 (aQ t).1.2.1 (aQ t).2.1 (g_ t P i++iQ t p i) p) (len:=P) (K:=L41_0 fuel n (t,()) t.1 t.2.1 (aQ t).1.1.1 (aQ t).1.1.2.1 (aQ t).1.2.1 (aQ t).2.1 (g_ t P (i+1)) ((i+1:Nat):Int)) (fun n1 p hp=>?_) (fun n1=>?_) P fuel 0 (by omega) (by omega)
   . refine Eq.trans ?_ inner;show L41_1 fuel n fuel i (t,()) t.1 t.2.1 _ _ _ _ _ 0=L41_1 fuel n fuel i (t,()) t.1 t.2.1 _ _ _ _ _ ((0:Nat):Int);rw [show iQ t 0 i=[] from rfl,List.append_nil];rfl
   . try dsimp only
     rw [L41_1_succ]
     try delta ae
     have es:(t.2.1.getD i bh).2.1.getD p 0=aH t i p:=(uD t i p).symm;have hrl:=JS t p i;have hT:=ht.treeP (place:=p) (by omega) (by omega);have hsl:=og hT;have hlb:=Sn ht (i:=i) (p:=p) (by omega);have eR:iQ t (p+1) i=iQ t p i++kw t i p:=pR _ _;simp only [Int.toNat_natCast,dT (show (p:Int)<(t.2.1.getD i bh).2.1.length by omega),aY (show (0:Int)<=p by omega) (show (p:Int)<(t.2.1.getD i bh).2.1.length by omega),cond_true,es,wn (show p<1000000000 by omega)];rw [eR]
     by_cases g:aH t i p = -1
     . have ec:kw t i p=[((i:Int),((p:Int),(jY t i p,())))]:=by unfold kw;rw [if_pos g]
       simp only [nF g,aY (show (0:Int)<=p by omega) (show (p:Int)<(aQ t).2.1.length by omega),cond_true];have hcnt:∀ j,j<(aq t p).length->∀ f:Int,(bif ((aq t p).getD j []).getD i 0==f then IntKind.i64.wrap (dw t i p j f+1) else dw t i p j f)=dw t i p (j+1) f:=fun j hj f=>by
        have hk:((aq t p).take j).countP (fun l=>decide (l.getD i 0=f))<=1000:=Nat.le_trans List.countP_le_length (by rw [List.length_take];omega);have hk2:0<=dw t i p j f/\dw t i p j f<=1000:=by unfold dw;omega
        have e:dw t i p (j+1) f=dw t i p j f+if ((aq t p).getD j []).getD i 0=f then 1 else 0:=by
         unfold dw;rw [JC (z:=[]) hj]
         by_cases g:((aq t p).getD j []).getD i 0=f
         . rw [dT g,if_pos g];rfl
         . rw [dF g,if_neg g];rfl
        rw [e]
        by_cases g:((aq t p).getD j []).getD i 0=f
        . rw [eT g,if_pos g,cond_true,wr (by omega) (by omega)]
        . rw [eF g,if_neg g,cond_false,Int.add_zero]
       have deep:=dQ (L:=fun n2 j=>L41_2 fuel n n1 n2 i p (t,()) (aQ t).2.1 t.1 t.2.1 (aQ t).1.1.1 (aQ t).1.1.2.1 (aQ t).1.2.1 (aQ t).2.1 (g_ t P i++iQ t p i) (dw t i p j 0) (dw t i p j 1) (dw t i p j 2) (dw t i p j 3) (dw t i p j 4) (dw t i p j 5) (dw t i p j 6) (dw t i p j 7) (dw t i p j 8) (dw t i p j 9) j) (len:=(aq t p).length) (K:=L41_1 fuel n n1 i (t,()) t.1 t.2.1 (aQ t).1.1.1 (aQ t).1.1.2.1 (aQ t).1.2.1 (aQ t).2.1 (g_ t P i++(iQ t p i++kw t i p)) ((p+1:Nat):Int)) (fun n2 j hj=>?_) (fun n2=>?_) (aq t p).length fuel 0 (by omega) (by omega)
       . exact deep
       . try dsimp only
         rw [L41_2_succ]
         try delta ae
         have hw:=B4 hT hj;have hfig:=(Jk hT hj).vc.at hi;simp only [Int.toNat_natCast,rL (t:=t) (p:=p) (show p<t.1.toNat by omega),dT (show (j:Int)<(aq t p).length by omega),aY (show (0:Int)<=j by omega) (show (j:Int)<(aq t p).length by omega),aY (show (0:Int)<=i by omega) (show (i:Int)<((aq t p).getD j []).length by omega),aY (n:=10) hfig.1 (by omega),cond_true,wn (show j<1000000000 by omega)];rw [hcnt j hj 0,hcnt j hj 1,hcnt j hj 2,hcnt j hj 3,hcnt j hj 4,hcnt j hj 5,hcnt j hj 6,hcnt j hj 7,hcnt j hj 8,hcnt j hj 9]
       . try dsimp only
         rw [L41_2_succ]
         try delta ae
         have e:∀ f,dw t i p (aq t p).length f=cU t i p f:=fun f=>by unfold dw cU;rw [List.take_length]
         have e10:[(cU t i p 0:Int),(cU t i p 1:Int),(cU t i p 2:Int),(cU t i p 3:Int),(cU t i p 4:Int),(cU t i p 5:Int),(cU t i p 6:Int),(cU t i p 7:Int),(cU t i p 8:Int),(cU t i p 9:Int)]=(List.range 10).map (fun (f:Nat)=>(cU t i p f:Int)):=rfl;have hw:IntKind.i64.wrap (gt t i p 10 * jb t p)=jY t i p:=by
          show IntKind.i64.wrap (jY t i p)=_;rw [wr (by omega) (by omega)]
         simp only [Int.toNat_natCast,rL (t:=t) (p:=p) (show p<t.1.toNat by omega),dF (show ¬ (((aq t p).length:Nat):Int)<(aq t p).length by omega),e,e10,Qw (i:=i) hsl,et,Fg ht,hw,kX (xs:=g_ t P i++iQ t p i) (ys:=[((i:Int),((p:Int),(jY t i p,())))]) (by rw [List.length_append];simp only [List.length_cons,List.length_nil];omega),cond_true,wn (show p<1000000000 by omega)];rw [ec,List.append_assoc]
     . have ec:kw t i p=[]:=by unfold kw;rw [if_neg g]
       simp only [nT g];rw [ec,List.append_nil]
   . try dsimp only
     rw [L41_1_succ]
     try delta ae
     simp only [Int.toNat_natCast,dF (show ¬ ((P:Nat):Int)<(t.2.1.getD i bh).2.1.length by omega),wn (show i<1000000000 by omega)];rw [show g_ t P (i+1)=g_ t P i++iQ t P i from pR _ _]
 . try dsimp only
   rw [L41_0_succ]
   try delta ae
   have e:g_ t P t.2.1.length=oB t:=by unfold oB;rw [hPt]
   simp only [dF (show ¬ ((t.2.1.length:Nat):Int)<t.2.1.length by omega),e,Qx (oB t) (by have:=Wl ht;omega)];have en:eO (oB t)=iF t:=rfl;rw [en];cases (iF t).2<;>rfl
end Go.V
end
