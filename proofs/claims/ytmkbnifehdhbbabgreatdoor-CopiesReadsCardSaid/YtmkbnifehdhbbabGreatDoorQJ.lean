/- Part. -/
import Derived.Test.YtmkbnifehdhbbabGreatDoorQI
import Derived.Test.YtmkbnifehdhbbabGreatDoorDD
set_option linter.all false
noncomputable section
namespace Go.V
open Go.Proofs
def under (t:ac) (c:Int) (i:Nat):Bool:=decide (c∈aF t i)
def uY (t:ac) (p right c:Int):Bool:=(List.range t.2.1.length).all fun i=>bif under t c i then
 decide (aH t i p≠right) && (List.range t.2.1.length).all fun j => !under t c j || (decide (aH t i p = -1) || (decide (aH t j p = -1) || decide (aH t i p=aH t j p)))
 else cv t p i right
structure SrcOK (t:ac) (p right c:Int):Prop where
 off:∀ i,i<t.2.1.length->under t c i=false->cv t p i right=true
 on:∀ i,i<t.2.1.length->under t c i=true->aH t i p≠right
 one:∀ i j,i<t.2.1.length->under t c i=true->j<t.2.1.length->under t c j=true->aH t i p ≠ -1->aH t j p ≠ -1->aH t i p=aH t j p
theorem Jd {t:ac} {p right c:Int}:uY t p right c=true<->SrcOK t p right c:=by
 unfold uY;rw [List.all_eq_true];constructor
 . intro h;have h':∀ i,i<t.2.1.length->_:=fun i hi=>h i (List.mem_range.2 hi)
   refine ⟨fun i hi hu=>?_,fun i hi hu=>?_,fun i j hi hu hj hv h1 h2=>?_⟩
   . have:=h' i hi;rw [hu] at this;exact this
   . have:=h' i hi;rw [hu,cond_true,Bool.and_eq_true] at this;exact of_decide_eq_true this.1
   . have:=h' i hi;rw [hu,cond_true,Bool.and_eq_true,List.all_eq_true] at this;have:=this.2 j (List.mem_range.2 hj);rw [hv,dF h1,dF h2] at this
     simpa using this
 . intro h i hi;have hi:=List.mem_range.1 hi;cases hu:under t c i with
   | false=>exact h.off i hi hu
   | true =>
    rw [cond_true,Bool.and_eq_true,List.all_eq_true];refine ⟨decide_eq_true (h.on i hi hu),fun j hj=>?_⟩;have hj:=List.mem_range.1 hj;cases hv:under t c j with
    | false=>rfl
    | true =>
     by_cases h1:aH t i p = -1
     . rw [dT h1];simp
     . by_cases h2:aH t j p = -1
       . rw [dT h2];simp
       . rw [dT (h.one i j hi hu hj hv h1 h2)];simp
theorem U6 {t:ac} (ht:TreeOK t) {i:Nat} (hi:i<t.2.1.length) {c:Int} (hc:IsCopy t c):fZ t i c=c<->under t c i=true:=by
 have hI:IsCopy t (i:Int):=⟨by omega,by omega⟩
 unfold under;rw [decide_eq_true_eq];constructor
 . intro e;obtain ⟨_,g2,_,_⟩:=AT ht hI hc;rw [e] at g2;exact g2
 . intro h;exact U7 ht hI hc h (Uo ht hc.l hc.h) fun x _ h2=>(uv ht hc.l hc.h h2).2
def dA (t:ac) (p c:Int):Nat->Int
 | 0 => -1
 | k+1=>bif under t c k then (if aH t k p > dA t p c k then aH t k p else dA t p c k) else dA t p c k
def xO (t:ac) (p right c:Int) (i:Nat):Prop:=(under t c i=false/\cv t p i right=false)\/(under t c i=true/\(aH t i p=right\/(aH t i p ≠ -1/\dA t p c i ≠ -1/\aH t i p≠dA t p c i)))
theorem Cu {t:ac} {p c:Int} (hlo:∀ i,i<t.2.1.length -> -1<=aH t i p):∀ k,k<=t.2.1.length -> -1<=dA t p c k/\(dA t p c k = -1\/∃ j,j<k/\under t c j=true/\dA t p c k=aH t j p)/\∀ j,j<k->under t c j=true->aH t j p<=dA t p c k
 | 0,_=>⟨Int.le_refl _,.inl rfl,fun j h=>by omega⟩
 | k+1,hk=>by
  obtain ⟨i1,i2,i3⟩:=Cu (c:=c) hlo k (by omega);simp only [dA];cases hu:under t c k with
  | false =>
   rw [cond_false];refine ⟨i1,i2.imp id fun ⟨j,h1,h2⟩=>⟨j,by omega,h2⟩,fun j hj hv=>?_⟩
   by_cases e:j=k
   . subst e;rw [hu] at hv;cases hv
   . exact i3 j (by omega) hv
  | true =>
   rw [cond_true]
   by_cases g:aH t k p > dA t p c k
   . rw [if_pos g];refine ⟨by omega,.inr ⟨k,by omega,hu,rfl⟩,fun j hj hv=>?_⟩
     by_cases e:j=k
     . subst e;omega
     . have:=i3 j (by omega) hv;omega
   . rw [if_neg g];refine ⟨i1,i2.imp id fun ⟨j,h1,h2⟩=>⟨j,by omega,h2⟩,fun j hj hv=>?_⟩
     by_cases e:j=k
     . subst e;omega
     . exact i3 j (by omega) hv
theorem Je {t:ac} {p right c:Int} (hlo:∀ i,i<t.2.1.length -> -1<=aH t i p):(∀ i,i<t.2.1.length->¬ xO t p right c i)<->SrcOK t p right c:=by
 constructor
 . intro h;have key:∀ k,k<=t.2.1.length->∀ j,j<k->under t c j=true->aH t j p = -1\/aH t j p=dA t p c k:=by
    intro k
    induction k with
    | zero=>intro _ j hj;omega
    | succ k ih =>
     intro hk j hj hv;obtain ⟨i1,i2,i3⟩:=Cu (c:=c) hlo k (by omega);have hb:=h k (by omega);simp only [dA];cases hu:under t c k with
     | false =>
      rw [cond_false]
      by_cases e:j=k
      . subst e;rw [hu] at hv;cases hv
      . exact ih (by omega) j (by omega) hv
     | true =>
      rw [cond_true];have hk3:aH t k p = -1\/dA t p c k = -1\/aH t k p=dA t p c k:=by
       refine Classical.byContradiction fun hn=>hb (.inr ⟨hu,.inr ⟨fun e=>hn (.inl e),fun e=>hn (.inr (.inl e)),fun e=>hn (.inr (.inr e))⟩⟩)
      by_cases e:j=k
      . subst e;have:=hlo j (by omega);split
        . exact .inr rfl
        . rcases hk3 with h1|h1|h1<;>omega
      . have h2:=ih (by omega) j (by omega) hv;have h4:=hlo j (by omega);split
        . rcases h2 with h2|h2
          . exact .inl h2
          . rcases hk3 with h1|h1|h1<;>omega
        . exact h2
   refine ⟨fun i hi hu=>?_,fun i hi hu e=>h i hi (.inr ⟨hu,.inl e⟩),fun i j hi hu hj hv h1 h2=>?_⟩
   . cases e:cv t p i right with
     | true=>rfl
     | false=>exact absurd (.inl ⟨hu,e⟩) (h i hi)
   . have a:=key _ (Nat.le_refl _) i hi hu;have b:=key _ (Nat.le_refl _) j hj hv;rcases a with a|a
     . exact absurd a h1
     . rcases b with b|b
       . exact absurd b h2
       . rw [a,b]
 . intro h i hi hb;rcases hb with ⟨hu,hf⟩|⟨hu,e|⟨h1,h2,h3⟩⟩
   . rw [h.off i hi hu] at hf;cases hf
   . exact h.on i hi hu e
   . obtain ⟨i1,i2,i3⟩:=Cu (c:=c) hlo i (by omega);rcases i2 with e|⟨j,hj,hv,e⟩
     . exact h2 e
     . exact h3 (by rw [e];exact h.one i j hi hu (by omega) hv h1 (by rw [<- e];exact h2))
theorem Qy {t:ac} (ht:TreeOK t) {c:Int} (hc:IsCopy t c) {p:Nat} (hp:(p:Int)<t.1) {right:Int}:(SrcOK t p right c/\f83 (aJ t,(c,((p:Int),(right,())))) = .ret ())\/(¬ SrcOK t p right c/\∃ i:Int,f83 (aJ t,(c,((p:Int),(right,())))) = .pan (.iface 144 (aP (.prod (.int .i64) .unit) ((cC (.prod (.int .i64) .unit) (i,())).getD [])))):=by
 have hfb:=bK;have hcc:=ht.copies;have hT:=ht.treeP (place:=p) (by omega) hp;have hlo:∀ i,i<t.2.1.length -> -1<=aH t i p:=fun i hi=>(hT.figs i hi).1
 unfold f83 wY;have key:=gm (L:=fun n i=>L83_0 fuel n (aJ t,(c,((p:Int),(right,())))) (dA t p c i) i) (len:=t.2.1.length) (K:=.ret ()) (xO t p right c) (fun i=>.pan (.iface 144 (aP (.prod (.int .i64) .unit) ((cC (.prod (.int .i64) .unit) ((i:Int),())).getD [])))) (fun n i hi=>?_) (fun n=>?_) t.2.1.length fuel 0 (by omega) (by omega)
 . rcases key with ⟨j,h1,h2,h3,h4,h5⟩|⟨h1,h2⟩
   . exact .inr ⟨fun h=>(Je hlo).2 h j h2 h3,_,h5⟩
   . exact .inl ⟨(Je hlo).1 fun i hi=>h1 i (Nat.zero_le _) hi,h2⟩
 . try dsimp only
   rw [L83_0_succ]
   try delta ae
   have hl:((t.2.1.getD i bh).2.1.length:Int)=t.1:=(ht.node i hi).len;have es:(t.2.1.getD i bh).2.1.getD p 0=aH t i p:=(uD t i p).symm;have em:(aJ t).1=t:=rfl;have hI:IsCopy t (i:Int):=⟨by omega,by omega⟩
   have hlo':=hlo i hi;simp only [em,dT (show (i:Int)<t.2.1.length by omega),aY (show (0:Int)<=i by omega) (show (i:Int)<t.2.1.length by omega),Int.toNat_natCast,aY (show (0:Int)<=p by omega) (show (p:Int)<(t.2.1.getD i bh).2.1.length by omega),cond_true,yA ht hI hc,es,ES ht hi hp,wn (show i<1000000000 by omega)];have hs:=U6 ht hi hc;simp only [dA];cases hu:under t c i with
   | false =>
    have hs':fZ t i c≠c:=fun e=>by have:=hs.1 e;rw [hu] at this;cases this
    simp only [nT hs',cond_false];cases hf:cv t p i right with
    | false =>
     simp only [Bool.not_false];exact .inl ⟨.inl ⟨hu,hf⟩,trivial⟩
    | true =>
     simp only [Bool.not_true];refine .inr ⟨fun h=>?_,trivial⟩;rcases h with ⟨_,h⟩|⟨h,_⟩
     . rw [hf] at h;cases h
     . rw [hu] at h;cases h
   | true =>
    simp only [nF (hs.2 hu),cond_true]
    by_cases g1:aH t i p=right
    . simp only [eT g1];exact .inl ⟨.inr ⟨hu,.inl g1⟩,trivial⟩
    simp only [eF g1];have nb:∀ {P:Prop},(xO t p right c i->(aH t i p ≠ -1/\dA t p c i ≠ -1/\aH t i p≠dA t p c i)):=fun h=>by
     rcases h with ⟨h,_⟩|⟨_,h|h⟩
     . rw [hu] at h;cases h
     . exact absurd h g1
     . exact h
    by_cases g2:aH t i p = -1
    . simp only [nF g2];exact .inr ⟨fun h=>(nb (P:=True) h).1 g2,trivial⟩
    simp only [nT g2]
    by_cases g3:dA t p c i = -1
    . simp only [nF g3];exact .inr ⟨fun h=>(nb (P:=True) h).2.1 g3,trivial⟩
    simp only [nT g3]
    by_cases g4:aH t i p=dA t p c i
    . simp only [nF g4];exact .inr ⟨fun h=>(nb (P:=True) h).2.2 g4,trivial⟩
    . simp only [nT g4];exact .inl ⟨.inr ⟨hu,.inr ⟨g2,g3,g4⟩⟩,trivial⟩
 . try dsimp only
   rw [L83_0_succ]
   try delta ae
   have em:(aJ t).1=t:=rfl;simp only [em,dF (show ¬ ((t.2.1.length:Nat):Int)<t.2.1.length by omega)]
def gY (t:ac) (p right:Int) (c:Int):Bool:=decide (0<c) && uY t p right c
def kq (t:ac) (p right:Int):List Int:=(dV t.2.1.length).filter (gY t p right)
theorem Q5 (q:Int->Bool) (n:Nat):(dV (n+1)).filter q=(dV n).filter q++(if q n then [(n:Int)] else []):=by
 rw [Lv,List.filter_append]
 congr 1
 simp [List.filter_cons]
theorem Q4 (q:Int->Bool) (n:Nat):((dV n).filter q).length<=n:=Nat.le_trans (List.length_filter_le _ _) (by rw [Lt];exact Nat.le_refl _)
theorem Qm {t:ac} (ht:TreeOK t) {p:Nat} (hp:(p:Int)<t.1) {right:Int} (hr:0<=right/\right<=9):f45 (t,((p:Int),(right,())))=if kq t p right=[] then .ret ([],(5,())) else .ret (kq t p right,(0,())):=by
 have hfb:=bK;have hcc:=ht.copies;unfold f45 wH;simp only [ht.t55,Fj ht,dT (show 0<=(p:Int)/\(p:Int)<t.1 by omega),zu,dT hr,ht.made,Bool.not_true];have em:((((aJ t).1.1,((aJ t).1.2.1,())),((aJ t).2.1,())):TR)=aJ t:=rfl;have key:=dQ (L:=fun n c=>L45_0 fuel n (t,((p:Int),(right,()))) p right (aJ t).1.1 (aJ t).1.2.1 (aJ t).2.1 ((dV c).filter (gY t p right)) c) (len:=t.2.1.length) (K:=if kq t p right=[] then .ret ((),([],((5:Int),()))) else .ret ((),(kq t p right,((0:Int),())))) (fun n c hc=>?_) (fun n=>?_) t.2.1.length fuel 0 (by omega) (by omega)
 . rw [show L45_0 fuel fuel (t,((p:Int),(right,()))) p right (aJ t).1.1 (aJ t).1.2.1 (aJ t).2.1 [] 0=_ from key];split<;>rfl
 . try dsimp only
   rw [L45_0_succ]
   try delta ae
   have hcI:IsCopy t (c:Int):=⟨by omega,by omega⟩
   have hfl:=Q4 (gY t p right) c;rw [Q5];simp only [dT (show (c:Int)<t.2.1.length by omega),em,wn (show c<1000000000 by omega)]
   by_cases h0:0<c
   . rcases Qy ht hcI hp (right:=right) with ⟨h1,h2⟩|⟨h1,i,h2⟩
     . have hq:gY t p right c=true:=by unfold gY;rw [dT (show (0:Int)<c by omega),Jd.2 h1];rfl
       simp only [dT (show (c:Int) > 0 by omega),ko,fx,h2,cond_true,hq,if_true,kX (xs:=(dV c).filter (gY t p right)) (ys:=[(c:Int)]) (by simp only [List.length_cons,List.length_nil];omega)]
     . have hq:gY t p right c=false:=by
        unfold gY;cases e:uY t p right c with
        | false=>rw [Bool.and_false]
        | true=>exact absurd (Jd.1 e) h1
       simp only [dT (show (c:Int) > 0 by omega),ko,fx,h2,hq,Bool.false_eq_true,if_false,List.append_nil];rfl
   . have hq:gY t p right c=false:=by unfold gY;rw [dF (show ¬ (0:Int)<c by omega),Bool.false_and]
     simp only [dF (show ¬ (c:Int) > 0 by omega),ko,fx,cond_true,hq,Bool.false_eq_true,if_false,List.append_nil]
 . try dsimp only
   rw [L45_0_succ]
   try delta ae
   have e:(dV t.2.1.length).filter (gY t p right)=kq t p right:=rfl;simp only [dF (show ¬ ((t.2.1.length:Nat):Int)<t.2.1.length by omega),e]
   by_cases h:kq t p right=[]
   . rw [if_pos h,h];rfl
   . have hl:0<(kq t p right).length:=List.length_pos_iff.2 h;rw [if_neg h];simp only [eF (show ((kq t p right).length:Int)≠0 by omega)]
structure HandAt (t:ac) (l:List Int) (i:Nat):Prop where
 lo:1<=l.getD i 0
 hi:l.getD i 0<t.2.1.length
 up:0<i->l.getD (i - 1) 0<l.getD i 0
def iW (t:ac) (l:List Int):Prop:=∀ i,i<l.length->HandAt t l i
theorem FL {t:ac} {l:List Int} (h:iW t l):∀ i:Nat,i<l.length->(i:Int)+1<=l.getD i 0
 | 0,hi=>(by have:=(h 0 hi).lo;omega)
 | i+1,hi=>by
  have h1:=FL h i (by omega);have h2:=(h (i+1) hi).up (by omega);rw [show i+1 - 1=i from rfl] at h2;omega
theorem yO {t:ac} {l:List Int} (h:iW t l):l.length<=t.2.1.length:=by
 by_cases e:l.length=0
 . omega
 . have h1:=FL h (l.length - 1) (by omega);have h2:=(h (l.length - 1) (by omega)).hi;omega
theorem pX {t:ac} {l:List Int} (h:iW t l) {x:Int} (hx:x∈l):1<=x/\IsCopy t x:=by
 obtain ⟨i,hi,rfl⟩:=ud hx;have:=h i hi;exact ⟨this.lo,⟨by have:=this.lo;omega,this.hi⟩⟩
theorem Qz {t:ac} (ht:TreeOK t) (l:List Int) (hl:l.length<1000000):∃ b,f85 (t,(l,())) = .ret b/\(b=true<->iW t l):=by
 have hfb:=bK;have hcc:=ht.copies;unfold f85 wZ;have key:=gm (L:=fun n i=>L85_0 fuel n (t,(l,())) i) (len:=l.length) (K:=.ret true) (fun i=>¬ HandAt t l i) (fun _=>.ret false) (fun n i hi=>?_) (fun n=>?_) l.length fuel 0 (by omega) (by omega)
 . rcases key with ⟨j,h1,h2,h3,h4,h5⟩|⟨h1,h2⟩
   . exact ⟨false,h5,⟨fun h=>(by cases h),fun h=>absurd (h j h2) h3⟩⟩
   . exact ⟨true,h2,⟨fun _=>nk h1,fun _=>rfl⟩⟩
 . try dsimp only
   rw [L85_0_succ]
   try delta ae
   simp only [dT (show (i:Int)<l.length by omega),aY (show (0:Int)<=i by omega) (show (i:Int)<l.length by omega),cond_true,Int.toNat_natCast,tC (t:=t) _ (by omega),wn (show i<1000000000 by omega)]
   by_cases g1:0<=l.getD i 0/\l.getD i 0<(t.2.1.length:Int)
   rotate_left
   . simp only [dF g1,Bool.not_false];exact .inl ⟨fun h=>g1 ⟨by have:=h.lo;omega,h.hi⟩,trivial⟩
   simp only [dT g1,Bool.not_true]
   by_cases g2:l.getD i 0=0
   . simp only [eT g2];exact .inl ⟨fun h=>(by have:=h.lo;omega),trivial⟩
   simp only [eF g2]
   by_cases g3:0<i
   . have ei:IntKind.i64.wrap ((i:Int) - 1)=((i - 1:Nat):Int):=by rw [wr (by omega) (by omega)];omega
     simp only [dT (show (i:Int) > 0 by omega),ei,aY (show (0:Int)<=((i - 1:Nat):Int) by omega) (show ((i - 1:Nat):Int)<l.length by omega),cond_true,Int.toNat_natCast]
     by_cases g4:l.getD i 0<=l.getD (i - 1) 0
     . simp only [dT g4];exact .inl ⟨fun h=>(by have:=h.up g3;omega),trivial⟩
     . simp only [dF g4];exact .inr ⟨fun h=>h ⟨by omega,g1.2,fun _=>by omega⟩,trivial⟩
   . simp only [dF (show ¬ (i:Int) > 0 by omega)];exact .inr ⟨fun h=>h ⟨by omega,g1.2,fun h2=>absurd h2 g3⟩,trivial⟩
 . try dsimp only
   rw [L85_0_succ]
   try delta ae
   simp only [dF (show ¬ ((l.length:Nat):Int)<l.length by omega)]
theorem Fk {t:ac} (ht:TreeOK t) {l:List Int} (h:iW t l):f85 (t,(l,())) = .ret true:=by
 obtain ⟨b,h1,h2⟩:=Qz ht l (by have:=yO h;have:=ht.copies;omega);rw [h1,h2.2 h]
def j_ (t:ac) (n m:Int):Bool:=decide (fZ t n m > 0)
def ia (t:ac) (out:List Int) (n:Int):List Int:=if out.any (j_ t n) then out else out++[n]
def gK (t:ac) (l:List Int):List Int:=l.foldl (ia t) []
theorem QQ {t:ac} (ht:TreeOK t) {n m:Int} (hn:IsCopy t n) (hm:IsCopy t m):f87 (m,(aJ t,(n,()))) = .ret (j_ t n m):=by
 unfold f87 w_;simp only [yA ht hn hm];rfl
theorem QP {t:ac} (ht:TreeOK t) {n:Int} (hn:IsCopy t n) (out:List Int) (ho:∀ m∈out,IsCopy t m) (hl:out.length<1000000):pP (out,(((),(aJ t,(n,()))),())) = .ret (out.any (j_ t n)):=by
 have hfb:=bK;have key:=gm (L:=fun k i=>L111b_0 fuel k (out,(((),(aJ t,(n,()))),())) i) (len:=out.length) (K:=.ret (-1)) (fun i=>j_ t n (out.getD i 0)=true) (fun i=>.ret (i:Int)) (fun k i hi=>?_) (fun k=>?_) out.length fuel 0 (by omega) (by omega)
 . unfold pP w9 tt wg;rcases key with ⟨j,h1,h2,h3,h4,h5⟩|⟨h1,h2⟩
   . rw [show L111b_0 fuel fuel (out,(((),(aJ t,(n,()))),())) 0=_ from h5];simp only [dT (show (j:Int) >= 0 by omega)];rw [show out.any (j_ t n)=true from List.any_eq_true.2 ⟨_,jh h2,h3⟩]
   . rw [show L111b_0 fuel fuel (out,(((),(aJ t,(n,()))),())) 0=_ from h2];rw [show out.any (j_ t n)=false from ?_]
     . rfl
     rw [List.any_eq_false];intro x hx;obtain ⟨i,hi,rfl⟩:=ud hx;exact h1 i (Nat.zero_le _) hi
 . try dsimp only
   rw [L111b_0_succ]
   try delta ae
   simp only [dT (show (i:Int)<out.length by omega),aY (show (0:Int)<=i by omega) (show (i:Int)<out.length by omega),cond_true,Int.toNat_natCast,QQ ht hn (ho _ (jh hi)),wn (show i<1000000000 by omega)];cases g:j_ t n (out.getD i 0) with
   | true=>exact .inl ⟨rfl,rfl⟩
   | false=>exact .inr ⟨by simp,rfl⟩
 . try dsimp only
   rw [L111b_0_succ]
   try delta ae
   simp only [dF (show ¬ ((out.length:Nat):Int)<out.length by omega)]
theorem DR (t:ac):∀ (l out:List Int),(l.foldl (ia t) out).length<=out.length+l.length/\∀ x∈l.foldl (ia t) out,x∈out\/x∈l
 | [],out=>⟨by simp,fun x hx=>.inl hx⟩
 | n :: l,out=>by
  have ih:=DR t l (ia t out n);rw [List.foldl_cons];have h1:(ia t out n).length<=out.length+1:=by unfold ia;split<;>simp
  have h2:∀ x∈ia t out n,x∈out\/x=n:=by
   unfold ia;split
   . exact fun x hx=>.inl hx
   . intro x hx;simpa using hx
  refine ⟨by rw [List.length_cons];omega,fun x hx=>?_⟩;rcases ih.2 x hx with h|h
  . rcases h2 x h with h|rfl
    . exact .inl h
    . exact .inr (by simp)
  . exact .inr (List.mem_cons_of_mem _ h)
theorem Rd {α:Type} {f:List Int->Int->List Int} {l:List Int} {k:Nat} (hk:k<l.length):(l.take (k+1)).foldl f []=f ((l.take k).foldl f []) (l.getD k 0):=by
 rw [B7 0 hk,List.foldl_append];rfl
theorem Qn {t:ac} (ht:TreeOK t) {l:List Int} (h:iW t l):f50 (t,(l,())) = .ret (gK t l,(0,())):=by
 have hfb:=bK;have hcc:=ht.copies;have hll:=yO h;unfold f50 wI;simp only [ht.t55,Fk ht h,ht.made,Bool.not_true];have key:=dQ (L:=fun n k=>L50_0 fuel n (aJ t) (t,(l,())) (gK t (l.take k)) k) (len:=l.length) (K:=.ret (gK t l,(0,()))) (fun n k hk=>?_) (fun n=>?_) l.length fuel 0 (by omega) (by omega)
 . exact key
 . try dsimp only
   rw [L50_0_succ]
   try delta ae
   have ha:=DR t (l.take k) [];have hal:(gK t (l.take k)).length<=k:=by have:=ha.1;rw [List.length_take] at this;unfold gK;simp at this;omega
   have hac:∀ m∈gK t (l.take k),IsCopy t m:=fun m hm=>by
    rcases ha.2 m hm with h1|h1
    . cases h1
    . exact (pX h (List.mem_of_mem_take h1)).2
   have es:gK t (l.take (k+1))=ia t (gK t (l.take k)) (l.getD k 0):=Rd (α:=Int) hk;rw [es];simp only [dT (show (k:Int)<l.length by omega),aY (show (0:Int)<=k by omega) (show (k:Int)<l.length by omega),cond_true,Int.toNat_natCast,QP ht (pX h (jh hk)).2 (gK t (l.take k)) hac (by omega),wn (show k<1000000000 by omega)];unfold ia;cases g:(gK t (l.take k)).any (j_ t (l.getD k 0)) with
   | true=>simp only [Bool.not_true,if_true]
   | false =>
    simp only [Bool.not_false,Bool.false_eq_true,if_false,kX (xs:=gK t (l.take k)) (ys:=[l.getD k 0]) (by simp only [List.length_cons,List.length_nil];omega),cond_true]
 . try dsimp only
   rw [L50_0_succ]
   try delta ae
   simp only [dF (show ¬ ((l.length:Nat):Int)<l.length by omega),List.take_length]
def ul (s:List (List Int)) (n:Int):Bool:=decide (¬ s.getD n.toNat []=s.getD 0 [])
def Cl (t:ac) (s:List (List Int)) (h:Int):List Int:=(aF t h).takeWhile (ul s)
def gJ (t:ac) (s:List (List Int)) (l:List Int):List Int:=l.flatMap (Cl t s)
def xE (t:ac) (s:List (List Int)) (l:List Int):List Int:=(dV t.2.1.length).filter fun c=>decide (c∈gJ t s l)
theorem Q0 (a b:List Int) (h:a.length<1000000):f88 (a,(b,())) = .ret (decide (a=b)):=by
 have hfb:=bK;unfold f88 xc
 try delta ae
 by_cases e:a.length=b.length
 rotate_left
 . simp only [nT (show (a.length:Int)≠b.length by omega)];rw [dF (show ¬ a=b from fun h=>e (congrArg _ h))]
 simp only [nF (show (a.length:Int)=b.length by omega)];have key:=gm (L:=fun n i=>L88_0 fuel n (a,(b,())) i) (len:=a.length) (K:=.ret true) (fun i=>¬ a.getD i 0=b.getD i 0) (fun _=>.ret false) (fun n i hi=>?_) (fun n=>?_) a.length fuel 0 (by omega) (by omega)
 . rcases key with ⟨j,h1,h2,h3,h4,h5⟩|⟨h1,h2⟩
   . rw [show L88_0 fuel fuel (a,(b,())) 0=_ from h5,dF (show ¬ a=b from fun h=>h3 (by rw [h]))]
   . rw [show L88_0 fuel fuel (a,(b,())) 0=_ from h2,dT (mM 0 e (nk h1))]
 . try dsimp only
   rw [L88_0_succ]
   try delta ae
   simp only [dT (show (i:Int)<a.length by omega),aY (show (0:Int)<=i by omega) (show (i:Int)<a.length by omega),aY (show (0:Int)<=i by omega) (show (i:Int)<b.length by omega),cond_true,Int.toNat_natCast,wn (show i<1000000000 by omega)]
   by_cases g:a.getD i 0=b.getD i 0
   . simp only [nF g];exact .inr ⟨fun h=>h g,trivial⟩
   . simp only [nT g];exact .inl ⟨g,trivial⟩
 . try dsimp only
   rw [L88_0_succ]
   try delta ae
   simp only [dF (show ¬ ((a.length:Nat):Int)<a.length by omega)]
theorem GO {q:Int->Bool} {x:Int}:∀ {l:List Int},x∈l.takeWhile q->x∈l
 | [],h=>h
 | y :: l,h=>by
  rw [List.takeWhile_cons] at h;split at h
  . rcases List.mem_cons.1 h with rfl|h
    . simp
    . exact List.mem_cons_of_mem _ (GO h)
  . cases h
theorem Wn {t:ac} (ht:TreeOK t) {s:List (List Int)} {h:Int} (hc:IsCopy t h):(Cl t s h).length<=t.2.1.length :=
 Nat.le_trans (List.takeWhile_sublist _).length_le (zU ht hc.l hc.h)
theorem Fx {f:Int->List Int} {B:Nat}:∀ {l:List Int},(∀ x∈l,(f x).length<=B)->(l.flatMap f).length<=l.length * B
 | [],_=>by simp
 | x :: l,h=>by
  rw [List.flatMap_cons,List.length_append,List.length_cons];have h1:=h x (by simp);have h2:=Fx (l:=l) fun y hy=>h y (List.mem_cons_of_mem _ hy)
  have e:(l.length+1) * B=l.length * B+B:=Nat.succ_mul _ _;omega
theorem V9 {t:ac} {s:List (List Int)} (hs:StoryOK t s) {i:Nat} (hi:i<s.length):((s.getD i []).length:Int)=t.1:=(hs.row i hi).len
theorem Vg {t:ac} (ht:TreeOK t) {s:List (List Int)} {l:List Int} (h:iW t l):db (gJ t s l)=xE t s l:=by
 refine Il fun x=>?_
 rw [decide_eq_true_eq];refine ⟨fun hx=>⟨?_,hx⟩,fun hx=>hx.2⟩;unfold gJ at hx;obtain ⟨h0,h1,h2⟩:=List.mem_flatMap.1 hx;have hc:=(pX h h1).2;have:=uv ht hc.l hc.h (GO h2);exact ⟨this.1,by have:=hc.h;omega⟩
theorem Qo {t:ac} (ht:TreeOK t) {s:List (List Int)} (hs:StoryOK t s) {l:List Int} (h:iW t l):f51 (t,(s,(l,()))) = .ret (xE t s l,(0,())):=by
 have hfb:=bK;have hcc:=ht.copies;have hll:=yO h;have hsl:=hs.len;obtain ⟨P,hP,hP1,hP3⟩:=ht.pl;have pi:im (t,(s,())) = .ret true:=by
  rcases Jn ht s with ⟨_,_,h⟩|⟨h,_⟩
  . exact h
  . exact absurd hs h
 have em:((((aJ t).1.1,((aJ t).1.2.1,())),((aJ t).2.1,())):TR)=aJ t:=rfl;have hflat:∀ k,(gJ t s (l.take k)).length<=64:=fun k=>by
  refine Nat.le_trans (Fx (B:=8) fun x hx=>?_) ?_
  . exact Nat.le_trans (Wn ht (pX h (List.mem_of_mem_take hx)).2) hcc.2
  . rw [List.length_take];omega
 unfold f51 wJ;simp only [ht.t55,pi,Fk ht h,ht.made,Bool.not_true];have key:=dQ (L:=fun n k=>L51_0 fuel n (t,(s,(l,()))) s (aJ t).1.1 (aJ t).1.2.1 (aJ t).2.1 (gJ t s (l.take k)) k) (len:=l.length) (K:=.ret ((none:Option PS),(xE t s l,((0:Int),())))) (fun n k hk=>?_) (fun n=>?_) l.length fuel 0 (by omega) (by omega)
 . rw [show L51_0 fuel fuel (t,(s,(l,()))) s (aJ t).1.1 (aJ t).1.2.1 (aJ t).2.1 [] 0=_ from key];rfl
 . try dsimp only
   rw [L51_0_succ]
   try delta ae
   have hc:IsCopy t (l.getD k 0):=(pX h (jh hk)).2;have hf:=hflat k;have hul:=zU ht hc.l hc.h;simp only [dT (show (k:Int)<l.length by omega),aY (show (0:Int)<=k by omega) (show (k:Int)<l.length by omega),cond_true,Int.toNat_natCast];refine iZ fun v=>?_
   have em2:((((aJ t).1.1,((aJ t).1.2.1,())),((aJ t).2.1,())):TR)=aJ t:=rfl;rw [em2,fV,lC.2 (show PathOK (aJ t).1 (l.getD k 0) from ht.pathOK hc.l hc.h)];simp only [Bool.and_self,cond_true];have es:gJ t s (l.take (k+1))=gJ t s (l.take k)++Cl t s (l.getD k 0):=by
    unfold gJ;rw [B7 0 hk,List.flatMap_append];simp
   rw [es];have em3:(aJ t).1=t:=rfl;have go:∀ (ys out:List Int),(∀ y∈ys,IsCopy t y)->out.length+ys.length<=1000->∀ (a b:List Int),R51_1 fuel n ys (t,(s,(l,()))) k (aJ t).1.1 (aJ t).1.2.1 (aJ t).2.1 v s a s (aJ t).1.1 (aJ t).1.2.1 (aJ t).2.1 out=L51_0 fuel n (t,(s,(l,()))) s (aJ t).1.1 (aJ t).1.2.1 (aJ t).2.1 (out++ys.takeWhile (ul s)) ((k+1:Nat):Int):=by
    intro ys
    induction ys with
    | nil =>
     intro out _ _ a b;rw [R51_1_nil];simp only [List.takeWhile_nil,List.append_nil,wn (show k<1000000000 by omega)]
    | cons y ys ih =>
     intro out hy hlen a b;rw [R51_1_cons];have hyc:=hy y (by simp);have hyr:=V9 hs (i:=y.toNat) (by have:=hyc.h;have:=hyc.l;omega);rw [List.length_cons] at hlen;simp only [aY hyc.l (show y<s.length by have:=hyc.h;omega),aY (show (0:Int)<=0 by omega) (show (0:Int)<s.length by omega),cond_true,Q0 _ _ (show (s.getD y.toNat []).length<1000000 by omega),show (0:Int).toNat=0 from rfl]
     by_cases g:s.getD y.toNat []=s.getD 0 []
     . have ho:ul s y=false:=dF fun h=>h g
       simp only [dT g,wn (show k<1000000000 by omega)];rw [List.takeWhile_cons,ho];simp
     . have ho:ul s y=true:=dT g;simp only [dF g,kX (xs:=out) (ys:=[y]) (by simp only [List.length_cons,List.length_nil];omega),cond_true];rw [ih (out++[y]) (fun z hz=>hy z (List.mem_cons_of_mem _ hz)) (by rw [List.length_append];simp only [List.length_cons,List.length_nil];omega) a b];rw [List.takeWhile_cons,ho];simp
   exact go (aF t (l.getD k 0)) (gJ t s (l.take k)) (fun y hy=>by have:=uv ht hc.l hc.h hy;exact ⟨this.1,by have:=hc.h;omega⟩) (by omega) (gJ t s (l.take k)) []
 . try dsimp only
   rw [L51_0_succ]
   try delta ae
   have hf:=hflat l.length;simp only [dF (show ¬ ((l.length:Nat):Int)<l.length by omega),dT (show (gJ t s (l.take l.length)).length<1000000000 by omega),cond_true];rw [List.take_length,Vg ht h]
end Go.V
end
