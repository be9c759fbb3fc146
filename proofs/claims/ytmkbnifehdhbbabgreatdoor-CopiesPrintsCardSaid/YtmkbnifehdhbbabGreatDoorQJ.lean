/- A part of the proof of a law of the copies. -/
import Derived.Test.YtmkbnifehdhbbabGreatDoorQI
import Derived.Test.YtmkbnifehdhbbabGreatDoorDD
import Derived.Test.YtmkbnifehdhbbabGreatDoorDC
set_option linter.all false
noncomputable section
namespace Go.V
open Go.Proofs
def under (t:TREE) (c:Int) (i:Nat):Bool:=decide (c∈pathV t i)
def srcB (t:TREE) (p right c:Int):Bool:=(List.range t.2.1.length).all fun i=>bif under t c i then
 decide (seenAt t i p≠right) && (List.range t.2.1.length).all fun j => !under t c j || (decide (seenAt t i p = -1) || (decide (seenAt t j p = -1) || decide (seenAt t i p=seenAt t j p)))
 else fitsV t p i right
structure SrcOK (t:TREE) (p right c:Int):Prop where
 off:∀ i,i<t.2.1.length->under t c i=false->fitsV t p i right=true
 on:∀ i,i<t.2.1.length->under t c i=true->seenAt t i p≠right
 one:∀ i j,i<t.2.1.length->under t c i=true->j<t.2.1.length->under t c j=true->seenAt t i p ≠ -1->seenAt t j p ≠ -1->seenAt t i p=seenAt t j p
theorem srcB_iff {t:TREE} {p right c:Int}:srcB t p right c=true<->SrcOK t p right c:=by
 unfold srcB;rw [List.all_eq_true];constructor
 . intro h;have h':∀ i,i<t.2.1.length->_:=fun i hi=>h i (List.mem_range.2 hi)
   refine ⟨fun i hi hu=>?_,fun i hi hu=>?_,fun i j hi hu hj hv h1 h2=>?_⟩
   . have:=h' i hi;rw [hu] at this;exact this
   . have:=h' i hi;rw [hu,cond_true,Bool.and_eq_true] at this;exact of_decide_eq_true this.1
   . have:=h' i hi;rw [hu,cond_true,Bool.and_eq_true,List.all_eq_true] at this;have:=this.2 j (List.mem_range.2 hj);rw [hv,dF h1,dF h2] at this
     simpa using this
 . intro h i hi;have hi:=List.mem_range.1 hi;cases hu:under t c i with
   | false=>exact h.off i hi hu
   | true =>
    rw [cond_true,Bool.and_eq_true,List.all_eq_true];refine ⟨decide_eq_true (h.on i hi hu),fun j hj=>?_⟩;have hj:=List.mem_range.1 hj;cases hv:under t c j with
    | false=>rfl
    | true =>
     by_cases h1:seenAt t i p = -1
     . rw [dT h1];simp
     . by_cases h2:seenAt t j p = -1
       . rw [dT h2];simp
       . rw [dT (h.one i j hi hu hj hv h1 h2)];simp
theorem shared_under {t:TREE} (ht:TreeOK t) {i:Nat} (hi:i<t.2.1.length) {c:Int} (hc:IsCopy t c):sharedV t i c=c<->under t c i=true:=by
 have hI:IsCopy t (i:Int):=⟨by omega,by omega⟩
 unfold under;rw [decide_eq_true_eq];constructor
 . intro e;obtain ⟨_,g2,_,_⟩:=shared_all ht hI hc;rw [e] at g2;exact g2
 . intro h;exact shared_uniq ht hI hc h (path_self ht hc.l hc.h) fun x _ h2=>(path_mem ht hc.l hc.h h2).2
def wrongTo (t:TREE) (p c:Int):Nat->Int
 | 0 => -1
 | k+1=>bif under t c k then (if seenAt t k p > wrongTo t p c k then seenAt t k p else wrongTo t p c k) else wrongTo t p c k
def badAt (t:TREE) (p right c:Int) (i:Nat):Prop:=(under t c i=false/\fitsV t p i right=false)\/(under t c i=true/\(seenAt t i p=right\/(seenAt t i p ≠ -1/\wrongTo t p c i ≠ -1/\seenAt t i p≠wrongTo t p c i)))
theorem wrongTo_inv {t:TREE} {p c:Int} (hlo:∀ i,i<t.2.1.length -> -1<=seenAt t i p):∀ k,k<=t.2.1.length -> -1<=wrongTo t p c k/\(wrongTo t p c k = -1\/∃ j,j<k/\under t c j=true/\wrongTo t p c k=seenAt t j p)/\∀ j,j<k->under t c j=true->seenAt t j p<=wrongTo t p c k
 | 0,_=>⟨Int.le_refl _,.inl rfl,fun j h=>by omega⟩
 | k+1,hk=>by
  obtain ⟨i1,i2,i3⟩:=wrongTo_inv (c:=c) hlo k (by omega);simp only [wrongTo];cases hu:under t c k with
  | false =>
   rw [cond_false];refine ⟨i1,i2.imp id fun ⟨j,h1,h2⟩=>⟨j,by omega,h2⟩,fun j hj hv=>?_⟩
   by_cases e:j=k
   . subst e;rw [hu] at hv;cases hv
   . exact i3 j (by omega) hv
  | true =>
   rw [cond_true]
   by_cases g:seenAt t k p > wrongTo t p c k
   . rw [if_pos g];refine ⟨by omega,.inr ⟨k,by omega,hu,rfl⟩,fun j hj hv=>?_⟩
     by_cases e:j=k
     . subst e;omega
     . have:=i3 j (by omega) hv;omega
   . rw [if_neg g];refine ⟨i1,i2.imp id fun ⟨j,h1,h2⟩=>⟨j,by omega,h2⟩,fun j hj hv=>?_⟩
     by_cases e:j=k
     . subst e;omega
     . exact i3 j (by omega) hv
theorem src_iff {t:TREE} {p right c:Int} (hlo:∀ i,i<t.2.1.length -> -1<=seenAt t i p):(∀ i,i<t.2.1.length->¬ badAt t p right c i)<->SrcOK t p right c:=by
 constructor
 . intro h;have key:∀ k,k<=t.2.1.length->∀ j,j<k->under t c j=true->seenAt t j p = -1\/seenAt t j p=wrongTo t p c k:=by
    intro k
    induction k with
    | zero=>intro _ j hj;omega
    | succ k ih =>
     intro hk j hj hv;obtain ⟨i1,i2,i3⟩:=wrongTo_inv (c:=c) hlo k (by omega);have hb:=h k (by omega);simp only [wrongTo];cases hu:under t c k with
     | false =>
      rw [cond_false]
      by_cases e:j=k
      . subst e;rw [hu] at hv;cases hv
      . exact ih (by omega) j (by omega) hv
     | true =>
      rw [cond_true];have hk3:seenAt t k p = -1\/wrongTo t p c k = -1\/seenAt t k p=wrongTo t p c k:=by
       refine Classical.byContradiction fun hn=>hb (.inr ⟨hu,.inr ⟨fun e=>hn (.inl e),fun e=>hn (.inr (.inl e)),fun e=>hn (.inr (.inr e))⟩⟩)
      by_cases e:j=k
      . subst e;have:=hlo j (by omega);split
        . exact .inr rfl
        . rcases hk3 with h1|h1|h1<;>omega
      . have h2:=ih (by omega) j (by omega) hv;have h4:=hlo j (by omega);split
        . rcases h2 with h2|h2
          . exact .inl h2
          . rcases hk3 with h1|h1|h1<;>omega
        . exact h2
   refine ⟨fun i hi hu=>?_,fun i hi hu e=>h i hi (.inr ⟨hu,.inl e⟩),fun i j hi hu hj hv h1 h2=>?_⟩
   . cases e:fitsV t p i right with
     | true=>rfl
     | false=>exact absurd (.inl ⟨hu,e⟩) (h i hi)
   . have a:=key _ (Nat.le_refl _) i hi hu;have b:=key _ (Nat.le_refl _) j hj hv;rcases a with a|a
     . exact absurd a h1
     . rcases b with b|b
       . exact absurd b h2
       . rw [a,b]
 . intro h i hi hb;rcases hb with ⟨hu,hf⟩|⟨hu,e|⟨h1,h2,h3⟩⟩
   . rw [h.off i hi hu] at hf;cases hf
   . exact h.on i hi hu e
   . obtain ⟨i1,i2,i3⟩:=wrongTo_inv (c:=c) hlo i (by omega);rcases i2 with e|⟨j,hj,hv,e⟩
     . exact h2 e
     . exact h3 (by rw [e];exact h.one i j hi hu (by omega) hv h1 (by rw [<- e];exact h2))
theorem f83_at {t:TREE} (ht:TreeOK t) {c:Int} (hc:IsCopy t c) {p:Nat} (hp:(p:Int)<t.1) {right:Int}:(SrcOK t p right c/\f83 (madeT t,(c,((p:Int),(right,())))) = .ret ())\/(¬ SrcOK t p right c/\∃ i:Int,f83 (madeT t,(c,((p:Int),(right,())))) = .pan (.iface 144 (toVal (.prod (.int .i64) .unit) ((valOf (.prod (.int .i64) .unit) (i,())).getD [])))):=by
 have hfb:=fuel_big;have hcc:=ht.copies;have hT:=ht.treeP (place:=p) (by omega) hp;have hlo:∀ i,i<t.2.1.length -> -1<=seenAt t i p:=fun i hi=>(hT.figs i hi).1
 unfold f83 F83;have key:=findL (L:=fun n i=>L83_0 fuel n (madeT t,(c,((p:Int),(right,())))) (wrongTo t p c i) i) (len:=t.2.1.length) (K:=.ret ()) (badAt t p right c) (fun i=>.pan (.iface 144 (toVal (.prod (.int .i64) .unit) ((valOf (.prod (.int .i64) .unit) ((i:Int),())).getD [])))) (fun n i hi=>?_) (fun n=>?_) t.2.1.length fuel 0 (by omega) (by omega)
 . rcases key with ⟨j,h1,h2,h3,h4,h5⟩|⟨h1,h2⟩
   . exact .inr ⟨fun h=>(src_iff hlo).2 h j h2 h3,_,h5⟩
   . exact .inl ⟨(src_iff hlo).1 fun i hi=>h1 i (Nat.zero_le _) hi,h2⟩
 . try dsimp only
   rw [L83_0_succ]
   try delta lenI
   have hl:((t.2.1.getD i NODE0).2.1.length:Int)=t.1:=(ht.node i hi).len;have es:(t.2.1.getD i NODE0).2.1.getD p 0=seenAt t i p:=(seenAt_node t i p).symm;have em:(madeT t).1=t:=rfl;have hI:IsCopy t (i:Int):=⟨by omega,by omega⟩
   have hlo':=hlo i hi;simp only [em,dT (show (i:Int)<t.2.1.length by omega),inbT (show (0:Int)<=i by omega) (show (i:Int)<t.2.1.length by omega),Int.toNat_natCast,inbT (show (0:Int)<=p by omega) (show (p:Int)<(t.2.1.getD i NODE0).2.1.length by omega),cond_true,f60_at ht hI hc,es,f106_at ht hi hp,wn (show i<1000000000 by omega)]
   have hs:=shared_under ht hi hc;simp only [wrongTo];cases hu:under t c i with
   | false =>
    have hs':sharedV t i c≠c:=fun e=>by have:=hs.1 e;rw [hu] at this;cases this
    simp only [nT hs',cond_false];cases hf:fitsV t p i right with
    | false =>
     simp only [Bool.not_false];exact .inl ⟨.inl ⟨hu,hf⟩,trivial⟩
    | true =>
     simp only [Bool.not_true];refine .inr ⟨fun h=>?_,trivial⟩;rcases h with ⟨_,h⟩|⟨h,_⟩
     . rw [hf] at h;cases h
     . rw [hu] at h;cases h
   | true =>
    simp only [nF (hs.2 hu),cond_true]
    by_cases g1:seenAt t i p=right
    . simp only [eT g1];exact .inl ⟨.inr ⟨hu,.inl g1⟩,trivial⟩
    simp only [eF g1];have nb:∀ {P:Prop},(badAt t p right c i->(seenAt t i p ≠ -1/\wrongTo t p c i ≠ -1/\seenAt t i p≠wrongTo t p c i)):=fun h=>by
     rcases h with ⟨h,_⟩|⟨_,h|h⟩
     . rw [hu] at h;cases h
     . exact absurd h g1
     . exact h
    by_cases g2:seenAt t i p = -1
    . simp only [nF g2];exact .inr ⟨fun h=>(nb (P:=True) h).1 g2,trivial⟩
    simp only [nT g2]
    by_cases g3:wrongTo t p c i = -1
    . simp only [nF g3];exact .inr ⟨fun h=>(nb (P:=True) h).2.1 g3,trivial⟩
    simp only [nT g3]
    by_cases g4:seenAt t i p=wrongTo t p c i
    . simp only [nF g4];exact .inr ⟨fun h=>(nb (P:=True) h).2.2 g4,trivial⟩
    . simp only [nT g4];exact .inl ⟨.inr ⟨hu,.inr ⟨g2,g3,g4⟩⟩,trivial⟩
 . try dsimp only
   rw [L83_0_succ]
   try delta lenI
   have em:(madeT t).1=t:=rfl;simp only [em,dF (show ¬ ((t.2.1.length:Nat):Int)<t.2.1.length by omega)]
def srcQ (t:TREE) (p right:Int) (c:Int):Bool:=decide (0<c) && srcB t p right c
def srcT (t:TREE) (p right:Int):List Int:=(allTo t.2.1.length).filter (srcQ t p right)
theorem filter_succ (q:Int->Bool) (n:Nat):(allTo (n+1)).filter q=(allTo n).filter q++(if q n then [(n:Int)] else []):=by
 rw [allTo_succ,List.filter_append]
 congr 1
 simp [List.filter_cons]
theorem filter_len (q:Int->Bool) (n:Nat):((allTo n).filter q).length<=n:=Nat.le_trans (List.length_filter_le _ _) (by rw [allTo_len];exact Nat.le_refl _)
theorem f45_at {t:TREE} (ht:TreeOK t) {p:Nat} (hp:(p:Int)<t.1) {right:Int} (hr:0<=right/\right<=9):f45 (t,((p:Int),(right,())))=if srcT t p right=[] then .ret ([],(5,())) else .ret (srcT t p right,(0,())):=by
 have hfb:=fuel_big;have hcc:=ht.copies;unfold f45 F45;simp only [ht.t55,f73_at ht,dT (show 0<=(p:Int)/\(p:Int)<t.1 by omega),i80,dT hr,ht.made,Bool.not_true];have em:((((madeT t).1.1,((madeT t).1.2.1,())),((madeT t).2.1,())):TR)=madeT t:=rfl
 have key:=runL (L:=fun n c=>L45_0 fuel n (t,((p:Int),(right,()))) p right (madeT t).1.1 (madeT t).1.2.1 (madeT t).2.1 ((allTo c).filter (srcQ t p right)) c) (len:=t.2.1.length) (K:=if srcT t p right=[] then .ret ((),([],((5:Int),()))) else .ret ((),(srcT t p right,((0:Int),())))) (fun n c hc=>?_) (fun n=>?_) t.2.1.length fuel 0 (by omega) (by omega)
 . rw [show L45_0 fuel fuel (t,((p:Int),(right,()))) p right (madeT t).1.1 (madeT t).1.2.1 (madeT t).2.1 [] 0=_ from key];split<;>rfl
 . try dsimp only
   rw [L45_0_succ]
   try delta lenI
   have hcI:IsCopy t (c:Int):=⟨by omega,by omega⟩
   have hfl:=filter_len (srcQ t p right) c;rw [filter_succ];simp only [dT (show (c:Int)<t.2.1.length by omega),em,wn (show c<1000000000 by omega)]
   by_cases h0:0<c
   . rcases f83_at ht hcI hp (right:=right) with ⟨h1,h2⟩|⟨h1,i,h2⟩
     . have hq:srcQ t p right c=true:=by unfold srcQ;rw [dT (show (0:Int)<c by omega),srcB_iff.2 h1];rfl
       simp only [dT (show (c:Int) > 0 by omega),srcOK,srcV,h2,cond_true,hq,if_true,fitsT (xs:=(allTo c).filter (srcQ t p right)) (ys:=[(c:Int)]) (by simp only [List.length_cons,List.length_nil];omega)]
     . have hq:srcQ t p right c=false:=by
        unfold srcQ;cases e:srcB t p right c with
        | false=>rw [Bool.and_false]
        | true=>exact absurd (srcB_iff.1 e) h1
       simp only [dT (show (c:Int) > 0 by omega),srcOK,srcV,h2,hq,Bool.false_eq_true,if_false,List.append_nil];rfl
   . have hq:srcQ t p right c=false:=by unfold srcQ;rw [dF (show ¬ (0:Int)<c by omega),Bool.false_and]
     simp only [dF (show ¬ (c:Int) > 0 by omega),srcOK,srcV,cond_true,hq,Bool.false_eq_true,if_false,List.append_nil]
 . try dsimp only
   rw [L45_0_succ]
   try delta lenI
   have e:(allTo t.2.1.length).filter (srcQ t p right)=srcT t p right:=rfl;simp only [dF (show ¬ ((t.2.1.length:Nat):Int)<t.2.1.length by omega),e]
   by_cases h:srcT t p right=[]
   . rw [if_pos h,h];rfl
   . have hl:0<(srcT t p right).length:=List.length_pos_iff.2 h;rw [if_neg h];simp only [eF (show ((srcT t p right).length:Int)≠0 by omega)]
end Go.V
namespace Go.V
open Go.Proofs
structure HandAt (t:TREE) (l:List Int) (i:Nat):Prop where
 lo:1<=l.getD i 0
 hi:l.getD i 0<t.2.1.length
 up:0<i->l.getD (i - 1) 0<l.getD i 0
def HandsOK (t:TREE) (l:List Int):Prop:=∀ i,i<l.length->HandAt t l i
theorem hands_ge {t:TREE} {l:List Int} (h:HandsOK t l):∀ i:Nat,i<l.length->(i:Int)+1<=l.getD i 0
 | 0,hi=>(by have:=(h 0 hi).lo;omega)
 | i+1,hi=>by
  have h1:=hands_ge h i (by omega);have h2:=(h (i+1) hi).up (by omega);rw [show i+1 - 1=i from rfl] at h2;omega
theorem hands_len {t:TREE} {l:List Int} (h:HandsOK t l):l.length<=t.2.1.length:=by
 by_cases e:l.length=0
 . omega
 . have h1:=hands_ge h (l.length - 1) (by omega);have h2:=(h (l.length - 1) (by omega)).hi;omega
theorem hands_mem {t:TREE} {l:List Int} (h:HandsOK t l) {x:Int} (hx:x∈l):1<=x/\IsCopy t x:=by
 obtain ⟨i,hi,rfl⟩:=mem_getD hx;have:=h i hi;exact ⟨this.lo,⟨by have:=this.lo;omega,this.hi⟩⟩
theorem f85_big {t:TREE} (ht:TreeOK t) (l:List Int) (hl:l.length<1000000):∃ b,f85 (t,(l,())) = .ret b/\(b=true<->HandsOK t l):=by
 have hfb:=fuel_big;have hcc:=ht.copies;unfold f85 F85;have key:=findL (L:=fun n i=>L85_0 fuel n (t,(l,())) i) (len:=l.length) (K:=.ret true) (fun i=>¬ HandAt t l i) (fun _=>.ret false) (fun n i hi=>?_) (fun n=>?_) l.length fuel 0 (by omega) (by omega)
 . rcases key with ⟨j,h1,h2,h3,h4,h5⟩|⟨h1,h2⟩
   . exact ⟨false,h5,⟨fun h=>(by cases h),fun h=>absurd (h j h2) h3⟩⟩
   . exact ⟨true,h2,⟨fun _=>not_all h1,fun _=>rfl⟩⟩
 . try dsimp only
   rw [L85_0_succ]
   try delta lenI
   simp only [dT (show (i:Int)<l.length by omega),inbT (show (0:Int)<=i by omega) (show (i:Int)<l.length by omega),cond_true,Int.toNat_natCast,f56_at (t:=t) _ (by omega),wn (show i<1000000000 by omega)]
   by_cases g1:0<=l.getD i 0/\l.getD i 0<(t.2.1.length:Int)
   rotate_left
   . simp only [dF g1,Bool.not_false];exact .inl ⟨fun h=>g1 ⟨by have:=h.lo;omega,h.hi⟩,trivial⟩
   simp only [dT g1,Bool.not_true]
   by_cases g2:l.getD i 0=0
   . simp only [eT g2];exact .inl ⟨fun h=>(by have:=h.lo;omega),trivial⟩
   simp only [eF g2]
   by_cases g3:0<i
   . have ei:IntKind.i64.wrap ((i:Int) - 1)=((i - 1:Nat):Int):=by rw [wr (by omega) (by omega)];omega
     simp only [dT (show (i:Int) > 0 by omega),ei,inbT (show (0:Int)<=((i - 1:Nat):Int) by omega) (show ((i - 1:Nat):Int)<l.length by omega),cond_true,Int.toNat_natCast]
     by_cases g4:l.getD i 0<=l.getD (i - 1) 0
     . simp only [dT g4];exact .inl ⟨fun h=>(by have:=h.up g3;omega),trivial⟩
     . simp only [dF g4];exact .inr ⟨fun h=>h ⟨by omega,g1.2,fun _=>by omega⟩,trivial⟩
   . simp only [dF (show ¬ (i:Int) > 0 by omega)];exact .inr ⟨fun h=>h ⟨by omega,g1.2,fun h2=>absurd h2 g3⟩,trivial⟩
 . try dsimp only
   rw [L85_0_succ]
   try delta lenI
   simp only [dF (show ¬ ((l.length:Nat):Int)<l.length by omega)]
theorem f85_yes {t:TREE} (ht:TreeOK t) {l:List Int} (h:HandsOK t l):f85 (t,(l,())) = .ret true:=by
 obtain ⟨b,h1,h2⟩:=f85_big ht l (by have:=hands_len h;have:=ht.copies;omega);rw [h1,h2.2 h]
def meets (t:TREE) (n m:Int):Bool:=decide (sharedV t n m > 0)
def apStep (t:TREE) (out:List Int) (n:Int):List Int:=if out.any (meets t n) then out else out++[n]
def apartT (t:TREE) (l:List Int):List Int:=l.foldl (apStep t) []
theorem f87_at {t:TREE} (ht:TreeOK t) {n m:Int} (hn:IsCopy t n) (hm:IsCopy t m):f87 (m,(madeT t,(n,()))) = .ret (meets t n m):=by
 unfold f87 F87;simp only [f60_at ht hn hm];rfl
theorem f86b_at {t:TREE} (ht:TreeOK t) {n:Int} (hn:IsCopy t n) (out:List Int) (ho:∀ m∈out,IsCopy t m) (hl:out.length<1000000):f86b (out,(((),(madeT t,(n,()))),())) = .ret (out.any (meets t n)):=by
 have hfb:=fuel_big;have key:=findL (L:=fun k i=>L111b_0 fuel k (out,(((),(madeT t,(n,()))),())) i) (len:=out.length) (K:=.ret (-1)) (fun i=>meets t n (out.getD i 0)=true) (fun i=>.ret (i:Int)) (fun k i hi=>?_) (fun k=>?_) out.length fuel 0 (by omega) (by omega)
 . unfold f86b F86b f111b F111b;rcases key with ⟨j,h1,h2,h3,h4,h5⟩|⟨h1,h2⟩
   . rw [show L111b_0 fuel fuel (out,(((),(madeT t,(n,()))),())) 0=_ from h5];simp only [dT (show (j:Int) >= 0 by omega)];rw [show out.any (meets t n)=true from List.any_eq_true.2 ⟨_,getD_mem h2,h3⟩]
   . rw [show L111b_0 fuel fuel (out,(((),(madeT t,(n,()))),())) 0=_ from h2];rw [show out.any (meets t n)=false from ?_]
     . rfl
     rw [List.any_eq_false];intro x hx;obtain ⟨i,hi,rfl⟩:=mem_getD hx;exact h1 i (Nat.zero_le _) hi
 . try dsimp only
   rw [L111b_0_succ]
   try delta lenI
   simp only [dT (show (i:Int)<out.length by omega),inbT (show (0:Int)<=i by omega) (show (i:Int)<out.length by omega),cond_true,Int.toNat_natCast,f87_at ht hn (ho _ (getD_mem hi)),wn (show i<1000000000 by omega)];cases g:meets t n (out.getD i 0) with
   | true=>exact .inl ⟨rfl,rfl⟩
   | false=>exact .inr ⟨by simp,rfl⟩
 . try dsimp only
   rw [L111b_0_succ]
   try delta lenI
   simp only [dF (show ¬ ((out.length:Nat):Int)<out.length by omega)]
theorem apart_len (t:TREE):∀ (l out:List Int),(l.foldl (apStep t) out).length<=out.length+l.length/\∀ x∈l.foldl (apStep t) out,x∈out\/x∈l
 | [],out=>⟨by simp,fun x hx=>.inl hx⟩
 | n :: l,out=>by
  have ih:=apart_len t l (apStep t out n);rw [List.foldl_cons];have h1:(apStep t out n).length<=out.length+1:=by unfold apStep;split<;>simp
  have h2:∀ x∈apStep t out n,x∈out\/x=n:=by
   unfold apStep;split
   . exact fun x hx=>.inl hx
   . intro x hx;simpa using hx
  refine ⟨by rw [List.length_cons];omega,fun x hx=>?_⟩;rcases ih.2 x hx with h|h
  . rcases h2 x h with h|rfl
    . exact .inl h
    . exact .inr (by simp)
  . exact .inr (List.mem_cons_of_mem _ h)
theorem foldTake {α:Type} {f:List Int->Int->List Int} {l:List Int} {k:Nat} (hk:k<l.length):(l.take (k+1)).foldl f []=f ((l.take k).foldl f []) (l.getD k 0):=by
 rw [take_snoc 0 hk,List.foldl_append];rfl
theorem f50_at {t:TREE} (ht:TreeOK t) {l:List Int} (h:HandsOK t l):f50 (t,(l,())) = .ret (apartT t l,(0,())):=by
 have hfb:=fuel_big;have hcc:=ht.copies;have hll:=hands_len h;unfold f50 F50;simp only [ht.t55,f85_yes ht h,ht.made,Bool.not_true];have key:=runL (L:=fun n k=>L50_0 fuel n (madeT t) (t,(l,())) (apartT t (l.take k)) k) (len:=l.length) (K:=.ret (apartT t l,(0,()))) (fun n k hk=>?_) (fun n=>?_) l.length fuel 0 (by omega) (by omega)
 . exact key
 . try dsimp only
   rw [L50_0_succ]
   try delta lenI
   have ha:=apart_len t (l.take k) [];have hal:(apartT t (l.take k)).length<=k:=by have:=ha.1;rw [List.length_take] at this;unfold apartT;simp at this;omega
   have hac:∀ m∈apartT t (l.take k),IsCopy t m:=fun m hm=>by
    rcases ha.2 m hm with h1|h1
    . cases h1
    . exact (hands_mem h (List.mem_of_mem_take h1)).2
   have es:apartT t (l.take (k+1))=apStep t (apartT t (l.take k)) (l.getD k 0):=foldTake (α:=Int) hk;rw [es];simp only [dT (show (k:Int)<l.length by omega),inbT (show (0:Int)<=k by omega) (show (k:Int)<l.length by omega),cond_true,Int.toNat_natCast,f86b_at ht (hands_mem h (getD_mem hk)).2 (apartT t (l.take k)) hac (by omega),wn (show k<1000000000 by omega)]
   unfold apStep;cases g:(apartT t (l.take k)).any (meets t (l.getD k 0)) with
   | true=>simp only [Bool.not_true,if_true]
   | false =>
    simp only [Bool.not_false,Bool.false_eq_true,if_false,fitsT (xs:=apartT t (l.take k)) (ys:=[l.getD k 0]) (by simp only [List.length_cons,List.length_nil];omega),cond_true]
 . try dsimp only
   rw [L50_0_succ]
   try delta lenI
   simp only [dF (show ¬ ((l.length:Nat):Int)<l.length by omega),List.take_length]
def offB (s:List (List Int)) (n:Int):Bool:=decide (¬ s.getD n.toNat []=s.getD 0 [])
def upTo (t:TREE) (s:List (List Int)) (h:Int):List Int:=(pathV t h).takeWhile (offB s)
def againL (t:TREE) (s:List (List Int)) (l:List Int):List Int:=l.flatMap (upTo t s)
def againT (t:TREE) (s:List (List Int)) (l:List Int):List Int:=(allTo t.2.1.length).filter fun c=>decide (c∈againL t s l)
theorem f88_at (a b:List Int) (h:a.length<1000000):f88 (a,(b,())) = .ret (decide (a=b)):=by
 have hfb:=fuel_big;unfold f88 F88
 try delta lenI
 by_cases e:a.length=b.length
 rotate_left
 . simp only [nT (show (a.length:Int)≠b.length by omega)];rw [dF (show ¬ a=b from fun h=>e (congrArg _ h))]
 simp only [nF (show (a.length:Int)=b.length by omega)];have key:=findL (L:=fun n i=>L88_0 fuel n (a,(b,())) i) (len:=a.length) (K:=.ret true) (fun i=>¬ a.getD i 0=b.getD i 0) (fun _=>.ret false) (fun n i hi=>?_) (fun n=>?_) a.length fuel 0 (by omega) (by omega)
 . rcases key with ⟨j,h1,h2,h3,h4,h5⟩|⟨h1,h2⟩
   . rw [show L88_0 fuel fuel (a,(b,())) 0=_ from h5,dF (show ¬ a=b from fun h=>h3 (by rw [h]))]
   . rw [show L88_0 fuel fuel (a,(b,())) 0=_ from h2,dT (ext_getD 0 e (not_all h1))]
 . try dsimp only
   rw [L88_0_succ]
   try delta lenI
   simp only [dT (show (i:Int)<a.length by omega),inbT (show (0:Int)<=i by omega) (show (i:Int)<a.length by omega),inbT (show (0:Int)<=i by omega) (show (i:Int)<b.length by omega),cond_true,Int.toNat_natCast,wn (show i<1000000000 by omega)]
   by_cases g:a.getD i 0=b.getD i 0
   . simp only [nF g];exact .inr ⟨fun h=>h g,trivial⟩
   . simp only [nT g];exact .inl ⟨g,trivial⟩
 . try dsimp only
   rw [L88_0_succ]
   try delta lenI
   simp only [dF (show ¬ ((a.length:Nat):Int)<a.length by omega)]
theorem mem_takeWhile {q:Int->Bool} {x:Int}:∀ {l:List Int},x∈l.takeWhile q->x∈l
 | [],h=>h
 | y :: l,h=>by
  rw [List.takeWhile_cons] at h;split at h
  . rcases List.mem_cons.1 h with rfl|h
    . simp
    . exact List.mem_cons_of_mem _ (mem_takeWhile h)
  . cases h
theorem up_len {t:TREE} (ht:TreeOK t) {s:List (List Int)} {h:Int} (hc:IsCopy t h):(upTo t s h).length<=t.2.1.length :=
 Nat.le_trans (List.takeWhile_sublist _).length_le (path_len ht hc.l hc.h)
theorem flatLen {f:Int->List Int} {B:Nat}:∀ {l:List Int},(∀ x∈l,(f x).length<=B)->(l.flatMap f).length<=l.length * B
 | [],_=>by simp
 | x :: l,h=>by
  rw [List.flatMap_cons,List.length_append,List.length_cons];have h1:=h x (by simp);have h2:=flatLen (l:=l) fun y hy=>h y (List.mem_cons_of_mem _ hy)
  have e:(l.length+1) * B=l.length * B+B:=Nat.succ_mul _ _;omega
theorem story_len {t:TREE} {s:List (List Int)} (hs:StoryOK t s) {i:Nat} (hi:i<s.length):((s.getD i []).length:Int)=t.1:=(hs.row i hi).len
theorem sort_again {t:TREE} (ht:TreeOK t) {s:List (List Int)} {l:List Int} (h:HandsOK t l):sortC (againL t s l)=againT t s l:=by
 refine sortC_eq fun x=>?_
 rw [decide_eq_true_eq];refine ⟨fun hx=>⟨?_,hx⟩,fun hx=>hx.2⟩;unfold againL at hx;obtain ⟨h0,h1,h2⟩:=List.mem_flatMap.1 hx;have hc:=(hands_mem h h1).2;have:=path_mem ht hc.l hc.h (mem_takeWhile h2);exact ⟨this.1,by have:=hc.h;omega⟩
theorem f51_at {t:TREE} (ht:TreeOK t) {s:List (List Int)} (hs:StoryOK t s) {l:List Int} (h:HandsOK t l):f51 (t,(s,(l,()))) = .ret (againT t s l,(0,())):=by
 have hfb:=fuel_big;have hcc:=ht.copies;have hll:=hands_len h;have hsl:=hs.len;obtain ⟨P,hP,hP1,hP3⟩:=ht.pl;have e68:f68 (t,(s,())) = .ret true:=by
  rcases story_ret ht s with ⟨_,_,h⟩|⟨h,_⟩
  . exact h
  . exact absurd hs h
 have em:((((madeT t).1.1,((madeT t).1.2.1,())),((madeT t).2.1,())):TR)=madeT t:=rfl;have hflat:∀ k,(againL t s (l.take k)).length<=64:=fun k=>by
  refine Nat.le_trans (flatLen (B:=8) fun x hx=>?_) ?_
  . exact Nat.le_trans (up_len ht (hands_mem h (List.mem_of_mem_take hx)).2) hcc.2
  . rw [List.length_take];omega
 unfold f51 F51;simp only [ht.t55,e68,f85_yes ht h,ht.made,Bool.not_true];have key:=runL (L:=fun n k=>L51_0 fuel n (t,(s,(l,()))) s (madeT t).1.1 (madeT t).1.2.1 (madeT t).2.1 (againL t s (l.take k)) k) (len:=l.length) (K:=.ret ((none:Option PS),(againT t s l,((0:Int),())))) (fun n k hk=>?_) (fun n=>?_) l.length fuel 0 (by omega) (by omega)
 . rw [show L51_0 fuel fuel (t,(s,(l,()))) s (madeT t).1.1 (madeT t).1.2.1 (madeT t).2.1 [] 0=_ from key];rfl
 . try dsimp only
   rw [L51_0_succ]
   try delta lenI
   have hc:IsCopy t (l.getD k 0):=(hands_mem h (getD_mem hk)).2;have hf:=hflat k;have hul:=path_len ht hc.l hc.h;simp only [dT (show (k:Int)<l.length by omega),inbT (show (0:Int)<=k by omega) (show (k:Int)<l.length by omega),cond_true,Int.toNat_natCast]
   refine allOf_eq fun v=>?_
   have em2:((((madeT t).1.1,((madeT t).1.2.1,())),((madeT t).2.1,())):TR)=madeT t:=rfl;rw [em2,isV_refl,pathB_iff.2 (show PathOK (madeT t).1 (l.getD k 0) from ht.pathOK hc.l hc.h)];simp only [Bool.and_self,cond_true];have es:againL t s (l.take (k+1))=againL t s (l.take k)++upTo t s (l.getD k 0):=by
    unfold againL;rw [take_snoc 0 hk,List.flatMap_append];simp
   rw [es];have em3:(madeT t).1=t:=rfl;have go:∀ (ys out:List Int),(∀ y∈ys,IsCopy t y)->out.length+ys.length<=1000->∀ (a b:List Int),R51_1 fuel n ys (t,(s,(l,()))) k (madeT t).1.1 (madeT t).1.2.1 (madeT t).2.1 v s a s (madeT t).1.1 (madeT t).1.2.1 (madeT t).2.1 out=L51_0 fuel n (t,(s,(l,()))) s (madeT t).1.1 (madeT t).1.2.1 (madeT t).2.1 (out++ys.takeWhile (offB s)) ((k+1:Nat):Int):=by
    intro ys
    induction ys with
    | nil =>
     intro out _ _ a b;rw [R51_1_nil];simp only [List.takeWhile_nil,List.append_nil,wn (show k<1000000000 by omega)]
    | cons y ys ih =>
     intro out hy hlen a b;rw [R51_1_cons];have hyc:=hy y (by simp);have hyr:=story_len hs (i:=y.toNat) (by have:=hyc.h;have:=hyc.l;omega);rw [List.length_cons] at hlen;simp only [inbT hyc.l (show y<s.length by have:=hyc.h;omega),inbT (show (0:Int)<=0 by omega) (show (0:Int)<s.length by omega),cond_true,f88_at _ _ (show (s.getD y.toNat []).length<1000000 by omega),show (0:Int).toNat=0 from rfl]
     by_cases g:s.getD y.toNat []=s.getD 0 []
     . have ho:offB s y=false:=dF fun h=>h g
       simp only [dT g,wn (show k<1000000000 by omega)];rw [List.takeWhile_cons,ho];simp
     . have ho:offB s y=true:=dT g;simp only [dF g,fitsT (xs:=out) (ys:=[y]) (by simp only [List.length_cons,List.length_nil];omega),cond_true];rw [ih (out++[y]) (fun z hz=>hy z (List.mem_cons_of_mem _ hz)) (by rw [List.length_append];simp only [List.length_cons,List.length_nil];omega) a b]
       rw [List.takeWhile_cons,ho];simp
   exact go (pathV t (l.getD k 0)) (againL t s (l.take k)) (fun y hy=>by have:=path_mem ht hc.l hc.h hy;exact ⟨this.1,by have:=hc.h;omega⟩) (by omega) (againL t s (l.take k)) []
 . try dsimp only
   rw [L51_0_succ]
   try delta lenI
   have hf:=hflat l.length;simp only [dF (show ¬ ((l.length:Nat):Int)<l.length by omega),dT (show (againL t s (l.take l.length)).length<1000000000 by omega),cond_true];rw [List.take_length,sort_again ht h]
end Go.V
end
