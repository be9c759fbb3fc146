/- Part. -/
import Derived.Test.YtmkbnifehdhbbabGreatDoorQE
import Derived.Test.YtmkbnifehdhbbabGreatDoorDBd
set_option linter.all false
noncomputable section
namespace Go.V
open Go.Proofs
theorem dQ {ρ:Type} {L:Nat->Nat->Out ρ} {len:Nat} {K:Out ρ} (step:∀ n i:Nat,i<len->L (n+1) i=L n (i+1)) (done:∀ n,L (n+1) len=K):∀ (m n i:Nat),m<n->i+m=len->L n i=K
 | 0,n,i,h1,h2=>by
  obtain ⟨n,rfl⟩:=ks h1;rw [show i=len by omega,done]
 | m+1,n,i,h1,h2=>by
  obtain ⟨n,rfl⟩:=ks (show 0<n by omega);rw [step n i (by omega),dQ step done m n (i+1) (by omega) (by omega)]
theorem gm {ρ:Type} {L:Nat->Nat->Out ρ} {len:Nat} {K:Out ρ} (P:Nat->Prop) (R:Nat->Out ρ) (step:∀ n i:Nat,i<len->(P i/\L (n+1) i=R i)\/(¬ P i/\L (n+1) i=L n (i+1))) (done:∀ n,L (n+1) len=K) :
 ∀ (m n i:Nat),m<n->i+m=len->(∃ j,i<=j/\j<len/\P j/\(∀ k,i<=k->k<j->¬ P k)/\L n i=R j)\/((∀ j,i<=j->j<len->¬ P j)/\L n i=K)
 | 0,n,i,h1,h2=>by
  obtain ⟨n,rfl⟩:=ks h1;exact .inr ⟨fun j h3 h4=>by omega,by rw [show i=len by omega,done]⟩
 | m+1,n,i,h1,h2=>by
  obtain ⟨n,rfl⟩:=ks (show 0<n by omega);rcases step n i (by omega) with ⟨hp,e⟩|⟨hp,e⟩
  . exact .inl ⟨i,Nat.le_refl _,by omega,hp,fun k h3 h4=>by omega,e⟩
  . rcases gm P R step done m n (i+1) (by omega) (by omega) with ⟨j,h3,h4,h5,h6,h7⟩|⟨h3,h4⟩
    . refine .inl ⟨j,by omega,h4,h5,fun k h8 h9=>?_,e.trans h7⟩
      by_cases ek:k=i
      . subst ek;exact hp
      . exact h6 k (by omega) h9
    . refine .inr ⟨fun j h5 h6=>?_,e.trans h4⟩
      by_cases ej:j=i
      . subst ej;exact hp
      . exact h3 j (by omega) h6
theorem mM {α:Type} {a b:List α} (z:α) (h1:a.length=b.length) (h2:∀ i,i<a.length->a.getD i z=b.getD i z):a=b:=by
 apply List.ext_getElem h1;intro i h3 h4;have:=h2 i h3;rw [List.getD_eq_getElem?_getD,List.getD_eq_getElem?_getD,List.getElem?_eq_getElem h3,List.getElem?_eq_getElem h4] at this;exact this
theorem nk {len:Nat} {P:Nat->Prop} (h:∀ j,0<=j->j<len->¬ ¬ P j):∀ j,j<len->P j:=fun j hj=>Classical.byContradiction (h j (Nat.zero_le _) hj)
theorem EZ (a b:List Int) (h:a.length<1000000):f19 (a,(b,())) = .ret (decide (a=b)):=by
 have hfb:=bK;unfold f19 wv
 try delta ae
 by_cases e:a.length=b.length
 rotate_left
 . simp only [nT (show (a.length:Int)≠b.length by omega)];rw [dF (show ¬ a=b from fun h=>e (congrArg _ h))]
 simp only [nF (show (a.length:Int)=b.length by omega)];have key:=gm (L:=fun n i=>L19_0 fuel n (a,(b,())) i) (len:=a.length) (K:=.ret true) (fun i=>¬ a.getD i 0=b.getD i 0) (fun _=>.ret false) (fun n i hi=>?_) (fun n=>?_) a.length fuel 0 (by omega) (by omega)
 . rcases key with ⟨j,h1,h2,h3,h4,h5⟩|⟨h1,h2⟩
   . rw [show L19_0 fuel fuel (a,(b,())) 0=_ from h5,dF (show ¬ a=b from fun h=>h3 (by rw [h]))]
   . rw [show L19_0 fuel fuel (a,(b,())) 0=_ from h2,dT (mM 0 e (nk h1))]
 . try dsimp only
   rw [L19_0_succ]
   try delta ae
   simp only [dT (show (i:Int)<a.length by omega),aY (show (0:Int)<=i by omega) (show (i:Int)<a.length by omega),aY (show (0:Int)<=i by omega) (show (i:Int)<b.length by omega),cond_true,Int.toNat_natCast,wn (show i<1000000000 by omega)]
   by_cases g:a.getD i 0=b.getD i 0
   . simp only [nF g];exact .inr ⟨fun h=>h g,trivial⟩
   . simp only [nT g];exact .inl ⟨g,trivial⟩
 . try dsimp only
   rw [L19_0_succ]
   try delta ae
   simp only [dF (show ¬ ((a.length:Nat):Int)<a.length by omega)]
theorem Qk (a b:List Int) (h:a.length<1000000):kS (a,(b,())) = .ret (decide (a=b)):=by
 have hfb:=bK;unfold kS wF
 try delta ae
 by_cases e:a.length=b.length
 rotate_left
 . simp only [nT (show (a.length:Int)≠b.length by omega)];rw [dF (show ¬ a=b from fun h=>e (congrArg _ h))]
 simp only [nF (show (a.length:Int)=b.length by omega)];have key:=gm (L:=fun n i=>L37_0 fuel n (a,(b,())) i) (len:=a.length) (K:=.ret true) (fun i=>¬ a.getD i 0=b.getD i 0) (fun _=>.ret false) (fun n i hi=>?_) (fun n=>?_) a.length fuel 0 (by omega) (by omega)
 . rcases key with ⟨j,h1,h2,h3,h4,h5⟩|⟨h1,h2⟩
   . rw [show L37_0 fuel fuel (a,(b,())) 0=_ from h5,dF (show ¬ a=b from fun h=>h3 (by rw [h]))]
   . rw [show L37_0 fuel fuel (a,(b,())) 0=_ from h2,dT (mM 0 e (nk h1))]
 . try dsimp only
   rw [L37_0_succ]
   try delta ae
   simp only [dT (show (i:Int)<a.length by omega),aY (show (0:Int)<=i by omega) (show (i:Int)<a.length by omega),aY (show (0:Int)<=i by omega) (show (i:Int)<b.length by omega),cond_true,Int.toNat_natCast,wn (show i<1000000000 by omega)]
   by_cases g:a.getD i 0=b.getD i 0
   . simp only [nF g];exact .inr ⟨fun h=>h g,trivial⟩
   . simp only [nT g];exact .inl ⟨g,trivial⟩
 . try dsimp only
   rw [L37_0_succ]
   try delta ae
   simp only [dF (show ¬ ((a.length:Nat):Int)<a.length by omega)]
theorem Qf (a b:List (List Int)) (h:a.length<1000000) (hr:∀ l∈a,l.length<1000000):kQ (a,(b,())) = .ret (decide (a=b)):=by
 have hfb:=bK;unfold kQ wB
 try delta ae
 by_cases e:a.length=b.length
 rotate_left
 . simp only [nT (show (a.length:Int)≠b.length by omega)];rw [dF (show ¬ a=b from fun h=>e (congrArg _ h))]
 simp only [nF (show (a.length:Int)=b.length by omega)];have key:=gm (L:=fun n i=>L28_0 fuel n (a,(b,())) i) (len:=a.length) (K:=.ret true) (fun i=>¬ a.getD i []=b.getD i []) (fun _=>.ret false) (fun n i hi=>?_) (fun n=>?_) a.length fuel 0 (by omega) (by omega)
 . rcases key with ⟨j,h1,h2,h3,h4,h5⟩|⟨h1,h2⟩
   . rw [show L28_0 fuel fuel (a,(b,())) 0=_ from h5,dF (show ¬ a=b from fun h=>h3 (by rw [h]))]
   . rw [show L28_0 fuel fuel (a,(b,())) 0=_ from h2,dT (mM [] e (nk h1))]
 . try dsimp only
   rw [L28_0_succ]
   try delta ae
   have hl:(a.getD i []).length<1000000:=hr _ (by rw [List.getD_eq_getElem?_getD,List.getElem?_eq_getElem hi];exact List.getElem_mem hi);simp only [dT (show (i:Int)<a.length by omega),aY (show (0:Int)<=i by omega) (show (i:Int)<a.length by omega),aY (show (0:Int)<=i by omega) (show (i:Int)<b.length by omega),cond_true,Int.toNat_natCast,wn (show i<1000000000 by omega),EZ _ _ hl]
   by_cases g:a.getD i []=b.getD i []
   . simp only [dT g,Bool.not_true];exact .inr ⟨fun h=>h g,trivial⟩
   . simp only [dF g,Bool.not_false];exact .inl ⟨g,trivial⟩
 . try dsimp only
   rw [L28_0_succ]
   try delta ae
   simp only [dF (show ¬ ((a.length:Nat):Int)<a.length by omega)]
theorem Qp (a b:List (Int×(Int×Unit))) (h:a.length<1000000):f53 (a,(b,())) = .ret (decide (a=b)):=by
 have hfb:=bK;unfold f53 wK
 try delta ae
 by_cases e:a.length=b.length
 rotate_left
 . simp only [nT (show (a.length:Int)≠b.length by omega)];rw [dF (show ¬ a=b from fun h=>e (congrArg _ h))]
 simp only [nF (show (a.length:Int)=b.length by omega)];have key:=gm (L:=fun n i=>L53_0 fuel n (a,(b,())) i) (len:=a.length) (K:=.ret true) (fun i=>¬ a.getD i (0,(0,()))=b.getD i (0,(0,()))) (fun _=>.ret false) (fun n i hi=>?_) (fun n=>?_) a.length fuel 0 (by omega) (by omega)
 . rcases key with ⟨j,h1,h2,h3,h4,h5⟩|⟨h1,h2⟩
   . rw [show L53_0 fuel fuel (a,(b,())) 0=_ from h5,dF (show ¬ a=b from fun h=>h3 (by rw [h]))]
   . rw [show L53_0 fuel fuel (a,(b,())) 0=_ from h2,dT (mM (0,(0,())) e (nk h1))]
 . try dsimp only
   rw [L53_0_succ]
   try delta ae
   simp only [dT (show (i:Int)<a.length by omega),aY (show (0:Int)<=i by omega) (show (i:Int)<a.length by omega),aY (show (0:Int)<=i by omega) (show (i:Int)<b.length by omega),cond_true,Int.toNat_natCast,wn (show i<1000000000 by omega)]
   by_cases g:a.getD i (0,(0,()))=b.getD i (0,(0,()))
   . rw [g];simp only [qI,gj,beq_self_eq_true,Bool.and_self,Bool.not_true];exact .inr ⟨fun h=>h trivial,trivial⟩
   . have g2:qI (gj (a.getD i (0,(0,()))).1 (b.getD i (0,(0,()))).1 && (gj (a.getD i (0,(0,()))).2.1 (b.getD i (0,(0,()))).2.1 && true))=true:=by
      unfold qI gj;cases h1:((a.getD i (0,(0,()))).1==(b.getD i (0,(0,()))).1) with
      | false=>rfl
      | true =>
       cases h2:((a.getD i (0,(0,()))).2.1==(b.getD i (0,(0,()))).2.1) with
       | false=>rfl
       | true=>exact absurd (Prod.ext (eq_of_beq h1) (Prod.ext (eq_of_beq h2) rfl)) g
     simp only [g2];exact .inl ⟨g,trivial⟩
 . try dsimp only
   rw [L53_0_succ]
   try delta ae
   simp only [dF (show ¬ ((a.length:Nat):Int)<a.length by omega)]
theorem Q1 (l:List Int) (x:Int) (h:l.length<1000000):f98 (l,(x,())) = .ret (decide (x∈l)):=by
 have hfb:=bK;have key:=gm (L:=fun n i=>L116_0 fuel n (l,(x,())) i) (len:=l.length) (K:=.ret (-1)) (fun i=>x=l.getD i 0) (fun i=>.ret (i:Int)) (fun n i hi=>?_) (fun n=>?_) l.length fuel 0 (by omega) (by omega)
 . unfold f98 xf f116 wh;rcases key with ⟨j,h1,h2,h3,h4,h5⟩|⟨h1,h2⟩
   . rw [show L116_0 fuel fuel (l,(x,())) 0=_ from h5,dT (show x∈l by rw [h3];exact jh h2)];simp only [dT (show (j:Int) >= 0 by omega)]
   . rw [show L116_0 fuel fuel (l,(x,())) 0=_ from h2,dF (show ¬ x∈l from fun hm=>?_)]
     . rfl
     obtain ⟨i,hi,he⟩:=ud hm;exact h1 i (Nat.zero_le _) hi he.symm
 . try dsimp only
   rw [L116_0_succ]
   try delta ae
   simp only [dT (show (i:Int)<l.length by omega),aY (show (0:Int)<=i by omega) (show (i:Int)<l.length by omega),cond_true,Int.toNat_natCast,wn (show i<1000000000 by omega)]
   by_cases g:x=l.getD i 0
   . simp only [eT g];exact .inl ⟨g,trivial⟩
   . simp only [eF g];exact .inr ⟨g,trivial⟩
 . try dsimp only
   rw [L116_0_succ]
   try delta ae
   simp only [dF (show ¬ ((l.length:Nat):Int)<l.length by omega)]
theorem tC {t:ac} (n:Int) (h:t.2.1.length<1000000):f56 (t,(n,())) = .ret (decide (0<=n/\n<t.2.1.length)):=by
 unfold f56 wM
 try delta ae
 simp only [qi];rw [wr (by omega) (by omega)]
 by_cases h1:0<=n/\n<t.2.1.length
 . rw [dT h1,dT (by omega)]
 . rw [dF h1,dF (by omega)]
theorem TreeOK.pathOK {t:ac} (h:TreeOK t) {n:Int} (h0:0<=n) (h1:n<t.2.1.length):PathOK t n:=⟨h.par,h0,h1,by have:=h.copies;omega⟩
theorem TreeOK.zero {t:ac} (h:TreeOK t):TreeP t 0:=h.treeP (Int.le_refl 0) (by have:=h.places;omega)
theorem TreeOK.made {t:ac} (h:TreeOK t):f58 (t,()) = .ret (aJ t):=yz h.zero.preT
theorem Ho {t:ac} (ht:TreeOK t) {P:Int->Prop} (h0:P 0) (hs:∀ n:Int,0<n->n<t.2.1.length->P (bC t n.toNat)->P n):∀ n:Int,0<=n->n<t.2.1.length->P n:=by
 have key:∀ (m:Nat) (n:Int),n<=m->0<=n->n<t.2.1.length->P n:=by
  intro m
  induction m with
  | zero=>intro n h1 h2 h3;rw [show n=0 by omega];exact h0
  | succ m ih =>
   intro n h1 h2 h3
   by_cases e:n=0
   . rw [e];exact h0
   . have:=ht.par n.toNat (by omega) (by omega);exact hs n (by omega) h3 (ih _ (by omega) this.1 (by omega))
 exact fun n h1 h2=>key n.toNat n (by omega) h1 h2
theorem Hl (t:ac):aF t 0=[0]:=rfl
theorem Hq {t:ac} (ht:TreeOK t) {n:Int} (h0:0<n) (h1:n<t.2.1.length):aF t n=n :: aF t (bC t n.toNat):=by
 rw [ut (ht.pathOK (by omega) h1),if_pos h0]
theorem JU {t:ac} (ht:TreeOK t) {n:Int} (h0:0<n) (h1:n<t.2.1.length):0<=bC t n.toNat/\bC t n.toNat<n/\bC t n.toNat<t.2.1.length:=by
 have:=ht.par n.toNat (by omega) (by omega);omega
theorem uu {t:ac} (ht:TreeOK t):∀ n:Int,0<=n->n<t.2.1.length->(∀ x∈aF t n,0<=x/\x<=n)/\n∈aF t n/\0∈aF t n/\((aF t n).length:Int)<=n+1:=by
 refine Ho ht (P:=fun n=>(∀ x∈aF t n,0<=x/\x<=n)/\n∈aF t n/\0∈aF t n/\((aF t n).length:Int)<=n+1) ?_ ?_
 . rw [Hl];simp
 . intro n h0 h1 ih;obtain ⟨i1,i2,i3,i4⟩:=ih;have hu:=JU ht h0 h1;rw [Hq ht h0 h1];refine ⟨fun x hx=>?_,by simp,by simp [i3],by rw [List.length_cons];omega⟩;rcases List.mem_cons.1 hx with rfl|hx
   . omega
   . have:=i1 x hx;omega
theorem uv {t:ac} (ht:TreeOK t) {n x:Int} (h0:0<=n) (h1:n<t.2.1.length) (h:x∈aF t n):0<=x/\x<=n:=(uu ht n h0 h1).1 x h
theorem Uo {t:ac} (ht:TreeOK t) {n:Int} (h0:0<=n) (h1:n<t.2.1.length):n∈aF t n:=(uu ht n h0 h1).2.1
theorem Up {t:ac} (ht:TreeOK t) {n:Int} (h0:0<=n) (h1:n<t.2.1.length):0∈aF t n:=(uu ht n h0 h1).2.2.1
theorem zU {t:ac} (ht:TreeOK t) {n:Int} (h0:0<=n) (h1:n<t.2.1.length):(aF t n).length<=t.2.1.length:=by
 have:=(uu ht n h0 h1).2.2.2;omega
theorem P_ {t:ac} (ht:TreeOK t) {n:Int} (h0:0<=n) (h1:n<t.2.1.length):f15 (t,(n,())) = .ret (aF t n,(0,())):=by
 obtain ⟨b,e1,e2,e3⟩:=B_ t;have hb:=e3.2 ht;subst hb;have hc:=ht.copies;unfold f15 wq;simp only [e2,tC n (show t.2.1.length<1000000 by omega),dT (show 0<=n/\n<(t.2.1.length:Int) from ⟨h0,h1⟩),ht.made,Bool.not_true];rw [iZ (r:=.ret ((none:Option PS),(aF t n,((0:Int),())))) fun v=>?_]
 . rfl
 . rw [fV,lC.2 (show PathOK (aJ t).1 n from ht.pathOK h0 h1),dT (show (aJ t).1.2.1.length<100000 by show t.2.1.length<_;omega)];rfl
def fZ (t:ac) (one other:Int):Int:=((aF t other).find? fun x=>decide (x∈aF t one)).getD 0
theorem Um {t:ac} (ht:TreeOK t) {p:Int->Bool} (hp:p 0=true):∀ n:Int,0<=n->n<t.2.1.length->∃ m,(aF t n).find? p=some m/\m∈aF t n/\p m=true/\∀ x∈aF t n,p x=true->x<=m:=by
 refine Ho ht (P:=fun n=>∃ m,(aF t n).find? p=some m/\m∈aF t n/\p m=true/\∀ x∈aF t n,p x=true->x<=m) ?_ ?_
 . rw [Hl];refine ⟨0,by simp [hp],by simp,hp,fun x hx _=>?_⟩;simp at hx;omega
 . intro n h0 h1 ih;rw [Hq ht h0 h1];have hu:=JU ht h0 h1
   by_cases e:p n=true
   . refine ⟨n,by rw [List.find?_cons_of_pos e],by simp,e,fun x hx _=>?_⟩;rcases List.mem_cons.1 hx with rfl|hx
     . exact Int.le_refl _
     . have:=uv ht hu.1 hu.2.2 hx;omega
   . obtain ⟨m,i1,i2,i3,i4⟩:=ih;refine ⟨m,by rw [List.find?_cons_of_neg e];exact i1,by simp [i2],i3,fun x hx hx2=>?_⟩;rcases List.mem_cons.1 hx with rfl|hx
     . exact absurd hx2 e
     . exact i4 x hx hx2
structure IsCopy (t:ac) (n:Int):Prop where
 l:0<=n
 h:n<t.2.1.length
theorem AT {t:ac} (ht:TreeOK t) {a b:Int} (ha:IsCopy t a) (hb:IsCopy t b):(aF t b).find? (fun x=>decide (x∈aF t a))=some (fZ t a b)/\fZ t a b∈aF t a/\fZ t a b∈aF t b/\∀ x,x∈aF t a->x∈aF t b->x<=fZ t a b:=by
 obtain ⟨m,h1,h2,h3,h4⟩:=Um ht (p:=fun x=>decide (x∈aF t a)) (decide_eq_true (Up ht ha.l ha.h)) b hb.l hb.h;have e:fZ t a b=m:=by unfold fZ;rw [h1];rfl
 rw [e];exact ⟨h1,of_decide_eq_true h3,h2,fun x h5 h6=>h4 x h6 (decide_eq_true h5)⟩
theorem U7 {t:ac} (ht:TreeOK t) {a b m:Int} (ha:IsCopy t a) (hb:IsCopy t b) (h1:m∈aF t a) (h2:m∈aF t b) (h3:∀ x,x∈aF t a->x∈aF t b->x<=m):fZ t a b=m:=by
 obtain ⟨_,g2,g3,g4⟩:=AT ht ha hb;have:=g4 m h1 h2;have:=h3 _ g2 g3;omega
theorem yA {t:ac} (ht:TreeOK t) {a b:Int} (ha:IsCopy t a) (hb:IsCopy t b):f60 (aJ t,(a,(b,()))) = .ret (fZ t a b):=by
 have hc:=ht.copies;have hl:=zU ht ha.l ha.h;have go:∀ (l:List Int) (m:Int),l.find? (fun x=>decide (x∈aF t a))=some m->∀ v1 v2 i3 i4 i5 i6,R60_0 fuel l (aJ t,(a,(b,()))) v1 v2 i3 i4 i5 i6 (aF t a) = .ret (none,m):=by
  intro l
  induction l with
  | nil=>intro m h;cases h
  | cons y l ih =>
   intro m h v1 v2 i3 i4 i5 i6;rw [R60_0_cons,Q1 _ _ (by omega)]
   by_cases e:y∈aF t a
   . rw [List.find?_cons_of_pos (by simpa using e)] at h;injection h with h;subst h;simp only [dT e]
   . rw [List.find?_cons_of_neg (by simpa using e)] at h;simp only [dF e];exact ih m h _ _ _ _ _ _
 unfold f60 wO;rw [iZ (r:=.ret ((none:Option PS),fZ t a b)) fun v=>?_]
 . rfl
 . rw [fV,lC.2 (show PathOK (aJ t).1 a from ht.pathOK ha.l ha.h),dT (show (aJ t).1.2.1.length<100000 by show t.2.1.length<_;omega)];simp only [Bool.and_self,cond_true];refine iZ fun v2=>?_
   rw [fV,lC.2 (show PathOK (aJ t).1 b from ht.pathOK hb.l hb.h)];simp only [Bool.and_self,cond_true];exact go _ _ (AT ht ha hb).1 _ _ _ _ _ _
theorem Qa {t:ac} (ht:TreeOK t) {a b:Int} (ha:IsCopy t a) (hb:IsCopy t b):kO (t,(a,(b,()))) = .ret (fZ t a b,(0,())):=by
 obtain ⟨c,e1,e2,e3⟩:=B_ t;have hc:=e3.2 ht;subst hc;have hc:=ht.copies;unfold kO wu;simp only [e2,tC _ (show t.2.1.length<1000000 by omega),dT (show 0<=a/\a<(t.2.1.length:Int) from ⟨ha.l,ha.h⟩),dT (show 0<=b/\b<(t.2.1.length:Int) from ⟨hb.l,hb.h⟩),ht.made,Bool.not_true,yA ht ha hb]
end Go.V
end
