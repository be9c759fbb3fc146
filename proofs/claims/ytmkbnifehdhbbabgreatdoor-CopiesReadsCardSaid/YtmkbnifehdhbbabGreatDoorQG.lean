/- Part. -/
import Derived.Test.YtmkbnifehdhbbabGreatDoorQF
import Derived.Test.YtmkbnifehdhbbabGreatDoorCX
set_option linter.all false
noncomputable section
namespace Go.V
open Go.Proofs
theorem Wg {t:ac}:(TreeOK t/\f17 (t,()) = .ret true/\f55 (t,()) = .ret true)\/(¬ TreeOK t/\f17 (t,()) = .ret false/\f55 (t,()) = .ret false):=by
 obtain ⟨b,h1,h2,h3⟩:=B_ t;cases b with
 | true=>exact .inl ⟨h3.1 rfl,h1,h2⟩
 | false=>exact .inr ⟨fun h=>(by have:=h3.2 h;cases this),h1,h2⟩
theorem TreeOK.t55 {t:ac} (h:TreeOK t):f55 (t,()) = .ret true:=by
 rcases Wg (t:=t) with ⟨_,_,h1⟩|⟨h1,_⟩
 . exact h1
 . exact absurd h h1
theorem TreeOK.pl {t:ac} (h:TreeOK t):∃ p:Nat,t.1=p/\1<=p/\p<=3:=⟨t.1.toNat,by have:=h.places;omega,by have:=h.places;omega,by have:=h.places;omega⟩
def dX (s:List (List Int)) (i p:Nat):Int:=(s.getD i []).getD p 0
def xh (t:ac) (s:List (List Int)) (i p:Nat):Prop:=(0<=dX s i p/\dX s i p<=9)/\cv t p i (dX s i p)=true
structure RowOK (t:ac) (s:List (List Int)) (i:Nat):Prop where
 len:((s.getD i []).length:Int)=t.1
 cell:∀ p,p<(s.getD i []).length->xh t s i p
structure StoryOK (t:ac) (s:List (List Int)):Prop where
 len:s.length=t.2.1.length
 row:∀ i,i<s.length->RowOK t s i
theorem ES {t:ac} (ht:TreeOK t) {i p:Nat} (hi:i<t.2.1.length) (hp:(p:Int)<t.1) (x:Int):je (t,((i:Int),((p:Int),(x,())))) = .ret (cv t p i x):=by
 have hl:((t.2.1.getD i bh).2.1.length:Int)=t.1:=(ht.node i hi).len;unfold je oK;simp only [aY (show (0:Int)<=i by omega) (show (i:Int)<t.2.1.length by omega),Int.toNat_natCast,aY (show (0:Int)<=p by omega) (show (p:Int)<(t.2.1.getD i bh).2.1.length by omega),cond_true];unfold cv aH;simp only [Int.toNat_natCast];cases ((List.getD (List.getD t.2.1 i (0,([],()))).2.1 p 0) == -1)<;>rfl
theorem Rc {t:ac} (ht:TreeOK t) {i p:Nat} (hi:i<t.2.1.length) (hp:(p:Int)<t.1) {x:Int}:cv t p i x=true<->¬ (aH t i p >= 0/\x≠aH t i p):=by
 have:=(ht.treeP (place:=p) (by omega) hp).figs i hi;rw [iq];constructor
 . intro h h2;rcases h with h|h<;>omega
 . intro h
   by_cases e:aH t i p = -1
   . exact .inl e
   . exact .inr (Classical.byContradiction fun h2=>h ⟨by omega,fun h3=>h2 h3.symm⟩)
theorem Qg {t:ac} (ht:TreeOK t) (s:List (List Int)):∃ b,f32 (t,(s,())) = .ret b/\(b=true<->StoryOK t s):=by
 have hfb:=bK;have hc:=ht.copies;obtain ⟨P,hP,hP1,hP3⟩:=ht.pl;unfold f32 C7
 try delta ae
 by_cases h1:s.length=t.2.1.length
 rotate_left
 . simp only [nT (show (s.length:Int)≠t.2.1.length by omega)];exact ⟨false,rfl,⟨fun h=>(by cases h),fun h=>absurd h.len h1⟩⟩
 simp only [nF (show (s.length:Int)=t.2.1.length by omega)];have key:=mb (L:=fun n i=>L32_0 fuel n (t,(s,())) i) (len:=s.length) (K:=.ret true) (RowOK t s) (fun n i hi=>?_) (fun n=>?_) s.length fuel 0 (by omega) (by omega)
 . rcases key with ⟨k1,k2⟩|⟨k1,k2⟩
   . exact ⟨true,k2,⟨fun _=>⟨h1,fun i hi=>k1 i (Nat.zero_le _) hi⟩,fun _=>rfl⟩⟩
   . exact ⟨false,k2,⟨fun h=>(by cases h),fun h=>absurd (fun j _ hj=>h.row j hj) k1⟩⟩
 . try dsimp only
   rw [L32_0_succ]
   try delta ae
   simp only [dT (show (i:Int)<s.length by omega),aY (show (0:Int)<=i by omega) (show (i:Int)<s.length by omega),cond_true,Int.toNat_natCast]
   by_cases g:((s.getD i []).length:Int)=t.1
   rotate_left
   . simp only [nT g];exact .inr ⟨fun h=>g h.len,trivial⟩
   simp only [nF g];have hl:((t.2.1.getD i bh).2.1.length:Int)=t.1:=(ht.node i (by omega)).len;have inner:=mb (L:=fun n1 p=>L32_1 fuel n n1 (t,(s,())) i p) (len:=(s.getD i []).length) (K:=L32_0 fuel n (t,(s,())) ((i+1:Nat):Int)) (xh t s i) (fun n1 p hp=>?_) (fun n1=>?_) (s.getD i []).length fuel 0 (by omega) (by omega)
   . rcases inner with ⟨k1,k2⟩|⟨k1,k2⟩
     . exact .inl ⟨⟨g,fun p hp=>k1 p (Nat.zero_le _) hp⟩,k2⟩
     . exact .inr ⟨fun h=>k1 fun p _ hp=>h.cell p hp,k2⟩
   . try dsimp only
     rw [L32_1_succ]
     try delta ae
     have hf:=Rc ht (i:=i) (p:=p) (by omega) (by omega) (x:=dX s i p);have es:aH t i p=(t.2.1.getD i bh).2.1.getD p 0:=uD t i p;rw [es] at hf;simp only [dT (show (p:Int)<t.1 by omega),aY (show (0:Int)<=i by omega) (show (i:Int)<s.length by omega),aY (show (0:Int)<=i by omega) (show (i:Int)<t.2.1.length by omega),Int.toNat_natCast,aY (show (0:Int)<=p by omega) (show (p:Int)<(s.getD i []).length by omega),aY (show (0:Int)<=p by omega) (show (p:Int)<(t.2.1.getD i bh).2.1.length by omega),cond_true,i46,wn (show p<1000000000 by omega)]
     by_cases q:0<=dX s i p/\dX s i p<=9
     rotate_left
     . have q':¬ (0<=(s.getD i []).getD p 0/\(s.getD i []).getD p 0<=9):=q;simp only [dF q',Bool.not_false];exact .inr ⟨fun h=>q h.1,trivial⟩
     have q':0<=(s.getD i []).getD p 0/\(s.getD i []).getD p 0<=9:=q;simp only [dT q',Bool.not_true]
     by_cases q1:(t.2.1.getD i bh).2.1.getD p 0 >= 0
     . simp only [dT q1]
       by_cases q2:(s.getD i []).getD p 0=(t.2.1.getD i bh).2.1.getD p 0
       . simp only [nF q2];exact .inl ⟨⟨q,hf.2 fun h=>h.2 q2⟩,trivial⟩
       . simp only [nT q2];exact .inr ⟨fun h=>hf.1 h.2 ⟨q1,q2⟩,trivial⟩
     . simp only [dF q1];exact .inl ⟨⟨q,hf.2 fun h=>q1 h.1⟩,trivial⟩
   . try dsimp only
     rw [L32_1_succ]
     try delta ae
     simp only [dF (show ¬ ((((s.getD i []).length:Nat):Int)<t.1) by omega),wn (show i<1000000000 by omega)]
 . try dsimp only
   rw [L32_0_succ]
   try delta ae
   simp only [dF (show ¬ ((s.length:Nat):Int)<s.length by omega)]
theorem Qt {t:ac} (ht:TreeOK t) (s:List (List Int)):∃ b,im (t,(s,())) = .ret b/\(b=true<->StoryOK t s):=by
 have hfb:=bK;have hc:=ht.copies;obtain ⟨P,hP,hP1,hP3⟩:=ht.pl;unfold im wR
 try delta ae
 by_cases h1:s.length=t.2.1.length
 rotate_left
 . simp only [nT (show (s.length:Int)≠t.2.1.length by omega)];exact ⟨false,rfl,⟨fun h=>(by cases h),fun h=>absurd h.len h1⟩⟩
 simp only [nF (show (s.length:Int)=t.2.1.length by omega)];have key:=mb (L:=fun n i=>L68_0 fuel n (t,(s,())) i) (len:=s.length) (K:=.ret true) (RowOK t s) (fun n i hi=>?_) (fun n=>?_) s.length fuel 0 (by omega) (by omega)
 . rcases key with ⟨k1,k2⟩|⟨k1,k2⟩
   . exact ⟨true,k2,⟨fun _=>⟨h1,fun i hi=>k1 i (Nat.zero_le _) hi⟩,fun _=>rfl⟩⟩
   . exact ⟨false,k2,⟨fun h=>(by cases h),fun h=>absurd (fun j _ hj=>h.row j hj) k1⟩⟩
 . try dsimp only
   rw [L68_0_succ]
   try delta ae
   simp only [dT (show (i:Int)<s.length by omega),aY (show (0:Int)<=i by omega) (show (i:Int)<s.length by omega),cond_true,Int.toNat_natCast]
   by_cases g:((s.getD i []).length:Int)=t.1
   rotate_left
   . simp only [nT g];exact .inr ⟨fun h=>g h.len,trivial⟩
   simp only [nF g];have inner:=mb (L:=fun n1 p=>L68_1 fuel n n1 (t,(s,())) i p) (len:=(s.getD i []).length) (K:=L68_0 fuel n (t,(s,())) ((i+1:Nat):Int)) (xh t s i) (fun n1 p hp=>?_) (fun n1=>?_) (s.getD i []).length fuel 0 (by omega) (by omega)
   . rcases inner with ⟨k1,k2⟩|⟨k1,k2⟩
     . exact .inl ⟨⟨g,fun p hp=>k1 p (Nat.zero_le _) hp⟩,k2⟩
     . exact .inr ⟨fun h=>k1 fun p _ hp=>h.cell p hp,k2⟩
   . try dsimp only
     rw [L68_1_succ]
     try delta ae
     simp only [Int.toNat_natCast,dT (show (p:Int)<(s.getD i []).length by omega),aY (show (0:Int)<=p by omega) (show (p:Int)<(s.getD i []).length by omega),cond_true,zu,wn (show p<1000000000 by omega),ES ht (i:=i) (p:=p) (show i<t.2.1.length by omega) (show (p:Int)<t.1 by omega)]
     by_cases q:0<=dX s i p/\dX s i p<=9
     rotate_left
     . have q':¬ (0<=(s.getD i []).getD p 0/\(s.getD i []).getD p 0<=9):=q;simp only [dF q',Bool.not_false];exact .inr ⟨fun h=>q h.1,trivial⟩
     have q':0<=(s.getD i []).getD p 0/\(s.getD i []).getD p 0<=9:=q;simp only [dT q',Bool.not_true];cases q1:cv t p i (dX s i p) with
     | true =>
      have q1':cv t p i ((s.getD i []).getD p 0)=true:=q1;simp only [q1',Bool.not_true];exact .inl ⟨⟨q,q1⟩,trivial⟩
     | false =>
      have q1':cv t p i ((s.getD i []).getD p 0)=false:=q1;simp only [q1',Bool.not_false];exact .inr ⟨fun h=>(by rw [h.2] at q1;cases q1),trivial⟩
   . try dsimp only
     rw [L68_1_succ]
     try delta ae
     simp only [Int.toNat_natCast,dF (show ¬ ((((s.getD i []).length:Nat):Int)<(s.getD i []).length) by omega),wn (show i<1000000000 by omega)]
 . try dsimp only
   rw [L68_0_succ]
   try delta ae
   simp only [dF (show ¬ ((s.length:Nat):Int)<s.length by omega)]
theorem Jn {t:ac} (ht:TreeOK t) (s:List (List Int)):(StoryOK t s/\f32 (t,(s,())) = .ret true/\im (t,(s,())) = .ret true)\/(¬ StoryOK t s/\f32 (t,(s,())) = .ret false/\im (t,(s,())) = .ret false):=by
 obtain ⟨b,h1,h2⟩:=Qg ht s;obtain ⟨c,h3,h4⟩:=Qt ht s
 by_cases h:StoryOK t s
 . obtain rfl:=h2.2 h;obtain rfl:=h4.2 h;exact .inl ⟨h,h1,h3⟩
 . have eb:b=false:=by
    cases b with
    | false=>rfl
    | true=>exact absurd (h2.1 rfl) h
   have ec:c=false:=by
    cases c with
    | false=>rfl
    | true=>exact absurd (h4.1 rfl) h
   subst eb ec;exact .inr ⟨h,h1,h3⟩
abbrev v6:=Int×(Int×Unit)
def tS (t:ac) (s:List (List Int)) (i p:Nat):Bool:=decide (0<i) && decide (dX s i p≠dX s (aZ t i) p)
def jc (t:ac) (s:List (List Int)) (i p:Nat):List v6:=if tS t s i p then [((i:Int),((p:Int),()))] else []
def gk (t:ac) (s:List (List Int)) (n i:Nat):List v6:=(List.range n).flatMap (jc t s i)
def yt (t:ac) (s:List (List Int)):List v6:=(List.range t.2.1.length).flatMap (gk t s t.1.toNat)
theorem pR {β:Type} (n:Nat) (f:Nat->List β):(List.range (n+1)).flatMap f=(List.range n).flatMap f++f n:=by
 rw [List.range_succ,List.flatMap_append];simp
theorem pS {β:Type} {f:Nat->List β} {B:Nat}:∀ {n:Nat},(∀ i,i<n->(f i).length<=B)->((List.range n).flatMap f).length<=n * B
 | 0,_=>by simp
 | n+1,h=>by
  rw [pR,List.length_append];have:=pS (n:=n) fun i hi=>h i (by omega)
  have:=h n (by omega);have e:(n+1) * B=n * B+B:=Nat.succ_mul n B;omega
theorem ED (t:ac) (s:List (List Int)) (n i:Nat):(gk t s n i).length<=n * 1:=pS fun p _=>by unfold jc;split<;>simp
theorem Qh {t:ac} {s:List (List Int)} (ht:TreeOK t) (hs:StoryOK t s):kR (t,(s,())) = .ret (yt t s,(0,())):=by
 have hfb:=bK;have hc:=ht.copies;have hsl:=hs.len;obtain ⟨P,hP,hP1,hP3⟩:=ht.pl;have hPt:t.1.toNat=P:=by omega
 have pi:im (t,(s,())) = .ret true:=by
  rcases Jn ht s with ⟨_,_,h⟩|⟨h,_⟩
  . exact h
  . exact absurd hs h
 unfold kR wC;simp only [ht.t55,pi,Bool.not_true];have key:=dQ (L:=fun n i=>L33_0 fuel n (t,(s,())) ((List.range i).flatMap (gk t s P)) i) (len:=s.length) (K:=.ret (yt t s,(0,()))) (fun n i hi=>?_) (fun n=>?_) s.length fuel 0 (by omega) (by omega)
 . exact key
 . try dsimp only
   rw [L33_0_succ]
   try delta ae
   simp only [dT (show (i:Int)<s.length by omega),aY (show (0:Int)<=i by omega) (show (i:Int)<s.length by omega),cond_true];have hrow:=(hs.row i hi).len;have hout:((List.range i).flatMap (gk t s P)).length<=i * (P * 1):=pS fun j _=>ED t s P j
   have hb:i * (P * 1)<=8 * (3 * 1):=Nat.mul_le_mul (by omega) (Nat.mul_le_mul hP3 (Nat.le_refl 1));have inner:=dQ (L:=fun n1 p=>L33_1 fuel n n1 (t,(s,())) i ((List.range i).flatMap (gk t s P)++gk t s p i) p) (len:=P) (K:=L33_0 fuel n (t,(s,())) ((List.range (i+1)).flatMap (gk t s P)) ((i+1:Nat):Int)) (fun n1 p hp=>?_) (fun n1=>?_) P fuel 0 (by omega) (by omega)
   . refine Eq.trans ?_ inner;show L33_1 fuel n fuel (t,(s,())) i _ 0=L33_1 fuel n fuel (t,(s,())) i _ ((0:Nat):Int);rw [show gk t s 0 i=[] from rfl,List.append_nil];rfl
   . try dsimp only
     rw [L33_1_succ]
     try delta ae
     have hel:=ED t s p i;have e1:gk t s (p+1) i=gk t s p i++jc t s i p:=pR _ _;simp only [Int.toNat_natCast,dT (show (p:Int)<(s.getD i []).length by omega),aY (show (0:Int)<=p by omega) (show (p:Int)<(s.getD i []).length by omega),cond_true,wn (show p<1000000000 by omega)];rw [e1]
     by_cases q:0<i
     rotate_left
     . simp only [dF (show ¬ (i:Int) > 0 by omega)];rw [show jc t s i p=[] by unfold jc tS;rw [dF q];rfl,List.append_nil]
     have hp0:0<=(t.2.1.getD i bh).1/\(t.2.1.getD i bh).1<i:=ht.par i q (by omega);have ep:((t.2.1.getD i bh).1).toNat=aZ t i:=rfl;have hrow2:=(hs.row (aZ t i) (by rw [<- ep];omega)).len;simp only [dT (show (i:Int) > 0 by omega),aY (show (0:Int)<=i by omega) (show (i:Int)<t.2.1.length by omega),aY hp0.1 (show (t.2.1.getD i bh).1<s.length by omega),ep,aY (show (0:Int)<=p by omega) (show (p:Int)<(s.getD (aZ t i) []).length by omega),cond_true]
     by_cases q1:(s.getD i []).getD p 0=(s.getD (aZ t i) []).getD p 0
     . simp only [nF q1];rw [show jc t s i p=[] by unfold jc tS;rw [dF (show ¬ dX s i p≠dX s (aZ t i) p from fun h=>h q1),Bool.and_false];rfl,List.append_nil]
     . have ec:jc t s i p=[((i:Int),((p:Int),()))]:=by unfold jc tS;rw [dT q,dT (show dX s i p≠dX s (aZ t i) p from q1)];rfl
       simp only [nT q1,kX (xs:=(List.range i).flatMap (gk t s P)++gk t s p i) (ys:=[((i:Int),((p:Int),()))]) (by rw [List.length_append];simp only [List.length_cons,List.length_nil];omega),cond_true];rw [ec,<- List.append_assoc]
   . try dsimp only
     rw [L33_1_succ]
     try delta ae
     simp only [Int.toNat_natCast,dF (show ¬ ((P:Nat):Int)<(s.getD i []).length by omega),wn (show i<1000000000 by omega)];rw [pR]
 . try dsimp only
   rw [L33_0_succ]
   try delta ae
   simp only [dF (show ¬ ((s.length:Nat):Int)<s.length by omega)];unfold yt;rw [hPt,hsl]
def kU (t:ac) (k:Nat):Int:=bg k fun p=>gN t p
def tD (t:ac):Int:=kU t t.1.toNat
theorem Fs {t:ac} (ht:TreeOK t):∀ k:Nat,(k:Int)<=t.1->0<=kU t k/\kU t k<=8 * k
 | 0,_=>⟨Int.le_refl 0,Int.le_refl 0⟩
 | k+1,h=>by
  have h1:=Fs ht k (by omega);have h2:=yu (ht.treeP (place:=k) (by omega) (by omega));have e:kU t (k+1)=kU t k+gN t k:=rfl;omega
theorem Qc {t:ac} (ht:TreeOK t):f24 (t,()) = .ret (tD t,(0,())):=by
 have hfb:=bK;obtain ⟨P,hP,hP1,hP3⟩:=ht.pl;unfold f24 wx;simp only [ht.t55,Bool.not_true];have key:=dQ (L:=fun n p=>L24_0 fuel n (t,()) (kU t p) p) (len:=P) (K:=.ret ((),(tD t,((0:Int),())))) (fun n p hp=>?_) (fun n=>?_) P fuel 0 (by omega) (by omega)
 . rw [show L24_0 fuel fuel (t,()) 0 0=_ from key];rfl
 . try dsimp only
   rw [L24_0_succ];have hb:=Fs ht p (by omega);have hT:=ht.treeP (place:=p) (by omega) (by omega);have he:=yu hT;simp only [dT (show (p:Int)<t.1 by omega),Hu.2 hT.preE,cond_true,wn (show p<1000000000 by omega)];rw [wr (by omega) (by omega)];rfl
 . try dsimp only
   rw [L24_0_succ];simp only [dF (show ¬ ((P:Nat):Int)<t.1 by omega)];rw [show tD t=kU t P by unfold tD;rw [show t.1.toNat=P by omega]]
theorem B2 {t:ac} {place:Int} (h:TreeP t place) {l:List Int}:l∈aq t place<->Best t place l:=Jj h.ground
theorem V7 {t:ac} {place:Int} (h:TreeP t place):Best t place ((aq t place).getD 0 []):=by
 have hn:=rG h;refine (B2 h).1 ?_;cases e:aq t place with
 | nil=>exact absurd e hn
 | cons x l=>simp
def di (t:ac) (but:Int):Nat->Int
 | 0=>1
 | k+1=>if (k:Int)=but then di t but k else di t but k * (aq t k).length
def jb (t:ac) (but:Int):Int:=di t but t.1.toNat
theorem El {t:ac} (ht:TreeOK t) (but:Int):∀ k:Nat,(k:Int)<=t.1->1<=di t but k/\di t but k<=(256:Int) ^ k
 | 0,_=>⟨Int.le_refl 1,Int.le_refl 1⟩
 | k+1,h=>by
  obtain ⟨h1,h2⟩:=El ht but k (by omega);have hT:=ht.treeP (place:=k) (by omega) (by omega);have h3:=og hT;have h4:0<(aq t k).length:=List.length_pos_iff.2 (rG hT);have e:(256:Int) ^ (k+1)=256 ^ k * 256:=Int.pow_succ 256 k;rw [e];have h5:(1:Int)<=256 ^ k:=by omega
  unfold di;split
  . exact ⟨h1,by omega⟩
  . have h6:di t but k * ((aq t k).length:Int)<=256 ^ k * 256:=Int.mul_le_mul h2 (by omega) (by omega) (by omega);have h7:(1:Int) * 1<=di t but k * ((aq t k).length:Int):=Int.mul_le_mul h1 (by omega) (by omega) (by omega);omega
theorem Em {t:ac} (ht:TreeOK t) (but:Int) {k:Nat} (h:(k:Int)<=t.1):1<=di t but k/\di t but k<=16777216:=by
 have h1:=El ht but k h;have hp:=ht.places;have h2:(256:Int) ^ k<=16777216:=by
  have:k=0\/k=1\/k=2\/k=3:=by omega
  rcases this with rfl|rfl|rfl|rfl<;>decide
 omega
theorem Nc {t:ac} (ht:TreeOK t) (but:Int) {k:Nat} (h:(k:Int)<t.1):1<=di t but k * (aq t k).length/\di t but k * (aq t k).length<=4294967296:=by
 have h1:=Em ht but (k:=k) (by omega);have hT:=ht.treeP (place:=k) (by omega) (by omega);have h3:=og hT;have h4:0<(aq t k).length:=List.length_pos_iff.2 (rG hT);have h6:di t but k * ((aq t k).length:Int)<=16777216 * 256:=Int.mul_le_mul h1.2 (by omega) (by omega) (by omega);have h7:(1:Int) * 1<=di t but k * ((aq t k).length:Int):=Int.mul_le_mul h1.1 (by omega) (by omega) (by omega);omega
theorem Fg {t:ac} (ht:TreeOK t) (but:Int):f65 (t,(but,())) = .ret (jb t but):=by
 have hfb:=bK;obtain ⟨P,hP,hP1,hP3⟩:=ht.pl;unfold f65 wQ;have key:=dQ (L:=fun n p=>L65_0 fuel n (t,(but,())) (di t but p) p) (len:=P) (K:=.ret ((),jb t but)) (fun n p hp=>?_) (fun n=>?_) P fuel 0 (by omega) (by omega)
 . rw [show L65_0 fuel fuel (t,(but,())) 1 0=_ from key];rfl
 . try dsimp only
   rw [L65_0_succ]
   try delta ae
   have hT:=ht.treeP (place:=p) (by omega) (by omega);have hs:=Nc ht but (k:=p) (by omega);simp only [dT (show (p:Int)<t.1 by omega),wn (show p<1000000000 by omega)]
   by_cases e:(p:Int)=but
   . simp only [nF e];rw [show di t but (p+1)=di t but p by rw [di,if_pos e]]
   . simp only [nT e,nH.2 hT.preS,cond_true];rw [show di t but (p+1)=di t but p * (aq t p).length by rw [di,if_neg e],wr (by omega) (by omega)]
 . try dsimp only
   rw [L65_0_succ];simp only [dF (show ¬ ((P:Nat):Int)<t.1 by omega)];rw [show jb t but=di t but P by unfold jb;rw [show t.1.toNat=P by omega]]
theorem Qe {t:ac} (ht:TreeOK t):kP (t,()) = .ret (jb t (-1),(0,())):=by
 unfold kP wA;simp only [ht.t55,Bool.not_true,Fg ht]
def tE (t:ac) (p i:Nat):Int:=((aq t p).getD 0 []).getD i 0
def gO (t:ac) (p i:Nat):List Int:=(List.range p).map fun q=>tE t q i
def cP (t:ac) (p i:Nat):List (List Int):=(List.range t.2.1.length).map fun r=>gO t (if r<i then p+1 else p) r
def tG (t:ac):List (List Int):=(List.range t.2.1.length).map (gO t t.1.toNat)
theorem Q' (t:ac) (p i:Nat):gO t (p+1) i=gO t p i++[tE t p i]:=by
 unfold gO;rw [List.range_succ,List.map_append];rfl
theorem nM {α:Type} {z:α} {f:Nat->α} {n i:Nat} (h:i<n):((List.range n).map f).getD i z=f i:=by
 rw [List.getD_eq_getElem?_getD,List.getElem?_map,List.getElem?_range h];rfl
theorem Q7 (t:ac) {p i:Nat} (hi:i<t.2.1.length):(cP t p i).set i ((cP t p i).getD i []++[tE t p i])=cP t p (i+1):=by
 have hl:(cP t p i).length=t.2.1.length:=by unfold cP;simp
 have hg:(cP t p i).getD i []=gO t p i:=by unfold cP;rw [nM hi,if_neg (by omega)]
 apply mM []
 . rw [List.length_set,hl];unfold cP;simp
 . intro r hr;rw [List.length_set,hl] at hr;rw [yN,hg,hl];have e2:(cP t p (i+1)).getD r []=gO t (if r<i+1 then p+1 else p) r:=by unfold cP;rw [nM hr]
   have e3:(cP t p i).getD r []=gO t (if r<i then p+1 else p) r:=by unfold cP;rw [nM hr]
   rw [e2,e3]
   by_cases e:r=i
   . subst e;rw [if_pos ⟨rfl,hi⟩,if_pos (by omega),Q']
   . rw [if_neg (fun h=>e h.1)]
     by_cases e4:r<i
     . rw [if_pos e4,if_pos (by omega)]
     . rw [if_neg e4,if_neg (by omega)]
theorem Q6 (t:ac) (p:Nat):cP t p t.2.1.length=cP t (p+1) 0:=by
 unfold cP;apply List.map_congr_left;intro r hr;rw [List.mem_range] at hr;rw [if_pos hr,if_neg (by omega)]
theorem Q8 (t:ac):cP t 0 0=List.replicate t.2.1.length []:=by
 unfold cP;refine Eq.trans (List.map_congr_left (g:=fun _=>([]:List Int)) fun r _=>by rw [if_neg (by omega)];rfl) ?_;rw [List.map_const',List.length_range]
theorem Qd {t:ac} (ht:TreeOK t):f25 (t,()) = .ret (tG t,(0,())):=by
 have hfb:=bK;have hc:=ht.copies;obtain ⟨P,hP,hP1,hP3⟩:=ht.pl;unfold f25 wy
 try delta ae
 simp only [ht.t55,Bool.not_true,Ik.2 (show (0:Int)<=t.2.1.length/\(t.2.1.length:Int)<1000000 by omega),cond_true,Int.toNat_natCast];rw [iZ (r:=.ret ((none:SN),(tG t,((0:Int),())))) fun v=>?_]
 . rfl
 have key:=dQ (L:=fun n p=>L25_0 fuel n v (t,()) t.1 t.2.1 p (cP t p 0)) (len:=P) (K:=.ret ((none:SN),(tG t,((0:Int),())))) (fun n p hp=>?_) (fun n=>?_) P fuel 0 (by omega) (by omega)
 . rw [<- Q8];exact key
 . try dsimp only
   rw [L25_0_succ];have hT:=ht.treeP (place:=p) (by omega) (by omega);have h0:=(V7 hT).vc.len;have hn:0<(aq t p).length:=List.length_pos_iff.2 (rG hT);have et:((t.1,(t.2.1,())):ac)=t:=rfl;simp only [dT (show (p:Int)<t.1 by omega),et,nH.2 hT.preS,aY (show (0:Int)<=0 by omega) (show (0:Int)<(aq t p).length by omega),cond_true];have inner:=dQ (L:=fun n1 i=>L25_1 fuel n n1 v (t,()) p t.1 t.2.1 t.1 t.2.1 i (cP t p i)) (len:=t.2.1.length) (K:=L25_0 fuel n v (t,()) t.1 t.2.1 ((p+1:Nat):Int) (cP t (p+1) 0)) (fun n1 i hi=>?_) (fun n1=>?_) t.2.1.length fuel 0 (by omega) (by omega)
   . exact inner
   . try dsimp only
     rw [L25_1_succ]
     try delta ae
     have hl:(cP t p i).length=t.2.1.length:=by unfold cP;simp
     have hg:(cP t p i).getD i []=gO t p i:=by unfold cP;rw [nM hi,if_neg (by omega)]
     have hgl:(gO t p i).length=p:=by unfold gO;simp
     simp only [et,show (0:Int).toNat=0 from rfl,dT (show (i:Int)<((aq t p).getD 0 []).length by omega),aY (show (0:Int)<=i by omega) (show (i:Int)<((aq t p).getD 0 []).length by omega),cond_true,FI (v:=v) (xss:=cP t p i) (i:=i) ⟨by omega,by omega⟩ (by rw [Int.toNat_natCast,hg,hgl];omega),Int.toNat_natCast,wn (show i<1000000000 by omega)];rw [show ((aq t p).getD 0 []).getD i 0=tE t p i from rfl,Q7 t hi]
   . try dsimp only
     rw [L25_1_succ]
     try delta ae
     simp only [et,show (0:Int).toNat=0 from rfl,dF (show ¬ ((t.2.1.length:Nat):Int)<((aq t p).getD 0 []).length by omega),wn (show p<1000000000 by omega)];rw [Q6]
 . try dsimp only
   rw [L25_0_succ];simp only [dF (show ¬ ((P:Nat):Int)<t.1 by omega),fV,cond_true]
   congr 3
   unfold cP tG;apply List.map_congr_left;intro r hr;rw [if_neg (by omega),show t.1.toNat=P by omega]
end Go.V
end
