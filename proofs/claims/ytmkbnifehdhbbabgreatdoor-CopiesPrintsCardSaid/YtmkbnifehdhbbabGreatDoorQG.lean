/- A part of the proof of a law of the copies. -/
import Derived.Test.YtmkbnifehdhbbabGreatDoorQF
import Derived.Test.YtmkbnifehdhbbabGreatDoorCW
import Derived.Test.YtmkbnifehdhbbabGreatDoorCX
set_option linter.all false
noncomputable section
namespace Go.V
open Go.Proofs
theorem tree_ret {t:TREE}:(TreeOK t/\f17 (t,()) = .ret true/\f55 (t,()) = .ret true)\/(¬ TreeOK t/\f17 (t,()) = .ret false/\f55 (t,()) = .ret false):=by
 obtain ⟨b,h1,h2,h3⟩:=tree_at t;cases b with
 | true=>exact .inl ⟨h3.1 rfl,h1,h2⟩
 | false=>exact .inr ⟨fun h=>(by have:=h3.2 h;cases this),h1,h2⟩
theorem TreeOK.t55 {t:TREE} (h:TreeOK t):f55 (t,()) = .ret true:=by
 rcases tree_ret (t:=t) with ⟨_,_,h1⟩|⟨h1,_⟩
 . exact h1
 . exact absurd h h1
theorem TreeOK.pl {t:TREE} (h:TreeOK t):∃ p:Nat,t.1=p/\1<=p/\p<=3:=⟨t.1.toNat,by have:=h.places;omega,by have:=h.places;omega,by have:=h.places;omega⟩
def cellAt (s:List (List Int)) (i p:Nat):Int:=(s.getD i []).getD p 0
def FigOK (t:TREE) (s:List (List Int)) (i p:Nat):Prop:=(0<=cellAt s i p/\cellAt s i p<=9)/\fitsV t p i (cellAt s i p)=true
structure RowOK (t:TREE) (s:List (List Int)) (i:Nat):Prop where
 len:((s.getD i []).length:Int)=t.1
 cell:∀ p,p<(s.getD i []).length->FigOK t s i p
structure StoryOK (t:TREE) (s:List (List Int)):Prop where
 len:s.length=t.2.1.length
 row:∀ i,i<s.length->RowOK t s i
theorem f106_at {t:TREE} (ht:TreeOK t) {i p:Nat} (hi:i<t.2.1.length) (hp:(p:Int)<t.1) (x:Int):f106 (t,((i:Int),((p:Int),(x,())))) = .ret (fitsV t p i x):=by
 have hl:((t.2.1.getD i NODE0).2.1.length:Int)=t.1:=(ht.node i hi).len;unfold f106 F106;simp only [inbT (show (0:Int)<=i by omega) (show (i:Int)<t.2.1.length by omega),Int.toNat_natCast,inbT (show (0:Int)<=p by omega) (show (p:Int)<(t.2.1.getD i NODE0).2.1.length by omega),cond_true]
 unfold fitsV seenAt;simp only [Int.toNat_natCast];cases ((List.getD (List.getD t.2.1 i (0,([],()))).2.1 p 0) == -1)<;>rfl
theorem fits_no {t:TREE} (ht:TreeOK t) {i p:Nat} (hi:i<t.2.1.length) (hp:(p:Int)<t.1) {x:Int}:fitsV t p i x=true<->¬ (seenAt t i p >= 0/\x≠seenAt t i p):=by
 have:=(ht.treeP (place:=p) (by omega) hp).figs i hi;rw [fitsV_iff];constructor
 . intro h h2;rcases h with h|h<;>omega
 . intro h
   by_cases e:seenAt t i p = -1
   . exact .inl e
   . exact .inr (Classical.byContradiction fun h2=>h ⟨by omega,fun h3=>h2 h3.symm⟩)
theorem f32_at {t:TREE} (ht:TreeOK t) (s:List (List Int)):∃ b,f32 (t,(s,())) = .ret b/\(b=true<->StoryOK t s):=by
 have hfb:=fuel_big;have hc:=ht.copies;obtain ⟨P,hP,hP1,hP3⟩:=ht.pl;unfold f32 F32
 try delta lenI
 by_cases h1:s.length=t.2.1.length
 rotate_left
 . simp only [nT (show (s.length:Int)≠t.2.1.length by omega)];exact ⟨false,rfl,⟨fun h=>(by cases h),fun h=>absurd h.len h1⟩⟩
 simp only [nF (show (s.length:Int)=t.2.1.length by omega)];have key:=stepLoop (L:=fun n i=>L32_0 fuel n (t,(s,())) i) (len:=s.length) (K:=.ret true) (RowOK t s) (fun n i hi=>?_) (fun n=>?_) s.length fuel 0 (by omega) (by omega)
 . rcases key with ⟨k1,k2⟩|⟨k1,k2⟩
   . exact ⟨true,k2,⟨fun _=>⟨h1,fun i hi=>k1 i (Nat.zero_le _) hi⟩,fun _=>rfl⟩⟩
   . exact ⟨false,k2,⟨fun h=>(by cases h),fun h=>absurd (fun j _ hj=>h.row j hj) k1⟩⟩
 . try dsimp only
   rw [L32_0_succ]
   try delta lenI
   simp only [dT (show (i:Int)<s.length by omega),inbT (show (0:Int)<=i by omega) (show (i:Int)<s.length by omega),cond_true,Int.toNat_natCast]
   by_cases g:((s.getD i []).length:Int)=t.1
   rotate_left
   . simp only [nT g];exact .inr ⟨fun h=>g h.len,trivial⟩
   simp only [nF g];have hl:((t.2.1.getD i NODE0).2.1.length:Int)=t.1:=(ht.node i (by omega)).len;have inner:=stepLoop (L:=fun n1 p=>L32_1 fuel n n1 (t,(s,())) i p) (len:=(s.getD i []).length) (K:=L32_0 fuel n (t,(s,())) ((i+1:Nat):Int)) (FigOK t s i) (fun n1 p hp=>?_) (fun n1=>?_) (s.getD i []).length fuel 0 (by omega) (by omega)
   . rcases inner with ⟨k1,k2⟩|⟨k1,k2⟩
     . exact .inl ⟨⟨g,fun p hp=>k1 p (Nat.zero_le _) hp⟩,k2⟩
     . exact .inr ⟨fun h=>k1 fun p _ hp=>h.cell p hp,k2⟩
   . try dsimp only
     rw [L32_1_succ]
     try delta lenI
     have hf:=fits_no ht (i:=i) (p:=p) (by omega) (by omega) (x:=cellAt s i p);have es:seenAt t i p=(t.2.1.getD i NODE0).2.1.getD p 0:=seenAt_node t i p;rw [es] at hf;simp only [dT (show (p:Int)<t.1 by omega),inbT (show (0:Int)<=i by omega) (show (i:Int)<s.length by omega),inbT (show (0:Int)<=i by omega) (show (i:Int)<t.2.1.length by omega),Int.toNat_natCast,inbT (show (0:Int)<=p by omega) (show (p:Int)<(s.getD i []).length by omega),inbT (show (0:Int)<=p by omega) (show (p:Int)<(t.2.1.getD i NODE0).2.1.length by omega),cond_true,i46,wn (show p<1000000000 by omega)]
     by_cases q:0<=cellAt s i p/\cellAt s i p<=9
     rotate_left
     . have q':¬ (0<=(s.getD i []).getD p 0/\(s.getD i []).getD p 0<=9):=q;simp only [dF q',Bool.not_false];exact .inr ⟨fun h=>q h.1,trivial⟩
     have q':0<=(s.getD i []).getD p 0/\(s.getD i []).getD p 0<=9:=q;simp only [dT q',Bool.not_true]
     by_cases q1:(t.2.1.getD i NODE0).2.1.getD p 0 >= 0
     . simp only [dT q1]
       by_cases q2:(s.getD i []).getD p 0=(t.2.1.getD i NODE0).2.1.getD p 0
       . simp only [nF q2];exact .inl ⟨⟨q,hf.2 fun h=>h.2 q2⟩,trivial⟩
       . simp only [nT q2];exact .inr ⟨fun h=>hf.1 h.2 ⟨q1,q2⟩,trivial⟩
     . simp only [dF q1];exact .inl ⟨⟨q,hf.2 fun h=>q1 h.1⟩,trivial⟩
   . try dsimp only
     rw [L32_1_succ]
     try delta lenI
     simp only [dF (show ¬ ((((s.getD i []).length:Nat):Int)<t.1) by omega),wn (show i<1000000000 by omega)]
 . try dsimp only
   rw [L32_0_succ]
   try delta lenI
   simp only [dF (show ¬ ((s.length:Nat):Int)<s.length by omega)]
theorem f68_at {t:TREE} (ht:TreeOK t) (s:List (List Int)):∃ b,f68 (t,(s,())) = .ret b/\(b=true<->StoryOK t s):=by
 have hfb:=fuel_big;have hc:=ht.copies;obtain ⟨P,hP,hP1,hP3⟩:=ht.pl;unfold f68 F68
 try delta lenI
 by_cases h1:s.length=t.2.1.length
 rotate_left
 . simp only [nT (show (s.length:Int)≠t.2.1.length by omega)];exact ⟨false,rfl,⟨fun h=>(by cases h),fun h=>absurd h.len h1⟩⟩
 simp only [nF (show (s.length:Int)=t.2.1.length by omega)];have key:=stepLoop (L:=fun n i=>L68_0 fuel n (t,(s,())) i) (len:=s.length) (K:=.ret true) (RowOK t s) (fun n i hi=>?_) (fun n=>?_) s.length fuel 0 (by omega) (by omega)
 . rcases key with ⟨k1,k2⟩|⟨k1,k2⟩
   . exact ⟨true,k2,⟨fun _=>⟨h1,fun i hi=>k1 i (Nat.zero_le _) hi⟩,fun _=>rfl⟩⟩
   . exact ⟨false,k2,⟨fun h=>(by cases h),fun h=>absurd (fun j _ hj=>h.row j hj) k1⟩⟩
 . try dsimp only
   rw [L68_0_succ]
   try delta lenI
   simp only [dT (show (i:Int)<s.length by omega),inbT (show (0:Int)<=i by omega) (show (i:Int)<s.length by omega),cond_true,Int.toNat_natCast]
   by_cases g:((s.getD i []).length:Int)=t.1
   rotate_left
   . simp only [nT g];exact .inr ⟨fun h=>g h.len,trivial⟩
   simp only [nF g];have inner:=stepLoop (L:=fun n1 p=>L68_1 fuel n n1 (t,(s,())) i p) (len:=(s.getD i []).length) (K:=L68_0 fuel n (t,(s,())) ((i+1:Nat):Int)) (FigOK t s i) (fun n1 p hp=>?_) (fun n1=>?_) (s.getD i []).length fuel 0 (by omega) (by omega)
   . rcases inner with ⟨k1,k2⟩|⟨k1,k2⟩
     . exact .inl ⟨⟨g,fun p hp=>k1 p (Nat.zero_le _) hp⟩,k2⟩
     . exact .inr ⟨fun h=>k1 fun p _ hp=>h.cell p hp,k2⟩
   . try dsimp only
     rw [L68_1_succ]
     try delta lenI
     simp only [Int.toNat_natCast,dT (show (p:Int)<(s.getD i []).length by omega),inbT (show (0:Int)<=p by omega) (show (p:Int)<(s.getD i []).length by omega),cond_true,i80,wn (show p<1000000000 by omega),f106_at ht (i:=i) (p:=p) (show i<t.2.1.length by omega) (show (p:Int)<t.1 by omega)]
     by_cases q:0<=cellAt s i p/\cellAt s i p<=9
     rotate_left
     . have q':¬ (0<=(s.getD i []).getD p 0/\(s.getD i []).getD p 0<=9):=q;simp only [dF q',Bool.not_false];exact .inr ⟨fun h=>q h.1,trivial⟩
     have q':0<=(s.getD i []).getD p 0/\(s.getD i []).getD p 0<=9:=q;simp only [dT q',Bool.not_true];cases q1:fitsV t p i (cellAt s i p) with
     | true =>
      have q1':fitsV t p i ((s.getD i []).getD p 0)=true:=q1;simp only [q1',Bool.not_true];exact .inl ⟨⟨q,q1⟩,trivial⟩
     | false =>
      have q1':fitsV t p i ((s.getD i []).getD p 0)=false:=q1;simp only [q1',Bool.not_false];exact .inr ⟨fun h=>(by rw [h.2] at q1;cases q1),trivial⟩
   . try dsimp only
     rw [L68_1_succ]
     try delta lenI
     simp only [Int.toNat_natCast,dF (show ¬ ((((s.getD i []).length:Nat):Int)<(s.getD i []).length) by omega),wn (show i<1000000000 by omega)]
 . try dsimp only
   rw [L68_0_succ]
   try delta lenI
   simp only [dF (show ¬ ((s.length:Nat):Int)<s.length by omega)]
theorem story_ret {t:TREE} (ht:TreeOK t) (s:List (List Int)):(StoryOK t s/\f32 (t,(s,())) = .ret true/\f68 (t,(s,())) = .ret true)\/(¬ StoryOK t s/\f32 (t,(s,())) = .ret false/\f68 (t,(s,())) = .ret false):=by
 obtain ⟨b,h1,h2⟩:=f32_at ht s;obtain ⟨c,h3,h4⟩:=f68_at ht s
 by_cases h:StoryOK t s
 . obtain rfl:=h2.2 h;obtain rfl:=h4.2 h;exact .inl ⟨h,h1,h3⟩
 . have eb:b=false:=by
    cases b with
    | false=>rfl
    | true=>exact absurd (h2.1 rfl) h
   have ec:c=false:=by
    cases c with
    | false=>rfl
    | true=>exact absurd (h4.1 rfl) h
   subst eb ec;exact .inr ⟨h,h1,h3⟩
abbrev ERR:=Int×(Int×Unit)
def isErr (t:TREE) (s:List (List Int)) (i p:Nat):Bool:=decide (0<i) && decide (cellAt s i p≠cellAt s (parN t i) p)
def errCell (t:TREE) (s:List (List Int)) (i p:Nat):List ERR:=if isErr t s i p then [((i:Int),((p:Int),()))] else []
def errRow (t:TREE) (s:List (List Int)) (n i:Nat):List ERR:=(List.range n).flatMap (errCell t s i)
def errList (t:TREE) (s:List (List Int)):List ERR:=(List.range t.2.1.length).flatMap (errRow t s t.1.toNat)
theorem flatMap_succ {β:Type} (n:Nat) (f:Nat->List β):(List.range (n+1)).flatMap f=(List.range n).flatMap f++f n:=by
 rw [List.range_succ,List.flatMap_append];simp
theorem flat_len {β:Type} {f:Nat->List β} {B:Nat}:∀ {n:Nat},(∀ i,i<n->(f i).length<=B)->((List.range n).flatMap f).length<=n * B
 | 0,_=>by simp
 | n+1,h=>by
  rw [flatMap_succ,List.length_append];have:=flat_len (n:=n) fun i hi=>h i (by omega)
  have:=h n (by omega);have e:(n+1) * B=n * B+B:=Nat.succ_mul n B;omega
theorem errRow_len (t:TREE) (s:List (List Int)) (n i:Nat):(errRow t s n i).length<=n * 1:=flat_len fun p _=>by unfold errCell;split<;>simp
theorem f33_at {t:TREE} {s:List (List Int)} (ht:TreeOK t) (hs:StoryOK t s):f33 (t,(s,())) = .ret (errList t s,(0,())):=by
 have hfb:=fuel_big;have hc:=ht.copies;have hsl:=hs.len;obtain ⟨P,hP,hP1,hP3⟩:=ht.pl;have hPt:t.1.toNat=P:=by omega
 have e68:f68 (t,(s,())) = .ret true:=by
  rcases story_ret ht s with ⟨_,_,h⟩|⟨h,_⟩
  . exact h
  . exact absurd hs h
 unfold f33 F33;simp only [ht.t55,e68,Bool.not_true];have key:=runL (L:=fun n i=>L33_0 fuel n (t,(s,())) ((List.range i).flatMap (errRow t s P)) i) (len:=s.length) (K:=.ret (errList t s,(0,()))) (fun n i hi=>?_) (fun n=>?_) s.length fuel 0 (by omega) (by omega)
 . exact key
 . try dsimp only
   rw [L33_0_succ]
   try delta lenI
   simp only [dT (show (i:Int)<s.length by omega),inbT (show (0:Int)<=i by omega) (show (i:Int)<s.length by omega),cond_true];have hrow:=(hs.row i hi).len;have hout:((List.range i).flatMap (errRow t s P)).length<=i * (P * 1):=flat_len fun j _=>errRow_len t s P j
   have hb:i * (P * 1)<=8 * (3 * 1):=Nat.mul_le_mul (by omega) (Nat.mul_le_mul hP3 (Nat.le_refl 1));have inner:=runL (L:=fun n1 p=>L33_1 fuel n n1 (t,(s,())) i ((List.range i).flatMap (errRow t s P)++errRow t s p i) p) (len:=P) (K:=L33_0 fuel n (t,(s,())) ((List.range (i+1)).flatMap (errRow t s P)) ((i+1:Nat):Int)) (fun n1 p hp=>?_) (fun n1=>?_) P fuel 0 (by omega) (by omega)
   . refine Eq.trans ?_ inner;show L33_1 fuel n fuel (t,(s,())) i _ 0=L33_1 fuel n fuel (t,(s,())) i _ ((0:Nat):Int);rw [show errRow t s 0 i=[] from rfl,List.append_nil];rfl
   . try dsimp only
     rw [L33_1_succ]
     try delta lenI
     have hel:=errRow_len t s p i;have e1:errRow t s (p+1) i=errRow t s p i++errCell t s i p:=flatMap_succ _ _;simp only [Int.toNat_natCast,dT (show (p:Int)<(s.getD i []).length by omega),inbT (show (0:Int)<=p by omega) (show (p:Int)<(s.getD i []).length by omega),cond_true,wn (show p<1000000000 by omega)]
     rw [e1]
     by_cases q:0<i
     rotate_left
     . simp only [dF (show ¬ (i:Int) > 0 by omega)];rw [show errCell t s i p=[] by unfold errCell isErr;rw [dF q];rfl,List.append_nil]
     have hp0:0<=(t.2.1.getD i NODE0).1/\(t.2.1.getD i NODE0).1<i:=ht.par i q (by omega);have ep:((t.2.1.getD i NODE0).1).toNat=parN t i:=rfl;have hrow2:=(hs.row (parN t i) (by rw [<- ep];omega)).len;simp only [dT (show (i:Int) > 0 by omega),inbT (show (0:Int)<=i by omega) (show (i:Int)<t.2.1.length by omega),inbT hp0.1 (show (t.2.1.getD i NODE0).1<s.length by omega),ep,inbT (show (0:Int)<=p by omega) (show (p:Int)<(s.getD (parN t i) []).length by omega),cond_true]
     by_cases q1:(s.getD i []).getD p 0=(s.getD (parN t i) []).getD p 0
     . simp only [nF q1];rw [show errCell t s i p=[] by unfold errCell isErr;rw [dF (show ¬ cellAt s i p≠cellAt s (parN t i) p from fun h=>h q1),Bool.and_false];rfl,List.append_nil]
     . have ec:errCell t s i p=[((i:Int),((p:Int),()))]:=by unfold errCell isErr;rw [dT q,dT (show cellAt s i p≠cellAt s (parN t i) p from q1)];rfl
       simp only [nT q1,fitsT (xs:=(List.range i).flatMap (errRow t s P)++errRow t s p i) (ys:=[((i:Int),((p:Int),()))]) (by rw [List.length_append];simp only [List.length_cons,List.length_nil];omega),cond_true];rw [ec,<- List.append_assoc]
   . try dsimp only
     rw [L33_1_succ]
     try delta lenI
     simp only [Int.toNat_natCast,dF (show ¬ ((P:Nat):Int)<(s.getD i []).length by omega),wn (show i<1000000000 by omega)];rw [flatMap_succ]
 . try dsimp only
   rw [L33_0_succ]
   try delta lenI
   simp only [dF (show ¬ ((s.length:Nat):Int)<s.length by omega)];unfold errList;rw [hPt,hsl]
def fewTo (t:TREE) (k:Nat):Int:=sumTo k fun p=>errsT t p
def fewT (t:TREE):Int:=fewTo t t.1.toNat
theorem fewTo_bd {t:TREE} (ht:TreeOK t):∀ k:Nat,(k:Int)<=t.1->0<=fewTo t k/\fewTo t k<=8 * k
 | 0,_=>⟨Int.le_refl 0,Int.le_refl 0⟩
 | k+1,h=>by
  have h1:=fewTo_bd ht k (by omega);have h2:=errs_bd (ht.treeP (place:=k) (by omega) (by omega));have e:fewTo t (k+1)=fewTo t k+errsT t k:=rfl;omega
theorem f24_at {t:TREE} (ht:TreeOK t):f24 (t,()) = .ret (fewT t,(0,())):=by
 have hfb:=fuel_big;obtain ⟨P,hP,hP1,hP3⟩:=ht.pl;unfold f24 F24;simp only [ht.t55,Bool.not_true];have key:=runL (L:=fun n p=>L24_0 fuel n (t,()) (fewTo t p) p) (len:=P) (K:=.ret ((),(fewT t,((0:Int),())))) (fun n p hp=>?_) (fun n=>?_) P fuel 0 (by omega) (by omega)
 . rw [show L24_0 fuel fuel (t,()) 0 0=_ from key];rfl
 . try dsimp only
   rw [L24_0_succ];have hb:=fewTo_bd ht p (by omega);have hT:=ht.treeP (place:=p) (by omega) (by omega);have he:=errs_bd hT;simp only [dT (show (p:Int)<t.1 by omega),preE_iff.2 hT.preE,cond_true,wn (show p<1000000000 by omega)]
   rw [wr (by omega) (by omega)];rfl
 . try dsimp only
   rw [L24_0_succ];simp only [dF (show ¬ ((P:Nat):Int)<t.1 by omega)];rw [show fewT t=fewTo t P by unfold fewT;rw [show t.1.toNat=P by omega]]
theorem stor_best {t:TREE} {place:Int} (h:TreeP t place) {l:List Int}:l∈storT t place<->Best t place l:=stor_mem h.ground
theorem stor_best0 {t:TREE} {place:Int} (h:TreeP t place):Best t place ((storT t place).getD 0 []):=by
 have hn:=stor_ne h;refine (stor_best h).1 ?_;cases e:storT t place with
 | nil=>exact absurd e hn
 | cons x l=>simp
def cntTo (t:TREE) (but:Int):Nat->Int
 | 0=>1
 | k+1=>if (k:Int)=but then cntTo t but k else cntTo t but k * (storT t k).length
def cntT (t:TREE) (but:Int):Int:=cntTo t but t.1.toNat
theorem cntTo_bd {t:TREE} (ht:TreeOK t) (but:Int):∀ k:Nat,(k:Int)<=t.1->1<=cntTo t but k/\cntTo t but k<=(256:Int) ^ k
 | 0,_=>⟨Int.le_refl 1,Int.le_refl 1⟩
 | k+1,h=>by
  obtain ⟨h1,h2⟩:=cntTo_bd ht but k (by omega);have hT:=ht.treeP (place:=k) (by omega) (by omega);have h3:=stor_len hT;have h4:0<(storT t k).length:=List.length_pos_iff.2 (stor_ne hT);have e:(256:Int) ^ (k+1)=256 ^ k * 256:=Int.pow_succ 256 k
  rw [e];have h5:(1:Int)<=256 ^ k:=by omega
  unfold cntTo;split
  . exact ⟨h1,by omega⟩
  . have h6:cntTo t but k * ((storT t k).length:Int)<=256 ^ k * 256:=Int.mul_le_mul h2 (by omega) (by omega) (by omega);have h7:(1:Int) * 1<=cntTo t but k * ((storT t k).length:Int):=Int.mul_le_mul h1 (by omega) (by omega) (by omega)
    omega
theorem cnt_small {t:TREE} (ht:TreeOK t) (but:Int) {k:Nat} (h:(k:Int)<=t.1):1<=cntTo t but k/\cntTo t but k<=16777216:=by
 have h1:=cntTo_bd ht but k h;have hp:=ht.places;have h2:(256:Int) ^ k<=16777216:=by
  have:k=0\/k=1\/k=2\/k=3:=by omega
  rcases this with rfl|rfl|rfl|rfl<;>decide
 omega
theorem cnt_step {t:TREE} (ht:TreeOK t) (but:Int) {k:Nat} (h:(k:Int)<t.1):1<=cntTo t but k * (storT t k).length/\cntTo t but k * (storT t k).length<=4294967296:=by
 have h1:=cnt_small ht but (k:=k) (by omega);have hT:=ht.treeP (place:=k) (by omega) (by omega);have h3:=stor_len hT;have h4:0<(storT t k).length:=List.length_pos_iff.2 (stor_ne hT);have h6:cntTo t but k * ((storT t k).length:Int)<=16777216 * 256:=Int.mul_le_mul h1.2 (by omega) (by omega) (by omega)
 have h7:(1:Int) * 1<=cntTo t but k * ((storT t k).length:Int):=Int.mul_le_mul h1.1 (by omega) (by omega) (by omega);omega
theorem f65_at {t:TREE} (ht:TreeOK t) (but:Int):f65 (t,(but,())) = .ret (cntT t but):=by
 have hfb:=fuel_big;obtain ⟨P,hP,hP1,hP3⟩:=ht.pl;unfold f65 F65;have key:=runL (L:=fun n p=>L65_0 fuel n (t,(but,())) (cntTo t but p) p) (len:=P) (K:=.ret ((),cntT t but)) (fun n p hp=>?_) (fun n=>?_) P fuel 0 (by omega) (by omega)
 . rw [show L65_0 fuel fuel (t,(but,())) 1 0=_ from key];rfl
 . try dsimp only
   rw [L65_0_succ]
   try delta lenI
   have hT:=ht.treeP (place:=p) (by omega) (by omega);have hs:=cnt_step ht but (k:=p) (by omega);simp only [dT (show (p:Int)<t.1 by omega),wn (show p<1000000000 by omega)]
   by_cases e:(p:Int)=but
   . simp only [nF e];rw [show cntTo t but (p+1)=cntTo t but p by rw [cntTo,if_pos e]]
   . simp only [nT e,preS_iff.2 hT.preS,cond_true];rw [show cntTo t but (p+1)=cntTo t but p * (storT t p).length by rw [cntTo,if_neg e],wr (by omega) (by omega)]
 . try dsimp only
   rw [L65_0_succ];simp only [dF (show ¬ ((P:Nat):Int)<t.1 by omega)];rw [show cntT t but=cntTo t but P by unfold cntT;rw [show t.1.toNat=P by omega]]
theorem f26_at {t:TREE} (ht:TreeOK t):f26 (t,()) = .ret (cntT t (-1),(0,())):=by
 unfold f26 F26;simp only [ht.t55,Bool.not_true,f65_at ht]
def firstAt (t:TREE) (p i:Nat):Int:=((storT t p).getD 0 []).getD i 0
def firstTo (t:TREE) (p i:Nat):List Int:=(List.range p).map fun q=>firstAt t q i
def firstR (t:TREE) (p i:Nat):List (List Int):=(List.range t.2.1.length).map fun r=>firstTo t (if r<i then p+1 else p) r
def firstT (t:TREE):List (List Int):=(List.range t.2.1.length).map (firstTo t t.1.toNat)
theorem firstTo_succ (t:TREE) (p i:Nat):firstTo t (p+1) i=firstTo t p i++[firstAt t p i]:=by
 unfold firstTo;rw [List.range_succ,List.map_append];rfl
theorem rangeMap_getD {α:Type} {z:α} {f:Nat->α} {n i:Nat} (h:i<n):((List.range n).map f).getD i z=f i:=by
 rw [List.getD_eq_getElem?_getD,List.getElem?_map,List.getElem?_range h];rfl
theorem firstR_succ (t:TREE) {p i:Nat} (hi:i<t.2.1.length):(firstR t p i).set i ((firstR t p i).getD i []++[firstAt t p i])=firstR t p (i+1):=by
 have hl:(firstR t p i).length=t.2.1.length:=by unfold firstR;simp
 have hg:(firstR t p i).getD i []=firstTo t p i:=by unfold firstR;rw [rangeMap_getD hi,if_neg (by omega)]
 apply ext_getD []
 . rw [List.length_set,hl];unfold firstR;simp
 . intro r hr;rw [List.length_set,hl] at hr;rw [getD_setL,hg,hl];have e2:(firstR t p (i+1)).getD r []=firstTo t (if r<i+1 then p+1 else p) r:=by unfold firstR;rw [rangeMap_getD hr]
   have e3:(firstR t p i).getD r []=firstTo t (if r<i then p+1 else p) r:=by unfold firstR;rw [rangeMap_getD hr]
   rw [e2,e3]
   by_cases e:r=i
   . subst e;rw [if_pos ⟨rfl,hi⟩,if_pos (by omega),firstTo_succ]
   . rw [if_neg (fun h=>e h.1)]
     by_cases e4:r<i
     . rw [if_pos e4,if_pos (by omega)]
     . rw [if_neg e4,if_neg (by omega)]
theorem firstR_next (t:TREE) (p:Nat):firstR t p t.2.1.length=firstR t (p+1) 0:=by
 unfold firstR;apply List.map_congr_left;intro r hr;rw [List.mem_range] at hr;rw [if_pos hr,if_neg (by omega)]
theorem firstR_zero (t:TREE):firstR t 0 0=List.replicate t.2.1.length []:=by
 unfold firstR;refine Eq.trans (List.map_congr_left (g:=fun _=>([]:List Int)) fun r _=>by rw [if_neg (by omega)];rfl) ?_;rw [List.map_const',List.length_range]
theorem f25_at {t:TREE} (ht:TreeOK t):f25 (t,()) = .ret (firstT t,(0,())):=by
 have hfb:=fuel_big;have hc:=ht.copies;obtain ⟨P,hP,hP1,hP3⟩:=ht.pl;unfold f25 F25
 try delta lenI
 simp only [ht.t55,Bool.not_true,smallB_iff.2 (show (0:Int)<=t.2.1.length/\(t.2.1.length:Int)<1000000 by omega),cond_true,Int.toNat_natCast];rw [allOf_eq (r:=.ret ((none:SN),(firstT t,((0:Int),())))) fun v=>?_]
 . rfl
 have key:=runL (L:=fun n p=>L25_0 fuel n v (t,()) t.1 t.2.1 p (firstR t p 0)) (len:=P) (K:=.ret ((none:SN),(firstT t,((0:Int),())))) (fun n p hp=>?_) (fun n=>?_) P fuel 0 (by omega) (by omega)
 . rw [<- firstR_zero];exact key
 . try dsimp only
   rw [L25_0_succ];have hT:=ht.treeP (place:=p) (by omega) (by omega);have h0:=(stor_best0 hT).vc.len;have hn:0<(storT t p).length:=List.length_pos_iff.2 (stor_ne hT);have et:((t.1,(t.2.1,())):TREE)=t:=rfl;simp only [dT (show (p:Int)<t.1 by omega),et,preS_iff.2 hT.preS,inbT (show (0:Int)<=0 by omega) (show (0:Int)<(storT t p).length by omega),cond_true]
   have inner:=runL (L:=fun n1 i=>L25_1 fuel n n1 v (t,()) p t.1 t.2.1 t.1 t.2.1 i (firstR t p i)) (len:=t.2.1.length) (K:=L25_0 fuel n v (t,()) t.1 t.2.1 ((p+1:Nat):Int) (firstR t (p+1) 0)) (fun n1 i hi=>?_) (fun n1=>?_) t.2.1.length fuel 0 (by omega) (by omega)
   . exact inner
   . try dsimp only
     rw [L25_1_succ]
     try delta lenI
     have hl:(firstR t p i).length=t.2.1.length:=by unfold firstR;simp
     have hg:(firstR t p i).getD i []=firstTo t p i:=by unfold firstR;rw [rangeMap_getD hi,if_neg (by omega)]
     have hgl:(firstTo t p i).length=p:=by unfold firstTo;simp
     simp only [et,show (0:Int).toNat=0 from rfl,dT (show (i:Int)<((storT t p).getD 0 []).length by omega),inbT (show (0:Int)<=i by omega) (show (i:Int)<((storT t p).getD 0 []).length by omega),cond_true,growB_true (v:=v) (xss:=firstR t p i) (i:=i) ⟨by omega,by omega⟩ (by rw [Int.toNat_natCast,hg,hgl];omega),Int.toNat_natCast,wn (show i<1000000000 by omega)]
     rw [show ((storT t p).getD 0 []).getD i 0=firstAt t p i from rfl,firstR_succ t hi]
   . try dsimp only
     rw [L25_1_succ]
     try delta lenI
     simp only [et,show (0:Int).toNat=0 from rfl,dF (show ¬ ((t.2.1.length:Nat):Int)<((storT t p).getD 0 []).length by omega),wn (show p<1000000000 by omega)];rw [firstR_next]
 . try dsimp only
   rw [L25_0_succ];simp only [dF (show ¬ ((P:Nat):Int)<t.1 by omega),isV_refl,cond_true]
   congr 3
   unfold firstR firstT;apply List.map_congr_left;intro r hr;rw [if_neg (by omega),show t.1.toNat=P by omega]
end Go.V
end
