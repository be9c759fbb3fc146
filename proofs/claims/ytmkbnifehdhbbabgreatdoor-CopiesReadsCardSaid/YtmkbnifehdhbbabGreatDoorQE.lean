/- Part. -/
import Derived.Test.YtmkbnifehdhbbabGreatDoorQA
set_option linter.all false
noncomputable section
namespace Go.V
open Go.Proofs
theorem mb {L:Nat->Int->Out Bool} {len:Nat} {K:Out Bool} (P:Nat->Prop)
 (step:∀ n i:Nat,i<len->(P i/\L (n+1) i=L n ((i+1:Nat):Int))\/(¬ P i/\L (n+1) i = .ret false)) (done:∀ n,L (n+1) len=K) :
 ∀ (m n i:Nat),m<n->i+m=len->((∀ j,i<=j->j<len->P j)/\L n i=K)\/(¬ (∀ j,i<=j->j<len->P j)/\L n i = .ret false):=by
 intro m
 induction m with
 | zero =>
  intro n i hn hi;obtain ⟨n,rfl⟩:=ks hn;obtain rfl:i=len:=by omega
  exact .inl ⟨fun j h1 h2=>by omega,done n⟩
 | succ m ih =>
  intro n i hn hi;obtain ⟨n,rfl⟩:=ks hn;rcases step n i (by omega) with ⟨hp,e⟩|⟨hp,e⟩
  . rcases ih n (i+1) (by omega) (by omega) with ⟨h1,h2⟩|⟨h1,h2⟩
    . refine .inl ⟨fun j h3 h4=>?_,e.trans h2⟩
      by_cases ej:j=i
      . subst ej;exact hp
      . exact h1 j (by omega) h4
    . exact .inr ⟨fun h=>h1 fun j h3 h4=>h j (by omega) h4,e.trans h2⟩
  . exact .inr ⟨fun h=>hp (h i (Nat.le_refl _) (by omega)),e⟩
theorem qi (a b c:Int):f94 (a,(b,(c,()))) = .ret (decide (b<=a/\a<=c)):=by
 unfold f94 xd
 by_cases h:a >= b
 . simp only [dT h]
   congr 1
   by_cases h2:a<=c
   . rw [dT h2,dT ⟨h,h2⟩]
   . rw [dF h2,dF fun h=>h2 h.2]
 . simp only [dF h];rw [dF fun h2=>h h2.1]
theorem zt (a b c:Int):kT (a,(b,(c,()))) = .ret (decide (b<=a/\a<=c)):=by
 unfold kT Da
 by_cases h:a >= b
 . simp only [dT h]
   congr 1
   by_cases h2:a<=c
   . rw [dT h2,dT ⟨h,h2⟩]
   . rw [dF h2,dF fun h=>h2 h.2]
 . simp only [dF h];rw [dF fun h2=>h h2.1]
theorem zu (a:Int):f80 (a,()) = .ret (decide (0<=a/\a<=9)):=by unfold f80 wX;simp only [qi]
theorem i46 (a:Int):f46 (a,()) = .ret (decide (0<=a/\a<=9)):=by unfold f46 C8;simp only [zt]
theorem RB (a:Int):f95 (a,()) = .ret (decide (¬ (a = -1\/(0<=a/\a<=9)))):=by
 unfold f95 xe
 by_cases h:a = -1
 . simp only [nF h];rw [dF (show ¬ ¬ (a = -1\/(0<=a/\a<=9)) from fun h2=>h2 (.inl h))]
 . simp only [nT h,zu]
   by_cases h2:0<=a/\a<=9
   . rw [dT h2,dF (show ¬ ¬ (a = -1\/(0<=a/\a<=9)) from fun h3=>h3 (.inr h2))];rfl
   . rw [dF h2,dT (show ¬ (a = -1\/(0<=a/\a<=9)) from fun h3=>h3.elim h h2)];rfl
abbrev bh:gg:=((0:Int),(([]:List Int),()))
def bW (t:ac) (i:Nat):gg:=t.2.1.getD i bh
def sh (l:List Int):Prop:=∀ p,p<l.length->l.getD p 0 = -1\/(0<=l.getD p 0/\l.getD p 0<=9)
structure NodeOK (t:ac) (i:Nat):Prop where
 par:0<=(bW t i).1/\(bW t i).1<=(if (i:Int) - 1 > 0 then (i:Int) - 1 else 0)
 len:((bW t i).2.1.length:Int)=t.1
 fig:sh (bW t i).2.1
structure TreeOK (t:ac):Prop where
 places:1<=t.1/\t.1<=3
 copies:1<=t.2.1.length/\t.2.1.length<=8
 node:∀ i,i<t.2.1.length->NodeOK t i
theorem P2 (l:List Int) (hl:l.length<=1000):∃ r,pq (l,((Value.func (.func 96) #[] #[]),())) = .ret r/\(0<=r<->¬ sh l):=by
 have hfb:=bK;have hq:=HD (l,((Value.func (.func 96) #[] #[]),()));have he:=NK fuel (l,((Value.func (.func 96) #[] #[]),()));rw [<- hq];show ∃ r,aW Tryz.prog (ah nZ) mU fuel Tryz.f97 false false eZ (.int .i64) (l,(Value.func (.func 96) #[] #[]),()) = .ret r/\_;rw [he];unfold CK;have loop:∀ (d n i:Nat),d<n->i+d=l.length->(∀ j,j<i->l.getD j 0 = -1\/(0<=l.getD j 0/\l.getD j 0<=9))->∃ r,L111a_0 fuel n (l,((Value.func (.func 96) #[] #[]),())) i = .ret r/\(0<=r<->¬ sh l):=by
  intro d
  induction d with
  | zero =>
   intro n i hn hi hj;obtain ⟨n,rfl⟩:=ks hn;rw [L111a_0_succ]
   try delta ae
   simp only [dF (show ¬ (i:Int)<l.length by omega)];exact ⟨_,rfl,⟨fun h=>by omega,fun h=>absurd (fun p hp=>hj p (by omega)) h⟩⟩
  | succ d ih =>
   intro n i hn hi hj;obtain ⟨n,rfl⟩:=ks hn;rw [L111a_0_succ]
   try delta ae
   simp only [dT (show (i:Int)<l.length by omega),aY (show (0:Int)<=i by omega) (show (i:Int)<l.length by omega),cond_true,Int.toNat_natCast,RB]
   by_cases hp:l.getD i 0 = -1\/(0<=l.getD i 0/\l.getD i 0<=9)
   . simp only [dF (fun h:¬ (l.getD i 0 = -1\/(0<=l.getD i 0/\l.getD i 0<=9))=>h hp),wn (show i<1000000000 by omega)];refine ih n (i+1) (by omega) (by omega) fun j hji=>?_
     by_cases ej:j=i
     . subst ej;exact hp
     . exact hj j (by omega)
   . simp only [dT hp];exact ⟨_,rfl,⟨fun _ h=>hp (h i (by omega)),fun _=>by omega⟩⟩
 exact loop l.length fuel 0 (by omega) (by omega) fun j hj=>by omega
theorem QO (l:List Int) (hl:l.length<=1000):∃ b,mP (l,((Value.func (.func 96) #[] #[]),())) = .ret b/\(b=true<->¬ sh l):=by
 have hq:=HF (l,((Value.func (.func 96) #[] #[]),()));have he:=OD fuel (l,((Value.func (.func 96) #[] #[]),()));rw [<- hq];show ∃ b,aW Tryz.prog (ah rz) qh fuel Tryz.f57 false false eZ .bool (l,(Value.func (.func 96) #[] #[]),()) = .ret b/\_;rw [he];unfold De;obtain ⟨r,h1,h2⟩:=P2 l hl;simp only [h1];exact ⟨_,rfl,by rw [decide_eq_true_eq,<- h2]⟩
theorem Hk {i:Nat} (hi:i<1000000):(if IntKind.i64.wrap ((i:Int) - 1) > 0 then IntKind.i64.wrap ((i:Int) - 1) else 0)=(if (i:Int) - 1 > 0 then (i:Int) - 1 else 0):=by
 rw [wr (by omega) (by omega)]
theorem Qq (t:ac):∃ b,f55 (t,()) = .ret b/\(b=true<->TreeOK t):=by
 have hfb:=bK;unfold f55 wL
 try delta ae
 simp only [qi]
 by_cases h1:1<=t.1/\t.1<=3
 rotate_left
 . simp only [dF h1,Bool.not_false];exact ⟨false,rfl,⟨fun h=>(by cases h),fun h=>absurd h.places h1⟩⟩
 by_cases h2:1<=(t.2.1.length:Int)/\(t.2.1.length:Int)<=8
 rotate_left
 . simp only [dT h1,dF h2,Bool.not_false,Bool.not_true];exact ⟨false,rfl,⟨fun h=>(by cases h),fun h=>absurd ⟨by have:=h.copies;omega,by have:=h.copies;omega⟩ h2⟩⟩
 simp only [dT h1,dT h2,Bool.not_true];have key:=mb (L:=fun n i=>L55_0 fuel n (t,()) t.1 t.2.1 i) (len:=t.2.1.length) (K:=.ret true) (NodeOK t) (fun n i hi=>?_) (fun n=>?_) t.2.1.length fuel 0 (by omega) (by omega)
 . rcases key with ⟨k1,k2⟩|⟨k1,k2⟩
   . exact ⟨true,k2,⟨fun _=>⟨h1,by omega,fun i hi=>k1 i (Nat.zero_le _) hi⟩,fun _=>rfl⟩⟩
   . exact ⟨false,k2,⟨fun h=>(by cases h),fun h=>absurd (fun j _ hj=>h.node j hj) k1⟩⟩
 . try dsimp only
   rw [L55_0_succ]
   try delta ae
   simp only [dT (show (i:Int)<t.2.1.length by omega),aY (show (0:Int)<=i by omega) (show (i:Int)<t.2.1.length by omega),cond_true,Int.toNat_natCast,qi,Hk (show i<1000000 by omega),wn (show i<1000000000 by omega)]
   by_cases g1:0<=(bW t i).1/\(bW t i).1<=(if (i:Int) - 1 > 0 then (i:Int) - 1 else 0)
   rotate_left
   . have g1':¬ (0<=(List.getD t.2.1 i bh).1/\(List.getD t.2.1 i bh).1<=(if (i:Int) - 1 > 0 then (i:Int) - 1 else 0)):=g1;simp only [dF g1',Bool.not_false];exact .inr ⟨fun h=>g1 h.par,trivial⟩
   have g1':(0<=(List.getD t.2.1 i bh).1/\(List.getD t.2.1 i bh).1<=(if (i:Int) - 1 > 0 then (i:Int) - 1 else 0)):=g1
   by_cases g2:((bW t i).2.1.length:Int)=t.1
   rotate_left
   . have g2':((List.getD t.2.1 i bh).2.1.length:Int)≠t.1:=g2;simp only [dT g1',Bool.not_true,nT g2'];exact .inr ⟨fun h=>g2 h.len,trivial⟩
   have g2':((List.getD t.2.1 i bh).2.1.length:Int)=t.1:=g2;obtain ⟨b,g3,g4⟩:=QO (bW t i).2.1 (by omega);have g3':mP ((List.getD t.2.1 i bh).2.1,((Value.func (.func 96) #[] #[]),())) = .ret b:=g3;simp only [dT g1',Bool.not_true,nF g2',g3'];cases b with
   | true=>exact .inr ⟨fun h=>g4.1 rfl h.fig,rfl⟩
   | false=>exact .inl ⟨⟨g1,g2,Classical.byContradiction fun h=>by have:=g4.2 h;cases this⟩,rfl⟩
 . try dsimp only
   rw [L55_0_succ]
   try delta ae
   simp only [dF (show ¬ ((t.2.1.length:Nat):Int)<t.2.1.length by omega)]
theorem Qb (t:ac):∃ b,f17 (t,()) = .ret b/\(b=true<->TreeOK t):=by
 have hfb:=bK;unfold f17 C4
 try delta ae
 simp only [zt]
 by_cases h1:1<=t.1/\t.1<=3
 rotate_left
 . simp only [dF h1,Bool.not_false];exact ⟨false,rfl,⟨fun h=>(by cases h),fun h=>absurd h.places h1⟩⟩
 by_cases h2:1<=(t.2.1.length:Int)/\(t.2.1.length:Int)<=8
 rotate_left
 . simp only [dT h1,dF h2,Bool.not_false,Bool.not_true];exact ⟨false,rfl,⟨fun h=>(by cases h),fun h=>absurd ⟨by have:=h.copies;omega,by have:=h.copies;omega⟩ h2⟩⟩
 simp only [dT h1,dT h2,Bool.not_true];have key:=mb (L:=fun n i=>L17_0 fuel n t.1 t.2.1 i) (len:=t.2.1.length) (K:=.ret true) (NodeOK t) (fun n i hi=>?_) (fun n=>?_) t.2.1.length fuel 0 (by omega) (by omega)
 . rcases key with ⟨k1,k2⟩|⟨k1,k2⟩
   . exact ⟨true,k2,⟨fun _=>⟨h1,by omega,fun i hi=>k1 i (Nat.zero_le _) hi⟩,fun _=>rfl⟩⟩
   . exact ⟨false,k2,⟨fun h=>(by cases h),fun h=>absurd (fun j _ hj=>h.node j hj) k1⟩⟩
 . try dsimp only
   rw [L17_0_succ]
   try delta ae
   simp only [dT (show (i:Int)<t.2.1.length by omega),aY (show (0:Int)<=i by omega) (show (i:Int)<t.2.1.length by omega),cond_true,Int.toNat_natCast,zt,Hk (show i<1000000 by omega)]
   by_cases g1:0<=(bW t i).1/\(bW t i).1<=(if (i:Int) - 1 > 0 then (i:Int) - 1 else 0)
   rotate_left
   . have g1':¬ (0<=(List.getD t.2.1 i bh).1/\(List.getD t.2.1 i bh).1<=(if (i:Int) - 1 > 0 then (i:Int) - 1 else 0)):=g1;simp only [dF g1',Bool.not_false];exact .inr ⟨fun h=>g1 h.par,trivial⟩
   have g1':(0<=(List.getD t.2.1 i bh).1/\(List.getD t.2.1 i bh).1<=(if (i:Int) - 1 > 0 then (i:Int) - 1 else 0)):=g1
   by_cases g2:((bW t i).2.1.length:Int)=t.1
   rotate_left
   . have g2':((List.getD t.2.1 i bh).2.1.length:Int)≠t.1:=g2;simp only [dT g1',Bool.not_true,nT g2'];exact .inr ⟨fun h=>g2 h.len,trivial⟩
   have g2':((List.getD t.2.1 i bh).2.1.length:Int)=t.1:=g2;simp only [dT g1',Bool.not_true,nF g2'];have inner:=mb (L:=fun n1 p=>L17_1 fuel n n1 t.1 t.2.1 i p) (len:=(bW t i).2.1.length) (K:=L17_0 fuel n t.1 t.2.1 ((i+1:Nat):Int)) (fun p=>(bW t i).2.1.getD p 0 = -1\/(0<=(bW t i).2.1.getD p 0/\(bW t i).2.1.getD p 0<=9)) (fun n1 p hp=>?_) (fun n1=>?_) (bW t i).2.1.length fuel 0 (by omega) (by omega)
   . rcases inner with ⟨k1,k2⟩|⟨k1,k2⟩
     . exact .inl ⟨⟨g1,g2,fun p hp=>k1 p (Nat.zero_le _) hp⟩,k2⟩
     . exact .inr ⟨fun h=>k1 fun p _ hp=>h.fig p hp,k2⟩
   . try dsimp only
     rw [L17_1_succ]
     try delta ae
     have hp':(p:Int)<(List.getD t.2.1 i bh).2.1.length:=show (p:Int)<(bW t i).2.1.length by omega
     simp only [Int.toNat_natCast,dT hp',aY (show (0:Int)<=p by omega) hp',cond_true,i46,wn (show p<1000000000 by omega)]
     by_cases q1:(bW t i).2.1.getD p 0 = -1
     . have q1':(List.getD t.2.1 i bh).2.1.getD p 0 = -1:=q1;simp only [nF q1'];exact .inl ⟨.inl q1,trivial⟩
     . have q1':(List.getD t.2.1 i bh).2.1.getD p 0 ≠ -1:=q1;simp only [nT q1']
       by_cases q2:0<=(bW t i).2.1.getD p 0/\(bW t i).2.1.getD p 0<=9
       . have q2':0<=(List.getD t.2.1 i bh).2.1.getD p 0/\(List.getD t.2.1 i bh).2.1.getD p 0<=9:=q2;simp only [dT q2',Bool.not_true];exact .inl ⟨.inr q2,trivial⟩
       . have q2':¬ (0<=(List.getD t.2.1 i bh).2.1.getD p 0/\(List.getD t.2.1 i bh).2.1.getD p 0<=9):=q2;simp only [dF q2',Bool.not_false];exact .inr ⟨fun h=>h.elim q1 q2,trivial⟩
   . try dsimp only
     rw [L17_1_succ]
     try delta ae
     have hp':¬ (((bW t i).2.1.length:Nat):Int)<(List.getD t.2.1 i bh).2.1.length:=Int.lt_irrefl _;simp only [Int.toNat_natCast,dF hp',wn (show i<1000000000 by omega)]
 . try dsimp only
   rw [L17_0_succ]
   try delta ae
   simp only [dF (show ¬ ((t.2.1.length:Nat):Int)<t.2.1.length by omega)]
theorem B_ (t:ac):∃ b,f17 (t,()) = .ret b/\f55 (t,()) = .ret b/\(b=true<->TreeOK t):=by
 obtain ⟨b,h1,h2⟩:=Qb t;obtain ⟨c,h3,h4⟩:=Qq t;have e:b=c:=by
  cases b<;>cases c
  . rfl
  . exact absurd (h2.2 (h4.1 rfl)) (by simp)
  . exact absurd (h4.2 (h2.1 rfl)) (by simp)
  . rfl
 subst e;exact ⟨b,h1,h3,h2⟩
theorem TreeOK.par {t:ac} (h:TreeOK t):∀ i,0<i->i<t.2.1.length->0<=bC t i/\bC t i<i:=fun i h0 hi=>by
 have:=(h.node i hi).par;have e:bC t i=(bW t i).1:=rfl;rw [e];split at this<;>omega
theorem TreeOK.par0 {t:ac} (h:TreeOK t):bC t 0=0:=by
 have:=(h.node 0 (by have:=h.copies;omega)).par;have e:bC t 0=(bW t 0).1:=rfl;rw [e];split at this<;>omega
theorem uD (t:ac) (i p:Nat):aH t i p=(bW t i).2.1.getD p 0:=by
 unfold aH bW;rw [Int.toNat_natCast,Int.toNat_natCast]
theorem TreeOK.treeP {t:ac} (h:TreeOK t) {place:Int} (h0:0<=place) (h1:place<t.1):TreeP t place where
 len:=h.copies
 par:=h.par
 pos:=h0
 seen i hi:=by
  have:=(h.node i hi).len;have e:(t.2.1.getD i (0,([],()))).2.1=(bW t i).2.1:=rfl;rw [e];omega
 figs i hi:=by
  have hl:=(h.node i hi).len;obtain ⟨p,rfl⟩:∃ p:Nat,place=p:=⟨place.toNat,by omega⟩
  rw [uD];rcases (h.node i hi).fig p (by omega) with h|h<;>omega
end Go.V
end
