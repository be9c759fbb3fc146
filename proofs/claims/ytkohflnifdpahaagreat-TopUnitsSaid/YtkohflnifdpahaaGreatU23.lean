/- Proved here: topUnits_holds (the law TopUnitsSaid answers true at every input), with no condition. -/
import Derived.Test.YtkohflnifdpahaaGreatU16
import Derived.Test.YtkohflnifdpahaaGreatU22
import Derived.Test.YtkohflnifdpahaaGreatU15
import Derived.Test.YtkohflnifdpahaaGreatU12
import Derived.Test.YtkohflnifdpahaaGreatShelfD
import Derived.Test.YtkohflnifdpahaaGreatU19
import Derived.Test.YtkohflnifdpahaaGreatU10
set_option linter.all false
namespace Go.V
open Go.Proofs
theorem best_a (N:Nat) (xs:List Int) (fv:Value) {ys:List Int} (hys:cut xs (1:Int) (lenI xs)=ys) (hl:ys.length<1000000):∀ (n:Nat) (out:Int) (i:Nat),i<=ys.length->ys.length<n+i ->
 ∃ r,L123a_0 N n (xs,(fv,())) out (i:Int) = .ret r/\r<=out/\(∀ (j:Nat) (h:j<ys.length),i<=j->r<=ys[j])/\(r=out\/r∈ys):=by
 intro n
 induction n with
 | zero=>intro out i h1 h2;omega
 | succ n ih =>
  intro out i h1 h2
  rw [L123a_0_succ]
  dsimp only
  rw [hys]
  by_cases h:i<ys.length
  . have e1:decide ((i:Int)<lenI ys)=true:=by unfold lenI;simp only [decide_eq_true_eq];omega
    have e2:inb (i:Int) ys.length=true:=by unfold inb;simp only [Bool.and_eq_true,decide_eq_true_eq];omega
    have e3:List.getD ys (i:Int).toNat (0:Int)=ys[i]:=by rw [Int.toNat_natCast,List.getD_eq_getElem?_getD,List.getElem?_eq_getElem h];rfl
    have e4:IntKind.i64.wrap ((i:Int)+1)=((i+1:Nat):Int):=wrap_small (by omega)
    rw [e1,e2,e3,e4]
    simp only [cond_true]
    by_cases hlt:ys[i]<out
    . rw [decide_eq_true hlt]
      obtain ⟨r,a1,a2,a3,a4⟩:=ih ys[i] (i+1) (by omega) (by omega)
      refine ⟨r,a1,by omega,fun j hj hij=>?_,.inr ?_⟩
      . by_cases e:j=i
        . subst e;exact a2
        . exact a3 j hj (by omega)
      . rcases a4 with rfl|a4
        . exact List.getElem_mem h
        . exact a4
    . rw [decide_eq_false hlt]
      obtain ⟨r,a1,a2,a3,a4⟩:=ih out (i+1) (by omega) (by omega)
      refine ⟨r,a1,a2,fun j hj hij=>?_,a4⟩
      by_cases e:j=i
      . subst e;omega
      . exact a3 j hj (by omega)
  . have e1:decide ((i:Int)<lenI ys)=false:=by unfold lenI;simp only [decide_eq_false_iff_not];omega
    rw [e1]
    exact ⟨out,rfl,by omega,fun j hj hij=>by omega,.inl rfl⟩
theorem end_a {xs:List Int} {y:Int} (hy:y∈xs) (hall:∀ x∈xs,y<=x) (hl:xs.length<1000000):f123a (xs,((Value.func (.func 124) #[] #[]),())) = .ret y:=by
 have e0:f123a (xs,((Value.func (.func 124) #[] #[]),()))=F123a fuel (xs,((Value.func (.func 124) #[] #[]),())):=by
  unfold f123a
  exact e123a fuel (xs,((Value.func (.func 124) #[] #[]),()))
 rw [e0]
 unfold F123a
 dsimp only
 obtain ⟨x0,xt,rfl⟩:∃ x0 xt,xs=x0 :: xt:=by
  cases xs with
  | nil=>cases hy
  | cons a b=>exact ⟨a,b,rfl⟩
 have hcut:cut (x0 :: xt) (1:Int) (lenI (x0 :: xt))=xt:=by
  unfold cut lenI
  rw [show (1:Int).toNat=1 from rfl,Int.toNat_natCast]
  show List.take _ xt=xt
  rw [List.take_of_length_le (by simp)]
 have hl:xt.length+1<1000000:=by simpa using hl
 have e1:inb (0:Int) (x0 :: xt).length=true:=by unfold inb;simp only [Bool.and_eq_true,decide_eq_true_eq,List.length_cons];omega
 have e2:cutOk (1:Int) (lenI (x0 :: xt)) (lenI (x0 :: xt))=true:=by unfold cutOk lenI;simp only [Bool.and_eq_true,decide_eq_true_eq,List.length_cons];omega
 rw [e1,e2]
 simp only [cond_true]
 have hf:1000000<=fuel:=by unfold fuel;decide
 obtain ⟨r,a1,a2,a3,a4⟩:=best_a fuel (x0 :: xt) (Value.func (.func 124) #[] #[]) hcut (by omega) fuel x0 0 (by omega) (by omega)
 have e3:List.getD (x0 :: xt) (0:Int).toNat (0:Int)=x0:=rfl
 rw [e3]
 refine a1.trans ?_
 have hr:r∈x0 :: xt:=by
  rcases a4 with rfl|a4
  . exact List.mem_cons_self
  . exact List.mem_cons_of_mem _ a4
 have h1:=hall r hr
 have h2:r<=y:=by
  rcases List.mem_cons.1 hy with rfl|hy
  . exact a2
  . obtain ⟨j,hj,rfl⟩:=List.mem_iff_getElem.1 hy
    exact a3 j hj (by omega)
 rw [show r=y by omega]
theorem best_b (N:Nat) (xs:List Int) (fv:Value) {ys:List Int} (hys:cut xs (1:Int) (lenI xs)=ys) (hl:ys.length<1000000):∀ (n:Nat) (out:Int) (i:Nat),i<=ys.length->ys.length<n+i ->
 ∃ r,L123b_0 N n (xs,(fv,())) out (i:Int) = .ret r/\out<=r/\(∀ (j:Nat) (h:j<ys.length),i<=j->ys[j]<=r)/\(r=out\/r∈ys):=by
 intro n
 induction n with
 | zero=>intro out i h1 h2;omega
 | succ n ih =>
  intro out i h1 h2
  rw [L123b_0_succ]
  dsimp only
  rw [hys]
  by_cases h:i<ys.length
  . have e1:decide ((i:Int)<lenI ys)=true:=by unfold lenI;simp only [decide_eq_true_eq];omega
    have e2:inb (i:Int) ys.length=true:=by unfold inb;simp only [Bool.and_eq_true,decide_eq_true_eq];omega
    have e3:List.getD ys (i:Int).toNat (0:Int)=ys[i]:=by rw [Int.toNat_natCast,List.getD_eq_getElem?_getD,List.getElem?_eq_getElem h];rfl
    have e4:IntKind.i64.wrap ((i:Int)+1)=((i+1:Nat):Int):=wrap_small (by omega)
    rw [e1,e2,e3,e4]
    simp only [cond_true]
    by_cases hlt:ys[i] > out
    . rw [decide_eq_true hlt]
      obtain ⟨r,a1,a2,a3,a4⟩:=ih ys[i] (i+1) (by omega) (by omega)
      refine ⟨r,a1,by omega,fun j hj hij=>?_,.inr ?_⟩
      . by_cases e:j=i
        . subst e;exact a2
        . exact a3 j hj (by omega)
      . rcases a4 with rfl|a4
        . exact List.getElem_mem h
        . exact a4
    . rw [decide_eq_false hlt]
      obtain ⟨r,a1,a2,a3,a4⟩:=ih out (i+1) (by omega) (by omega)
      refine ⟨r,a1,a2,fun j hj hij=>?_,a4⟩
      by_cases e:j=i
      . subst e;omega
      . exact a3 j hj (by omega)
  . have e1:decide ((i:Int)<lenI ys)=false:=by unfold lenI;simp only [decide_eq_false_iff_not];omega
    rw [e1]
    exact ⟨out,rfl,by omega,fun j hj hij=>by omega,.inl rfl⟩
theorem end_b {xs:List Int} {y:Int} (hy:y∈xs) (hall:∀ x∈xs,x<=y) (hl:xs.length<1000000):f123a (xs,((Value.func (.func 125) #[] #[]),())) = .ret y:=by
 have e0:f123a (xs,((Value.func (.func 125) #[] #[]),()))=F123b fuel (xs,((Value.func (.func 125) #[] #[]),())):=by
  unfold f123a
  exact e123b fuel (xs,((Value.func (.func 125) #[] #[]),()))
 rw [e0]
 unfold F123b
 dsimp only
 obtain ⟨x0,xt,rfl⟩:∃ x0 xt,xs=x0 :: xt:=by
  cases xs with
  | nil=>cases hy
  | cons a b=>exact ⟨a,b,rfl⟩
 have hcut:cut (x0 :: xt) (1:Int) (lenI (x0 :: xt))=xt:=by
  unfold cut lenI
  rw [show (1:Int).toNat=1 from rfl,Int.toNat_natCast]
  show List.take _ xt=xt
  rw [List.take_of_length_le (by simp)]
 have hl:xt.length+1<1000000:=by simpa using hl
 have e1:inb (0:Int) (x0 :: xt).length=true:=by unfold inb;simp only [Bool.and_eq_true,decide_eq_true_eq,List.length_cons];omega
 have e2:cutOk (1:Int) (lenI (x0 :: xt)) (lenI (x0 :: xt))=true:=by unfold cutOk lenI;simp only [Bool.and_eq_true,decide_eq_true_eq,List.length_cons];omega
 rw [e1,e2]
 simp only [cond_true]
 have hf:1000000<=fuel:=by unfold fuel;decide
 obtain ⟨r,a1,a2,a3,a4⟩:=best_b fuel (x0 :: xt) (Value.func (.func 125) #[] #[]) hcut (by omega) fuel x0 0 (by omega) (by omega)
 have e3:List.getD (x0 :: xt) (0:Int).toNat (0:Int)=x0:=rfl
 rw [e3]
 refine a1.trans ?_
 have hr:r∈x0 :: xt:=by
  rcases a4 with rfl|a4
  . exact List.mem_cons_self
  . exact List.mem_cons_of_mem _ a4
 have h1:=hall r hr
 have h2:y<=r:=by
  rcases List.mem_cons.1 hy with rfl|hy
  . exact a2
  . obtain ⟨j,hj,rfl⟩:=List.mem_iff_getElem.1 hy
    exact a3 j hj (by omega)
 rw [show r=y by omega]
theorem ends_is {xs:List Int} {lo hi:Int} (h1:lo∈xs) (h2:hi∈xs) (h:∀ x∈xs,lo<=x/\x<=hi) (hl:xs.length<1000000):f94 (xs,()) = .ret (lo,hi,()):=by
 unfold f94 F94
 dsimp only
 rw [end_a h1 (fun x hx=>(h x hx).1) hl]
 dsimp only
 rw [end_b h2 (fun x hx=>(h x hx).2) hl]
def D0:RSH:=(10,3,[4,1,0],[13,26,44],())
def T0:TAB:=(D0,1,())
def Sup (g:GF) (a b:Int):Prop:=∀ j,(j<a\/b<j)->g j=none
theorem run_none (gO:GF) (tab:TAB) {j:Int}:∀ (ys:List Int) (g:GF),g j=none->(∀ n∈ys,gO (j - n)=none)->runG gO tab g ys j=none
 | [],g,h,_=>h
 | n :: ys,g,h,hn=>by
  show runG gO tab (stepG gO n (figN tab n) g) ys j=none
  refine run_none gO tab ys _ ?_ fun m hm=>hn m (List.mem_cons_of_mem _ hm)
  show (match gO (j - n) with|some p=>some (merged g j (yOf (figN tab n) p))|none=>g j)=none
  rw [hn n List.mem_cons_self]
  exact h
theorem run_sup {gO:GF} {a b:Int} (h:Sup gO a b) (tab:TAB) {lo hi:Int} {ys:List Int} (hy:∀ n∈ys,lo<=n/\n<=hi):Sup (runG gO tab (fun _=>none) ys) (a+lo) (b+hi):=fun j hj=>run_none gO tab ys _ rfl fun n hn=>h _ (by have:=hy n hn;omega)
theorem Sup.bd {g:GF} {a b:Int} (h:Sup g a b) (h1 : -1000000<=a) (h2:b<=1000000):Bd g:=fun k p hk=>by
 by_cases hj:k<a\/b<k
 . rw [h k hj] at hk;cases hk
 . omega
noncomputable def g1:GF:=runG g93 T0 (fun _=>none) [12,13,14]
noncomputable def g2:GF:=runG g1 T0 (fun _=>none) [25,26,27]
noncomputable def g3:GF:=runG g2 T0 (fun _=>none) [43,44,45]
theorem s0:Sup g93 0 0:=fun j hj=>by unfold g93 upd;rw [if_neg (by omega)]
theorem s1:Sup g1 12 14:=run_sup (ys:=[12,13,14]) (lo:=12) (hi:=14) s0 T0 (by decide)
theorem s2:Sup g2 37 41:=run_sup (ys:=[25,26,27]) (lo:=25) (hi:=27) s1 T0 (by decide)
theorem s3:Sup g3 80 86:=run_sup (ys:=[43,44,45]) (lo:=43) (hi:=45) s2 T0 (by decide)
theorem g3_80:g3 80=some (8,8):=by kernel_rfl
theorem g3_81:g3 81=some (8,8):=by kernel_rfl
theorem g3_82:g3 82=some (8,9):=by kernel_rfl
theorem g3_83:g3 83=some (8,9):=by kernel_rfl
theorem g3_84:g3 84=some (8,9):=by kernel_rfl
theorem g3_85:g3 85=some (8,9):=by kernel_rfl
theorem g3_86:g3 86=some (9,9):=by kernel_rfl
theorem sums_step {tab:TAB} {m:Nat} {row row':Int} {gO:GF} {nO:Nat} {sp:Int×Int×Unit} {ys:List Int} {c:Nat} (h1:decide (row<lenR tab)=true) (h2:f137 (tab,(row,())) = .ret sp) (h3:((decide (-1000000000<sp.1) && decide (sp.2.1<1000000000)) && (decide (sp.1<=sp.2.1+1) && decide ((sp.2.1+1 - sp.1).toNat<fuel)))=true) (h4:exactL sp.1 sp.2.1 (sp.2.1+1 - sp.1).toNat=ys) (h5:ys.all (okN tab)=true) (h6:Bd gO) (h7:(sp.2.1+1 - sp.1).toNat=c) (h8:c * nO<1000000) (h9:IntKind.i64.wrap (row+1)=row') :
 sumsR tab (m+1) row gO nO=sumsR tab m row' (runG gO tab (fun _=>none) ys) (c * nO):=by
 conv=>lhs;unfold sumsR
 rw [h1,h2]
 dsimp only
 rw [h3,h4,h5,bdB_iff.2 h6,h7,h9,decide_eq_true h8]
 rfl
theorem sums_end {tab:TAB} {m:Nat} {row:Int} {gO:GF} {nO:Nat} (h1:decide (row<lenR tab)=false):sumsR tab (m+1) row gO nO = .ret (gO,nO):=by
 conv=>lhs;unfold sumsR
 rw [h1]
theorem fuel_lt {n:Nat} (h:n<1000):decide (n<fuel)=true:=by
 unfold fuel
 simp only [decide_eq_true_eq]
 omega
theorem k137_0:f137 (T0,(0,())) = .ret (12,14,()):=by kernel_rfl
theorem k137_1:f137 (T0,(1,())) = .ret (25,27,()):=by kernel_rfl
theorem k137_2:f137 (T0,(2,())) = .ret (43,45,()):=by kernel_rfl
theorem kok_0:([12,13,14]:List Int).all (okN T0)=true:=by kernel_rfl
theorem kok_1:([25,26,27]:List Int).all (okN T0)=true:=by kernel_rfl
theorem kok_2:([43,44,45]:List Int).all (okN T0)=true:=by kernel_rfl
theorem ksums:sumsR T0 fuel 0 g93 1 = .ret (g3,27):=by
 obtain ⟨n,hn⟩:∃ n,fuel=n+4:=⟨fuel - 4,by
  have:1000<=fuel:=by unfold fuel;decide
  omega⟩
 rw [hn]
 rw [sums_step (m:=n+3) (row':=1) (ys:=[12,13,14]) (c:=3) rfl k137_0 (by rw [fuel_lt (by decide)];rfl) rfl kok_0 (s0.bd (by decide) (by decide)) rfl (by decide) (by decide)]
 rw [show runG g93 T0 (fun _=>none) [12,13,14]=g1 from rfl]
 rw [sums_step (m:=n+2) (row':=2) (ys:=[25,26,27]) (c:=3) rfl k137_1 (by rw [fuel_lt (by decide)];rfl) rfl kok_1 (s1.bd (by decide) (by decide)) rfl (by decide) (by decide)]
 rw [show runG g1 T0 (fun _=>none) [25,26,27]=g2 from rfl]
 rw [sums_step (m:=n+1) (row':=3) (ys:=[43,44,45]) (c:=3) rfl k137_2 (by rw [fuel_lt (by decide)];rfl) rfl kok_2 (s2.bd (by decide) (by decide)) rfl (by decide) (by decide)]
 exact sums_end rfl
theorem k92:f92 (D0,(1,())) = .ret (T0,0,()):=by kernel_rfl
noncomputable def oA (k:Int):Int:=match g3 k with|some p=>IntKind.i64.wrap (p.1 - figN T0 k)|none=>0
noncomputable def oB (k:Int):Int:=match g3 k with|some p=>IntKind.i64.wrap (p.2 - figN T0 k)|none=>0
theorem kA_80:oA 80=0:=by kernel_rfl
theorem kB_80:oB 80=0:=by kernel_rfl
theorem k62_80:f62 (T0,(80,((8,8,()),()))) = .ret (0,0,()):=by kernel_rfl
theorem kA_81:oA 81=0:=by kernel_rfl
theorem kB_81:oB 81=0:=by kernel_rfl
theorem k62_81:f62 (T0,(81,((8,8,()),()))) = .ret (0,0,()):=by kernel_rfl
theorem kA_82:oA 82=0:=by kernel_rfl
theorem kB_82:oB 82=1:=by kernel_rfl
theorem k62_82:f62 (T0,(82,((8,9,()),()))) = .ret (0,1,()):=by kernel_rfl
theorem kA_83:oA 83=0:=by kernel_rfl
theorem kB_83:oB 83=1:=by kernel_rfl
theorem k62_83:f62 (T0,(83,((8,9,()),()))) = .ret (0,1,()):=by kernel_rfl
theorem kA_84:oA 84=0:=by kernel_rfl
theorem kB_84:oB 84=1:=by kernel_rfl
theorem k62_84:f62 (T0,(84,((8,9,()),()))) = .ret (0,1,()):=by kernel_rfl
theorem kA_85:oA 85 = -1:=by kernel_rfl
theorem kB_85:oB 85=0:=by kernel_rfl
theorem k62_85:f62 (T0,(85,((8,9,()),()))) = .ret (-1,0,()):=by kernel_rfl
theorem kA_86:oA 86=0:=by kernel_rfl
theorem kB_86:oB 86=0:=by kernel_rfl
theorem k62_86:f62 (T0,(86,((9,9,()),()))) = .ret (0,0,()):=by kernel_rfl
theorem g3_cases {k:Int} {p:Int×Int} (h:g3 k=some p):(k=80/\p=(8,8))\/(k=81/\p=(8,8))\/(k=82/\p=(8,9))\/(k=83/\p=(8,9))\/(k=84/\p=(8,9))\/(k=85/\p=(8,9))\/(k=86/\p=(9,9)):=by
 by_cases hj:k<80\/86<k
 . rw [s3 k hj] at h;cases h
 . have:k=80\/k=81\/k=82\/k=83\/k=84\/k=85\/k=86:=by omega
   rcases this with rfl|rfl|rfl|rfl|rfl|rfl|rfl
   . rw [g3_80] at h;cases h;simp
   . rw [g3_81] at h;cases h;simp
   . rw [g3_82] at h;cases h;simp
   . rw [g3_83] at h;cases h;simp
   . rw [g3_84] at h;cases h;simp
   . rw [g3_85] at h;cases h;simp
   . rw [g3_86] at h;cases h;simp
theorem k61:S61 (D0,1,Value.func (.func 62) #[] #[],()) R61:=by
 refine ⟨rfl,⟨T0,oA,oB,g3,27,k92,ksums,s3.bd (by decide) (by decide),by decide,fun k p hk=>?_,fun xs hg hl=>?_⟩,rfl⟩
 . rcases g3_cases hk with ⟨rfl,rfl⟩|⟨rfl,rfl⟩|⟨rfl,rfl⟩|⟨rfl,rfl⟩|⟨rfl,rfl⟩|⟨rfl,rfl⟩|⟨rfl,rfl⟩
   . rw [kA_80,kB_80];exact k62_80
   . rw [kA_81,kB_81];exact k62_81
   . rw [kA_82,kB_82];exact k62_82
   . rw [kA_83,kB_83];exact k62_83
   . rw [kA_84,kB_84];exact k62_84
   . rw [kA_85,kB_85];exact k62_85
   . rw [kA_86,kB_86];exact k62_86
 . refine ends_is (lo := -1) (hi:=1) ?_ ?_ (fun x hx=>?_) (by omega)
   . have:=(hg.all 85 _ g3_85 rfl).1
     rwa [kA_85] at this
   . have:=(hg.all 82 _ g3_82 rfl).2
     rwa [kB_82] at this
   . obtain ⟨k,p,hk,e⟩:=hg.of x hx
     rcases g3_cases hk with ⟨rfl,rfl⟩|⟨rfl,rfl⟩|⟨rfl,rfl⟩|⟨rfl,rfl⟩|⟨rfl,rfl⟩|⟨rfl,rfl⟩|⟨rfl,rfl⟩
     . rw [kA_80,kB_80] at e;omega
     . rw [kA_81,kB_81] at e;omega
     . rw [kA_82,kB_82] at e;omega
     . rw [kA_83,kB_83] at e;omega
     . rw [kA_84,kB_84] at e;omega
     . rw [kA_85,kB_85] at e;omega
     . rw [kA_86,kB_86] at e;omega
theorem k61f:f61 (D0,1,Value.func (.func 62) #[] #[],()) = .ret R61:=by
 unfold f61
 rw [if_pos k61]
end Go.V
namespace Go.V
open Go.Proofs
theorem k29:f29 (D0,(1,())) = .ret ((-1,1,()),(0,())):=by
 unfold f29 F29
 dsimp only
 rw [k61f]
 rfl
theorem f9_is (h27:f27v (A0,()) = .ret ([123,45,60,7],0,())) (h29:f29v (D0,(1,())) = .ret ((-1,1,()),(0,()))) (h31:f31 ([123,45,60,7],([123,45,60,7],())) = .ret true):f9 () = .ret true:=by
 unfold A0 at h27
 unfold D0 at h29
 unfold f9 F9
 rw [h27]
 dsimp only
 rw [h29]
 dsimp only
 rw [show ((0:Int)==0)=true from rfl]
 dsimp only
 rw [h31]
 rfl
theorem k9:f9 () = .ret true:=f9_is (by rw [f27v_eq];exact k27) (by rw [f29v_eq];exact k29) k31
theorem k9v:f9v () = .ret true:=by rw [f9v_eq];exact k9
end Go.V
namespace Go.V
open Go.Proofs
def inR (x lo hi:Int):Bool:=decide (lo<=x) && decide (x<=hi)
theorem inR_iff {x lo hi:Int}:inR x lo hi=true<->lo<=x/\x<=hi:=by unfold inR;simp
theorem in_any (x lo hi:Int):((match (decide (x >= lo)) with
 | true=>.ret (decide (x<=hi))
 | false=>.ret false):Out Bool) = .ret (inR x lo hi):=by
 unfold inR
 have e:decide (x >= lo)=decide (lo<=x):=rfl
 rw [e]
 cases decide (lo<=x)<;>rfl
theorem f70_val (x lo hi:Int):f70 (x,(lo,(hi,()))) = .ret (inR x lo hi):=by unfold f70 F70;exact in_any x lo hi
theorem f71_val (x:Int):f71 (x,()) = .ret (inR x 1 4):=by unfold f71 F71;exact in_any x 1 4
theorem getD_at {α:Type} {l:List α} {i:Nat} {d:α} (h:i<l.length):List.getD l (i:Int).toNat d=l[i]:=by
 rw [Int.toNat_natCast,List.getD_eq_getElem?_getD,List.getElem?_eq_getElem h];rfl
theorem inb_at {i n:Nat} (h:i<n):inb (i:Int) n=true:=by unfold inb;simp only [Bool.and_eq_true,decide_eq_true_eq];omega
theorem lt_len {α:Type} {l:List α} {i:Nat}:decide ((i:Int)<lenI l)=decide (i<l.length):=by unfold lenI;simp
theorem fits_at {α:Type} {xs:List α} {x:α} (h:xs.length<999999):fits xs [x]=true:=by unfold fits;simp only [decide_eq_true_eq,List.length_cons,List.length_nil];omega
theorem fuel_ge {n:Nat} (h:n<1000000):n<fuel+0:=by
 have:1000000<=fuel:=by unfold fuel;decide
 omega
end Go.V
namespace Go.V
open Go.Proofs
theorem tdiv_pos {a c:Int} (h:0<=a):a.tdiv c=a / c:=Int.tdiv_eq_ediv_of_nonneg h
end Go.V
namespace Go.V
open Go.Proofs
abbrev ENT:Type:=Int×Int×(Int×Int×Unit)×Int×Int×(Int×Int×Int×Int×Unit)×Unit
abbrev BK:Type:=Int×Int×Int×Int×Int×Int×List ENT×Unit
def ENT0:ENT:=(0,0,(0,0,()),0,0,(0,0,0,0,()),())
theorem f46_val (x lo hi:Int):f46 (x,(lo,(hi,()))) = .ret (inR x lo hi):=by unfold f46 F46;exact in_any x lo hi
theorem f64_val (x:Int):f64 (x,()) = .ret (!inR x 0 800):=by unfold f64 F64;dsimp only;rw [f46_val]
def moneyB (q:Int×Int×Int×Int×Unit):Bool:=inR q.1 0 999 && (inR q.2.1 0 19 && (inR q.2.2.1 0 11 && inR q.2.2.2.1 0 3))
theorem f96_val (q:Int×Int×Int×Int×Unit):f96 (q,()) = .ret (moneyB q):=by
 unfold f96 F96 moneyB
 dsimp only
 rw [f46_val]
 cases inR q.1 0 999 with
 | false=>rfl
 | true =>
 dsimp only
 rw [f46_val]
 cases inR q.2.1 0 19 with
 | false=>rfl
 | true =>
 dsimp only
 rw [f46_val]
 cases inR q.2.2.1 0 11 with
 | false=>rfl
 | true =>
 dsimp only
 rw [f46_val]
 rfl
def topB (a:Int):Int:=if IntKind.i64.wrap (a+3)<20 then IntKind.i64.wrap (a+3) else 20
structure LineOK (p:BK) (e:ENT):Prop where
 hand:inR e.1 0 (IntKind.i64.wrap (p.1 - 1))=true
 sheets:inR e.2.1 0 20=true
 lo:inR e.2.2.1.1 0 20=true
 hi:inR e.2.2.1.2.1 e.2.2.1.1 (topB e.2.2.1.1)=true
 m1:inR e.2.2.2.1 0 10=true
 m2:inR e.2.2.2.2.1 0 10=true
 money:moneyB e.2.2.2.2.2.1=true
theorem f68_true {p:BK} {e:ENT} (h:LineOK p e):f68 (p,(e,())) = .ret true:=by
 have h4:inR e.2.2.1.2.1 e.2.2.1.1 (if IntKind.i64.wrap (e.2.2.1.1+3)<20 then IntKind.i64.wrap (e.2.2.1.1+3) else 20)=true:=h.hi
 unfold f68 F68
 dsimp only
 rw [f46_val,h.lo]
 dsimp only
 rw [f46_val,h4]
 dsimp only
 rw [f46_val,h.hand]
 dsimp only
 rw [f46_val,h.sheets]
 dsimp only
 rw [f46_val,h.m1]
 dsimp only
 rw [f46_val,h.m2]
 dsimp only
 rw [f96_val,h.money]
structure BookOK (p:BK):Prop where
 n1:inR p.1 1 3=true
 n2:inR p.2.1 1 48=true
 r1:inR p.2.2.1 0 800=true
 r2:inR p.2.2.2.1 0 800=true
 r3:inR p.2.2.2.2.1 0 800=true
 r4:inR p.2.2.2.2.2.1 0 800=true
 len:inR (lenI p.2.2.2.2.2.2.1) 1 5=true
 line:∀ i,i<p.2.2.2.2.2.2.1.length->LineOK p (p.2.2.2.2.2.2.1.getD i ENT0)
end Go.V
namespace Go.V
open Go.Proofs
theorem l69_none {xs:List Int} (hl:xs.length<1000000) (h:∀ x∈xs,inR x 0 800=true):f69a (xs,((Value.func (.func 64) #[] #[]),())) = .ret (-1):=by
 have e0:f69a (xs,((Value.func (.func 64) #[] #[]),()))=F69a fuel (xs,((Value.func (.func 64) #[] #[]),())):=by
  unfold f69a
  exact e69a fuel (xs,((Value.func (.func 64) #[] #[]),()))
 rw [e0]
 unfold F69a
 have key:∀ n (i:Nat),i<=xs.length->xs.length<n+i->L69a_0 fuel n (xs,((Value.func (.func 64) #[] #[]),())) (i:Int) = .ret (-1):=by
  intro n
  induction n with
  | zero=>intro i h1 h2;omega
  | succ n ih =>
   intro i h1 h2
   rw [L69a_0_succ]
   dsimp only
   rw [lt_len]
   by_cases hi:i<xs.length
   . rw [decide_eq_true hi,inb_at hi,getD_at hi]
     simp only [cond_true]
     rw [f64_val,h _ (List.getElem_mem hi)]
     dsimp only [Bool.not_true]
     rw [wrap_small (by omega)]
     exact ih (i+1) (by omega) (by omega)
   . rw [decide_eq_false hi]
 exact key fuel 0 (by omega) (fuel_ge hl)
theorem f65_none {xs:List Int} (hl:xs.length<1000000) (h:∀ x∈xs,inR x 0 800=true):f65a (xs,((Value.func (.func 64) #[] #[]),())) = .ret false:=by
 have e0:f65a (xs,((Value.func (.func 64) #[] #[]),()))=F65a fuel (xs,((Value.func (.func 64) #[] #[]),())):=by
  unfold f65a
  exact e65a fuel (xs,((Value.func (.func 64) #[] #[]),()))
 rw [e0]
 unfold F65a
 dsimp only
 rw [l69_none hl h]
 rfl
theorem f95_none {p:BK} {es:List ENT} (hl:es.length<1000000) (h:∀ i,i<es.length->LineOK p (es.getD i ENT0)):f95a (es,(((),(p,())),())) = .ret (-1):=by
 unfold f95a F95a
 have key:∀ n (i:Nat),i<=es.length->es.length<n+i->L95a_0 fuel n (es,(((),(p,())),())) (i:Int) = .ret (-1):=by
  intro n
  induction n with
  | zero=>intro i h1 h2;omega
  | succ n ih =>
   intro i h1 h2
   rw [L95a_0_succ]
   dsimp only
   rw [lt_len]
   by_cases hi:i<es.length
   . rw [decide_eq_true hi,inb_at hi]
     simp only [cond_true,Int.toNat_natCast]
     have e0:(List.getD es i ((0:Int),((0:Int),(((0:Int),((0:Int),())),((0:Int),((0:Int),(((0:Int),((0:Int),((0:Int),((0:Int),())))),())))))))=es.getD i ENT0:=rfl
     rw [e0]
     have e:f67 (es.getD i ENT0,(p,())) = .ret false:=by
      unfold f67 F67
      dsimp only
      rw [f68_true (h i hi)]
      rfl
     rw [e]
     dsimp only
     rw [wrap_small (by omega)]
     exact ih (i+1) (by omega) (by omega)
   . rw [decide_eq_false hi]
 exact key fuel 0 (by omega) (fuel_ge hl)
theorem f32_true {p:BK} (h:BookOK p):f32 (p,()) = .ret true:=by
 have h7:=inR_iff.1 h.len
 have hl:p.2.2.2.2.2.2.1.length<=5:=by unfold lenI at h7;omega
 unfold f32 F32
 dsimp only
 rw [f46_val,h.n1]
 simp only [Bool.not_true]
 rw [f46_val,h.n2]
 simp only [Bool.not_true]
 rw [f46_val,h.len]
 simp only [Bool.not_true]
 rw [f65_none (by simp) (fun x hx=>by
  simp only [List.mem_cons,List.not_mem_nil,or_false] at hx
  rcases hx with rfl|rfl|rfl|rfl
  . exact h.r1
  . exact h.r2
  . exact h.r3
  . exact h.r4)]
 dsimp only
 unfold f66a F66a
 dsimp only
 rw [f95_none (p:=p) (by omega) h.line]
 rfl
end Go.V
namespace Go.V
open Go.Proofs
section
variable {p : BK} {k0 : Int} {nn : Nat}
end
theorem f97_pos {u v:Int} (hu:0<u) (h1:0<=v) (h2:v<=1000000000):f97 ((u,()),(v,())) = .ret (v / u):=by
 have hq0:0<=v / u:=Int.ediv_nonneg h1 (by omega)
 have hq1:v / u<=v:=Int.ediv_le_self _ h1
 have hm:v / u * u<=v:=Int.ediv_mul_le _ (by omega)
 have hm0:0<=v / u * u:=Int.mul_nonneg hq0 (by omega)
 unfold f97 F97
 dsimp only
 rw [show (u != (0:Int))=true by simp;omega]
 simp only [cond_true]
 rw [tdiv_pos h1,wr (x:=v / u) (by omega) (by omega),wr (x:=v / u * u) (by omega) (by omega),decide_eq_false (by omega)]
theorem f12_of {u v r rule:Int} (hr1:0<=r) (hr2:r<=1000000000) (h:f39 (v,(u,(rule,()))) = .ret (r,(0,()))):f12 (v,(u,(rule,()))) = .ret (r,(true,())):=by
 unfold f12 F12
 dsimp only
 rw [h]
 dsimp only
 rw [show ((0:Int)==0)=true from rfl]
 dsimp only
 rw [decide_eq_true (show r >= -1099511627776 by omega)]
 dsimp only
 rw [decide_eq_true (show r<=1099511627776 by omega)]
theorem f12_down {u v:Int} (hu:0<u) (hu2:u<=1000) (h1:0<=v) (h2:v<=1000000000):f12 (v,(u,((1:Int),()))) = .ret (v / u,(true,())):=by
 have hq0:0<=v / u:=Int.ediv_nonneg h1 (by omega)
 have hq1:v / u<=v:=Int.ediv_le_self _ h1
 refine f12_of hq0 (by omega) ?_
 unfold f39 F39
 dsimp only
 rw [f70_val,inR_iff.2 (show -1099511627776<=v/\v<=1099511627776 by omega)]
 simp only [Bool.not_true]
 rw [f70_val,inR_iff.2 (show 1<=u/\u<=1048576 by omega)]
 simp only [Bool.not_true]
 rw [f71_val,show inR 1 1 4=true by decide]
 simp only [Bool.not_true]
 rw [show ((1:Int)==0)=false from rfl,show ((1:Int)==1)=true from rfl]
 simp only [cond_true,cond_false]
 rw [f97_pos hu h1 h2]
end Go.V
namespace Go.V
open Go.Proofs
def LN (s e:Int):LIN:=(0,(s,((e,(e,())),(0,(0,((0,(0,(0,(0,())))),()))))))
abbrev DLN:LIN:=((0:Int),((0:Int),(((0:Int),((0:Int),())),((0:Int),((0:Int),(((0:Int),((0:Int),((0:Int),((0:Int),())))),()))))))
def BKU (u r f:Int) (ls:List LIN):BKD:=(1,(u,(r,(f,(0,(0,(ls,())))))))
def Own (r f s e:Int):Int:=if r * s - f * e > 0 then r * s - f * e else 0
structure InU (u r f s e:Int):Prop where
 u1:1<=u
 u2:u<=48
 r1:0<=r
 r2:r<=800
 f1:0<=f
 f2:f<=800
 s1:0<=s
 s2:s<=20
 e1:0<=e
 e2:e<=20
section
variable {u r f s e : Int}
theorem prod_bd {x y:Int} (h1:0<=x) (h2:x<=800) (h3:0<=y) (h4:y<=20):0<=x * y/\x * y<=16000 :=
 ⟨Int.mul_nonneg h1 h3,Int.mul_le_mul h2 h4 h3 (by omega)⟩
theorem Own_bd (h:InU u r f s e):0<=Own r f s e/\Own r f s e<=16000:=by
 have h1:=prod_bd h.r1 h.r2 h.s1 h.s2
 have h2:=prod_bd h.f1 h.f2 h.e1 h.e2
 unfold Own
 split<;>omega
theorem f81_val (h:InU u r f s e) {n i:Nat} (hi:i<n):f81 ((BKU u r f (List.replicate n (LN s e)),(List.replicate n e,())),((i:Int),())) = .ret (Own r f s e):=by
 have h1:=prod_bd h.r1 h.r2 h.s1 h.s2
 have h2:=prod_bd h.f1 h.f2 h.e1 h.e2
 unfold f81 F81 BKU
 dsimp only
 rw [inb_at (by simpa using hi),inb_at (by simpa using hi)]
 simp only [cond_true]
 rw [getD_at (by simpa using hi),getD_at (by simpa using hi),List.getElem_replicate,List.getElem_replicate]
 show Out.ret (if IntKind.i64.wrap (IntKind.i64.wrap (r * s) - IntKind.i64.wrap (f * e)) > 0 then IntKind.i64.wrap (IntKind.i64.wrap (r * s) - IntKind.i64.wrap (f * e)) else 0)=_
 rw [wr (x:=r * s) (by omega) (by omega),wr (x:=f * e) (by omega) (by omega),wr (by omega) (by omega)]
 rfl
theorem f82_val {n i:Nat} (hi:i<n) (es:List Int):f82 ((BKU u r f (List.replicate n (LN s e)),(es,())),((i:Int),())) = .ret 0:=by
 unfold f82 F82 BKU
 dsimp only
 rw [inb_at (by simpa using hi)]
 simp only [cond_true]
 rw [getD_at (by simpa using hi),List.getElem_replicate]
 rfl
theorem f83_val {n i:Nat} (hi:i<n) (es:List Int):f83 ((BKU u r f (List.replicate n (LN s e)),(es,())),((i:Int),())) = .ret 0:=by
 unfold f83 F83 BKU
 dsimp only
 rw [inb_at (by simpa using hi)]
 simp only [cond_true]
 rw [getD_at (by simpa using hi),List.getElem_replicate]
 rfl
theorem f49_val (h:InU u r f s e) {n i:Nat} (hi:i<n):f49 ((BKU u r f (List.replicate n (LN s e)),(List.replicate n e,())),((i:Int),())) = .ret (Own r f s e):=by
 have hb:=Own_bd h
 unfold f49
 rw [f81_val h hi,f82_val hi,f83_val hi]
 have h':IntKind.i64.wrap (Own r f s e)=Own r f s e:=wr (by omega) (by omega)
 simp only [Int.zero_add,Int.add_zero,h']
noncomputable abbrev L52 (N n:Nat) (v:Value) (u r f:Int) (ls:List LIN) (es out:List Int) (i:Int) (s:S52):Out (List Int×GI×Nat) :=
 L52_0 N n v ((BKU u r f ls,(es,())),()) 1 u r f 0 0 ls es out i s
theorem l52_end {N n:Nat} {v:Value} {ls:List LIN} {es out:List Int} {i:Int} {g:GI} {k:Nat} (h:decide (i<lenI ls)=false):L52 N (n+1) v u r f ls es out i (some (v,g,k)) = .ret (out,(g,k)):=by
 unfold L52
 rw [L52_0_succ]
 show (match decide (i<lenI ls) with|true=>_|false=>endM (some (v,g,k)) out v)=_
 rw [h]
 show (bif isV v v then Out.ret (out,(g,k)) else .fail)=_
 rw [isV_refl]
 rfl
theorem rng0:rng 0=true:=by decide
theorem l52_step (h:InU u r f s e) {N n:Nat} {v:Value} {m i:Nat} {out:List Int} {g:GI} {k:Nat} (hi:i<m) (hm:m<100) (hk:k<100) (ho:out.length<100) (hg:0<=(g 0).getD 0/\(g 0).getD 0<48) :
 L52 N (n+1) v u r f (List.replicate m (LN s e)) (List.replicate m e) out (i:Int) (some (v,g,k)) =
  L52 N n v u r f (List.replicate m (LN s e)) (List.replicate m e) (out++[Own r f s e+(g 0).getD 0 - (Own r f s e+(g 0).getD 0) % u]) ((i+1:Nat):Int) (some (v,updI g 0 ((Own r f s e+(g 0).getD 0) % u),k+1)):=by
 have hb:=Own_bd h
 have hu:=h.u1
 have hu2:=h.u2
 have hx0:0<=Own r f s e+(g 0).getD 0:=by omega
 have hmod:=Int.emod_nonneg (Own r f s e+(g 0).getD 0) (b:=u) (by omega)
 have hmod2:=Int.emod_lt_of_pos (Own r f s e+(g 0).getD 0) (b:=u) (by omega)
 have hw:IntKind.i64.wrap (Own r f s e+(g 0).getD 0)=Own r f s e+(g 0).getD 0:=wr (by omega) (by omega)
 have ht:(Own r f s e+(g 0).getD 0).tmod u=(Own r f s e+(g 0).getD 0) % u:=Int.tmod_eq_emod_of_nonneg hx0
 have hkey:(List.getD (List.replicate m (LN s e)) ((i:Int)).toNat DLN).1=0:=by rw [getD_at (by simpa using hi),List.getElem_replicate];rfl
 have e3:=f49_val h hi
 dsimp only [BKU] at e3
 have e4:isM (some (v,g,k)) v 0=true:=by unfold isM;dsimp only;rw [isV_refl,rng0];rfl
 have e5:okM (some (v,g,k)) v 0=true:=by unfold okM;dsimp only;rw [isV_refl,rng0,decide_eq_true (by omega)];rfl
 have e6:(u != (0:Int))=true:=by rw [bne_iff_ne];omega
 have e7:gM (some (v,g,k)) 0=(g 0).getD 0:=rfl
 have e8:∀ x,fits out [x]=true:=fun x=>fits_at (by omega)
 have e9:∀ x,uM (some (v,g,k)) 0 x=some (v,updI g 0 x,k+1):=fun x=>rfl
 have e10:IntKind.i64.wrap ((i:Int)+1)=((i+1:Nat):Int):=wrap_small (by omega)
 unfold L52
 rw [L52_0_succ]
 show (match decide ((i:Int)<lenI (List.replicate m (LN s e))) with|true=>_|false=>_)=_
 rw [lt_len,decide_eq_true (by simpa using hi)]
 dsimp only [BKU]
 rw [inb_at (by simpa using hi)]
 simp only [cond_true]
 rw [e3]
 dsimp only
 rw [hkey,e7,e4,e5,e6,hw,ht,wr (x:=Own r f s e+(g 0).getD 0 - (Own r f s e+(g 0).getD 0) % u) (by omega) (by omega),e8,e9,e10]
 simp only [Bool.and_self,cond_true]
theorem F52_one (h:InU u r f s e):F52 fuel ((BKU u r f [LN s e],([e],())),()) = .ret ([Own r f s e - Own r f s e % u],updI (fun _=>none) 0 (Own r f s e % u),1):=by
 refine allOf_eq fun v=>?_
 have key:∀ N n,3<=n->L52 N n v u r f (List.replicate 1 (LN s e)) (List.replicate 1 e) [] ((0:Nat):Int) (some (v,fun _=>none,0)) = .ret ([Own r f s e - Own r f s e % u],updI (fun _=>none) 0 (Own r f s e % u),1):=by
  intro N n hn
  obtain ⟨n,rfl⟩:∃ k,n=k+3:=⟨n - 3,by omega⟩
  rw [l52_step h (by omega) (by omega) (by omega) (by simp) ⟨Int.le_refl _,by decide⟩]
  rw [l52_end (by rw [lt_len];simp)]
  simp
 exact key fuel fuel (by have:=fuel_ge (n:=3) (by omega);omega)
theorem F52_two (h:InU u r f s e):F52 fuel ((BKU u r f [LN s e,LN s e],([e,e],())),()) = .ret ([Own r f s e - Own r f s e % u,Own r f s e+Own r f s e % u - (Own r f s e+Own r f s e % u) % u],updI (updI (fun _=>none) 0 (Own r f s e % u)) 0 ((Own r f s e+Own r f s e % u) % u),2):=by
 have hu:=h.u1
 have hu2:=h.u2
 have hmod:=Int.emod_nonneg (Own r f s e) (b:=u) (by omega)
 have hmod2:=Int.emod_lt_of_pos (Own r f s e) (b:=u) (by omega)
 refine allOf_eq fun v=>?_
 have key:∀ N n,3<=n->L52 N n v u r f (List.replicate 2 (LN s e)) (List.replicate 2 e) [] ((0:Nat):Int) (some (v,fun _=>none,0)) = .ret ([Own r f s e - Own r f s e % u,Own r f s e+Own r f s e % u - (Own r f s e+Own r f s e % u) % u],updI (updI (fun _=>none) 0 (Own r f s e % u)) 0 ((Own r f s e+Own r f s e % u) % u),2):=by
  intro N n hn
  obtain ⟨n,rfl⟩:∃ k,n=k+3:=⟨n - 3,by omega⟩
  rw [l52_step h (by omega) (by omega) (by omega) (by simp) ⟨Int.le_refl _,by decide⟩]
  have e0:((fun _=>none:GI) 0).getD 0=0:=rfl
  rw [e0,Int.add_zero]
  have e1:(updI (fun _=>none) 0 (Own r f s e % u) 0).getD 0=Own r f s e % u:=by unfold updI;rw [if_pos rfl];rfl
  rw [l52_step h (by omega) (by omega) (by omega) (by simp) (by rw [e1];omega),e1]
  rw [l52_end (by rw [lt_len];simp)]
  simp
 exact key fuel fuel (by have:=fuel_ge (n:=3) (by omega);omega)
end
end Go.V
namespace Go.V
open Go.Proofs
section
variable {u r f s e : Int}
theorem ln_ok (h:InU u r f s e) {ls:List LIN}:LineOK (BKU u r f ls) (LN s e):=by
 have h1:=h.e1
 have h2:=h.e2
 refine ⟨by show inR 0 0 (IntKind.i64.wrap (1 - 1))=true;decide,inR_iff.2 ⟨h.s1,h.s2⟩,inR_iff.2 ⟨h1,h2⟩,inR_iff.2 ⟨Int.le_refl _,?_⟩,by show inR 0 0 10=true;decide,by show inR 0 0 10=true;decide,by show moneyB (0,(0,(0,(0,()))))=true;decide⟩
 show e<=topB e
 unfold topB
 rw [wr (by omega) (by omega)]
 split<;>omega
theorem bk_ok (h:InU u r f s e) {n:Nat} (h1:1<=n) (h5:n<=5):BookOK (BKU u r f (List.replicate n (LN s e))):=by
 refine ⟨by show inR 1 1 3=true;decide,inR_iff.2 ⟨h.u1,h.u2⟩,inR_iff.2 ⟨h.r1,h.r2⟩,inR_iff.2 ⟨h.f1,h.f2⟩,by show inR 0 0 800=true;decide,by show inR 0 0 800=true;decide,inR_iff.2 ?_,fun i hi=>?_⟩
 . show 1<=lenI (List.replicate n (LN s e))/\lenI (List.replicate n (LN s e))<=5
   unfold lenI
   rw [List.length_replicate]
   omega
 . have hi:i<(List.replicate n (LN s e)).length:=hi
   show LineOK _ ((List.replicate n (LN s e)).getD i ENT0)
   rw [List.getD_eq_getElem?_getD,List.getElem?_eq_getElem hi,List.getElem_replicate]
   exact ln_ok h
theorem f105_val (h:InU u r f s e) {n:Nat} (hn:n<=5):f105 ((),(BKU u r f (List.replicate n (LN s e)),())) = .ret [(BKU u r f (List.replicate n (LN s e)),(List.replicate n e,()))]:=by
 have h1:=h.e1
 have h2:=h.e2
 unfold f105
 have e1:oneB (BKU u r f (List.replicate n (LN s e)))=true:=by
  unfold oneB
  rw [Bool.and_eq_true]
  refine ⟨decide_eq_true ?_,List.all_eq_true.2 fun ln hl=>?_⟩
  . show (List.replicate n (LN s e)).length<1000000
    rw [List.length_replicate];omega
  . have hl:ln∈List.replicate n (LN s e):=hl
    rw [(List.mem_replicate.1 hl).2]
    show (decide (e=e) && (decide (-1000000000<e) && decide (e<1000000000)))=true
    rw [decide_eq_true rfl,decide_eq_true (by omega),decide_eq_true (by omega)]
    rfl
 have e2:lowsB (BKU u r f (List.replicate n (LN s e)))=List.replicate n e:=by
  show (List.replicate n (LN s e)).map (fun ln=>ln.2.2.1.1)=_
  rw [List.map_replicate]
  rfl
 show (bif oneB (BKU u r f (List.replicate n (LN s e))) then Out.ret [(BKU u r f (List.replicate n (LN s e)),(lowsB (BKU u r f (List.replicate n (LN s e))),()))] else .fail)=_
 rw [e1,e2]
 rfl
theorem if_lt (x:Int):(if x<x then x else x)=x:=by split<;>rfl
theorem f20_val (h:InU u r f s e):f20 (BKU u r f [LN s e],((0:Int),())) = .ret ((Own r f s e,(Own r f s e,())),((0:Int),())):=by
 have e47:f47a (BKU u r f (List.replicate 1 (LN s e)),(((),((0:Int),())),((Value.func (.func 50) #[] #[]),()))) = .ret ((Own r f s e,(Own r f s e,())),((0:Int),())):=by
  have e0:f47a (BKU u r f (List.replicate 1 (LN s e)),(((),((0:Int),())),((Value.func (.func 50) #[] #[]),())))=F47a fuel (BKU u r f (List.replicate 1 (LN s e)),(((),((0:Int),())),((Value.func (.func 50) #[] #[]),()))):=by
   unfold f47a
   exact e47a fuel (BKU u r f (List.replicate 1 (LN s e)),(((),((0:Int),())),((Value.func (.func 50) #[] #[]),())))
  rw [e0]
  unfold F47a
  dsimp only
  rw [f105_val h (by omega)]
  dsimp only
  rw [R47a_0_cons]
  have e48:f48 ((BKU u r f (List.replicate 1 (LN s e)),(List.replicate 1 e,())),((0:Int),())) = .ret (Own r f s e):=by
   unfold f48 F48
   dsimp only
   rw [show (0:Int)=((0:Nat):Int) from rfl,f49_val h (by omega)]
  rw [e48]
  simp only [Bool.not_false]
  rw [R47a_0_nil,if_lt]
  rfl
 unfold f20 F20
 dsimp only
 rw [show BKU u r f [LN s e]=BKU u r f (List.replicate 1 (LN s e)) from rfl,f32_true (bk_ok h (by omega) (by omega))]
 simp only [Bool.not_true]
 rw [f46_val]
 have e1:inR 0 0 (IntKind.i64.wrap (lenI (BKU u r f (List.replicate 1 (LN s e))).2.2.2.2.2.2.1 - 1))=true:=by
  show inR 0 0 (IntKind.i64.wrap (1 - 1))=true
  decide
 rw [e1]
 simp only [Bool.not_true]
 rw [e47]
theorem f51_val (h:InU u r f s e):f51 (BKU u r f [LN s e],([e],())) = .ret true:=by
 have h1:=h.e1
 unfold f51 F51
 show (match (lenI ([e]:List Int) != lenI ([LN s e]:List LIN)) with|true=>Out.ret false|false=>L51_0 fuel fuel (BKU u r f [LN s e],([e],())) 0)=_
 rw [show (lenI ([e]:List Int) != lenI ([LN s e]:List LIN))=false from rfl]
 dsimp only
 have key:∀ N n,3<=n->L51_0 N n (BKU u r f [LN s e],([e],())) 0 = .ret true:=by
  intro N n hn
  obtain ⟨n,rfl⟩:∃ k,n=k+3:=⟨n - 3,by omega⟩
  rw [L51_0_succ]
  show (match f46 (e,(e,(e,()))) with | .ret r_2=>(match (!r_2) with|true=>Out.ret false|false=>L51_0 N (n+2) (BKU u r f [LN s e],([e],())) (IntKind.i64.wrap (0+1))) | .pan p_3=>.pan p_3 | .fail=>.fail)=_
  rw [f46_val,inR_iff.2 ⟨Int.le_refl _,Int.le_refl _⟩]
  simp only [Bool.not_true]
  rw [show IntKind.i64.wrap (0+1)=1 by decide,L51_0_succ]
  rfl
 exact key fuel fuel (by have:=fuel_ge (n:=3) (by omega);omega)
theorem f21_val (h:InU u r f s e):f21 (BKU u r f [LN s e],([e],())) = .ret ([Own r f s e - Own r f s e % u],((0:Int),())):=by
 unfold f21 F21
 dsimp only
 rw [show BKU u r f [LN s e]=BKU u r f (List.replicate 1 (LN s e)) from rfl,f32_true (bk_ok h (by omega) (by omega))]
 simp only [Bool.not_true]
 rw [show BKU u r f (List.replicate 1 (LN s e))=BKU u r f [LN s e] from rfl,f51_val h]
 simp only [Bool.not_true]
 have e52:f52 ((BKU u r f [LN s e],([e],())),()) = .ret ([Own r f s e - Own r f s e % u],((),())):=by
  unfold f52
  rw [F52_one h]
 rw [e52]
theorem f22_val (h:InU u r f s e):f22 (BKU u r f [LN s e],([e],((0:Int),()))) = .ret (Own r f s e % u,((0:Int),())):=by
 have hok:okP (BKU u r f [LN s e],([e],()))=true:=by unfold okP;rw [F52_one h]
 have hy:yP (BKU u r f [LN s e],([e],()))=([Own r f s e - Own r f s e % u],updI (fun _=>none) 0 (Own r f s e % u),1):=by unfold yP;rw [F52_one h]
 have hF:F22 fuel (BKU u r f [LN s e],([e],((0:Int),()))) = .ret ((none:S52),(Own r f s e % u,((0:Int),()))):=by
  unfold F22
  dsimp only
  rw [show BKU u r f [LN s e]=BKU u r f (List.replicate 1 (LN s e)) from rfl,f32_true (bk_ok h (by omega) (by omega))]
  simp only [Bool.not_true]
  rw [show BKU u r f (List.replicate 1 (LN s e))=BKU u r f [LN s e] from rfl,f51_val h]
  simp only [Bool.not_true]
  rw [f46_val]
  have e1:inR 0 0 (IntKind.i64.wrap ((BKU u r f [LN s e]).1 - 1))=true:=by
   show inR 0 0 (IntKind.i64.wrap (1 - 1))=true
   decide
  rw [e1]
  simp only [Bool.not_true]
  rw [hok,hy]
  simp only [Bool.and_self,cond_true]
  refine allOf_eq fun v=>?_
  have e4:isM (some (v,(updI (fun _=>none) 0 (Own r f s e % u),1))) v 0=true:=by unfold isM;dsimp only;rw [isV_refl,rng0];rfl
  have e5:gM (some (v,(updI (fun _=>none) 0 (Own r f s e % u),1))) 0=Own r f s e % u:=by unfold gM updI;dsimp only;rw [if_pos rfl];rfl
  rw [e4,e5]
  rfl
 unfold f22
 rw [hF]
 rfl
theorem tot_eq {m u:Int} (hu:0<u):0+(m - m % u)+(m+m % u - (m+m % u) % u)=2 * m / u * u:=by
 have h1:(m+m % u) % u=(2 * m) % u:=by
  rw [Int.add_emod,Int.emod_emod_of_dvd _ (Int.dvd_refl u),<- Int.add_emod]
  congr 1
  omega
 have h2:=Int.emod_add_mul_ediv (2 * m) u
 rw [h1]
 have h3:u * (2 * m / u)=2 * m / u * u:=Int.mul_comm _ _
 omega
theorem l54_step {N n:Nat} {ls:List LIN} {es xs:List Int} {acc:Int} {i:Nat} (h1:i<xs.length) (h2:i<ls.length) (hk:ls[i].1=0):L54_0 N (n+1) ((BKU u r f ls,(es,())),((0:Int),())) (xs,((),())) acc (i:Int)=L54_0 N n ((BKU u r f ls,(es,())),((0:Int),())) (xs,((),())) (IntKind.i64.wrap (acc+xs[i])) (IntKind.i64.wrap ((i:Int)+1)):=by
 rw [L54_0_succ]
 show (match decide ((i:Int)<lenI xs) with|true=>_|false=>_)=_
 rw [lt_len,decide_eq_true h1]
 dsimp only [BKU]
 rw [inb_at h1,inb_at h2]
 simp only [cond_true]
 rw [getD_at h1,getD_at h2,hk]
 rfl
theorem l54_end {N n:Nat} {ls:List LIN} {es xs:List Int} {acc i:Int} (h:decide (i<lenI xs)=false):L54_0 N (n+1) ((BKU u r f ls,(es,())),((0:Int),())) (xs,((),())) acc i = .ret acc:=by
 rw [L54_0_succ]
 show (match decide (i<lenI xs) with|true=>_|false=>Out.ret acc)=_
 rw [h]
theorem f23_val (h:InU u r f s e):f23 (BKU u r f [LN s e,LN s e],((0:Int),())) = .ret ((2 * Own r f s e / u * u,(2 * Own r f s e / u * u,())),((0:Int),())):=by
 have hb:=Own_bd h
 have hu:=h.u1
 have hu2:=h.u2
 have hmod:=Int.emod_nonneg (Own r f s e) (b:=u) (by omega)
 have hmod2:=Int.emod_lt_of_pos (Own r f s e) (b:=u) (by omega)
 have hmod3:=Int.emod_nonneg (Own r f s e+Own r f s e % u) (b:=u) (by omega)
 have hmod4:=Int.emod_lt_of_pos (Own r f s e+Own r f s e % u) (b:=u) (by omega)
 have hq:=Int.emod_add_mul_ediv (Own r f s e) u
 have hq0:0<=u * (Own r f s e / u):=Int.mul_nonneg (by omega) (Int.ediv_nonneg hb.1 (by omega))
 have hq':=Int.emod_add_mul_ediv (Own r f s e+Own r f s e % u) u
 have hq1:0<=u * ((Own r f s e+Own r f s e % u) / u):=Int.mul_nonneg (by omega) (Int.ediv_nonneg (by omega) (by omega))
 have ht:=tot_eq (m:=Own r f s e) (u:=u) (by omega)
 have e52:f52 ((BKU u r f [LN s e,LN s e],([e,e],())),()) = .ret ([Own r f s e - Own r f s e % u,Own r f s e+Own r f s e % u - (Own r f s e+Own r f s e % u) % u],((),())):=by
  unfold f52
  rw [F52_two h]
 have key:∀ N n (a b:Int),4<=n->0<=a->a<=100000->0<=b->b<=100000->L54_0 N n ((BKU u r f (List.replicate 2 (LN s e)),([e,e],())),((0:Int),())) ([a,b],((),())) 0 ((0:Nat):Int) = .ret (0+a+b):=by
  intro N n a b hn h1 h2 h3 h4
  obtain ⟨n,rfl⟩:∃ k,n=k+4:=⟨n - 4,by omega⟩
  rw [l54_step (i:=0) (by simp) (by simp) (by rw [List.getElem_replicate];rfl),show IntKind.i64.wrap (((0:Nat):Int)+1)=((1:Nat):Int) by decide,l54_step (i:=1) (by simp) (by simp) (by rw [List.getElem_replicate];rfl),show IntKind.i64.wrap (((1:Nat):Int)+1)=((2:Nat):Int) by decide,l54_end (by rw [lt_len];simp)]
  simp only [List.getElem_cons_zero,List.getElem_cons_succ]
  rw [wr (x:=0+a) (by omega) (by omega),wr (by omega) (by omega)]
 have e54:f54 ((BKU u r f [LN s e,LN s e],([e,e],())),((0:Int),())) = .ret (2 * Own r f s e / u * u):=by
  unfold f54 F54
  dsimp only
  rw [e52]
  dsimp only
  rw [show BKU u r f [LN s e,LN s e]=BKU u r f (List.replicate 2 (LN s e)) from rfl]
  exact (key fuel fuel _ _ (by have:=fuel_ge (n:=4) (by omega);omega) (by omega) (by omega) (by omega) (by omega)).trans (by rw [ht])
 have e47:f47b (BKU u r f (List.replicate 2 (LN s e)),(((),((0:Int),())),((Value.func (.func 50) #[] #[]),()))) = .ret ((2 * Own r f s e / u * u,(2 * Own r f s e / u * u,())),((0:Int),())):=by
  have e0:f47b (BKU u r f (List.replicate 2 (LN s e)),(((),((0:Int),())),((Value.func (.func 50) #[] #[]),())))=F47b fuel (BKU u r f (List.replicate 2 (LN s e)),(((),((0:Int),())),((Value.func (.func 50) #[] #[]),()))):=by
   unfold f47b
   exact e47b fuel (BKU u r f (List.replicate 2 (LN s e)),(((),((0:Int),())),((Value.func (.func 50) #[] #[]),())))
  rw [e0]
  unfold F47b
  dsimp only
  rw [f105_val h (by omega)]
  dsimp only
  rw [R47b_0_cons]
  have e53:f53 ((BKU u r f (List.replicate 2 (LN s e)),(List.replicate 2 e,())),((0:Int),())) = .ret (2 * Own r f s e / u * u):=by
   unfold f53 F53
   dsimp only
   rw [show List.replicate 2 (LN s e)=[LN s e,LN s e] from rfl,show List.replicate 2 e=[e,e] from rfl,e54]
  rw [e53]
  simp only [Bool.not_false]
  rw [R47b_0_nil,if_lt]
  rfl
 unfold f23 F23
 dsimp only
 rw [show BKU u r f [LN s e,LN s e]=BKU u r f (List.replicate 2 (LN s e)) from rfl,f32_true (bk_ok h (by omega) (by omega))]
 simp only [Bool.not_true]
 rw [f46_val]
 have e1:inR 0 0 (IntKind.i64.wrap ((BKU u r f (List.replicate 2 (LN s e))).1 - 1))=true:=by
  show inR 0 0 (IntKind.i64.wrap (1 - 1))=true
  decide
 rw [e1]
 simp only [Bool.not_true]
 rw [e47]
end
theorem f5_true (x:Int×Int×Int×Int×Int×Unit):f5 x = .ret true:=by
 obtain ⟨u,r,f,s,e,⟨⟩⟩:=x
 unfold f5 F5
 dsimp only
 rw [k9v]
 by_cases c1:u<1
 . rw [decide_eq_true c1]
 rw [decide_eq_false c1]
 by_cases c2:u > 48
 . rw [decide_eq_true c2]
 rw [decide_eq_false c2]
 by_cases c3:r<0
 . rw [decide_eq_true c3]
 rw [decide_eq_false c3]
 by_cases c4:r > 800
 . rw [decide_eq_true c4]
 rw [decide_eq_false c4]
 by_cases c5:f<0
 . rw [decide_eq_true c5]
 rw [decide_eq_false c5]
 by_cases c6:f > 800
 . rw [decide_eq_true c6]
 rw [decide_eq_false c6]
 by_cases c7:s<0
 . rw [decide_eq_true c7]
 rw [decide_eq_false c7]
 by_cases c8:s > 20
 . rw [decide_eq_true c8]
 rw [decide_eq_false c8]
 by_cases c9:e<0
 . rw [decide_eq_true c9]
 rw [decide_eq_false c9]
 by_cases c10:e > 20
 . rw [decide_eq_true c10]
 rw [decide_eq_false c10]
 have h:InU u r f s e:=⟨by omega,by omega,by omega,by omega,by omega,by omega,by omega,by omega,by omega,by omega⟩
 have hb:=Own_bd h
 have hu:=h.u1
 have hu2:=h.u2
 have h20:=f20_val h
 have h21:=f21_val h
 have h22:=f22_val h
 have h23:=f23_val h
 have hd1:0<=Own r f s e / u:=Int.ediv_nonneg hb.1 (by omega)
 have hd2:Own r f s e / u * u=Own r f s e - Own r f s e % u:=by have:=Int.emod_add_mul_ediv (Own r f s e) u;have h3:u * (Own r f s e / u)=Own r f s e / u * u:=Int.mul_comm _ _;omega
 have hd3:0<=2 * Own r f s e / u:=Int.ediv_nonneg (by omega) (by omega)
 have hd4:2 * Own r f s e / u * u=2 * Own r f s e - 2 * Own r f s e % u:=by have:=Int.emod_add_mul_ediv (2 * Own r f s e) u;have h3:u * (2 * Own r f s e / u)=2 * Own r f s e / u * u:=Int.mul_comm _ _;omega
 have hm1:=Int.emod_nonneg (Own r f s e) (b:=u) (by omega)
 have hm2:=Int.emod_lt_of_pos (Own r f s e) (b:=u) (by omega)
 have hm3:=Int.emod_nonneg (2 * Own r f s e) (b:=u) (by omega)
 have hm4:=Int.emod_lt_of_pos (2 * Own r f s e) (b:=u) (by omega)
 unfold BKU LN at h20 h21 h22 h23
 dsimp only
 rw [h20,h21,h22,h23]
 dsimp only
 generalize hm:Own r f s e=m at *
 rw [show ((0:Int) != 0)=false from rfl]
 dsimp only
 rw [show (m != m)=false by simp,decide_eq_false (show ¬ m<0 by omega),decide_eq_false (show ¬ m > 16000 by omega)]
 dsimp only
 rw [show (lenI [m - m % u] != (1:Int))=false from rfl]
 dsimp only
 rw [f12_down (by omega) (by omega) hb.1 (by omega),wr (x:=2 * m) (by omega) (by omega),f12_down (by omega) (by omega) (by omega) (by omega)]
 dsimp only
 rw [wr (x:=m / u * u) (by omega) (by omega),wr (x:=2 * m / u * u) (by omega) (by omega),wr (x:=m - m / u * u) (by omega) (by omega)]
 rw [show inb (0:Int) [m - m % u].length=true from rfl]
 simp only [cond_true]
 rw [show (List.getD [m - m % u] (0:Int).toNat (0:Int))=m - m % u from rfl,hd2]
 rw [show (m - m % u==m - m % u)=true by simp,show (m % u==m - (m - m % u))=true by rw [beq_iff_eq];omega]
 dsimp only
 unfold eqI
 rw [show (2 * m / u * u==2 * m / u * u)=true by simp]
 rfl
end Go.V
namespace Go.V
open Go.Proofs Go.Proofs.YtkohflnifdpahaaGreat
open Go.ChangeShapes Go.WideShapes Go.ChangeAt Go.RowKit
set_option maxRecDepth 100000 in
theorem lifted5 (os:Os) (started:os.Started) (H:Type) (enc:TypeId×Value->H) :
 ReturnsInHanded {} Tryz.checked os 5 .any (Rows.topUnitsSpec.pre6 enc Tryz.prog Tryz.f5 Rows.topUnitsRow.domain false) (Rows.topUnitsSpec.post enc Tryz.prog Tryz.f5 false true false false):=by
 refine returnsInHanded_of_change (C:=Tryz.checked) own0 started (by kernel_rfl) Tryz.func5
  (ChangeSpec.witness6 (enc:=enc) (C:=Tryz.checked) false ⟨#[],#[.int .i64 0,.int .i64 0,.int .i64 0,.int .i64 0,.int .i64 0],[]⟩ 8 (by kernel_rfl) (by kernel_rfl) (by kernel_rfl) (by kernel_rfl)) ?_
 intro W base args ds gs before hval0 hW hcnd _
 have hval:∀ (j:Nat) t v,Tryz.f5.params.toList[j]? = some t->args.toList[j]? = some v->Value.okWide Tryz.prog W .any base t v:=fun j t v h1 h2=>hval0 j t v (by simpa using h1) (by simpa using h2)
 have hW':=hW
 obtain ⟨p,q,hA0,hV,rfl,hfz,hnd⟩:=hW
 have hA:DataW.TrodAll enc Tryz.prog W 0 (fun _=>true) true Tryz.f5.params.toList args.toList ds p:=hA0
 obtain ⟨rfl,rfl⟩:=trodVars_none hV
 simp only [List.append_nil] at hW'
 have hlt:∀ y∈p,y.block<W.heap.size:=fun y hy=>by simpa using hW'.lt y hy
 have hfit:FitAll Tryz.prog (.prod (.int .i64) (.prod (.int .i64) (.prod (.int .i64) (.prod (.int .i64) (.prod (.int .i64) .unit))))) Tryz.f5.params.toList:=by
  rw [Tryz.params5]
  exact ⟨_,_,rfl,fitI,⟨_,_,rfl,fitI,⟨_,_,rfl,fitI,⟨_,_,rfl,fitI,⟨_,_,rfl,fitI,rfl⟩⟩⟩⟩⟩
 obtain ⟨x,hx⟩:=open_all _ _ args.toList ds p hfit hval hA
 have hA1:=hA
 rw [Tryz.params5] at hA1
 obtain ⟨v0,vs0,d0,ds0,p0,q0,e0,rfl,g0,h0,r0⟩:=trodAll_cons hA1
 obtain ⟨v1,vs1,d1,ds1,p1,q1,e1,rfl,g1,h1,r1⟩:=trodAll_cons r0
 obtain ⟨v2,vs2,d2,ds2,p2,q2,e2,rfl,g2,h2,r2⟩:=trodAll_cons r1
 obtain ⟨v3,vs3,d3,ds3,p3,q3,e3,rfl,g3,h3,r3⟩:=trodAll_cons r2
 obtain ⟨v4,vs4,d4,ds4,p4,q4,e4,rfl,g4,h4,r4⟩:=trodAll_cons r3
 obtain ⟨_,rfl,_⟩:=trodAll_nil r4
 refine (says c5 (x:=x) (f5_true x) trivial hx (fun _ _ h=>h.elim)).mono fun e W' ⟨he,hb⟩=>?_
 subst he
 exact ⟨_,rfl,_,_,_,[],_,[],hW',trodAll_cons_mk (shut_bool Tryz.underlying4 _) trodAll_mk0,
  all_behind (by kernel_rfl) hb _ _ _ _ (by kernel_rfl) hA hlt,rfl,hb.frame _,fun h=>by cases h⟩
theorem over5:Rows.TopUnitsSaid :=
 OpenClaim.holds_of_wide 5 Tryz.f5 rfl rfl rfl rfl rfl rfl rfl ⟨rfl,rfl,rfl,rfl,rfl⟩ rfl rfl rfl rfl rfl (by kernel_rfl) Tryz.func5 (by kernel_rfl)
  (of_decide_eq_true (by kernel_rfl)) (by unfold Func.isWrapper;first|(rw [if_pos (by decide +kernel)];kernel_rfl)|(rw [if_neg (by decide +kernel)];exact ⟨rfl,rfl⟩))
  (fun os started H enc _=>lifted5 os started H enc)
end Go.V
namespace Go.Proofs.YtkohflnifdpahaaGreat
/-- TopUnitsSaid: for every input the law answers true; the input reads as it did. No condition. -/
theorem topUnits_holds : Rows.TopUnitsSaid := Go.V.over5
#print axioms topUnits_holds
end Go.Proofs.YtkohflnifdpahaaGreat
